import Derived.Test.YtgcgpnhokjhghabGreatDoorTA
import Derived.KernelRfl
import Derived.Lib.ItoaNum
set_option linter.unusedVariables false
set_option linter.unusedSimpArgs false
set_option linter.unusedVariables false
set_option linter.unusedSimpArgs false
namespace Go.OM
theorem w64 {n:Int} (h1 : -9223372036854775808 ≤ n) (h2:n ≤ 9223372036854775807):IntKind.wrap .i64 n=n:=wrap64 h1 h2
theorem sP {k n:Nat} (hk:k < n) (hn:n ≤ maxLen):IntKind.wrap .i64 ((k:Int) + 1)=((k + 1:Nat):Int):=by
 have hn':n ≤ 9223372036854775807:=hn;rw [w64 (by omega) (by omega)];omega
@[simp] theorem aAd {α:Type} (l:List α) (k:Nat):aP l (k:Int)=l[k]?:=by simp [aP]
theorem aN {α:Type} {l:List α} {k:Nat} (hk:k < l.length):aP l (k:Int)=some l[k]:=by simp [hk]
theorem aO4 {α:Type} (l:List α):aP l 0=l[0]?:=by simp [aP]
theorem aG9 (x y : ByteArray) : sEq x y = decide (x = y) := by
  unfold sEq;have hxy : x.toList = y.toList ↔ x = y := by
    constructor
    · intro h;have hx : ∀ z : ByteArray, z.toList = z.data.toList := by
        intro z;have loop : ∀ (n i : Nat) (r : List UInt8), z.size - i = n → ByteArray.toList.loop z i r = r.reverse ++ z.data.toList.drop i := by
          intro n;induction n with
          | zero =>
            intro i r hn;unfold ByteArray.toList.loop
            rw [if_neg (by omega), List.drop_eq_nil_of_le (by have : z.data.toList.length = z.size := Array.length_toList
                                                              omega)]
            simp
          | succ n ih =>
            intro i r hn;unfold ByteArray.toList.loop;rw [if_pos (by omega), ih (i + 1) _ (by omega)]
            have hlt : i < z.data.toList.length := by have : z.data.toList.length = z.size := Array.length_toList
                                                      omega
            rw [List.drop_eq_getElem_cons hlt];have hz : i < z.size := by omega
            simp [ByteArray.get!, Array.getElem!_eq_getD, Array.getD, hz]
        unfold ByteArray.toList;rw [loop _ 0 [] rfl]; simp
      rw [hx, hx] at h;cases x; cases y;simp only [ByteArray.mk.injEq];exact Array.toList_inj.1 h
    intro h; rw [h]
  by_cases h : x = y
  · simp [h]
  have : ¬ (x.toList = y.toList) := fun e => h (hxy.1 e);simp [h, this]
theorem aB {k n:Nat} (h:k < n):decide ((k:Int) < (n:Int))=true:=by simpa using h
theorem aMd (n:Nat):decide ((n:Int) < (n:Int))=false:=by simp
theorem aDj {α:Type} (b:Int) (n:Nat) (z:α) (h1:b * n ≤ 140737488355328) (h2:(n:Int) ≤ 140737488355328):mkI b (n:Int) z=some (List.replicate n z):=by
 unfold mkI;rw [if_pos ⟨by omega,h1,h2⟩]
 simp
theorem eC {α β:Type} (x:α) (f:α→β):bF x f=f x:=rfl
end Go.OM
namespace Go.OM
theorem lG {α ρ:Type} {f:α→Option (α ⊕ ρ)} {a:α} {r:ρ} (h:f a=some (.inr r)):aI f a=some r:=by rw [xQ,h];rfl
theorem rP {α ρ:Type} {f:α→Option (α ⊕ ρ)} {a b:α} (h:f a=some (.inl b)):aI f a=aI f b:=by rw [xQ,h];rfl
theorem xP {α ρ:Type} (l:List α) (q:α→Option ρ) (f:Int→Option (Int ⊕ (Unit ⊕ ρ)))
  (hf:∀ (k:Nat) (h:k < l.length),f k=some (match q l[k] with | none=>.inl ((k + 1:Nat):Int) | some r=>.inr (.inr r)))
  (he:f l.length=some (.inr (.inl ()))):aI f 0=some (match l.findSome? q with | some r=>.inr r | none=>.inl ()):=by
 have key:∀ (n k:Nat),n=l.length - k→k ≤ l.length→aI f k=some (match (l.drop k).findSome? q with | some r=>.inr r | none=>.inl ()):=by
  intro n;induction n with
  | zero =>
   intro k hn hk;have:k=l.length:=by omega
   subst this;rw [lG he,List.drop_length];rfl
  | succ n ih =>
   intro k hn hk;have hlt:k < l.length:=by omega
   rw [List.drop_eq_getElem_cons hlt,List.findSome?_cons];cases hq:q l[k] with
   | none =>
    have h1:=hf k hlt;rw [hq] at h1;rw [rP h1];exact ih (k + 1) (by omega) (by omega)
   | some r =>
    have h1:=hf k hlt;rw [hq] at h1;rw [lG h1]
 have:=key l.length 0 (by omega) (by omega)
 simpa using this
theorem aQ1 {α:Type} (l:List α) (p:α→Bool) (b:Bool):l.findSome? (fun x=>if p x=true then none else some b)=if l.all p=true then none else some b:=by
 induction l with
 | nil=>rfl
 | cons x l ih =>
  rw [List.findSome?_cons,List.all_cons];cases hp:p x<;>simp [ih]
theorem aQ0 {α:Type} (l:List α) (p:α→Bool) (b:Bool):l.findSome? (fun x=>if p x=true then some b else none)=if l.any p=true then some b else none:=by
 induction l with
 | nil=>rfl
 | cons x l ih =>
  rw [List.findSome?_cons,List.any_cons];cases hp:p x<;>simp [ih]
theorem rQ {α:Type} (l:List α) (p:α→Bool) (f:Int→Option (Int ⊕ (Unit ⊕ Bool)))
  (hf:∀ (k:Nat) (h:k < l.length),f k=some (if p l[k]=true then .inl ((k + 1:Nat):Int) else .inr (.inr false)))
  (he:f l.length=some (.inr (.inl ()))):aI f 0=some (if l.all p=true then .inl () else .inr false):=by
 rw [xP l (fun x=>if p x=true then none else some false) f (fun k h=>by rw [hf k h];cases p l[k]<;>rfl) he,aQ1]
 cases l.all p<;>rfl
theorem aA3 {α:Type} (l:List α) (p:α→Bool) (f:Int→Option (Int ⊕ (Unit ⊕ Bool)))
  (hf:∀ (k:Nat) (h:k < l.length),f k=some (if p l[k]=true then .inr (.inr true) else .inl ((k + 1:Nat):Int)))
  (he:f l.length=some (.inr (.inl ()))):aI f 0=some (if l.any p=true then .inr true else .inl ()):=by
 rw [xP l (fun x=>if p x=true then some true else none) f (fun k h=>by rw [hf k h];cases p l[k]<;>rfl) he,aQ0]
 cases l.any p<;>rfl
def aEt {α σ ρ:Type} (g:σ→α→σ ⊕ ρ) (fin:σ→ρ):List α→σ→ρ
 | [],s=>fin s
 | x :: l,s=>match g s x with
  | .inl s'=>aEt g fin l s'
  | .inr r=>r
theorem cO {α σ τ ρ:Type} (l:List α) (mk:σ→Nat→τ) (I:Nat→σ→Prop) (g:σ→α→σ ⊕ ρ) (fin:σ→ρ) (f:τ→Option (τ ⊕ ρ))
  (hf:∀ (s:σ) (k:Nat) (h:k < l.length),I k s→(∃ s',g s l[k] = .inl s'∧f (mk s k)=some (.inl (mk s' (k + 1)))∧I (k + 1) s') ∨ ∃ r,g s l[k] = .inr r∧f (mk s k)=some (.inr r))
  (he:∀ s,I l.length s→f (mk s l.length)=some (.inr (fin s))) (s:σ) (h0:I 0 s):aI f (mk s 0)=some (aEt g fin l s):=by
 have key:∀ (n k:Nat) (s:σ),n=l.length - k→k ≤ l.length→I k s→aI f (mk s k)=some (aEt g fin (l.drop k) s):=by
  intro n;induction n with
  | zero =>
   intro k s hn hk hI;have:k=l.length:=by omega
   subst this;rw [lG (he s hI),List.drop_length];rfl
  | succ n ih =>
   intro k s hn hk hI;have hlt:k < l.length:=by omega
   rw [List.drop_eq_getElem_cons hlt];rcases hf s k hlt hI with ⟨s',h1,h2,h3⟩ | ⟨r,h1,h2⟩
   ·rw [rP h2,ih (k + 1) s' (by omega) (by omega) h3]
    simp only [aEt,h1]
   rw [lG h2];simp only [aEt,h1]
 have:=key l.length 0 s (by omega) (by omega) h0
 simpa using this
end Go.OM
set_option maxHeartbeats 1000000
namespace Go.OM
def GNode.le (n:Nat) (a:GNode):Prop:=(a.Name.size ≤ n)∧(a.Kids.length ≤ n)
def GParam.le (n:Nat) (a:GParam):Prop:=(a.Name.size ≤ n)
def GFn.le (n:Nat) (a:GFn):Prop:=(a.Name.size ≤ n)∧(a.Params.length ≤ n∧∀ x ∈ a.Params,GParam.le n x)
def GProgram.le (n:Nat) (a:GProgram):Prop:=(a.Nodes.length ≤ n∧∀ x ∈ a.Nodes,GNode.le n x)∧(a.Fns.length ≤ n∧∀ x ∈ a.Fns,GFn.le n x)
def Gl01Cur.le (n:Nat) (a:Gl01Cur):Prop:=(a.b.length ≤ n)
def Gpacker.le (n:Nat) (a:Gpacker):Prop:=(a.from_.length ≤ n∧∀ x ∈ a.from_,GNode.le n x)∧(a.to_.length ≤ n∧∀ x ∈ a.to_,GNode.le n x)
def Gl04Pack.le (n:Nat) (a:Gl04Pack):Prop:=(a.from_.length ≤ n∧∀ x ∈ a.from_,GNode.le n x)∧(a.to_.length ≤ n∧∀ x ∈ a.to_,GNode.le n x)
def GVar.le (n:Nat) (a:GVar):Prop:=(a.Name.size ≤ n)
def Gl07Seen.le (n:Nat) (a:Gl07Seen):Prop:=(GProgram.le n a.p)∧(a.there.length ≤ n∧∀ x ∈ a.there,x.size ≤ n)
def GSign.le (n:Nat) (a:GSign):Prop:=(a.Text.size ≤ n)
def Gl05Read.le (n:Nat) (a:Gl05Read):Prop:=(a.list.length ≤ n∧∀ x ∈ a.list,GSign.le n x)∧(a.nodes.length ≤ n∧∀ x ∈ a.nodes,GNode.le n x)
def Gl05Made.le (n:Nat) (a:Gl05Made):Prop:=(a.ints.length ≤ n∧∀ x ∈ a.ints,x.size ≤ n)∧(a.boxes.length ≤ n∧∀ x ∈ a.boxes,x.size ≤ n)∧(a.text.size ≤ n)
end Go.OM
namespace Go.OM
theorem aPx {α:Type} {c:Prop} [Decidable c] (a b:α):(if c then some a else some b)=some (if c then a else b):=by split<;>rfl
def inB (x a b:Int):Bool:=decide (a ≤ x) && decide (x ≤ b)
theorem inB_iff {x a b:Int}:inB x a b=true ↔ a ≤ x∧x ≤ b:=by simp [inB]
theorem inB_false {x a b:Int}:inB x a b=false ↔ ¬ (a ≤ x∧x ≤ b):=by rw [← inB_iff];simp
theorem eE (x a b:Int):eQ x a b=some (inB x a b):=by
 unfold eQ inB;by_cases h:a ≤ x<;>simp [h]
theorem fA (x a b:Int):cF x a b=some (inB x a b):=by
 unfold cF inB;by_cases h:a ≤ x<;>simp [h]
def bI (z:ByteArray):List Int:=z.data.toList.map fun x=>((x.toNat:Nat):Int)
theorem uM (z:ByteArray):(bI z).length=z.size:=by rw [bI,List.length_map];exact Array.length_toList
theorem aNh {z:ByteArray} {k:Nat} (h:k < (bI z).length):sAt z k=some (bI z)[k]:=by
 have h1:k < z.size:=by rw [← uM];exact h
 unfold sAt;rw [if_pos ⟨by omega,by omega⟩]
 simp only [sC,Int.toNat_natCast,bI];have e:z.data.toList.length=z.size:=Array.length_toList;have h2:k < z.data.toList.length:=by omega
 rw [List.getD_eq_getElem?_getD,List.getElem?_eq_getElem h2];simp only [Option.getD_some,List.getElem_map]
def nG (b:Int):Bool:=inB b 97 122
def oO (b:Int):Bool:=inB b 48 57
theorem vI (b:Int):lZ b=some (nG b):=by
 unfold lZ nG inB;by_cases h:97 ≤ b<;>simp [h]
theorem aCb (b:Int):oI b=some (oO b):=by
 unfold oI oO inB;by_cases h:48 ≤ b<;>simp [h]
theorem lS (b:Int):dS b=some (nG b):=by
 unfold dS nG inB;by_cases h:97 ≤ b<;>simp [h]
theorem lU (b:Int):eT b=some (oO b):=by
 unfold eT oO inB;by_cases h:48 ≤ b<;>simp [h]
def keys:List ByteArray:=[⟨#[102,110]⟩,⟨#[108,101,116]⟩,⟨#[105,102]⟩,⟨#[101,108,115,101]⟩,⟨#[119,104,105,108,101]⟩,⟨#[112,114,105,110,116]⟩,⟨#[100,111]⟩,⟨#[110,101,119]⟩,⟨#[99,108,111,110,101]⟩,⟨#[109,117,116]⟩,⟨#[105,110,112,117,116]⟩,⟨#[105,110,116]⟩,⟨#[98,111,120]⟩,⟨#[114,101,116]⟩]
def aRd (s:ByteArray):Bool:=keys.any fun w=>sEq w s
theorem aMg:strings_Split (⟨#[102,110,32,108,101,116,32,105,102,32,101,108,115,101,32,119,104,105,108,101,32,112,114,105,110,116,32,100,111,32,110,101,119,32,99,108,111,110,101,32,109,117,116,32,105,110,112,117,116,32,105,110,116,32,98,111,120,32,114,101,116]⟩:ByteArray) (⟨#[32]⟩:ByteArray)=some keys:=by kernel_rfl
theorem aLf (l:List ByteArray) (s:ByteArray) (hl:l.length ≤ 1048576) (f:Int→Option (Int ⊕ (Unit ⊕ Bool)))
  (hf:∀ i,f i=if (decide (i < (l.length:Int)))=true then (aP l i).bind fun e=>if (sEq e s)=true then some (Sum.inr (Sum.inr true)) else some (Sum.inl (IntKind.wrap .i64 (i + 1))) else some (Sum.inr (Sum.inl ()))) :
  aI f 0=some (if (l.any fun w=>sEq w s)=true then .inr true else .inl ()):=by
 refine aA3 l (fun w=>sEq w s) f (fun k hk=>?_) (by rw [hf];simp)
 rw [hf];simp only [aB hk,if_true,aN hk,Option.bind_some,sP hk (show l.length ≤ maxLen by show _ ≤ 9223372036854775807;omega),aPx]
theorem aD3 (s:ByteArray):kX s=some (aRd s):=by
 unfold kX pW;simp only [Option.bind_some];have h:=aLf keys s (by decide) (iS s keys) (fun i=>by simp only [iS])
 unfold keys at h;rw [h];unfold aRd keys;simp only [Option.bind_some];split<;>rename_i h2<;>split at h2<;>simp_all
theorem aDw (s:ByteArray):qK s=some (aRd s):=by
 unfold qK xS;rw [aMg];simp only [Option.bind_some];rw [aLf keys s (by decide) (rA s keys) (fun i=>by simp only [rA])]
 unfold aRd;simp only [Option.bind_some];cases keys.any fun w=>sEq w s<;>rfl
def aIu (b:Int):Bool:=nG b || oO b
def xY (s:ByteArray):Bool:=inB s.size 1 8 && (nG ((bI s).getD 0 0) && ((bI s).all aIu && !aRd s))
theorem aHz (s:ByteArray) (hs:s.size ≤ 8) (f:Int→Option (Int ⊕ (Unit ⊕ Bool)))
  (hf:∀ (k:Nat) (h:k < (bI s).length),f k=some (if aIu (bI s)[k]=true then .inl (IntKind.wrap .i64 ((k:Int) + 1)) else .inr (.inr false)))
  (he:f s.size=some (.inr (.inl ()))):aI f 0=some (if (bI s).all aIu=true then .inl () else .inr false):=by
 refine rQ (bI s) aIu f (fun k hk=>?_) (by rw [uM];exact he)
 rw [hf k hk,sP hk (show (bI s).length ≤ maxLen by rw [uM];show _ ≤ 9223372036854775807;omega)]
theorem aOp {s:ByteArray} (h:1 ≤ s.size):sAt s 0=some ((bI s).getD 0 0):=by
 have h1:0 < (bI s).length:=by rw [uM];omega
 have:=aNh h1;rw [show ((0:Nat):Int)=0 from rfl] at this;rw [this,List.getD_eq_getElem?_getD,List.getElem?_eq_getElem h1];rfl
theorem tH (s:ByteArray):nI s=some (xY s):=by
 unfold nI xY;simp only [eE,Option.bind_some];by_cases hi:inB s.size 1 8=true
 ·have hi':=inB_iff.1 hi;rw [aOp (by omega),aHz s (by omega) (mZ s) (fun k hk=>?_) (by simp [mZ])]
  ·simp only [hi,vI,aDw,Option.bind_some,Bool.not_true,Bool.false_eq_true,if_false,Bool.true_and];cases nG ((bI s).getD 0 0)<;>cases (bI s).all aIu<;>cases aRd s<;>rfl
  have hk2:k < s.size:=by rw [← uM];exact hk
  simp only [mZ,aB hk2,if_true,aNh hk,vI,aCb,Option.bind_some];rw [show aIu (bI s)[k]=(nG (bI s)[k] || oO (bI s)[k]) from rfl];cases nG (bI s)[k]<;>cases oO (bI s)[k]<;>rfl
 simp [Bool.eq_false_iff.2 hi]
theorem pN (s:ByteArray):iK s=some (xY s):=by
 unfold iK xY;simp only [fA,Option.bind_some];by_cases hi:inB s.size 1 8=true
 ·have hi':=inB_iff.1 hi;rw [aOp (by omega),aHz s (by omega) (jY s) (fun k hk=>?_) (by simp [jY])]
  ·simp only [hi,lS,aD3,Option.bind_some,Bool.not_true,Bool.false_eq_true,if_false,Bool.true_and];cases nG ((bI s).getD 0 0)<;>cases (bI s).all aIu<;>cases aRd s<;>rfl
  have hk2:k < s.size:=by rw [← uM];exact hk
  simp only [jY,aB hk2,if_true,aNh hk,lS,lU,Option.bind_some];rw [show aIu (bI s)[k]=(nG (bI s)[k] || oO (bI s)[k]) from rfl];cases nG (bI s)[k]<;>cases oO (bI s)[k]<;>rfl
 simp [Bool.eq_false_iff.2 hi]
end Go.OM
namespace Go.OM
def Ends {α:Type} (x:Option α) (P:α→Prop):Prop:=∃ r,x=some r∧P r
theorem Ends.one {α:Type} {r:α} {P:α→Prop} (h:P r):Ends (some r) P:=⟨r,rfl,h⟩
theorem Ends.bind {α β:Type} {x:Option α} {P:α→Prop} {f:α→Option β} {Q:β→Prop} (h:Ends x P) (k:∀ r,P r→Ends (f r) Q):Ends (x.bind f) Q:=by
 obtain ⟨r,rfl,h⟩:=h;exact k r h
theorem Ends.ite {α:Type} {c:Prop} [Decidable c] {a b:Option α} {Q:α→Prop} (h1:c→Ends a Q) (h2:¬ c→Ends b Q):Ends (if c then a else b) Q:=by
 by_cases h:c
 ·rw [if_pos h];exact h1 h
 rw [if_neg h];exact h2 h
theorem Ends.mono {α:Type} {x:Option α} {P Q:α→Prop} (h:Ends x P) (hk:∀ r,P r→Q r):Ends x Q:=by
 obtain ⟨r,h1,h2⟩:=h;exact ⟨r,h1,hk r h2⟩
theorem Ends.cat {α:Type} {x y:ByteArray} {f:ByteArray→Option α} {Q:α→Prop} {n m:Nat} (hx:x.size ≤ n) (hy:y.size ≤ m) (h:n + m ≤ 1000000000000) (k:∀ t:ByteArray,t.size ≤ n + m→Ends (f t) Q):Ends ((bN x y).bind f) Q:=by
 unfold bN;rw [if_pos (by omega)]
 exact k _ (by rw [ByteArray.size_append];omega)
theorem Ends.app {α β:Type} {n:Nat} {a b:List α} {f:List α→Option β} {Q:β→Prop} (ha:a.length ≤ 10000000) (hb:b.length ≤ 10000000) (hn:n ≤ 1000) (k:Ends (f (a ++ b)) Q):Ends ((bO n a b).bind f) Q:=by
 have h2:(a.length + b.length) * n ≤ 20000000 * 1000:=Nat.mul_le_mul (by omega) hn
 unfold bO;rw [if_pos ⟨by omega,by omega⟩]
 exact k
theorem Ends.get {α β:Type} {l:List α} {i:Int} {f:α→Option β} {Q:β→Prop} (h0:0 ≤ i) (h1:i < l.length) (k:∀ x ∈ l,Ends (f x) Q):Ends ((aP l i).bind f) Q:=by
 obtain ⟨j,rfl⟩:=Int.eq_ofNat_of_zero_le h0;have hj:j < l.length:=by exact_mod_cast h1
 rw [aAd,List.getElem?_eq_getElem hj];exact k _ (List.getElem_mem hj)
theorem Ends.loop {α ρ:Type} {f:α→Option (α ⊕ ρ)} (I:α→Prop) (μ:α→Nat) (R:ρ→Prop) (h:∀ a,I a→Ends (f a) (fun s=>(∃ b,s = .inl b∧I b∧μ b < μ a) ∨ ∃ r,s = .inr r∧R r)) {a:α} (ha:I a):Ends (aI f a) R:=by
 obtain ⟨r,h1,h2⟩:=dY I μ R (fun a ha=>by
  obtain ⟨s,h1,h2 | h2⟩:=h a ha
  ·obtain ⟨b,rfl,h3,h4⟩:=h2;exact .inl ⟨b,h1,h3,h4⟩
  obtain ⟨r,rfl,h3⟩:=h2;exact .inr ⟨r,h1,h3⟩) a ha
 exact ⟨r,h1,h2⟩
theorem aOs (x:Int):0 ≤ bits .and .i64 x 255∧bits .and .i64 x 255 ≤ 255:=by
 have h1:(BitVec.ofInt 64 x &&& BitVec.ofInt 64 255).toNat ≤ 255:=by
  rw [BitVec.toNat_and];exact Nat.le_trans Nat.and_le_right (by decide)
 have h2:bits .and .i64 x 255=IntKind.wrap .i64 ((BitVec.ofInt 64 x &&& BitVec.ofInt 64 255).toNat:Int):=rfl;rw [h2,w64 (by omega) (by omega)]
 omega
structure Cur (c:Gl01Cur):Prop where
 i0:0 ≤ c.i
 len:c.b.length ≤ 9223372036854775807
theorem aJ2 {c:Gl01Cur} (hc:Cur c):Ends (gW c) (fun r=>Cur r.2∧0 ≤ r.1∧r.1 ≤ 255):=by
 unfold gW;refine Ends.ite (fun h=>?_) fun h=>Ends.one ⟨⟨hc.i0,hc.len⟩,aOs _⟩;simp only [decide_eq_true_eq] at h;refine Ends.get hc.i0 h fun e _=>Ends.one ⟨⟨?_,hc.len⟩,aOs _⟩;have h1:=hc.i0;have h2:=hc.len;simp only;rw [w64 (by omega) (by omega)]
 omega
theorem aDc {x n:Int} (hx:0 ≤ x) (hn:0 < n):Ends (aHq x n) (fun r=>0 ≤ r∧r < n):=by
 unfold aHq;rw [if_neg (by omega)]
 exact Ends.one ⟨Int.tmod_nonneg _ hx,Int.tmod_lt_of_pos _ hn⟩
theorem aK4 {c:Gl01Cur} (hc:Cur c) (n:Int):Ends (bX c n) (fun r=>Cur r.2∧0 ≤ r.1∧(0 < n→r.1 < n)):=by
 unfold bX;refine Ends.ite (fun h=>?_) fun h=>?_
 ·simp only [decide_eq_true_eq] at h;exact Ends.one ⟨hc,Int.le_refl _,fun h2=>by omega⟩
 simp only [decide_eq_true_eq] at h;refine Ends.ite (fun h2=>?_) fun h2=>?_
 ·refine Ends.bind (aJ2 hc) ?_;rintro ⟨r,q⟩ ⟨h3,h4,h5⟩;refine Ends.bind (aDc h4 (by omega)) fun y hy=>Ends.one ⟨h3,hy.1,fun _=>hy.2⟩
 refine Ends.bind (aJ2 hc) ?_;rintro ⟨r1,q1⟩ ⟨h3,h4,h5⟩;refine Ends.bind (aJ2 h3) ?_;rintro ⟨r2,q2⟩ ⟨h6,h7,h8⟩;refine Ends.bind (aJ2 h6) ?_;rintro ⟨r3,q3⟩ ⟨h9,h10,h11⟩;refine Ends.bind (aJ2 h9) ?_;rintro ⟨r4,q4⟩ ⟨h12,h13,h14⟩;simp only at *;refine Ends.bind (aDc ?_ (by omega)) fun y hy=>Ends.one ⟨h12,hy.1,fun _=>hy.2⟩
 rw [w64 (n:=r1 * 16777216) (by omega) (by omega),w64 (n:=r2 * 65536) (by omega) (by omega),w64 (n:=r3 * 256) (by omega) (by omega),w64 (n:=r1 * 16777216 + r2 * 65536) (by omega) (by omega),w64 (n:=r1 * 16777216 + r2 * 65536 + r3 * 256) (by omega) (by omega),w64 (by omega) (by omega)]
 omega
theorem E_Once {c:Gl01Cur} (hc:Cur c) (n:Int):Ends (gV c n) (fun r=>Cur r.2):=by
 unfold gV;refine Ends.bind (aK4 hc n) ?_;rintro ⟨r,q⟩ ⟨h,_⟩;exact Ends.one h
theorem E_Pick {c:Gl01Cur} (hc:Cur c) {l:List ByteArray} (hl:l ≠ []):Ends (kR c l) (fun r=>Cur r.2∧r.1 ∈ l):=by
 unfold kR;refine Ends.bind (aK4 hc l.length) ?_;rintro ⟨r,q⟩ ⟨h,h1,h2⟩;have:0 < l.length:=List.length_pos_iff.2 hl;exact Ends.get h1 (h2 (by omega)) fun x hx=>Ends.one ⟨h,hx⟩
theorem aS0 {code:List Int} (h:code.length ≤ 9223372036854775807):Ends (nD code) Cur:=by
 unfold nD;refine Ends.bind (P:=fun _=>True) ?_ fun r _=>Ends.one ⟨Int.le_refl _,h⟩;refine Ends.loop (fun s:Int × Int=>0 ≤ s.2) (fun s=>4000 - s.2.toNat) (fun _=>True) ?_ (Int.le_refl _);rintro ⟨x,i⟩ hi;simp only at hi;unfold pL;refine Ends.bind (P:=fun v=>v=true→i < code.length∧i < 4000) ?_ fun v hv=>?_
 ·refine Ends.ite (fun h1=>Ends.one fun h2=>?_) fun h1=>Ends.one fun h2=>(by cases h2)
  simp only [decide_eq_true_eq] at h1 h2;exact ⟨h1,h2⟩
 refine Ends.ite (fun h1=>?_) fun h1=>Ends.one (.inr ⟨_,rfl,trivial⟩);obtain ⟨h2,h3⟩:=hv h1;refine Ends.get hi h2 fun e _=>Ends.one (.inl ⟨_,rfl,?_,?_⟩)
 ·simp only;rw [w64 (by omega) (by omega)];omega
 simp only;rw [w64 (by omega) (by omega)];omega
end Go.OM
namespace Go.OM
theorem gH {n:Nat} (h:n ≤ 1048576):IntKind.wrap .i64 ((n:Int) - 1)=(n:Int) - 1:=w64 (by omega) (by omega)
end Go.OM
namespace Go.OM
theorem dQ {α σ ρ:Type} (h:σ→α→σ) (fin:σ→ρ):∀ (l:List α) (s:σ),aEt (fun s x=>(.inl (h s x):σ ⊕ ρ)) fin l s=fin (l.foldl h s)
 | [],s=>rfl
 | x :: l,s=>by simp only [aEt,List.foldl_cons];exact dQ h fin l _
theorem app1 {n:Nat} {s:List Int} {e:Int} (h:s.length ≤ 1048576) (hn:n ≤ 64):bO n s [e]=some (s ++ [e]):=by
 unfold bO;have h1:(s.length + [e].length) * n ≤ (s.length + [e].length) * 64:=Nat.mul_le_mul_left _ hn;rw [if_pos ⟨by simp only [List.length_cons,List.length_nil] at h1 ⊢;omega,by simp only [List.length_cons,List.length_nil];omega⟩]
def aAs (out:List Int) (n:Int):List Int:=if out.contains n=true then out else out ++ [n]
theorem aEg (out:List Int) (n:Int) (h:out.length ≤ 1048576):rH out n=some (aAs out n):=by
 unfold rH aAs;rw [xP out (fun e=>if (e == n)=true then some out else none) (mG out n) (fun k hk=>by
  simp only [mG,aB hk,if_true,aN hk,Option.bind_some,sP hk (show out.length ≤ maxLen by show _ ≤ 9223372036854775807;omega)]
  cases out[k] == n<;>rfl) (by simp [mG])]
 have key:∀ l:List Int,l.findSome? (fun e=>if (e == n)=true then some out else none)=if l.contains n=true then some out else none:=by
  intro l;induction l with
  | nil=>rfl
  | cons x l ih =>
   rw [List.findSome?_cons,List.contains_cons];by_cases hx:x=n
   ·simp [hx]
   have h1:(x == n)=false:=by simpa using hx
   have h2:(n == x)=false:=by simpa using fun e=>hx e.symm
   rw [h1,h2,Bool.false_or,← ih]
   rfl
 rw [key];cases out.contains n
 ·simp only [Bool.false_eq_true,if_false,Option.bind_some,app1 (n:=8) h (by omega)]
 rfl
theorem mem_addL {out:List Int} {n m:Int}:m ∈ aAs out n ↔ m ∈ out ∨ m=n:=by
 unfold aAs;by_cases h:out.contains n=true
 ·rw [if_pos h];have:=List.contains_iff_mem.1 h;constructor
  ·exact .inl
  rintro (h | rfl)
  ·exact h
  exact this
 rw [if_neg h];simp
theorem jZ (m:Int):∀ (l s:List Int),m ∈ l.foldl aAs s ↔ m ∈ s ∨ m ∈ l
 | [],s=>by simp
 | x :: l,s=>by rw [List.foldl_cons,jZ m l,mem_addL,List.mem_cons,or_assoc]
end Go.OM
namespace Go.OM
inductive Reach (next:Nat→List Int) (root:Nat):Nat→Prop
 | base:Reach next root root
 | step {i:Nat} {m:Int}:Reach next root i→m ∈ next i→Reach next root m.toNat
theorem Reach.congr {next next':Nat→List Int} {root:Nat} (h:∀ i m,m ∈ next i ↔ m ∈ next' i) {n:Nat}:Reach next root n ↔ Reach next' root n:=by
 constructor
 ·intro r;induction r with
  | base=>exact .base
  | step _ hm ih=>exact .step ih ((h _ _).1 hm)
 intro r;induction r with
 | base=>exact .base
 | step _ hm ih=>exact .step ih ((h _ _).2 hm)
def vis (s:List Bool × List Int) (m:Int):List Bool × List Int:=if s.1[m.toNat]? = some true then s else (s.1.set m.toNat true,s.2 ++ [m])
theorem aE7 {l:List Bool} {k:Nat} (hk:k < l.length) (h:l[k]? ≠ some true):(l.set k true).count true=l.count true + 1:=by
 induction l generalizing k with
 | nil=>simp at hk
 | cons x l ih =>
  cases k with
  | zero =>
   simp only [List.getElem?_cons_zero,ne_eq,Option.some.injEq] at h;have:x=false:=by cases x<;>simp_all
   subst this;simp [List.set_cons_zero]
  | succ k =>
   simp only [List.length_cons] at hk;simp only [List.getElem?_cons_succ] at h;rw [List.set_cons_succ,List.count_cons,List.count_cons,ih (by omega) h]
   omega
theorem aJ4 (s:List Bool × List Int) (m:Int):(vis s m).1.length=s.1.length:=by unfold vis;split<;>simp
theorem aH6 {s:List Bool × List Int} {m:Int} (h:m.toNat < s.1.length):(vis s m).2.length + s.1.count true=s.2.length + (vis s m).1.count true:=by
 unfold vis;split
 ·rfl
 rename_i hn;simp only [List.length_append,List.length_cons,List.length_nil];rw [aE7 h hn];omega
theorem aP1 {s:List Bool × List Int} {m:Int} {n:Nat} (h:s.1[n]? = some true):(vis s m).1[n]? = some true:=by
 unfold vis;split
 ·exact h
 simp only [List.getElem?_set];split
 ·rename_i e;subst e;have:=(List.getElem?_eq_some_iff.1 h).1;simp [this]
 exact h
theorem aP0 {s:List Bool × List Int} {m:Int} (h:m.toNat < s.1.length):(vis s m).1[m.toNat]? = some true:=by
 unfold vis;split
 ·rename_i e;exact e
 simp [h]
theorem aQz {s:List Bool × List Int} {m:Int} {n:Nat} (h:(vis s m).1[n]? = some true):s.1[n]? = some true ∨ (n=m.toNat∧m ∈ (vis s m).2):=by
 unfold vis at h ⊢;split at h
 ·exact .inl h
 rename_i hn;rw [if_neg hn];simp only [List.getElem?_set] at h;split at h
 ·rename_i e;exact .inr ⟨e.symm,by simp⟩
 exact .inl h
theorem aOz {s:List Bool × List Int} {m x:Int} (h:x ∈ (vis s m).2):x ∈ s.2 ∨ x=m:=by
 unfold vis at h;split at h
 ·exact .inl h
 simpa using h
theorem aQy {s:List Bool × List Int} {m x:Int} (h:x ∈ s.2):x ∈ (vis s m).2:=by
 unfold vis;split
 ·exact h
 simp [h]
structure VisL (W:Nat) (s s':List Bool × List Int) (nl:List Int):Prop where
 len:s'.1.length=s.1.length
 count:s'.2.length + s.1.count true=s.2.length + s'.1.count true
 cle:s.1.count true ≤ s'.1.count true
 mono:∀ n:Nat,s.1[n]? = some true→s'.1[n]? = some true
 all:∀ m ∈ nl,s'.1[m.toNat]? = some true
 new:∀ n:Nat,s'.1[n]? = some true→s.1[n]? = some true ∨ ∃ m ∈ nl,n=m.toNat∧m ∈ s'.2
 todo:∀ x ∈ s'.2,x ∈ s.2 ∨ x ∈ nl
 sub:∀ x ∈ s.2,x ∈ s'.2
theorem visL:∀ (nl:List Int) (s:List Bool × List Int),(∀ m ∈ nl,m.toNat < s.1.length)→VisL 0 s (nl.foldl vis s) nl
 | [],s,_=>⟨rfl,rfl,Nat.le_refl _,fun _ h=>h,by simp,fun _ h=>.inl h,fun _ h=>.inl h,fun _ h=>h⟩
 | m :: nl,s,h=>by
  have h1:m.toNat < s.1.length:=h m (by simp)
  have ih:=visL nl (vis s m) (fun x hx=>by rw [aJ4];exact h x (by simp [hx]))
  have hc:=aH6 h1;have hcl:s.1.count true ≤ (vis s m).1.count true:=by
   unfold vis;split
   ·exact Nat.le_refl _
   rename_i hn;rw [aE7 h1 hn];omega
  rw [List.foldl_cons];refine ⟨ih.len.trans (aJ4 s m),?_,Nat.le_trans hcl ih.cle,fun n hn=>ih.mono n (aP1 hn),fun x hx=>?_,fun n hn=>?_,fun x hx=>?_,fun x hx=>ih.sub x (aQy hx)⟩
  ·have:=ih.count;omega
  ·rcases List.mem_cons.1 hx with rfl | hx
   ·exact ih.mono _ (aP0 h1)
   exact ih.all x hx
  ·rcases ih.new n hn with h2 | ⟨x,h2,h3,h4⟩
   ·rcases aQz h2 with h3 | ⟨h3,h4⟩
    ·exact .inl h3
    exact .inr ⟨m,by simp,h3,ih.sub _ h4⟩
   exact .inr ⟨x,by simp [h2],h3,h4⟩
  rcases ih.todo x hx with h2 | h2
  ·rcases aOz h2 with h3 | h3
   ·exact .inl h3
   exact .inr (by simp [h3])
  exact .inr (by simp [h2])
theorem aR1 (a:List Int) (h:List Bool) (b:List Int) (m:Int):vis (h,a ++ b) m=((vis (h,b) m).1,a ++ (vis (h,b) m).2):=by
 unfold vis;simp only;split<;>simp
theorem aAe:∀ (nl:List Int) (a:List Int) (h:List Bool) (b:List Int),nl.foldl vis (h,a ++ b)=((nl.foldl vis (h,b)).1,a ++ (nl.foldl vis (h,b)).2)
 | [],_,_,_=>rfl
 | m :: nl,a,h,b=>by
  rw [List.foldl_cons,List.foldl_cons,aR1,aAe nl a]
structure WInv (W root:Nat) (next:Nat→List Int) (s:List Bool × List Int):Prop where
 len:s.1.length=W
 cnt:s.2.length ≤ s.1.count true
 bnd:∀ x ∈ s.2,0 ≤ x∧x < W
 rt:s.1[root]? = some true
 sound:∀ n:Nat,s.1[n]? = some true→Reach next root n
 closed:∀ n:Nat,s.1[n]? = some true→(n:Int) ∈ s.2 ∨ ∀ m ∈ next n,s.1[m.toNat]? = some true
 tdo:∀ x ∈ s.2,s.1[x.toNat]? = some true
theorem WInv.go {W root:Nat} {next:Nat→List Int} {s:List Bool × List Int} (H:WInv W root next s) (hn:∀ (i:Nat),i < W→∀ m ∈ next i,0 ≤ m∧m < W) {e:Int} {rest nl:List Int} (he:e ∈ s.2)
  (h1:∀ x ∈ s.2,x=e ∨ x ∈ rest) (h2:∀ x ∈ rest,x ∈ s.2) (h3:rest.length + 1=s.2.length) (h4:∀ m,m ∈ nl ↔ m ∈ next e.toNat) :
  WInv W root next (nl.foldl vis (s.1,rest))∧2 * (W - (nl.foldl vis (s.1,rest)).1.count true) + (nl.foldl vis (s.1,rest)).2.length < 2 * (W - s.1.count true) + s.2.length:=by
 have heb:=H.bnd e he;have hb:∀ m ∈ nl,0 ≤ m∧m < W:=fun m hm=>hn e.toNat (by omega) m ((h4 m).1 hm)
 have V:=visL nl (s.1,rest) (fun m hm=>by have:=hb m hm;have:=H.len;simp only;omega)
 have c1:=V.count;have c2:=V.cle;have c3:=H.cnt;have c4:(nl.foldl vis (s.1,rest)).1.count true ≤ W:=by
  have:=List.count_le_length (a:=true) (l:=(nl.foldl vis (s.1,rest)).1);have:=V.len;have:=H.len;simp only at *;omega
 simp only at c1 c2;refine ⟨⟨V.len.trans H.len,by omega,fun x hx=>?_,V.mono _ H.rt,fun n hn'=>?_,fun n hn'=>?_,fun x hx=>?_⟩,by omega⟩
 ·rcases V.todo x hx with h | h
  ·exact H.bnd x (h2 x h)
  exact hb x h
 ·rcases V.new n hn' with h | ⟨m,h,rfl,_⟩
  ·exact H.sound n h
  exact .step (H.sound _ (H.tdo e he)) ((h4 m).1 h)
 ·rcases V.new n hn' with h | ⟨m,h,h5,h6⟩
  ·rcases H.closed n h with h5 | h5
   ·rcases h1 _ h5 with h6 | h6
    ·right;intro m hm;have:e.toNat=n:=by omega
     exact V.all m ((h4 m).2 (this ▸ hm))
    exact .inl (V.sub _ h6)
   exact .inr fun m hm=>V.mono _ (h5 m hm)
  left;have:=hb m h;have e1:(n:Int)=m:=by omega
  rw [e1];exact h6
 rcases V.todo x hx with h | h
 ·exact V.mono _ (H.tdo x (h2 x h))
 exact V.all x h
open Classical in
noncomputable def zV (W root:Nat) (next:Nat→List Int):List Bool:=(List.range W).map fun n=>decide (Reach next root n)
theorem WInv.done {W root:Nat} {next:Nat→List Int} {s:List Bool × List Int} (H:WInv W root next s) (hn:∀ (i:Nat),i < W→∀ m ∈ next i,0 ≤ m∧m < W) (h:s.2=[]):s.1=zV W root next:=by
 have hcl:∀ n:Nat,Reach next root n→s.1[n]? = some true:=by
  intro n r;induction r with
  | base=>exact H.rt
  | step _ hm ih =>
   rcases H.closed _ ih with h5 | h5
   ·rw [h] at h5;cases h5
   exact h5 _ hm
 apply List.ext_getElem?;intro n;unfold zV;by_cases hlt:n < W
 ·have hlt2:n < s.1.length:=by rw [H.len];exact hlt
  rw [List.getElem?_eq_getElem hlt2,List.getElem?_map,List.getElem?_range hlt];simp only [Option.map_some,Option.some.injEq];by_cases r:Reach next root n
  ·have:=hcl n r;rw [List.getElem?_eq_getElem hlt2] at this;simp only [Option.some.injEq] at this;simp [this,r]
  have:s.1[n] ≠ true:=fun e=>r (H.sound n (by rw [List.getElem?_eq_getElem hlt2,e]))
  simp [r,this]
 rw [List.getElem?_eq_none (by rw [H.len];omega),List.getElem?_eq_none (by simp;omega)]
theorem aQx {τ ρ:Type} (f:τ→Option (τ ⊕ ρ)) (abs:τ→List Bool × List Int) (Ok:τ→Prop) (W root:Nat) (next:Nat→List Int) (fin:τ→ρ) (hn:∀ (i:Nat),i < W→∀ m ∈ next i,0 ≤ m∧m < W)
  (hstep:∀ t,Ok t→WInv W root next (abs t)→(abs t).2 ≠ []→∃ (t':τ) (e:Int) (rest nl:List Int),f t=some (.inl t')∧Ok t'∧e ∈ (abs t).2∧(∀ x ∈ (abs t).2,x=e ∨ x ∈ rest)∧(∀ x ∈ rest,x ∈ (abs t).2)∧rest.length + 1=(abs t).2.length∧(∀ m,m ∈ nl ↔ m ∈ next e.toNat)∧abs t'=nl.foldl vis ((abs t).1,rest))
  (hend:∀ t,Ok t→(abs t).2=[]→f t=some (.inr (fin t))) (t:τ) (h0:Ok t) (h1:WInv W root next (abs t)):∃ t',aI f t=some (fin t')∧Ok t'∧(abs t').1=zV W root next:=by
 obtain ⟨r,g1,t',g2,g3,g4⟩:=dY (f:=f) (fun t=>Ok t∧WInv W root next (abs t)) (fun t=>2 * (W - (abs t).1.count true) + (abs t).2.length) (fun r=>∃ t',r=fin t'∧Ok t'∧(abs t').1=zV W root next) (by
  rintro t ⟨k1,k2⟩;by_cases hd:(abs t).2=[]
  ·right;exact ⟨_,hend t k1 hd,t,rfl,k1,k2.done hn hd⟩
  left;obtain ⟨t',e,rest,nl,q1,q2,q3,q4,q5,q6,q7,q8⟩:=hstep t k1 k2 hd;obtain ⟨p1,p2⟩:=k2.go hn q3 q4 q5 q6 q7;exact ⟨t',q1,⟨q2,by rw [q8];exact p1⟩,by rw [q8];exact p2⟩) t ⟨h0,h1⟩
 exact ⟨t',by rw [g1,g2],g3,g4⟩
theorem aR0 {o:List Bool} {m:Int} (h0:0 ≤ m) (h:m < o.length):aP o m=some (o[m.toNat]'(by omega)):=by
 have:m=((m.toNat:Nat):Int):=by omega
 conv=>lhs;rw [this]
 exact aN (by omega)
theorem vis_eq {o:List Bool} {t:List Int} {m:Int} (h:m.toNat < o.length):vis (o,t) m=if o[m.toNat]=true then (o,t) else (o.set m.toNat true,t ++ [m]):=by
 unfold vis;simp only [List.getElem?_eq_getElem h,Option.some.injEq]
end Go.OM
namespace Go.OM
theorem aNv {α β ρ ρ':Type} {f:α→Option (α ⊕ ρ)} {g:β→Option (β ⊕ ρ')} (I:α→β→Prop) (μ:α→Nat) (R:ρ→ρ'→Prop)
  (h:∀ a b,I a b→(∃ a' b',f a=some (.inl a')∧g b=some (.inl b')∧I a' b'∧μ a' < μ a) ∨ ∃ r r',f a=some (.inr r)∧g b=some (.inr r')∧R r r'):∀ a b,I a b→∃ r r',aI f a=some r∧aI g b=some r'∧R r r':=by
 intro a;generalize hn:μ a=n;induction n using Nat.strongRecOn generalizing a with
 | _ n ih =>
  intro b hI;rw [xQ f,xQ g];rcases h a b hI with ⟨a',b',h1,h2,h3,h4⟩ | ⟨r,r',h1,h2,h3⟩
  ·rw [h1,h2];exact ih _ (by omega) a' rfl b' h3
  rw [h1,h2];exact ⟨r,r',rfl,rfl,h3⟩
abbrev Tab:=List (List Bool)
structure TabOk (W L:Nat) (t:Tab):Prop where
 len:t.length=W
 row:∀ r ∈ t,r.length=L
theorem TabOk.set {W L:Nat} {t:Tab} (h:TabOk W L t) (n:Nat) {r:List Bool} (hr:r.length=L):TabOk W L (t.set n r) :=
 ⟨by simpa using h.len,fun x hx=>by
  rcases List.mem_or_eq_of_mem_set hx with h1 | h1
  ·exact h.row x h1
  rw [h1];exact hr⟩
theorem bC {k n:Nat} (hk:k < n) (hn:n ≤ 1048576):IntKind.wrap .i64 ((k:Int) + 1)=((k + 1:Nat):Int):=sP hk (show n ≤ maxLen by show _ ≤ 9223372036854775807;omega)
theorem aEw {α:Type} {n:Nat} {s:List α} {e:α} (h:s.length ≤ 1048576) (hn:n ≤ 64):bO n s [e]=some (s ++ [e]):=by
 unfold bO;have h1:(s.length + [e].length) * n ≤ (s.length + [e].length) * 64:=Nat.mul_le_mul_left _ hn;rw [if_pos ⟨by simp only [List.length_cons,List.length_nil] at h1 ⊢;omega,by simp only [List.length_cons,List.length_nil];omega⟩]
def cntR (r:List Bool):Nat:=r.count true
def cntT (t:Tab):Nat:=(t.map cntR).sum
end Go.OM
namespace Go.OM
theorem eH {α:Type} {l:List α} {v:Int} (h0:0 ≤ v) (h:v < l.length):aP l v=some (l[v.toNat]'(by omega)):=by
 have:v=((v.toNat:Nat):Int):=by omega
 conv=>lhs;rw [this]
 exact aN (by omega)
theorem aJz {α:Type} {n:Nat} {l:List α} (h:l.length ≤ 1048576) (hn:n ≤ 64):bO n [] l=some l:=by
 unfold bO;have h1:(([]:List α).length + l.length) * n ≤ (([]:List α).length + l.length) * 64:=Nat.mul_le_mul_left _ hn;rw [if_pos ⟨by simp only [List.length_nil] at h1 ⊢;omega,by simp only [List.length_nil];omega⟩]
 simp
end Go.OM
namespace Go.OM
structure Dn (W L:Nat) (s s':Tab × Bool):Prop where
 ok:TabOk W L s'.1
 le:cntT s'.1 ≤ cntT s.1
 lt:s'.2=true→s.2=true ∨ cntT s'.1 < cntT s.1
 keep:s.2=true→s'.2=true
theorem Dn.refl {W L:Nat} {s:Tab × Bool} (h:TabOk W L s.1):Dn W L s s:=⟨h,Nat.le_refl _,.inl,id⟩
theorem Dn.trans {W L:Nat} {s s' s2:Tab × Bool} (h:Dn W L s s') (h2:Dn W L s' s2):Dn W L s s2 :=
 ⟨h2.ok,Nat.le_trans h2.le h.le,fun e=>by
  rcases h2.lt e with e | e
  ·rcases h.lt e with e | e
   ·exact .inl e
   exact .inr (Nat.lt_of_le_of_lt h2.le e)
  exact .inr (Nat.lt_of_lt_of_le e h.le),fun e=>h2.keep (h.keep e)⟩
end Go.OM
namespace Go.OM
theorem rY (l:List Int) (n:Int) (hl:l.length ≤ 1048576):gF l n=some (l.contains n):=by
 unfold gF;rw [aA3 l (fun e=>e == n) (mT l n) (fun k hk=>by
  simp only [mT,aB hk,if_true,aN hk,Option.bind_some,bC hk hl];cases l[k] == n<;>rfl) (by simp [mT])]
 have:(l.any fun e=>e == n)=l.contains n:=by
  induction l with
  | nil=>rfl
  | cons x l ih =>
   rw [List.any_cons,List.contains_cons,ih (by simp at hl;omega)]
   congr 1
   rw [Bool.eq_iff_iff,beq_iff_eq,beq_iff_eq];exact eq_comm
 rw [this];cases l.contains n<;>rfl
theorem aBm {ρ:Type} (n:Nat) (q:Nat→Option ρ) (f:Int→Option (Int ⊕ (Unit ⊕ ρ)))
  (hf:∀ (k:Nat),k < n→f k=some (match q k with | none=>.inl ((k + 1:Nat):Int) | some r=>.inr (.inr r)))
  (he:f n=some (.inr (.inl ()))):aI f 0=some (match (List.range n).findSome? q with | some r=>.inr r | none=>.inl ()) :=
 xP (List.range n) q f (fun k hk=>by
  have hk':k < n:=by simpa using hk
  rw [hf k hk',List.getElem_range];all_goals (cases q k<;>rfl)) (by rw [List.length_range];exact he)
end Go.OM
namespace Go.OM
def vR (k:Int):Bool:=inB k 1 12
def aCz (k:Int):Bool:=inB k 13 19
theorem wK (k:Int):nO k=some (vR k):=by simp only [nO,eE,Option.bind_some,vR]
theorem aEp (k:Int):rT k=some (aCz k):=by simp only [rT,eE,Option.bind_some,aCz]
theorem vE (k:Int):jL k=some (vR k):=by simp only [jL,fA,Option.bind_some,vR]
theorem xX (k:Int):iQ k=some (aCz k):=by simp only [iQ,fA,Option.bind_some,aCz]
def nL (k:Int):Int × Int:=if k=8 ∨ k=13 ∨ k=14 ∨ k=15 ∨ k=18 ∨ k=19 then (1,1) else if k=9 ∨ k=10 ∨ k=11 ∨ k=17 then (2,2) else if k=16 then (3,3) else if k=12 then (0,3) else if k=20 then (0,12) else (0,0)
theorem aGp (k:Int):uB k=some (nL k):=by
 unfold uB nL;by_cases h8:k=8
 ·simp [h8]
 by_cases h13:k=13
 ·simp [h13]
 by_cases h14:k=14
 ·simp [h14]
 by_cases h15:k=15
 ·simp [h15]
 by_cases h18:k=18
 ·simp [h18]
 by_cases h19:k=19
 ·simp [h19]
 by_cases h9:k=9
 ·simp [h9]
 by_cases h10:k=10
 ·simp [h10]
 by_cases h11:k=11
 ·simp [h11]
 by_cases h17:k=17
 ·simp [h17]
 by_cases h16:k=16
 ·simp [h16]
 by_cases h12:k=12
 ·simp [h12]
 by_cases h20:k=20
 ·simp [h20]
 simp [h8,h13,h14,h15,h18,h19,h9,h10,h11,h17,h16,h12,h20]
theorem aD1 (k:Int):pU k=some (nL k):=by
 unfold pU nL;by_cases h8:k=8
 ·simp [h8]
 by_cases h13:k=13
 ·simp [h13]
 by_cases h14:k=14
 ·simp [h14]
 by_cases h15:k=15
 ·simp [h15]
 by_cases h18:k=18
 ·simp [h18]
 by_cases h19:k=19
 ·simp [h19]
 by_cases h9:k=9
 ·simp [h9]
 by_cases h10:k=10
 ·simp [h10]
 by_cases h11:k=11
 ·simp [h11]
 by_cases h17:k=17
 ·simp [h17]
 by_cases h16:k=16
 ·simp [h16]
 by_cases h12:k=12
 ·simp [h12]
 by_cases h20:k=20
 ·simp [h20]
 simp [h8,h13,h14,h15,h18,h19,h9,h10,h11,h17,h16,h12,h20]
def aAg (kind i kid:Int):Bool:=if kind=20 then aCz kid else if (kind=16 ∨ kind=17)∧0 < i then kid == 20 else if kind=19 then kid == 12 else vR kid
theorem aDr (kind i kid:Int):qE kind i kid=some (aAg kind i kid):=by
 unfold qE aAg;simp only [aEp,wK,Option.bind_some,gt_iff_lt];by_cases h20:kind=20
 ·simp [h20]
 by_cases h16:kind=16
 ·by_cases hi:0 < i<;>simp [h16,hi]
 by_cases h17:kind=17
 ·by_cases hi:0 < i<;>simp [h17,hi]
 by_cases h19:kind=19
 ·simp [h19]
 simp [h20,h16,h17,h19]
theorem aD2 (kind i kid:Int):pV kind i kid=some (aAg kind i kid):=by
 unfold pV aAg;simp only [xX,vE,Option.bind_some,gt_iff_lt];by_cases h20:kind=20
 ·simp [h20]
 by_cases h16:kind=16
 ·by_cases hi:0 < i<;>simp [h16,hi]
 by_cases h17:kind=17
 ·by_cases hi:0 < i<;>simp [h17,hi]
 by_cases h19:kind=19
 ·simp [h19]
 simp [h20,h16,h17,h19]
def vG (k:Int):Bool:=inB k 2 6 || inB k 12 15
theorem aDt (k:Int):qG k=some (vG k):=by
 unfold qG vG;simp only [eE,Option.bind_some];cases inB k 2 6<;>rfl
theorem aC7 (k:Int):nV k=some (vG k):=by
 unfold nV vG;by_cases h:inB k 2 6=true
 ·have h':=inB_iff.1 h;rw [h];have:k=2 ∨ k=3 ∨ k=4 ∨ k=5 ∨ k=6:=by omega
  rcases this with e | e | e | e | e<;>simp [e]
 by_cases h2:inB k 12 15=true
 ·have h':=inB_iff.1 h2;rw [h2];have:k=12 ∨ k=13 ∨ k=14 ∨ k=15:=by omega
  rcases this with e | e | e | e<;>simp [e]
 have h':=inB_false.1 (Bool.eq_false_iff.2 h);have h2':=inB_false.1 (Bool.eq_false_iff.2 h2);have n2:¬ k=2:=by omega
 have n3:¬ k=3:=by omega
 have n4:¬ k=4:=by omega
 have n5:¬ k=5:=by omega
 have n6:¬ k=6:=by omega
 have n12:¬ k=12:=by omega
 have n13:¬ k=13:=by omega
 have n14:¬ k=14:=by omega
 have n15:¬ k=15:=by omega
 simp [Bool.eq_false_iff.2 h,Bool.eq_false_iff.2 h2,n2,n3,n4,n5,n6,n12,n13,n14,n15]
def aRc (nodes:List GNode) (k:Nat) (x:GNode) (i:Nat):Bool:=match x.Kids[i]? with
 | none=>false
 | some kid=>inB kid 0 ((k:Int) - 1) && (!((x.Kids.take i).contains kid) && (match nodes[kid.toNat]? with | some y=>aAg x.Kind i y.Kind | none=>false))
theorem aJg {nodes:List GNode} {k:Nat} {x:GNode} {i:Nat} (h:i < x.Kids.length):aRc nodes k x i=(inB x.Kids[i] 0 ((k:Int) - 1) && (!((x.Kids.take i).contains x.Kids[i]) && (match nodes[(x.Kids[i]).toNat]? with | some y=>aAg x.Kind i y.Kind | none=>false))):=by
 unfold aRc;rw [List.getElem?_eq_getElem h]
def aNy (nodes:List GNode) (k:Nat) (x:GNode):Bool:=(List.range x.Kids.length).all (aRc nodes k x)
def aPw (x:GNode):Bool:=if x.Kind=1 then inB x.Num 0 1000000000 else x.Num == 0
def aKq (x:GNode):Bool:=if vG x.Kind=true then xY x.Name else sEq x.Name ⟨#[]⟩
def sI (nodes:List GNode) (k:Nat):Bool:=match nodes[k]? with
 | none=>false
 | some x=>inB x.Kind 1 20 && (inB x.Kids.length (nL x.Kind).1 (nL x.Kind).2 && (aNy nodes k x && (aPw x && aKq x)))
theorem tW {ρ:Type} (n:Nat) (hn:n ≤ 1048576) (p:Nat→Bool) (b:ρ) (f:Int→Option (Int ⊕ (Unit ⊕ ρ)))
  (hf:∀ (k:Nat),k < n→f k=some (if p k=true then .inl (IntKind.wrap .i64 ((k:Int) + 1)) else .inr (.inr b)))
  (he:f n=some (.inr (.inl ()))):aI f 0=some (if (List.range n).all p=true then .inl () else .inr b):=by
 rw [aBm n (fun k=>if p k=true then none else some b) f (fun k hk=>by
  rw [hf k hk,bC hk hn];cases p k<;>rfl) he]
 have key:∀ l:List Nat,l.findSome? (fun k=>if p k=true then none else some b)=if l.all p=true then none else some b:=by
  intro l;induction l with
  | nil=>rfl
  | cons x l ih =>
   rw [List.findSome?_cons,List.all_cons];cases hp:p x
   ·simp
   simp only [if_true,Bool.true_and];exact ih
 rw [key];cases (List.range n).all p<;>rfl
theorem aG6 (k:Int):(nL k).2 ≤ 12:=by
 unfold nL;repeat' split
 all_goals simp
theorem aJc:xY ⟨#[]⟩=false:=by
 unfold xY;have:inB ((⟨#[]⟩:ByteArray).size:Int) 1 8=false:=rfl;rw [this];rfl
theorem aEr (nodes:List GNode) (hn:nodes.length ≤ 1048576) (k:Int):rX nodes k=some (decide (0 ≤ k) && sI nodes k.toNat):=by
 unfold rX;simp only [eE,Option.bind_some,gH hn];by_cases hi:inB k 0 ((nodes.length:Int) - 1)=true
 ·have hi':=inB_iff.1 hi;have hk:k.toNat < nodes.length:=by omega
  have hkk:k=((k.toNat:Nat):Int):=by omega
  rw [decide_eq_true hi'.1,Bool.true_and];generalize k.toNat=m at *;subst hkk;unfold sI;rw [List.getElem?_eq_getElem hk,aN hk];simp only [hi,Bool.not_true,Bool.false_eq_true,if_false,Option.bind_some,aGp];generalize nodes[m]=x;cases h1:inB x.Kind 1 20
  ·rfl
  cases h2:inB x.Kids.length (nL x.Kind).1 (nL x.Kind).2
  ·rfl
  have h2':=inB_iff.1 h2;have hs:=aG6 x.Kind;have hkl:x.Kids.length ≤ 1048576:=by omega
  have hw:IntKind.wrap .i64 ((m:Int) - 1)=(m:Int) - 1:=w64 (by omega) (by omega)
  rw [tW x.Kids.length hkl (aRc nodes m x) false (mY nodes m x) (fun i hi=>by
   have hsub:eS x.Kids 0 (i:Int)=some (x.Kids.take i):=by
    unfold eS;rw [if_pos ⟨by omega,by omega,by omega⟩];simp
   simp only [mY,aB hi,if_true,aN hi,Option.bind_some,eE,hw,hsub,rY (x.Kids.take i) _ (by simp;omega),aDr]
   rw [aJg hi];cases h3:inB x.Kids[i] 0 ((m:Int) - 1)
   ·rfl
   have h3':=inB_iff.1 h3;cases h4:(x.Kids.take i).contains x.Kids[i]
   ·have hlt:x.Kids[i].toNat < nodes.length:=by omega
    rw [eH h3'.1 (by omega),List.getElem?_eq_getElem hlt]
    simp only [Bool.not_true,Bool.false_eq_true,if_false,Option.bind_some,Bool.not_false,Bool.true_and];cases aAg x.Kind i nodes[x.Kids[i].toNat].Kind<;>rfl
   rfl) (by simp [mY])]
  have hkk:(List.range x.Kids.length).all (aRc nodes m x)=aNy nodes m x:=rfl;rw [hkk];cases aNy nodes m x
  ·rfl
  unfold aPw aKq;simp only [aDt,tH,Option.bind_some,Bool.not_true,Bool.false_eq_true,if_false,if_true];by_cases hkd:x.Kind=1
  ·have e:(x.Kind == 1)=true:=by simpa using hkd
   rw [if_pos hkd,if_pos e];cases inB x.Num 0 1000000000
   ·rfl
   cases vG x.Kind<;>rfl
  have e:¬ (x.Kind == 1)=true:=by simpa using hkd
  have e2:(x.Num != 0) = !(x.Num == 0):=rfl;rw [if_neg hkd,if_neg e,e2];cases x.Num == 0
  ·rfl
  cases vG x.Kind<;>rfl
 simp only [Bool.eq_false_iff.2 hi,Bool.not_false,if_true];have hi':=inB_false.1 (Bool.eq_false_iff.2 hi)
 congr 1
 by_cases h0:0 ≤ k
 ·unfold sI;rw [List.getElem?_eq_none (by omega)];simp
 simp [h0]
theorem aEj (nodes:List GNode) (hn:nodes.length ≤ 1048576) (k:Int):rM nodes k=some (decide (0 ≤ k) && sI nodes k.toNat):=by
 unfold rM;simp only [fA,Option.bind_some,gH hn];by_cases hi:inB k 0 ((nodes.length:Int) - 1)=true
 ·have hi':=inB_iff.1 hi;have hk:k.toNat < nodes.length:=by omega
  have hkk:k=((k.toNat:Nat):Int):=by omega
  rw [decide_eq_true hi'.1,Bool.true_and];generalize k.toNat=m at *;subst hkk;unfold sI;rw [List.getElem?_eq_getElem hk,aN hk];simp only [hi,Bool.not_true,Bool.false_eq_true,if_false,Option.bind_some,aD1];generalize nodes[m]=x;cases h1:inB x.Kind 1 20
  ·rfl
  simp only [Bool.not_true,Bool.false_eq_true,if_false,Bool.true_and];cases h2:inB x.Kids.length (nL x.Kind).1 (nL x.Kind).2
  ·rfl
  have h2':=inB_iff.1 h2;have hs:=aG6 x.Kind;have hkl:x.Kids.length ≤ 1048576:=by omega
  have hw:IntKind.wrap .i64 ((m:Int) - 1)=(m:Int) - 1:=w64 (by omega) (by omega)
  rw [tW x.Kids.length hkl (aRc nodes m x) false (mN nodes m x) (fun i hi=>by
   simp only [mN,aB hi,if_true,aN hi,Option.bind_some,fA,hw,aD2];rw [tW i (by omega) (fun j=>!(x.Kids[i] == (x.Kids[j]?).getD 0)) (.inr (.inr false)) (mM x i) (fun j hj=>by
    have hjl:j < x.Kids.length:=by omega
    simp only [mM,aB hj,if_true,aN hi,aN hjl,Option.bind_some,List.getElem?_eq_getElem hjl,Option.getD_some];cases x.Kids[i] == x.Kids[j]<;>rfl) (by simp [mM])]
   have hall:(List.range i).all (fun j=>!(x.Kids[i] == (x.Kids[j]?).getD 0)) = !((x.Kids.take i).contains x.Kids[i]):=by
    rw [Bool.eq_iff_iff];simp only [List.all_eq_true,List.mem_range,Bool.not_eq_true',List.contains_eq_mem,decide_eq_false_iff_not,beq_eq_false_iff_ne,ne_eq];constructor
    ·intro h hm;obtain ⟨j,hj,e⟩:=List.mem_iff_getElem.1 hm;simp only [List.length_take] at hj;rw [List.getElem_take] at e;refine h j (by omega) ?_
     rw [List.getElem?_eq_getElem (by omega)]
     exact e.symm
    intro h j hj e;rw [List.getElem?_eq_getElem (show j < x.Kids.length by omega)] at e
    refine h ?_;rw [e];refine List.mem_iff_getElem.2 ⟨j,by simp only [List.length_take];omega,?_⟩
    rw [List.getElem_take];rfl
   rw [hall];rw [aJg hi];cases h3:inB x.Kids[i] 0 ((m:Int) - 1)
   ·rfl
   have h3':=inB_iff.1 h3;have hlt:x.Kids[i].toNat < nodes.length:=by omega
   rw [eH h3'.1 (by omega),List.getElem?_eq_getElem hlt]
   simp only [Bool.not_true,Bool.false_eq_true,if_false,Option.bind_some,Bool.true_and];cases aAg x.Kind i nodes[x.Kids[i].toNat].Kind<;>cases (x.Kids.take i).contains x.Kids[i]<;>rfl) (by simp [mN])]
  have hkk:(List.range x.Kids.length).all (aRc nodes m x)=aNy nodes m x:=rfl;rw [hkk];unfold aPw aKq;simp only [aC7,pN,Option.bind_some,Bool.not_true,Bool.false_eq_true,if_false,if_true];have hname:(if (!(vG x.Kind == (!(sEq x.Name (⟨#[]⟩:ByteArray)))))=true then some true else if (!(sEq x.Name (⟨#[]⟩:ByteArray)))=true then some (!(xY x.Name)) else some false)=some (!(if vG x.Kind=true then xY x.Name else sEq x.Name ⟨#[]⟩)):=by
   cases he:sEq x.Name ⟨#[]⟩ with
   | true =>
    have:x.Name=⟨#[]⟩:=by rw [aG9] at he;simpa using he
    cases vG x.Kind
    ·rfl
    rw [this,aJc];rfl
   | false =>
    cases vG x.Kind<;>rfl
  rw [hname];have hnum:(if (!(inB x.Num 0 1000000000))=true then some true else if (x.Kind != 1)=true then some (x.Num != 0) else some false)=some (!(if x.Kind=1 then inB x.Num 0 1000000000 else x.Num == 0)):=by
   have e2:(x.Num != 0) = !(x.Num == 0):=rfl;by_cases hkd:x.Kind=1
   ·have e:(x.Kind != 1)=false:=by simp [hkd]
    rw [if_pos hkd,e];cases inB x.Num 0 1000000000<;>rfl
   have e:(x.Kind != 1)=true:=by simpa using hkd
   rw [if_neg hkd,e,e2];cases hz:x.Num == 0 with
   | true =>
    have:x.Num=0:=by simpa using hz
    rw [this];rfl
   | false=>cases inB x.Num 0 1000000000<;>rfl
  rw [hnum];generalize (if x.Kind=1 then inB x.Num 0 1000000000 else x.Num == 0)=u;generalize (if vG x.Kind=true then xY x.Name else sEq x.Name ⟨#[]⟩)=v;cases u<;>cases v<;>cases aNy nodes m x<;>rfl
 simp only [Bool.eq_false_iff.2 hi,Bool.not_false,if_true,Option.bind_some];have hi':=inB_false.1 (Bool.eq_false_iff.2 hi)
 congr 1
 by_cases h0:0 ≤ k
 ·unfold sI;rw [List.getElem?_eq_none (by omega)];simp
 simp [h0]
end Go.OM
namespace Go.OM
def mx (a b:Int):Int:=if b > a then b else a
def aJt (nodes:List GNode) (out:List Int) (i:Nat):Int:=match nodes[i]? with
 | some x=>x.Kids.foldl (fun d kid=>mx d (out.getD kid.toNat 0 + 1)) 1
 | none=>1
def nK (nodes:List GNode):Nat→List Int
 | 0=>[]
 | n + 1=>nK nodes n ++ [aJt nodes (nK nodes n) n]
def okU (nodes:List GNode):Nat→Bool
 | 0=>true
 | n + 1=>okU nodes n && (sI nodes n && decide (aJt nodes (nK nodes n) n ≤ 10))
def sV (nodes:List GNode) (k:Nat):Int:=aJt nodes (nK nodes k) k
theorem jX (nodes:List GNode):∀ n,(nK nodes n).length=n
 | 0=>rfl
 | n + 1=>by simp [nK,jX nodes n]
theorem qQ (nodes:List GNode):∀ (n j:Nat),j < n→(nK nodes n)[j]? = some (sV nodes j)
 | 0,j,h=>by omega
 | n + 1,j,h=>by
  simp only [nK];rcases Nat.lt_or_ge j n with h1 | h1
  ·rw [List.getElem?_append_left (by rw [jX];exact h1)]
   exact qQ nodes n j h1
  have:j=n:=by omega
  subst this;rw [List.getElem?_append_right (by rw [jX];omega),jX]
  simp [sV]
theorem aCk {nodes : List GNode} : ∀ {n m : Nat}, m ≤ n → okU nodes n = true → okU nodes m = true
  | 0, m, h, h1 => by have : m = 0 := by omega
                      subst this; rfl
  | n + 1, m, h, h1 => by
    by_cases e : m = n + 1
    · subst e; exact h1
    simp only [okU, Bool.and_eq_true] at h1;exact aCk (by omega) h1.1
theorem oF {nodes:List GNode} {n j:Nat} (h:okU nodes n=true) (hj:j < n):sI nodes j=true∧sV nodes j ≤ 10:=by
 have:=aCk (show j + 1 ≤ n by omega) h
 simp only [okU,Bool.and_eq_true,decide_eq_true_eq] at this;exact this.2
theorem mx_ge (l:List Int) (g:Int→Int):∀ d,d ≤ l.foldl (fun d kid=>mx d (g kid)) d∧∀ kid ∈ l,g kid ≤ l.foldl (fun d kid=>mx d (g kid)) d:=by
 induction l with
 | nil=>intro d;simp
 | cons x l ih =>
  intro d;rw [List.foldl_cons];obtain ⟨h1,h2⟩:=ih (mx d (g x));have h3:d ≤ mx d (g x)∧g x ≤ mx d (g x):=by unfold mx;split<;>omega
  refine ⟨by omega,fun kid hk=>?_⟩
  rcases List.mem_cons.1 hk with rfl | hk
  ·omega
  exact h2 kid hk
theorem kI (nodes:List GNode) (k:Nat):1 ≤ sV nodes k:=by
 unfold sV aJt;split
 ·exact (mx_ge _ _ 1).1
 omega
theorem rO {nodes:List GNode} {k:Nat} (h:sI nodes k=true):∃ (hk:k < nodes.length),inB nodes[k].Kind 1 20=true∧inB nodes[k].Kids.length (nL nodes[k].Kind).1 (nL nodes[k].Kind).2=true∧(∀ (i:Nat) (hi:i < nodes[k].Kids.length),(0 ≤ nodes[k].Kids[i]∧nodes[k].Kids[i] < k)∧¬ nodes[k].Kids[i] ∈ nodes[k].Kids.take i∧∃ y,nodes[(nodes[k].Kids[i]).toNat]? = some y∧aAg nodes[k].Kind i y.Kind=true)∧aPw nodes[k]=true∧aKq nodes[k]=true:=by
 unfold sI at h;split at h
 ·cases h
 rename_i x hx;obtain ⟨hk,hxe⟩:=List.getElem?_eq_some_iff.1 hx;subst hxe;simp only [Bool.and_eq_true] at h;obtain ⟨h1,h2,h3,h4,h5⟩:=h;refine ⟨hk,h1,h2,fun i hi=>?_,h4,h5⟩;have:=List.all_eq_true.1 h3 i (List.mem_range.2 hi);rw [aJg hi] at this;simp only [Bool.and_eq_true,inB_iff,Bool.not_eq_true',List.contains_eq_mem,decide_eq_false_iff_not] at this;obtain ⟨g1,g2,g3⟩:=this;refine ⟨⟨g1.1,by omega⟩,g2,?_⟩
 split at g3
 ·rename_i y hy;exact ⟨y,hy,g3⟩
 cases g3
theorem lX {nodes:List GNode} {k:Nat} (h:sI nodes k=true) {x:GNode} (hx:nodes[k]? = some x):∀ kid ∈ x.Kids,0 ≤ kid∧kid < k:=by
 obtain ⟨hk,_,_,h3,_⟩:=rO h;obtain ⟨_,hxe⟩:=List.getElem?_eq_some_iff.1 hx;subst hxe;intro kid hm;obtain ⟨i,hi,rfl⟩:=List.mem_iff_getElem.1 hm;exact (h3 i hi).1
theorem iA {nodes:List GNode} {k:Nat} (h:sI nodes k=true) {x:GNode} (hx:nodes[k]? = some x):x.Kids.length ≤ 12:=by
 obtain ⟨hk,_,h2,_⟩:=rO h;obtain ⟨_,hxe⟩:=List.getElem?_eq_some_iff.1 hx;subst hxe;have:=inB_iff.1 h2;have:=aG6 nodes[k].Kind;omega
theorem aAl {nodes:List GNode} {k:Nat} (h:sI nodes k=true) {x:GNode} (hx:nodes[k]? = some x) {kid:Int} (hm:kid ∈ x.Kids):sV nodes kid.toNat < sV nodes k:=by
 have hb:=lX h hx kid hm;have:sV nodes k=x.Kids.foldl (fun d kid=>mx d ((nK nodes k).getD kid.toNat 0 + 1)) 1:=by unfold sV aJt;rw [hx]
 rw [this];have h2:=(mx_ge x.Kids (fun kid=>(nK nodes k).getD kid.toNat 0 + 1) 1).2 kid hm;have h3:(nK nodes k).getD kid.toNat 0=sV nodes kid.toNat:=by
  rw [List.getD_eq_getElem?_getD,qQ nodes k kid.toNat (by omega)];rfl
 rw [h3] at h2;omega
theorem aMk (nodes:List GNode) (k:Nat) (x:GNode) (hx:nodes[k]? = some x) (hok:okU nodes k=true) (hn:sI nodes k=true):aI (kA (nK nodes k) x) (1,0)=some (sV nodes k):=by
 have hkl:=iA hn hx;have hkb:=lX hn hx;have hg:∀ kid ∈ x.Kids,(nK nodes k).getD kid.toNat 0=sV nodes kid.toNat:=fun kid hm=>by
  have:=hkb kid hm;rw [List.getD_eq_getElem?_getD,qQ nodes k kid.toNat (by omega)];rfl
 have:=cO x.Kids (fun (d:Int) j=>(d,(j:Int))) (fun j d=>True) (fun d kid=>.inl (mx d ((nK nodes k).getD kid.toNat 0 + 1))) id (kA (nK nodes k) x) (fun d j hj _=>by
  left;have hm:=List.getElem_mem hj;have hb:=hkb _ hm;have hd:=oF hok (show x.Kids[j].toNat < k by omega)
  have hp:=kI nodes x.Kids[j].toNat;refine ⟨_,rfl,?_,trivial⟩;have hlt:x.Kids[j].toNat < (nK nodes k).length:=by rw [jX];omega
  have hge:(nK nodes k)[x.Kids[j].toNat]=sV nodes x.Kids[j].toNat:=by
   have:=qQ nodes k x.Kids[j].toNat (by omega)
   rw [List.getElem?_eq_getElem hlt] at this;exact Option.some.inj this
  simp only [kA,aB hj,if_true,aN hj,Option.bind_some];rw [eH hb.1 (by rw [jX];omega),hge]
  simp only [Option.bind_some,w64 (n:=sV nodes x.Kids[j].toNat + 1) (by omega) (by omega),bC hj (by omega),hg _ hm]
  rfl) (fun d _=>by simp [kA]) 1 trivial
 rw [dQ] at this;unfold sV aJt;rw [hx];exact this
theorem aEq (nodes:List GNode) (hn:nodes.length ≤ 1048576) (k:Int):rU nodes k=some (if 0 ≤ k∧k < nodes.length∧okU nodes (k.toNat + 1)=true then (nK nodes (k.toNat + 1),true) else ([],false)):=by
 unfold rU;simp only [eE,Option.bind_some,gH hn];by_cases hi:inB k 0 ((nodes.length:Int) - 1)=true
 ·have hi':=inB_iff.1 hi;have hkk:k=((k.toNat:Nat):Int):=by omega
  have hk:k.toNat < nodes.length:=by omega
  generalize k.toNat=m at *;subst hkk;simp only [hi,Bool.not_true,Bool.false_eq_true,if_false];obtain ⟨r,h1,h2⟩:=dY (f:=mU nodes m) (fun s:List Int × Int=>∃ i:Nat,s.2=i∧i ≤ m + 1∧s.1=nK nodes i∧okU nodes i=true) (fun s=>m + 1 - s.2.toNat) (fun r=>r=if okU nodes (m + 1)=true then Sum.inl (nK nodes (m + 1)) else Sum.inr ([],false)) (by
   rintro ⟨out,i⟩ ⟨i,rfl,hle,ho,hok⟩;simp only at ho hle;subst ho;by_cases hlt:i ≤ m
   ·have hd:decide ((i:Int) ≤ (m:Int))=true:=by simp only [decide_eq_true_eq];omega
    have hil:i < nodes.length:=by omega
    simp only [mU,hd,if_true,aEr nodes hn,Option.bind_some,Int.toNat_natCast];have h0:decide ((0:Int) ≤ (i:Int))=true:=by simp
    rw [h0,Bool.true_and];cases hnb:sI nodes i with
    | false =>
     right;refine ⟨.inr ([],false),by simp,?_⟩
     have:okU nodes (m + 1)=false:=by
      rw [Bool.eq_false_iff];intro h;rw [(oF h (show i < m + 1 by omega)).1] at hnb
      cases hnb
     rw [this];rfl
    | true =>
     simp only [Bool.not_true,Bool.false_eq_true,if_false,aN hil,Option.bind_some];rw [aMk nodes i _ (List.getElem?_eq_getElem hil) hok hnb];simp only [Option.bind_some];by_cases hd10:sV nodes i > 10
     ·right;rw [if_pos (by simpa using hd10)]
      refine ⟨.inr ([],false),rfl,?_⟩;have:okU nodes (m + 1)=false:=by
       rw [Bool.eq_false_iff];intro h;have:=(oF h (show i < m + 1 by omega)).2
       omega
      rw [this];rfl
     left;rw [if_neg (by simpa using hd10),app1 (by rw [jX];omega) (by omega)]
     refine ⟨(nK nodes (i + 1),((i + 1:Nat):Int)),?_,⟨i + 1,rfl,by omega,rfl,?_⟩,by simp only [Int.toNat_natCast];omega⟩
     ·simp only [Option.bind_some,bC hil hn]
      rfl
     simp only [okU,hok,hnb,Bool.true_and,decide_eq_true_eq];show sV nodes i ≤ 10;omega
   right;have:i=m + 1:=by omega
   subst this;have hd:decide (((m + 1:Nat):Int) ≤ (m:Int))=false:=by simp only [decide_eq_false_iff_not];omega
   refine ⟨.inl (nK nodes (m + 1)),by simp only [mU,hd,Bool.false_eq_true,if_false],?_⟩
   rw [hok];rfl) ([],0) ⟨0,rfl,by omega,rfl,rfl⟩
  rw [h1,h2];by_cases hok:okU nodes (m + 1)=true
  ·rw [if_pos hok,if_pos (show 0 ≤ (m:Int)∧(m:Int) < nodes.length∧okU nodes (m + 1)=true from ⟨by omega,by omega,hok⟩)];rfl
  rw [if_neg hok,if_neg (show ¬ (0 ≤ (m:Int)∧(m:Int) < nodes.length∧okU nodes (m + 1)=true) from fun h=>hok h.2.2)];rfl
 have hi':=inB_false.1 (Bool.eq_false_iff.2 hi);simp only [Bool.eq_false_iff.2 hi,Bool.not_false,if_true];rw [if_neg (show ¬ (0 ≤ k∧k < nodes.length∧okU nodes (k.toNat + 1)=true) from fun h=>hi' ⟨h.1,by omega⟩)]
def aAm (nodes:List GNode) (k:Int):Int:=if 0 ≤ k∧k < nodes.length∧okU nodes (k.toNat + 1)=true then sV nodes k.toNat else 0
theorem yN (nodes:List GNode) (hn:nodes.length ≤ 1048576) (k:Int):pJ nodes k=some (aAm nodes k):=by
 unfold pJ aAm;rw [aEq nodes hn];by_cases h:0 ≤ k∧k < nodes.length∧okU nodes (k.toNat + 1)=true
 ·rw [if_pos h,if_pos h];have hlt:k.toNat < (nK nodes (k.toNat + 1)).length:=by rw [jX];omega
  simp only [Option.bind_some,Bool.not_true,Bool.false_eq_true,if_false];rw [eH h.1 (by rw [jX];omega)]
  have:=qQ nodes (k.toNat + 1) k.toNat (by omega)
  rw [List.getElem?_eq_getElem hlt] at this;simp only [Option.bind_some];exact this
 rw [if_neg h,if_neg h];rfl
def pA (nodes:List GNode) (n:Nat):List Int:=(List.range n).map fun j=>if okU nodes (j + 1)=true then sV nodes j else 0
theorem aB5 (nodes:List GNode) (n:Nat):(pA nodes n).length=n:=by simp [pA]
theorem xJ (nodes:List GNode) {n j:Nat} (h:j < n):(pA nodes n)[j]? = some (if okU nodes (j + 1)=true then sV nodes j else 0):=by
 unfold pA;rw [List.getElem?_map,List.getElem?_range h];rfl
theorem aHo {nodes:List GNode} {n:Nat} (h:okU nodes n=true):pA nodes n=nK nodes n:=by
 apply List.ext_getElem?;intro j;by_cases hj:j < n
 ·rw [xJ nodes hj,qQ nodes n j hj,if_pos (aCk (by omega) h)]
 rw [List.getElem?_eq_none (by rw [aB5];omega),List.getElem?_eq_none (by rw [jX];omega)]
theorem aLy (nodes:List GNode) (k:Nat) (hk:k < nodes.length) (hok:okU nodes k=true) (hn:sI nodes k=true):aI (eG nodes (nK nodes k) k) (1,0)=some (sV nodes k):=by
 have hx:nodes[k]? = some nodes[k]:=List.getElem?_eq_getElem hk;generalize hgx:nodes[k]=x at *;have hkl:=iA hn hx;have hkb:=lX hn hx;have hg:∀ kid ∈ x.Kids,(nK nodes k).getD kid.toNat 0=sV nodes kid.toNat:=fun kid hm=>by
  have:=hkb kid hm;rw [List.getD_eq_getElem?_getD,qQ nodes k kid.toNat (by omega)];rfl
 have hgk:aP nodes (k:Int)=some x:=by rw [aN hk,hgx]
 have:=cO x.Kids (fun (d:Int) j=>(d,(j:Int))) (fun j d=>0 < d) (fun d kid=>.inl (mx d ((nK nodes k).getD kid.toNat 0 + 1))) id (eG nodes (nK nodes k) k) (fun d j hj hpos=>by
  left;have hm:=List.getElem_mem hj;have hb:=hkb _ hm;have hd:=oF hok (show x.Kids[j].toNat < k by omega)
  have hp:=kI nodes x.Kids[j].toNat;refine ⟨_,rfl,?_,by unfold mx;split<;>omega⟩
  have hlt:x.Kids[j].toNat < (nK nodes k).length:=by rw [jX];omega
  have hge:(nK nodes k)[x.Kids[j].toNat]=sV nodes x.Kids[j].toNat:=by
   have:=qQ nodes k x.Kids[j].toNat (by omega)
   rw [List.getElem?_eq_getElem hlt] at this;exact Option.some.inj this
  have hp0:decide (d > 0)=true:=by simpa using hpos
  have hgi:aP (nK nodes k) x.Kids[j]=some (sV nodes x.Kids[j].toNat):=by rw [eH hb.1 (by rw [jX];omega),hge]
  simp only [eG,hp0,if_true,hgk,Option.bind_some,aB hj,aN hj,hgi,w64 (n:=sV nodes x.Kids[j].toNat + 1) (by omega) (by omega),bC hj (by omega),hg _ hm]
  unfold mx;by_cases hgt:sV nodes x.Kids[j].toNat + 1 > d
  ·rw [if_pos (by simpa using hgt),if_pos hgt]
  ·rw [if_neg (by simpa using hgt),if_neg hgt]) (fun d hd=>by
  have hp0:decide (d > 0)=true:=by simpa using hd
  simp [eG,hp0,hgk]) 1 (by omega)
 rw [dQ] at this;unfold sV aJt;rw [hx];exact this
theorem zN (nodes:List GNode) (hn:nodes.length ≤ 1048576) (k:Nat) (hk:k < nodes.length):lR nodes k=some (pA nodes (k + 1)):=by
 unfold lR;obtain ⟨r,h1,h2⟩:=dY (f:=jT nodes k) (fun s:List Int × Int=>∃ i:Nat,s.2=i∧i ≤ k + 1∧s.1=pA nodes i) (fun s=>k + 1 - s.2.toNat) (fun r=>r=pA nodes (k + 1)) (by
  rintro ⟨out,i⟩ ⟨i,rfl,hle,ho⟩;simp only at ho hle;subst ho;by_cases hlt:i ≤ k
  ·left;have hd:decide ((i:Int) ≤ (k:Int))=true:=by simp only [decide_eq_true_eq];omega
   have hil:i < nodes.length:=by omega
   have hd2:decide ((i:Int) < (nodes.length:Int))=true:=by simp only [decide_eq_true_eq];omega
   have h0:decide ((0:Int) ≤ (i:Int))=true:=by simp
   refine ⟨(pA nodes (i + 1),((i + 1:Nat):Int)),?_,⟨i + 1,rfl,by omega,rfl⟩,by simp only [Int.toNat_natCast];omega⟩
   simp only [jT,hd,hd2,if_true,aEj nodes hn,Option.bind_some,Int.toNat_natCast,h0,Bool.true_and]
   -- is it right so far?
   have hflag:(if (!(sI nodes i))=true then some true else if (decide ((i:Int) > 0))=true then (aP (pA nodes i) (IntKind.wrap .i64 ((i:Int) - 1))).bind fun e32=>some (e32 == 0) else some false)=some (!(sI nodes i && okU nodes i)):=by
    cases hnb:sI nodes i with
    | false=>rfl
    | true =>
     simp only [Bool.not_true,Bool.false_eq_true,if_false,Bool.true_and];by_cases hz:i=0
     ·subst hz;rfl
     have hp:decide ((i:Int) > 0)=true:=by simp only [decide_eq_true_eq];omega
     have hw:IntKind.wrap .i64 ((i:Int) - 1)=((i - 1:Nat):Int):=by rw [w64 (by omega) (by omega)];omega
     rw [if_pos hp,hw,aAd,xJ nodes (show i - 1 < i by omega),show i - 1 + 1=i by omega]
     simp only [Option.bind_some];cases hok:okU nodes i with
     | true =>
      have:=kI nodes (i - 1);have hne:¬ sV nodes (i - 1)=0:=by omega
      simp [hne]
     | false=>simp
   rw [hflag];simp only [Option.bind_some];have hfin:(Option.bind (if (!(sI nodes i && okU nodes i))=true then some 0 else some (1:Int)) fun deep36=>Option.bind (aI (eG nodes (pA nodes i) i) (deep36,0)) fun deep62=>Option.bind (if (decide (deep62 > 10))=true then some 0 else some deep62) fun deep68=>(bO 8 (pA nodes i) [deep68]).bind fun l69=>some l69)=some (pA nodes (i + 1)):=by
    have hsucc:pA nodes (i + 1)=pA nodes i ++ [if okU nodes (i + 1)=true then sV nodes i else 0]:=by
     unfold pA;rw [List.range_succ,List.map_append];rfl
    have happ:∀ z:Int,bO 8 (pA nodes i) [z]=some (pA nodes i ++ [z]):=fun z=>app1 (by rw [aB5];omega) (by omega)
    cases hb:(sI nodes i && okU nodes i) with
    | true =>
     simp only [Bool.and_eq_true] at hb;simp only [Bool.not_true,Bool.false_eq_true,if_false,Option.bind_some];rw [aHo hb.2,aLy nodes i hil hb.2 hb.1,← aHo hb.2];simp only [Option.bind_some];rw [hsucc];by_cases hd10:sV nodes i > 10
     ·have hf:okU nodes (i + 1)=false:=by
       rw [Bool.eq_false_iff];intro h;have:=(oF h (Nat.lt_succ_self i)).2;omega
      rw [if_pos (by simpa using hd10),hf]
      simp only [Option.bind_some,happ,Bool.false_eq_true,if_false]
     have hf:okU nodes (i + 1)=true:=by
      simp only [okU,hb.1,hb.2,Bool.true_and,decide_eq_true_eq];show sV nodes i ≤ 10;omega
     rw [if_neg (by simpa using hd10),hf]
     simp only [Option.bind_some,happ,if_true]
    | false =>
     have hf:okU nodes (i + 1)=false:=by
      rw [Bool.eq_false_iff];intro h;simp only [okU,Bool.and_eq_true] at h;rw [h.1,h.2.1] at hb;cases hb
     simp only [Bool.not_false,if_true,Option.bind_some];rw [lG (r:=(0:Int)) (by simp [eG])]
     simp only [Option.bind_some];rw [hsucc,hf];simp [happ]
   have:=congrArg (fun z=>Option.bind z fun out70:List Int=>(some (Sum.inl (out70,IntKind.wrap .i64 ((i:Int) + 1))):Option ((List Int × Int) ⊕ List Int))) hfin;simp only [Option.bind_some,bC hil hn] at this;rw [bC hil hn];exact this
  right;have:i=k + 1:=by omega
  subst this;have hd:decide (((k + 1:Nat):Int) ≤ (k:Int))=false:=by simp only [decide_eq_false_iff_not];omega
  exact ⟨_,by simp only [jT,hd,Bool.false_eq_true,if_false,Option.bind_some],rfl⟩) ([],0) ⟨0,rfl,by omega,rfl⟩
 rw [h1,h2]
 rfl
theorem aEk (nodes:List GNode) (hn:nodes.length ≤ 1048576) (k:Int):rN nodes k=some (aAm nodes k):=by
 unfold rN aAm;simp only [fA,Option.bind_some,gH hn];by_cases hi:inB k 0 ((nodes.length:Int) - 1)=true
 ·have hi':=inB_iff.1 hi;have hkk:k=((k.toNat:Nat):Int):=by omega
  have hk:k.toNat < nodes.length:=by omega
  generalize k.toNat=m at *;subst hkk;simp only [hi,Bool.not_true,Bool.false_eq_true,if_false];rw [zN nodes hn m hk];simp only [Option.bind_some,aAd];rw [xJ nodes (Nat.lt_succ_self m)];by_cases hok:okU nodes (m + 1)=true
  ·rw [if_pos hok,if_pos (show 0 ≤ (m:Int)∧(m:Int) < nodes.length∧okU nodes (m + 1)=true from ⟨by omega,by omega,hok⟩)];rfl
  rw [if_neg hok,if_neg (show ¬ (0 ≤ (m:Int)∧(m:Int) < nodes.length∧okU nodes (m + 1)=true) from fun h=>hok h.2.2)];rfl
 have hi':=inB_false.1 (Bool.eq_false_iff.2 hi);simp only [Bool.eq_false_iff.2 hi,Bool.not_false,if_true];rw [if_neg (show ¬ (0 ≤ k∧k < nodes.length∧okU nodes (k.toNat + 1)=true) from fun h=>hi' ⟨h.1,by omega⟩)]
end Go.OM
namespace Go.OM
theorem aB9:bL=1048576:=rfl
theorem aFl {nodes:List GNode} {k:Int} (h:aAm nodes k ≠ 0):0 ≤ k∧k < nodes.length∧okU nodes (k.toNat + 1)=true:=by
 unfold aAm at h;split at h
 ·assumption
 exact absurd rfl h
end Go.OM
namespace Go.OM
def aDh (x:GParam):Bool:=xY x.Name && inB x.Typ 1 4
def aJw (p:GProgram) (f:GFn):Bool:=inB f.Body 0 ((p.Nodes.length:Int) - 1) && (match p.Nodes[f.Body.toNat]? with | some x=>x.Kind == 20 | none=>false)
def retB (p:GProgram) (f:GFn):Bool:=if f.Res=0 then f.Ret == -1 else inB f.Ret 0 ((p.Nodes.length:Int) - 1) && (match p.Nodes[f.Ret.toNat]? with | some x=>vR x.Kind | none=>false)
def fnB (p:GProgram) (f:GFn):Bool:=xY f.Name && (!decide ((f.Params.length:Int) > 3) && (inB f.Res 0 2 && (f.Params.all aDh && (aJw p f && retB p f))))
theorem bodyB_iff {p:GProgram} {f:GFn}:aJw p f=true ↔ 0 ≤ f.Body∧f.Body < p.Nodes.length∧∃ x,p.Nodes[f.Body.toNat]? = some x∧x.Kind=20:=by
 unfold aJw;rw [Bool.and_eq_true,inB_iff];constructor
 ·rintro ⟨⟨h1,h2⟩,h3⟩;refine ⟨h1,by omega,?_⟩
  split at h3
  ·rename_i x hx;exact ⟨x,hx,by simpa using h3⟩
  cases h3
 rintro ⟨h1,h2,x,hx,hk⟩;refine ⟨⟨h1,by omega⟩,?_⟩
 rw [hx];simpa using hk
theorem aIw (p:GProgram) (f:GFn) (hn:p.Nodes.length ≤ 1048576) (g:Bool→Option Bool):(Option.bind (if (!(inB f.Body 0 ((p.Nodes.length:Int) - 1)))=true then some true else (aP p.Nodes f.Body).bind fun e=>some (e.Kind != 20)) fun v=>g v)=g (!(aJw p f)):=by
 unfold aJw;cases h:inB f.Body 0 ((p.Nodes.length:Int) - 1) with
 | false=>rfl
 | true =>
  have h':=inB_iff.1 h;have hlt:f.Body.toNat < p.Nodes.length:=by omega
  rw [eH h'.1 (by omega),List.getElem?_eq_getElem hlt]
  rfl
theorem aKg (p:GProgram) (f:GFn) (hn:p.Nodes.length ≤ 1048576):(if (f.Res == 0)=true then some (f.Ret == (-1)) else Option.bind (if inB f.Ret 0 ((p.Nodes.length:Int) - 1)=true then (aP p.Nodes f.Ret).bind fun e=>some (vR e.Kind) else some false) fun v=>some v)=some (retB p f):=by
 unfold retB;by_cases h0:f.Res=0
 ·rw [if_pos (by simpa using h0),if_pos h0]
 rw [if_neg (by simpa using h0),if_neg h0]
 cases h:inB f.Ret 0 ((p.Nodes.length:Int) - 1) with
 | false=>rfl
 | true =>
  have h':=inB_iff.1 h;have hlt:f.Ret.toNat < p.Nodes.length:=by omega
  rw [eH h'.1 (by omega),List.getElem?_eq_getElem hlt]
  rfl
theorem aIe (p:GProgram) (f:GFn) (hn:p.Nodes.length ≤ 1048576):wM p f=some (fnB p f):=by
 unfold wM fnB;simp only [tH,eE,wK,Option.bind_some,gH hn];cases hnm:xY f.Name with
 | false=>rfl
 | true =>
  simp only [Bool.not_true,Bool.false_eq_true,if_false,Bool.true_and];by_cases hp3:(f.Params.length:Int) > 3
  ·rw [if_pos (by simpa using hp3),decide_eq_true hp3];rfl
  rw [if_neg (by simpa using hp3),decide_eq_false hp3]
  simp only [Bool.not_false,Bool.true_and];have hres:(if (f.Res != 0)=true then if (f.Res != 1)=true then some (f.Res != 2) else some false else some false)=some (!(inB f.Res 0 2)):=by
   by_cases h0:f.Res=0
   ·rw [h0];rfl
   by_cases h1:f.Res=1
   ·rw [h1];rfl
   by_cases h2:f.Res=2
   ·rw [h2];rfl
   have:inB f.Res 0 2=false:=inB_false.2 (by omega)
   simp [this,h0,h1,h2]
  rw [hres];cases hin:inB f.Res 0 2 with
  | false=>rfl
  | true =>
   simp only [Option.bind_some,Bool.not_true,Bool.false_eq_true,if_false,Bool.true_and];rw [rQ f.Params aDh (qH f) (fun k hk=>by
    simp only [qH,aB hk,if_true,aN hk,Option.bind_some,tH,eE,bC hk (by omega)]
    unfold aDh;cases xY f.Params[k].Name
    ·rfl
    cases inB f.Params[k].Typ 1 4<;>rfl) (by simp [qH])]
   cases f.Params.all aDh with
   | false=>rfl
   | true =>
    simp only [if_true,Option.bind_some,Bool.true_and];rw [aIw p f hn];cases aJw p f with
    | false=>rfl
    | true =>
     simp only [Bool.not_true,Bool.false_eq_true,if_false,Bool.true_and];exact aKg p f hn
def aMn (p:GProgram) (nm:ByteArray) (k:Nat):Option Int:=match p.Fns[k]? with
 | some f=>if sEq f.Name nm=true then some (k:Int) else none
 | none=>none
def jW (p:GProgram) (nm:ByteArray):Int:=((List.range p.Fns.length).findSome? (aMn p nm)).getD (-1)
theorem sT (p:GProgram) (nm:ByteArray) (hp:p.Fns.length ≤ 1048576):qM p nm=some (jW p nm):=by
 unfold qM jW;rw [aBm p.Fns.length (aMn p nm) (qL p nm) (fun k hk=>by
  simp only [qL,aB hk,if_true,aN hk,Option.bind_some,bC hk hp];unfold aMn;rw [List.getElem?_eq_getElem hk];cases h:sEq p.Fns[k].Name nm<;>simp [h]) (by simp [qL])]
 cases (List.range p.Fns.length).findSome? (aMn p nm)<;>rfl
theorem vY (p:GProgram) (nm:ByteArray) (hp:p.Fns.length ≤ 1048576):tS p nm=some (jW p nm):=sT p nm hp
theorem aG3 (p:GProgram) (i:Nat) (hi:i < p.Fns.length) (hn:p.Nodes.length ≤ 1048576) (hp:p.Fns.length ≤ 1048576):tR p i=some (fnB p p.Fns[i] && jW p p.Fns[i].Name == i):=by
 unfold tR fnB;simp only [aN hi,pN,fA,vE,vY p _ hp,Option.bind_some,gH hn];generalize p.Fns[i]=f;cases hnm:xY f.Name with
 | false=>rfl
 | true =>
  simp only [Bool.not_true,Bool.false_eq_true,if_false,Bool.true_and];cases hat:jW p f.Name == i with
  | false =>
   have:(jW p f.Name != i)=true:=by simp only [bne,hat,Bool.not_false]
   rw [this,Bool.and_false];rfl
  | true =>
   have:(jW p f.Name != i)=false:=by simp only [bne,hat,Bool.not_true]
   rw [this,Bool.and_true];simp only [Bool.false_eq_true,if_false];by_cases hp3:(f.Params.length:Int) > 3
   ·rw [if_pos (by simpa using hp3),decide_eq_true hp3];rfl
   rw [if_neg (by simpa using hp3),decide_eq_false hp3]
   simp only [Bool.not_false,Bool.true_and];cases hin:inB f.Res 0 2 with
   | false=>rfl
   | true =>
    simp only [Option.bind_some,Bool.not_true,Bool.false_eq_true,if_false,Bool.true_and];rw [rQ f.Params aDh (nW f) (fun k hk=>by
     simp only [nW,aB hk,if_true,aN hk,Option.bind_some,pN,fA,bC hk (by omega)]
     unfold aDh;cases xY f.Params[k].Name
     ·rfl
     cases inB f.Params[k].Typ 1 4<;>rfl) (by simp [nW])]
    cases f.Params.all aDh with
    | false=>rfl
    | true =>
     simp only [if_true,Option.bind_some,Bool.true_and];rw [aIw p f hn];cases aJw p f with
     | false=>rfl
     | true =>
      simp only [Bool.not_true,Bool.false_eq_true,if_false,Bool.true_and];exact aKg p f hn
def incs (d:Int) (l:List Int) (m:List Int):List Int:=l.foldl (fun m e=>m.set e.toNat (m.getD e.toNat 0 + d)) m
theorem aGm (d:Int):∀ (l m:List Int),(incs d l m).length=m.length
 | [],m=>rfl
 | e :: l,m=>by
  show (incs d l (m.set e.toNat (m.getD e.toNat 0 + d))).length=_;rw [aGm d l];simp
theorem aDq (d:Int) (a b m:List Int):incs d (a ++ b) m=incs d b (incs d a m):=by unfold incs;rw [List.foldl_append]
theorem aGn (d:Int) (k:Nat):∀ (l m:List Int),(∀ e ∈ l,0 ≤ e∧e < m.length)→(incs d l m).getD k 0=m.getD k 0 + d * (l.count (k:Int):Nat)
 | [],m,_=>by simp [incs]
 | e :: l,m,h=>by
  have he:=h e (by simp)
  have ih:=aGn d k l (m.set e.toNat (m.getD e.toNat 0 + d)) (fun x hx=>by rw [List.length_set];exact h x (by simp [hx]))
  show (incs d l (m.set e.toNat (m.getD e.toNat 0 + d))).getD k 0=_;rw [ih,List.count_cons];by_cases hk:e.toNat=k
  ·have:(e == (k:Int))=true:=by simp only [beq_iff_eq];omega
   rw [if_pos this];have hg:(m.set e.toNat (m.getD e.toNat 0 + d)).getD k 0=m.getD k 0 + d:=by
    rw [List.getD_eq_getElem?_getD,List.getElem?_set,if_pos hk,if_pos (by omega),hk];rfl
   rw [hg,Int.natCast_add,Int.mul_add];simp only [Int.natCast_one,Int.mul_one];omega
  have:¬ (e == (k:Int))=true:=by simp only [beq_iff_eq];omega
  rw [if_neg this];have hg:(m.set e.toNat (m.getD e.toNat 0 + d)).getD k 0=m.getD k 0:=by
   rw [List.getD_eq_getElem?_getD,List.getElem?_set,if_neg hk,← List.getD_eq_getElem?_getD]
  rw [hg];rfl
structure Bd (n:Nat) (C:Int) (m:List Int):Prop where
 len:m.length=n
 bnd:∀ v ∈ m,0 ≤ v∧v ≤ C
theorem Bd.mono {n:Nat} {C C':Int} {m:List Int} (h:Bd n C m) (hc:C ≤ C'):Bd n C' m:=⟨h.len,fun v hv=>by have:=h.bnd v hv;omega⟩
theorem Bd.getD {n:Nat} {C:Int} {m:List Int} (h:Bd n C m) (hC:0 ≤ C) (k:Nat):0 ≤ m.getD k 0∧m.getD k 0 ≤ C:=by
 rw [List.getD_eq_getElem?_getD];cases hk:m[k]? with
 | none=>exact ⟨Int.le_refl 0,hC⟩
 | some v=>exact h.bnd v (List.mem_of_getElem? hk)
theorem Bd.set {n:Nat} {C d:Int} {m:List Int} (h:Bd n C m) (hC:0 ≤ C) (hd:0 ≤ d) (k:Nat):Bd n (C + d) (m.set k (m.getD k 0 + d)):=⟨by rw [List.length_set];exact h.len,fun v hv=>by
 rcases List.mem_or_eq_of_mem_set hv with h1 | h1
 ·have:=h.bnd v h1;omega
 have:=h.getD hC k;omega⟩
theorem Bd.incs {n:Nat} {d:Int} (hd:0 ≤ d):∀ (l:List Int) {C:Int} {m:List Int},0 ≤ C→Bd n C m→Bd n (C + d * l.length) (Go.OM.incs d l m)
 | [],C,m,hC,h=>by simpa [Go.OM.incs] using h
 | e :: l,C,m,hC,h=>by
  have:=Bd.incs hd l (C:=C + d) (by omega) (h.set hC hd e.toNat)
  refine this.mono ?_;rw [List.length_cons,Int.natCast_add,Int.mul_add];simp only [Int.natCast_one,Int.mul_one];omega
theorem aKz {ρ:Type} (n:Nat) (kids:List Int) (hk:∀ e ∈ kids,0 ≤ e∧e < n) (C:Int) (hC:0 ≤ C) (f:List Int × Int→Option ((List Int × Int) ⊕ ρ)) (fin:List Int→ρ)
  (hf:∀ (m:List Int) (j:Nat) (hj:j < kids.length),Bd n (C + kids.length) m→f (m,j)=some (.inl (m.set kids[j].toNat (m.getD kids[j].toNat 0 + 1),((j + 1:Nat):Int))))
  (he:∀ m:List Int,f (m,kids.length)=some (.inr (fin m))) (m:List Int) (hm:Bd n C m):aI f (m,0)=some (fin (incs 1 kids m)):=by
 have:=cO kids (fun (m:List Int) j=>(m,(j:Int))) (fun j m=>Bd n (C + j) m) (fun m e=>.inl (m.set e.toNat (m.getD e.toNat 0 + 1))) fin f (fun m j hj hI=>by
  left;refine ⟨_,rfl,hf m j hj (hI.mono (by omega)),?_⟩
  have:=hI.set (by omega) (show (0:Int) ≤ 1 by omega) kids[j].toNat
  exact this.mono (by omega)) (fun m _=>he m) m (by simpa using hm)
 rw [dQ] at this;exact this
def aNz (nodes:List GNode):List Int:=nodes.flatMap (·.Kids)
def kc (nodes:List GNode) (k:Nat):Nat:=(aNz nodes).count (k:Int)
theorem zY {nodes:List GNode} (h:okU nodes nodes.length=true) {x:GNode} (hx:x ∈ nodes):x.Kids.length ≤ 12∧(∀ e ∈ x.Kids,0 ≤ e∧e < nodes.length)∧x.Kids.Nodup:=by
 obtain ⟨i,hi,rfl⟩:=List.mem_iff_getElem.1 hx;have hn:=(oF h hi).1;have hg:nodes[i]? = some nodes[i]:=List.getElem?_eq_getElem hi;refine ⟨iA hn hg,fun e he=>?_,?_⟩
 ·have:=lX hn hg e he;omega
 obtain ⟨_,_,_,h3,_⟩:=rO hn;rw [List.nodup_iff_pairwise_ne,List.pairwise_iff_getElem];intro a b ha hb hab e;refine (h3 b hb).2.1 ?_;rw [← e];refine List.mem_iff_getElem.2 ⟨a,by simp only [List.length_take];omega,?_⟩
 rw [List.getElem_take]
theorem kc_le {nodes:List GNode} (h:okU nodes nodes.length=true) (k:Nat):kc nodes k ≤ nodes.length:=by
 have key:∀ l:List GNode,(∀ x ∈ l,x.Kids.Nodup)→(l.flatMap (·.Kids)).count (k:Int) ≤ l.length:=by
  intro l;induction l with
  | nil=>intro _;simp
  | cons x l ih =>
   intro hl;rw [List.flatMap_cons,List.count_append,List.length_cons];have h1:=ih fun y hy=>hl y (by simp [hy])
   have h2:=List.nodup_iff_count.1 (hl x (by simp)) (k:Int)
   omega
 exact key nodes fun x hx=>(zY h hx).2.2
theorem aI8 (nodes:List GNode) (hok:okU nodes nodes.length=true) (hn:nodes.length ≤ 300) (f:List Int × Int→Option ((List Int × Int) ⊕ List Int))
  (hf:∀ (m:List Int) (i:Nat) (hi:i < nodes.length),Bd nodes.length (12 * i) m→f (m,i)=some (.inl (incs 1 nodes[i].Kids m,((i + 1:Nat):Int))))
  (he:∀ m:List Int,f (m,nodes.length)=some (.inr m)):aI f (List.replicate nodes.length 0,0)=some (incs 1 (aNz nodes) (List.replicate nodes.length 0)):=by
 have:=cO nodes (fun (m:List Int) j=>(m,(j:Int))) (fun j m=>Bd nodes.length (12 * j) m) (fun m x=>.inl (incs 1 x.Kids m)) id f (fun m j hj hI=>by
  left;refine ⟨_,rfl,hf m j hj hI,?_⟩;have h12:=(zY hok (List.getElem_mem hj)).1;have:=Bd.incs (show (0:Int) ≤ 1 by omega) nodes[j].Kids (by omega) hI
  exact this.mono (by omega)) (fun m _=>he m) (List.replicate nodes.length 0) ⟨by simp,fun v hv=>by
   have:=(List.mem_replicate.1 hv).2;omega⟩
 rw [dQ] at this;have e:∀ (l:List GNode) (m:List Int),l.foldl (fun m x=>incs 1 x.Kids m) m=incs 1 (l.flatMap (·.Kids)) m:=by
  intro l;induction l with
  | nil=>intro m;rfl
  | cons x l ih=>intro m;rw [List.foldl_cons,List.flatMap_cons,aDq,ih]
 rw [e] at this;exact this
def aM8 (nodes:List GNode):List Int:=incs 1 (aNz nodes) (List.replicate nodes.length 0)
theorem aA2 (nodes:List GNode):(aM8 nodes).length=nodes.length:=by unfold aM8;rw [aGm];simp
theorem xN {nodes:List GNode} (h:okU nodes nodes.length=true) (k:Nat):(aM8 nodes).getD k 0=(kc nodes k:Nat):=by
 unfold aM8;rw [aGn 1 k _ _ (fun e he=>by
  obtain ⟨x,hx,hm⟩:=List.mem_flatMap.1 he;rw [List.length_replicate];exact (zY h hx).2.1 e hm)]
 have:(List.replicate nodes.length (0:Int)).getD k 0=0:=by
  rw [List.getD_eq_getElem?_getD,List.getElem?_replicate];split<;>rfl
 rw [this];unfold kc;omega
theorem aPy (p:GProgram) (hok:okU p.Nodes p.Nodes.length=true) (hn:p.Nodes.length ≤ 300):aI (jC p) (List.replicate p.Nodes.length 0,0)=some (aM8 p.Nodes):=by
 refine aI8 p.Nodes hok hn _ (fun m i hi hI=>?_) (fun m=>by simp [jC])
 obtain ⟨h12,hb,_⟩:=zY hok (List.getElem_mem hi);simp only [jC,aB hi,if_true,aN hi,Option.bind_some];rw [aKz p.Nodes.length p.Nodes[i].Kids hb (12 * i) (by omega) (jB p.Nodes[i]) id (fun m j hj hm=>by
  have hbe:=hb _ (List.getElem_mem hj);have hg:=hm.getD (by omega) p.Nodes[i].Kids[j].toNat
  simp only [jB,aB hj,if_true,aN hj,Option.bind_some];rw [eH hbe.1 (by rw [hm.len];exact hbe.2)]
  have hlt:p.Nodes[i].Kids[j].toNat < m.length:=by rw [hm.len];omega
  have e:m[p.Nodes[i].Kids[j].toNat]=m.getD p.Nodes[i].Kids[j].toNat 0:=by rw [List.getD_eq_getElem?_getD,List.getElem?_eq_getElem hlt];rfl
  rw [e];simp only [Option.bind_some,eC,w64 (n:=m.getD p.Nodes[i].Kids[j].toNat 0 + 1) (by omega) (by omega),bC hj (show p.Nodes[i].Kids.length ≤ 1048576 by omega)]) (fun m=>by simp [jB]) m hI]
 simp only [Option.bind_some,id,bC hi (show p.Nodes.length ≤ 1048576 by omega)]
theorem aPj (nodes:List GNode) (hok:okU nodes nodes.length=true) (hn:nodes.length ≤ 300):pT nodes=some (aM8 nodes):=by
 unfold pT;rw [aDj _ _ _ (by omega) (by omega)]
 simp only [Option.bind_some];rw [aI8 nodes hok hn (kN nodes) (fun m i hi hI=>by
  obtain ⟨h12,hb,_⟩:=zY hok (List.getElem_mem hi);simp only [kN,aB hi,if_true];rw [aKz nodes.length nodes[i].Kids hb (12 * i) (by omega) (kM nodes i) id (fun m j hj hm=>by
   have hbe:=hb _ (List.getElem_mem hj);have hg:=hm.getD (by omega) nodes[i].Kids[j].toNat
   simp only [kM,aN hi,aB hj,if_true,aN hj,Option.bind_some];rw [eH hbe.1 (by rw [hm.len];exact hbe.2)]
   have hlt:nodes[i].Kids[j].toNat < m.length:=by rw [hm.len];omega
   have e:m[nodes[i].Kids[j].toNat]=m.getD nodes[i].Kids[j].toNat 0:=by rw [List.getD_eq_getElem?_getD,List.getElem?_eq_getElem hlt];rfl
   rw [e];simp only [Option.bind_some,eC,w64 (n:=m.getD nodes[i].Kids[j].toNat 0 + 1) (by omega) (by omega),bC hj (show nodes[i].Kids.length ≤ 1048576 by omega)]) (fun m=>by simp [kM,aN hi]) m hI]
  simp only [Option.bind_some,id,bC hi (show nodes.length ≤ 1048576 by omega)]) (fun m=>by simp [kN])]
 rfl
def qW (f:GFn):List Int:=if f.Ret < 0 then [f.Body] else [f.Body,f.Ret]
def yH (p:GProgram) (n:Nat):List Int:=(p.Fns.take n).flatMap qW
def qV (p:GProgram):List Int:=p.Fns.flatMap qW
theorem aF2 (p:GProgram):yH p p.Fns.length=qV p:=by unfold yH qV;rw [List.take_length]
theorem aD9 (p:GProgram) {n:Nat} (h:n < p.Fns.length):yH p (n + 1)=yH p n ++ qW p.Fns[n]:=by
 unfold yH;rw [List.take_add_one,List.getElem?_eq_getElem h,List.flatMap_append];simp
def sK (p:GProgram) (i:Nat):Bool:=match p.Fns[i]? with
 | some f=>fnB p f && jW p f.Name == i
 | none=>false
theorem aAc {p:GProgram} {i:Nat} (h:i < p.Fns.length):sK p i=(fnB p p.Fns[i] && jW p p.Fns[i].Name == i):=by unfold sK;rw [List.getElem?_eq_getElem h]
theorem aAf {p:GProgram} {f:GFn} (h:fnB p f=true):(∀ e ∈ qW f,0 ≤ e∧e < p.Nodes.length)∧0 ≤ f.Body∧f.Body < p.Nodes.length∧f.Ret < p.Nodes.length:=by
 unfold fnB at h;simp only [Bool.and_eq_true] at h;obtain ⟨_,_,_,_,h5,h6⟩:=h;obtain ⟨b1,b2,_⟩:=bodyB_iff.1 h5;have hr:f.Ret < p.Nodes.length:=by
  unfold retB at h6;split at h6
  ·simp only [beq_iff_eq] at h6;omega
  rw [Bool.and_eq_true,inB_iff] at h6;omega
 refine ⟨?_,b1,b2,hr⟩;intro e he;unfold qW at he;split at he
 ·simp only [List.mem_singleton] at he;subst he;exact ⟨b1,b2⟩
 simp only [List.mem_cons,List.not_mem_nil,or_false] at he;rcases he with rfl | rfl
 ·exact ⟨b1,b2⟩
 exact ⟨by omega,hr⟩
def sJ:List Int→List Int→Option (List Int)
 | [],m=>some m
 | r :: rs,m=>if m.getD r.toNat 0=0 then sJ rs (m.set r.toNat (-1)) else none
theorem wB:∀ (a b m:List Int),sJ (a ++ b) m=(sJ a m).bind (sJ b)
 | [],b,m=>rfl
 | r :: a,b,m=>by
  simp only [List.cons_append,sJ];split
  ·exact wB a b _
  rfl
theorem aF9 (n:Nat):∀ (rs m:List Int),m.length=n→(∀ r ∈ rs,0 ≤ r∧r < n) →
  (match sJ rs m with
   | some m'=>(rs.Nodup∧∀ r ∈ rs,m.getD r.toNat 0=0)∧m'.length=n∧∀ k:Nat,m'.getD k 0=if (k:Int) ∈ rs then -1 else m.getD k 0
   | none=>¬ (rs.Nodup∧∀ r ∈ rs,m.getD r.toNat 0=0))
 | [],m,hm,_=>by simp [sJ,hm]
 | r :: rs,m,hm,h=>by
  have hr:=h r (by simp)
  simp only [sJ];by_cases h0:m.getD r.toNat 0=0
  ·rw [if_pos h0];have ih:=aF9 n rs (m.set r.toNat (-1)) (by rw [List.length_set];exact hm) (fun x hx=>h x (by simp [hx]))
   have hget:∀ k:Nat,(m.set r.toNat (-1)).getD k 0=if (k:Int)=r then -1 else m.getD k 0:=by
    intro k;rw [List.getD_eq_getElem?_getD,List.getElem?_set];by_cases hk:r.toNat=k
    ·rw [if_pos hk,if_pos (by omega),if_pos (by omega)];rfl
    rw [if_neg hk,if_neg (by omega),← List.getD_eq_getElem?_getD]
   have hre:∀ x ∈ rs,((x.toNat:Nat):Int)=x:=fun x hx=>by have:=h x (by simp [hx]);omega
   split at ih
   ·rename_i m' hm';try rw [hm']
    obtain ⟨⟨i1,i2⟩,i3,i4⟩:=ih;have hnr:r ∉ rs:=fun hm=>by
     have:=i2 r hm;rw [hget,hre r hm,if_pos rfl] at this;omega
    refine ⟨⟨List.nodup_cons.2 ⟨hnr,i1⟩,fun x hx=>?_⟩,i3,fun k=>?_⟩
    ·rcases List.mem_cons.1 hx with rfl | hx
     ·exact h0
     have:=i2 x hx;rw [hget,hre x hx] at this;split at this
     ·omega
     exact this
    rw [i4,hget];by_cases h1:(k:Int) ∈ rs
    ·rw [if_pos h1,if_pos (by simp [h1])]
    rw [if_neg h1];by_cases h2:(k:Int)=r
    ·rw [if_pos h2,if_pos (by simp [h2])]
    rw [if_neg h2,if_neg (by simp [h1,h2])]
   rename_i hm';try rw [hm']
   rintro ⟨j1,j2⟩;rw [List.nodup_cons] at j1;refine ih ⟨j1.2,fun x hx=>?_⟩;rw [hget,hre x hx];have:¬ x=r:=fun e=>j1.1 (e ▸ hx);rw [if_neg this];exact j2 x (by simp [hx])
  rw [if_neg h0];rintro ⟨_,j2⟩;exact h0 (j2 r (by simp))
def aEf (n:Nat):Bool:=n == 1 || n == 1000
def uX (p:GProgram):Bool:=inB p.Nodes.length 1 300 && (inB p.Fns.length 1 8 && (okU p.Nodes p.Nodes.length && ((List.range p.Fns.length).all (sK p) && (List.range p.Nodes.length).all fun k=>aEf (kc p.Nodes k + 1000 * (qV p).count (k:Int)))))
theorem aMs {nodes:List GNode} (h:1 ≤ nodes.length):(aAm nodes ((nodes.length:Int) - 1) == 0) = !(okU nodes nodes.length):=by
 unfold aAm;have e:((nodes.length:Int) - 1).toNat=nodes.length - 1:=by omega
 rw [e,show nodes.length - 1 + 1=nodes.length by omega]
 cases hok:okU nodes nodes.length with
 | true =>
  rw [if_pos ⟨by omega,by omega,rfl⟩]
  have:=kI nodes (nodes.length - 1);have hne:¬ sV nodes (nodes.length - 1)=0:=by omega
  simp [hne]
 | false=>rw [if_neg (fun h=>by cases h.2.2)];rfl
theorem aMi (p:GProgram) (f:GFn) (hf:fnB p f=true) (m:List Int) (hm:m.length=p.Nodes.length):aI (bK f) (m,0)=some (match sJ (qW f) m with | some m'=>.inl m' | none=>.inr (.inr (.inr false))):=by
 obtain ⟨_,b0,b1,r1⟩:=aAf hf;have hl:(([f.Body,f.Ret]:List Int).length:Int)=2:=rfl;have g0:aP [f.Body,f.Ret] 0=some f.Body:=rfl;have g1:aP [f.Body,f.Ret] 1=some f.Ret:=rfl;have d0:decide ((0:Int) < 2)=true:=rfl;have d1:decide ((1:Int) < 2)=true:=rfl;have d2:decide ((2:Int) < 2)=false:=rfl;have w0:IntKind.wrap .i64 ((0:Int) + 1)=1:=rfl;have w1:IntKind.wrap .i64 ((1:Int) + 1)=2:=rfl;have hgd:∀ (m:List Int) (v:Int),m.length=p.Nodes.length→0 ≤ v→v < p.Nodes.length→aP m v=some (m.getD v.toNat 0):=fun m v hm h0 h1=>by
  have hlt:v.toNat < m.length:=by omega
  rw [eH h0 (by omega),List.getD_eq_getElem?_getD,List.getElem?_eq_getElem hlt];rfl
 have step1:∀ m:List Int,m.length=p.Nodes.length→aI (bK f) (m,1)=some (match sJ (if f.Ret < 0 then [] else [f.Ret]) m with | some m'=>.inl m' | none=>.inr (.inr (.inr false))):=by
  intro m hm;by_cases hr:f.Ret < 0
  ·have:bK f (m,1)=some (.inl (m,2)):=by
    simp only [bK,hl,d1,if_true,g1,Option.bind_some,w1];rw [if_pos (by simpa using hr)]
   rw [rP this,if_pos hr,lG (r:=.inl m) (by simp only [bK,hl,d2,Bool.false_eq_true,if_false])]
   rfl
  rw [if_neg hr];simp only [sJ];by_cases hz:m.getD f.Ret.toNat 0=0
  ·have:bK f (m,1)=some (.inl (m.set f.Ret.toNat (-1),2)):=by
    simp only [bK,hl,d1,if_true,g1,Option.bind_some,w1];rw [if_neg (by simpa using hr),hgd m f.Ret hm (by omega) r1]
    simp only [Option.bind_some,hz,eC]
    rfl
   rw [rP this,if_pos hz,lG (r:=.inl (m.set f.Ret.toNat (-1))) (by simp only [bK,hl,d2,Bool.false_eq_true,if_false])]
  have:bK f (m,1)=some (.inr (.inr (.inr (.inr false)))):=by
   simp only [bK,hl,d1,if_true,g1,Option.bind_some,w1];rw [if_neg (by simpa using hr),hgd m f.Ret hm (by omega) r1]
   simp only [Option.bind_some];rw [if_pos (by simpa using hz)]
  rw [lG this,if_neg hz]
 have hsplit:qW f=f.Body :: (if f.Ret < 0 then [] else [f.Ret]):=by unfold qW;split<;>rfl
 rw [hsplit];simp only [sJ];have hb:¬ f.Body < 0:=by omega
 by_cases hz:m.getD f.Body.toNat 0=0
 ·have:bK f (m,0)=some (.inl (m.set f.Body.toNat (-1),1)):=by
   simp only [bK,hl,d0,if_true,g0,Option.bind_some,w0];rw [if_neg (by simpa using hb),hgd m f.Body hm b0 b1]
   simp only [Option.bind_some,hz,eC]
   rfl
  rw [rP this,if_pos hz,step1 _ (by rw [List.length_set];exact hm)]
 have:bK f (m,0)=some (.inr (.inr (.inr (.inr false)))):=by
  simp only [bK,hl,d0,if_true,g0,Option.bind_some,w0];rw [if_neg (by simpa using hb),hgd m f.Body hm b0 b1]
  simp only [Option.bind_some];rw [if_pos (by simpa using hz)]
 rw [lG this,if_neg hz]
theorem aI2:∀ (rs m:List Int) {m':List Int},sJ rs m=some m'→m'.length=m.length
 | [],m,m',h=>by cases h;rfl
 | r :: rs,m,m',h=>by
  simp only [sJ] at h;split at h
  ·rw [aI2 rs _ h];simp
  cases h
theorem aMj (p:GProgram) (hn:p.Nodes.length ≤ 300) (hp:p.Fns.length ≤ 8) (m0:List Int) (hm0:m0.length=p.Nodes.length):aI (fX p) (m0,0)=some (if (List.range p.Fns.length).all (sK p)=true then (match sJ (qV p) m0 with | some m=>.inl m | none=>.inr false) else .inr false):=by
 obtain ⟨r,h1,h2⟩:=dY (f:=fX p) (fun s:List Int × Int=>∃ i:Nat,s.2=i∧i ≤ p.Fns.length∧(∀ j,j < i→sK p j=true)∧sJ (yH p i) m0=some s.1) (fun s=>p.Fns.length - s.2.toNat) (fun r=>r=if (List.range p.Fns.length).all (sK p)=true then (match sJ (qV p) m0 with | some m=>.inl m | none=>.inr false) else .inr false) (by
  rintro ⟨m,i⟩ ⟨i,rfl,hi,hg,hm⟩;simp only at hm hi;have hml:m.length=p.Nodes.length:=by rw [aI2 _ _ hm];exact hm0
  by_cases hlt:i < p.Fns.length
  ·have hbad:(sK p i=false)→(List.range p.Fns.length).all (sK p)=false:=by
    intro hb;rw [Bool.eq_false_iff];intro h;rw [List.all_eq_true.1 h i (List.mem_range.2 hlt)] at hb;cases hb
   have hgi:=aAc hlt;have hcond:(Option.bind (if (!(fnB p p.Fns[i]))=true then some true else some (jW p p.Fns[i].Name != (i:Int))) fun v:Bool=>some v)=some (!(sK p i)):=by
    rw [hgi];cases fnB p p.Fns[i]<;>rfl
   have hcond2:(if (!(fnB p p.Fns[i]))=true then some true else some (jW p p.Fns[i].Name != (i:Int)))=some (!(sK p i)):=by
    rw [hgi];cases fnB p p.Fns[i]<;>rfl
   simp only [fX,aB hlt,if_true,aN hlt,Option.bind_some,aIe p _ (show p.Nodes.length ≤ 1048576 by omega),sT p _ (show p.Fns.length ≤ 1048576 by omega),hcond2]
   cases hgb:sK p i with
   | false =>
    right;refine ⟨.inr false,rfl,?_⟩;rw [hbad hgb];rfl
   | true =>
    simp only [Bool.not_true,Bool.false_eq_true,if_false];have hfb:fnB p p.Fns[i]=true:=by rw [hgi,Bool.and_eq_true] at hgb;exact hgb.1
    rw [aMi p _ hfb m hml];simp only [Option.bind_some];have hsucc:sJ (yH p (i + 1)) m0=sJ (qW p.Fns[i]) m:=by
     rw [aD9 p hlt,wB,hm];rfl
    cases hmr:sJ (qW p.Fns[i]) m with
    | some m' =>
     left;refine ⟨(m',((i + 1:Nat):Int)),by simp only [bC hlt (show p.Fns.length ≤ 1048576 by omega)],⟨i + 1,rfl,by omega,fun j hj=>?_,by rw [hsucc];exact hmr⟩,by simp only [Int.toNat_natCast];omega⟩
     by_cases e:j=i
     ·subst e;exact hgb
     exact hg j (by omega)
    | none =>
     right;refine ⟨.inr false,rfl,?_⟩;have:sJ (qV p) m0=none:=by
      have hsp:qV p=yH p (i + 1) ++ (p.Fns.drop (i + 1)).flatMap qW:=by
       unfold qV yH;rw [← List.flatMap_append,List.take_append_drop]
      rw [hsp,wB,hsucc,hmr];rfl
     rw [this];split<;>rfl
  right;have:i=p.Fns.length:=by omega
  subst this;refine ⟨.inl m,by simp [fX],?_⟩
  rw [if_pos (List.all_eq_true.2 fun j hj=>hg j (List.mem_range.1 hj)),← aF2,hm]) (m0,0) ⟨0,rfl,by omega,fun j hj=>by omega,rfl⟩
 rw [h1,h2]
theorem aDd (n:Nat) (m:List Int) (q:Int→Bool) (hm:m.length=n):m.all q=(List.range n).all fun k=>q (m.getD k 0):=by
 rw [Bool.eq_iff_iff,List.all_eq_true,List.all_eq_true];constructor
 ·intro h k hk;have hk':k < m.length:=by rw [hm];exact List.mem_range.1 hk
  rw [List.getD_eq_getElem?_getD,List.getElem?_eq_getElem hk'];exact h _ (List.getElem_mem hk')
 intro h v hv;obtain ⟨k,hk,rfl⟩:=List.mem_iff_getElem.1 hv;have:=h k (List.mem_range.2 (by omega))
 rw [List.getD_eq_getElem?_getD,List.getElem?_eq_getElem hk] at this;exact this
theorem aHp {p:GProgram} (h:(List.range p.Fns.length).all (sK p)=true):∀ e ∈ qV p,0 ≤ e∧e < p.Nodes.length:=by
 intro e he;obtain ⟨f,hf,hm⟩:=List.mem_flatMap.1 he;obtain ⟨i,hi,rfl⟩:=List.mem_iff_getElem.1 hf;have:=List.all_eq_true.1 h i (List.mem_range.2 hi);rw [aAc hi,Bool.and_eq_true] at this;exact (aAf this.1).1 e hm
theorem uF (p:GProgram) (hn:p.Nodes.length ≤ 1048576) (hp:p.Fns.length ≤ 1048576):kB p=some (uX p):=by
 unfold kB uX;simp only [eE,Option.bind_some,gH hn,yN p.Nodes hn];cases h1:inB p.Nodes.length 1 300 with
 | false=>rfl
 | true =>
  have h1':=inB_iff.1 h1;cases h2:inB p.Fns.length 1 8 with
  | false=>rfl
  | true =>
   have h2':=inB_iff.1 h2;simp only [Bool.not_true,Bool.false_eq_true,if_false,Bool.true_and,Option.bind_some,aMs (show 1 ≤ p.Nodes.length by omega)]
   cases h3:okU p.Nodes p.Nodes.length with
   | false=>rfl
   | true =>
    simp only [Bool.not_true,Bool.false_eq_true,if_false,Bool.true_and];rw [aDj _ _ _ (by omega) (by omega)]
    simp only [Option.bind_some];rw [aPy p h3 (by omega)]
    simp only [Option.bind_some];rw [aMj p (by omega) (by omega) _ (aA2 _)]
    cases h4:(List.range p.Fns.length).all (sK p) with
    | false=>rfl
    | true =>
     simp only [if_true,Option.bind_some,Bool.true_and];have hb:=aHp h4;have hsp:=aF9 p.Nodes.length (qV p) (aM8 p.Nodes) (aA2 _) hb;have hmet:∀ r ∈ qV p,(aM8 p.Nodes).getD r.toNat 0=(kc p.Nodes r.toNat:Nat):=fun r _=>xN h3 _;cases hmr:sJ (qV p) (aM8 p.Nodes) with
     | none =>
      rw [hmr] at hsp;simp only at hsp ⊢
      congr 1
      rw [eq_comm,Bool.eq_false_iff];intro hall;rw [List.all_eq_true] at hall;refine hsp ⟨List.nodup_iff_count.2 fun a=>?_,fun r hr=>?_⟩
      ·by_cases ha:a ∈ qV p
       ·have hab:=hb a ha;have:=hall a.toNat (List.mem_range.2 (by omega))
        rw [show ((a.toNat:Nat):Int)=a by omega] at this
        simp only [aEf,Bool.or_eq_true,beq_iff_eq] at this;omega
       rw [List.count_eq_zero.2 ha];omega
      have hrb:=hb r hr;have:=hall r.toNat (List.mem_range.2 (by omega))
      rw [show ((r.toNat:Nat):Int)=r by omega] at this
      simp only [aEf,Bool.or_eq_true,beq_iff_eq] at this;have hc:=List.count_pos_iff.2 hr;rw [xN h3];omega
     | some m =>
      rw [hmr] at hsp;obtain ⟨⟨s1,s2⟩,s3,s4⟩:=hsp;simp only;rw [rQ m (fun v=>v == 1 || v == -1) (jA m) (fun k hk=>by
       simp only [jA,aB hk,if_true,aN hk,Option.bind_some,bC hk (show m.length ≤ 1048576 by omega)]
       by_cases e1:m[k]=1
       ·simp [e1]
       by_cases e2:m[k] = -1<;>simp [e1,e2]) (by simp [jA])]
      have hfin:m.all (fun v=>v == 1 || v == -1)=(List.range p.Nodes.length).all fun k=>aEf (kc p.Nodes k + 1000 * (qV p).count (k:Int)):=by
       rw [aDd p.Nodes.length m _ s3,Bool.eq_iff_iff,List.all_eq_true,List.all_eq_true];have each:∀ k,k < p.Nodes.length→((m.getD k 0 == 1 || m.getD k 0 == -1)=true ↔ aEf (kc p.Nodes k + 1000 * (qV p).count (k:Int))=true):=by
        intro k hk;have hkc:=kc_le h3 k;rw [s4,xN h3];simp only [aEf,Bool.or_eq_true,beq_iff_eq];by_cases hm:(k:Int) ∈ qV p
        ·rw [if_pos hm];have hc:=List.count_pos_iff.2 hm;have hc1:=List.nodup_iff_count.1 s1 (k:Int);have:=s2 _ hm;rw [Int.toNat_natCast,xN h3] at this;omega
        rw [if_neg hm,List.count_eq_zero.2 hm];omega
       constructor
       ·intro h k hk;exact (each k (List.mem_range.1 hk)).1 (h k hk)
       intro h k hk;exact (each k (List.mem_range.1 hk)).2 (h k hk)
      rw [hfin];cases (List.range p.Nodes.length).all fun k=>aEf (kc p.Nodes k + 1000 * (qV p).count (k:Int))<;>rfl
theorem aHk (p:GProgram) (hn:p.Nodes.length ≤ 300) (hp:p.Fns.length ≤ 8) (C:Int) (hC:0 ≤ C) (hC2:C ≤ 1000000) (m:List Int) (hm:Bd p.Nodes.length C m) (i:Nat) (hi:i < p.Fns.length):dP p (m,i)=some (if sK p i=true then .inl (incs 1000 (qW p.Fns[i]) m,((i + 1:Nat):Int)) else .inr (.inr false)):=by
 simp only [dP,aB hi,if_true,aG3 p i hi (show p.Nodes.length ≤ 1048576 by omega) (show p.Fns.length ≤ 1048576 by omega),Option.bind_some,aN hi]
 rw [← aAc hi];cases hg:sK p i with
 | false=>rfl
 | true =>
  simp only [Bool.not_true,Bool.false_eq_true,if_false,if_true];have hfb:fnB p p.Fns[i]=true:=by rw [aAc hi,Bool.and_eq_true] at hg;exact hg.1
  obtain ⟨_,b0,b1,r1⟩:=aAf hfb;generalize p.Fns[i]=f at *;have hgd:∀ (m:List Int) (v:Int),m.length=p.Nodes.length→0 ≤ v→v < p.Nodes.length→aP m v=some (m.getD v.toNat 0):=fun m v hm h0 h1=>by
   have hlt:v.toNat < m.length:=by omega
   rw [eH h0 (by omega),List.getD_eq_getElem?_getD,List.getElem?_eq_getElem hlt];rfl
  have g0:=hm.getD hC f.Body.toNat;have hm1:=hm.set hC (show (0:Int) ≤ 1000 by omega) f.Body.toNat
  have g1:=hm1.getD (by omega) f.Ret.toNat
  rw [hgd m f.Body hm.len b0 b1];simp only [Option.bind_some,eC,w64 (n:=m.getD f.Body.toNat 0 + 1000) (by omega) (by omega),bC hi (show p.Fns.length ≤ 1048576 by omega)]
  unfold qW;by_cases hr:f.Ret < 0
  ·have hr':¬ f.Ret ≥ 0:=by omega
   rw [if_neg (by simpa using hr'),if_pos hr]
   rfl
  have hr':f.Ret ≥ 0:=by omega
  rw [if_pos (by simpa using hr'),if_neg hr,hgd _ f.Ret hm1.len (by omega) r1]
  simp only [Option.bind_some,eC];rw [w64 (by omega) (by omega)]
  rfl
theorem aLx (p:GProgram) (hn:p.Nodes.length ≤ 300) (hp:p.Fns.length ≤ 8) (m0:List Int) (C:Int) (hC:0 ≤ C) (hC2:C ≤ 10000) (hm0:Bd p.Nodes.length C m0):aI (dP p) (m0,0)=some (if (List.range p.Fns.length).all (sK p)=true then .inl (incs 1000 (qV p) m0) else .inr false):=by
 obtain ⟨r,h1,h2⟩:=dY (f:=dP p) (fun s:List Int × Int=>∃ i:Nat,s.2=i∧i ≤ p.Fns.length∧(∀ j,j < i→sK p j=true)∧s.1=incs 1000 (yH p i) m0∧Bd p.Nodes.length (C + 2000 * i) s.1) (fun s=>p.Fns.length - s.2.toNat) (fun r=>r=if (List.range p.Fns.length).all (sK p)=true then .inl (incs 1000 (qV p) m0) else .inr false) (by
  rintro ⟨m,i⟩ ⟨i,rfl,hi,hg,hm,hb⟩;simp only at hm hi hb;by_cases hlt:i < p.Fns.length
  ·have hst:=aHk p hn hp (C + 2000 * i) (by omega) (by omega) m hb i hlt
   cases hgb:sK p i with
   | false =>
    right;refine ⟨.inr false,by rw [hst,hgb];rfl,?_⟩
    have:(List.range p.Fns.length).all (sK p)=false:=by
     rw [Bool.eq_false_iff];intro h;rw [List.all_eq_true.1 h i (List.mem_range.2 hlt)] at hgb;cases hgb
    rw [this];rfl
   | true =>
    left;refine ⟨_,by rw [hst,hgb,if_pos rfl],⟨i + 1,rfl,by omega,fun j hj=>?_,?_,?_⟩,by simp only [Int.toNat_natCast];omega⟩
    ·by_cases e:j=i
     ·subst e;exact hgb
     exact hg j (by omega)
    ·simp only;rw [aD9 p hlt,aDq,← hm]
    have:=Bd.incs (show (0:Int) ≤ 1000 by omega) (qW p.Fns[i]) (by omega) hb
    refine this.mono ?_;have:(qW p.Fns[i]).length ≤ 2:=by unfold qW;split<;>simp
    omega
  right;have:i=p.Fns.length:=by omega
  subst this;refine ⟨.inl m,by simp [dP],?_⟩
  rw [if_pos (List.all_eq_true.2 fun j hj=>hg j (List.mem_range.1 hj)),← aF2,hm]) (m0,0) ⟨0,rfl,by omega,fun j hj=>by omega,rfl,hm0.mono (by omega)⟩
 rw [h1,h2]
theorem lV (p:GProgram) (hn:p.Nodes.length ≤ 1048576) (hp:p.Fns.length ≤ 1048576):iJ p=some (uX p):=by
 unfold iJ uX;simp only [fA,Option.bind_some,gH hn];cases h1:inB p.Nodes.length 1 300 with
 | false=>rfl
 | true =>
  have h1':=inB_iff.1 h1;cases h2:inB p.Fns.length 1 8 with
  | false=>rfl
  | true =>
   have h2':=inB_iff.1 h2;have hc:((p.Nodes.length:Int) - 1)=((p.Nodes.length - 1:Nat):Int):=by omega
   simp only [Bool.not_true,Bool.false_eq_true,if_false,Bool.true_and,Option.bind_some];rw [hc,zN p.Nodes hn _ (by omega)]
   simp only [Option.bind_some,aB5];rw [show p.Nodes.length - 1 + 1=p.Nodes.length by omega,gH hn,hc,aAd,xJ p.Nodes (show p.Nodes.length - 1 < p.Nodes.length by omega),show p.Nodes.length - 1 + 1=p.Nodes.length by omega]
   simp only [Option.bind_some];cases h3:okU p.Nodes p.Nodes.length with
   | false=>rfl
   | true =>
    have hpos:=kI p.Nodes (p.Nodes.length - 1);have hne:¬ sV p.Nodes (p.Nodes.length - 1)=0:=by omega
    simp only [if_true,Bool.true_and];rw [if_neg (by simpa using hne),aPj p.Nodes h3 (by omega)]
    simp only [Option.bind_some];have hB:Bd p.Nodes.length 300 (aM8 p.Nodes):=⟨aA2 _,fun v hv=>by
     obtain ⟨k,hk,rfl⟩:=List.mem_iff_getElem.1 hv;have h:=xN h3 k;rw [List.getD_eq_getElem?_getD,List.getElem?_eq_getElem hk,Option.getD_some] at h;have:=kc_le h3 k;omega⟩
    rw [aLx p (by omega) (by omega) _ 300 (by omega) (by omega) hB]
    cases h4:(List.range p.Fns.length).all (sK p) with
    | false=>rfl
    | true =>
     simp only [if_true,Option.bind_some,Bool.true_and];have hb:=aHp h4;have hl:(incs 1000 (qV p) (aM8 p.Nodes)).length=p.Nodes.length:=by rw [aGm,aA2]
     have hval:∀ k,(incs 1000 (qV p) (aM8 p.Nodes)).getD k 0=((kc p.Nodes k + 1000 * (qV p).count (k:Int):Nat):Int):=by
      intro k;rw [aGn 1000 k _ _ (fun e he=>by rw [aA2];exact hb e he),xN h3]
      omega
     generalize hmm:incs 1000 (qV p) (aM8 p.Nodes)=m at *;rw [rQ m (fun v=>v == 1 || v == 1000) (fS m) (fun k hk=>by
      simp only [fS,aB hk,if_true,aN hk,Option.bind_some,bC hk (show m.length ≤ 1048576 by omega)]
      by_cases e1:m[k]=1
      ·simp [e1]
      by_cases e2:m[k]=1000<;>simp [e1,e2]) (by simp [fS])]
     have hfin:m.all (fun v=>v == 1 || v == 1000)=(List.range p.Nodes.length).all fun k=>aEf (kc p.Nodes k + 1000 * (qV p).count (k:Int)):=by
      rw [aDd p.Nodes.length m _ hl]
      congr 1
      funext k;rw [hval,Bool.eq_iff_iff];simp only [aEf,Bool.or_eq_true,beq_iff_eq];omega
     rw [hfin];cases (List.range p.Nodes.length).all fun k=>aEf (kc p.Nodes k + 1000 * (qV p).count (k:Int))<;>rfl
end Go.OM
namespace Go.OM
theorem aAr {α:Type} {n:Nat} {l:List α} (h:l.length ≤ 1048576) (hn:n ≤ 64):bO n [] l=some l:=aJz h hn
def NL (l:List GNode):Prop:=∀ x ∈ l,GNode.le 1048576 x
theorem aE8 (f:GFn) (h:f.Params.length ≤ 1048576):nH f=some f:=by
 unfold nH;rw [aAr h (by omega)]
 rfl
theorem aIp {α ρ:Type} (l:List α) (hl:l.length ≤ 1048576) (f:List α × Int→Option ((List α × Int) ⊕ ρ)) (fin:List α→ρ)
  (hf:∀ (o:List α) (k:Nat) (hk:k < l.length),o.length=k→f (o,k)=some (.inl (o ++ [l[k]],((k + 1:Nat):Int)))) (he:∀ o:List α,f (o,l.length)=some (.inr (fin o))):aI f ([],0)=some (fin l):=by
 obtain ⟨r,h1,h2⟩:=dY (f:=f) (fun s:List α × Int=>∃ k:Nat,s.2=k∧k ≤ l.length∧s.1=l.take k) (fun s=>l.length - s.2.toNat) (fun r=>r=fin l) (by
  rintro ⟨o,i⟩ ⟨k,rfl,hk,ho⟩;simp only at ho hk;by_cases hlt:k < l.length
  ·left;refine ⟨_,hf o k hlt (by rw [ho,List.length_take];omega),⟨k + 1,rfl,by omega,?_⟩,by simp only [Int.toNat_natCast];omega⟩
   simp only;rw [ho,List.take_add_one,List.getElem?_eq_getElem hlt];rfl
  right;have:k=l.length:=by omega
  subst this;rw [List.take_length] at ho;exact ⟨_,he o,by rw [ho]⟩) ([],0) ⟨0,rfl,by omega,by simp⟩
 rw [h1,h2]
theorem aIq (l:List GNode) (hl:l.length ≤ 1048576) (hN:NL l):mV l=some l:=by
 unfold mV;rw [aIp l hl (iZ l) (fun o=>o) (fun o k hk ho=>by
  have hk2:=(hN _ (List.getElem_mem hk)).2;have hc:oJ (l[k]).Kids=some (l[k]).Kids:=by unfold oJ;rw [aAr hk2 (by omega)];rfl
  simp only [iZ,aB hk,if_true,aN hk,Option.bind_some,hc,aEw (show o.length ≤ 1048576 by omega) (show 56 ≤ 64 by omega),bC hk hl]) (fun o=>by simp [iZ])]
 rfl
theorem aHl (l:List GNode) (hl:l.length ≤ 1048576) (hN:NL l):nU l=some l:=by
 unfold nU;rw [aIp l hl (jS l) (fun o=>o) (fun o k hk ho=>by
  have hk2:=(hN _ (List.getElem_mem hk)).2;simp only [jS,aB hk,if_true,aN hk,Option.bind_some,aAr hk2 (show 8 ≤ 64 by omega),aEw (show o.length ≤ 1048576 by omega) (show 56 ≤ 64 by omega),bC hk hl]) (fun o=>by simp [jS])]
 rfl
theorem aFd (p:GProgram) (h:GProgram.le 1048576 p):jH p=some p:=by
 obtain ⟨⟨hn,hN⟩,hF,hFl⟩:=h;unfold jH;rw [aHl _ hn hN];simp only [Option.bind_some];obtain ⟨r,h1,h2⟩:=dY (f:=kO p) (fun s:Int × GProgram=>∃ k:Nat,s.1=k∧k ≤ p.Fns.length∧s.2=⟨p.Nodes,p.Fns.take k⟩) (fun s=>p.Fns.length - s.1.toNat) (fun r=>r=p) (by
  rintro ⟨i,v⟩ ⟨k,rfl,hk,rfl⟩;try simp only at hk
  by_cases hlt:k < p.Fns.length
  ·left;have hpar:=(hFl _ (List.getElem_mem hlt)).2.1;refine ⟨(((k + 1:Nat):Int),⟨p.Nodes,p.Fns.take (k + 1)⟩),?_,⟨k + 1,rfl,by omega,rfl⟩,by simp only [Int.toNat_natCast];omega⟩
   simp only [kO,aB hlt,if_true,aN hlt,Option.bind_some,aAr hpar (show 24 ≤ 64 by omega),aEw (show (p.Fns.take k).length ≤ 1048576 by rw [List.length_take];omega) (show 64 ≤ 64 by omega),bC hlt hF]
   rw [List.take_add_one,List.getElem?_eq_getElem hlt];rfl
  right;have:k=p.Fns.length:=by omega
  subst this;refine ⟨⟨p.Nodes,p.Fns.take p.Fns.length⟩,by simp [kO],?_⟩
  rw [List.take_length]) (0,⟨p.Nodes,[]⟩) ⟨0,rfl,by omega,by simp⟩
 rw [h1,h2];rfl
theorem aEu (p:GProgram) (h:GProgram.le 1048576 p):fG p=some p∧jH p=some p:=by
 refine ⟨?_,aFd p h⟩;obtain ⟨⟨hn,hN⟩,hF,hFl⟩:=h;unfold fG;rw [aIq _ hn hN];simp only [Option.bind_some];obtain ⟨r,h1,h2⟩:=dY (f:=eR p) (fun s:Int × GProgram=>∃ k:Nat,s.1=k∧k ≤ p.Fns.length∧s.2=⟨p.Nodes,p.Fns.take k⟩) (fun s=>p.Fns.length - s.1.toNat) (fun r=>r=p) (by
  rintro ⟨i,v⟩ ⟨k,rfl,hk,rfl⟩;try simp only at hk
  by_cases hlt:k < p.Fns.length
  ·left;have hpar:=(hFl _ (List.getElem_mem hlt)).2.1;refine ⟨(((k + 1:Nat):Int),⟨p.Nodes,p.Fns.take (k + 1)⟩),?_,⟨k + 1,rfl,by omega,rfl⟩,by simp only [Int.toNat_natCast];omega⟩
   simp only [eR,aB hlt,if_true,aN hlt,Option.bind_some,aE8 _ hpar,aEw (show (p.Fns.take k).length ≤ 1048576 by rw [List.length_take];omega) (show 64 ≤ 64 by omega),bC hlt hF]
   rw [List.take_add_one,List.getElem?_eq_getElem hlt];rfl
  right;have:k=p.Fns.length:=by omega
  subst this;refine ⟨⟨p.Nodes,p.Fns.take p.Fns.length⟩,by simp [eR],?_⟩
  rw [List.take_length]) (0,⟨p.Nodes,[]⟩) ⟨0,rfl,by omega,by simp⟩
 rw [h1,h2];rfl
end Go.OM
namespace Go.OM
open Classical in
noncomputable def aC8 (n:Nat) (P:Nat→Prop):List Int:=((List.range n).filter fun j=>decide (P j)).map fun k:Nat=>(k:Int)
theorem mem_setL {n:Nat} {P:Nat→Prop} {x:Int}:x ∈ aC8 n P ↔ 0 ≤ x∧x < n∧P x.toNat:=by
 unfold aC8;rw [List.mem_map];constructor
 ·rintro ⟨j,hj,rfl⟩;obtain ⟨h1,h2⟩:=List.mem_filter.1 hj;have:=List.mem_range.1 h1;exact ⟨by omega,by omega,by simpa using h2⟩
 rintro ⟨h1,h2,h3⟩;refine ⟨x.toNat,List.mem_filter.2 ⟨List.mem_range.2 (by omega),by simpa using h3⟩,by omega⟩
theorem aD7 (n:Nat) (P:Nat→Prop):(aC8 n P).Pairwise (· < ·):=by
 unfold aC8;refine List.Pairwise.map _ (fun a b h=>?_) (List.Pairwise.filter _ List.pairwise_lt_range);omega
theorem zO (n:Nat) (P:Nat→Prop):(aC8 n P).length ≤ n:=by
 unfold aC8;rw [List.length_map];have:=List.length_filter_le (fun j=>@decide (P j) (Classical.propDecidable _)) (List.range n);rw [List.length_range] at this;exact this
theorem xO {l:List Int} (h:l.Pairwise (· < ·)):l.Nodup:=by
 rw [List.nodup_iff_pairwise_ne];exact h.imp fun h=>by omega
theorem aI4 {a b:List Int} (ha:a.Pairwise (· < ·)) (hb:b.Pairwise (· < ·)) (h:∀ x,x ∈ a ↔ x ∈ b):a=b:=by
 refine List.Perm.eq_of_pairwise (le:=fun x y:Int=>x < y) (fun x y _ _ h1 h2=>by omega) ha hb ?_
 exact (List.perm_ext_iff_of_nodup (xO ha) (xO hb)).2 h
theorem xI {n:Nat} {P Q:Nat→Prop} (h:∀ j,j < n→(P j ↔ Q j)):aC8 n P=aC8 n Q:=by
 refine aI4 (aD7 _ _) (aD7 _ _) fun x=>?_;rw [mem_setL,mem_setL];constructor
 ·rintro ⟨h1,h2,h3⟩;exact ⟨h1,h2,(h _ (by omega)).1 h3⟩
 rintro ⟨h1,h2,h3⟩;exact ⟨h1,h2,(h _ (by omega)).2 h3⟩
theorem aNe {n:Nat} {P:Nat→Prop} {l:List Int} (hl:l.Pairwise (· < ·)) (h:∀ x,x ∈ l ↔ 0 ≤ x∧x < n∧P x.toNat):l=aC8 n P:=aI4 hl (aD7 _ _) fun x=>by rw [h,mem_setL]
theorem aD6 {n:Nat} {P:Nat→Prop} {l:List Int} (hl:l.Nodup) (h:∀ x,x ∈ l ↔ 0 ≤ x∧x < n∧P x.toNat):(l.mergeSort fun x y=>decide (x ≤ y))=aC8 n P:=by
 have hp:=List.mergeSort_perm l (fun x y=>decide (x ≤ y));have hs:=List.pairwise_mergeSort (le:=fun x y:Int=>decide (x ≤ y)) (fun a b c h1 h2=>by simp only [decide_eq_true_eq] at *;omega) (fun a b=>by simp only [Bool.or_eq_true,decide_eq_true_eq];omega) l
 have hn:(l.mergeSort fun x y=>decide (x ≤ y)).Nodup:=hp.nodup_iff.2 hl;refine aNe ?_ fun x=>by rw [← h];exact hp.mem_iff
 rw [List.nodup_iff_pairwise_ne] at hn;exact (hs.and hn).imp fun ⟨h1,h2⟩=>by simp only [decide_eq_true_eq] at h1;omega
theorem eI {n:Nat} {l:List Int} (hl:l.Nodup) (hb:∀ x ∈ l,0 ≤ x∧x < n):l.length ≤ n:=by
 have:=hl.length_le_of_subset (l₂:=(List.range n).map fun k:Nat=>(k:Int)) fun x hx=>by
  have:=hb x hx;exact List.mem_map.2 ⟨x.toNat,List.mem_range.2 (by omega),by omega⟩
 simpa using this
theorem aD5 {l:List Int} (h:l.length ≤ 1048576):sort_Ints l=some (l.mergeSort fun x y=>decide (x ≤ y)):=by
 unfold sort_Ints;rw [if_pos (by omega)]
theorem aBt {s:List Int} (h:s.Nodup) (x:Int):(aAs s x).Nodup:=by
 unfold aAs;split
 ·exact h
 rename_i hc;rw [List.nodup_append];refine ⟨h,by simp,fun a ha b hb=>?_⟩
 simp only [List.mem_singleton] at hb;subst hb;rintro rfl;exact hc (by simpa using ha)
theorem rB:∀ (l:List Int) {s:List Int},s.Nodup→(l.foldl aAs s).Nodup
 | [],s,h=>h
 | x :: l,s,h=>rB l (aBt h x)
theorem aQe (s:List Int) (x:Int):∃ t,aAs s x=s ++ t:=by
 unfold aAs;split
 ·exact ⟨[],by simp⟩
 exact ⟨[x],rfl⟩
theorem yX:∀ (l:List Int) (s:List Int),∃ t,l.foldl aAs s=s ++ t
 | [],s=>⟨[],by simp⟩
 | x :: l,s=>by
  obtain ⟨t,ht⟩:=aQe s x;obtain ⟨t',ht'⟩:=yX l (aAs s x);exact ⟨t ++ t',by rw [List.foldl_cons,ht',ht,List.append_assoc]⟩
theorem aJo {n:Nat} {l s:List Int} (hs:∀ x ∈ s,0 ≤ x∧x < (n:Int)) (hl:∀ x ∈ l,0 ≤ x∧x < (n:Int)):∀ x ∈ l.foldl aAs s,0 ≤ x∧x < (n:Int):=fun x hx=>by
 rcases (jZ x l s).1 hx with h | h
 ·exact hs x h
 exact hl x h
theorem aGz {ρ:Type} (n:Nat) (l:List Int) (hl:∀ x ∈ l,0 ≤ x∧x < (n:Int)) (f:List Int × Int→Option ((List Int × Int) ⊕ ρ)) (fin:List Int→ρ)
  (hf:∀ (o:List Int) (k:Nat) (hk:k < l.length),o.length ≤ n→f (o,k)=some (.inl (aAs o l[k],((k + 1:Nat):Int))))
  (he:∀ o,f (o,l.length)=some (.inr (fin o))) (o:List Int) (ho:o.Nodup) (hb:∀ x ∈ o,0 ≤ x∧x < (n:Int)):aI f (o,0)=some (fin (l.foldl aAs o)):=by
 have:=cO l (fun (s:List Int) k=>(s,(k:Int))) (fun k s=>s.Nodup∧∀ x ∈ s,0 ≤ x∧x < (n:Int)) (fun s e=>.inl (aAs s e)) fin f (fun s k hk hI=>by
  left;refine ⟨_,rfl,hf s k hk (eI hI.1 hI.2),aBt hI.1 _,fun x hx=>?_⟩;rcases mem_addL.1 hx with h | h
  ·exact hI.2 x h
  subst h;exact hl _ (List.getElem_mem hk)) (fun s _=>he s) o ⟨ho,hb⟩
 rw [dQ] at this;exact this
theorem aLe {ρ:Type} (n:Nat) (root:Nat) (hroot:root < n) (next:Nat→List Int) (hnx:∀ i,Reach next root i→∀ m ∈ next i,0 ≤ m∧m < (n:Int)) (f:List Int × Int→Option ((List Int × Int) ⊕ ρ)) (fin:List Int→ρ)
  (hf:∀ (o:List Int) (k:Nat) (hk:k < o.length),o.Nodup→(∀ x ∈ o,0 ≤ x∧x < (n:Int))→Reach next root o[k].toNat→f (o,k)=some (.inl ((next o[k].toNat).foldl aAs o,((k + 1:Nat):Int))))
  (he:∀ o:List Int,o.length ≤ n→f (o,o.length)=some (.inr (fin o))):∃ o:List Int,aI f ([(root:Int)],0)=some (fin o)∧o.Nodup∧∀ x,x ∈ o ↔ 0 ≤ x∧x < (n:Int)∧Reach next root x.toNat:=by
 obtain ⟨r,h1,o,h2,h3⟩:=dY (f:=f) (fun s:List Int × Int=>∃ i:Nat,s.2=i∧i ≤ s.1.length∧s.1.Nodup∧(root:Int) ∈ s.1∧(∀ x ∈ s.1,0 ≤ x∧x < (n:Int)∧Reach next root x.toNat)∧∀ (j:Nat) (hj:j < s.1.length),j < i→∀ m ∈ next s.1[j].toNat,m ∈ s.1) (fun s=>n - s.2.toNat) (fun r=>∃ o,r=fin o∧o.Nodup∧∀ x,x ∈ o ↔ 0 ≤ x∧x < (n:Int)∧Reach next root x.toNat) (by
  rintro ⟨o,i⟩ ⟨i,rfl,hi,hn,hr,hb,hc⟩;simp only at hi hn hr hb hc;have hb2:∀ x ∈ o,0 ≤ x∧x < (n:Int):=fun x hx=>⟨(hb x hx).1,(hb x hx).2.1⟩;have hlen:=eI hn hb2;by_cases hlt:i < o.length
  ·left;have hbi:=hb _ (List.getElem_mem hlt);have hnb:=hnx _ hbi.2.2;refine ⟨_,hf o i hlt hn hb2 hbi.2.2,⟨i + 1,rfl,?_,rB _ hn,?_,?_,?_⟩,by simp only [Int.toNat_natCast];omega⟩
   ·obtain ⟨t,ht⟩:=yX (next o[i].toNat) o
    simp only [ht,List.length_append];omega
   ·exact (jZ _ _ _).2 (.inl hr)
   ·intro x hx;rcases (jZ _ _ _).1 hx with h | h
    ·exact hb x h
    exact ⟨(hnb x h).1,(hnb x h).2,.step hbi.2.2 h⟩
   intro j hj hji m hm;obtain ⟨t,ht⟩:=yX (next o[i].toNat) o
   simp only at hj hm ⊢;have hjo:j < o.length:=by omega
   have hg:((next o[i].toNat).foldl aAs o)[j]=o[j]:=by
    simp only [ht];exact List.getElem_append_left hjo
   rw [hg] at hm;rw [jZ];by_cases e:j=i
   ·subst e;exact .inr hm
   exact .inl (hc j hjo (by omega) m hm)
  ·right;have:i=o.length:=by omega
   subst this;refine ⟨fin o,he o hlen,o,rfl,hn,fun x=>⟨hb x,fun ⟨h1,h2,h3⟩=>?_⟩⟩;have key:∀ k,Reach next root k→(k:Int) ∈ o:=by
    intro k hk;induction hk with
    | base=>exact hr
    | step hk' hm ih =>
     obtain ⟨j,hj,he⟩:=List.mem_iff_getElem.1 ih;rename_i a m;have hm2:m ∈ next o[j].toNat:=by rw [he,Int.toNat_natCast];exact hm
     have:=hc j hj hj m hm2;have hmb:=hb m this;rw [show ((m.toNat:Nat):Int)=m by omega]
     exact this
   have:=key _ h3;rwa [show ((x.toNat:Nat):Int)=x by omega] at this) ([(root:Int)],0) ⟨0,rfl,by simp,by simp,by simp,fun x hx=>by
  simp only [List.mem_singleton] at hx;subst hx;exact ⟨by omega,by omega,by rw [Int.toNat_natCast];exact .base⟩,fun j hj h=>by omega⟩
 exact ⟨o,by rw [h1,h2],h3⟩
theorem vZ {ρ:Type} (n:Nat) (hn:n ≤ 1048576) (p:Nat→Bool) (f:List Int × Int→Option ((List Int × Int) ⊕ ρ)) (fin:List Int→ρ)
  (hf:∀ (o:List Int) (k:Nat),o.length ≤ 1048576→k < n→f (o,k)=some (.inl ((if p k=true then o ++ [(k:Int)] else o),((k + 1:Nat):Int))))
  (he:∀ o:List Int,f (o,n)=some (.inr (fin o))):aI f ([],0)=some (fin (aC8 n fun k=>p k=true)):=by
 obtain ⟨r,h1,h2⟩:=dY (f:=f) (fun s:List Int × Int=>∃ k:Nat,s.2=k∧k ≤ n∧s.1=((List.range k).filter p).map fun k:Nat=>(k:Int)) (fun s=>n - s.2.toNat) (fun r=>r=fin (((List.range n).filter p).map fun k:Nat=>(k:Int))) (by
  rintro ⟨o,i⟩ ⟨k,rfl,hk,ho⟩;simp only at ho hk;by_cases hlt:k < n
  ·left;have hol:o.length ≤ 1048576:=by
    rw [ho,List.length_map];have:=List.length_filter_le p (List.range k);rw [List.length_range] at this;omega
   refine ⟨_,hf o k hol hlt,⟨k + 1,rfl,by omega,?_⟩,by simp only [Int.toNat_natCast];omega⟩
   simp only;rw [List.range_succ,List.filter_append,List.map_append,← ho];cases hp:p k<;>simp [hp]
  right;have:k=n:=by omega
  subst this;exact ⟨_,he o,by rw [ho]⟩) ([],0) ⟨0,rfl,by omega,rfl⟩
 rw [h1,h2];have:((List.range n).filter p).map (fun k:Nat=>(k:Int))=aC8 n fun k=>p k=true:=by
  unfold aC8
  congr 1
  refine List.filter_congr fun x _=>?_;simp
 rw [this]
def vP (nodes:List GNode) (i:Nat):List Int:=match nodes[i]? with
 | some x=>x.Kids
 | none=>[]
theorem aCo {nodes:List GNode} {i:Nat} (h:i < nodes.length):vP nodes i=nodes[i].Kids:=by unfold vP;rw [List.getElem?_eq_getElem h]
theorem aDo {nodes:List GNode} {i:Nat} (h:sI nodes i=true):(vP nodes i).length ≤ 12∧∀ m ∈ vP nodes i,0 ≤ m∧m < i:=by
 have hi:i < nodes.length:=(rO h).1;have hg:nodes[i]? = some nodes[i]:=List.getElem?_eq_getElem hi;rw [aCo hi];exact ⟨iA h hg,lX h hg⟩
theorem aFs {nodes:List GNode} {k:Nat} (h:okU nodes (k + 1)=true) {j:Nat} (r:Reach (vP nodes) k j):j ≤ k:=by
 induction r with
 | base=>exact Nat.le_refl _
 | step _ hm ih =>
  have:=(aDo (oF h (by omega)).1).2 _ hm
  omega
noncomputable def fH (nodes:List GNode) (k:Int):List Int:=if aAm nodes k=0 then [] else aC8 nodes.length (Reach (vP nodes) k.toNat)
theorem pE {nodes:List GNode} {k x:Int} (h:x ∈ fH nodes k):0 ≤ x∧x < nodes.length:=by
 unfold fH at h;split at h
 ·cases h
 have:=mem_setL.1 h;exact ⟨this.1,this.2.1⟩
theorem aCx (nodes:List GNode) (k:Int):(fH nodes k).Pairwise (· < ·):=by
 unfold fH;split
 ·simp
 exact aD7 _ _
theorem aGo (nodes:List GNode) (hn:nodes.length ≤ 1048576) (k:Nat) (hk:k < nodes.length) (hok:okU nodes (k + 1)=true):uA nodes k=some (aC8 nodes.length (Reach (vP nodes) k)):=by
 unfold uA;have hnx:∀ i,Reach (vP nodes) k i→(vP nodes i).length ≤ 12∧∀ m ∈ vP nodes i,0 ≤ m∧m < (i:Int):=fun i hr=>aDo (oF hok (by have:=aFs hok hr;omega)).1
 obtain ⟨o,g1,g2,g3⟩:=aLe nodes.length k hk (vP nodes) (fun i hr m hm=>by
  have:=(hnx i hr).2 m hm;have:=aFs hok hr;omega) (oH nodes) (fun o=>o) (fun o i hi hnd hb hr=>by
   have hbi:=hb _ (List.getElem_mem hi);have hlt:o[i].toNat < nodes.length:=by omega
   have hge:aP nodes o[i]=some nodes[o[i].toNat]:=eH hbi.1 hbi.2;have hol:=eI hnd hb;obtain ⟨hkl,hkb⟩:=hnx _ hr;have hle:=aFs hok hr;have hkn:=aCo hlt;simp only [oH,aB hi,if_true,aN hi,Option.bind_some,hge];rw [hkn] at hkl hkb ⊢;generalize nodes[o[i].toNat]=x at *;rw [aGz nodes.length x.Kids (fun m hm=>by have:=hkb m hm;omega) (oG x) (fun o=>o) (fun o k hk ho=>by
    have happ:bO 8 o [x.Kids[k]]=some (o ++ [x.Kids[k]]):=app1 (by omega) (by omega)
    simp only [oG,aB hk,if_true,aN hk,Option.bind_some,rY o _ (by omega),bC hk (show x.Kids.length ≤ 1048576 by omega),happ]
    unfold aAs;cases o.contains x.Kids[k]<;>rfl) (fun o=>by simp [oG]) o hnd hb]
   simp only [Option.bind_some,bC hi (show o.length ≤ 1048576 by omega)]) (fun o ho=>by simp [oH])
 rw [g1];simp only [Option.bind_some];have hol:o.length ≤ 1048576:=by
  have:=eI (n:=nodes.length) g2 fun x hx=>⟨((g3 x).1 hx).1,((g3 x).1 hx).2.1⟩;omega
 rw [aD5 hol];simp only [Option.bind_some];rw [aD6 g2 g3]
theorem aAa (p:GProgram) (hn:p.Nodes.length ≤ 1048576) (k:Int):rD p k=some (fH p.Nodes k):=by
 unfold rD fH;rw [yN _ hn];simp only [Option.bind_some];by_cases hz:aAm p.Nodes k=0
 ·rw [if_pos (by simpa using hz),if_pos hz]
 rw [if_neg (by simpa using hz),if_neg hz]
 obtain ⟨h0,h1,h2⟩:=aFl hz;have:=aGo p.Nodes hn k.toNat (by omega) h2
 rw [show ((k.toNat:Nat):Int)=k by omega] at this
 rw [this];rfl
structure MarkR (nodes:List GNode) (k:Nat) (s s':List Bool):Prop where
 len:s'.length=s.length
 mono:∀ j:Nat,s[j]? = some true→s'[j]? = some true
 self:s'[k]? = some true
 sound:∀ j:Nat,s'[j]? = some true→s[j]? = some true ∨ Reach (vP nodes) k j
 closed:∀ j:Nat,s'[j]? = some true→s[j]? = some true ∨ ∀ m ∈ vP nodes j,s'[m.toNat]? = some true
theorem aNo {next:Nat→List Int} {k:Nat} {m:Int} (hm:m ∈ next k) {j:Nat} (r:Reach next m.toNat j):Reach next k j:=by
 induction r with
 | base=>exact .step .base hm
 | step _ hm' ih=>exact .step ih hm'
theorem aI1 (nodes:List GNode) (hn:nodes.length ≤ 1048576):∀ (f k:Nat) (s:List Bool),okU nodes (k + 1)=true→sV nodes k ≤ f→s.length=nodes.length→∃ s',fF f nodes k s=some s'∧MarkR nodes k s s'
 | 0,k,s,hok,hd,hs=>by have:=kI nodes k;omega
 | f + 1,k,s,hok,hd,hs=>by
  obtain ⟨hnb,_⟩:=oF hok (Nat.lt_succ_self k);have hk:k < nodes.length:=(rO hnb).1;have hx:nodes[k]? = some nodes[k]:=List.getElem?_eq_getElem hk;have hge:aP nodes (k:Int)=some nodes[k]:=aN hk;obtain ⟨hkl,hkb⟩:=aDo hnb;have hkn:=aCo hk;have hks:k < s.length:=by omega
  have hkid:=fun kid hm=>aAl (kid:=kid) hnb hx hm;rw [hkn] at hkl hkb;generalize hxe:nodes[k]=x at *;show ∃ s',mJ (fF f) nodes k s=some s'∧MarkR nodes k s s';unfold mJ;rw [aN hks];simp only [Option.bind_some];by_cases hsk:s[k]=true
  ·rw [if_pos hsk];have hsk':s[k]? = some true:=by rw [List.getElem?_eq_getElem hks,hsk]
   exact ⟨s,rfl,rfl,fun _ h=>h,hsk',fun _ h=>.inl h,fun _ h=>.inl h⟩
  rw [if_neg hsk];simp only [eC,Int.toNat_natCast];have hs0:(s.set k true).length=nodes.length:=by rw [List.length_set];exact hs
  have hs0k:(s.set k true)[k]? = some true:=by rw [List.getElem?_set,if_pos rfl,if_pos hks]
  have hs0j:∀ j:Nat,(s.set k true)[j]? = some true→s[j]? = some true ∨ j=k:=by
   intro j h;rw [List.getElem?_set] at h;split at h
   ·rename_i e;exact .inr e.symm
   exact .inl h
  have hs0m:∀ j:Nat,s[j]? = some true→(s.set k true)[j]? = some true:=by
   intro j h;rw [List.getElem?_set];by_cases e:k=j
   ·subst e;rw [if_pos rfl,if_pos hks]
   rw [if_neg e];exact h
  obtain ⟨r,g1,g2⟩:=dY (f:=iR (fF f) nodes k) (fun t:List Bool × Int=>∃ i:Nat,t.2=i∧i ≤ x.Kids.length∧t.1.length=nodes.length∧(∀ j:Nat,(s.set k true)[j]? = some true→t.1[j]? = some true)∧(∀ j:Nat,t.1[j]? = some true→(s.set k true)[j]? = some true ∨ Reach (vP nodes) k j) ∧
    (∀ j:Nat,t.1[j]? = some true→(s.set k true)[j]? = some true ∨ ∀ m ∈ vP nodes j,t.1[m.toNat]? = some true)∧∀ (q:Nat) (hq:q < x.Kids.length),q < i→t.1[(x.Kids[q]).toNat]? = some true) (fun t=>x.Kids.length - t.2.toNat) (fun r=>MarkR nodes k s r) (by
   rintro ⟨t,i⟩ ⟨i,rfl,hi,hl,hm,hso,hcl,hd'⟩;simp only at hi hl hm hso hcl hd';by_cases hlt:i < x.Kids.length
   ·left;have hmem:=List.getElem_mem hlt;have hb:=hkb _ hmem;obtain ⟨s',r1,r2⟩:=aI1 nodes hn f (x.Kids[i]).toNat t (aCk (by omega) hok) (by have:=hkid _ hmem;omega) hl
    rw [show (((x.Kids[i]).toNat:Nat):Int)=x.Kids[i] by omega] at r1
    have hmk:x.Kids[i] ∈ vP nodes k:=by rw [hkn];exact hmem
    refine ⟨(s',((i + 1:Nat):Int)),?_,⟨i + 1,rfl,by omega,r2.len.trans hl,fun j h=>r2.mono j (hm j h),fun j h=>?_,fun j h=>?_,fun q hq hqi=>?_⟩,by simp only [Int.toNat_natCast];omega⟩
    ·simp only [iR,hge,Option.bind_some,aB hlt,if_true,aN hlt,r1,bC hlt (show x.Kids.length ≤ 1048576 by omega)]
    ·rcases r2.sound j h with h | h
     ·exact hso j h
     exact .inr (aNo hmk h)
    ·rcases r2.closed j h with h | h
     ·rcases hcl j h with h | h
      ·exact .inl h
      exact .inr fun m hm=>r2.mono _ (h m hm)
     exact .inr h
    by_cases e:q=i
    ·subst e;exact r2.self
    exact r2.mono _ (hd' q hq (by omega))
   right;have:i=x.Kids.length:=by omega
   subst this;refine ⟨t,by simp [iR,hge],hl.trans hs.symm,fun j h=>hm j (hs0m j h),hm k hs0k,fun j h=>?_,fun j h=>?_⟩
   ·rcases hso j h with h | h
    ·rcases hs0j j h with h | h
     ·exact .inl h
     subst h;exact .inr .base
    exact .inr h
   rcases hcl j h with h | h
   ·rcases hs0j j h with h | h
    ·exact .inl h
    subst h;right;intro m hm';rw [hkn] at hm';obtain ⟨q,hq,rfl⟩:=List.mem_iff_getElem.1 hm';exact hd' q hq hq
   exact .inr h) (s.set k true,0) ⟨0,rfl,by omega,hs0,fun _ h=>h,fun _ h=>.inl h,fun _ h=>.inl h,fun q _ h=>by omega⟩
  exact ⟨r,g1,g2⟩
theorem zL (p:GProgram) (hn:p.Nodes.length ≤ 1048576) (k:Int):pG p k=some (fH p.Nodes k):=by
 unfold pG fH;rw [aEk _ hn];simp only [Option.bind_some];by_cases hz:aAm p.Nodes k=0
 ·rw [if_pos (by simpa using hz),if_pos hz]
 rw [if_neg (by simpa using hz),if_neg hz]
 obtain ⟨h0,h1,h2⟩:=aFl hz;rw [aDj _ _ _ (by omega) (by omega)]
 simp only [Option.bind_some];obtain ⟨s',r1,r2⟩:=aI1 p.Nodes hn bL k.toNat (List.replicate p.Nodes.length false) h2 (by
  have:=(oF h2 (Nat.lt_succ_self _)).2;rw [aB9];omega) (by simp)
 rw [show ((k.toNat:Nat):Int)=k by omega] at r1
 have r1':sQ p.Nodes k (List.replicate p.Nodes.length false)=some s':=r1;rw [r1'];simp only [Option.bind_some];have hl:s'.length=p.Nodes.length:=by rw [r2.len];simp
 have hrep:∀ j:Nat,¬ (List.replicate p.Nodes.length false)[j]? = some true:=by
  intro j h;rw [List.getElem?_replicate] at h;split at h<;>simp at h
 have hiff:∀ j,s'[j]? = some true ↔ Reach (vP p.Nodes) k.toNat j:=by
  intro j;constructor
  ·intro h;rcases r2.sound j h with h | h
   ·exact absurd h (hrep j)
   exact h
  intro h;induction h with
  | base=>exact r2.self
  | step _ hm ih =>
   rcases r2.closed _ ih with h | h
   ·exact absurd h (hrep _)
   exact h _ hm
 rw [vZ p.Nodes.length hn (fun j=>s'.getD j false) (nY s') (fun o=>o) (fun o j ho hj=>by
  have hjs:j < s'.length:=by omega
  have happ:bO 8 o [(j:Int)]=some (o ++ [(j:Int)]):=app1 ho (by omega)
  simp only [nY,hl,aB hj,if_true,aN hjs,Option.bind_some,happ,bC hj hn];rw [List.getD_eq_getElem?_getD,List.getElem?_eq_getElem hjs];simp only [Option.getD_some];cases s'[j]<;>rfl) (fun o=>by simp [nY,hl])]
 simp only [Option.bind_some]
 congr 1
 refine xI fun j hj=>?_;rw [← hiff];have hjs:j < s'.length:=by omega
 rw [List.getD_eq_getElem?_getD,List.getElem?_eq_getElem hjs];simp
end Go.OM
namespace Go.OM
theorem aJu {L:List Int} (h:L.Pairwise (· < ·)) {i:Nat} (hi:i < L.length) {y:Int} (hy:y ∈ L.drop i):L[i] ≤ y:=by
 obtain ⟨j,hj,rfl⟩:=List.mem_iff_getElem.1 hy;rw [List.length_drop] at hj;rw [List.getElem_drop];rcases Nat.eq_zero_or_pos j with e | e
 ·subst e;simp
 have:=(List.pairwise_iff_getElem.1 h) i (i + j) hi (by omega) (by omega)
 omega
theorem aBo {L:List Int} (h:L.Pairwise (· < ·)) {i:Nat} (hi:i < L.length) {y:Int} (hy:y ∈ L.drop (i + 1)):L[i] < y:=by
 obtain ⟨j,hj,rfl⟩:=List.mem_iff_getElem.1 hy;rw [List.length_drop] at hj;rw [List.getElem_drop];exact (List.pairwise_iff_getElem.1 h) i (i + 1 + j) hi (by omega) (by omega)
theorem lQ {L:List Int} {i:Nat} (hi:i < L.length) {x:Int}:x ∈ L.take (i + 1) ↔ x ∈ L.take i ∨ x=L[i]:=by
 rw [List.take_add_one,List.getElem?_eq_getElem hi,List.mem_append];simp
theorem oP {L:List Int} {i:Nat} {x:Int} (h:x ∈ L.drop (i + 1)):x ∈ L.drop i:=by
 obtain ⟨j,hj,rfl⟩:=List.mem_iff_getElem.1 h;rw [List.length_drop] at hj;rw [List.getElem_drop];exact List.mem_iff_getElem.2 ⟨1 + j,by rw [List.length_drop];omega,by rw [List.getElem_drop];congr 1;omega⟩
theorem wU {L:List Int} {i:Nat} (hi:i < L.length):L[i] ∈ L.drop i:=by
 rw [List.drop_eq_getElem_cons hi];exact List.mem_cons_self
theorem aG5 {o:List Int} {a:Int} (h:o.Pairwise (· < ·)) (hb:∀ x ∈ o,x < a):(o ++ [a]).Pairwise (· < ·):=by
 rw [List.pairwise_append];exact ⟨h,by simp,fun x hx y hy=>by simp only [List.mem_singleton] at hy;subst hy;exact hb x hx⟩
theorem aM9 (n:Nat) (hn:n ≤ 1048576) (A B:List Int) (hA:A.Pairwise (· < ·)) (hB:B.Pairwise (· < ·)) (hbA:∀ x ∈ A,0 ≤ x∧x < (n:Int)) (hbB:∀ x ∈ B,0 ≤ x∧x < (n:Int)) :
  aI (dA A B) ([],0,0)=some (aC8 n fun j=>(j:Int) ∈ A ∨ (j:Int) ∈ B):=by
 have lA:=eI (xO hA) hbA;have lB:=eI (xO hB) hbB;obtain ⟨r,h1,h2⟩:=dY (f:=dA A B) (fun s:List Int × Int × Int=>∃ i k:Nat,s.2=((i:Int),(k:Int))∧i ≤ A.length∧k ≤ B.length∧s.1.Pairwise (· < ·)∧(∀ x,x ∈ s.1 ↔ x ∈ A.take i ∨ x ∈ B.take k)∧(∀ x ∈ s.1,∀ y ∈ A.drop i,x < y)∧∀ x ∈ s.1,∀ y ∈ B.drop k,x < y) (fun s=>(A.length - s.2.1.toNat) + (B.length - s.2.2.toNat)) (fun r=>r=aC8 n fun j=>(j:Int) ∈ A ∨ (j:Int) ∈ B) (by
  rintro ⟨o,p⟩ ⟨i,k,rfl,hi,hk,ho,hm,h3,h4⟩;simp only at ho hm h3 h4;have hob:∀ x ∈ o,0 ≤ x∧x < (n:Int):=fun x hx=>by
   rcases (hm x).1 hx with h | h
   ·exact hbA x (List.mem_of_mem_take h)
   exact hbB x (List.mem_of_mem_take h)
  have hol:=eI (xO ho) hob;have happ:∀ a:Int,bO 8 o [a]=some (o ++ [a]):=fun a=>app1 (by omega) (by omega)
  have di:decide ((i:Int) < (A.length:Int))=decide (i < A.length):=decide_eq_decide.2 (by omega)
  have dk:decide ((k:Int) < (B.length:Int))=decide (k < B.length):=decide_eq_decide.2 (by omega)
  have dk2:decide ((k:Int) ≥ (B.length:Int))=decide (¬ k < B.length):=decide_eq_decide.2 (by omega)
  have wi:IntKind.wrap .i64 ((i:Int) + 1)=((i + 1:Nat):Int):=by rw [w64 (by omega) (by omega)];omega
  have wk:IntKind.wrap .i64 ((k:Int) + 1)=((k + 1:Nat):Int):=by rw [w64 (by omega) (by omega)];omega
  -- what the step takes
  have takeA:∀ (hia:i < A.length),(∀ hkb:k < B.length,A[i] < B[k])→∃ b,dA A B (o,(i:Int),(k:Int))=some (.inl b)∧(∃ i' k':Nat,b.2=((i':Int),(k':Int))∧i' ≤ A.length∧k' ≤ B.length∧b.1.Pairwise (· < ·)∧(∀ x,x ∈ b.1 ↔ x ∈ A.take i' ∨ x ∈ B.take k')∧(∀ x ∈ b.1,∀ y ∈ A.drop i',x < y)∧∀ x ∈ b.1,∀ y ∈ B.drop k',x < y)∧(A.length - b.2.1.toNat) + (B.length - b.2.2.toNat) < (A.length - i) + (B.length - k):=by
   intro hia hab;refine ⟨(o ++ [A[i]],((i + 1:Nat):Int),(k:Int)),?_,⟨i + 1,k,rfl,by omega,hk,aG5 ho fun x hx=>h3 x hx _ (wU hia),fun x=>?_,fun x hx y hy=>?_,fun x hx y hy=>?_⟩,by simp only [Int.toNat_natCast];omega⟩
   ·by_cases hkb:k < B.length
    ·have:=hab hkb;simp [dA,di,dk,dk2,hia,hkb,aN hia,aN hkb,happ,wi,this,show ¬ B.length ≤ k by omega]
    simp [dA,di,dk,dk2,hia,hkb,aN hia,happ,wi,show B.length ≤ k by omega]
   ·simp only [List.mem_append,List.mem_singleton,hm,lQ hia];constructor
    ·rintro ((h | h) | h)
     ·exact .inl (.inl h)
     ·exact .inr h
     exact .inl (.inr h)
    rintro ((h | h) | h)
    ·exact .inl (.inl h)
    ·exact .inr h
    exact .inl (.inr h)
   ·rcases List.mem_append.1 hx with h | h
    ·exact h3 x h y (oP hy)
    simp only [List.mem_singleton] at h;subst h;exact aBo hA hia hy
   rcases List.mem_append.1 hx with h | h
   ·exact h4 x h y hy
   simp only [List.mem_singleton] at h;subst h;have hkb:k < B.length:=by
    rcases Nat.lt_or_ge k B.length with h | h
    ·exact h
    rw [List.drop_eq_nil_of_le h] at hy;cases hy
   have:=hab hkb;have:=aJu hB hkb hy;omega
  by_cases hend:i < A.length ∨ k < B.length
  ·left;by_cases hkb:k < B.length
   ·by_cases hia:i < A.length
    ·by_cases hlt:A[i] < B[k]
     ·exact takeA hia fun _=>hlt
     by_cases heq:A[i]=B[k]
     ·refine ⟨(o ++ [B[k]],((i + 1:Nat):Int),((k + 1:Nat):Int)),?_,⟨i + 1,k + 1,rfl,by omega,by omega,aG5 ho fun x hx=>h4 x hx _ (wU hkb),fun x=>?_,fun x hx y hy=>?_,fun x hx y hy=>?_⟩,by simp only [Int.toNat_natCast];omega⟩
      ·simp [dA,di,dk,dk2,hia,hkb,aN hia,aN hkb,happ,wi,wk,heq,show ¬ B.length ≤ k by omega]
      ·simp only [List.mem_append,List.mem_singleton,hm,lQ hia,lQ hkb,heq];constructor
       ·rintro ((h | h) | h)
        ·exact .inl (.inl h)
        ·exact .inr (.inl h)
        exact .inr (.inr h)
       rintro ((h | h) | (h | h))
       ·exact .inl (.inl h)
       ·exact .inr h
       ·exact .inl (.inr h)
       exact .inr h
      ·rcases List.mem_append.1 hx with h | h
       ·exact h3 x h y (oP hy)
       simp only [List.mem_singleton] at h;subst h;rw [← heq];exact aBo hA hia hy
      rcases List.mem_append.1 hx with h | h
      ·exact h4 x h y (oP hy)
      simp only [List.mem_singleton] at h;subst h;exact aBo hB hkb hy
     refine ⟨(o ++ [B[k]],(i:Int),((k + 1:Nat):Int)),?_,⟨i,k + 1,rfl,hi,by omega,aG5 ho fun x hx=>h4 x hx _ (wU hkb),fun x=>?_,fun x hx y hy=>?_,fun x hx y hy=>?_⟩,by simp only [Int.toNat_natCast];omega⟩
     ·simp [dA,di,dk,dk2,hia,hkb,aN hia,aN hkb,happ,wi,wk,heq,hlt,show ¬ B.length ≤ k by omega]
     ·simp only [List.mem_append,List.mem_singleton,hm,lQ hkb,or_assoc]
     ·rcases List.mem_append.1 hx with h | h
      ·exact h3 x h y hy
      simp only [List.mem_singleton] at h;subst h;have:=aJu hA hia hy;omega
     rcases List.mem_append.1 hx with h | h
     ·exact h4 x h y (oP hy)
     simp only [List.mem_singleton] at h;subst h;exact aBo hB hkb hy
    refine ⟨(o ++ [B[k]],(i:Int),((k + 1:Nat):Int)),?_,⟨i,k + 1,rfl,hi,by omega,aG5 ho fun x hx=>h4 x hx _ (wU hkb),fun x=>?_,fun x hx y hy=>?_,fun x hx y hy=>?_⟩,by simp only [Int.toNat_natCast];omega⟩
    ·simp [dA,di,dk,dk2,hia,hkb,aN hkb,happ,wi,wk,show ¬ B.length ≤ k by omega]
    ·simp only [List.mem_append,List.mem_singleton,hm,lQ hkb,or_assoc]
    ·rw [List.drop_eq_nil_of_le (by omega)] at hy;cases hy
    rcases List.mem_append.1 hx with h | h
    ·exact h4 x h y (oP hy)
    simp only [List.mem_singleton] at h;subst h;exact aBo hB hkb hy
   exact takeA (by omega) fun h=>absurd h hkb
  right;have hi':i=A.length:=by omega
  have hk':k=B.length:=by omega
  refine ⟨o,by simp [dA,hi',hk'],?_⟩
  refine aNe ho fun x=>?_;rw [hm,hi',hk',List.take_length,List.take_length];constructor
  ·intro h;have hb:0 ≤ x∧x < (n:Int):=h.elim (hbA x) (hbB x);refine ⟨hb.1,hb.2,?_⟩;rwa [show ((x.toNat:Nat):Int)=x by omega]
  rintro ⟨a1,_,a3⟩;rwa [show ((x.toNat:Nat):Int)=x by omega] at a3) ([],0,0) ⟨0,0,rfl,by omega,by omega,by simp,fun x=>by simp,fun x hx=>by simp at hx,fun x hx=>by simp at hx⟩
 rw [h1,h2]
def pZ (p:GProgram) (fn:Int):List Int:=if inB fn 0 ((p.Fns.length:Int) - 1)=true then (match p.Fns[fn.toNat]? with | some f=>if f.Ret = -1 then [f.Body] else [f.Body,f.Ret] | none=>[]) else []
noncomputable def lF (p:GProgram) (fn:Int):List Int:=aC8 p.Nodes.length fun j=>∃ r ∈ pZ p fn,(j:Int) ∈ fH p.Nodes r
theorem aF4 {p:GProgram} {fn x:Int} (h:x ∈ lF p fn):0 ≤ x∧x < p.Nodes.length:=⟨(mem_setL.1 h).1,(mem_setL.1 h).2.1⟩
theorem aGq (p:GProgram) (hp:p.Fns.length ≤ 1048576) (fn:Int):uC p fn=some (pZ p fn):=by
 unfold uC pZ;simp only [eE,Option.bind_some,gH hp];cases hi:inB fn 0 ((p.Fns.length:Int) - 1) with
 | false=>rfl
 | true =>
  have hi':=inB_iff.1 hi;have hlt:fn.toNat < p.Fns.length:=by omega
  simp only [Bool.not_true,Bool.false_eq_true,if_false,if_true];rw [eH hi'.1 (by omega),List.getElem?_eq_getElem hlt]
  simp only [Option.bind_some];by_cases hr:p.Fns[fn.toNat].Ret = -1
  ·simp [hr]
  have happ:bO 8 [p.Fns[fn.toNat].Body] [p.Fns[fn.toNat].Ret]=some ([p.Fns[fn.toNat].Body] ++ [p.Fns[fn.toNat].Ret]):=app1 (by simp) (by omega)
  simp [hr,happ]
theorem aI0 (nodes:List GNode) (x:Int):∀ (rs s:List Int),x ∈ rs.foldl (fun o r=>(fH nodes r).foldl aAs o) s ↔ x ∈ s ∨ ∃ r ∈ rs,x ∈ fH nodes r
 | [],s=>by simp
 | r :: rs,s=>by
  rw [List.foldl_cons,aI0 nodes x rs,jZ];simp only [List.mem_cons,exists_eq_or_imp,or_assoc]
theorem aM1 (p:GProgram) (fn:Int):(pZ p fn).length ≤ 2:=by
 unfold pZ;split
 ·split
  ·split<;>simp
  simp
 simp
theorem aDu (p:GProgram) (hn:p.Nodes.length ≤ 1048576) (hp:p.Fns.length ≤ 1048576) (fn:Int):qI p fn=some (lF p fn):=by
 unfold qI;rw [aGq p hp];simp only [Option.bind_some];have hrl:=aM1 p fn;have:=cO (pZ p fn) (fun (o:List Int) k=>(o,(k:Int))) (fun k o=>o.Nodup∧∀ x ∈ o,0 ≤ x∧x < (p.Nodes.length:Int)) (fun o r=>.inl ((fH p.Nodes r).foldl aAs o)) id (iY p (pZ p fn)) (fun o k hk hI=>by
  left;refine ⟨_,rfl,?_,rB _ hI.1,aJo hI.2 fun x hx=>pE hx⟩;have hul:=eI (n:=p.Nodes.length) (xO (aCx p.Nodes (pZ p fn)[k])) fun x hx=>pE hx;simp only [iY,aB hk,if_true,aN hk,Option.bind_some,aAa p hn];generalize hu:fH p.Nodes (pZ p fn)[k]=U at *;rw [aGz p.Nodes.length U (fun m hm=>by rw [← hu] at hm;exact pE hm) (lJ U) (fun o=>o) (fun o j hj ho=>by
   have happ:bO 8 o [U[j]]=some (o ++ [U[j]]):=app1 (by omega) (by omega)
   simp only [lJ,aB hj,if_true,aN hj,Option.bind_some,rY o _ (by omega),bC hj (show U.length ≤ 1048576 by omega),happ]
   unfold aAs;cases o.contains U[j]<;>rfl) (fun o=>by simp [lJ]) o hI.1 hI.2]
  simp only [Option.bind_some,bC hk (show (pZ p fn).length ≤ 1048576 by omega)]) (fun o _=>by simp [iY]) [] ⟨by simp,fun x hx=>by simp at hx⟩
 rw [dQ] at this;have h2:aI (iY p (pZ p fn)) ([],0)=some ((pZ p fn).foldl (fun o r=>(fH p.Nodes r).foldl aAs o) []):=this;rw [h2];simp only [Option.bind_some];generalize ho:(pZ p fn).foldl (fun o r=>(fH p.Nodes r).foldl aAs o) []=o;have hnd:o.Nodup:=by
  rw [← ho];have key:∀ (rs s:List Int),s.Nodup→(rs.foldl (fun o r=>(fH p.Nodes r).foldl aAs o) s).Nodup:=by
   intro rs;induction rs with
   | nil=>intro s h;exact h
   | cons r rs ih=>intro s h;rw [List.foldl_cons];exact ih _ (rB _ h)
  exact key _ _ (by simp)
 have hmem:∀ x,x ∈ o ↔ 0 ≤ x∧x < (p.Nodes.length:Int)∧∃ r ∈ pZ p fn,((x.toNat:Nat):Int) ∈ fH p.Nodes r:=by
  intro x;rw [← ho,aI0];constructor
  ·rintro (h | ⟨r,h1,h2⟩)
   ·simp at h
   have:=pE h2;exact ⟨this.1,this.2,r,h1,by rwa [show ((x.toNat:Nat):Int)=x by omega]⟩
  rintro ⟨h1,_,r,h3,h4⟩;exact .inr ⟨r,h3,by rwa [show ((x.toNat:Nat):Int)=x by omega] at h4⟩
 have hol:o.length ≤ p.Nodes.length:=eI hnd fun x hx=>⟨((hmem x).1 hx).1,((hmem x).1 hx).2.1⟩;rw [aD5 (by omega)]
 simp only [Option.bind_some];rw [aD6 (n:=p.Nodes.length) (P:=fun j=>∃ r ∈ pZ p fn,(j:Int) ∈ fH p.Nodes r) hnd hmem]
 rfl
theorem aEh (p:GProgram) (hn:p.Nodes.length ≤ 1048576) (hp:p.Fns.length ≤ 1048576) (fn:Int):rI p fn=some (lF p fn):=by
 unfold rI lF pZ;simp only [fA,Option.bind_some,gH hp];cases hi:inB fn 0 ((p.Fns.length:Int) - 1) with
 | false =>
  simp only [Bool.not_false,if_true,Bool.false_eq_true,if_false]
  congr 1
  have:∀ x,x ∉ aC8 p.Nodes.length fun j=>∃ r ∈ ([]:List Int),(j:Int) ∈ fH p.Nodes r:=by
   intro x hx;obtain ⟨_,_,r,hr,_⟩:=mem_setL.1 hx;cases hr
  exact (List.eq_nil_iff_forall_not_mem.2 this).symm
 | true =>
  have hi':=inB_iff.1 hi;have hlt:fn.toNat < p.Fns.length:=by omega
  simp only [Bool.not_true,Bool.false_eq_true,if_false,if_true];rw [eH hi'.1 (by omega),List.getElem?_eq_getElem hlt]
  simp only [Option.bind_some,zL p hn];generalize p.Fns[fn.toNat]=f;rw [aM9 p.Nodes.length hn _ _ (aCx _ _) (aCx _ _) (fun x hx=>pE hx) (fun x hx=>pE hx)];simp only [Option.bind_some]
  congr 1
  refine xI fun j hj=>?_;by_cases hr:f.Ret = -1
  ·have h0:fH p.Nodes f.Ret=[]:=by
    have hd:aAm p.Nodes f.Ret=0:=by
     unfold aAm;rw [hr,if_neg (by omega)]
    unfold fH;rw [if_pos hd]
   rw [if_pos hr,h0];simp
  rw [if_neg hr];simp
end Go.OM
namespace Go.OM
theorem aIj (p:GProgram) (nm:ByteArray):jW p nm = -1 ∨ (0 ≤ jW p nm∧jW p nm < p.Fns.length):=by
 unfold jW;cases h:(List.range p.Fns.length).findSome? (aMn p nm) with
 | none=>exact .inl rfl
 | some r =>
  right;obtain ⟨k,hk,hr⟩:=List.exists_of_findSome?_eq_some h;have:=List.mem_range.1 hk;unfold aMn at hr;split at hr
  ·split at hr
   ·have:=Option.some.inj hr;simp only [Option.getD_some];omega
   cases hr
  cases hr
def pQ (p:GProgram) (o:List Int) (e:Int):List Int:=match p.Nodes[e.toNat]? with
 | some x=>if x.Kind=12 then (if 0 ≤ jW p x.Name then aAs o (jW p x.Name) else o) else o
 | none=>o
noncomputable def cU (p:GProgram) (fn:Int):List Int:=(lF p fn).foldl (pQ p) []
structure CInv (p:GProgram) (o:List Int):Prop where
 nd:o.Nodup
 bnd:∀ x ∈ o,0 ≤ x∧x < (p.Fns.length:Int)
theorem CInv.step {p:GProgram} {o:List Int} (h:CInv p o) (e:Int):CInv p (pQ p o e):=by
 unfold pQ;split
 ·split
  ·split
   ·rename_i x _ _ hge;refine ⟨aBt h.nd _,fun y hy=>?_⟩;rcases mem_addL.1 hy with hy | hy
    ·exact h.bnd y hy
    subst hy;rcases aIj p x.Name with hb | hb
    ·omega
    exact hb
   exact h
  exact h
 exact h
theorem mC (p:GProgram) (fn:Int):CInv p (cU p fn):=by
 unfold cU;have key:∀ (l o:List Int),CInv p o→CInv p (l.foldl (pQ p) o):=by
  intro l;induction l with
  | nil=>intro o h;exact h
  | cons e l ih=>intro o h;exact ih _ (h.step e)
 exact key _ _ ⟨by simp,fun x hx=>by simp at hx⟩
theorem aIv {ρ:Type} (p:GProgram) (fn:Int) (f:List Int × Int→Option ((List Int × Int) ⊕ ρ)) (fin:List Int→ρ)
  (hf:∀ (o:List Int) (k:Nat) (hk:k < (lF p fn).length),o.length ≤ p.Fns.length→f (o,k)=some (.inl (pQ p o (lF p fn)[k],((k + 1:Nat):Int))))
  (he:∀ o,f (o,(lF p fn).length)=some (.inr (fin o))):aI f ([],0)=some (fin (cU p fn)):=by
 have:=cO (lF p fn) (fun (o:List Int) k=>(o,(k:Int))) (fun k o=>CInv p o) (fun o e=>.inl (pQ p o e)) fin f (fun o k hk hI=>by
  left;exact ⟨_,rfl,hf o k hk (eI hI.nd hI.bnd),hI.step _⟩) (fun o _=>he o) [] ⟨by simp,fun x hx=>by simp at hx⟩
 rw [dQ] at this;exact this
theorem oN (p:GProgram) (hn:p.Nodes.length ≤ 1048576) (hp:p.Fns.length ≤ 1048576) (fn:Int):jJ p fn=some (cU p fn):=by
 unfold jJ;rw [aDu p hn hp];simp only [Option.bind_some];have hnl:(lF p fn).length ≤ 1048576:=Nat.le_trans (zO _ _) hn;rw [aIv p fn (lM p (lF p fn)) (fun o=>o) (fun o k hk ho=>by
  have hb:=aF4 (List.getElem_mem hk);have hlt:(lF p fn)[k].toNat < p.Nodes.length:=by omega
  have hge:aP p.Nodes (lF p fn)[k]=some p.Nodes[(lF p fn)[k].toNat]:=eH hb.1 hb.2;simp only [lM,aB hk,if_true,aN hk,Option.bind_some,hge,sT p _ hp,bC hk hnl];unfold pQ;rw [List.getElem?_eq_getElem hlt];generalize p.Nodes[(lF p fn)[k].toNat]=x;have happ:bO 8 o [jW p x.Name]=some (o ++ [jW p x.Name]):=app1 (by omega) (by omega)
  simp only [rY o _ (by omega),Option.bind_some,happ]
  by_cases h12:x.Kind=12
  ·rw [if_pos (by simpa using h12),if_pos h12]
   by_cases h0:0 ≤ jW p x.Name
   ·have d:decide (jW p x.Name ≥ 0)=true:=by simpa using h0
    rw [d,if_pos h0];unfold aAs;cases o.contains (jW p x.Name)<;>rfl
   have d:decide (jW p x.Name ≥ 0)=false:=by simpa using h0
   rw [d,if_neg h0];rfl
  rw [if_neg (by simpa using h12),if_neg h12]) (fun o=>by simp [lM])]
 rfl
theorem oC (p:GProgram) (hn:p.Nodes.length ≤ 1048576) (hp:p.Fns.length ≤ 1048576) (fn:Int):jI p fn=some (cU p fn):=by
 unfold jI;rw [aEh p hn hp];simp only [Option.bind_some];have hnl:(lF p fn).length ≤ 1048576:=Nat.le_trans (zO _ _) hn;rw [aIv p fn (lD p (lF p fn)) (fun o=>o) (fun o k hk ho=>by
  have hb:=aF4 (List.getElem_mem hk);have hlt:(lF p fn)[k].toNat < p.Nodes.length:=by omega
  have hge:aP p.Nodes (lF p fn)[k]=some p.Nodes[(lF p fn)[k].toNat]:=eH hb.1 hb.2;simp only [lD,aB hk,if_true,aN hk,Option.bind_some,hge,vY p _ hp,bC hk hnl];unfold pQ;rw [List.getElem?_eq_getElem hlt];generalize p.Nodes[(lF p fn)[k].toNat]=x;simp only [aEg o _ (show o.length ≤ 1048576 by omega),Option.bind_some]
  by_cases h12:x.Kind=12
  ·rw [if_neg (by simpa using h12),if_pos h12]
   by_cases h0:0 ≤ jW p x.Name
   ·have d:decide (jW p x.Name ≥ 0)=true:=by simpa using h0
    rw [d,if_pos h0];rfl
   have d:decide (jW p x.Name ≥ 0)=false:=by simpa using h0
   rw [d,if_neg h0];rfl
  rw [if_pos (by simpa using h12),if_neg h12]) (fun o=>by simp [lD])]
 rfl
theorem aOc (fn i:Int):∀ (l:List Int) (o:List Int),l.Nodup→l.foldl (fun o e=>if (e == fn)=true then o ++ [i] else o) o=if l.contains fn=true then o ++ [i] else o
 | [],o,_=>rfl
 | e :: l,o,h=>by
  rw [List.nodup_cons] at h;rw [List.foldl_cons,aOc fn i l _ h.2,List.contains_cons];by_cases he:e=fn
  ·subst he;have hc:l.contains e=false:=by simpa using h.1
   simp [hc,h.1]
  have h1:(e == fn)=false:=by simpa using he
  have h2:(fn == e)=false:=by simpa using fun x=>he x.symm
  rw [h1,h2];simp
noncomputable def aGw (p:GProgram) (fn:Int):List Int:=aC8 p.Fns.length fun v=>(cU p (v:Int)).contains fn=true
theorem aEy (p:GProgram) (hn:p.Nodes.length ≤ 1048576) (hp:p.Fns.length ≤ 1048576) (fn:Int):nA p fn=some (aGw p fn)∧mO p fn=some (aGw p fn):=by
 constructor
 ·unfold nA;rw [vZ p.Fns.length hp (fun v=>(cU p (v:Int)).contains fn) (jD p fn) (fun o=>o) (fun o k ho hk=>by
   have hc:=mC p (k:Int);have hcl:=eI hc.nd hc.bnd;have happ:bO 8 o [(k:Int)]=some (o ++ [(k:Int)]):=app1 ho (by omega)
   simp only [jD,aB hk,if_true,oN p hn hp,Option.bind_some,rY _ _ (show (cU p (k:Int)).length ≤ 1048576 by omega),happ,bC hk hp]
   cases (cU p (k:Int)).contains fn<;>rfl) (fun o=>by simp [jD])]
  rfl
 unfold mO;rw [vZ p.Fns.length hp (fun v=>(cU p (v:Int)).contains fn) (iV p fn) (fun o=>o) (fun o k ho hk=>by
  have hc:=mC p (k:Int);have hcl:=eI hc.nd hc.bnd;have inner:aI (eP fn k (cU p (k:Int))) (o,0)=some (if (cU p (k:Int)).contains fn=true then o ++ [(k:Int)] else o):=by
   generalize cU p (k:Int)=L at *;have:=cO L (fun (s:List Int) j=>(s,(j:Int))) (fun j s=>(s=o∧(L.take j).contains fn=false) ∨ (s=o ++ [(k:Int)]∧(L.take j).contains fn=true)) (fun s e=>.inl (if (e == fn)=true then s ++ [(k:Int)] else s)) id (eP fn k L) (fun s j hj hI=>by
    left;have htk:(L.take (j + 1)).contains fn=((L.take j).contains fn || L[j] == fn):=by
     rw [List.take_add_one,List.getElem?_eq_getElem hj,List.contains_eq_any_beq,List.contains_eq_any_beq,List.any_append];simp only [Option.toList_some,List.any_cons,List.any_nil,Bool.or_false]
     congr 1
     rw [Bool.eq_iff_iff];simp only [beq_iff_eq];exact eq_comm
    refine ⟨_,rfl,?_,?_⟩
    ·simp only [eP,aB hj,if_true,aN hj,Option.bind_some,bC hj (show L.length ≤ 1048576 by omega)]
     cases hjf:L[j] == fn with
     | false=>rfl
     | true =>
      rcases hI with ⟨rfl,_⟩ | ⟨rfl,hc2⟩
      ·rw [app1 ho (by omega)];rfl
      exfalso;have hmem:fn ∈ L.take j:=by simpa using hc2
      have he:L[j]=fn:=by simpa using hjf
      obtain ⟨i,hi,hi2⟩:=List.mem_iff_getElem.1 hmem;rw [List.getElem_take] at hi2;rw [List.length_take] at hi;have:=(List.pairwise_iff_getElem.1 (List.nodup_iff_pairwise_ne.1 hc.nd)) i j (by omega) hj (by omega)
      exact this (hi2.trans he.symm)
    rw [htk];rcases hI with ⟨rfl,h1⟩ | ⟨rfl,h1⟩
    ·rw [h1];cases hjf:L[j] == fn with
     | false=>exact .inl ⟨rfl,rfl⟩
     | true=>exact .inr ⟨rfl,rfl⟩
    rw [h1];cases hjf:L[j] == fn with
    | false=>exact .inr ⟨rfl,rfl⟩
    | true =>
     exfalso;have hmem:fn ∈ L.take j:=by simpa using h1
     have he:L[j]=fn:=by simpa using hjf
     obtain ⟨i,hi,hi2⟩:=List.mem_iff_getElem.1 hmem;rw [List.getElem_take] at hi2;rw [List.length_take] at hi;have:=(List.pairwise_iff_getElem.1 (List.nodup_iff_pairwise_ne.1 hc.nd)) i j (by omega) hj (by omega)
     exact this (hi2.trans he.symm)) (fun s _=>by simp [eP]) o (.inl ⟨rfl,by simp⟩)
   rw [dQ] at this;have h2:aI (eP fn k L) (o,0)=some (L.foldl (fun s e=>if (e == fn)=true then s ++ [(k:Int)] else s) o):=this;rw [h2,aOc fn k L o hc.nd]
  simp only [iV,aB hk,if_true,oC p hn hp,Option.bind_some,inner,bC hk hp]) (fun o=>by simp [iV])]
 rfl
noncomputable def lE (p:GProgram) (fn:Int):List Int:=if inB fn 0 ((p.Fns.length:Int) - 1)=true then aC8 p.Fns.length (Reach (fun i=>cU p (i:Int)) fn.toNat) else []
theorem aCv {W:Nat} {next:Nat→List Int} {root:Nat} (hW:root < W):WInv W root next ((List.replicate W false).set root true,[(root:Int)]):=by
 have hc:((List.replicate W false).set root true).count true=1:=by
  rw [aE7 (by simpa using hW) (by simp [hW])]
  simp [List.count_replicate]
 refine ⟨by simp,by rw [hc];simp,by simp;omega,by simp [hW],fun n h=>?_,fun n h=>?_,by simp [hW]⟩
 ·simp only [List.getElem?_set,List.length_replicate] at h;split at h
  ·rename_i e;subst e;exact .base
  simp [List.getElem?_replicate] at h
 simp only [List.getElem?_set,List.length_replicate] at h;split at h
 ·rename_i e;subst e;exact .inl (by simp)
 simp [List.getElem?_replicate] at h
theorem oM (p:GProgram) (hn:p.Nodes.length ≤ 1048576) (hp:p.Fns.length ≤ 1048576) (fn:Int):gG p fn=some (lE p fn):=by
 unfold gG lE;simp only [eE,Option.bind_some,gH hp];cases hi:inB fn 0 ((p.Fns.length:Int) - 1) with
 | false=>rfl
 | true =>
  have hi':=inB_iff.1 hi;have hff:fn=((fn.toNat:Nat):Int):=by omega
  have hlt:fn.toNat < p.Fns.length:=by omega
  generalize fn.toNat=r at *;subst hff;simp only [Bool.not_true,Bool.false_eq_true,if_false,if_true];obtain ⟨o,g1,g2,g3⟩:=aLe p.Fns.length r hlt (fun i=>cU p (i:Int)) (fun i _ m hm=>(mC p _).bnd m hm) (iF p) (fun o=>o) (fun o i hi hnd hb hr=>by
   have hbi:=hb _ (List.getElem_mem hi);have hol:=eI hnd hb;have hc:=mC p o[i];have hcl:=eI hc.nd hc.bnd;have hcast:((o[i].toNat:Nat):Int)=o[i]:=by omega
   simp only [iF,aB hi,if_true,aN hi,Option.bind_some,oN p hn hp,hcast];generalize cU p o[i]=L at *;rw [aGz p.Fns.length L hc.bnd (iE L) (fun o=>o) (fun o k hk ho=>by
    have happ:bO 8 o [L[k]]=some (o ++ [L[k]]):=app1 (by omega) (by omega)
    simp only [iE,aB hk,if_true,aN hk,Option.bind_some,rY o _ (by omega),bC hk (show L.length ≤ 1048576 by omega),happ]
    unfold aAs;cases o.contains L[k]<;>rfl) (fun o=>by simp [iE]) o hnd hb]
   simp only [Option.bind_some,bC hi (show o.length ≤ 1048576 by omega)]) (fun o ho=>by simp [iF])
  rw [g1];simp only [Option.bind_some];have hol:=eI (n:=p.Fns.length) g2 fun x hx=>⟨((g3 x).1 hx).1,((g3 x).1 hx).2.1⟩;rw [aD5 (by omega)]
  simp only [Option.bind_some];rw [aD6 g2 g3]
theorem aMx {ρ:Type} (r:List Int) (W:Nat) (hW:W ≤ 1048576) (hr:∀ m ∈ r,0 ≤ m∧m < W) (f:List Bool × List Int × Int→Option ((List Bool × List Int × Int) ⊕ ρ)) (fin:List Bool × List Int→ρ)
  (hf:∀ (o:List Bool) (t:List Int) (k:Nat) (hk:k < r.length),o.length=W→t.length ≤ 1048576→f (o,t,k)=some (.inl ((vis (o,t) r[k]).1,(vis (o,t) r[k]).2,((k + 1:Nat):Int))))
  (he:∀ o t,f (o,t,r.length)=some (.inr (fin (o,t)))) (o:List Bool) (t:List Int) (ho:o.length=W) (ht:t.length ≤ o.count true):aI f (o,t,0)=some (fin (r.foldl vis (o,t))):=by
 have:=cO r (fun (s:List Bool × List Int) k=>(s.1,s.2,(k:Int))) (fun k s=>s.1.length=W∧s.2.length ≤ s.1.count true) (fun s e=>.inl (vis s e)) fin f (fun s k hk hI=>by
  left;obtain ⟨h1,h2⟩:=hI;have hcw:=List.count_le_length (a:=true) (l:=s.1);have hb:=hr _ (List.getElem_mem hk);refine ⟨_,rfl,hf s.1 s.2 k hk h1 (by omega),by rw [aJ4];exact h1,?_⟩
  have:=aH6 (s:=s) (m:=r[k]) (by omega)
  omega) (fun s _=>he s.1 s.2) (o,t) ⟨ho,ht⟩
 rw [dQ] at this;exact this
theorem oA (p:GProgram) (hn:p.Nodes.length ≤ 1048576) (hp:p.Fns.length ≤ 1048576) (fn:Int):gC p fn=some (lE p fn):=by
 unfold gC lE;simp only [fA,Option.bind_some,gH (show p.Fns.length ≤ 1048576 by omega)]
 cases hi:inB fn 0 ((p.Fns.length:Int) - 1) with
 | false=>rfl
 | true =>
  have hi':=inB_iff.1 hi;have hff:fn=((fn.toNat:Nat):Int):=by omega
  have hlt:fn.toNat < p.Fns.length:=by omega
  generalize fn.toNat=r at *;subst hff;simp only [Bool.not_true,Bool.false_eq_true,if_false,if_true];rw [aDj _ _ _ (by omega) (by omega)]
  have h0:aP (List.replicate p.Fns.length false) (r:Int)=some false:=by
   rw [aAd,List.getElem?_replicate,if_pos hlt]
  simp only [Option.bind_some,h0,eC,Int.toNat_natCast];have hnx:∀ (i:Nat),i < p.Fns.length→∀ m ∈ cU p (i:Int),0 ≤ m∧m < (p.Fns.length:Int):=fun i _ m hm=>(mC p _).bnd m hm;obtain ⟨t',g1,g2,g3⟩:=aQx (gZ p) (fun t=>(t.1,t.2.1.drop t.2.2.toNat)) (fun t=>∃ i:Nat,t.2.2=i∧i ≤ t.2.1.length∧t.2.1.length ≤ t.1.count true) p.Fns.length r (fun i=>cU p (i:Int)) (fun t=>t.1) hnx (fun t hO hI hne=>by
   obtain ⟨o,l,i⟩:=t;obtain ⟨i,rfl,hi,hlc⟩:=hO;simp only [Int.toNat_natCast] at hI hne hi hlc ⊢;have hil:i < l.length:=by
    rcases Nat.lt_or_ge i l.length with h | h
    ·exact h
    exact absurd (List.drop_eq_nil_of_le h) hne
   have hdr:=List.drop_eq_getElem_cons hil;have hmem:l[i] ∈ l.drop i:=by rw [hdr];exact List.mem_cons_self
   have hcov:∀ x ∈ l.drop i,x=l[i] ∨ x ∈ l.drop (i + 1):=by rw [hdr];intro x hx;exact List.mem_cons.1 hx
   have hsubs:∀ x ∈ l.drop (i + 1),x ∈ l.drop i:=by rw [hdr];intro x hx;exact List.mem_cons_of_mem _ hx
   have hdl:(l.drop (i + 1)).length + 1=(l.drop i).length:=by rw [List.length_drop,List.length_drop];omega
   have heb:=hI.bnd l[i] hmem;have hlen:=hI.len;have hcw:=List.count_le_length (a:=true) (l:=o);simp only at hlen;have hcast:((l[i].toNat:Nat):Int)=l[i]:=by omega
   have hc:=mC p l[i];have hcl:=eI hc.nd hc.bnd;have hnn:(fun i:Nat=>cU p (i:Int)) l[i].toNat=cU p l[i]:=by simp only [hcast]
   have V:=visL (cU p l[i]) (o,l) (fun m hmm=>by have:=hc.bnd m hmm;simp only;omega)
   have hfa:=aAe (cU p l[i]) (l.take (i + 1)) o (l.drop (i + 1));rw [List.take_append_drop] at hfa;have hcalls:=oC p hn (show p.Fns.length ≤ 1048576 by omega) l[i]
   generalize hL:cU p l[i]=L at *;refine ⟨((L.foldl vis (o,l)).1,(L.foldl vis (o,l)).2,((i + 1:Nat):Int)),l[i],l.drop (i + 1),L,?_,⟨i + 1,rfl,?_,?_⟩,hmem,hcov,hsubs,hdl,fun m=>by rw [hcast,hL],?_⟩
   ·simp only [gZ,aB hil,if_true,aN hil,Option.bind_some,hcalls];rw [aMx L p.Fns.length (by omega) hc.bnd (gY L) (fun s=>s) (fun o t k hk ho ht=>by
     have hb:=hc.bnd _ (List.getElem_mem hk);simp only [gY,aB hk,if_true,aN hk,Option.bind_some,aR0 hb.1 (show L[k] < (o.length:Int) by rw [ho];exact hb.2),eC,bC hk (show L.length ≤ 1048576 by omega),app1 (n:=8) (show t.length ≤ 1048576 by omega) (by omega)]
     rw [vis_eq (show (L[k]).toNat < o.length by omega)]
     cases o[(L[k]).toNat]<;>rfl) (fun o t=>by simp [gY]) o l hI.len hlc]
    simp only [Option.bind_some,bC hil (show l.length ≤ 1048576 by omega)]
   ·rw [hfa];simp;omega
   ·have q1:=V.count;have q2:=V.cle;simp only at q1 q2 ⊢;omega
   ·simp only [Int.toNat_natCast];rw [hfa];simp only
    congr 1
    rw [List.drop_append_of_le_length (by simp;omega),List.drop_of_length_le (by simp;omega)];simp) (fun t hO he=>by
   obtain ⟨o,l,i⟩:=t;obtain ⟨i,rfl,hi,hlc⟩:=hO;simp only [Int.toNat_natCast] at he hi;have hil:i=l.length:=by
    have:=congrArg List.length he;simp at this;omega
   subst hil;simp [gZ]) ((List.replicate p.Fns.length false).set r true,[(r:Int)],0) ⟨0,rfl,by simp,by
    have:=(aCv (W:=p.Fns.length) (next:=fun i=>cU p (i:Int)) hlt).cnt
    exact this⟩ (aCv hlt)
  rw [g1];simp only [Option.bind_some];simp only at g3;rw [g3];have hRl:(zV p.Fns.length r fun i=>cU p (i:Int)).length=p.Fns.length:=by unfold zV;simp
  have hRg:∀ j,j < p.Fns.length→((zV p.Fns.length r fun i=>cU p (i:Int))[j]? = some true ↔ Reach (fun i=>cU p (i:Int)) r j):=fun j hj=>by
   unfold zV;rw [List.getElem?_map,List.getElem?_range hj];simp
  generalize hRR:(zV p.Fns.length r fun i=>cU p (i:Int))=R at *;rw [vZ p.Fns.length (by omega) (fun j=>R.getD j false) (gX R) (fun o=>o) (fun o j ho hj=>by
   have hjs:j < R.length:=by omega
   have happ:bO 8 o [(j:Int)]=some (o ++ [(j:Int)]):=app1 ho (by omega)
   simp only [gX,hRl,aB hj,if_true,aN hjs,Option.bind_some,happ,bC hj (show p.Fns.length ≤ 1048576 by omega)]
   rw [List.getD_eq_getElem?_getD,List.getElem?_eq_getElem hjs];simp only [Option.getD_some];cases R[j]<;>rfl) (fun o=>by simp [gX,hRl])]
  simp only [Option.bind_some]
  congr 1
  refine xI fun j hj=>?_;rw [← hRg j hj];have hjs:j < R.length:=by omega
  rw [List.getD_eq_getElem?_getD,List.getElem?_eq_getElem hjs];simp
theorem xK (p:GProgram) (fn:Int):(lE p fn).length ≤ p.Fns.length:=by
 unfold lE;split
 ·exact zO _ _
 simp
theorem aNp (p:GProgram) (fn:Int):(lE p fn).Pairwise (· < ·):=by
 unfold lE;split
 ·exact aD7 _ _
 simp
theorem aF3 {p:GProgram} {fn x:Int} (h:x ∈ lE p fn):0 ≤ x∧x < p.Fns.length:=by
 unfold lE at h;split at h
 ·have:=mem_setL.1 h;exact ⟨this.1,this.2.1⟩
 cases h
noncomputable def aOh (p:GProgram):List Int:=aC8 p.Fns.length fun v=>(lE p ((p.Fns.length:Int) - 1)).contains (v:Int)=false
theorem aDx (p:GProgram) (hn:p.Nodes.length ≤ 1048576) (hp:p.Fns.length ≤ 1048576):qN p=some (aOh p):=by
 unfold qN aOh;rw [gH hp,oM p hn hp];simp only [Option.bind_some];have hRl:=xK p ((p.Fns.length:Int) - 1);generalize lE p ((p.Fns.length:Int) - 1)=R at *;rw [vZ p.Fns.length hp (fun v=>!(R.contains (v:Int))) (lL p R) (fun o=>o) (fun o k ho hk=>by
  have happ:bO 8 o [(k:Int)]=some (o ++ [(k:Int)]):=app1 ho (by omega)
  simp only [lL,aB hk,if_true,rY R _ (by omega),Option.bind_some,happ,bC hk hp]
  cases R.contains (k:Int)<;>rfl) (fun o=>by simp [lL])]
 simp only [Option.bind_some]
 congr 1
 exact xI fun j hj=>by simp
theorem aD4 (p:GProgram) (hn:p.Nodes.length ≤ 1048576) (hp:p.Fns.length ≤ 1048576):pX p=some (aOh p):=by
 unfold pX aOh;rw [gH hp,oA p hn hp];simp only [Option.bind_some];have hRl:=xK p ((p.Fns.length:Int) - 1);have hRs:=aNp p ((p.Fns.length:Int) - 1);have hRb:=fun x=>aF3 (p:=p) (fn:=(p.Fns.length:Int) - 1) (x:=x);generalize lE p ((p.Fns.length:Int) - 1)=R at *;obtain ⟨r,h1,h2⟩:=dY (f:=gD p R) (fun s:List Int × Int × Int=>∃ a i:Nat,s.2=((a:Int),(i:Int))∧a ≤ R.length∧i ≤ p.Fns.length∧s.1=(((List.range i).filter fun v:Nat=>!(R.contains (v:Int))).map fun k:Nat=>(k:Int))∧(∀ x ∈ R.take a,x < (i:Int))∧∀ x ∈ R.drop a,(i:Int) ≤ x) (fun s=>p.Fns.length - s.2.2.toNat) (fun r=>r=aC8 p.Fns.length fun v=>R.contains (v:Int)=false) (by
  rintro ⟨o,q⟩ ⟨a,i,rfl,ha,hi,ho,h3,h4⟩;simp only at ho h3 h4;have hol:o.length ≤ 1048576:=by
   rw [ho,List.length_map];have:=List.length_filter_le (fun v:Nat=>!(R.contains (v:Int))) (List.range i);rw [List.length_range] at this;omega
  by_cases hlt:i < p.Fns.length
  ·left;have hmem:(i:Int) ∈ R ↔ ∃ h:a < R.length,R[a]=(i:Int):=by
    constructor
    ·intro h;rw [← List.take_append_drop a R,List.mem_append] at h;rcases h with h | h
     ·have:=h3 _ h;omega
     have hal:a < R.length:=by
      rcases Nat.lt_or_ge a R.length with h' | h'
      ·exact h'
      rw [List.drop_eq_nil_of_le h'] at h;cases h
     have e1:=aJu hRs hal h;have e2:=h4 _ (wU hal);exact ⟨hal,by omega⟩
    rintro ⟨h,e⟩;rw [← e];exact List.getElem_mem h
   have da:decide ((a:Int) < (R.length:Int))=decide (a < R.length):=decide_eq_decide.2 (by omega)
   have wa:IntKind.wrap .i64 ((a:Int) + 1)=((a + 1:Nat):Int):=by rw [w64 (by omega) (by omega)];omega
   have happ:bO 8 o [(i:Int)]=some (o ++ [(i:Int)]):=app1 hol (by omega)
   have hsucc:((List.range (i + 1)).filter fun v:Nat=>!(R.contains (v:Int))).map (fun k:Nat=>(k:Int))=o ++ (if R.contains (i:Int)=true then [] else [(i:Int)]):=by
    rw [List.range_succ,List.filter_append,List.map_append,← ho];cases hc:R.contains (i:Int)
    ·have:(i:Int) ∉ R:=by simpa using hc
     simp [this]
    have:(i:Int) ∈ R:=by simpa using hc
    simp [this]
   by_cases hm:(i:Int) ∈ R
   ·obtain ⟨hal,he⟩:=hmem.1 hm;have hc:R.contains (i:Int)=true:=by simpa using hm
    refine ⟨(o,((a + 1:Nat):Int),((i + 1:Nat):Int)),?_,⟨a + 1,i + 1,rfl,by omega,by omega,?_,fun x hx=>?_,fun x hx=>?_⟩,by simp only [Int.toNat_natCast];omega⟩
    ·simp [gD,hlt,hal,aN hal,he,wa,bC hlt hp]
    ·simp only;rw [hsucc,hc];simp
    ·rcases (lQ hal).1 hx with h | h
     ·have:=h3 x h;omega
     omega
    have:=aBo hRs hal hx;omega
   have hc:R.contains (i:Int)=false:=by simpa using hm
   refine ⟨(o ++ [(i:Int)],(a:Int),((i + 1:Nat):Int)),?_,⟨a,i + 1,rfl,ha,by omega,?_,fun x hx=>?_,fun x hx=>?_⟩,by simp only [Int.toNat_natCast];omega⟩
   ·by_cases hal:a < R.length
    ·have hne:¬ R[a]=(i:Int):=fun e=>hm (hmem.2 ⟨hal,e⟩);simp [gD,hlt,hal,aN hal,hne,happ,bC hlt hp]
    simp [gD,hlt,hal,happ,bC hlt hp]
   ·simp only;rw [hsucc,hc];simp
   ·have:=h3 x hx;omega
   have e1:=h4 x hx;have:x ≠ (i:Int):=fun e=>hm (e ▸ List.mem_of_mem_drop hx);omega
  right;have:i=p.Fns.length:=by omega
  subst this;refine ⟨o,by simp [gD],?_⟩
  rw [ho];unfold aC8
  congr 1
  refine List.filter_congr fun x _=>?_;simp) ([],0,0) ⟨0,0,rfl,by omega,by omega,rfl,fun x hx=>by simp at hx,fun x hx=>by
   have:=hRb x (List.mem_of_mem_drop hx);omega⟩
 rw [h1,h2]
 rfl
end Go.OM
namespace Go.OM
theorem tX {p:GProgram} (h:uX p=true):1 ≤ p.Nodes.length∧p.Nodes.length ≤ 300∧1 ≤ p.Fns.length∧p.Fns.length ≤ 8∧okU p.Nodes p.Nodes.length=true:=by
 unfold uX at h;simp only [Bool.and_eq_true,inB_iff] at h;obtain ⟨h1,h2,h3,_⟩:=h;exact ⟨by omega,by omega,by omega,by omega,h3⟩
end Go.OM
namespace Go.OM
def aO3 (names:List ByteArray) (s:ByteArray):Bool:=names.any fun e=>sEq e s
theorem aDs (l:List ByteArray) (s:ByteArray) (hl:l.length ≤ 1048576):qF l s=some (aO3 l s):=by
 unfold qF aO3;rw [aA3 l (fun e=>sEq e s) (lI l s) (fun k h=>by
  simp only [lI,aB h,if_true,aN h,Option.bind_some,bC h hl];cases sEq l[k] s<;>rfl) (by simp [lI])]
 cases l.any fun e=>sEq e s<;>rfl
theorem yD (l:List ByteArray) (s:ByteArray) (hl:l.length ≤ 1048576):pF l s=some (aO3 l s):=by
 unfold pF aO3;rw [aA3 l (fun e=>sEq e s) (mI l s) (fun k h=>by
  simp only [mI,aB h,if_true,aN h,Option.bind_some,bC h hl];cases sEq l[k] s<;>rfl) (by simp [mI])]
 cases l.any fun e=>sEq e s<;>rfl
def aAv (k:Int):Bool:=inB k 2 6 || (k == 14 || k == 15)
theorem aIc (k:Int):wI k=some (aAv k):=by
 unfold wI aAv;simp only [eE,Option.bind_some];cases inB k 2 6 with
 | true=>rfl
 | false =>
  by_cases h:k=14
  ·subst h;rfl
  simp [h]
def aFn (p:GProgram) (fn:Int) (x:GNode):Bool:=inB (jW p x.Name) 0 (fn - 1) && (match p.Fns[(jW p x.Name).toNat]? with | some f=>(f.Params.length:Int) == (x.Kids.length:Int) | none=>false)
def aCc (p:GProgram) (fn:Int) (x:GNode) (names:List ByteArray):Bool:=(!(aAv x.Kind) || aO3 names x.Name) && (!(x.Kind == 12) || aFn p fn x)
def tF (p:GProgram) (blk:Bool) (kid:Int) (inner:List ByteArray):List ByteArray:=if blk=true then (match p.Nodes[kid.toNat]? with | some y=>if y.Kind=13 then inner ++ [y.Name] else inner | none=>inner) else inner
def qU (p:GProgram) (rc:Int→List ByteArray→Bool) (blk:Bool):List Int→List ByteArray→Bool
 | [],_=>true
 | kid :: l,inner=>rc kid inner && qU p rc blk l (tF p blk kid inner)
def iW (p:GProgram) (fn:Int):Nat→Int→List ByteArray→Bool
 | 0,_,_=>true
 | f + 1,k,names=>match p.Nodes[k.toNat]? with
  | none=>true
  | some x=>aCc p fn x names && qU p (iW p fn f) (x.Kind == 20) x.Kids names
theorem aA5 (p:GProgram) (blk:Bool) (kid:Int) (inner:List ByteArray):(tF p blk kid inner).length ≤ inner.length + 1:=by
 unfold tF;split
 ·split
  ·split
   ·simp
   omega
  omega
 omega
theorem aFg (p:GProgram) (rc:Int→List ByteArray→Bool) (blk:Bool):∀ (l:List Int) (s:List ByteArray),
  aEt (fun s kid=>if rc kid s=true then (.inl (tF p blk kid s):List ByteArray ⊕ (Unit ⊕ Bool)) else .inr (.inr false)) (fun _=>.inl ()) l s=if qU p rc blk l s=true then .inl () else .inr false
 | [],s=>rfl
 | kid :: l,s=>by
  have ih:=aFg p rc blk l (tF p blk kid s);by_cases h:rc kid s=true
  ·simp only [aEt,qU,h,if_true,Bool.true_and];exact ih
  simp only [aEt,qU,Bool.eq_false_iff.2 h,Bool.false_eq_true,if_false,Bool.false_and]
theorem aOr {l:List ByteArray} (h:l.length ≤ 100000) (x:ByteArray):bO 16 l [x]=some (l ++ [x]):=aEw (by omega) (by omega)
theorem tG (p:GProgram) (hF:p.Fns.length ≤ 1048576) (hu:okU p.Nodes p.Nodes.length=true) (fn:Nat) (hfn:fn < p.Fns.length) :
  ∀ (f D:Nat) (k:Int) (names:List ByteArray),0 ≤ k→k < p.Nodes.length→sV p.Nodes k.toNat ≤ D→D ≤ f→names.length + 12 * D ≤ 1000→jN f p fn k names=some (iW p fn D k names)
 | 0,D,k,names,h0,h1,h2,h3,h4=>by
  have:=kI p.Nodes k.toNat;omega
 | f + 1,D,k,names,h0,h1,h2,h3,h4=>by
  have hp:=kI p.Nodes k.toNat;cases D with
  | zero=>omega
  | succ D =>
  have hk:k.toNat < p.Nodes.length:=by omega
  have hx:p.Nodes[k.toNat]? = some p.Nodes[k.toNat]:=List.getElem?_eq_getElem hk;have hnb:=(oF hu hk).1;have hge:aP p.Nodes k=some p.Nodes[k.toNat]:=eH h0 (by omega)
  have hkl:=iA hnb hx;have hkb:=lX hnb hx;have hdk:∀ kid ∈ p.Nodes[k.toNat].Kids,sV p.Nodes kid.toNat ≤ D:=fun kid hm=>by
   have:=aAl hnb hx hm;omega
  show rS (jN f) p fn k names=_;unfold rS;simp only [iW,hx,hge,Option.bind_some,aIc,aDs names _ (show names.length ≤ 1048576 by omega)]
  generalize hgx:p.Nodes[k.toNat]=x at *;have hw:IntKind.wrap .i64 ((fn:Int) - 1)=(fn:Int) - 1:=w64 (by omega) (by omega)
  have hkids:aI (nN (jN f) p fn x) (names,0)=some (if qU p (iW p fn D) (x.Kind == 20) x.Kids names=true then .inl () else .inr false):=by
   rw [← aFg];refine cO x.Kids (fun (s:List ByteArray) k=>(s,(k:Int))) (fun j s=>s.length ≤ names.length + j) _ _ (nN (jN f) p fn x) (fun s j hj hI=>?_) (fun s _=>by simp [nN]) names (by simp)
   have hm:=List.getElem_mem hj;have hb:=hkb _ hm;have hrc:=tG p hF hu fn hfn f D x.Kids[j] s hb.1 (by omega) (hdk _ hm) (by omega) (by omega)
   simp only [nN,aB hj,if_true,aN hj,Option.bind_some,hrc];cases hs:iW p fn D x.Kids[j] s with
   | false =>
    right;exact ⟨.inr false,by simp,by simp⟩
   | true =>
    left;have hlt:(x.Kids[j]).toNat < p.Nodes.length:=by omega
    have hgk:aP p.Nodes x.Kids[j]=some p.Nodes[(x.Kids[j]).toNat]:=eH hb.1 (by omega)
    have hgo:p.Nodes[(x.Kids[j]).toNat]? = some p.Nodes[(x.Kids[j]).toNat]:=List.getElem?_eq_getElem hlt;refine ⟨tF p (x.Kind == 20) x.Kids[j] s,by simp,?_,?_⟩
    ·simp only [Bool.not_true,Bool.false_eq_true,if_false,hgk,Option.bind_some];unfold tF;rw [hgo];cases hb20:(x.Kind == 20) with
     | false=>simp [bC hj (show x.Kids.length ≤ 1048576 by omega)]
     | true =>
      by_cases h13:(p.Nodes[(x.Kids[j]).toNat]).Kind=13
      ·simp [h13,aOr (show s.length ≤ 100000 by omega),bC hj (show x.Kids.length ≤ 1048576 by omega)]
      simp [h13,bC hj (show x.Kids.length ≤ 1048576 by omega)]
    have:=aA5 p (x.Kind == 20) x.Kids[j] s;omega
  rw [hkids];have happ:bO 16 [] names=some names:=aJz (by omega) (by omega)
  rw [happ];simp only [Option.bind_some];have hfin:(match (if qU p (iW p fn D) (x.Kind == 20) x.Kids names=true then (Sum.inl ():Unit ⊕ Bool) else Sum.inr false) with | Sum.inr z=>some z | Sum.inl ()=>some true)=some (qU p (iW p fn D) (x.Kind == 20) x.Kids names):=by
   cases qU p (iW p fn D) (x.Kind == 20) x.Kids names<;>rfl
  have hu1:(if aAv x.Kind=true then some (!(aO3 names x.Name)) else some false)=some (!(!(aAv x.Kind) || aO3 names x.Name)):=by
   cases aAv x.Kind<;>simp
  rw [hu1];simp only [Option.bind_some];unfold aCc;cases hq:(!(aAv x.Kind) || aO3 names x.Name) with
  | false=>simp
  | true =>
   simp only [Bool.not_true,Bool.false_eq_true,if_false,Bool.true_and];have hcall:((if (x.Kind == 12)=true then (qM p x.Name).bind fun r22=>Option.bind ((eQ r22 0 (IntKind.wrap .i64 ((fn:Int) - 1))).bind fun r26=>if (!r26)=true then some true else (aP p.Fns r22).bind fun e30=>some ((e30.Params.length:Int) != (x.Kids.length:Int))) fun v31=>if v31=true then some (Sum.inr false) else some (Sum.inl ()) else some (Sum.inl ())):Option (Unit ⊕ Bool))=some (if (!(x.Kind == 12) || aFn p fn x)=true then .inl () else .inr false):=by
    cases h12:(x.Kind == 12) with
    | false=>simp
    | true =>
     simp only [if_true,sT p _ hF,eE,Option.bind_some,hw];unfold aFn;cases hi:inB (jW p x.Name) 0 ((fn:Int) - 1) with
     | false=>simp
     | true =>
      have hi':=inB_iff.1 hi;have hlt:(jW p x.Name).toNat < p.Fns.length:=by omega
      rw [eH hi'.1 (by omega),List.getElem?_eq_getElem hlt]
      by_cases he:((p.Fns[(jW p x.Name).toNat]).Params.length:Int)=(x.Kids.length:Int)
      ·simp [he]
      simp [he]
   rw [hcall];simp only [Option.bind_some];cases (!(x.Kind == 12) || aFn p fn x) with
   | false=>simp
   | true=>simp only [if_true,Bool.true_and];exact hfin
end Go.OM
namespace Go.OM
theorem aDz (p:GProgram) (rc:Int→List ByteArray→Bool):∀ (l:List Int) (th:List ByteArray) (b:Bool),l.foldl (fun b kid=>b || !(rc kid th)) b=(b || !(qU p rc false l th))
 | [],th,b=>by simp [qU]
 | kid :: l,th,b=>by
  rw [List.foldl_cons,aDz p rc l th];have:tF p false kid th=th:=by simp [tF]
  simp only [qU,this];cases b<;>cases rc kid th<;>simp
theorem rG (p:GProgram) (hF:p.Fns.length ≤ 1048576) (hu:okU p.Nodes p.Nodes.length=true) (fn:Nat) (hfn:fn < p.Fns.length) :
  ∀ (f D:Nat) (k:Int) (th:List ByteArray) (b:Bool),0 ≤ k→k < p.Nodes.length→(∀ x,p.Nodes[k.toNat]? = some x→vR x.Kind=true)→sV p.Nodes k.toNat ≤ D→D ≤ f→th.length ≤ 1000 →
   cL f ⟨p,fn,th,b⟩ k=some ⟨p,fn,th,b || !(iW p fn D k th)⟩
 | 0,D,k,th,b,h0,h1,hv,h2,h3,h4=>by
  have:=kI p.Nodes k.toNat;omega
 | f + 1,D,k,th,b,h0,h1,hv,h2,h3,h4=>by
  have hp:=kI p.Nodes k.toNat;cases D with
  | zero=>omega
  | succ D =>
  have hk:k.toNat < p.Nodes.length:=by omega
  have hx:p.Nodes[k.toNat]? = some p.Nodes[k.toNat]:=List.getElem?_eq_getElem hk;have hnb:=(oF hu hk).1;have hge:aP p.Nodes k=some p.Nodes[k.toNat]:=eH h0 (by omega)
  have hkl:=iA hnb hx;have hkb:=lX hnb hx;have hdk:∀ kid ∈ p.Nodes[k.toNat].Kids,sV p.Nodes kid.toNat ≤ D:=fun kid hm=>by
   have:=aAl hnb hx hm;omega
  have hvk:=hv _ hx;have hkv:∀ kid ∈ p.Nodes[k.toNat].Kids,∀ y,p.Nodes[kid.toNat]? = some y→vR y.Kind=true:=by
   intro kid hm y hy;obtain ⟨i,hi,rfl⟩:=List.mem_iff_getElem.1 hm;obtain ⟨_,_,_,g3,_⟩:=rO hnb;obtain ⟨_,_,z,hz,hfit⟩:=g3 i hi;rw [hy] at hz;injection hz with hz
   subst hz;have hv1:=inB_iff.1 hvk;unfold aAg at hfit;rw [if_neg (by omega),if_neg (by omega),if_neg (by omega)] at hfit
   exact hfit
  show fI (cL f) ⟨p,fn,th,b⟩ k=_;unfold fI;simp only [iW,hx,hge,Option.bind_some];generalize hgx:p.Nodes[k.toNat]=x at *;have hv1:=inB_iff.1 hvk;have hloop:aI (dJ (cL f) x) (0,(⟨p,fn,th,b⟩:Gl07Seen))=some ⟨p,fn,th,b || !(qU p (iW p fn D) false x.Kids th)⟩:=by
   have:=cO x.Kids (fun (b:Bool) j=>((j:Int),(⟨p,fn,th,b⟩:Gl07Seen))) (fun _ _=>True) (fun b kid=>.inl (b || !(iW p fn D kid th))) (fun b=>(⟨p,fn,th,b⟩:Gl07Seen)) (dJ (cL f) x) (fun b j hj _=>by
    left;have hm:=List.getElem_mem hj;have hb:=hkb _ hm;refine ⟨_,rfl,?_,trivial⟩;simp only [dJ,aB hj,if_true,aN hj,Option.bind_some,rG p hF hu fn hfn f D x.Kids[j] th b hb.1 (by omega) (hkv _ hm) (hdk _ hm) (by omega) h4,bC hj (show x.Kids.length ≤ 1048576 by omega)]) (fun b _=>by simp [dJ]) b trivial
   rw [dQ,aDz p] at this;exact this
  rw [hloop];have h20:(x.Kind == 20)=false:=by simp;omega
  rw [h20];simp only [Option.bind_some];generalize hB:qU p (iW p fn D) false x.Kids th=B;have hhas:=yD th x.Name (show th.length ≤ 1048576 by omega)
  by_cases h26:2 ≤ x.Kind∧x.Kind ≤ 6
  ·have hcond:(if (x.Kind == 2)=true then some (x.Kind == 2) else if (x.Kind == 3)=true then some (x.Kind == 3) else if (x.Kind == 4)=true then some (x.Kind == 4) else if (x.Kind == 5)=true then some (x.Kind == 5) else some (x.Kind == 6))=some true:=by
    have:x.Kind=2 ∨ x.Kind=3 ∨ x.Kind=4 ∨ x.Kind=5 ∨ x.Kind=6:=by omega
    rcases this with e | e | e | e | e<;>simp [e]
   rw [hcond];have hu1:aAv x.Kind=true:=by
    unfold aAv;rw [inB_iff.2 h26];rfl
   have h12:(x.Kind == 12)=false:=by simp;omega
   simp only [Option.bind_some,if_true,hhas,aCc,hu1,h12,Bool.not_true,Bool.false_or,Bool.not_false,Bool.true_or,Bool.and_true];cases b<;>cases B<;>cases aO3 th x.Name<;>simp
  have hcond:(if (x.Kind == 2)=true then some (x.Kind == 2) else if (x.Kind == 3)=true then some (x.Kind == 3) else if (x.Kind == 4)=true then some (x.Kind == 4) else if (x.Kind == 5)=true then some (x.Kind == 5) else some (x.Kind == 6))=some false:=by
   have n2:¬ x.Kind=2:=by omega
   have n3:¬ x.Kind=3:=by omega
   have n4:¬ x.Kind=4:=by omega
   have n5:¬ x.Kind=5:=by omega
   have n6:¬ x.Kind=6:=by omega
   simp [n2,n3,n4,n5,n6]
  rw [hcond];have hu1:aAv x.Kind=false:=by
   unfold aAv;have e1:inB x.Kind 2 6=false:=by
    rw [Bool.eq_false_iff];intro h;exact h26 (inB_iff.1 h)
   have e2:(x.Kind == 14)=false:=by simp;omega
   have e3:(x.Kind == 15)=false:=by simp;omega
   rw [e1,e2,e3];rfl
  simp only [Option.bind_some,Bool.false_eq_true,if_false,aCc,hu1,Bool.not_false,Bool.true_or,Bool.true_and];by_cases h12:x.Kind=12
  ·have e12:(x.Kind == 12)=true:=by simpa using h12
   simp only [e12,if_true,vY p _ hF,Option.bind_some,Bool.not_true,Bool.false_or];unfold aFn;rcases aIj p x.Name with hm1 | ⟨g0,g1⟩
   ·have hi:inB (jW p x.Name) 0 ((fn:Int) - 1)=false:=by
     rw [Bool.eq_false_iff];intro h;have:=inB_iff.1 h;omega
    rw [hi];have hlt:decide (jW p x.Name < 0)=true:=by simp [hm1]
    rw [hlt];cases b<;>cases B<;>simp
   have hlt:decide (jW p x.Name < 0)=false:=by simp only [decide_eq_false_iff_not];omega
   rw [hlt];by_cases hge2:jW p x.Name ≥ fn
   ·have hi:inB (jW p x.Name) 0 ((fn:Int) - 1)=false:=by
     rw [Bool.eq_false_iff];intro h;have:=inB_iff.1 h;omega
    rw [hi,decide_eq_true hge2];cases b<;>cases B<;>simp
   have hi:inB (jW p x.Name) 0 ((fn:Int) - 1)=true:=inB_iff.2 (by omega)
   have hlt2:(jW p x.Name).toNat < p.Fns.length:=by omega
   rw [hi,decide_eq_false hge2,eH g0 (by omega),List.getElem?_eq_getElem hlt2]
   cases b<;>cases B<;>simp<;>rfl
  have e12:(x.Kind == 12)=false:=by simpa using h12
  simp only [e12,Bool.false_eq_true,if_false,Bool.not_false,Bool.true_or,Bool.true_and]
end Go.OM
namespace Go.OM
def qB (p:GProgram) (kids:List Int) (th:List ByteArray):List ByteArray:=kids.foldl (fun th kid=>tF p true kid th) th
theorem aL3 (p:GProgram) (rc:Int→List ByteArray→Bool):∀ (l:List Int) (th:List ByteArray) (b:Bool),l.foldl (fun (s:List ByteArray × Bool) kid=>(tF p true kid s.1,s.2 || !(rc kid s.1))) (th,b)=(qB p l th,b || !(qU p rc true l th))
 | [],th,b=>by simp [qB,qU]
 | kid :: l,th,b=>by
  rw [List.foldl_cons];have:=aL3 p rc l (tF p true kid th) (b || !(rc kid th));rw [this];simp only [qB,List.foldl_cons,qU];cases b<;>cases rc kid th<;>simp
theorem aBh (p:GProgram):∀ (l:List Int) (th:List ByteArray),(qB p l th).length ≤ th.length + l.length
 | [],th=>by simp [qB]
 | kid :: l,th=>by
  have h1:=aBh p l (tF p true kid th);have h2:=aA5 p true kid th;simp only [qB,List.foldl_cons,List.length_cons] at h1 ⊢;omega
theorem aJi (p:GProgram) (fn:Int) (x:GNode) (th:List ByteArray) (h:x.Kind=13 ∨ 16 ≤ x.Kind):aCc p fn x th=true:=by
 unfold aCc aAv;have e1:inB x.Kind 2 6=false:=by
  rw [Bool.eq_false_iff];intro hh;have:=inB_iff.1 hh;omega
 have e2:(x.Kind == 14)=false:=by simp;omega
 have e3:(x.Kind == 15)=false:=by simp;omega
 have e4:(x.Kind == 12)=false:=by simp;omega
 rw [e1,e2,e3,e4];rfl
theorem aPz (p:GProgram) (fn:Int) (x:GNode) (th:List ByteArray) (h:x.Kind=14 ∨ x.Kind=15):aCc p fn x th=aO3 th x.Name:=by
 unfold aCc aAv;have e4:(x.Kind == 12)=false:=by simp;omega
 have e5:(inB x.Kind 2 6 || (x.Kind == 14 || x.Kind == 15))=true:=by
  rcases h with e | e<;>simp [e]
 rw [e5,e4];simp
theorem aBx (p:GProgram) (hF:p.Fns.length ≤ 1048576) (hu:okU p.Nodes p.Nodes.length=true) (fn:Nat) (hfn:fn < p.Fns.length):∀ (f D:Nat),
  (∀ (k:Int) (x:GNode) (th:List ByteArray) (b:Bool),0 ≤ k→p.Nodes[k.toNat]? = some x→x.Kind=20→sV p.Nodes k.toNat ≤ D→D ≤ f→th.length + 12 * D ≤ 1000→(aM f).1 ⟨p,fn,th,b⟩ k=some ⟨p,fn,qB p x.Kids th,b || !(iW p fn D k th)⟩) ∧
  (∀ (k:Int) (x:GNode) (th:List ByteArray) (b:Bool),0 ≤ k→p.Nodes[k.toNat]? = some x→aCz x.Kind=true→sV p.Nodes k.toNat ≤ D→D ≤ f→th.length + 12 * D ≤ 1000→(aM f).2 ⟨p,fn,th,b⟩ k=some ⟨p,fn,tF p true k th,b || !(iW p fn D k th)⟩)
 | 0,D=>by
  refine ⟨fun k x th b h0 hx hk h2 h3 h4=>?_,fun k x th b h0 hx hk h2 h3 h4=>?_⟩ <;>
  ·have:=kI p.Nodes k.toNat;omega
 | f + 1,0=>by
  refine ⟨fun k x th b h0 hx hk h2 h3 h4=>?_,fun k x th b h0 hx hk h2 h3 h4=>?_⟩ <;>
  ·have:=kI p.Nodes k.toNat;omega
 | f + 1,D + 1=>by
  obtain ⟨ihB,ihS⟩:=aBx p hF hu fn hfn f D
  have facts:∀ (k:Int) (x:GNode),0 ≤ k→p.Nodes[k.toNat]? = some x→sV p.Nodes k.toNat ≤ ((D + 1:Nat):Int)→k < p.Nodes.length∧aP p.Nodes k=some x∧x.Kids.length ≤ 12∧inB x.Kids.length (nL x.Kind).1 (nL x.Kind).2=true ∧
    ∀ (i:Nat) (hi:i < x.Kids.length),0 ≤ x.Kids[i]∧sV p.Nodes (x.Kids[i]).toNat ≤ D∧∃ y,p.Nodes[(x.Kids[i]).toNat]? = some y∧aAg x.Kind i y.Kind=true:=by
   intro k x h0 hx hd;obtain ⟨hlt,hxe⟩:=List.getElem?_eq_some_iff.1 hx;have hnb:=(oF hu hlt).1;obtain ⟨_,_,g2,g3,_⟩:=rO hnb;refine ⟨by omega,?_,iA hnb hx,by rw [← hxe];exact g2,fun i hi=>?_⟩
   ·rw [eH h0 (by omega),hxe]
   subst hxe;obtain ⟨q1,_,q3⟩:=g3 i hi;have:=aAl hnb hx (List.getElem_mem hi);exact ⟨q1.1,by omega,q3⟩
  constructor
  ·intro k x th b h0 hx hk h2 h3 h4;obtain ⟨hkn,hge,hkl,hsh,hkid⟩:=facts k x h0 hx h2;show fJ (aM f).1 (aM f).2 ⟨p,fn,th,b⟩ k=_;unfold fJ;have h20:(x.Kind == 20)=true:=by simpa using hk
   have hs:iW p fn (D + 1) k th=qU p (iW p fn D) true x.Kids th:=by
    simp only [iW,hx,aJi p fn x th (by omega),h20,Bool.true_and]
   rw [hs];have:=cO x.Kids (fun (s:List ByteArray × Bool) j=>((j:Int),(⟨p,fn,s.1,s.2⟩:Gl07Seen))) (fun j s=>s.1.length ≤ th.length + j) (fun s kid=>.inl (tF p true kid s.1,s.2 || !(iW p fn D kid s.1))) (fun s=>(⟨p,fn,s.1,s.2⟩:Gl07Seen)) (dK (aM f).2 k) (fun s j hj hI=>by
    left;obtain ⟨q0,q1,y,hy,hfit⟩:=hkid j hj;have hst:aCz y.Kind=true:=by
     unfold aAg at hfit;rwa [if_pos hk] at hfit
    refine ⟨_,rfl,?_,?_⟩
    ·simp only [dK,hge,Option.bind_some,aB hj,if_true,aN hj,ihS x.Kids[j] y s.1 s.2 q0 hy hst q1 (by omega) (by omega),bC hj (show x.Kids.length ≤ 1048576 by omega)]
    have:=aA5 p true x.Kids[j] s.1;simp only;omega) (fun s _=>by simp [dK,hge]) (th,b) (by simp)
   rw [dQ,aL3] at this;exact this
  intro k x th b h0 hx hk h2 h3 h4;obtain ⟨hkn,hge,hkl,hsh,hkid⟩:=facts k x h0 hx h2;have hk':=inB_iff.1 hk;have hsh':=inB_iff.1 hsh;show fY (aM f).1 (aM f).2 ⟨p,fn,th,b⟩ k=_;unfold fY;have h20:(x.Kind == 20)=false:=by simp;omega
  have hs:iW p fn (D + 1) k th=(aCc p fn x th && qU p (iW p fn D) false x.Kids th):=by
   simp only [iW,hx,h20]
  rw [hs];have hpos:1 ≤ x.Kids.length:=by
   have:1 ≤ (nL x.Kind).1:=by
    unfold nL;split
    ·simp
    split
    ·simp
    split
    ·simp
    omega
   omega
  obtain ⟨k0,rest,hks⟩:∃ k0 rest,x.Kids=k0 :: rest:=by
   match h:x.Kids with
   | []=>rw [h] at hpos;simp at hpos
   | k0 :: rest=>exact ⟨k0,rest,rfl⟩
  obtain ⟨q0,q1,y,hy,hfit⟩:=hkid 0 (by omega)
  have hk00:x.Kids[0]=k0:=by simp [hks]
  rw [hk00] at q0 q1 hy;have hvy:vR y.Kind=true:=by
   unfold aAg at hfit;rw [if_neg (by omega),if_neg (by simp)] at hfit
   split at hfit
   ·have:y.Kind=12:=by simpa using hfit
    rw [this];rfl
   exact hfit
  have hg0:aP x.Kids 0=some k0:=by rw [aO4,hks];rfl
  have hyl:k0 < p.Nodes.length:=by
   have:=(List.getElem?_eq_some_iff.1 hy).1;omega
  have hval:gQ ⟨p,fn,th,b⟩ k0=some ⟨p,fn,th,b || !(iW p fn D k0 th)⟩:=rG p hF hu fn hfn bL D k0 th b q0 hyl (fun z hz=>by rw [hy] at hz;injection hz with hz;rw [← hz];exact hvy) q1 (show D ≤ 1048576 by omega) (by omega)
  simp only [hge,hg0,hval,Option.bind_some];have hlet:tF p true k th=if x.Kind=13 then th ++ [x.Name] else th:=by
   unfold tF;simp only [if_true,hx]
  have hl0:tF p false k0 th=th:=by simp [tF]
  rw [hlet,hks];simp only [qU,hl0];have hone:(x.Kind=13 ∨ x.Kind=14 ∨ x.Kind=15 ∨ x.Kind=18 ∨ x.Kind=19)→rest=[]:=by
   intro hc;have h1:(nL x.Kind).2=1:=by
    unfold nL;rw [if_pos (by omega)]
   rw [h1,hks] at hsh';simp only [List.length_cons] at hsh';exact List.length_eq_zero_iff.1 (by omega)
  generalize hB:iW p fn D k0 th=B;by_cases h13:x.Kind=13
  ·have e13:(x.Kind == 13)=true:=by simpa using h13
   have happ1:bO 16 [] th=some th:=aJz (by omega) (by omega)
   simp only [e13,if_true,happ1,Option.bind_some,aOr (show th.length ≤ 100000 by omega),if_pos h13,aJi p fn x th (.inl h13),Bool.true_and,hone (.inl h13),qU,Bool.and_true]
  have e13:(x.Kind == 13)=false:=by simpa using h13
  simp only [e13,Bool.false_eq_true,if_false,if_neg h13];by_cases h1415:x.Kind=14 ∨ x.Kind=15
  ·have hcond:(if (x.Kind == 14)=true then some (x.Kind == 14) else some (x.Kind == 15))=some true:=by
    rcases h1415 with e | e<;>simp [e]
   rw [hcond];simp only [Option.bind_some,if_true,yD th x.Name (show th.length ≤ 1048576 by omega),aPz p fn x th h1415,hone (by omega),qU,Bool.and_true]
   cases b<;>cases B<;>cases aO3 th x.Name<;>simp
  have hcond:(if (x.Kind == 14)=true then some (x.Kind == 14) else some (x.Kind == 15))=some false:=by
   rw [not_or] at h1415;simp [h1415.1,h1415.2]
  rw [hcond];simp only [Option.bind_some,Bool.false_eq_true,if_false,aJi p fn x th (.inr (by omega)),Bool.true_and]
  by_cases h1617:x.Kind=16 ∨ x.Kind=17
  ·have hcond2:(if (x.Kind == 16)=true then some (x.Kind == 16) else some (x.Kind == 17))=some true:=by
    rcases h1617 with e | e<;>simp [e]
   rw [hcond2];simp only [Option.bind_some,if_true];have hlen:x.Kids.length=rest.length + 1:=by rw [hks];simp
   have:=cO rest (fun (s:Bool) j=>(((j + 1:Nat):Int),(⟨p,fn,th,s⟩:Gl07Seen))) (fun _ _=>True) (fun s kid=>.inl (s || !(iW p fn D kid th))) (fun s=>(⟨p,fn,th,s⟩:Gl07Seen)) (eD (aM f).1 x) (fun s j hj _=>by
    left;have hj1:j + 1 < x.Kids.length:=by omega
    obtain ⟨r0,r1,z,hz,hfz⟩:=hkid (j + 1) hj1;have hkj:x.Kids[j + 1]=rest[j]:=by simp [hks]
    rw [hkj] at r0 r1 hz;have hz20:z.Kind=20:=by
     unfold aAg at hfz;rw [if_neg (by omega),if_pos ⟨h1617,by omega⟩] at hfz
     simpa using hfz
    have hgj:aP x.Kids ((j + 1:Nat):Int)=some rest[j]:=by rw [aN hj1,hkj]
    refine ⟨_,rfl,?_,trivial⟩;simp only [eD,aB hj1,if_true,hgj,Option.bind_some,ihB rest[j] z th s r0 hz hz20 r1 (by omega) (by omega),bC hj1 (show x.Kids.length ≤ 1048576 by omega)]) (fun s _=>by
     have:¬ (((rest.length + 1:Nat):Int) < (x.Kids.length:Int)):=by omega
     simp only [eD,decide_eq_false this,Bool.false_eq_true,if_false]) (b || !B) trivial
   rw [dQ,aDz p] at this;rw [show (((0 + 1:Nat):Int))=1 from rfl] at this;rw [this];cases b<;>cases B<;>simp
  have hcond2:(if (x.Kind == 16)=true then some (x.Kind == 16) else some (x.Kind == 17))=some false:=by
   rw [not_or] at h1617;simp [h1617.1,h1617.2]
  rw [hcond2];simp only [Option.bind_some,Bool.false_eq_true,if_false,hone (by omega),qU,Bool.and_true]
end Go.OM
namespace Go.OM
def aBv (l:List GVar) (nm:ByteArray):Int:=((List.range l.length).findSome? fun k=>match l[k]? with
 | some v=>if sEq v.Name nm=true then some (k:Int) else none
 | none=>none).getD (-1)
theorem aA9 (l:List GVar) (nm:ByteArray) (hl:l.length ≤ 1048576):uE l nm=some (aBv l nm):=by
 unfold uE aBv;rw [aBm l.length (fun k=>match l[k]? with
  | some v=>if sEq v.Name nm=true then some (k:Int) else none
  | none=>none) (oK l nm) (fun k h=>by
   simp only [oK,aB h,if_true,aN h,Option.bind_some,List.getElem?_eq_getElem h,bC h hl];cases sEq l[k].Name nm<;>rfl) (by simp [oK])]
 cases (List.range l.length).findSome? fun k=>match l[k]? with
  | some v=>if sEq v.Name nm=true then some (k:Int) else none
  | none=>none<;>rfl
theorem aG4 (l:List GVar) (nm:ByteArray) (hl:l.length ≤ 1048576):xH l nm=some (aBv l nm):=aA9 l nm hl
def aC0 (l:List GVar):Bool:=(List.range l.length).all fun k=>match l[k]? with
 | some v=>aBv l v.Name == k
 | none=>true
theorem aF6 {ρ:Type} (l:List GVar) (hl:l.length ≤ 1048576) (b:ρ) (f:Int→Option (Int ⊕ (Unit ⊕ ρ)))
  (hf:∀ (k:Nat) (h:k < l.length),f k=some (if (aBv l l[k].Name != (k:Int))=true then .inr (.inr b) else .inl (IntKind.wrap .i64 ((k:Int) + 1)))) (he:f l.length=some (.inr (.inl ()))):aI f 0=some (if aC0 l=true then .inl () else .inr b):=by
 unfold aC0;refine tW l.length hl _ b f (fun k hk=>?_) he;rw [hf k hk,List.getElem?_eq_getElem hk];by_cases e:aBv l l[k].Name=k
 ·simp [e]
 simp [e]
theorem vB {α β:Type} (h:α→β):∀ (l:List α) (s:List β),l.foldl (fun s x=>s ++ [h x]) s=s ++ l.map h
 | [],s=>by simp
 | x :: l,s=>by rw [List.foldl_cons,vB h l];simp
def aHf (p:GProgram) (s:List GVar) (e:Int):List GVar:=match p.Nodes[e.toNat]? with
 | some y=>if y.Kind=13 then s ++ [⟨y.Name,0,e⟩] else s
 | none=>s
noncomputable def tB (p:GProgram) (f:GFn):List GVar:=(fH p.Nodes f.Body).foldl (aHf p) (f.Params.map fun x=>(⟨x.Name,x.Typ,-1⟩:GVar))
theorem aHb (nodes:List GNode) (k:Int):(fH nodes k).length ≤ nodes.length:=by
 unfold fH;split
 ·simp
 unfold aC8;rw [List.length_map];refine Nat.le_trans (List.length_filter_le _ _) ?_;rw [List.length_range];exact Nat.le_refl _
theorem aHe (p:GProgram) (s:List GVar) (e:Int):(aHf p s e).length ≤ s.length + 1:=by
 unfold aHf;split
 ·split
  ·simp
  omega
 omega
theorem aIh (p:GProgram):∀ (l:List Int) (s:List GVar),(l.foldl (aHf p) s).length ≤ s.length + l.length
 | [],s=>by simp
 | e :: l,s=>by
  rw [List.foldl_cons];have h1:=aIh p l (aHf p s e);have h2:=aHe p s e;simp only [List.length_cons];omega
theorem aH9 (p:GProgram) (f:GFn) (hp:f.Params.length ≤ 3):(tB p f).length ≤ p.Nodes.length + 3:=by
 unfold tB;have h1:=aIh p (fH p.Nodes f.Body) (f.Params.map fun x=>(⟨x.Name,x.Typ,-1⟩:GVar));have h2:=aHb p.Nodes f.Body;rw [List.length_map] at h1;omega
theorem yT {ρ β:Type} (f:GFn) (hp:f.Params.length ≤ 1000) (h:GParam→β) (g:List β × Int→Option ((List β × Int) ⊕ List β))
  (hf:∀ (s:List β) (k:Nat) (hk:k < f.Params.length),s.length ≤ k→g (s,(k:Int))=some (.inl (s ++ [h f.Params[k]],((k + 1:Nat):Int)))) (he:∀ s,g (s,(f.Params.length:Int))=some (.inr s)):aI g ([],0)=some (f.Params.map h):=by
 have:=cO f.Params (fun (s:List β) k=>(s,(k:Int))) (fun k s=>s.length ≤ k) (fun s x=>.inl (s ++ [h x])) id g (fun s k hk hI=>.inl ⟨_,rfl,hf s k hk hI,by simp only [List.length_append,List.length_cons,List.length_nil];omega⟩) (fun s _=>he s) [] (by simp)
 rw [dQ,vB] at this;simpa using this
theorem aH8 (p:GProgram) (r:List Int) (hr:∀ e ∈ r,0 ≤ e∧e < p.Nodes.length) (hn:p.Nodes.length ≤ 1000) (hrl:r.length ≤ 1000) (s0:List GVar) (h0:s0.length ≤ 1000) (g:List GVar × Int→Option ((List GVar × Int) ⊕ List GVar))
  (hf:∀ (s:List GVar) (k:Nat) (hk:k < r.length) (y:GNode),s.length ≤ 100000→aP p.Nodes r[k]=some y→g (s,(k:Int))=some (.inl (if (y.Kind == 13)=true then s ++ [⟨y.Name,0,r[k]⟩] else s,((k + 1:Nat):Int)))) (he:∀ s,g (s,(r.length:Int))=some (.inr s)):aI g (s0,0)=some (r.foldl (aHf p) s0):=by
 have:=cO r (fun (s:List GVar) k=>(s,(k:Int))) (fun k s=>s.length ≤ s0.length + k) (fun s e=>.inl (aHf p s e)) id g (fun s k hk hI=>by
  left;obtain ⟨b0,b1⟩:=hr _ (List.getElem_mem hk);have hlt:(r[k]).toNat < p.Nodes.length:=by omega
  refine ⟨_,rfl,?_,by have:=aHe p s r[k];omega⟩
  rw [hf s k hk _ (by omega) (eH b0 b1)]
  unfold aHf;rw [List.getElem?_eq_getElem hlt];by_cases e:(p.Nodes[(r[k]).toNat]).Kind=13<;>simp [e]) (fun s _=>he s) s0 (by simp)
 rw [dQ] at this;exact this
theorem aQd {l:List GVar} (h:l.length ≤ 100000) (x:GVar):bO 32 l [x]=some (l ++ [x]):=aEw (by omega) (by omega)
theorem aH7 (p:GProgram) (hn:p.Nodes.length ≤ 300) (hF:p.Fns.length ≤ 1000) (i:Nat) (hi:i < p.Fns.length) (hp:p.Fns[i].Params.length ≤ 3):rV p i=some (tB p p.Fns[i])∧rK p i=some (tB p p.Fns[i]):=by
 have hw:IntKind.wrap .i64 ((p.Fns.length:Int) - 1)=(p.Fns.length:Int) - 1:=w64 (by omega) (by omega)
 have hin:inB (i:Int) 0 ((p.Fns.length:Int) - 1)=true:=inB_iff.2 (by omega)
 have hul:=aHb p.Nodes p.Fns[i].Body;have hub:∀ e ∈ fH p.Nodes p.Fns[i].Body,0 ≤ e∧e < p.Nodes.length:=fun e he=>pE he;constructor
 ·unfold rV;simp only [eE,Option.bind_some,hw,hin,Bool.not_true,Bool.false_eq_true,if_false,aN hi];rw [yT (ρ:=Unit) p.Fns[i] (by omega) (fun x=>(⟨x.Name,x.Typ,-1⟩:GVar)) (mX p.Fns[i]) (fun s k hk hs=>by
   simp only [mX,aB hk,if_true,aN hk,Option.bind_some,aQd (show s.length ≤ 100000 by omega),bC hk (show p.Fns[i].Params.length ≤ 1048576 by omega)]) (fun s=>by simp [mX])]
  simp only [Option.bind_some,aAa p (show p.Nodes.length ≤ 1048576 by omega)]
  rw [aH8 p _ hub (by omega) (by omega) _ (by rw [List.length_map];omega) (mW p (fH p.Nodes p.Fns[i].Body)) (fun s k hk y hs hy=>by
   simp only [mW,aB hk,if_true,aN hk,hy,Option.bind_some,aQd hs,bC hk (show (fH p.Nodes p.Fns[i].Body).length ≤ 1048576 by omega)]
   cases (y.Kind == 13)<;>simp) (fun s=>by simp [mW])]
  rfl
 unfold rK;simp only [fA,Option.bind_some,hw,hin,Bool.not_true,Bool.false_eq_true,if_false,aN hi];rw [yT (ρ:=Unit) p.Fns[i] (by omega) (fun x=>(⟨x.Name,x.Typ,-1⟩:GVar)) (mL p.Fns[i]) (fun s k hk hs=>by
  simp only [mL,aB hk,if_true,aN hk,Option.bind_some,aQd (show s.length ≤ 100000 by omega),bC hk (show p.Fns[i].Params.length ≤ 1048576 by omega)]) (fun s=>by simp [mL])]
 simp only [Option.bind_some,zL p (show p.Nodes.length ≤ 1048576 by omega)]
 rw [aH8 p _ hub (by omega) (by omega) _ (by rw [List.length_map];omega) (mK p (fH p.Nodes p.Fns[i].Body)) (fun s k hk y hs hy=>by
  simp only [mK,aB hk,if_true,aN hk,hy,Option.bind_some,aQd hs,bC hk (show (fH p.Nodes p.Fns[i].Body).length ≤ 1048576 by omega)]
  cases (y.Kind == 13)<;>simp) (fun s=>by simp [mK])]
 rfl
end Go.OM
namespace Go.OM
def pnB (f:GFn):List ByteArray:=f.Params.map fun x=>x.Name
def aI9 (p:GProgram) (k:Int):List Int:=match p.Nodes[k.toNat]? with
 | some x=>x.Kids
 | none=>[]
noncomputable def wQ (p:GProgram) (i:Nat):Bool:=match p.Fns[i]? with
 | none=>true
 | some f=>aC0 (tB p f) && (iW p i 10 f.Body (pnB f) && (if f.Ret ≥ 0 then iW p i 10 f.Ret (qB p (aI9 p f.Body) (pnB f)) else true))
noncomputable def vF (p:GProgram):Bool:=uX p && (List.range p.Fns.length).all (wQ p)
structure FnFacts (p:GProgram) (f:GFn):Prop where
 par:f.Params.length ≤ 3
 b0:0 ≤ f.Body
 b1:f.Body < p.Nodes.length
 bk:∃ x,p.Nodes[f.Body.toNat]? = some x∧x.Kind=20
 r1:f.Ret < p.Nodes.length
 rv:0 ≤ f.Ret→∃ x,p.Nodes[f.Ret.toNat]? = some x∧vR x.Kind=true
theorem aGr {p:GProgram} (h:uX p=true) {i:Nat} (hi:i < p.Fns.length):FnFacts p p.Fns[i]:=by
 have hg:sK p i=true:=by
  unfold uX at h;simp only [Bool.and_eq_true] at h;exact List.all_eq_true.1 h.2.2.2.1 i (List.mem_range.2 hi)
 rw [aAc hi,Bool.and_eq_true] at hg;have hf:=hg.1;obtain ⟨_,_,_,hr⟩:=aAf hf;unfold fnB at hf;simp only [Bool.and_eq_true,Bool.not_eq_true',decide_eq_false_iff_not] at hf;obtain ⟨_,h2,_,_,h5,h6⟩:=hf;obtain ⟨b1,b2,b3⟩:=bodyB_iff.1 h5;refine ⟨by omega,b1,b2,b3,hr,fun h0=>?_⟩
 unfold retB at h6;split at h6
 ·simp only [beq_iff_eq] at h6;omega
 rw [Bool.and_eq_true] at h6;have h7:=h6.2;split at h7
 ·rename_i x hx;exact ⟨x,hx,h7⟩
 cases h7
theorem aNw (p:GProgram) (x:GNode) (hb:∀ kid ∈ x.Kids,0 ≤ kid∧kid < p.Nodes.length) (hl:x.Kids.length ≤ 12) (th:List ByteArray) (ht:th.length ≤ 1000):aI (fD p x) (th,0)=some (qB p x.Kids th):=by
 have:=cO x.Kids (fun (s:List ByteArray) k=>(s,(k:Int))) (fun k s=>s.length ≤ th.length + k) (fun s kid=>.inl (tF p true kid s)) id (fD p x) (fun s k hk hI=>by
  left;obtain ⟨b0,b1⟩:=hb _ (List.getElem_mem hk);have hlt:(x.Kids[k]).toNat < p.Nodes.length:=by omega
  refine ⟨_,rfl,?_,by have:=aA5 p true x.Kids[k] s;omega⟩
  simp only [fD,aB hk,if_true,aN hk,eH b0 b1,Option.bind_some,aOr (show s.length ≤ 100000 by omega),bC hk (show x.Kids.length ≤ 1048576 by omega)]
  unfold tF;rw [if_pos rfl,List.getElem?_eq_getElem hlt];by_cases e:(p.Nodes[(x.Kids[k]).toNat]).Kind=13<;>simp [e]) (fun s _=>by simp [fD]) th (by simp)
 rw [dQ] at this;exact this
theorem aAb (p:GProgram) (hn:p.Nodes.length ≤ 1048576) (hF:p.Fns.length ≤ 1048576):lK p=some (vF p):=by
 unfold lK vF;rw [uF p hn hF];simp only [Option.bind_some];cases hok:uX p with
 | false=>rfl
 | true =>
  obtain ⟨b1,b2,b3,b4,hu⟩:=tX hok;simp only [Bool.not_true,Bool.false_eq_true,if_false,Bool.true_and];rw [tW p.Fns.length hF (wQ p) false (iG p) (fun i hi=>by
   obtain ⟨f1,f2,f3,⟨x,hx,hxk⟩,f5,f6⟩:=aGr hok hi;have hdb:=(oF hu (show p.Fns[i].Body.toNat < p.Nodes.length by omega))
   have hvl:=aH9 p p.Fns[i] f1;have hnd:qD p i=some (aC0 (tB p p.Fns[i])):=by
    unfold qD;rw [(aH7 p (by omega) (by omega) i hi f1).1]
    simp only [Option.bind_some];rw [aF6 (tB p p.Fns[i]) (by omega) false (lH (tB p p.Fns[i])) (fun k hk=>by
     simp only [lH,aB hk,if_true,aN hk,Option.bind_some,aA9 _ _ (show (tB p p.Fns[i]).length ≤ 1048576 by omega)]
     cases (aBv (tB p p.Fns[i]) (tB p p.Fns[i])[k].Name != (k:Int))<;>rfl) (by simp [lH])]
    cases aC0 (tB p p.Fns[i])<;>rfl
   have hpn:aI (fE p.Fns[i]) ([],0)=some (pnB p.Fns[i]):=yT (ρ:=Unit) p.Fns[i] (by omega) (fun x=>x.Name) (fE p.Fns[i]) (fun s k hk hs=>by
    simp only [fE,aB hk,if_true,aN hk,Option.bind_some,aOr (show s.length ≤ 100000 by omega),bC hk (show p.Fns[i].Params.length ≤ 1048576 by omega)]) (fun s=>by simp [fE])
   have hpl:(pnB p.Fns[i]).length ≤ 3:=by unfold pnB;rw [List.length_map];exact f1
   have hsb:wJ p i p.Fns[i].Body (pnB p.Fns[i])=some (iW p i 10 p.Fns[i].Body (pnB p.Fns[i])):=tG p hF hu i hi bL 10 _ _ f2 f3 hdb.2 (show 10 ≤ 1048576 by omega) (by omega)
   have hkb:∀ kid ∈ x.Kids,0 ≤ kid∧kid < (p.Nodes.length:Int):=fun kid hm=>by
    have:=lX hdb.1 hx kid hm;omega
   have hkl:=iA hdb.1 hx;have hka:aI9 p p.Fns[i].Body=x.Kids:=by unfold aI9;rw [hx]
   have hgb:aP p.Nodes p.Fns[i].Body=some x:=by
    obtain ⟨hlt,he⟩:=List.getElem?_eq_some_iff.1 hx;rw [eH f2 f3,he]
   have hlets:=aNw p x hkb hkl (pnB p.Fns[i]) (by omega)
   have hll:=aBh p x.Kids (pnB p.Fns[i]);unfold wQ;simp only [iG,aB hi,if_true,aN hi,List.getElem?_eq_getElem hi,hnd,hpn,hsb,hgb,hlets,Option.bind_some,hka];cases aC0 (tB p p.Fns[i]) with
   | false=>rfl
   | true =>
    simp only [Bool.not_true,Bool.false_eq_true,if_false,Bool.true_and];cases iW p i 10 p.Fns[i].Body (pnB p.Fns[i]) with
    | false=>rfl
    | true =>
     simp only [Bool.not_true,Bool.false_eq_true,if_false,Bool.true_and,decide_eq_true_eq];by_cases hr:p.Fns[i].Ret ≥ 0
     ·have hdr:=(oF hu (show p.Fns[i].Ret.toNat < p.Nodes.length by omega))
      have hsr:wJ p i p.Fns[i].Ret (qB p x.Kids (pnB p.Fns[i]))=some (iW p i 10 p.Fns[i].Ret (qB p x.Kids (pnB p.Fns[i]))):=tG p hF hu i hi bL 10 _ _ hr f5 hdr.2 (show 10 ≤ 1048576 by omega) (by omega)
      simp only [if_pos hr,hsr,Option.bind_some];cases iW p i 10 p.Fns[i].Ret (qB p x.Kids (pnB p.Fns[i]))<;>rfl
     simp only [if_neg hr,Option.bind_some]
     rfl) (by simp [iG])]
  cases (List.range p.Fns.length).all (wQ p)<;>rfl
theorem zM (p:GProgram) (hn:p.Nodes.length ≤ 1048576) (hF:p.Fns.length ≤ 1048576):kW p=some (vF p):=by
 unfold kW vF;rw [lV p hn hF];simp only [Option.bind_some];cases hok:uX p with
 | false=>rfl
 | true =>
  obtain ⟨b1,b2,b3,b4,hu⟩:=tX hok;simp only [Bool.not_true,Bool.false_eq_true,if_false,Bool.true_and];rw [tW p.Fns.length hF (wQ p) false (fB p) (fun i hi=>by
   obtain ⟨f1,f2,f3,⟨x,hx,hxk⟩,f5,f6⟩:=aGr hok hi;have hdb:=(oF hu (show p.Fns[i].Body.toNat < p.Nodes.length by omega))
   have hvl:=aH9 p p.Fns[i] f1
   have hnd:aI (dX (tB p p.Fns[i])) 0=some (if aC0 (tB p p.Fns[i])=true then .inl () else .inr (.inr (.inr (.inr false)))) :=
    aF6 (tB p p.Fns[i]) (by omega) _ (dX (tB p p.Fns[i])) (fun k hk=>by
     simp only [dX,aB hk,if_true,aN hk,Option.bind_some,aG4 _ _ (show (tB p p.Fns[i]).length ≤ 1048576 by omega)]
     cases (aBv (tB p p.Fns[i]) (tB p p.Fns[i])[k].Name != (k:Int))<;>rfl) (by simp [dX])
   have hpn:aI (dW p i) (0,(⟨p,i,[],false⟩:Gl07Seen))=some ⟨p,i,pnB p.Fns[i],false⟩:=by
    have:=cO p.Fns[i].Params (fun (s:List ByteArray) k=>((k:Int),(⟨p,i,s,false⟩:Gl07Seen))) (fun k s=>s.length ≤ k) (fun s x=>.inl (s ++ [x.Name])) (fun s=>(⟨p,i,s,false⟩:Gl07Seen)) (dW p i) (fun s k hk hI=>.inl ⟨_,rfl,by
     simp only [dW,aN hi,aB hk,if_true,aN hk,Option.bind_some,aOr (show s.length ≤ 100000 by omega),bC hk (show p.Fns[i].Params.length ≤ 1048576 by omega)],by simp only [List.length_append,List.length_cons,List.length_nil];omega⟩) (fun s _=>by simp [dW,aN hi]) [] (by simp)
    rw [dQ,vB] at this;simpa [pnB] using this
   have hpl:(pnB p.Fns[i]).length ≤ 3:=by unfold pnB;rw [List.length_map];exact f1
   have hsb:nR ⟨p,i,pnB p.Fns[i],false⟩ p.Fns[i].Body=some ⟨p,i,qB p x.Kids (pnB p.Fns[i]),false || !(iW p i 10 p.Fns[i].Body (pnB p.Fns[i]))⟩:=(aBx p hF hu i hi bL 10).1 _ x _ _ f2 hx hxk hdb.2 (show 10 ≤ 1048576 by omega) (by omega)
   have hkl:=iA hdb.1 hx;have hka:aI9 p p.Fns[i].Body=x.Kids:=by unfold aI9;rw [hx]
   have hll:=aBh p x.Kids (pnB p.Fns[i]);unfold wQ;simp only [fB,aB hi,if_true,(aH7 p (by omega) (by omega) i hi f1).2,hnd,Option.bind_some,List.getElem?_eq_getElem hi,hka]
   cases aC0 (tB p p.Fns[i]) with
   | false=>rfl
   | true =>
    simp only [if_true,hpn,Option.bind_some,aN hi,hsb,Bool.true_and,Bool.false_or];by_cases hr:p.Fns[i].Ret ≥ 0
    ·have hdr:=(oF hu (show p.Fns[i].Ret.toNat < p.Nodes.length by omega))
     obtain ⟨y,hy,hyv⟩:=f6 hr;have hsr:∀ b,gQ ⟨p,i,qB p x.Kids (pnB p.Fns[i]),b⟩ p.Fns[i].Ret=some ⟨p,i,qB p x.Kids (pnB p.Fns[i]),b || !(iW p i 10 p.Fns[i].Ret (qB p x.Kids (pnB p.Fns[i])))⟩:=fun b=>rG p hF hu i hi bL 10 _ _ b hr f5 (fun z hz=>by rw [hy] at hz;injection hz with hz;rw [← hz];exact hyv) hdr.2 (show 10 ≤ 1048576 by omega) (by omega)
     simp only [decide_eq_true hr,if_true,hsr,Option.bind_some,if_pos hr];cases iW p i 10 p.Fns[i].Body (pnB p.Fns[i])<;>cases iW p i 10 p.Fns[i].Ret (qB p x.Kids (pnB p.Fns[i]))<;>rfl
    simp only [decide_eq_false hr,Bool.false_eq_true,if_false,Option.bind_some,if_neg hr];cases iW p i 10 p.Fns[i].Body (pnB p.Fns[i])<;>rfl) (by simp [fB])]
  cases (List.range p.Fns.length).all (wQ p)<;>rfl
end Go.OM
namespace Go.OM
theorem aJm {α:Type} {l:List α} {n:Nat} {x:α} (h:l[n]? = some x):aP l (n:Int)=some x:=by
 obtain ⟨h1,h2⟩:=List.getElem?_eq_some_iff.1 h;rw [aN h1,h2]
theorem aHn (p:GProgram) (rc:Int→List ByteArray→Bool) (blk:Bool):∀ (l:List Int) (s:List ByteArray),qU p rc blk l s=true→∀ kid ∈ l,∃ s',rc kid s'=true
 | [],s,h,kid,hk=>by cases hk
 | k0 :: l,s,h,kid,hk=>by
  simp only [qU,Bool.and_eq_true] at h;rcases List.mem_cons.1 hk with e | hk
  ·exact ⟨s,by rw [e];exact h.1⟩
  exact aHn p rc blk l _ h.2 kid hk
theorem aLz (p:GProgram) (fn:Int) (hu:okU p.Nodes p.Nodes.length=true) (k:Nat) (hk:k < p.Nodes.length) (D:Nat) (names:List ByteArray) (hd:sV p.Nodes k ≤ D) (hs:iW p fn D (k:Int) names=true) {e:Nat} (r:Reach (vP p.Nodes) k e) :
  e < p.Nodes.length∧∃ (D':Nat) (nm:List ByteArray),sV p.Nodes e ≤ D'∧iW p fn D' (e:Int) nm=true:=by
 induction r with
 | base=>exact ⟨hk,D,names,hd,hs⟩
 | step r hm ih =>
  rename_i i m;obtain ⟨hi,D',nm,h1,h2⟩:=ih;have hnb:=(oF hu hi).1;have hx:p.Nodes[i]? = some p.Nodes[i]:=List.getElem?_eq_getElem hi;rw [aCo hi] at hm;have hb:=lX hnb hx m hm;have hdk:=aAl hnb hx hm;have hp:=kI p.Nodes m.toNat;cases D' with
  | zero=>omega
  | succ D' =>
   simp only [iW,Int.toNat_natCast,hx,Bool.and_eq_true] at h2;obtain ⟨s',hs'⟩:=aHn p _ _ _ _ h2.2 m hm;refine ⟨by omega,D',s',by omega,?_⟩
   rw [show ((m.toNat:Nat):Int)=m by omega]
   exact hs'
theorem aCr (p:GProgram) (h:vF p=true) (fn:Nat) (hfn:fn < p.Fns.length):∀ k ∈ cU p fn,0 ≤ k∧k < fn:=by
 unfold vF at h;rw [Bool.and_eq_true] at h;obtain ⟨hok,hall⟩:=h;obtain ⟨b1,b2,b3,b4,hu⟩:=tX hok;have hf:=List.all_eq_true.1 hall fn (List.mem_range.2 hfn);unfold wQ at hf;rw [List.getElem?_eq_getElem hfn] at hf;simp only [Bool.and_eq_true] at hf;obtain ⟨_,hsb,hsr⟩:=hf;obtain ⟨f1,f2,f3,⟨x,hx,hxk⟩,f5,f6⟩:=aGr hok hfn;have hnode:∀ e ∈ lF p fn,∃ (y:GNode) (nm:List ByteArray),p.Nodes[e.toNat]? = some y∧aCc p fn y nm=true:=by
  intro e he;obtain ⟨e0,e1,r,hr,her⟩:=mem_setL.1 he;have hreach:∀ (k:Int) (names:List ByteArray),0 ≤ k→k < p.Nodes.length→iW p fn 10 k names=true→(e.toNat:Int) ∈ fH p.Nodes k→∃ (y:GNode) (nm:List ByteArray),p.Nodes[e.toNat]? = some y∧aCc p fn y nm=true:=by
   intro k names k0 k1 hs hm;have hd:=(oF hu (show k.toNat < p.Nodes.length by omega)).2
   unfold fH at hm;split at hm
   ·cases hm
   obtain ⟨_,_,hre⟩:=mem_setL.1 hm;rw [show k=((k.toNat:Nat):Int) by omega] at hs
   obtain ⟨g1,D',nm,g2,g3⟩:=aLz p fn hu k.toNat (by omega) 10 names hd hs hre
   have hp:=kI p.Nodes ((e.toNat:Int)).toNat;cases D' with
   | zero=>omega
   | succ D' =>
    simp only [Int.toNat_natCast] at g1 g3;have hy:p.Nodes[e.toNat]? = some p.Nodes[e.toNat]:=List.getElem?_eq_getElem g1;simp only [iW,Int.toNat_natCast,hy,Bool.and_eq_true] at g3;exact ⟨_,nm,hy,g3.1⟩
  have hrt:r=p.Fns[fn].Body ∨ (r=p.Fns[fn].Ret∧p.Fns[fn].Ret ≠ -1):=by
   unfold pZ at hr;split at hr
   ·simp only [Int.toNat_natCast,List.getElem?_eq_getElem hfn] at hr;split at hr
    ·simp only [List.mem_singleton] at hr;exact .inl hr
    rename_i hne;simp only [List.mem_cons,List.not_mem_nil,or_false] at hr;rcases hr with h | h
    ·exact .inl h
    exact .inr ⟨h,hne⟩
   cases hr
  rcases hrt with rfl | ⟨rfl,hne⟩
  ·exact hreach _ _ f2 f3 hsb her
  by_cases hr0:p.Fns[fn].Ret ≥ 0
  ·rw [if_pos hr0] at hsr;exact hreach _ _ hr0 f5 hsr her
  exfalso;unfold fH aAm at her;rw [if_neg (show ¬ (0 ≤ p.Fns[fn].Ret∧p.Fns[fn].Ret < p.Nodes.length∧okU p.Nodes (p.Fns[fn].Ret.toNat + 1)=true) from fun h=>hr0 h.1)] at her;simp at her
 have key:∀ (l o:List Int),(∀ e ∈ l,e ∈ lF p fn)→(∀ k ∈ o,0 ≤ k∧k < (fn:Int))→∀ k ∈ l.foldl (pQ p) o,0 ≤ k∧k < (fn:Int):=by
  intro l;induction l with
  | nil=>intro o _ h;exact h
  | cons e l ih =>
   intro o hl ho;rw [List.foldl_cons];refine ih _ (fun e he=>hl e (by simp [he])) ?_
   unfold pQ;split
   ·rename_i y hy;split
    ·rename_i h12;split
     ·rename_i hge;obtain ⟨z,nm,hz,hh⟩:=hnode e (hl e (by simp))
      rw [hy] at hz;injection hz with hz
      subst hz;unfold aCc at hh;rw [Bool.and_eq_true] at hh;have hc:=hh.2;have e12:(y.Kind == 12)=true:=by simpa using h12
      rw [e12] at hc;simp only [Bool.not_true,Bool.false_or] at hc;unfold aFn at hc;rw [Bool.and_eq_true] at hc;have:=inB_iff.1 hc.1;intro k hk;rcases mem_addL.1 hk with hk | hk
      ·exact ho k hk
      subst hk;omega
     exact ho
    exact ho
   exact ho
 exact key _ [] (fun e h=>h) (by simp)
noncomputable def jK (p:GProgram):Nat→Int→Int
 | 0,_=>0
 | f + 1,fn=>(cU p fn).foldl (fun n k=>if jK p f k > n then jK p f k else n) 0 + 1
theorem aIi (g:Int→Int) (B:Int):∀ (l:List Int) (n:Int),0 ≤ n→n ≤ B→(∀ k ∈ l,g k ≤ B)→0 ≤ l.foldl (fun n k=>if g k > n then g k else n) n∧l.foldl (fun n k=>if g k > n then g k else n) n ≤ B
 | [],n,h0,h1,_=>⟨h0,h1⟩
 | k :: l,n,h0,h1,hg=>by
  rw [List.foldl_cons];have:=hg k (by simp)
  refine aIi g B l _ ?_ ?_ (fun k hk=>hg k (by simp [hk]))<;>split<;>omega
theorem aBp (p:GProgram) (h:vF p=true):∀ (f:Nat) (fn:Nat),fn < p.Fns.length→fn < f→1 ≤ jK p f fn∧jK p f fn ≤ fn + 1
 | 0,fn,_,h2=>by omega
 | f + 1,fn,h1,h2=>by
  have hc:=aCr p h fn h1;have:=aIi (jK p f) fn (cU p fn) 0 (Int.le_refl _) (by omega) (fun k hk=>by
   obtain ⟨k0,k1⟩:=hc k hk;have ih:=aBp p h f k.toNat (by omega) (by omega)
   rw [show ((k.toNat:Nat):Int)=k by omega] at ih
   omega)
  simp only [jK];omega
theorem yY (p:GProgram) (h:vF p=true):∀ (f f':Nat) (fn:Nat),fn < p.Fns.length→fn < f→fn < f'→jK p f fn=jK p f' fn
 | 0,f',fn,_,h2,_=>by omega
 | f + 1,0,fn,_,_,h3=>by omega
 | f + 1,f' + 1,fn,h1,h2,h3=>by
  have hc:=aCr p h fn h1;have key:∀ (l:List Int) (n:Int),(∀ k ∈ l,0 ≤ k∧k < (fn:Int))→l.foldl (fun n k=>if jK p f k > n then jK p f k else n) n=l.foldl (fun n k=>if jK p f' k > n then jK p f' k else n) n:=by
   intro l;induction l with
   | nil=>intro n _;rfl
   | cons k l ih =>
    intro n hl;obtain ⟨k0,k1⟩:=hl k (by simp)
    have e:=yY p h f f' k.toNat (by omega) (by omega) (by omega)
    rw [show ((k.toNat:Nat):Int)=k by omega] at e
    rw [List.foldl_cons,List.foldl_cons,e];exact ih _ (fun k hk=>hl k (by simp [hk]))
  simp only [jK];rw [key _ 0 hc]
theorem aFm (p:GProgram) (fn:Int):(cU p fn).length ≤ p.Fns.length:=eI (mC p fn).nd (mC p fn).bnd
theorem wP (p:GProgram) (hn:p.Nodes.length ≤ 1048576) (hF:p.Fns.length ≤ 1000) (h:vF p=true):∀ (f:Nat) (fn:Nat),fn < p.Fns.length→fn < f→fR f p fn=some (jK p f fn)
 | 0,fn,_,h2=>by omega
 | f + 1,fn,h1,h2=>by
  have hc:=aCr p h fn h1;have hl:=aFm p fn;show qJ (fR f) p fn=_;unfold qJ;rw [oN p hn (by omega)]
  simp only [Option.bind_some];have:=cO (cU p fn) (fun (n:Int) k=>(n,(k:Int))) (fun _ _=>True) (fun n k=>.inl (if jK p f k > n then jK p f k else n)) id (mA (fR f) p (cU p fn)) (fun n k hk _=>by
   left;obtain ⟨k0,k1⟩:=hc _ (List.getElem_mem hk);have ih:=wP p hn hF h f ((cU p fn)[k]).toNat (by omega) (by omega)
   rw [show ((((cU p fn)[k]).toNat:Nat):Int)=(cU p fn)[k] by omega] at ih
   refine ⟨_,rfl,?_,trivial⟩;simp only [mA,aB hk,if_true,aN hk,Option.bind_some,ih,bC hk (show (cU p fn).length ≤ 1048576 by omega)]) (fun n _=>by simp [mA]) 0 trivial
  rw [dQ] at this;have this:aI (mA (fR f) p (cU p fn)) (0,0)=some _:=this;rw [this];have hb:=aBp p h (f + 1) fn h1 h2;simp only [jK] at hb ⊢;simp only [Option.bind_some,id];rw [w64 (by omega) (by omega)]
noncomputable def lenC (p:GProgram) (j:Nat):Int:=jK p (j + 1) j
theorem aEi (p:GProgram) (hn:p.Nodes.length ≤ 1048576) (hF:p.Fns.length ≤ 1000) (h:vF p=true) (i:Nat) (hi:i < p.Fns.length) (lg:List Int) (hl:lg.length=p.Fns.length) (hlg:∀ j,j < i→lg[j]? = some (lenC p j)) :
  ∃ lg':List Int,aI (iU i (cU p i)) (lg.set i 1,0)=some lg'∧lg'.length=p.Fns.length∧∀ j,j < i + 1→lg'[j]? = some (lenC p j):=by
 have hc:=aCr p h i hi;have hcl:=aFm p i;have hset:∀ n:Int,(lg.set i n)[i]? = some n:=fun n=>by rw [List.getElem?_set_self (by omega)]
 have:=cO (cU p i) (fun (n:Int) k=>(lg.set i (n + 1),(k:Int))) (fun _ n=>0 ≤ n∧n ≤ 100000) (fun n k=>.inl (if jK p i k > n then jK p i k else n)) (fun n=>lg.set i (n + 1)) (iU i (cU p i)) (fun n k hk hI=>by
  left;obtain ⟨k0,k1⟩:=hc _ (List.getElem_mem hk);generalize hck:(cU p i)[k]=c at *;have hcc:((c.toNat:Nat):Int)=c:=by omega
  have hbn:=aBp p h i c.toNat (by omega) (by omega)
  rw [hcc] at hbn;have hgc:aP (lg.set i (n + 1)) c=some (jK p i c):=by
   rw [← hcc];refine aJm ?_;rw [List.getElem?_set_ne (by omega),hlg c.toNat (by omega)]
   unfold lenC;rw [yY p h (c.toNat + 1) i c.toNat (by omega) (by omega) (by omega)]
  have hgi:aP (lg.set i (n + 1)) (i:Int)=some (n + 1):=aJm (hset _);have hgk:aP (cU p i) (k:Int)=some c:=by rw [aN hk,hck]
  have hw:IntKind.wrap .i64 (jK p i c + 1)=jK p i c + 1:=w64 (by omega) (by omega)
  refine ⟨_,rfl,?_,?_⟩
  ·simp only [iU,aB hk,if_true,hgk,Option.bind_some,decide_eq_true k1,hgc,hgi,hw,eC,Int.toNat_natCast,List.set_set,bC hk (show (cU p i).length ≤ 1048576 by omega)]
   by_cases hgt:jK p i c > n
   ·have e:decide (jK p i c + 1 > n + 1)=true:=by simp only [decide_eq_true_eq];omega
    rw [e,if_pos hgt];rfl
   have e:decide (jK p i c + 1 > n + 1)=false:=by simp only [decide_eq_false_iff_not];omega
   rw [e,if_neg hgt];rfl
  split<;>omega) (fun n _=>by simp [iU]) 0 ⟨by omega,by omega⟩
 rw [dQ] at this;refine ⟨_,this,by simpa using hl,fun j hj=>?_⟩
 by_cases e:j=i
 ·subst e;rw [hset]
  rfl
 rw [List.getElem?_set_ne (by omega)]
 exact hlg j (by omega)
theorem aJ3 (p:GProgram) (hn:p.Nodes.length ≤ 1048576) (hF:p.Fns.length ≤ 1048576):∃ n:Int,qO p=some n∧pY p=some n:=by
 unfold qO pY;rw [aAb p hn hF,zM p hn hF];simp only [Option.bind_some];cases hok:vF p with
 | false=>exact ⟨0,rfl,rfl⟩
 | true =>
  have hpr:uX p=true:=by
   unfold vF at hok;rw [Bool.and_eq_true] at hok;exact hok.1
  obtain ⟨b1,b2,b3,b4,hu⟩:=tX hpr;have hlast:p.Fns.length - 1 < p.Fns.length:=by omega
  have hw:IntKind.wrap .i64 ((p.Fns.length:Int) - 1)=((p.Fns.length - 1:Nat):Int):=by rw [w64 (by omega) (by omega)];omega
  refine ⟨lenC p (p.Fns.length - 1),?_,?_⟩
  ·simp only [Bool.not_true,Bool.false_eq_true,if_false,hw];have:=wP p hn (by omega) hok bL (p.Fns.length - 1) hlast (show _ < 1048576 by omega)
   rw [show aBk p ((p.Fns.length - 1:Nat):Int)=fR bL p ((p.Fns.length - 1:Nat):Int) from rfl,this];simp only [Option.bind_some];rw [yY p hok bL (p.Fns.length - 1 + 1) (p.Fns.length - 1) hlast (show _ < 1048576 by omega) (by omega)]
   rfl
  simp only [Bool.not_true,Bool.false_eq_true,if_false];rw [aDj _ _ _ (by omega) (by omega)]
  simp only [Option.bind_some];obtain ⟨r,g1,g2,g3⟩:=dY (f:=lC p) (fun s:List Int × Int=>∃ i:Nat,s.2=i∧i ≤ p.Fns.length∧s.1.length=p.Fns.length∧∀ j,j < i→s.1[j]? = some (lenC p j)) (fun s=>p.Fns.length - s.2.toNat) (fun r=>r.length=p.Fns.length∧∀ j,j < p.Fns.length→r[j]? = some (lenC p j)) (by
   rintro ⟨lg,i⟩ ⟨i,rfl,hi,hl,hj⟩;by_cases hlt:i < p.Fns.length
   ·left;obtain ⟨lg',q1,q2,q3⟩:=aEi p hn (by omega) hok i hlt lg hl hj
    refine ⟨(lg',((i + 1:Nat):Int)),?_,⟨i + 1,rfl,by omega,q2,q3⟩,by simp only [Int.toNat_natCast];omega⟩
    have hg:aP lg (i:Int)=some (lg[i]'(by have:lg.length=p.Fns.length:=hl;omega)):=aN _
    simp only [lC,aB hlt,if_true,hg,Option.bind_some,eC,Int.toNat_natCast,oC p hn hF,q1,bC hlt hF]
   right;have:i=p.Fns.length:=by omega
   subst this;exact ⟨lg,by simp [lC],hl,hj⟩) (List.replicate p.Fns.length 0,0) ⟨0,rfl,by omega,by simp,fun j hj=>by omega⟩
  rw [g1];simp only [Option.bind_some,g2,hw];rw [aJm (g3 _ hlast)]
  rfl
end Go.OM
namespace Go.OM
theorem aQv {n:Int} (h:0 ≤ n) (h2:n < 256):IntKind.wrap .u8 n=n:=by
 simp [IntKind.wrap,IntKind.bits,IntKind.signed];omega
theorem aR6 {x y:ByteArray} (h:x.size + y.size ≤ 9223372036854775807):bN x y=some (x ++ y):=by unfold bN;rw [if_pos h]
theorem ba_ext {x y:ByteArray} (h:x.data.toList=y.data.toList):x=y:=by
 cases x;cases y;simp only [ByteArray.mk.injEq];exact Array.toList_inj.1 h
theorem aF8:∀ (k u:Nat),u < 10 ^ (k + 1)→Lib.nDigits u ≤ k + 1
 | 0,u,h=>by rw [Lib.nDigits_small (by simpa using h)];omega
 | k + 1,u,h=>by
  by_cases h10:u < 10
  ·rw [Lib.nDigits_small h10];omega
  rw [Lib.nDigits_big h10];have:=aF8 k (u / 10) (by rw [Nat.pow_succ] at h;omega)
  omega
theorem aAn {n:Nat} (h:n ≤ 9223372036854775807):(Lib.decDigits n).length ≤ 19:=by
 rw [Lib.decDigits_length];exact aF8 18 n (by omega)
def digs (m:Nat):List UInt8:=if m=0 then [] else Lib.decDigits m
theorem aOf {m:Nat} (h:m ≠ 0):digs m=digs (m / 10) ++ [UInt8.ofNat (48 + m % 10)]:=by
 unfold digs;rw [if_neg h];by_cases h10:m < 10
 ·rw [if_pos (by omega),Lib.decDigits_one h10,Nat.mod_eq_of_lt h10];rfl
 rw [if_neg (by omega)]
 conv=>lhs;rw [Lib.decDigits,dif_neg h10]
theorem aMt (n:Nat) (h:n ≤ 9223372036854775807):kZ n=some ⟨(Lib.decDigits n).toArray⟩:=by
 unfold kZ;by_cases h0:n=0
 ·subst h0;rw [Lib.decDigits_one (by omega)];rfl
 have hne:((n:Int) == 0)=false:=by simp;omega
 have hneg:decide ((n:Int) < 0)=false:=by simp
 obtain ⟨r,h1,h2⟩:=dY (f:=kY) (fun s:Int × ByteArray=>∃ m:Nat,s.1=m∧m ≤ n∧digs m ++ s.2.data.toList=Lib.decDigits n) (fun s=>s.1.toNat) (fun r=>r=⟨(Lib.decDigits n).toArray⟩) (by
  rintro ⟨i,s⟩ ⟨m,hi,hm,hs⟩;simp only at hi hs;subst hi;by_cases hz:m=0
  ·right;subst hz;refine ⟨s,by simp [kY],?_⟩
   apply ba_ext;rw [← hs];simp [digs]
  left;have hb:((m:Int) != 0)=true:=by simp;omega
  have ht:Int.tmod (m:Int) 10=((m % 10:Nat):Int):=by rw [Int.tmod_eq_emod_of_nonneg (by omega)];omega
  have hd:Int.tdiv (m:Int) 10=((m / 10:Nat):Int):=by rw [Int.tdiv_eq_ediv_of_nonneg (by omega)];omega
  have hn0:decide (((m % 10:Nat):Int) < 0)=false:=by simp;omega
  have hlt:decide (((m % 10:Nat):Int) < 10)=true:=by simp;omega
  have hw:IntKind.wrap .u8 (IntKind.wrap .i64 (48 + ((m % 10:Nat):Int)))=((48 + m % 10:Nat):Int):=by
   rw [w64 (by omega) (by omega),aQv (by omega) (by omega)];omega
  have hsz:s.size ≤ 19:=by
   have e1:=congrArg List.length hs;have e2:=aAn h;have e3:s.data.toList.length=s.size:=Array.length_toList;simp only [List.length_append] at e1;omega
  have hsz2:(tO [((48 + m % 10:Nat):Int)]).size=1:=rfl;refine ⟨(((m / 10:Nat):Int),tO [((48 + m % 10:Nat):Int)] ++ s),?_,⟨m / 10,rfl,by omega,?_⟩,by simp only [Int.toNat_natCast];omega⟩
  ·simp only [kY,pM,hb,if_true,ht,hn0,Bool.false_eq_true,if_false,Option.bind_some,hlt,hw,hd];rw [aR6 (by omega),w64 (by omega) (by omega)]
   rfl
  have hb2:(tO [((48 + m % 10:Nat):Int)]).data.toList=[UInt8.ofNat (48 + m % 10)]:=by
   simp only [tO,List.map_cons,List.map_nil,Int.toNat_natCast]
  rw [← hs,aOf hz];simp only;rw [ByteArray.data_append,Array.toList_append,hb2,List.append_assoc]) ((n:Int),⟨#[]⟩) ⟨n,rfl,Nat.le_refl _,by simp [digs,h0]⟩
 rw [hne];simp only [Bool.false_eq_true,if_false];rw [h1,h2];simp only [Option.bind_some,hneg,Bool.false_eq_true,if_false]
def decB (n:Nat):ByteArray:=⟨(Lib.decDigits n).toArray⟩
theorem aOg {n:Nat} (h:n ≤ 1048576):(decB n).size ≤ 19:=by
 show (Lib.decDigits n).toArray.size ≤ 19;rw [List.size_toArray];exact aAn (by omega)
theorem aPk {n:Nat} (h:n ≤ 1048576):kZ (n:Int)=some (decB n):=aMt n (by omega)
end Go.OM
set_option maxHeartbeats 4000000
namespace Go.OM
structure MOk (a:Nat) (m:Gl05Made):Prop where
 n0:0 ≤ m.n
 n1:m.n ≤ a
 il:m.ints.length ≤ a
 bl:m.boxes.length ≤ a
 tl:m.text.size ≤ 1000 * a
 is:∀ x ∈ m.ints,x.size ≤ 40
 bs:∀ x ∈ m.boxes,x.size ≤ 40
theorem MOk.mono {a b:Nat} {m:Gl05Made} (h:MOk a m) (hab:a ≤ b):MOk b m:=⟨h.n0,by have:=h.n1;omega,by have:=h.il;omega,by have:=h.bl;omega,by have:=h.tl;omega,h.is,h.bs⟩
theorem Ends.catL {α:Type} {x y:ByteArray} {f:ByteArray→Option α} {Q:α→Prop} {n:Nat} (hx:x.size ≤ n) (hy:y.size ≤ 20) (h:n ≤ 100000000000) (k:∀ t:ByteArray,t.size ≤ n + 20→Ends (f t) Q):Ends ((bN x y).bind f) Q:=Ends.cat hx hy (by omega) k
theorem Ends.catR {α:Type} {x y:ByteArray} {f:ByteArray→Option α} {Q:α→Prop} {n:Nat} (hx:x.size ≤ 20) (hy:y.size ≤ n) (h:n ≤ 100000000000) (k:∀ t:ByteArray,t.size ≤ 20 + n→Ends (f t) Q):Ends ((bN x y).bind f) Q:=Ends.cat hx hy (by omega) k
theorem Ends.appN {α β:Type} {n:Nat} {b:List α} {f:List α→Option β} {Q:β→Prop} (hb:b.length ≤ 10000000) (hn:n ≤ 1000) (k:Ends (f b) Q):Ends ((bO n [] b).bind f) Q:=Ends.app (by simp) hb hn k
theorem Ends.app1 {α β:Type} {n:Nat} {a:List α} {x:α} {f:List α→Option β} {Q:β→Prop} (ha:a.length ≤ 1000000) (hn:n ≤ 1000) (k:Ends (f (a ++ [x])) Q):Ends ((bO n a [x]).bind f) Q:=Ends.app (by omega) (by simp) hn k
variable {α:Type} {Q:α→Prop}
theorem sG {c:Gl01Cur} {n:Int} {f:Int × Gl01Cur→Option α} (hc:Cur c) (k:∀ r q,Cur q→0 ≤ r→(0 < n→r < n)→Ends (f (r,q)) Q):Ends ((bX c n).bind f) Q :=
 Ends.bind (aK4 hc n) fun ⟨r,q⟩ h=>k r q h.1 h.2.1 h.2.2
theorem aLj {c:Gl01Cur} {n:Int} {f:Bool × Gl01Cur→Option α} (hc:Cur c) (k:∀ r q,Cur q→Ends (f (r,q)) Q):Ends ((gV c n).bind f) Q :=
 Ends.bind (E_Once hc n) fun ⟨r,q⟩ h=>k r q h
theorem aQu {c:Gl01Cur} {l:List ByteArray} {f:ByteArray × Gl01Cur→Option α} (hc:Cur c) (hl:l ≠ []) (k:∀ r q,Cur q→r ∈ l→Ends (f (r,q)) Q):Ends ((kR c l).bind f) Q :=
 Ends.bind (E_Pick hc hl) fun ⟨r,q⟩ h=>k r q h.1 h.2
theorem aH3 {m:Gl05Made} {c:Gl01Cur} {l:List ByteArray} {f:ByteArray × Gl01Cur→Option α} (hc:Cur c) (hl:l ≠ []) (hs:∀ x ∈ l,x.size ≤ 40) (k:∀ r q,Cur q→r.size ≤ 40→Ends (f (r,q)) Q):Ends ((dN m l c).bind f) Q:=by
 unfold dN;refine Ends.bind (P:=fun r=>Cur r.2∧r.1.size ≤ 40) ?_ fun ⟨r,q⟩ h=>k r q h.1 h.2;refine sG hc fun r q h1 h2 h3=>?_;have:0 < l.length:=List.length_pos_iff.2 hl;exact Ends.get h2 (h3 (by omega)) fun x hx=>Ends.one ⟨h1,hs x hx⟩
theorem aLi {m:Gl05Made} {c:Gl01Cur} {f:ByteArray × Gl01Cur→Option α} (hc:Cur c) (k:∀ r q,Cur q→r.size ≤ 20→Ends (f (r,q)) Q):Ends ((eM m c).bind f) Q:=by
 unfold eM;refine Ends.bind (P:=fun r=>Cur r.2∧r.1.size ≤ 20) ?_ fun ⟨r,q⟩ h=>k r q h.1 h.2;refine aQu hc (by simp) fun r q h1 h2=>Ends.one ⟨h1,?_⟩
 simp only [List.mem_cons,List.mem_nil_iff,or_false] at h2;rcases h2 with rfl | rfl | rfl | rfl | rfl | rfl | rfl<;>(dsimp only;decide)
theorem yZ {a:Nat} {m:Gl05Made} {c:Gl01Cur} {f:ByteArray × Gl01Cur→Option α} (hm:MOk a m) (hc:Cur c) (k:∀ r q,Cur q→r.size ≤ 60→Ends (f (r,q)) Q):Ends ((aR m c).bind f) Q:=by
 unfold aR;refine Ends.bind (P:=fun r=>Cur r.2∧r.1.size ≤ 60) ?_ fun ⟨r,q⟩ h=>k r q h.1 h.2;refine sG hc fun r q h1 h2 h3=>?_;refine Ends.bind (P:=fun v=>v=true→m.ints ≠ []) (Ends.ite (fun _=>Ends.one fun h e=>by simp [e] at h) fun _=>Ends.one fun h=>by cases h) fun v hv=>?_
 refine Ends.ite (fun h=>aH3 h1 (hv h) hm.is fun r q h4 h5=>Ends.one ⟨h4,by show r.size ≤ 60;omega⟩) fun _=>?_
 refine Ends.bind (P:=fun v=>v=true→m.boxes ≠ []) (Ends.ite (fun _=>Ends.one fun h e=>by simp [e] at h) fun _=>Ends.one fun h=>by cases h) fun v hv=>?_
 refine Ends.ite (fun h=>?_) fun _=>aLi h1 fun r q h4 h5=>Ends.one ⟨h4,by show r.size ≤ 60;omega⟩
 refine aH3 h1 (hv h) hm.bs fun r q h4 h5=>?_;exact Ends.catR (by decide) h5 (by omega) fun t ht=>Ends.one ⟨h4,ht⟩
theorem aH2 {a:Nat} {m:Gl05Made} {c:Gl01Cur} {f:ByteArray × Gl01Cur→Option α} (hm:MOk a m) (hc:Cur c) (k:∀ r q,Cur q→r.size ≤ 300→Ends (f (r,q)) Q):Ends ((cY m c).bind f) Q:=by
 unfold cY;refine Ends.bind (P:=fun r=>Cur r.2∧r.1.size ≤ 300) ?_ fun ⟨r,q⟩ h=>k r q h.1 h.2
 repeat' first
  | refine sG (by assumption) fun _ _ _ _ _=>?_
  | refine aLj (by assumption) fun _ _ _=>?_
  | refine yZ hm (by assumption) fun _ _ _ _=>?_
  | refine Ends.catR (by decide) (by assumption) (by omega) fun _ _=>?_
  | refine Ends.catL (by assumption) (by decide) (by omega) fun _ _=>?_
  | refine Ends.cat (by assumption) (by assumption) (by omega) fun _ _=>?_
  | refine Ends.ite (fun _=>?_) fun _=>?_
  | exact Ends.one ⟨by assumption,by dsimp only;decide⟩
  | exact Ends.one ⟨by assumption,by dsimp only;omega⟩
theorem aH4 {a:Nat} {m:Gl05Made} {s:ByteArray} {c:Gl01Cur} {f:ByteArray × Gl05Made × Gl01Cur→Option α} (hm:MOk a m) (ha:a ≤ 100000) (hs:s.size ≤ 20) (k:∀ r,r.size ≤ 40→Ends (f (r,⟨(),m.ints,m.boxes,m.n + 1,m.text,m.wild⟩,c)) Q):Ends ((cC m s c).bind f) Q:=by
 have n0:=hm.n0;have n1:=hm.n1;unfold cC;rw [w64 (n:=m.n + 1) (by omega) (by omega)]
 have hd:kZ (m.n + 1)=some (decB (m.n + 1).toNat):=by
  have:=aPk (n:=(m.n + 1).toNat) (by omega)
  rw [← this];congr 1;omega
 have hz:=aOg (n:=(m.n + 1).toNat) (by omega)
 rw [hd];refine Ends.bind (P:=fun r=>r.1.size ≤ 40∧r.2=(⟨(),m.ints,m.boxes,m.n + 1,m.text,m.wild⟩,c)) ?_ fun ⟨r,q⟩ h=>(by
  obtain ⟨h1,h2⟩:=h;simp only at h2;subst h2;exact k r h1)
 simp only [Option.bind_some];exact Ends.cat hs hz (by omega) fun t ht=>Ends.one ⟨by show t.size ≤ 40;omega,rfl⟩
theorem aS1 {m:Gl05Made} {b:ByteArray} {c:Gl01Cur} {f:Gl05Made × Gl01Cur→Option α} (hl:m.boxes.length ≤ 1000000) (hs:∀ x ∈ m.boxes,x.size ≤ 40) (k:∀ l:List ByteArray,l.length ≤ m.boxes.length→(∀ x ∈ l,x.size ≤ 40)→Ends (f (⟨(),m.ints,l,m.n,m.text,m.wild⟩,c)) Q):Ends ((dO m b c).bind f) Q:=by
 unfold dO;refine Ends.bind (P:=fun r=>∃ l:List ByteArray,r=(⟨(),m.ints,l,m.n,m.text,m.wild⟩,c)∧l.length ≤ m.boxes.length∧∀ x ∈ l,x.size ≤ 40) ?_ fun r h=>(by
  obtain ⟨l,rfl,h1,h2⟩:=h;exact k l h1 h2)
 refine Ends.bind (P:=fun l:List ByteArray=>l.length ≤ m.boxes.length∧∀ x ∈ l,x.size ≤ 40) ?_ fun l h=>Ends.one ⟨l,rfl,h⟩;refine Ends.loop (fun s:List ByteArray × Int=>0 ≤ s.2∧s.2 ≤ m.boxes.length∧s.1.length ≤ s.2∧∀ x ∈ s.1,x.size ≤ 40) (fun s=>m.boxes.length - s.2.toNat) _ ?_ ⟨by simp,by simp,by simp,by simp⟩
 rintro ⟨l,i⟩ ⟨h0,h1,h2,h3⟩;simp only at h0 h1 h2 h3;unfold iO;refine Ends.ite (fun h=>?_) fun h=>Ends.one (.inr ⟨l,rfl,by omega,h3⟩)
 simp only [decide_eq_true_eq] at h;have hw:IntKind.wrap .i64 (i + 1)=i + 1:=w64 (by omega) (by omega)
 refine Ends.bind (P:=fun _=>True) (Ends.get h0 h fun e he=>Ends.ite (fun _=>Ends.one trivial) fun _=>Ends.one trivial) fun v _=>?_;refine Ends.ite (fun _=>Ends.get h0 h fun e he=>Ends.app (by omega) (by simp) (by omega) (Ends.one (.inl ⟨_,rfl,?_,?_⟩))) fun _=>Ends.one (.inl ⟨_,rfl,?_,?_⟩)
 ·rw [hw];refine ⟨by omega,by omega,by simp only [List.length_append,List.length_cons,List.length_nil];omega,fun x hx=>?_⟩
  rcases List.mem_append.1 hx with hx | hx
  ·exact h3 x hx
  rw [List.mem_singleton.1 hx];exact hs _ he
 ·simp only;rw [hw];omega
 ·rw [hw];exact ⟨by omega,by omega,by simp only;omega,h3⟩
 simp only;rw [hw];omega
theorem C_gone {i bx:List ByteArray} {n:Int} {t:ByteArray} {w:Bool} {b:ByteArray} {c:Gl01Cur} {f:Gl05Made × Gl01Cur→Option α} (hl:bx.length ≤ 1000000) (hs:∀ x ∈ bx,x.size ≤ 40) (k:∀ l:List ByteArray,l.length ≤ bx.length→(∀ x ∈ l,x.size ≤ 40)→Ends (f (⟨(),i,l,n,t,w⟩,c)) Q):Ends ((dO ⟨(),i,bx,n,t,w⟩ b c).bind f) Q:=aS1 hl hs k
theorem aOq {l:List ByteArray} {r:ByteArray} (h:∀ x ∈ l,x.size ≤ 40) (hr:r.size ≤ 40):∀ x ∈ l ++ [r],x.size ≤ 40:=by
 intro x hx;rcases List.mem_append.1 hx with hx | hx
 ·exact h x hx
 rw [List.mem_singleton.1 hx];exact hr
theorem aK0 {l:List ByteArray} {r:ByteArray} {a:Nat} (h:l.length ≤ a):(l ++ [r]).length ≤ a + 1:=by simp only [List.length_append,List.length_cons,List.length_nil];omega
theorem aM4 {a:Nat} {m:Gl05Made} (hm:MOk a m) {i b:List ByteArray} {n:Int} {t:ByteArray} {w:Bool} (hn:n=m.n ∨ n=m.n + 1) (hil:i.length ≤ a + 1) (his:∀ x ∈ i,x.size ≤ 40) (hbl:b.length ≤ a + 1) (hbs:∀ x ∈ b,x.size ≤ 40) (ht:t.size ≤ 1000 * (a + 1)):MOk (a + 1) ⟨(),i,b,n,t,w⟩:=by
 have n0:=hm.n0;have n1:=hm.n1;exact ⟨by simp only;omega,by simp only;omega,hil,hbl,ht,his,hbs⟩
theorem aMc {a:Nat} {m:Gl05Made} {c:Gl01Cur} (hm:MOk a m) (ha:a ≤ 90000) (hb:m.boxes ≠ []) (hc:Cur c) (give:Bool):Ends (gU m give c) (fun r=>MOk (a + 1) r.1∧Cur r.2):=by
 have il:m.ints.length ≤ a + 1:=by have:=hm.il;omega
 have bl:=hm.bl;have bl':m.boxes.length ≤ a + 1:=by have:=hm.bl;omega
 have tl:=hm.tl;have is:=hm.is;have bs:=hm.bs;unfold gU;refine aH3 hc hb bs fun r4 q h1 h2=>?_;refine sG h1 fun r7 q8 h3 h4 h5=>?_
 repeat' first
  | dsimp only
  | exact Ends.one ⟨hm.mono (by omega),by assumption⟩
  | exact Ends.one ⟨aM4 hm (.inl rfl) il is bl' bs (by omega),by assumption⟩
  | exact Ends.one ⟨aM4 hm (.inr rfl) il is bl' bs (by omega),by assumption⟩
  | exact Ends.one ⟨aM4 hm (.inl rfl) il is (by omega) (by assumption) (by omega),by assumption⟩
  | exact Ends.one ⟨aM4 hm (.inr rfl) il is (aK0 (by omega)) (aOq (by assumption) (by assumption)) (by omega),by assumption⟩
  | refine aH4 hm (by omega) (by decide) fun _ _=>?_
  | refine yZ hm (by assumption) fun _ _ _ _=>?_
  | refine yZ (aM4 hm (.inr rfl) il is bl' bs (by omega)) (by assumption) fun _ _ _ _=>?_
  | refine aLi (by assumption) fun _ _ _ _=>?_
  | refine aH2 hm (by assumption) fun _ _ _ _=>?_
  | refine C_gone (by omega) (by assumption) fun _ _ _=>?_
  | refine Ends.catL (by assumption) (by decide) (by omega) fun _ _=>?_
  | refine Ends.cat (by assumption) (by assumption) (by omega) fun _ _=>?_
  | refine Ends.appN (by omega) (by omega) ?_
  | refine Ends.app1 (by omega) (by omega) ?_
  | refine Ends.ite (fun _=>?_) fun _=>?_
  | refine aLj (by assumption) fun _ _ _=>?_
  | (refine Ends.bind (P:=fun r=>Cur r.2∧∃ (l:List ByteArray) (t:ByteArray),r.1=⟨(),m.ints,l,m.n + 1,t,m.wild⟩∧l.length ≤ a∧(∀ x ∈ l,x.size ≤ 40)∧t.size ≤ 1000 * a + 200) ?_ ?_)
  | (rintro ⟨v,q⟩ ⟨_,l,t,rfl,_,_,_⟩)
  | exact Ends.one ⟨by assumption,_,_,rfl,by omega,by assumption,by omega⟩
end Go.OM
namespace Go.OM
variable {α:Type} {Q:α→Prop}
def wgt:Nat→Nat
 | 0=>1
 | d + 1=>6 + 4 * wgt d
theorem aFr:∀ d,1 ≤ wgt d
 | 0=>Nat.le_refl _
 | d + 1=>by simp only [wgt];omega
theorem aN3:∀ f:Nat,(∀ (d a:Nat) (m:Gl05Made) (c:Gl01Cur) (give:Bool),d ≤ 2→2 * d + 1 ≤ f→MOk a m→Cur c→a + wgt d ≤ 90000→Ends ((aU f).1 m (d:Int) give c) (fun r=>MOk (a + wgt d) r.1∧Cur r.2)) ∧
  ∀ (d a:Nat) (m:Gl05Made) (c:Gl01Cur) (last:ByteArray),d ≤ 1→2 * d + 2 ≤ f→MOk a m→Cur c→last.size ≤ 200→a + 2 + 2 * wgt d ≤ 90000→Ends ((aU f).2 m ((d:Int) + 1) last c) (fun r=>MOk (a + 2 + 2 * wgt d) r.1∧Cur r.2):=by
 intro f;induction f with
 | zero=>exact ⟨fun d a m c give _ h=>by omega,fun d a m c last _ h=>by omega⟩
 | succ f ih =>
  obtain ⟨ih1,ih2⟩:=ih;refine ⟨fun d a m c give hd hf hm hc ha=>?_,fun d a m c last hd hf hm hc hl ha=>?_⟩
  ·show Ends (gB (aU f).1 (aU f).2 m d give c) _;have hw:=aFr d;have il:m.ints.length ≤ a + 1:=by have:=hm.il;omega
   have il':=hm.il;have bl:=hm.bl;have bl':m.boxes.length ≤ a + 1:=by have:=hm.bl;omega
   have tl:=hm.tl;have is:=hm.is;have bs:=hm.bs;unfold gB;refine sG hc fun r5 q6 h1 h2 h3=>?_;dsimp only;refine Ends.bind (P:=fun v=>v=false→m.ints ≠ []) (Ends.ite (fun _=>Ends.one fun h=>by cases h) fun _=>Ends.one fun h e=>by simp [e] at h) fun v hv=>?_
   refine Ends.ite (fun _=>?_) fun hv2=>?_
   ·repeat' first
     | dsimp only
     | exact Ends.one ⟨(aM4 hm (.inr rfl) (aK0 (by omega)) (aOq (by assumption) (by assumption)) (by omega) bs (by omega)).mono (by omega),by assumption⟩
     | refine aH4 hm (by omega) (by decide) fun _ _=>?_
     | refine aH2 hm (by assumption) fun _ _ _ _=>?_
     | refine Ends.catL (by assumption) (by decide) (by omega) fun _ _=>?_
     | refine Ends.cat (by assumption) (by assumption) (by omega) fun _ _=>?_
     | refine Ends.appN (by omega) (by omega) ?_
     | refine Ends.app1 (by omega) (by omega) ?_
   have hni:m.ints ≠ []:=hv (by simpa using hv2)
   refine Ends.bind (P:=fun v=>v=false→m.boxes ≠ []) (Ends.ite (fun _=>Ends.one fun h=>by cases h) fun _=>Ends.one fun h e=>by simp [e] at h) fun v hv=>?_
   refine Ends.ite (fun _=>?_) fun hv2=>?_
   ·refine yZ hm (by assumption) fun _ _ _ _=>?_
    dsimp only;refine Ends.catR (by decide) (by assumption) (by omega) fun _ _=>?_
    refine Ends.bind (P:=fun r=>Cur r.2.2∧r.2.1=m∧r.1.size ≤ 200) ?_ ?_
    ·repeat' first
      | dsimp only
      | exact Ends.one ⟨by assumption,rfl,by dsimp only;omega⟩
      | refine aLj (by assumption) fun _ _ _=>?_
      | refine yZ hm (by assumption) fun _ _ _ _=>?_
      | refine Ends.catR (by decide) (by assumption) (by omega) fun _ _=>?_
      | refine Ends.catL (by assumption) (by decide) (by omega) fun _ _=>?_
      | refine Ends.ite (fun _=>?_) fun _=>?_
    rintro ⟨t,m',q⟩ ⟨hq,hm',ht⟩;dsimp only at hq hm' ht ⊢;subst hm'
    repeat' first
     | dsimp only
     | exact Ends.one ⟨(aM4 hm (.inr rfl) il is (aK0 (by omega)) (aOq (by assumption) (by assumption)) (by omega)).mono (by omega),by assumption⟩
     | refine aH4 hm (by omega) (by decide) fun _ _=>?_
     | refine Ends.catL (by assumption) (by decide) (by omega) fun _ _=>?_
     | refine Ends.cat (by assumption) (by assumption) (by omega) fun _ _=>?_
     | refine Ends.appN (by omega) (by omega) ?_
     | refine Ends.app1 (by omega) (by omega) ?_
   have hnb:m.boxes ≠ []:=hv (by simpa using hv2)
   refine Ends.ite (fun _=>?_) fun _=>?_
   ·repeat' first
     | dsimp only
     | exact Ends.one ⟨(aM4 hm (.inl rfl) il is bl' bs (by omega)).mono (by omega),by assumption⟩
     | refine aH2 hm (by assumption) fun _ _ _ _=>?_
     | refine Ends.catL (by assumption) (by decide) (by omega) fun _ _=>?_
     | refine Ends.cat (by assumption) (by assumption) (by omega) fun _ _=>?_
   refine Ends.ite (fun _=>?_) fun _=>?_
   ·refine aH3 (by assumption) hni is fun _ _ _ _=>?_
    repeat' first
     | dsimp only
     | exact Ends.one ⟨(aM4 hm (.inl rfl) il is bl' bs (by omega)).mono (by omega),by assumption⟩
     | refine aH2 hm (by assumption) fun _ _ _ _=>?_
     | refine Ends.catL (by assumption) (by decide) (by omega) fun _ _=>?_
     | refine Ends.cat (by assumption) (by assumption) (by omega) fun _ _=>?_
   refine Ends.bind (P:=fun v=>v=true→0 < d) (Ends.ite (fun _=>Ends.one fun h=>by simpa using h) fun _=>Ends.one fun h=>by cases h) fun v hv=>?_
   refine Ends.ite (fun hv2=>?_) fun _=>?_
   ·obtain ⟨e,rfl⟩:∃ e,d=e + 1:=⟨d - 1,by have:=hv hv2;omega⟩
    simp only [wgt] at ha hw ⊢;have ec:((e + 1:Nat):Int)=(e:Int) + 1:=by omega
    rw [ec];have hwe:=aFr e;refine Ends.catL tl (by decide) (by omega) fun _ _=>?_
    refine yZ hm (by assumption) fun _ _ _ _=>?_
    dsimp only;refine Ends.cat (by assumption) (by assumption) (by omega) fun _ _=>?_
    refine Ends.catL (by assumption) (by decide) (by omega) fun _ _=>?_
    refine yZ hm (by assumption) fun _ _ _ _=>?_
    dsimp only;refine Ends.cat (by assumption) (by assumption) (by omega) fun _ _=>?_
    refine Ends.catL (by assumption) (by decide) (by omega) fun _ _=>?_
    have hm1:=aM4 (w:=m.wild) (t:=‹ByteArray›) hm (.inl rfl) il is bl' bs (by omega)
    refine Ends.bind (ih2 e (a + 1) _ _ _ (by omega) (by omega) hm1 (by assumption) (by decide) (by omega)) ?_
    rintro ⟨m2,c2⟩ ⟨hm2,hc2⟩;dsimp only at hm2 hc2 ⊢;have tl2:=hm2.tl;refine Ends.catL tl2 (by decide) (by omega) fun t3 ht3=>?_
    have hm3:MOk (a + 1 + 2 + 2 * wgt e + 1) ⟨(),m2.ints,m2.boxes,m2.n,t3,m2.wild⟩:=aM4 hm2 (.inl rfl) (by have:=hm2.il;omega) hm2.is (by have:=hm2.bl;omega) hm2.bs (by omega)
    refine Ends.bind (ih2 e _ _ _ _ (by omega) (by omega) hm3 hc2 (by decide) (by omega)) ?_
    rintro ⟨m4,c4⟩ ⟨hm4,hc4⟩;dsimp only at hm4 hc4 ⊢;exact Ends.one ⟨hm4.mono (by omega),hc4⟩
   refine Ends.bind (P:=fun v=>v=true→0 < d) (Ends.ite (fun _=>Ends.one fun h=>by simpa using h) fun _=>Ends.one fun h=>by cases h) fun v hv=>?_
   refine Ends.ite (fun hv2=>?_) fun _=>?_
   ·obtain ⟨e,rfl⟩:∃ e,d=e + 1:=⟨d - 1,by have:=hv hv2;omega⟩
    simp only [wgt] at ha hw ⊢;have ec:((e + 1:Nat):Int)=(e:Int) + 1:=by omega
    rw [ec];have hwe:=aFr e;refine aH4 hm (by omega) (by decide) fun rw hrw=>?_
    dsimp only
    iterate 5
     first
      | refine Ends.catL (by assumption) (by decide) (by omega) fun _ _=>?_
      | refine Ends.cat (by assumption) (by assumption) (by omega) fun _ _=>?_
    refine aQu (by assumption) (by simp) fun rp qp hqp hrp=>?_
    have hrs:rp.size ≤ 20:=by
     simp only [List.mem_cons,List.mem_nil_iff,or_false] at hrp;rcases hrp with rfl | rfl | rfl | rfl<;>decide
    dsimp only;refine Ends.cat (by assumption) (by assumption) (by omega) fun _ _=>?_
    refine Ends.catL (by assumption) (by decide) (by omega) fun t1 ht1=>?_
    refine Ends.catL hrw (by decide) (by omega) fun _ _=>?_
    refine Ends.cat (by assumption) hrw (by omega) fun _ _=>?_
    refine Ends.catL (by assumption) (by decide) (by omega) fun t2 ht2=>?_
    have hm1:MOk (a + 1) ⟨(),m.ints,m.boxes,m.n + 1,t1,m.wild⟩:=aM4 hm (.inr rfl) il is bl' bs (by omega)
    refine Ends.bind (ih2 e _ _ _ _ (by omega) (by omega) hm1 (by assumption) (by omega) (by omega)) ?_
    rintro ⟨m4,c4⟩ ⟨hm4,hc4⟩;dsimp only at hm4 hc4 ⊢;exact Ends.one ⟨hm4.mono (by omega),hc4⟩
   refine Ends.bind (aMc hm (by omega) hnb (by assumption) give) ?_
   rintro ⟨m4,c4⟩ ⟨hm4,hc4⟩;exact Ends.one ⟨hm4.mono (by omega),hc4⟩
  show Ends (eV (aU f).1 (aU f).2 m ((d:Int) + 1) last c) _;have hw:=aFr d;have il':=hm.il;have bl:=hm.bl;have tl:=hm.tl;unfold eV;refine Ends.app (by simp) (by omega) (by omega) ?_
  refine Ends.app (by simp) (by omega) (by omega) ?_
  refine Ends.catL tl (by decide) (by omega) fun t7 ht7=>?_
  refine Ends.bind (P:=fun r:Gl05Made × Gl01Cur=>MOk (a + 1 + 2 * wgt d) r.1∧Cur r.2) ?_ ?_
  ·refine Ends.loop (fun s:Int × Gl05Made × Gl01Cur=>∃ j:Nat,s.1=j∧j ≤ 2∧MOk (a + 1 + j * wgt d) s.2.1∧Cur s.2.2) (fun s=>2 - s.1.toNat) _ ?_ ⟨0,rfl,by omega,by
    rw [Nat.zero_mul];exact aM4 hm (.inl rfl) (by omega) hm.is (by omega) hm.bs (by omega),hc⟩
   rintro ⟨i,m1,c1⟩ ⟨j,rfl,hj,hm1,hc1⟩;dsimp only at hm1 hc1;have hj2:j * wgt d ≤ 2 * wgt d:=Nat.mul_le_mul_right _ hj;unfold gI;refine sG hc1 fun r q h1 h2 h3=>?_;dsimp only;refine Ends.ite (fun h=>?_) fun h=>Ends.one (.inr ⟨_,rfl,hm1.mono (by omega),h1⟩)
   simp only [decide_eq_true_eq] at h;have hr:=h3 (by omega)
   have hj3:j + 1 ≤ 2:=by omega
   have e1:IntKind.wrap .i64 ((d:Int) + 1 - 1)=d:=by rw [w64 (by omega) (by omega)];omega
   have e2:IntKind.wrap .i64 ((j:Int) + 1)=((j + 1:Nat):Int):=by rw [w64 (by omega) (by omega)];omega
   rw [e1];have hj4:(j + 1) * wgt d ≤ 2 * wgt d:=Nat.mul_le_mul_right _ hj3;have hj5:(j + 1) * wgt d=j * wgt d + wgt d:=by rw [Nat.succ_mul]
   refine Ends.bind (ih1 d (a + 1 + j * wgt d) m1 q false (by omega) (by omega) hm1 h1 (by omega)) ?_
   rintro ⟨m2,c2⟩ ⟨hm2,hc2⟩;dsimp only at hm2 hc2 ⊢;refine Ends.one (.inl ⟨_,rfl,⟨j + 1,e2,hj3,by dsimp only;exact hm2.mono (by omega),hc2⟩,?_⟩)
   dsimp only;rw [e2];omega
  rintro ⟨m2,c2⟩ ⟨hm2,hc2⟩;dsimp only at hm2 hc2 ⊢;have tl2:=hm2.tl;refine Ends.cat tl2 hl (by omega) fun t8 ht8=>?_
  refine Ends.catL ht8 (by decide) (by omega) fun t9 ht9=>?_
  exact Ends.one ⟨⟨hm2.n0,by have:=hm2.n1;dsimp only;omega,by dsimp only;omega,by dsimp only;omega,by dsimp only;omega,hm.is,hm.bs⟩,hc2⟩
theorem E_Text {c:Gl01Cur} (hc:Cur c) {most:Int} (h1:0 < most) (h2:most ≤ 20):Ends (pS c most) (fun r=>Cur r.2∧r.1.size ≤ 10000000):=by
 unfold pS;refine aLj hc fun w q hq=>?_;dsimp only;refine Ends.bind (P:=fun r:Gl05Made × Gl01Cur=>MOk 2000 r.1∧Cur r.2) ?_ ?_
 ·refine Ends.loop (fun s:Int × Gl05Made × Gl01Cur=>∃ j:Nat,s.1=j∧j ≤ 22∧MOk (1 + j * 46) s.2.1∧Cur s.2.2) (fun s=>22 - s.1.toNat) _ ?_ ⟨0,rfl,by omega,⟨by dsimp only;omega,by dsimp only;omega,by dsimp only;simp,by dsimp only;simp,by dsimp only;exact of_decide_eq_true (by kernel_rfl),by simp,by simp⟩,hq⟩
  rintro ⟨i,m1,c1⟩ ⟨j,rfl,hj,hm1,hc1⟩;dsimp only at hm1 hc1;unfold nS;refine sG hc1 fun r q h3 h4 h5=>?_;dsimp only;have hr:=h5 h1;rw [w64 (n:=2 + r) (by omega) (by omega)]
  refine Ends.ite (fun h=>?_) fun h=>Ends.one (.inr ⟨_,rfl,hm1.mono (by omega),h3⟩)
  simp only [decide_eq_true_eq] at h;have e2:IntKind.wrap .i64 ((j:Int) + 1)=((j + 1:Nat):Int):=by rw [w64 (by omega) (by omega)];omega
  refine Ends.bind ((aN3 1048576).1 2 (1 + j * 46) m1 q true (by omega) (by omega) hm1 h3 (by show 1 + j * 46 + 46 ≤ 90000;omega)) ?_
  rintro ⟨m2,c2⟩ ⟨hm2,hc2⟩;dsimp only at hm2 hc2 ⊢;refine Ends.one (.inl ⟨_,rfl,⟨j + 1,e2,by omega,by dsimp only;exact hm2.mono (by show 1 + j * 46 + 46 ≤ _;omega),hc2⟩,?_⟩)
  dsimp only;rw [e2];omega
 rintro ⟨m2,c2⟩ ⟨hm2,hc2⟩;dsimp only at hm2 hc2 ⊢;exact Ends.catL hm2.tl (by decide) (by omega) fun t ht=>Ends.one ⟨hc2,by dsimp only;omega⟩
end Go.OM
namespace Go.OM
theorem Ends.sat {α:Type} {Q:α→Prop} {z:ByteArray} {i:Int} {f:Int→Option α} (h0:0 ≤ i) (h1:i < z.size) (k:Ends (f (sC z i)) Q):Ends ((sAt z i).bind f) Q:=by
 unfold sAt;rw [if_pos ⟨h0,h1⟩];exact k
theorem Ends.sub {α:Type} {Q:α→Prop} {z:ByteArray} {lo hi:Int} {f:ByteArray→Option α} (h0:0 ≤ lo) (h1:lo ≤ hi) (h2:hi ≤ z.size) (k:∀ t:ByteArray,(t.size:Int)=hi - lo→Ends (f t) Q):Ends ((eK z lo hi).bind f) Q:=by
 unfold eK;rw [if_pos ⟨h0,h1,h2⟩];refine k _ ?_;rw [ByteArray.size_extract];omega
def SG (l:List GSign):Prop:=∀ s ∈ l,s.Text.size ≤ 3000
theorem SG.snoc {l:List GSign} {s:GSign} (h:SG l) (hs:s.Text.size ≤ 3000):SG (l ++ [s]):=by
 intro x hx;rcases List.mem_append.1 hx with hx | hx
 ·exact h x hx
 rw [List.mem_singleton.1 hx];exact hs
theorem aNg {r:ByteArray} (h:¬ sEq r (⟨#[]⟩:ByteArray)=true):0 < r.size:=by
 rcases Nat.eq_zero_or_pos r.size with h0 | h0
 ·exfalso;apply h;rw [aG9,decide_eq_true_eq];cases r with
  | mk a =>
   congr 1
   exact Array.eq_empty_of_size_eq_zero h0
 exact h0
theorem E_Mark {t:ByteArray} {at_:Int} (ht:t.size ≤ 3000) (h0:0 ≤ at_) (h1:at_ ≤ t.size):Ends (kQ t at_) (fun r=>r.size ≤ 2∧at_ + (r.size:Int) ≤ t.size):=by
 unfold kQ;refine Ends.bind (P:=fun l:List ByteArray=>l.length ≤ 20∧∀ x ∈ l,x.size ≤ 2) ?_ fun l ⟨hl,hs⟩=>?_
 ·unfold nX;refine Ends.one ⟨by decide,fun x hx=>?_⟩
  simp only [List.mem_cons,List.mem_nil_iff,or_false] at hx;rcases hx with rfl | rfl | rfl | rfl | rfl | rfl | rfl | rfl | rfl | rfl | rfl | rfl | rfl | rfl<;>decide
 refine Ends.bind (P:=fun r:Unit ⊕ ByteArray=>r = .inl () ∨ ∃ x:ByteArray,r = .inr x∧x.size ≤ 2∧at_ + (x.size:Int) ≤ t.size) ?_ ?_
 ·refine Ends.loop (fun i:Int=>0 ≤ i) (fun i=>20 - i.toNat) _ (fun i hi=>?_) (Int.le_refl _);unfold kP;refine Ends.ite (fun h=>?_) fun h=>Ends.one (.inr ⟨_,rfl,.inl rfl⟩);simp only [decide_eq_true_eq] at h;have hw:IntKind.wrap .i64 (i + 1)=i + 1:=w64 (by omega) (by omega)
  obtain ⟨j,rfl⟩:=Int.eq_ofNat_of_zero_le hi;have hj:j < l.length:=by exact_mod_cast h
  have hg:aP l (j:Int)=some l[j]:=aN hj;have hsz:=hs _ (List.getElem_mem hj);have hw2:IntKind.wrap .i64 (at_ + (l[j].size:Int))=at_ + (l[j].size:Int):=w64 (by omega) (by omega)
  rw [hg];simp only [Option.bind_some,hw2];refine Ends.bind (P:=fun v=>v=true→at_ + (l[j].size:Int) ≤ t.size) ?_ fun v hv=>?_
  ·refine Ends.ite (fun h2=>?_) fun h2=>Ends.one fun h=>by cases h
   simp only [decide_eq_true_eq] at h2;exact Ends.sub h0 (by omega) h2 fun u hu=>Ends.one fun _=>h2
  refine Ends.ite (fun h2=>Ends.one (.inr ⟨_,rfl,.inr ⟨_,rfl,hsz,hv h2⟩⟩)) fun h2=>Ends.one (.inl ⟨_,rfl,?_,?_⟩)
  ·rw [hw];omega
  rw [hw];omega
 rintro r (rfl | ⟨x,rfl,h2,h3⟩)
 ·exact Ends.one ⟨by decide,by show at_ + ((0:Nat):Int) ≤ _;omega⟩
 exact Ends.one ⟨h2,h3⟩
theorem E_l2 {t:ByteArray} (ht:t.size ≤ 3000) {a:Int} (h0:0 ≤ a) (h1:a ≤ t.size):Ends (aI (kT t) a) (fun n=>a ≤ n∧n ≤ t.size∧(n < t.size→nG (sC t n)=false)):=by
 refine Ends.loop (fun n:Int=>a ≤ n∧n ≤ t.size) (fun n=>t.size - n.toNat) _ ?_ ⟨Int.le_refl _,h1⟩;rintro n ⟨h2,h3⟩;unfold kT;have hw:IntKind.wrap .i64 (n + 1)=n + 1:=w64 (by omega) (by omega)
 by_cases h:n < t.size
 ·rw [if_pos (by simpa using h)]
  refine Ends.bind (P:=fun v=>v=(nG (sC t n) || oO (sC t n))) ?_ ?_
  ·refine Ends.sat (by omega) h ?_
   rw [lS];simp only [Option.bind_some,lU];refine Ends.ite (fun h=>Ends.one (by rw [h];rfl)) fun h=>Ends.one (by rw [show nG (sC t n)=false by simpa using h];rfl)
  rintro v rfl;refine Ends.ite (fun h4=>Ends.one (.inl ⟨_,rfl,by rw [hw];omega,by rw [hw];omega⟩)) fun h4=>Ends.one (.inr ⟨_,rfl,h2,h3,fun _=>?_⟩)
  simp only [Bool.or_eq_true,not_or] at h4;simpa using h4.1
 rw [if_neg (by simpa using h)]
 exact Ends.one (.inr ⟨_,rfl,h2,h3,fun h4=>absurd h4 h⟩)
theorem E_l3 {t:ByteArray} (ht:t.size ≤ 3000) {a:Int} (h0:0 ≤ a) (h1:a ≤ t.size):Ends (aI (kS t a) (a,0)) (fun n=>a ≤ n.1∧n.1 ≤ t.size∧(n.1=a→n.1 < t.size→oO (sC t n.1)=false)):=by
 refine Ends.loop (fun n:Int × Int=>a ≤ n.1∧n.1 ≤ t.size) (fun n=>t.size - n.1.toNat) _ ?_ ⟨Int.le_refl _,h1⟩;rintro ⟨n,v⟩ ⟨h2,h3⟩;dsimp only at h2 h3;unfold kS;have hw:IntKind.wrap .i64 (n + 1)=n + 1:=w64 (by omega) (by omega)
 have hw2:IntKind.wrap .i64 (n - a)=n - a:=w64 (by omega) (by omega)
 dsimp only;by_cases h:n < t.size
 ·rw [if_pos (by simpa using h),hw2]
  refine Ends.bind (P:=fun v=>v=(oO (sC t n) && decide (n - a ≤ 10))) ?_ ?_
  ·refine Ends.sat (by omega) h ?_
   rw [lU];simp only [Option.bind_some];refine Ends.ite (fun h=>Ends.one (by rw [h];rfl)) fun h=>Ends.one (by rw [show oO (sC t n)=false by simpa using h];rfl)
  rintro v rfl;refine Ends.ite (fun h4=>Ends.sat (by omega) h (Ends.one (.inl ⟨_,rfl,?_,?_⟩))) fun h4=>Ends.one (.inr ⟨_,rfl,h2,h3,fun h5 _=>?_⟩)
  ·dsimp only;rw [hw];omega
  ·dsimp only;rw [hw];omega
  dsimp only at h5 ⊢;cases hf:oO (sC t n) with
  | false=>rfl
  | true=>rw [hf] at h4;simp [h5] at h4
 rw [if_neg (by simpa using h)]
 exact Ends.one (.inr ⟨_,rfl,h2,h3,fun _ h4=>absurd h4 h⟩)
theorem aOv (t:ByteArray):Ends (kV t) (fun r=>r.1.length ≤ 3000∧SG r.1):=by
 unfold kV;refine Ends.ite (fun _=>Ends.one ⟨by simp,by intro s hs;cases hs⟩) fun h=>?_
 have ht:t.size ≤ 3000:=by simp only [decide_eq_true_eq] at h;omega
 refine Ends.bind (P:=fun r:List GSign ⊕ (List GSign × Bool)=>(∃ o,r = .inl o∧o.length ≤ 3000∧SG o) ∨ ∃ o b,r = .inr (o,b)∧o.length ≤ 3000∧SG o) ?_ ?_
 ·refine Ends.loop (fun s:List GSign × Int=>0 ≤ s.2∧s.2 ≤ t.size∧s.1.length ≤ s.2∧SG s.1) (fun s=>t.size - s.2.toNat) _ ?_ ⟨by simp,by simp,by simp,by intro s hs;cases hs⟩
  rintro ⟨out,a⟩ ⟨h0,h1,h2,h3⟩;dsimp only at h0 h1 h2 h3;unfold kU;dsimp only;have hnil:([]:List GSign).length ≤ 3000∧SG []:=⟨by simp,by intro s hs;cases hs⟩
  refine Ends.ite (fun h4=>?_) fun h4=>Ends.one (.inr ⟨_,rfl,.inl ⟨_,rfl,by omega,h3⟩⟩)
  simp only [decide_eq_true_eq] at h4;have hw:IntKind.wrap .i64 (a + 1)=a + 1:=w64 (by omega) (by omega)
  refine Ends.bind (P:=fun _=>True) (Ends.sat h0 h4 (Ends.ite (fun _=>Ends.one trivial) fun _=>Ends.one trivial)) fun v _=>?_;refine Ends.ite (fun _=>Ends.one (.inl ⟨_,rfl,by dsimp only;rw [hw];exact ⟨by omega,by omega,by omega,h3⟩,by dsimp only;rw [hw];omega⟩)) fun _=>?_
  refine Ends.bind (P:=fun s=>s=Sum.inl (out,a,a) ∨ ∃ z,s=Sum.inr z∧((∃ b:List GSign × Int,z=Sum.inl b∧(0 ≤ b.2∧b.2 ≤ t.size∧b.1.length ≤ b.2∧SG b.1)∧t.size - b.2.toNat < t.size - a.toNat) ∨ ∃ r:List GSign ⊕ (List GSign × Bool),z=Sum.inr r∧((∃ o,r = .inl o∧o.length ≤ 3000∧SG o) ∨ ∃ o b,r = .inr (o,b)∧o.length ≤ 3000∧SG o))) ?_ ?_
  ·refine Ends.sat h0 h4 ?_;rw [lS];simp only [Option.bind_some];refine Ends.ite (fun hl=>?_) fun _=>Ends.one (.inl rfl);refine Ends.bind (E_l2 ht h0 h1) fun n ⟨n1,n2,n3⟩=>?_;refine Ends.ite (fun _=>Ends.one (.inr ⟨_,rfl,.inr ⟨_,rfl,.inr ⟨_,_,rfl,hnil⟩⟩⟩)) fun _=>?_;have hna:a < n:=by
    rcases Int.lt_or_eq_of_le n1 with h5 | h5
    ·exact h5
    subst h5;rw [n3 h4] at hl;cases hl
   refine Ends.sub h0 n1 n2 fun u hu=>Ends.app1 (by omega) (by omega) (Ends.one (.inr ⟨_,rfl,.inl ⟨_,rfl,⟨by dsimp only;omega,n2,?_,h3.snoc (by dsimp only;omega)⟩,?_⟩⟩))
   ·simp only [List.length_append,List.length_cons,List.length_nil];omega
   dsimp only;omega
  rintro s (rfl | ⟨z,rfl,hz⟩)
  ·dsimp only;refine Ends.bind (P:=fun s=>s=Sum.inl (out,a) ∨ ∃ z,s=Sum.inr z∧((∃ b:List GSign × Int,z=Sum.inl b∧(0 ≤ b.2∧b.2 ≤ t.size∧b.1.length ≤ b.2∧SG b.1)∧t.size - b.2.toNat < t.size - a.toNat) ∨ ∃ r:List GSign ⊕ (List GSign × Bool),z=Sum.inr r∧((∃ o,r = .inl o∧o.length ≤ 3000∧SG o) ∨ ∃ o b,r = .inr (o,b)∧o.length ≤ 3000∧SG o))) ?_ ?_
   ·refine Ends.sat h0 h4 ?_;rw [lU];simp only [Option.bind_some];refine Ends.ite (fun hl=>?_) fun _=>Ends.one (.inl rfl);refine Ends.bind (E_l3 ht h0 h1) ?_;rintro ⟨n,v⟩ ⟨n1,n2,n3⟩;dsimp only at n1 n2 n3 ⊢;refine Ends.bind (P:=fun _=>True) (Ends.ite (fun _=>Ends.one trivial) fun _=>Ends.one trivial) fun w _=>?_;refine Ends.ite (fun _=>Ends.one (.inr ⟨_,rfl,.inr ⟨_,rfl,.inr ⟨_,_,rfl,hnil⟩⟩⟩)) fun _=>?_;have hna:a < n:=by
     rcases Int.lt_or_eq_of_le n1 with h5 | h5
     ·exact h5
     subst h5;rw [n3 rfl h4] at hl;cases hl
    refine Ends.app1 (by omega) (by omega) (Ends.one (.inr ⟨_,rfl,.inl ⟨_,rfl,⟨by dsimp only;omega,n2,?_,h3.snoc (by dsimp only;decide)⟩,?_⟩⟩))
    ·simp only [List.length_append,List.length_cons,List.length_nil];omega
    dsimp only;omega
   rintro s (rfl | ⟨z,rfl,hz⟩)
   ·dsimp only;refine Ends.bind (E_Mark ht h0 h1) fun r ⟨hr,hr2⟩=>?_;refine Ends.ite (fun _=>Ends.one (.inr ⟨_,rfl,.inr ⟨_,_,rfl,hnil⟩⟩)) fun h5=>?_;have hp:=aNg h5;have hw2:IntKind.wrap .i64 (a + (r.size:Int))=a + (r.size:Int):=w64 (by omega) (by omega)
    refine Ends.app1 (by omega) (by omega) (Ends.one (.inl ⟨_,rfl,?_,?_⟩))
    ·dsimp only;rw [hw2];exact ⟨by omega,hr2,by simp only [List.length_append,List.length_cons,List.length_nil];omega,h3.snoc (by dsimp only;omega)⟩
    dsimp only;rw [hw2];omega
   exact Ends.one hz
  exact Ends.one hz
 rintro r (⟨o,rfl,h2⟩ | ⟨o,b,rfl,h2⟩)
 ·exact Ends.one h2
 exact Ends.one h2
end Go.OM
namespace Go.OM
def NOk (x:GNode):Prop:=x.Name.size ≤ 3000∧x.Kids.length ≤ 4000
structure ROk (r:Gl05Read):Prop where
 ll:r.list.length ≤ 3000
 sg:SG r.list
 a0:0 ≤ r.at_
 a1:r.at_ ≤ r.list.length
 d0:0 ≤ r.deep
 d1:r.deep ≤ 13
 nl:r.nodes.length ≤ 300
 nk:∀ x ∈ r.nodes,NOk x
structure Adv (r0:Gl05Read) (p:Prop) (r:Gl05Read):Prop where
 ok:ROk r
 li:r.list=r0.list
 le:r0.at_ ≤ r.at_
 bd:r0.bad=true→r.bad=true
 dp:r.deep=r0.deep
 pr:p→(r.bad=true ∨ r0.at_ < r.at_)
theorem Adv.refl {r:Gl05Read} (h:ROk r):Adv r False r:=⟨h,rfl,Int.le_refl _,id,rfl,False.elim⟩
theorem Adv.trans {r0 r r':Gl05Read} {p:Prop} (h1:Adv r0 p r) (h2:Adv r True r'):Adv r0 True r' :=
 ⟨h2.ok,h2.li.trans h1.li,Int.le_trans h1.le h2.le,fun h=>h2.bd (h1.bd h),h2.dp.trans h1.dp,fun _=>by
  have:=h1.le;rcases h2.pr trivial with h | h
  ·exact .inl h
  right;omega⟩
theorem Adv.trans' {r0 r r':Gl05Read} {p:Prop} (h1:Adv r0 p r) (h2:Adv r False r'):Adv r0 p r' :=
 ⟨h2.ok,h2.li.trans h1.li,Int.le_trans h1.le h2.le,fun h=>h2.bd (h1.bd h),h2.dp.trans h1.dp,fun hp=>by
  have:=h2.le;rcases h1.pr hp with h | h
  ·exact .inl (h2.bd h)
  right;omega⟩
theorem Adv.weak {r0 r:Gl05Read} {p q:Prop} (h1:Adv r0 p r) (h:q→p):Adv r0 q r:=⟨h1.ok,h1.li,h1.le,h1.bd,h1.dp,fun hq=>h1.pr (h hq)⟩
theorem Adv.fail {r0 r:Gl05Read} {p:Prop} (h:Adv r0 p r):Adv r0 True ⟨r.list,r.at_,true,r.deep,r.nodes⟩ :=
 ⟨⟨h.ok.ll,h.ok.sg,h.ok.a0,h.ok.a1,h.ok.d0,h.ok.d1,h.ok.nl,h.ok.nk⟩,h.li,h.le,fun _=>rfl,h.dp,fun _=>.inl rfl⟩
def rmu (r:Gl05Read):Nat:=2 * (r.list.length - r.at_.toNat) + (if r.bad=true then 0 else 1)
theorem aKf {r r':Gl05Read} (h0:ROk r) (h:Adv r True r') (hb:r.bad=false):rmu r' < rmu r:=by
 unfold rmu;have h7:=h0.a0;have h1:=h.li;have h2:=h.le;have h3:=h.ok.a1;have h4:=h.ok.a0;rw [h1] at h3 ⊢;rw [hb];simp only [Bool.false_eq_true,if_false];rcases h.pr trivial with h5 | h5
 ·rw [h5];simp only [if_true];omega
 split<;>omega
variable {α:Type} {Q:α→Prop}
theorem E_is {r:Gl05Read} {k:Int} {t:ByteArray} (h:ROk r):Ends (dB r k t) (fun x=>x.2=r∧(x.1=true→r.bad=false∧r.at_ < r.list.length)):=by
 unfold dB;refine Ends.bind (P:=fun v=>v=true→r.bad=false∧r.at_ < r.list.length) ?_ fun v hv=>Ends.one ⟨rfl,hv⟩;refine Ends.ite (fun h1=>Ends.ite (fun h2=>?_) fun _=>Ends.one fun h=>by cases h) fun _=>Ends.one fun h=>by cases h
 simp only [decide_eq_true_eq] at h2;refine Ends.get h.a0 h2 fun e _=>Ends.ite (fun _=>Ends.one fun _=>⟨by simpa using h1,h2⟩) fun _=>Ends.one fun h=>by cases h
theorem C_is {r:Gl05Read} {k:Int} {t:ByteArray} {f:Bool × Gl05Read→Option α} (h:ROk r) (K:∀ b,Ends (f (b,r)) Q):Ends ((dB r k t).bind f) Q :=
 Ends.bind (E_is h) fun ⟨b,r'⟩ ⟨h1,_⟩=>by
  simp only at h1;subst h1;exact K b
theorem dI {r0 r:Gl05Read} {p:Prop} {k:Int} {t:ByteArray} {f:Bool × Gl05Read→Option α} (h:Adv r0 p r) (K1:∀ r',r.bad=false→Adv r0 True r'→Ends (f (true,r')) Q) (K2:∀ r',Adv r0 p r'→Ends (f (false,r')) Q):Ends ((aF r k t).bind f) Q:=by
 unfold aF;refine Ends.bind (P:=fun x=>(x.1=true∧r.bad=false∧Adv r0 True x.2) ∨ (x.1=false∧Adv r0 p x.2)) ?_ ?_
 ·refine Ends.bind (E_is h.ok) ?_;rintro ⟨b,r'⟩ ⟨h1,h2⟩;dsimp only at h1 h2 ⊢;subst h1;refine Ends.ite (fun hb=>Ends.one (.inl ⟨rfl,(h2 hb).1,?_⟩)) fun hb=>Ends.one (.inr ⟨rfl,h⟩);have h3:=(h2 hb).2;have h4:=h.ok.ll;have h5:=h.ok.a0;have h6:=h.le;dsimp only;rw [w64 (by omega) (by omega)]
  exact ⟨⟨h.ok.ll,h.ok.sg,by dsimp only;omega,by dsimp only;omega,h.ok.d0,h.ok.d1,h.ok.nl,h.ok.nk⟩,h.li,by dsimp only;omega,h.bd,h.dp,fun _=>.inr (by dsimp only;omega)⟩
 rintro ⟨b,r'⟩ (⟨h1,h2,h3⟩ | ⟨h1,h2⟩)
 ·dsimp only at h1 h3;subst h1;exact K1 r' h2 h3
 dsimp only at h1 h2;subst h1;exact K2 r' h2
theorem sX {r0 r:Gl05Read} {p:Prop} {t:ByteArray} {f:Gl05Read→Option α} (h:Adv r0 p r) (K:∀ r',Adv r0 True r'→Ends (f r') Q):Ends ((aW r t).bind f) Q:=by
 unfold aW;refine Ends.bind (P:=fun r'=>Adv r0 True r') ?_ K;refine dI h (fun r' _ h1=>?_) fun r' h1=>?_
 ·exact Ends.one h1
 exact Ends.one h1.fail
theorem yP {r0 r:Gl05Read} {p:Prop} {f:ByteArray × Gl05Read→Option α} (h:Adv r0 p r) (K:∀ s r',s.size ≤ 3000→Adv r0 True r'→Ends (f (s,r')) Q):Ends ((bJ r).bind f) Q:=by
 unfold bJ;refine Ends.bind (P:=fun x=>x.1.size ≤ 3000∧Adv r0 True x.2) ?_ fun ⟨s,r'⟩ h=>K s r' h.1 h.2;refine Ends.bind (P:=fun v=>v=false→r.at_ < r.list.length) ?_ fun v hv=>?_
 ·refine Ends.ite (fun _=>Ends.one fun h=>by cases h) fun _=>Ends.ite (fun _=>Ends.one fun h=>by cases h) fun h2=>?_
  have h3:r.at_ < r.list.length:=by simp only [decide_eq_true_eq] at h2;omega
  refine Ends.get h.ok.a0 h3 fun e _=>Ends.ite (fun _=>Ends.one fun h=>by cases h) fun _=>?_
  rw [pN];exact Ends.one fun _=>h3
 refine Ends.ite (fun _=>Ends.one ⟨by dsimp only;decide,h.fail⟩) fun hv2=>?_
 have h3:=hv (by simpa using hv2)
 have h4:=h.ok.ll;have h5:=h.ok.a0;have h6:=h.le;have e1:IntKind.wrap .i64 (r.at_ + 1)=r.at_ + 1:=w64 (by omega) (by omega)
 have e2:IntKind.wrap .i64 (r.at_ + 1 - 1)=r.at_:=by rw [w64 (by omega) (by omega)];omega
 rw [e1,e2];refine Ends.get h5 h3 fun e he=>Ends.one ⟨h.ok.sg e he,?_⟩;exact ⟨⟨h.ok.ll,h.ok.sg,by dsimp only;omega,by dsimp only;omega,h.ok.d0,h.ok.d1,h.ok.nl,h.ok.nk⟩,h.li,by dsimp only;omega,h.bd,h.dp,fun _=>.inr (by dsimp only;omega)⟩
theorem yB {r0 r:Gl05Read} {p:Prop} {x:GNode} {f:Int × Gl05Read→Option α} (h:Adv r0 p r) (hx:NOk x) (K:∀ k r',Adv r0 p r'→Ends (f (k,r')) Q):Ends ((aK r x).bind f) Q:=by
 unfold aK;refine Ends.bind (P:=fun x=>Adv r0 p x.2) ?_ fun ⟨k,r'⟩ h=>K k r' h;refine Ends.bind (P:=fun v=>v=false→r.nodes.length < 300) ?_ fun v hv=>?_
 ·refine Ends.ite (fun _=>Ends.one fun h=>by cases h) fun _=>Ends.one fun h=>?_
  simp only [decide_eq_false_iff_not] at h;omega
 refine Ends.ite (fun _=>Ends.one (h.fail.weak fun _=>trivial)) fun hv2=>?_;have h3:=hv (by simpa using hv2)
 refine Ends.app1 (by omega) (by omega) (Ends.one ⟨⟨h.ok.ll,h.ok.sg,h.ok.a0,h.ok.a1,h.ok.d0,h.ok.d1,?_,fun y hy=>?_⟩,h.li,h.le,h.bd,h.dp,h.pr⟩)
 ·simp only [List.length_append,List.length_cons,List.length_nil];omega
 rcases List.mem_append.1 hy with hy | hy
 ·exact h.ok.nk y hy
 rw [List.mem_singleton.1 hy];exact hx
theorem C_lent {r0 r:Gl05Read} {p:Prop} {f:Int × Gl05Read→Option α} (h:Adv r0 p r) (K:∀ k r',Adv r0 True r'→Ends (f (k,r')) Q):Ends ((eL r).bind f) Q:=by
 unfold eL;refine Ends.bind (P:=fun x=>Adv r0 True x.2) ?_ fun ⟨k,r'⟩ h=>K k r' h;refine dI h (fun r' _ h1=>?_) fun r' h1=>?_
 ·refine yP h1 fun s r2 hs h2=>yB h2 ⟨hs,by simp⟩ fun k r3 h3=>Ends.one h3
 refine yP h1 fun s r2 hs h2=>yB h2 ⟨hs,by simp⟩ fun k r3 h3=>Ends.one h3
def Kl (l:Nat) (r:Gl05Read):Prop:=(l:Int) ≤ r.at_ + (if r.bad=true then 1 else 0)
theorem Kl.le {l:Nat} {r:Gl05Read} (h:Kl l r) (hr:ROk r):l ≤ 3001:=by
 unfold Kl at h;have h1:=hr.a1;have h2:=hr.ll;split at h<;>omega
theorem Kl.zero {r:Gl05Read} (h:ROk r):Kl 0 r:=by
 unfold Kl;have:=h.a0;split<;>omega
theorem Kl.step {l:Nat} {r r':Gl05Read} (h:Kl l r) (hb:r.bad=false) (ha:Adv r True r'):Kl (l + 1) r':=by
 unfold Kl at *;rw [hb] at h;simp only [Bool.false_eq_true,if_false] at h;have h2:=ha.le;rcases ha.pr trivial with h3 | h3
 ·rw [h3];simp only [if_true];omega
 split<;>omega
theorem aC1 {a b:Option α}:(if (true=true) then a else b)=a:=rfl
theorem qC {a b:Option α}:(if (false=true) then a else b)=b:=rfl
theorem aQo {a b:Option α}:(if ((!false)=true) then a else b)=a:=rfl
theorem aLk:∀ f:Nat,∀ r:Gl05Read,ROk r →
  (4 * (13 - r.deep).toNat + 3 ≤ f→Ends ((aA f).1 r) (fun x=>Adv r True x.2)) ∧
  (4 * (13 - r.deep).toNat + 2 ≤ f→Ends ((aA f).2.1 r) (fun x=>Adv r True x.2)) ∧
  (4 * (13 - r.deep).toNat + 1 ≤ f→Ends ((aA f).2.2.1 r) (fun x=>Adv r True x.2)) ∧
  (∀ nm:ByteArray,nm.size ≤ 3000→4 * (13 - r.deep).toNat + 4 ≤ f→Ends ((aA f).2.2.2 r nm) (fun x=>Adv r False x.2)):=by
 intro f;induction f with
 | zero=>exact fun r hr=>⟨fun h=>by omega,fun h=>by omega,fun h=>by omega,fun nm hn h=>by omega⟩
 | succ f ih =>
  intro r hr;refine ⟨fun hf=>?_,fun hf=>?_,fun hf=>?_,fun nm hn hf=>?_⟩
  ·show Ends (cV (aA f).1 (aA f).2.1 (aA f).2.2.1 (aA f).2.2.2 r) _;unfold cV;have S:∀ {p:Prop} {r1:Gl05Read},Adv r p r1→Ends ((aA f).2.1 r1) (fun x=>Adv r True x.2):=fun h=>((ih _ h.ok).2.1 (by rw [h.dp];omega)).mono fun x hx=>h.trans hx
   refine Ends.bind (S (Adv.refl hr)) ?_;rintro ⟨k,r1⟩ h1;dsimp only at h1 ⊢;refine Ends.bind (P:=fun x:Int × Gl05Read=>Adv r True x.2) ?_ ?_
   ·refine dI h1 (fun r2 _ h2=>Ends.one h2) fun r2 h2=>?_;dsimp only;rw [qC];exact dI h2 (fun r3 _ h3=>Ends.one h3) fun r3 h3=>Ends.one h3
   rintro ⟨kd,r2⟩ h2;dsimp only at h2 ⊢;refine Ends.ite (fun _=>?_) fun _=>Ends.one h2;refine Ends.bind (S h2) ?_;rintro ⟨k2,r3⟩ h3;exact yB h3 ⟨by dsimp only;decide,by simp⟩ fun k r4 h4=>Ends.one h4
  ·show Ends (dV (aA f).1 (aA f).2.1 (aA f).2.2.1 (aA f).2.2.2 r) _;unfold dV;have S:∀ {p:Prop} {r0 r1:Gl05Read},r0.deep=r.deep→Adv r0 p r1→Ends ((aA f).2.2.1 r1) (fun x=>Adv r0 True x.2):=fun hd h=>((ih _ h.ok).2.2.1 (by rw [h.dp,hd];omega)).mono fun x hx=>h.trans hx
   refine Ends.bind (S rfl (Adv.refl hr)) ?_;rintro ⟨k,r1⟩ h1;dsimp only at h1 ⊢;refine Ends.bind (P:=fun x:Int × Gl05Read=>Adv r True x.2) ?_ ?_
   ·refine Ends.loop (fun s:Int × Gl05Read=>Adv r True s.2) (fun s=>rmu s.2) _ ?_ h1;rintro ⟨k2,r2⟩ h2;dsimp only at h2;unfold fZ;dsimp only;refine dI (Adv.refl h2.ok) (fun r3 hb h3=>?_) fun r3 h3=>?_
    ·dsimp only;rw [aC1];refine Ends.bind (S h2.dp h3) ?_;rintro ⟨k3,r4⟩ h4;refine yB h4 ⟨by dsimp only;decide,by simp⟩ fun k r5 h5=>Ends.one (.inl ⟨_,rfl,h2.trans h5,aKf h2.ok h5 hb⟩)
    exact Ends.one (.inr ⟨_,rfl,h2.trans' h3⟩)
   rintro ⟨k2,r2⟩ h2;exact Ends.one h2
  ·show Ends (dF (aA f).1 (aA f).2.1 (aA f).2.2.1 (aA f).2.2.2 r) _;unfold dF;refine Ends.bind (P:=fun v=>v=false→r.at_ < r.list.length∧r.deep ≤ 12) ?_ fun v hv=>?_
   ·refine Ends.ite (fun _=>Ends.one fun h=>by cases h) fun _=>Ends.ite (fun _=>Ends.one fun h=>by cases h) fun h2=>Ends.one fun h3=>?_
    simp only [decide_eq_true_eq,decide_eq_false_iff_not] at h2 h3;exact ⟨by omega,by omega⟩
   refine Ends.ite (fun _=>Ends.one (Adv.refl hr).fail) fun hv2=>?_;obtain ⟨h3,h4⟩:=hv (by simpa using hv2)
   have h5:=hr.ll;have h6:=hr.a0;have h7:=hr.d0;have e1:IntKind.wrap .i64 (r.at_ + 1)=r.at_ + 1:=w64 (by omega) (by omega)
   have e2:IntKind.wrap .i64 (r.at_ + 1 - 1)=r.at_:=by rw [w64 (by omega) (by omega)];omega
   have e3:IntKind.wrap .i64 (r.deep + 1)=r.deep + 1:=w64 (by omega) (by omega)
   rw [e1,e2,e3];obtain ⟨r1,hr1⟩:∃ r1:Gl05Read,r1=⟨r.list,r.at_,r.bad,r.deep + 1,r.nodes⟩:=⟨_,rfl⟩;have ok1:ROk r1:=by subst hr1;exact ⟨hr.ll,hr.sg,hr.a0,hr.a1,by dsimp only;omega,by dsimp only;omega,hr.nl,hr.nk⟩
   have b1:=Adv.refl ok1;have dp1:r1.deep=r.deep + 1:=by subst hr1;rfl
   have V:∀ {p:Prop} {r2:Gl05Read},Adv r1 p r2→Ends ((aA f).1 r2) (fun x=>Adv r1 True x.2):=fun h=>((ih _ h.ok).1 (by rw [h.dp,dp1];omega)).mono fun x hx=>h.trans hx
   have T:∀ {p:Prop} {r2:Gl05Read},Adv r1 p r2→Ends ((aA f).2.2.1 r2) (fun x=>Adv r1 True x.2):=fun h=>((ih _ h.ok).2.2.1 (by rw [h.dp,dp1];omega)).mono fun x hx=>h.trans hx
   have A:∀ {p:Prop} {r2:Gl05Read} {nm:ByteArray},nm.size ≤ 3000→Adv r1 p r2→Ends ((aA f).2.2.2 r2 nm) (fun x=>Adv r1 p x.2):=fun hn h=>((ih _ h.ok).2.2.2 _ hn (by rw [h.dp,dp1];omega)).mono fun x hx=>h.trans' hx
   refine Ends.bind (P:=fun x:Int × Gl05Read=>Adv r1 True x.2) ?_ ?_
   ·rw [← hr1];refine Ends.get h6 h3 fun e he=>?_;refine Ends.ite (fun _=>?_) fun _=>?_
    ·refine Ends.get h6 h3 fun e2 he2=>?_;have h8:Adv r1 True ⟨r.list,r.at_ + 1,r.bad,r.deep + 1,r.nodes⟩:=by
      subst hr1;exact ⟨⟨hr.ll,hr.sg,by dsimp only;omega,by dsimp only;omega,by dsimp only;omega,by dsimp only;omega,hr.nl,hr.nk⟩,rfl,by dsimp only;omega,id,rfl,fun _=>.inr (by dsimp only;omega)⟩
     exact yB h8 ⟨by dsimp only;decide,by simp⟩ fun k r4 h4=>Ends.one h4
    refine dI b1 (fun r2 _ h2=>?_) fun r2 h2=>?_
    ·exact yP h2 fun s r3 hs h3=>yB h3 ⟨hs,by simp⟩ fun k r4 h4=>Ends.one h4
    dsimp only;rw [qC];refine dI h2 (fun r3 _ h3=>?_) fun r3 h3=>?_
    ·exact C_lent h3 fun k r4 h4=>Ends.one h4
    dsimp only;rw [qC];refine dI h3 (fun r4 _ h4=>?_) fun r4 h4=>?_
    ·dsimp only;rw [aC1];refine Ends.bind (V h4) ?_;rintro ⟨k,r5⟩ h5;exact sX h5 fun r6 h6=>Ends.one h6
    dsimp only;rw [qC];refine dI h4 (fun r5 _ h5=>?_) fun r5 h5=>?_
    ·exact yP h5 fun s r6 hs h6=>yB h6 ⟨hs,by simp⟩ fun k r7 h7=>Ends.one h7
    dsimp only;rw [qC];refine dI h5 (fun r6 _ h6=>?_) fun r6 h6=>?_
    ·exact yB h6 ⟨by dsimp only;decide,by simp⟩ fun k r7 h7=>Ends.one h7
    dsimp only;rw [qC];refine dI h6 (fun r7 _ h7=>?_) fun r7 h7=>?_
    ·dsimp only;rw [aC1];refine Ends.bind (T h7) ?_;rintro ⟨k,r8⟩ h8;exact yB h8 ⟨by dsimp only;decide,by simp⟩ fun k r9 h9=>Ends.one h9
    dsimp only;rw [qC];refine yP h7 fun s r8 hs h8=>?_;dsimp only;refine dI h8 (fun r9 _ h9=>?_) fun r9 h9=>?_
    ·dsimp only;rw [aC1];refine Ends.bind (A hs h9) ?_;rintro ⟨k,r10⟩ h10;exact Ends.one h10
    exact yB h9 ⟨hs,by simp⟩ fun k r10 h10=>Ends.one h10
   rintro ⟨k,r2⟩ h2;dsimp only at h2 ⊢;have h8:=h2.dp;have e4:IntKind.wrap .i64 (r2.deep - 1)=r.deep:=by rw [h8,dp1,w64 (by omega) (by omega)];omega
   rw [e4];subst hr1;exact Ends.one ⟨⟨h2.ok.ll,h2.ok.sg,h2.ok.a0,h2.ok.a1,by dsimp only;omega,by dsimp only;omega,h2.ok.nl,h2.ok.nk⟩,h2.li,h2.le,h2.bd,rfl,h2.pr⟩
  show Ends (dH (aA f).1 (aA f).2.1 (aA f).2.2.1 (aA f).2.2.2 r nm) _;unfold dH;have V:∀ {p:Prop} {r0 r1:Gl05Read},r0.deep=r.deep→Adv r0 p r1→Ends ((aA f).1 r1) (fun x=>Adv r0 True x.2):=fun hd h=>((ih _ h.ok).1 (by rw [h.dp,hd];omega)).mono fun x hx=>h.trans hx
  refine Ends.bind (P:=fun x:List Int × Gl05Read=>Adv r False x.2∧x.1.length ≤ 4000) ?_ ?_
  ·refine dI (Adv.refl hr) (fun r1 _ h1=>Ends.one ⟨h1.weak fun h=>trivial,by simp⟩) fun r1 h1=>?_
   dsimp only;rw [aQo];refine Ends.loop (fun s:List Int × Gl05Read=>Adv r False s.2∧Kl s.1.length s.2) (fun s=>rmu s.2) _ ?_ ⟨h1,Kl.zero h1.ok⟩;rintro ⟨ks,r2⟩ ⟨h2,h3⟩;dsimp only at h2 h3;have hk:=h3.le h2.ok;unfold fK;dsimp only;refine Ends.ite (fun hb=>?_) fun hb=>Ends.one (.inr ⟨_,rfl,h2,by dsimp only;omega⟩)
   have hb':r2.bad=false:=by simpa using hb
   refine Ends.bind (V h2.dp (Adv.refl h2.ok)) ?_;rintro ⟨k,r3⟩ h4;dsimp only at h4 ⊢;refine Ends.app1 (by omega) (by omega) ?_
   refine dI h4 (fun r4 _ h5=>?_) fun r4 h5=>?_
   ·refine Ends.one (.inr ⟨_,rfl,h2.trans' (h5.weak fun _=>trivial),?_⟩);simp only [List.length_append,List.length_cons,List.length_nil];omega
   dsimp only;rw [qC];refine sX h5 fun r5 h6=>Ends.one (.inl ⟨_,rfl,⟨h2.trans' (h6.weak fun _=>trivial),?_⟩,aKf h2.ok h6 hb'⟩);simp only [List.length_append,List.length_cons,List.length_nil];exact h3.step hb' h6
  rintro ⟨ks,r1⟩ ⟨h1,h2⟩;exact yB h1 ⟨hn,h2⟩ fun k r2 h3=>Ends.one h3
end Go.OM
namespace Go.OM
variable {α:Type} {Q:α→Prop}
theorem aH1 {r0 r:Gl05Read} {p:Prop} (h:Adv r0 p r):Ends (dU r) (fun x=>Adv r0 True x.2):=by
 have h0:=h.ok.d0;exact ((aLk 1048576 r h.ok).1 (by omega)).mono fun x hx=>h.trans hx
theorem aEd {r0 r:Gl05Read} {p:Prop} {kd:Int} {nm:ByteArray} {f:Int × Gl05Read→Option α} (h:Adv r0 p r) (hn:nm.size ≤ 3000) (K:∀ k r',Adv r0 True r'→Ends (f (k,r')) Q):Ends ((cB r kd nm).bind f) Q:=by
 unfold cB;refine Ends.bind (P:=fun x=>Adv r0 True x.2) ?_ fun ⟨k,r'⟩ h=>K k r' h;refine Ends.bind (aH1 h) ?_;rintro ⟨k,r1⟩ h1;exact sX h1 fun r2 h2=>yB h2 ⟨hn,by simp⟩ fun k r3 h3=>Ends.one h3
theorem aLm:∀ f:Nat,∀ r:Gl05Read,ROk r →
  (((r.bad=true∧1 ≤ f) ∨ (r.deep ≤ 12∧3 * (13 - r.deep).toNat + 1 ≤ f))→Ends ((aD f).1 r) (fun x=>Adv r False x.2∧x.1.length ≤ 4000)) ∧
  (r.deep ≤ 12→3 * (13 - r.deep).toNat ≤ f→Ends ((aD f).2.1 r) (fun x=>Adv r True x.2)) ∧
  (r.deep ≤ 12→3 * (13 - r.deep).toNat ≤ f + 1→Ends ((aD f).2.2 r) (fun x=>Adv r True x.2)):=by
 intro f;induction f with
 | zero=>exact fun r hr=>⟨fun h=>by omega,fun hd h=>by omega,fun hd h=>by omega⟩
 | succ f ih =>
  intro r hr;refine ⟨fun hf=>?_,fun hd hf=>?_,fun hd hf=>?_⟩
  ·show Ends (cW (aD f).1 (aD f).2.1 (aD f).2.2 r) _;unfold cW;refine Ends.bind (P:=fun x:List Int × Gl05Read=>Adv r False x.2∧x.1.length ≤ 4000) ?_ ?_
   ·refine Ends.loop (fun s:List Int × Gl05Read=>Adv r False s.2∧Kl s.1.length s.2) (fun s=>rmu s.2) _ ?_ ⟨Adv.refl hr,Kl.zero hr⟩;rintro ⟨ks,r2⟩ ⟨h2,h3⟩;dsimp only at h2 h3;have hk:=h3.le h2.ok;unfold eU;dsimp only;refine Ends.bind (P:=fun x:Bool × Gl05Read=>x.2=r2∧(x.1=true→r2.bad=false)) ?_ ?_
    ·refine Ends.ite (fun hb=>?_) fun hb=>Ends.one ⟨rfl,fun h=>by cases h⟩
     have hb':r2.bad=false:=by simpa using hb
     refine C_is h2.ok fun b=>?_;dsimp only;refine Ends.ite (fun _=>?_) fun _=>Ends.one ⟨rfl,fun h=>by cases h⟩
     exact C_is h2.ok fun b2=>Ends.one ⟨rfl,fun _=>hb'⟩
    rintro ⟨b,r3⟩ ⟨h4,h5⟩;dsimp only at h4 h5 ⊢;subst h4;refine Ends.ite (fun hb=>?_) fun hb=>Ends.one (.inr ⟨_,rfl,h2,by dsimp only;omega⟩)
    have hb':=h5 hb;have hfl:r.deep ≤ 12∧3 * (13 - r.deep).toNat + 1 ≤ f + 1:=by
     rcases hf with ⟨h6,_⟩ | h6
     ·rw [h2.bd h6] at hb';cases hb'
     exact h6
    refine Ends.bind ((ih r3 h2.ok).2.1 (by rw [h2.dp];exact hfl.1) (by rw [h2.dp];omega)) ?_
    rintro ⟨k,r4⟩ h6;dsimp only at h6 ⊢;refine Ends.app1 (by omega) (by omega) (Ends.one (.inl ⟨_,rfl,⟨h2.trans' (h6.weak fun _=>trivial),?_⟩,aKf h2.ok h6 hb'⟩))
    simp only [List.length_append,List.length_cons,List.length_nil];exact h3.step hb' h6
   rintro ⟨ks,r1⟩ h;exact Ends.one h
  ·show Ends (dG (aD f).1 (aD f).2.1 (aD f).2.2 r) _;unfold dG;have B:∀ {p:Prop} {r1:Gl05Read},Adv r p r1→Ends ((aD f).2.2 r1) (fun x=>Adv r True x.2):=fun h=>((ih _ h.ok).2.2 (by rw [h.dp];exact hd) (by rw [h.dp];exact hf)).mono fun x hx=>h.trans hx
   refine dI (Adv.refl hr) (fun r1 _ h1=>?_) fun r1 h1=>?_
   ·exact yP h1 fun s r2 hs h2=>sX h2 fun r3 h3=>aEd h3 hs fun k r4 h4=>Ends.one h4
   dsimp only;rw [qC];refine dI h1 (fun r2 _ h2=>?_) fun r2 h2=>?_
   ·exact yP h2 fun s r2 hs h2=>sX h2 fun r3 h3=>aEd h3 hs fun k r4 h4=>Ends.one h4
   dsimp only;rw [qC];refine dI h2 (fun r3 _ h3=>?_) fun r3 h3=>?_
   ·dsimp only;rw [aC1];refine Ends.bind (aH1 h3) ?_;rintro ⟨k,r4⟩ h4;refine Ends.bind (B h4) ?_;rintro ⟨k2,r5⟩ h5;dsimp only at h5 ⊢;refine Ends.bind (P:=fun x=>Adv r True x) ?_ fun r6 h6=>?_
    ·exact dI h5 (fun r6 _ h6=>Ends.one h6) fun r6 h6=>Ends.one h6.fail
    refine Ends.bind (B h6) ?_;rintro ⟨k3,r7⟩ h7;exact yB h7 ⟨by dsimp only;decide,by simp⟩ fun k r8 h8=>Ends.one h8
   dsimp only;rw [qC];refine dI h3 (fun r4 _ h4=>?_) fun r4 h4=>?_
   ·dsimp only;rw [aC1];refine Ends.bind (aH1 h4) ?_;rintro ⟨k,r5⟩ h5;refine Ends.bind (B h5) ?_;rintro ⟨k2,r6⟩ h6;exact yB h6 ⟨by dsimp only;decide,by simp⟩ fun k r8 h8=>Ends.one h8
   dsimp only;rw [qC];refine dI h4 (fun r5 _ h5=>?_) fun r5 h5=>?_
   ·exact aEd h5 (by decide) fun k r6 h6=>Ends.one h6
   dsimp only;rw [qC];refine dI h5 (fun r6 _ h6=>?_) fun r6 h6=>?_
   ·exact aEd h6 (by decide) fun k r6 h6=>Ends.one h6
   dsimp only;rw [qC];exact yP h6 fun s r2 hs h2=>sX h2 fun r3 h3=>aEd h3 hs fun k r4 h4=>Ends.one h4
  show Ends (cX (aD f).1 (aD f).2.1 (aD f).2.2 r) _;unfold cX;have h7:=hr.d0;have e3:IntKind.wrap .i64 (r.deep + 1)=r.deep + 1:=w64 (by omega) (by omega)
  rw [e3];obtain ⟨r1,hr1⟩:∃ r1:Gl05Read,r1=⟨r.list,r.at_,r.bad,r.deep + 1,r.nodes⟩:=⟨_,rfl⟩;have ok1:ROk r1:=by subst hr1;exact ⟨hr.ll,hr.sg,hr.a0,hr.a1,by dsimp only;omega,by dsimp only;omega,hr.nl,hr.nk⟩
  have b1:=Adv.refl ok1;have dp1:r1.deep=r.deep + 1:=by subst hr1;rfl
  have f1:Adv r1 True ⟨r.list,r.at_,true,r.deep + 1,r.nodes⟩:=by
   have:=b1.fail;subst hr1;exact this
  refine Ends.bind (P:=fun x=>Adv r1 False x∧(12 < r.deep + 1→x.bad=true)) ?_ fun r2 ⟨h2,h2b⟩=>?_
  ·refine Ends.ite (fun h=>Ends.one ⟨f1.weak fun _=>trivial,fun _=>rfl⟩) fun h=>Ends.one ⟨by rw [← hr1];exact b1,fun h3=>?_⟩
   simp only [decide_eq_true_eq] at h;omega
  refine Ends.bind (P:=fun r3=>Adv r2 True r3) ?_ fun r3 h3=>?_
  ·unfold aW;exact dI (Adv.refl h2.ok) (fun r' _ h1=>Ends.one h1) fun r' h1=>Ends.one h1.fail
  refine Ends.bind ((ih r3 h3.ok).1 ?_) ?_
  ·by_cases hdd:r.deep + 1 ≤ 12
   ·right;rw [h3.dp,h2.dp,dp1];exact ⟨hdd,by omega⟩
   left;exact ⟨h3.bd (h2b (by omega)),by omega⟩
  rintro ⟨ks,r4⟩ ⟨h4,h5⟩;dsimp only at h4 h5 ⊢;have h6:Adv r1 True r4:=(h2.trans h3).trans' h4;refine sX h6 fun r5 h8=>?_;have e4:IntKind.wrap .i64 (r5.deep - 1)=r.deep:=by rw [h8.dp,dp1,w64 (by omega) (by omega)];omega
  rw [e4];have h9:Adv r True ⟨r5.list,r5.at_,r5.bad,r.deep,r5.nodes⟩:=by
   subst hr1;exact ⟨⟨h8.ok.ll,h8.ok.sg,h8.ok.a0,h8.ok.a1,by dsimp only;omega,by dsimp only;omega,h8.ok.nl,h8.ok.nk⟩,h8.li,h8.le,h8.bd,rfl,h8.pr⟩
  exact yB h9 ⟨by dsimp only;decide,h5⟩ fun k r6 h10=>Ends.one h10
end Go.OM
