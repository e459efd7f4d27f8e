import Derived.Test.YtgcgpnhokjhghaaGreatDoorTA
import Derived.KernelRfl
import Derived.Lib.ItoaNum
set_option linter.unusedVariables false
set_option linter.unusedSimpArgs false
set_option linter.unusedVariables false
set_option linter.unusedSimpArgs false
namespace Go.OM
theorem w64 {n:Int} (h1 : -9223372036854775808 ≤ n) (h2:n ≤ 9223372036854775807):IntKind.wrap .i64 n=n:=wrap64 h1 h2
theorem aAy {k n:Nat} (hk:k < n) (hn:n ≤ maxLen):IntKind.wrap .i64 ((k:Int) + 1)=((k + 1:Nat):Int):=by
 have hn':n ≤ 9223372036854775807:=hn
 rw [w64 (by omega) (by omega)];omega
@[simp] theorem uZ {α:Type} (l:List α) (k:Nat):bD l (k:Int)=l[k]?:=by simp [bD]
theorem bK {α:Type} {l:List α} {k:Nat} (hk:k < l.length):bD l (k:Int)=some l[k]:=by simp [hk]
theorem aBg (x y : ByteArray) : sEq x y = decide (x = y) := by
  unfold sEq
  have hxy : x.toList = y.toList ↔ x = y := by
    constructor
    · intro h
      have hx : ∀ z : ByteArray, z.toList = z.data.toList := by
        intro z
        have loop : ∀ (n i : Nat) (r : List UInt8), z.size - i = n → ByteArray.toList.loop z i r = r.reverse ++ z.data.toList.drop i := by
          intro n
          induction n with
          | zero =>
            intro i r hn
            unfold ByteArray.toList.loop
            rw [if_neg (by omega), List.drop_eq_nil_of_le (by have : z.data.toList.length = z.size := Array.length_toList
                                                              omega)]
            simp
          | succ n ih =>
            intro i r hn
            unfold ByteArray.toList.loop
            rw [if_pos (by omega), ih (i + 1) _ (by omega)]
            have hlt : i < z.data.toList.length := by have : z.data.toList.length = z.size := Array.length_toList
                                                      omega
            rw [List.drop_eq_getElem_cons hlt]
            have hz : i < z.size := by omega
            simp [ByteArray.get!, Array.getElem!_eq_getD, Array.getD, hz]
        unfold ByteArray.toList
        rw [loop _ 0 [] rfl]; simp
      rw [hx, hx] at h
      cases x; cases y
      simp only [ByteArray.mk.injEq]
      exact Array.toList_inj.1 h
    intro h; rw [h]
  by_cases h : x = y
  · simp [h]
  have : ¬ (x.toList = y.toList) := fun e => h (hxy.1 e)
  simp [h, this]
theorem aL {k n:Nat} (h:k < n):decide ((k:Int) < (n:Int))=true:=by simpa using h
theorem aEb {α:Type} (b:Int) (n:Nat) (z:α) (h1:b * n ≤ 140737488355328) (h2:(n:Int) ≤ 140737488355328):mkI b (n:Int) z=some (List.replicate n z):=by
 unfold mkI
 rw [if_pos ⟨by omega,h1,h2⟩]
 simp
theorem eS {α β:Type} (x:α) (f:α→β):bO x f=f x:=rfl
end Go.OM
namespace Go.OM
theorem kT {α ρ:Type} {f:α→Option (α ⊕ ρ)} {a:α} {r:ρ} (h:f a=some (.inr r)):aJ f a=some r:=by rw [xO,h];rfl
theorem rO {α ρ:Type} {f:α→Option (α ⊕ ρ)} {a b:α} (h:f a=some (.inl b)):aJ f a=aJ f b:=by rw [xO,h];rfl
theorem wA {α ρ:Type} (l:List α) (q:α→Option ρ) (f:Int→Option (Int ⊕ (Unit ⊕ ρ)))
  (hf:∀ (k:Nat) (h:k < l.length),f k=some (match q l[k] with | none=>.inl ((k + 1:Nat):Int) | some r=>.inr (.inr r)))
  (he:f l.length=some (.inr (.inl ()))):aJ f 0=some (match l.findSome? q with | some r=>.inr r | none=>.inl ()):=by
 have key:∀ (n k:Nat),n=l.length - k→k ≤ l.length→aJ f k=some (match (l.drop k).findSome? q with | some r=>.inr r | none=>.inl ()):=by
  intro n
  induction n with
  | zero =>
   intro k hn hk
   have:k=l.length:=by omega
   subst this
   rw [kT he,List.drop_length];rfl
  | succ n ih =>
   intro k hn hk
   have hlt:k < l.length:=by omega
   rw [List.drop_eq_getElem_cons hlt,List.findSome?_cons]
   cases hq:q l[k] with
   | none =>
    have h1:=hf k hlt
    rw [hq] at h1
    rw [rO h1]
    exact ih (k + 1) (by omega) (by omega)
   | some r =>
    have h1:=hf k hlt
    rw [hq] at h1
    rw [kT h1]
 have:=key l.length 0 (by omega) (by omega)
 simpa using this
theorem aKh {α:Type} (l:List α) (p:α→Bool) (b:Bool):l.findSome? (fun x=>if p x=true then none else some b)=if l.all p=true then none else some b:=by
 induction l with
 | nil=>rfl
 | cons x l ih =>
  rw [List.findSome?_cons,List.all_cons]
  cases hp:p x<;>simp [ih]
theorem aKg {α:Type} (l:List α) (p:α→Bool) (b:Bool):l.findSome? (fun x=>if p x=true then some b else none)=if l.any p=true then some b else none:=by
 induction l with
 | nil=>rfl
 | cons x l ih =>
  rw [List.findSome?_cons,List.any_cons]
  cases hp:p x<;>simp [ih]
theorem rP {α:Type} (l:List α) (p:α→Bool) (f:Int→Option (Int ⊕ (Unit ⊕ Bool)))
  (hf:∀ (k:Nat) (h:k < l.length),f k=some (if p l[k]=true then .inl ((k + 1:Nat):Int) else .inr (.inr false)))
  (he:f l.length=some (.inr (.inl ()))):aJ f 0=some (if l.all p=true then .inl () else .inr false):=by
 rw [wA l (fun x=>if p x=true then none else some false) f (fun k h=>by rw [hf k h];cases p l[k]<;>rfl) he,aKh]
 cases l.all p<;>rfl
theorem aD8 {α:Type} (l:List α) (p:α→Bool) (f:Int→Option (Int ⊕ (Unit ⊕ Bool)))
  (hf:∀ (k:Nat) (h:k < l.length),f k=some (if p l[k]=true then .inr (.inr true) else .inl ((k + 1:Nat):Int)))
  (he:f l.length=some (.inr (.inl ()))):aJ f 0=some (if l.any p=true then .inr true else .inl ()):=by
 rw [wA l (fun x=>if p x=true then some true else none) f (fun k h=>by rw [hf k h];cases p l[k]<;>rfl) he,aKg]
 cases l.any p<;>rfl
def aEl {α σ ρ:Type} (g:σ→α→σ ⊕ ρ) (fin:σ→ρ):List α→σ→ρ
 | [],s=>fin s
 | x :: l,s=>match g s x with
  | .inl s'=>aEl g fin l s'
  | .inr r=>r
theorem nP {α σ τ ρ:Type} (l:List α) (mk:σ→Nat→τ) (I:Nat→σ→Prop) (g:σ→α→σ ⊕ ρ) (fin:σ→ρ) (f:τ→Option (τ ⊕ ρ))
  (hf:∀ (s:σ) (k:Nat) (h:k < l.length),I k s→(∃ s',g s l[k] = .inl s'∧f (mk s k)=some (.inl (mk s' (k + 1)))∧I (k + 1) s') ∨ ∃ r,g s l[k] = .inr r∧f (mk s k)=some (.inr r))
  (he:∀ s,I l.length s→f (mk s l.length)=some (.inr (fin s))) (s:σ) (h0:I 0 s):aJ f (mk s 0)=some (aEl g fin l s):=by
 have key:∀ (n k:Nat) (s:σ),n=l.length - k→k ≤ l.length→I k s→aJ f (mk s k)=some (aEl g fin (l.drop k) s):=by
  intro n
  induction n with
  | zero =>
   intro k s hn hk hI
   have:k=l.length:=by omega
   subst this
   rw [kT (he s hI),List.drop_length];rfl
  | succ n ih =>
   intro k s hn hk hI
   have hlt:k < l.length:=by omega
   rw [List.drop_eq_getElem_cons hlt]
   rcases hf s k hlt hI with ⟨s',h1,h2,h3⟩ | ⟨r,h1,h2⟩
   ·rw [rO h2,ih (k + 1) s' (by omega) (by omega) h3]
    simp only [aEl,h1]
   rw [kT h2]
   simp only [aEl,h1]
 have:=key l.length 0 s (by omega) (by omega) h0
 simpa using this
end Go.OM
set_option maxHeartbeats 1000000
namespace Go.OM
def GNode.le (n:Nat) (a:GNode):Prop:=(a.Name.size ≤ n)∧(a.Kids.length ≤ n)
def GParam.le (n:Nat) (a:GParam):Prop:=(a.Name.size ≤ n)
def GFn.le (n:Nat) (a:GFn):Prop:=(a.Name.size ≤ n)∧(a.Params.length ≤ n∧∀ x ∈ a.Params,GParam.le n x)
def GProgram.le (n:Nat) (a:GProgram):Prop:=(a.Nodes.length ≤ n∧∀ x ∈ a.Nodes,GNode.le n x)∧(a.Fns.length ≤ n∧∀ x ∈ a.Fns,GFn.le n x)
def GMeasure.le (n:Nat) (a:GMeasure):Prop:=True
def Gl01Cur.le (n:Nat) (a:Gl01Cur):Prop:=(a.b.length ≤ n)
def GSign.le (n:Nat) (a:GSign):Prop:=(a.Text.size ≤ n)
def Gl05Read.le (n:Nat) (a:Gl05Read):Prop:=(a.list.length ≤ n∧∀ x ∈ a.list,GSign.le n x)∧(a.nodes.length ≤ n∧∀ x ∈ a.nodes,GNode.le n x)
def Gl05Made.le (n:Nat) (a:Gl05Made):Prop:=(a.ints.length ≤ n∧∀ x ∈ a.ints,x.size ≤ n)∧(a.boxes.length ≤ n∧∀ x ∈ a.boxes,x.size ≤ n)∧(a.text.size ≤ n)
end Go.OM
namespace Go.OM
theorem aKd {α:Type} {c:Prop} [Decidable c] (a b:α):(if c then some a else some b)=some (if c then a else b):=by split<;>rfl
def inB (x a b:Int):Bool:=decide (a ≤ x) && decide (x ≤ b)
theorem inB_iff {x a b:Int}:inB x a b=true ↔ a ≤ x∧x ≤ b:=by simp [inB]
theorem inB_false {x a b:Int}:inB x a b=false ↔ ¬ (a ≤ x∧x ≤ b):=by rw [← inB_iff];simp
theorem gC (x a b:Int):fQ x a b=some (inB x a b):=by
 unfold fQ inB
 by_cases h:a ≤ x<;>simp [h]
theorem gX (x a b:Int):bV x a b=some (inB x a b):=by
 unfold bV inB
 by_cases h:a ≤ x<;>simp [h]
def bI (z:ByteArray):List Int:=z.data.toList.map fun x=>((x.toNat:Nat):Int)
theorem qD (z:ByteArray):(bI z).length=z.size:=by rw [bI,List.length_map];exact Array.length_toList
theorem aI7 {z:ByteArray} {k:Nat} (h:k < (bI z).length):sAt z k=some (bI z)[k]:=by
 have h1:k < z.size:=by rw [← qD];exact h
 unfold sAt
 rw [if_pos ⟨by omega,by omega⟩]
 simp only [oC,Int.toNat_natCast,bI]
 have e:z.data.toList.length=z.size:=Array.length_toList
 have h2:k < z.data.toList.length:=by omega
 rw [List.getD_eq_getElem?_getD,List.getElem?_eq_getElem h2]
 simp only [Option.getD_some,List.getElem_map]
def kE (b:Int):Bool:=inB b 97 122
def kX (b:Int):Bool:=inB b 48 57
theorem qV (b:Int):jM b=some (kE b):=by
 unfold jM kE inB
 by_cases h:97 ≤ b<;>simp [h]
theorem xG (b:Int):kU b=some (kX b):=by
 unfold kU kX inB
 by_cases h:48 ≤ b<;>simp [h]
theorem jE (b:Int):cZ b=some (kE b):=by
 unfold cZ kE inB
 by_cases h:97 ≤ b<;>simp [h]
theorem jF (b:Int):dM b=some (kX b):=by
 unfold dM kX inB
 by_cases h:48 ≤ b<;>simp [h]
def keys:List ByteArray:=[⟨#[102,110]⟩,⟨#[108,101,116]⟩,⟨#[105,102]⟩,⟨#[101,108,115,101]⟩,⟨#[119,104,105,108,101]⟩,⟨#[112,114,105,110,116]⟩,⟨#[100,111]⟩,⟨#[110,101,119]⟩,⟨#[99,108,111,110,101]⟩,⟨#[109,117,116]⟩,⟨#[105,110,112,117,116]⟩,⟨#[105,110,116]⟩,⟨#[98,111,120]⟩,⟨#[114,101,116]⟩]
def aLu (s:ByteArray):Bool:=keys.any fun w=>sEq w s
theorem aH7:strings_Split (⟨#[102,110,32,108,101,116,32,105,102,32,101,108,115,101,32,119,104,105,108,101,32,112,114,105,110,116,32,100,111,32,110,101,119,32,99,108,111,110,101,32,109,117,116,32,105,110,112,117,116,32,105,110,116,32,98,111,120,32,114,101,116]⟩:ByteArray) (⟨#[32]⟩:ByteArray)=some keys:=by kernel_rfl
theorem aG4 (l:List ByteArray) (s:ByteArray) (hl:l.length ≤ 1048576) (f:Int→Option (Int ⊕ (Unit ⊕ Bool)))
  (hf:∀ i,f i=if (decide (i < (l.length:Int)))=true then (bD l i).bind fun e=>if (sEq e s)=true then some (Sum.inr (Sum.inr true)) else some (Sum.inl (IntKind.wrap .i64 (i + 1))) else some (Sum.inr (Sum.inl ()))) :
  aJ f 0=some (if (l.any fun w=>sEq w s)=true then .inr true else .inl ()):=by
 refine aD8 l (fun w=>sEq w s) f (fun k hk=>?_) (by rw [hf];simp)
 rw [hf]
 simp only [aL hk,if_true,bK hk,Option.bind_some,aAy hk (show l.length ≤ maxLen by show _ ≤ 9223372036854775807;omega),aKd]
theorem yG (s:ByteArray):iX s=some (aLu s):=by
 unfold iX mL
 simp only [Option.bind_some]
 have h:=aG4 keys s (by decide) (fZ s keys) (fun i=>by simp only [fZ])
 unfold keys at h
 rw [h]
 unfold aLu keys
 simp only [Option.bind_some]
 split<;>rename_i h2<;>split at h2<;>simp_all
theorem zC (s:ByteArray):mU s=some (aLu s):=by
 unfold mU sS
 rw [aH7]
 simp only [Option.bind_some]
 rw [aG4 keys s (by decide) (nK s keys) (fun i=>by simp only [nK])]
 unfold aLu
 simp only [Option.bind_some]
 cases keys.any fun w=>sEq w s<;>rfl
def aDr (b:Int):Bool:=kE b || kX b
def sX (s:ByteArray):Bool:=inB s.size 1 8 && (kE ((bI s).getD 0 0) && ((bI s).all aDr && !aLu s))
theorem aD2 (s:ByteArray) (hs:s.size ≤ 8) (f:Int→Option (Int ⊕ (Unit ⊕ Bool)))
  (hf:∀ (k:Nat) (h:k < (bI s).length),f k=some (if aDr (bI s)[k]=true then .inl (IntKind.wrap .i64 ((k:Int) + 1)) else .inr (.inr false)))
  (he:f s.size=some (.inr (.inl ()))):aJ f 0=some (if (bI s).all aDr=true then .inl () else .inr false):=by
 refine rP (bI s) aDr f (fun k hk=>?_) (by rw [qD];exact he)
 rw [hf k hk,aAy hk (show (bI s).length ≤ maxLen by rw [qD];show _ ≤ 9223372036854775807;omega)]
theorem aJb {s:ByteArray} (h:1 ≤ s.size):sAt s 0=some ((bI s).getD 0 0):=by
 have h1:0 < (bI s).length:=by rw [qD];omega
 have:=aI7 h1
 rw [show ((0:Nat):Int)=0 from rfl] at this
 rw [this,List.getD_eq_getElem?_getD,List.getElem?_eq_getElem h1];rfl
theorem oZ (s:ByteArray):kH s=some (sX s):=by
 unfold kH sX
 simp only [gC,Option.bind_some]
 by_cases hi:inB s.size 1 8=true
 ·have hi':=inB_iff.1 hi
  rw [aJb (by omega),aD2 s (by omega) (jY s) (fun k hk=>?_) (by simp [jY])]
  ·simp only [hi,qV,zC,Option.bind_some,Bool.not_true,Bool.false_eq_true,if_false,Bool.true_and]
   cases kE ((bI s).getD 0 0)<;>cases (bI s).all aDr<;>cases aLu s<;>rfl
  have hk2:k < s.size:=by rw [← qD];exact hk
  simp only [jY,aL hk2,if_true,aI7 hk,qV,xG,Option.bind_some]
  rw [show aDr (bI s)[k]=(kE (bI s)[k] || kX (bI s)[k]) from rfl]
  cases kE (bI s)[k]<;>cases kX (bI s)[k]<;>rfl
 simp [Bool.eq_false_iff.2 hi]
theorem mC (s:ByteArray):fP s=some (sX s):=by
 unfold fP sX
 simp only [gX,Option.bind_some]
 by_cases hi:inB s.size 1 8=true
 ·have hi':=inB_iff.1 hi
  rw [aJb (by omega),aD2 s (by omega) (gZ s) (fun k hk=>?_) (by simp [gZ])]
  ·simp only [hi,jE,yG,Option.bind_some,Bool.not_true,Bool.false_eq_true,if_false,Bool.true_and]
   cases kE ((bI s).getD 0 0)<;>cases (bI s).all aDr<;>cases aLu s<;>rfl
  have hk2:k < s.size:=by rw [← qD];exact hk
  simp only [gZ,aL hk2,if_true,aI7 hk,jE,jF,Option.bind_some]
  rw [show aDr (bI s)[k]=(kE (bI s)[k] || kX (bI s)[k]) from rfl]
  cases kE (bI s)[k]<;>cases kX (bI s)[k]<;>rfl
 simp [Bool.eq_false_iff.2 hi]
end Go.OM
namespace Go.OM
def Ends {α:Type} (x:Option α) (P:α→Prop):Prop:=∃ r,x=some r∧P r
theorem Ends.one {α:Type} {r:α} {P:α→Prop} (h:P r):Ends (some r) P:=⟨r,rfl,h⟩
theorem Ends.bind {α β:Type} {x:Option α} {P:α→Prop} {f:α→Option β} {Q:β→Prop} (h:Ends x P) (k:∀ r,P r→Ends (f r) Q):Ends (x.bind f) Q:=by
 obtain ⟨r,rfl,h⟩:=h
 exact k r h
theorem Ends.ite {α:Type} {c:Prop} [Decidable c] {a b:Option α} {Q:α→Prop} (h1:c→Ends a Q) (h2:¬ c→Ends b Q):Ends (if c then a else b) Q:=by
 by_cases h:c
 ·rw [if_pos h];exact h1 h
 rw [if_neg h];exact h2 h
theorem Ends.mono {α:Type} {x:Option α} {P Q:α→Prop} (h:Ends x P) (hk:∀ r,P r→Q r):Ends x Q:=by
 obtain ⟨r,h1,h2⟩:=h
 exact ⟨r,h1,hk r h2⟩
theorem Ends.cat {α:Type} {x y:ByteArray} {f:ByteArray→Option α} {Q:α→Prop} {n m:Nat} (hx:x.size ≤ n) (hy:y.size ≤ m) (h:n + m ≤ 1000000000000) (k:∀ t:ByteArray,t.size ≤ n + m→Ends (f t) Q):Ends ((bC x y).bind f) Q:=by
 unfold bC
 rw [if_pos (by omega)]
 exact k _ (by rw [ByteArray.size_append];omega)
theorem Ends.app {α β:Type} {n:Nat} {a b:List α} {f:List α→Option β} {Q:β→Prop} (ha:a.length ≤ 10000000) (hb:b.length ≤ 10000000) (hn:n ≤ 1000) (k:Ends (f (a ++ b)) Q):Ends ((cE n a b).bind f) Q:=by
 have h2:(a.length + b.length) * n ≤ 20000000 * 1000:=Nat.mul_le_mul (by omega) hn
 unfold cE
 rw [if_pos ⟨by omega,by omega⟩]
 exact k
theorem Ends.get {α β:Type} {l:List α} {i:Int} {f:α→Option β} {Q:β→Prop} (h0:0 ≤ i) (h1:i < l.length) (k:∀ x ∈ l,Ends (f x) Q):Ends ((bD l i).bind f) Q:=by
 obtain ⟨j,rfl⟩:=Int.eq_ofNat_of_zero_le h0
 have hj:j < l.length:=by exact_mod_cast h1
 rw [uZ,List.getElem?_eq_getElem hj]
 exact k _ (List.getElem_mem hj)
theorem Ends.loop {α ρ:Type} {f:α→Option (α ⊕ ρ)} (I:α→Prop) (μ:α→Nat) (R:ρ→Prop) (h:∀ a,I a→Ends (f a) (fun s=>(∃ b,s = .inl b∧I b∧μ b < μ a) ∨ ∃ r,s = .inr r∧R r)) {a:α} (ha:I a):Ends (aJ f a) R:=by
 obtain ⟨r,h1,h2⟩:=dZ I μ R (fun a ha=>by
  obtain ⟨s,h1,h2 | h2⟩:=h a ha
  ·obtain ⟨b,rfl,h3,h4⟩:=h2
   exact .inl ⟨b,h1,h3,h4⟩
  obtain ⟨r,rfl,h3⟩:=h2
  exact .inr ⟨r,h1,h3⟩) a ha
 exact ⟨r,h1,h2⟩
theorem aJd (x:Int):0 ≤ bits .and .i64 x 255∧bits .and .i64 x 255 ≤ 255:=by
 have h1:(BitVec.ofInt 64 x &&& BitVec.ofInt 64 255).toNat ≤ 255:=by
  rw [BitVec.toNat_and]
  exact Nat.le_trans Nat.and_le_right (by decide)
 have h2:bits .and .i64 x 255=IntKind.wrap .i64 ((BitVec.ofInt 64 x &&& BitVec.ofInt 64 255).toNat:Int):=rfl
 rw [h2,w64 (by omega) (by omega)]
 omega
structure Cur (c:Gl01Cur):Prop where
 i0:0 ≤ c.i
 len:c.b.length ≤ 9223372036854775807
theorem aDz {c:Gl01Cur} (hc:Cur c):Ends (fI c) (fun r=>Cur r.2∧0 ≤ r.1∧r.1 ≤ 255):=by
 unfold fI
 refine Ends.ite (fun h=>?_) fun h=>Ends.one ⟨⟨hc.i0,hc.len⟩,aJd _⟩
 simp only [decide_eq_true_eq] at h
 refine Ends.get hc.i0 h fun e _=>Ends.one ⟨⟨?_,hc.len⟩,aJd _⟩
 have h1:=hc.i0
 have h2:=hc.len
 simp only
 rw [w64 (by omega) (by omega)]
 omega
theorem yK {x n:Int} (hx:0 ≤ x) (hn:0 < n):Ends (aCt x n) (fun r=>0 ≤ r∧r < n):=by
 unfold aCt
 rw [if_neg (by omega)]
 exact Ends.one ⟨Int.tmod_nonneg _ hx,Int.tmod_lt_of_pos _ hn⟩
theorem aF0 {c:Gl01Cur} (hc:Cur c) (n:Int):Ends (bN c n) (fun r=>Cur r.2∧0 ≤ r.1∧(0 < n→r.1 < n)):=by
 unfold bN
 refine Ends.ite (fun h=>?_) fun h=>?_
 ·simp only [decide_eq_true_eq] at h
  exact Ends.one ⟨hc,Int.le_refl _,fun h2=>by omega⟩
 simp only [decide_eq_true_eq] at h
 refine Ends.ite (fun h2=>?_) fun h2=>?_
 ·refine Ends.bind (aDz hc) ?_
  rintro ⟨r,q⟩ ⟨h3,h4,h5⟩
  refine Ends.bind (yK h4 (by omega)) fun y hy=>Ends.one ⟨h3,hy.1,fun _=>hy.2⟩
 refine Ends.bind (aDz hc) ?_
 rintro ⟨r1,q1⟩ ⟨h3,h4,h5⟩
 refine Ends.bind (aDz h3) ?_
 rintro ⟨r2,q2⟩ ⟨h6,h7,h8⟩
 refine Ends.bind (aDz h6) ?_
 rintro ⟨r3,q3⟩ ⟨h9,h10,h11⟩
 refine Ends.bind (aDz h9) ?_
 rintro ⟨r4,q4⟩ ⟨h12,h13,h14⟩
 simp only at *
 refine Ends.bind (yK ?_ (by omega)) fun y hy=>Ends.one ⟨h12,hy.1,fun _=>hy.2⟩
 rw [w64 (n:=r1 * 16777216) (by omega) (by omega),w64 (n:=r2 * 65536) (by omega) (by omega),w64 (n:=r3 * 256) (by omega) (by omega),w64 (n:=r1 * 16777216 + r2 * 65536) (by omega) (by omega),w64 (n:=r1 * 16777216 + r2 * 65536 + r3 * 256) (by omega) (by omega),w64 (by omega) (by omega)]
 omega
theorem aLf {c:Gl01Cur} (hc:Cur c) (n:Int):Ends (eF c n) (fun r=>Cur r.2):=by
 unfold eF
 refine Ends.bind (aF0 hc n) ?_
 rintro ⟨r,q⟩ ⟨h,_⟩
 exact Ends.one h
theorem E_Pick {c:Gl01Cur} (hc:Cur c) {l:List ByteArray} (hl:l ≠ []):Ends (iR c l) (fun r=>Cur r.2∧r.1 ∈ l):=by
 unfold iR
 refine Ends.bind (aF0 hc l.length) ?_
 rintro ⟨r,q⟩ ⟨h,h1,h2⟩
 have:0 < l.length:=List.length_pos_iff.2 hl
 exact Ends.get h1 (h2 (by omega)) fun x hx=>Ends.one ⟨h,hx⟩
theorem aKz {code:List Int} (h:code.length ≤ 9223372036854775807):Ends (iS code) Cur:=by
 unfold iS
 refine Ends.bind (P:=fun _=>True) ?_ fun r _=>Ends.one ⟨Int.le_refl _,h⟩
 refine Ends.loop (fun s:Int × Int=>0 ≤ s.2) (fun s=>4000 - s.2.toNat) (fun _=>True) ?_ (Int.le_refl _)
 rintro ⟨x,i⟩ hi
 simp only at hi
 unfold mA
 refine Ends.bind (P:=fun v=>v=true→i < code.length∧i < 4000) ?_ fun v hv=>?_
 ·refine Ends.ite (fun h1=>Ends.one fun h2=>?_) fun h1=>Ends.one fun h2=>(by cases h2)
  simp only [decide_eq_true_eq] at h1 h2
  exact ⟨h1,h2⟩
 refine Ends.ite (fun h1=>?_) fun h1=>Ends.one (.inr ⟨_,rfl,trivial⟩)
 obtain ⟨h2,h3⟩:=hv h1
 refine Ends.get hi h2 fun e _=>Ends.one (.inl ⟨_,rfl,?_,?_⟩)
 ·simp only
  rw [w64 (by omega) (by omega)];omega
 simp only
 rw [w64 (by omega) (by omega)];omega
end Go.OM
namespace Go.OM
theorem kB {n:Nat} (h:n ≤ 1048576):IntKind.wrap .i64 ((n:Int) - 1)=(n:Int) - 1:=w64 (by omega) (by omega)
end Go.OM
namespace Go.OM
theorem nX {α σ ρ:Type} (h:σ→α→σ) (fin:σ→ρ):∀ (l:List α) (s:σ),aEl (fun s x=>(.inl (h s x):σ ⊕ ρ)) fin l s=fin (l.foldl h s)
 | [],s=>rfl
 | x :: l,s=>by simp only [aEl,List.foldl_cons];exact nX h fin l _
theorem app1 {n:Nat} {s:List Int} {e:Int} (h:s.length ≤ 1048576) (hn:n ≤ 64):cE n s [e]=some (s ++ [e]):=by
 unfold cE
 have h1:(s.length + [e].length) * n ≤ (s.length + [e].length) * 64:=Nat.mul_le_mul_left _ hn
 rw [if_pos ⟨by simp only [List.length_cons,List.length_nil] at h1 ⊢;omega,by simp only [List.length_cons,List.length_nil];omega⟩]
def xV (out:List Int) (n:Int):List Int:=if out.contains n=true then out else out ++ [n]
theorem mem_addL {out:List Int} {n m:Int}:m ∈ xV out n ↔ m ∈ out ∨ m=n:=by
 unfold xV
 by_cases h:out.contains n=true
 ·rw [if_pos h]
  have:=List.contains_iff_mem.1 h
  constructor
  ·exact .inl
  rintro (h | rfl)
  ·exact h
  exact this
 rw [if_neg h];simp
theorem hE (m:Int):∀ (l s:List Int),m ∈ l.foldl xV s ↔ m ∈ s ∨ m ∈ l
 | [],s=>by simp
 | x :: l,s=>by rw [List.foldl_cons,hE m l,mem_addL,List.mem_cons,or_assoc]
end Go.OM
namespace Go.OM
inductive Reach (next:Nat→List Int) (root:Nat):Nat→Prop
 | base:Reach next root root
 | step {i:Nat} {m:Int}:Reach next root i→m ∈ next i→Reach next root m.toNat
theorem Reach.congr {next next':Nat→List Int} {root:Nat} (h:∀ i m,m ∈ next i ↔ m ∈ next' i) {n:Nat}:Reach next root n ↔ Reach next' root n:=by
 constructor
 ·intro r
  induction r with
  | base=>exact .base
  | step _ hm ih=>exact .step ih ((h _ _).1 hm)
 intro r
 induction r with
 | base=>exact .base
 | step _ hm ih=>exact .step ih ((h _ _).2 hm)
def vis (s:List Bool × List Int) (m:Int):List Bool × List Int:=if s.1[m.toNat]? = some true then s else (s.1.set m.toNat true,s.2 ++ [m])
structure WInv (W root:Nat) (next:Nat→List Int) (s:List Bool × List Int):Prop where
 len:s.1.length=W
 cnt:s.2.length ≤ s.1.count true
 bnd:∀ x ∈ s.2,0 ≤ x∧x < W
 rt:s.1[root]? = some true
 sound:∀ n:Nat,s.1[n]? = some true→Reach next root n
 closed:∀ n:Nat,s.1[n]? = some true→(n:Int) ∈ s.2 ∨ ∀ m ∈ next n,s.1[m.toNat]? = some true
 tdo:∀ x ∈ s.2,s.1[x.toNat]? = some true
open Classical in
noncomputable def aL2 (W root:Nat) (next:Nat→List Int):List Bool:=(List.range W).map fun n=>decide (Reach next root n)
theorem WInv.done {W root:Nat} {next:Nat→List Int} {s:List Bool × List Int} (H:WInv W root next s) (hn:∀ (i:Nat),i < W→∀ m ∈ next i,0 ≤ m∧m < W) (h:s.2=[]):s.1=aL2 W root next:=by
 have hcl:∀ n:Nat,Reach next root n→s.1[n]? = some true:=by
  intro n r
  induction r with
  | base=>exact H.rt
  | step _ hm ih =>
   rcases H.closed _ ih with h5 | h5
   ·rw [h] at h5;cases h5
   exact h5 _ hm
 apply List.ext_getElem?
 intro n
 unfold aL2
 by_cases hlt:n < W
 ·have hlt2:n < s.1.length:=by rw [H.len];exact hlt
  rw [List.getElem?_eq_getElem hlt2,List.getElem?_map,List.getElem?_range hlt]
  simp only [Option.map_some,Option.some.injEq]
  by_cases r:Reach next root n
  ·have:=hcl n r
   rw [List.getElem?_eq_getElem hlt2] at this
   simp only [Option.some.injEq] at this
   simp [this,r]
  have:s.1[n] ≠ true:=fun e=>r (H.sound n (by rw [List.getElem?_eq_getElem hlt2,e]))
  simp [r,this]
 rw [List.getElem?_eq_none (by rw [H.len];omega),List.getElem?_eq_none (by simp;omega)]
end Go.OM
namespace Go.OM
abbrev Tab:=List (List Bool)
structure TabOk (W L:Nat) (t:Tab):Prop where
 len:t.length=W
 row:∀ r ∈ t,r.length=L
theorem TabOk.set {W L:Nat} {t:Tab} (h:TabOk W L t) (n:Nat) {r:List Bool} (hr:r.length=L):TabOk W L (t.set n r) :=
 ⟨by simpa using h.len,fun x hx=>by
  rcases List.mem_or_eq_of_mem_set hx with h1 | h1
  ·exact h.row x h1
  rw [h1];exact hr⟩
theorem cY {k n:Nat} (hk:k < n) (hn:n ≤ 1048576):IntKind.wrap .i64 ((k:Int) + 1)=((k + 1:Nat):Int):=aAy hk (show n ≤ maxLen by show _ ≤ 9223372036854775807;omega)
theorem app1g {α:Type} {n:Nat} {s:List α} {e:α} (h:s.length ≤ 1048576) (hn:n ≤ 64):cE n s [e]=some (s ++ [e]):=by
 unfold cE
 have h1:(s.length + [e].length) * n ≤ (s.length + [e].length) * 64:=Nat.mul_le_mul_left _ hn
 rw [if_pos ⟨by simp only [List.length_cons,List.length_nil] at h1 ⊢;omega,by simp only [List.length_cons,List.length_nil];omega⟩]
def cntR (r:List Bool):Nat:=r.count true
def cntT (t:Tab):Nat:=(t.map cntR).sum
end Go.OM
namespace Go.OM
theorem kW {α:Type} {l:List α} {v:Int} (h0:0 ≤ v) (h:v < l.length):bD l v=some (l[v.toNat]'(by omega)):=by
 have:v=((v.toNat:Nat):Int):=by omega
 conv=>lhs;rw [this]
 exact bK (by omega)
theorem aMc {α:Type} {n:Nat} {l:List α} (h:l.length ≤ 1048576) (hn:n ≤ 64):cE n [] l=some l:=by
 unfold cE
 have h1:(([]:List α).length + l.length) * n ≤ (([]:List α).length + l.length) * 64:=Nat.mul_le_mul_left _ hn
 rw [if_pos ⟨by simp only [List.length_nil] at h1 ⊢;omega,by simp only [List.length_nil];omega⟩]
 simp
end Go.OM
namespace Go.OM
structure Dn (W L:Nat) (s s':Tab × Bool):Prop where
 ok:TabOk W L s'.1
 le:cntT s'.1 ≤ cntT s.1
 lt:s'.2=true→s.2=true ∨ cntT s'.1 < cntT s.1
 keep:s.2=true→s'.2=true
theorem Dn.refl {W L:Nat} {s:Tab × Bool} (h:TabOk W L s.1):Dn W L s s:=⟨h,Nat.le_refl _,.inl,id⟩
theorem Dn.trans {W L:Nat} {s s' s2:Tab × Bool} (h:Dn W L s s') (h2:Dn W L s' s2):Dn W L s s2 :=
 ⟨h2.ok,Nat.le_trans h2.le h.le,fun e=>by
  rcases h2.lt e with e | e
  ·rcases h.lt e with e | e
   ·exact .inl e
   exact .inr (Nat.lt_of_le_of_lt h2.le e)
  exact .inr (Nat.lt_of_lt_of_le e h.le),fun e=>h2.keep (h.keep e)⟩
end Go.OM
namespace Go.OM
theorem zD (l:List Int) (n:Int) (hl:l.length ≤ 1048576):kF l n=some (l.contains n):=by
 unfold kF
 rw [aD8 l (fun e=>e == n) (jU l n) (fun k hk=>by
  simp only [jU,aL hk,if_true,bK hk,Option.bind_some,cY hk hl]
  cases l[k] == n<;>rfl) (by simp [jU])]
 have:(l.any fun e=>e == n)=l.contains n:=by
  induction l with
  | nil=>rfl
  | cons x l ih =>
   rw [List.any_cons,List.contains_cons,ih (by simp at hl;omega)]
   congr 1
   rw [Bool.eq_iff_iff,beq_iff_eq,beq_iff_eq]
   exact eq_comm
 rw [this]
 cases l.contains n<;>rfl
theorem aAp {ρ:Type} (n:Nat) (q:Nat→Option ρ) (f:Int→Option (Int ⊕ (Unit ⊕ ρ)))
  (hf:∀ (k:Nat),k < n→f k=some (match q k with | none=>.inl ((k + 1:Nat):Int) | some r=>.inr (.inr r)))
  (he:f n=some (.inr (.inl ()))):aJ f 0=some (match (List.range n).findSome? q with | some r=>.inr r | none=>.inl ()) :=
 wA (List.range n) q f (fun k hk=>by
  have hk':k < n:=by simpa using hk
  rw [hf k hk',List.getElem_range]
  all_goals (cases q k<;>rfl)) (by rw [List.length_range];exact he)
end Go.OM
namespace Go.OM
def fD (k:Int):Bool:=inB k 1 12
def fW (k:Int):Bool:=inB k 13 19
theorem nV (k:Int):jA k=some (fD k):=by simp only [jA,gC,Option.bind_some,fD]
theorem tM (k:Int):lV k=some (fW k):=by simp only [lV,gC,Option.bind_some,fW]
theorem nA (k:Int):fH k=some (fD k):=by simp only [fH,gX,Option.bind_some,fD]
theorem nD (k:Int):eG k=some (fW k):=by simp only [eG,gX,Option.bind_some,fW]
def oO (k:Int):Int × Int:=if k=8 ∨ k=13 ∨ k=14 ∨ k=15 ∨ k=18 ∨ k=19 then (1,1) else if k=9 ∨ k=10 ∨ k=11 ∨ k=17 then (2,2) else if k=16 then (3,3) else if k=12 then (0,3) else if k=20 then (0,12) else (0,0)
theorem aBy (k:Int):pU k=some (oO k):=by
 unfold pU oO
 by_cases h8:k=8
 ·simp [h8]
 by_cases h13:k=13
 ·simp [h13]
 by_cases h14:k=14
 ·simp [h14]
 by_cases h15:k=15
 ·simp [h15]
 by_cases h18:k=18
 ·simp [h18]
 by_cases h19:k=19
 ·simp [h19]
 by_cases h9:k=9
 ·simp [h9]
 by_cases h10:k=10
 ·simp [h10]
 by_cases h11:k=11
 ·simp [h11]
 by_cases h17:k=17
 ·simp [h17]
 by_cases h16:k=16
 ·simp [h16]
 by_cases h12:k=12
 ·simp [h12]
 by_cases h20:k=20
 ·simp [h20]
 simp [h8,h13,h14,h15,h18,h19,h9,h10,h11,h17,h16,h12,h20]
theorem yE (k:Int):mI k=some (oO k):=by
 unfold mI oO
 by_cases h8:k=8
 ·simp [h8]
 by_cases h13:k=13
 ·simp [h13]
 by_cases h14:k=14
 ·simp [h14]
 by_cases h15:k=15
 ·simp [h15]
 by_cases h18:k=18
 ·simp [h18]
 by_cases h19:k=19
 ·simp [h19]
 by_cases h9:k=9
 ·simp [h9]
 by_cases h10:k=10
 ·simp [h10]
 by_cases h11:k=11
 ·simp [h11]
 by_cases h17:k=17
 ·simp [h17]
 by_cases h16:k=16
 ·simp [h16]
 by_cases h12:k=12
 ·simp [h12]
 by_cases h20:k=20
 ·simp [h20]
 simp [h8,h13,h14,h15,h18,h19,h9,h10,h11,h17,h16,h12,h20]
def aC1 (kind i kid:Int):Bool:=if kind=20 then fW kid else if (kind=16 ∨ kind=17)∧0 < i then kid == 20 else if kind=19 then kid == 12 else fD kid
theorem yY (kind i kid:Int):mP kind i kid=some (aC1 kind i kid):=by
 unfold mP aC1
 simp only [tM,nV,Option.bind_some,gt_iff_lt]
 by_cases h20:kind=20
 ·simp [h20]
 by_cases h16:kind=16
 ·by_cases hi:0 < i<;>simp [h16,hi]
 by_cases h17:kind=17
 ·by_cases hi:0 < i<;>simp [h17,hi]
 by_cases h19:kind=19
 ·simp [h19]
 simp [h20,h16,h17,h19]
theorem yF (kind i kid:Int):mJ kind i kid=some (aC1 kind i kid):=by
 unfold mJ aC1
 simp only [nD,nA,Option.bind_some,gt_iff_lt]
 by_cases h20:kind=20
 ·simp [h20]
 by_cases h16:kind=16
 ·by_cases hi:0 < i<;>simp [h16,hi]
 by_cases h17:kind=17
 ·by_cases hi:0 < i<;>simp [h17,hi]
 by_cases h19:kind=19
 ·simp [h19]
 simp [h20,h16,h17,h19]
def qU (k:Int):Bool:=inB k 2 6 || inB k 12 15
theorem yZ (k:Int):mQ k=some (qU k):=by
 unfold mQ qU
 simp only [gC,Option.bind_some]
 cases inB k 2 6<;>rfl
theorem xC (k:Int):kO k=some (qU k):=by
 unfold kO qU
 by_cases h:inB k 2 6=true
 ·have h':=inB_iff.1 h
  rw [h]
  have:k=2 ∨ k=3 ∨ k=4 ∨ k=5 ∨ k=6:=by omega
  rcases this with e | e | e | e | e<;>simp [e]
 by_cases h2:inB k 12 15=true
 ·have h':=inB_iff.1 h2
  rw [h2]
  have:k=12 ∨ k=13 ∨ k=14 ∨ k=15:=by omega
  rcases this with e | e | e | e<;>simp [e]
 have h':=inB_false.1 (Bool.eq_false_iff.2 h)
 have h2':=inB_false.1 (Bool.eq_false_iff.2 h2)
 have n2:¬ k=2:=by omega
 have n3:¬ k=3:=by omega
 have n4:¬ k=4:=by omega
 have n5:¬ k=5:=by omega
 have n6:¬ k=6:=by omega
 have n12:¬ k=12:=by omega
 have n13:¬ k=13:=by omega
 have n14:¬ k=14:=by omega
 have n15:¬ k=15:=by omega
 simp [Bool.eq_false_iff.2 h,Bool.eq_false_iff.2 h2,n2,n3,n4,n5,n6,n12,n13,n14,n15]
def aLt (nodes:List GNode) (k:Nat) (x:GNode) (i:Nat):Bool:=match x.Kids[i]? with
 | none=>false
 | some kid=>inB kid 0 ((k:Int) - 1) && (!((x.Kids.take i).contains kid) && (match nodes[kid.toNat]? with | some y=>aC1 x.Kind i y.Kind | none=>false))
theorem aEe {nodes:List GNode} {k:Nat} {x:GNode} {i:Nat} (h:i < x.Kids.length):aLt nodes k x i=(inB x.Kids[i] 0 ((k:Int) - 1) && (!((x.Kids.take i).contains x.Kids[i]) && (match nodes[(x.Kids[i]).toNat]? with | some y=>aC1 x.Kind i y.Kind | none=>false))):=by
 unfold aLt;rw [List.getElem?_eq_getElem h]
def aIn (nodes:List GNode) (k:Nat) (x:GNode):Bool:=(List.range x.Kids.length).all (aLt nodes k x)
def aKc (x:GNode):Bool:=if x.Kind=1 then inB x.Num 0 1000000000 else x.Num == 0
def aFj (x:GNode):Bool:=if qU x.Kind=true then sX x.Name else sEq x.Name ⟨#[]⟩
def oI (nodes:List GNode) (k:Nat):Bool:=match nodes[k]? with
 | none=>false
 | some x=>inB x.Kind 1 20 && (inB x.Kids.length (oO x.Kind).1 (oO x.Kind).2 && (aIn nodes k x && (aKc x && aFj x)))
theorem yM {ρ:Type} (n:Nat) (hn:n ≤ 1048576) (p:Nat→Bool) (b:ρ) (f:Int→Option (Int ⊕ (Unit ⊕ ρ)))
  (hf:∀ (k:Nat),k < n→f k=some (if p k=true then .inl (IntKind.wrap .i64 ((k:Int) + 1)) else .inr (.inr b)))
  (he:f n=some (.inr (.inl ()))):aJ f 0=some (if (List.range n).all p=true then .inl () else .inr b):=by
 rw [aAp n (fun k=>if p k=true then none else some b) f (fun k hk=>by
  rw [hf k hk,cY hk hn]
  cases p k<;>rfl) he]
 have key:∀ l:List Nat,l.findSome? (fun k=>if p k=true then none else some b)=if l.all p=true then none else some b:=by
  intro l
  induction l with
  | nil=>rfl
  | cons x l ih =>
   rw [List.findSome?_cons,List.all_cons]
   cases hp:p x
   ·simp
   simp only [if_true,Bool.true_and];exact ih
 rw [key]
 cases (List.range n).all p<;>rfl
theorem aBd (k:Int):(oO k).2 ≤ 12:=by
 unfold oO
 repeat' split
 all_goals simp
theorem aEa:sX ⟨#[]⟩=false:=by
 unfold sX
 have:inB ((⟨#[]⟩:ByteArray).size:Int) 1 8=false:=rfl
 rw [this];rfl
theorem aA4 (nodes:List GNode) (hn:nodes.length ≤ 1048576) (k:Int):nW nodes k=some (decide (0 ≤ k) && oI nodes k.toNat):=by
 unfold nW
 simp only [gC,Option.bind_some,kB hn]
 by_cases hi:inB k 0 ((nodes.length:Int) - 1)=true
 ·have hi':=inB_iff.1 hi
  have hk:k.toNat < nodes.length:=by omega
  have hkk:k=((k.toNat:Nat):Int):=by omega
  rw [decide_eq_true hi'.1,Bool.true_and]
  generalize k.toNat=m at *
  subst hkk
  unfold oI
  rw [List.getElem?_eq_getElem hk,bK hk]
  simp only [hi,Bool.not_true,Bool.false_eq_true,if_false,Option.bind_some,aBy]
  generalize nodes[m]=x
  cases h1:inB x.Kind 1 20
  ·rfl
  cases h2:inB x.Kids.length (oO x.Kind).1 (oO x.Kind).2
  ·rfl
  have h2':=inB_iff.1 h2
  have hs:=aBd x.Kind
  have hkl:x.Kids.length ≤ 1048576:=by omega
  have hw:IntKind.wrap .i64 ((m:Int) - 1)=(m:Int) - 1:=w64 (by omega) (by omega)
  rw [yM x.Kids.length hkl (aLt nodes m x) false (jX nodes m x) (fun i hi=>by
   have hsub:gK x.Kids 0 (i:Int)=some (x.Kids.take i):=by
    unfold gK;rw [if_pos ⟨by omega,by omega,by omega⟩];simp
   simp only [jX,aL hi,if_true,bK hi,Option.bind_some,gC,hw,hsub,zD (x.Kids.take i) _ (by simp;omega),yY]
   rw [aEe hi]
   cases h3:inB x.Kids[i] 0 ((m:Int) - 1)
   ·rfl
   have h3':=inB_iff.1 h3
   cases h4:(x.Kids.take i).contains x.Kids[i]
   ·have hlt:x.Kids[i].toNat < nodes.length:=by omega
    rw [kW h3'.1 (by omega),List.getElem?_eq_getElem hlt]
    simp only [Bool.not_true,Bool.false_eq_true,if_false,Option.bind_some,Bool.not_false,Bool.true_and]
    cases aC1 x.Kind i nodes[x.Kids[i].toNat].Kind<;>rfl
   rfl) (by simp [jX])]
  have hkk:(List.range x.Kids.length).all (aLt nodes m x)=aIn nodes m x:=rfl
  rw [hkk]
  cases aIn nodes m x
  ·rfl
  unfold aKc aFj
  simp only [yZ,oZ,Option.bind_some,Bool.not_true,Bool.false_eq_true,if_false,if_true]
  by_cases hkd:x.Kind=1
  ·have e:(x.Kind == 1)=true:=by simpa using hkd
   rw [if_pos hkd,if_pos e]
   cases inB x.Num 0 1000000000
   ·rfl
   cases qU x.Kind<;>rfl
  have e:¬ (x.Kind == 1)=true:=by simpa using hkd
  have e2:(x.Num != 0) = !(x.Num == 0):=rfl
  rw [if_neg hkd,if_neg e,e2]
  cases x.Num == 0
  ·rfl
  cases qU x.Kind<;>rfl
 simp only [Bool.eq_false_iff.2 hi,Bool.not_false,if_true]
 have hi':=inB_false.1 (Bool.eq_false_iff.2 hi)
 congr 1
 by_cases h0:0 ≤ k
 ·unfold oI
  rw [List.getElem?_eq_none (by omega)];simp
 simp [h0]
theorem aA1 (nodes:List GNode) (hn:nodes.length ≤ 1048576) (k:Int):nT nodes k=some (decide (0 ≤ k) && oI nodes k.toNat):=by
 unfold nT
 simp only [gX,Option.bind_some,kB hn]
 by_cases hi:inB k 0 ((nodes.length:Int) - 1)=true
 ·have hi':=inB_iff.1 hi
  have hk:k.toNat < nodes.length:=by omega
  have hkk:k=((k.toNat:Nat):Int):=by omega
  rw [decide_eq_true hi'.1,Bool.true_and]
  generalize k.toNat=m at *
  subst hkk
  unfold oI
  rw [List.getElem?_eq_getElem hk,bK hk]
  simp only [hi,Bool.not_true,Bool.false_eq_true,if_false,Option.bind_some,yE]
  generalize nodes[m]=x
  cases h1:inB x.Kind 1 20
  ·rfl
  simp only [Bool.not_true,Bool.false_eq_true,if_false,Bool.true_and]
  cases h2:inB x.Kids.length (oO x.Kind).1 (oO x.Kind).2
  ·rfl
  have h2':=inB_iff.1 h2
  have hs:=aBd x.Kind
  have hkl:x.Kids.length ≤ 1048576:=by omega
  have hw:IntKind.wrap .i64 ((m:Int) - 1)=(m:Int) - 1:=w64 (by omega) (by omega)
  rw [yM x.Kids.length hkl (aLt nodes m x) false (jT nodes m x) (fun i hi=>by
   simp only [jT,aL hi,if_true,bK hi,Option.bind_some,gX,hw,yF]
   rw [yM i (by omega) (fun j=>!(x.Kids[i] == (x.Kids[j]?).getD 0)) (.inr (.inr false)) (jS x i) (fun j hj=>by
    have hjl:j < x.Kids.length:=by omega
    simp only [jS,aL hj,if_true,bK hi,bK hjl,Option.bind_some,List.getElem?_eq_getElem hjl,Option.getD_some]
    cases x.Kids[i] == x.Kids[j]<;>rfl) (by simp [jS])]
   have hall:(List.range i).all (fun j=>!(x.Kids[i] == (x.Kids[j]?).getD 0)) = !((x.Kids.take i).contains x.Kids[i]):=by
    rw [Bool.eq_iff_iff]
    simp only [List.all_eq_true,List.mem_range,Bool.not_eq_true',List.contains_eq_mem,decide_eq_false_iff_not,beq_eq_false_iff_ne,ne_eq]
    constructor
    ·intro h hm
     obtain ⟨j,hj,e⟩:=List.mem_iff_getElem.1 hm
     simp only [List.length_take] at hj
     rw [List.getElem_take] at e
     refine h j (by omega) ?_
     rw [List.getElem?_eq_getElem (by omega)]
     exact e.symm
    intro h j hj e
    rw [List.getElem?_eq_getElem (show j < x.Kids.length by omega)] at e
    refine h ?_
    rw [e]
    refine List.mem_iff_getElem.2 ⟨j,by simp only [List.length_take];omega,?_⟩
    rw [List.getElem_take];rfl
   rw [hall]
   rw [aEe hi]
   cases h3:inB x.Kids[i] 0 ((m:Int) - 1)
   ·rfl
   have h3':=inB_iff.1 h3
   have hlt:x.Kids[i].toNat < nodes.length:=by omega
   rw [kW h3'.1 (by omega),List.getElem?_eq_getElem hlt]
   simp only [Bool.not_true,Bool.false_eq_true,if_false,Option.bind_some,Bool.true_and]
   cases aC1 x.Kind i nodes[x.Kids[i].toNat].Kind<;>cases (x.Kids.take i).contains x.Kids[i]<;>rfl) (by simp [jT])]
  have hkk:(List.range x.Kids.length).all (aLt nodes m x)=aIn nodes m x:=rfl
  rw [hkk]
  unfold aKc aFj
  simp only [xC,mC,Option.bind_some,Bool.not_true,Bool.false_eq_true,if_false,if_true]
  have hname:(if (!(qU x.Kind == (!(sEq x.Name (⟨#[]⟩:ByteArray)))))=true then some true else if (!(sEq x.Name (⟨#[]⟩:ByteArray)))=true then some (!(sX x.Name)) else some false)=some (!(if qU x.Kind=true then sX x.Name else sEq x.Name ⟨#[]⟩)):=by
   cases he:sEq x.Name ⟨#[]⟩ with
   | true =>
    have:x.Name=⟨#[]⟩:=by rw [aBg] at he;simpa using he
    cases qU x.Kind
    ·rfl
    rw [this,aEa];rfl
   | false =>
    cases qU x.Kind<;>rfl
  rw [hname]
  have hnum:(if (!(inB x.Num 0 1000000000))=true then some true else if (x.Kind != 1)=true then some (x.Num != 0) else some false)=some (!(if x.Kind=1 then inB x.Num 0 1000000000 else x.Num == 0)):=by
   have e2:(x.Num != 0) = !(x.Num == 0):=rfl
   by_cases hkd:x.Kind=1
   ·have e:(x.Kind != 1)=false:=by simp [hkd]
    rw [if_pos hkd,e]
    cases inB x.Num 0 1000000000<;>rfl
   have e:(x.Kind != 1)=true:=by simpa using hkd
   rw [if_neg hkd,e,e2]
   cases hz:x.Num == 0 with
   | true =>
    have:x.Num=0:=by simpa using hz
    rw [this];rfl
   | false=>cases inB x.Num 0 1000000000<;>rfl
  rw [hnum]
  generalize (if x.Kind=1 then inB x.Num 0 1000000000 else x.Num == 0)=u
  generalize (if qU x.Kind=true then sX x.Name else sEq x.Name ⟨#[]⟩)=v
  cases u<;>cases v<;>cases aIn nodes m x<;>rfl
 simp only [Bool.eq_false_iff.2 hi,Bool.not_false,if_true,Option.bind_some]
 have hi':=inB_false.1 (Bool.eq_false_iff.2 hi)
 congr 1
 by_cases h0:0 ≤ k
 ·unfold oI
  rw [List.getElem?_eq_none (by omega)];simp
 simp [h0]
end Go.OM
namespace Go.OM
def mx (a b:Int):Int:=if b > a then b else a
def aEt (nodes:List GNode) (out:List Int) (i:Nat):Int:=match nodes[i]? with
 | some x=>x.Kids.foldl (fun d kid=>mx d (out.getD kid.toNat 0 + 1)) 1
 | none=>1
def jN (nodes:List GNode):Nat→List Int
 | 0=>[]
 | n + 1=>jN nodes n ++ [aEt nodes (jN nodes n) n]
def okU (nodes:List GNode):Nat→Bool
 | 0=>true
 | n + 1=>okU nodes n && (oI nodes n && decide (aEt nodes (jN nodes n) n ≤ 10))
def qW (nodes:List GNode) (k:Nat):Int:=aEt nodes (jN nodes k) k
theorem fM (nodes:List GNode):∀ n,(jN nodes n).length=n
 | 0=>rfl
 | n + 1=>by simp [jN,fM nodes n]
theorem kZ (nodes:List GNode):∀ (n j:Nat),j < n→(jN nodes n)[j]? = some (qW nodes j)
 | 0,j,h=>by omega
 | n + 1,j,h=>by
  simp only [jN]
  rcases Nat.lt_or_ge j n with h1 | h1
  ·rw [List.getElem?_append_left (by rw [fM];exact h1)]
   exact kZ nodes n j h1
  have:j=n:=by omega
  subst this
  rw [List.getElem?_append_right (by rw [fM];omega),fM]
  simp [qW]
theorem uP {nodes : List GNode} : ∀ {n m : Nat}, m ≤ n → okU nodes n = true → okU nodes m = true
  | 0, m, h, h1 => by have : m = 0 := by omega
                      subst this; rfl
  | n + 1, m, h, h1 => by
    by_cases e : m = n + 1
    · subst e; exact h1
    simp only [okU, Bool.and_eq_true] at h1
    exact uP (by omega) h1.1
theorem rL {nodes:List GNode} {n j:Nat} (h:okU nodes n=true) (hj:j < n):oI nodes j=true∧qW nodes j ≤ 10:=by
 have:=uP (show j + 1 ≤ n by omega) h
 simp only [okU,Bool.and_eq_true,decide_eq_true_eq] at this
 exact this.2
theorem mx_ge (l:List Int) (g:Int→Int):∀ d,d ≤ l.foldl (fun d kid=>mx d (g kid)) d∧∀ kid ∈ l,g kid ≤ l.foldl (fun d kid=>mx d (g kid)) d:=by
 induction l with
 | nil=>intro d;simp
 | cons x l ih =>
  intro d
  rw [List.foldl_cons]
  obtain ⟨h1,h2⟩:=ih (mx d (g x))
  have h3:d ≤ mx d (g x)∧g x ≤ mx d (g x):=by unfold mx;split<;>omega
  refine ⟨by omega,fun kid hk=>?_⟩
  rcases List.mem_cons.1 hk with rfl | hk
  ·omega
  exact h2 kid hk
theorem qQ (nodes:List GNode) (k:Nat):1 ≤ qW nodes k:=by
 unfold qW aEt
 split
 ·exact (mx_ge _ _ 1).1
 omega
theorem rM {nodes:List GNode} {k:Nat} (h:oI nodes k=true):∃ (hk:k < nodes.length),inB nodes[k].Kind 1 20=true∧inB nodes[k].Kids.length (oO nodes[k].Kind).1 (oO nodes[k].Kind).2=true∧(∀ (i:Nat) (hi:i < nodes[k].Kids.length),(0 ≤ nodes[k].Kids[i]∧nodes[k].Kids[i] < k)∧¬ nodes[k].Kids[i] ∈ nodes[k].Kids.take i∧∃ y,nodes[(nodes[k].Kids[i]).toNat]? = some y∧aC1 nodes[k].Kind i y.Kind=true)∧aKc nodes[k]=true∧aFj nodes[k]=true:=by
 unfold oI at h
 split at h
 ·cases h
 rename_i x hx
 obtain ⟨hk,hxe⟩:=List.getElem?_eq_some_iff.1 hx
 subst hxe
 simp only [Bool.and_eq_true] at h
 obtain ⟨h1,h2,h3,h4,h5⟩:=h
 refine ⟨hk,h1,h2,fun i hi=>?_,h4,h5⟩
 have:=List.all_eq_true.1 h3 i (List.mem_range.2 hi)
 rw [aEe hi] at this
 simp only [Bool.and_eq_true,inB_iff,Bool.not_eq_true',List.contains_eq_mem,decide_eq_false_iff_not] at this
 obtain ⟨g1,g2,g3⟩:=this
 refine ⟨⟨g1.1,by omega⟩,g2,?_⟩
 split at g3
 ·rename_i y hy;exact ⟨y,hy,g3⟩
 cases g3
theorem pR {nodes:List GNode} {k:Nat} (h:oI nodes k=true) {x:GNode} (hx:nodes[k]? = some x):∀ kid ∈ x.Kids,0 ≤ kid∧kid < k:=by
 obtain ⟨hk,_,_,h3,_⟩:=rM h
 obtain ⟨_,hxe⟩:=List.getElem?_eq_some_iff.1 hx
 subst hxe
 intro kid hm
 obtain ⟨i,hi,rfl⟩:=List.mem_iff_getElem.1 hm
 exact (h3 i hi).1
theorem oP {nodes:List GNode} {k:Nat} (h:oI nodes k=true) {x:GNode} (hx:nodes[k]? = some x):x.Kids.length ≤ 12:=by
 obtain ⟨hk,_,h2,_⟩:=rM h
 obtain ⟨_,hxe⟩:=List.getElem?_eq_some_iff.1 hx
 subst hxe
 have:=inB_iff.1 h2
 have:=aBd nodes[k].Kind
 omega
theorem aKq {nodes:List GNode} {k:Nat} (h:oI nodes k=true) {x:GNode} (hx:nodes[k]? = some x) {kid:Int} (hm:kid ∈ x.Kids):qW nodes kid.toNat < qW nodes k:=by
 have hb:=pR h hx kid hm
 have:qW nodes k=x.Kids.foldl (fun d kid=>mx d ((jN nodes k).getD kid.toNat 0 + 1)) 1:=by unfold qW aEt;rw [hx]
 rw [this]
 have h2:=(mx_ge x.Kids (fun kid=>(jN nodes k).getD kid.toNat 0 + 1) 1).2 kid hm
 have h3:(jN nodes k).getD kid.toNat 0=qW nodes kid.toNat:=by
  rw [List.getD_eq_getElem?_getD,kZ nodes k kid.toNat (by omega)];rfl
 rw [h3] at h2
 omega
theorem aHb (nodes:List GNode) (k:Nat) (x:GNode) (hx:nodes[k]? = some x) (hok:okU nodes k=true) (hn:oI nodes k=true):aJ (hO (jN nodes k) x) (1,0)=some (qW nodes k):=by
 have hkl:=oP hn hx
 have hkb:=pR hn hx
 have hg:∀ kid ∈ x.Kids,(jN nodes k).getD kid.toNat 0=qW nodes kid.toNat:=fun kid hm=>by
  have:=hkb kid hm
  rw [List.getD_eq_getElem?_getD,kZ nodes k kid.toNat (by omega)];rfl
 have:=nP x.Kids (fun (d:Int) j=>(d,(j:Int))) (fun j d=>True) (fun d kid=>.inl (mx d ((jN nodes k).getD kid.toNat 0 + 1))) id (hO (jN nodes k) x) (fun d j hj _=>by
  left
  have hm:=List.getElem_mem hj
  have hb:=hkb _ hm
  have hd:=rL hok (show x.Kids[j].toNat < k by omega)
  have hp:=qQ nodes x.Kids[j].toNat
  refine ⟨_,rfl,?_,trivial⟩
  have hlt:x.Kids[j].toNat < (jN nodes k).length:=by rw [fM];omega
  have hge:(jN nodes k)[x.Kids[j].toNat]=qW nodes x.Kids[j].toNat:=by
   have:=kZ nodes k x.Kids[j].toNat (by omega)
   rw [List.getElem?_eq_getElem hlt] at this
   exact Option.some.inj this
  simp only [hO,aL hj,if_true,bK hj,Option.bind_some]
  rw [kW hb.1 (by rw [fM];omega),hge]
  simp only [Option.bind_some,w64 (n:=qW nodes x.Kids[j].toNat + 1) (by omega) (by omega),cY hj (by omega),hg _ hm]
  rfl) (fun d _=>by simp [hO]) 1 trivial
 rw [nX] at this
 unfold qW aEt
 rw [hx]
 exact this
theorem tN (nodes:List GNode) (hn:nodes.length ≤ 1048576) (k:Int):kG nodes k=some (if 0 ≤ k∧k < nodes.length∧okU nodes (k.toNat + 1)=true then (jN nodes (k.toNat + 1),true) else ([],false)):=by
 unfold kG
 simp only [gC,Option.bind_some,kB hn]
 by_cases hi:inB k 0 ((nodes.length:Int) - 1)=true
 ·have hi':=inB_iff.1 hi
  have hkk:k=((k.toNat:Nat):Int):=by omega
  have hk:k.toNat < nodes.length:=by omega
  generalize k.toNat=m at *
  subst hkk
  simp only [hi,Bool.not_true,Bool.false_eq_true,if_false]
  obtain ⟨r,h1,h2⟩:=dZ (f:=jV nodes m) (fun s:List Int × Int=>∃ i:Nat,s.2=i∧i ≤ m + 1∧s.1=jN nodes i∧okU nodes i=true) (fun s=>m + 1 - s.2.toNat) (fun r=>r=if okU nodes (m + 1)=true then Sum.inl (jN nodes (m + 1)) else Sum.inr ([],false)) (by
   rintro ⟨out,i⟩ ⟨i,rfl,hle,ho,hok⟩
   simp only at ho hle
   subst ho
   by_cases hlt:i ≤ m
   ·have hd:decide ((i:Int) ≤ (m:Int))=true:=by simp only [decide_eq_true_eq];omega
    have hil:i < nodes.length:=by omega
    simp only [jV,hd,if_true,aA4 nodes hn,Option.bind_some,Int.toNat_natCast]
    have h0:decide ((0:Int) ≤ (i:Int))=true:=by simp
    rw [h0,Bool.true_and]
    cases hnb:oI nodes i with
    | false =>
     right
     refine ⟨.inr ([],false),by simp,?_⟩
     have:okU nodes (m + 1)=false:=by
      rw [Bool.eq_false_iff]
      intro h
      rw [(rL h (show i < m + 1 by omega)).1] at hnb
      cases hnb
     rw [this];rfl
    | true =>
     simp only [Bool.not_true,Bool.false_eq_true,if_false,bK hil,Option.bind_some]
     rw [aHb nodes i _ (List.getElem?_eq_getElem hil) hok hnb]
     simp only [Option.bind_some]
     by_cases hd10:qW nodes i > 10
     ·right
      rw [if_pos (by simpa using hd10)]
      refine ⟨.inr ([],false),rfl,?_⟩
      have:okU nodes (m + 1)=false:=by
       rw [Bool.eq_false_iff]
       intro h
       have:=(rL h (show i < m + 1 by omega)).2
       omega
      rw [this];rfl
     left
     rw [if_neg (by simpa using hd10),app1 (by rw [fM];omega) (by omega)]
     refine ⟨(jN nodes (i + 1),((i + 1:Nat):Int)),?_,⟨i + 1,rfl,by omega,rfl,?_⟩,by simp only [Int.toNat_natCast];omega⟩
     ·simp only [Option.bind_some,cY hil hn]
      rfl
     simp only [okU,hok,hnb,Bool.true_and,decide_eq_true_eq]
     show qW nodes i ≤ 10
     omega
   right
   have:i=m + 1:=by omega
   subst this
   have hd:decide (((m + 1:Nat):Int) ≤ (m:Int))=false:=by simp only [decide_eq_false_iff_not];omega
   refine ⟨.inl (jN nodes (m + 1)),by simp only [jV,hd,Bool.false_eq_true,if_false],?_⟩
   rw [hok];rfl) ([],0) ⟨0,rfl,by omega,rfl,rfl⟩
  rw [h1,h2]
  by_cases hok:okU nodes (m + 1)=true
  ·rw [if_pos hok,if_pos (show 0 ≤ (m:Int)∧(m:Int) < nodes.length∧okU nodes (m + 1)=true from ⟨by omega,by omega,hok⟩)];rfl
  rw [if_neg hok,if_neg (show ¬ (0 ≤ (m:Int)∧(m:Int) < nodes.length∧okU nodes (m + 1)=true) from fun h=>hok h.2.2)];rfl
 have hi':=inB_false.1 (Bool.eq_false_iff.2 hi)
 simp only [Bool.eq_false_iff.2 hi,Bool.not_false,if_true]
 rw [if_neg (show ¬ (0 ≤ k∧k < nodes.length∧okU nodes (k.toNat + 1)=true) from fun h=>hi' ⟨h.1,by omega⟩)]
def tZ (nodes:List GNode) (k:Int):Int:=if 0 ≤ k∧k < nodes.length∧okU nodes (k.toNat + 1)=true then qW nodes k.toNat else 0
theorem tO (nodes:List GNode) (hn:nodes.length ≤ 1048576) (k:Int):lW nodes k=some (tZ nodes k):=by
 unfold lW tZ
 rw [tN nodes hn]
 by_cases h:0 ≤ k∧k < nodes.length∧okU nodes (k.toNat + 1)=true
 ·rw [if_pos h,if_pos h]
  have hlt:k.toNat < (jN nodes (k.toNat + 1)).length:=by rw [fM];omega
  simp only [Option.bind_some,Bool.not_true,Bool.false_eq_true,if_false]
  rw [kW h.1 (by rw [fM];omega)]
  have:=kZ nodes (k.toNat + 1) k.toNat (by omega)
  rw [List.getElem?_eq_getElem hlt] at this
  simp only [Option.bind_some]
  exact this
 rw [if_neg h,if_neg h];rfl
def lM (nodes:List GNode) (n:Nat):List Int:=(List.range n).map fun j=>if okU nodes (j + 1)=true then qW nodes j else 0
theorem vR (nodes:List GNode) (n:Nat):(lM nodes n).length=n:=by simp [lM]
theorem sM (nodes:List GNode) {n j:Nat} (h:j < n):(lM nodes n)[j]? = some (if okU nodes (j + 1)=true then qW nodes j else 0):=by
 unfold lM
 rw [List.getElem?_map,List.getElem?_range h];rfl
theorem aCr {nodes:List GNode} {n:Nat} (h:okU nodes n=true):lM nodes n=jN nodes n:=by
 apply List.ext_getElem?
 intro j
 by_cases hj:j < n
 ·rw [sM nodes hj,kZ nodes n j hj,if_pos (uP (by omega) h)]
 rw [List.getElem?_eq_none (by rw [vR];omega),List.getElem?_eq_none (by rw [fM];omega)]
theorem aGn (nodes:List GNode) (k:Nat) (hk:k < nodes.length) (hok:okU nodes k=true) (hn:oI nodes k=true):aJ (dF nodes (jN nodes k) k) (1,0)=some (qW nodes k):=by
 have hx:nodes[k]? = some nodes[k]:=List.getElem?_eq_getElem hk
 generalize hgx:nodes[k]=x at *
 have hkl:=oP hn hx
 have hkb:=pR hn hx
 have hg:∀ kid ∈ x.Kids,(jN nodes k).getD kid.toNat 0=qW nodes kid.toNat:=fun kid hm=>by
  have:=hkb kid hm
  rw [List.getD_eq_getElem?_getD,kZ nodes k kid.toNat (by omega)];rfl
 have hgk:bD nodes (k:Int)=some x:=by rw [bK hk,hgx]
 have:=nP x.Kids (fun (d:Int) j=>(d,(j:Int))) (fun j d=>0 < d) (fun d kid=>.inl (mx d ((jN nodes k).getD kid.toNat 0 + 1))) id (dF nodes (jN nodes k) k) (fun d j hj hpos=>by
  left
  have hm:=List.getElem_mem hj
  have hb:=hkb _ hm
  have hd:=rL hok (show x.Kids[j].toNat < k by omega)
  have hp:=qQ nodes x.Kids[j].toNat
  refine ⟨_,rfl,?_,by unfold mx;split<;>omega⟩
  have hlt:x.Kids[j].toNat < (jN nodes k).length:=by rw [fM];omega
  have hge:(jN nodes k)[x.Kids[j].toNat]=qW nodes x.Kids[j].toNat:=by
   have:=kZ nodes k x.Kids[j].toNat (by omega)
   rw [List.getElem?_eq_getElem hlt] at this
   exact Option.some.inj this
  have hp0:decide (d > 0)=true:=by simpa using hpos
  have hgi:bD (jN nodes k) x.Kids[j]=some (qW nodes x.Kids[j].toNat):=by rw [kW hb.1 (by rw [fM];omega),hge]
  simp only [dF,hp0,if_true,hgk,Option.bind_some,aL hj,bK hj,hgi,w64 (n:=qW nodes x.Kids[j].toNat + 1) (by omega) (by omega),cY hj (by omega),hg _ hm]
  unfold mx
  by_cases hgt:qW nodes x.Kids[j].toNat + 1 > d
  ·rw [if_pos (by simpa using hgt),if_pos hgt]
  ·rw [if_neg (by simpa using hgt),if_neg hgt]) (fun d hd=>by
  have hp0:decide (d > 0)=true:=by simpa using hd
  simp [dF,hp0,hgk]) 1 (by omega)
 rw [nX] at this
 unfold qW aEt
 rw [hx]
 exact this
theorem uH (nodes:List GNode) (hn:nodes.length ≤ 1048576) (k:Nat) (hk:k < nodes.length):jD nodes k=some (lM nodes (k + 1)):=by
 unfold jD
 obtain ⟨r,h1,h2⟩:=dZ (f:=gT nodes k) (fun s:List Int × Int=>∃ i:Nat,s.2=i∧i ≤ k + 1∧s.1=lM nodes i) (fun s=>k + 1 - s.2.toNat) (fun r=>r=lM nodes (k + 1)) (by
  rintro ⟨out,i⟩ ⟨i,rfl,hle,ho⟩
  simp only at ho hle
  subst ho
  by_cases hlt:i ≤ k
  ·left
   have hd:decide ((i:Int) ≤ (k:Int))=true:=by simp only [decide_eq_true_eq];omega
   have hil:i < nodes.length:=by omega
   have hd2:decide ((i:Int) < (nodes.length:Int))=true:=by simp only [decide_eq_true_eq];omega
   have h0:decide ((0:Int) ≤ (i:Int))=true:=by simp
   refine ⟨(lM nodes (i + 1),((i + 1:Nat):Int)),?_,⟨i + 1,rfl,by omega,rfl⟩,by simp only [Int.toNat_natCast];omega⟩
   simp only [gT,hd,hd2,if_true,aA1 nodes hn,Option.bind_some,Int.toNat_natCast,h0,Bool.true_and]
   -- is it right so far?
   have hflag:(if (!(oI nodes i))=true then some true else if (decide ((i:Int) > 0))=true then (bD (lM nodes i) (IntKind.wrap .i64 ((i:Int) - 1))).bind fun e32=>some (e32 == 0) else some false)=some (!(oI nodes i && okU nodes i)):=by
    cases hnb:oI nodes i with
    | false=>rfl
    | true =>
     simp only [Bool.not_true,Bool.false_eq_true,if_false,Bool.true_and]
     by_cases hz:i=0
     ·subst hz;rfl
     have hp:decide ((i:Int) > 0)=true:=by simp only [decide_eq_true_eq];omega
     have hw:IntKind.wrap .i64 ((i:Int) - 1)=((i - 1:Nat):Int):=by rw [w64 (by omega) (by omega)];omega
     rw [if_pos hp,hw,uZ,sM nodes (show i - 1 < i by omega),show i - 1 + 1=i by omega]
     simp only [Option.bind_some]
     cases hok:okU nodes i with
     | true =>
      have:=qQ nodes (i - 1)
      have hne:¬ qW nodes (i - 1)=0:=by omega
      simp [hne]
     | false=>simp
   rw [hflag]
   simp only [Option.bind_some]
   have hfin:(Option.bind (if (!(oI nodes i && okU nodes i))=true then some 0 else some (1:Int)) fun deep36=>Option.bind (aJ (dF nodes (lM nodes i) i) (deep36,0)) fun deep62=>Option.bind (if (decide (deep62 > 10))=true then some 0 else some deep62) fun deep68=>(cE 8 (lM nodes i) [deep68]).bind fun l69=>some l69)=some (lM nodes (i + 1)):=by
    have hsucc:lM nodes (i + 1)=lM nodes i ++ [if okU nodes (i + 1)=true then qW nodes i else 0]:=by
     unfold lM;rw [List.range_succ,List.map_append];rfl
    have happ:∀ z:Int,cE 8 (lM nodes i) [z]=some (lM nodes i ++ [z]):=fun z=>app1 (by rw [vR];omega) (by omega)
    cases hb:(oI nodes i && okU nodes i) with
    | true =>
     simp only [Bool.and_eq_true] at hb
     simp only [Bool.not_true,Bool.false_eq_true,if_false,Option.bind_some]
     rw [aCr hb.2,aGn nodes i hil hb.2 hb.1,← aCr hb.2]
     simp only [Option.bind_some]
     rw [hsucc]
     by_cases hd10:qW nodes i > 10
     ·have hf:okU nodes (i + 1)=false:=by
       rw [Bool.eq_false_iff]
       intro h
       have:=(rL h (Nat.lt_succ_self i)).2
       omega
      rw [if_pos (by simpa using hd10),hf]
      simp only [Option.bind_some,happ,Bool.false_eq_true,if_false]
     have hf:okU nodes (i + 1)=true:=by
      simp only [okU,hb.1,hb.2,Bool.true_and,decide_eq_true_eq]
      show qW nodes i ≤ 10
      omega
     rw [if_neg (by simpa using hd10),hf]
     simp only [Option.bind_some,happ,if_true]
    | false =>
     have hf:okU nodes (i + 1)=false:=by
      rw [Bool.eq_false_iff]
      intro h
      simp only [okU,Bool.and_eq_true] at h
      rw [h.1,h.2.1] at hb
      cases hb
     simp only [Bool.not_false,if_true,Option.bind_some]
     rw [kT (r:=(0:Int)) (by simp [dF])]
     simp only [Option.bind_some]
     rw [hsucc,hf]
     simp [happ]
   have:=congrArg (fun z=>Option.bind z fun out70:List Int=>(some (Sum.inl (out70,IntKind.wrap .i64 ((i:Int) + 1))):Option ((List Int × Int) ⊕ List Int))) hfin
   simp only [Option.bind_some,cY hil hn] at this
   rw [cY hil hn]
   exact this
  right
  have:i=k + 1:=by omega
  subst this
  have hd:decide (((k + 1:Nat):Int) ≤ (k:Int))=false:=by simp only [decide_eq_false_iff_not];omega
  exact ⟨_,by simp only [gT,hd,Bool.false_eq_true,if_false,Option.bind_some],rfl⟩) ([],0) ⟨0,rfl,by omega,rfl⟩
 rw [h1,h2]
 rfl
theorem tB (nodes:List GNode) (hn:nodes.length ≤ 1048576) (k:Int):lR nodes k=some (tZ nodes k):=by
 unfold lR tZ
 simp only [gX,Option.bind_some,kB hn]
 by_cases hi:inB k 0 ((nodes.length:Int) - 1)=true
 ·have hi':=inB_iff.1 hi
  have hkk:k=((k.toNat:Nat):Int):=by omega
  have hk:k.toNat < nodes.length:=by omega
  generalize k.toNat=m at *
  subst hkk
  simp only [hi,Bool.not_true,Bool.false_eq_true,if_false]
  rw [uH nodes hn m hk]
  simp only [Option.bind_some,uZ]
  rw [sM nodes (Nat.lt_succ_self m)]
  by_cases hok:okU nodes (m + 1)=true
  ·rw [if_pos hok,if_pos (show 0 ≤ (m:Int)∧(m:Int) < nodes.length∧okU nodes (m + 1)=true from ⟨by omega,by omega,hok⟩)];rfl
  rw [if_neg hok,if_neg (show ¬ (0 ≤ (m:Int)∧(m:Int) < nodes.length∧okU nodes (m + 1)=true) from fun h=>hok h.2.2)];rfl
 have hi':=inB_false.1 (Bool.eq_false_iff.2 hi)
 simp only [Bool.eq_false_iff.2 hi,Bool.not_false,if_true]
 rw [if_neg (show ¬ (0 ≤ k∧k < nodes.length∧okU nodes (k.toNat + 1)=true) from fun h=>hi' ⟨h.1,by omega⟩)]
end Go.OM
namespace Go.OM
theorem aGr:eX=1048576:=rfl
theorem aAs {nodes:List GNode} {k:Int} (h:tZ nodes k ≠ 0):0 ≤ k∧k < nodes.length∧okU nodes (k.toNat + 1)=true:=by
 unfold tZ at h
 split at h
 ·assumption
 exact absurd rfl h
end Go.OM
namespace Go.OM
def yQ (x:GParam):Bool:=sX x.Name && inB x.Typ 1 4
def aEv (p:GProgram) (f:GFn):Bool:=inB f.Body 0 ((p.Nodes.length:Int) - 1) && (match p.Nodes[f.Body.toNat]? with | some x=>x.Kind == 20 | none=>false)
def retB (p:GProgram) (f:GFn):Bool:=if f.Res=0 then f.Ret == -1 else inB f.Ret 0 ((p.Nodes.length:Int) - 1) && (match p.Nodes[f.Ret.toNat]? with | some x=>fD x.Kind | none=>false)
def fnB (p:GProgram) (f:GFn):Bool:=sX f.Name && (!decide ((f.Params.length:Int) > 3) && (inB f.Res 0 2 && (f.Params.all yQ && (aEv p f && retB p f))))
theorem bodyB_iff {p:GProgram} {f:GFn}:aEv p f=true ↔ 0 ≤ f.Body∧f.Body < p.Nodes.length∧∃ x,p.Nodes[f.Body.toNat]? = some x∧x.Kind=20:=by
 unfold aEv
 rw [Bool.and_eq_true,inB_iff]
 constructor
 ·rintro ⟨⟨h1,h2⟩,h3⟩
  refine ⟨h1,by omega,?_⟩
  split at h3
  ·rename_i x hx;exact ⟨x,hx,by simpa using h3⟩
  cases h3
 rintro ⟨h1,h2,x,hx,hk⟩
 refine ⟨⟨h1,by omega⟩,?_⟩
 rw [hx];simpa using hk
theorem aDs (p:GProgram) (f:GFn) (hn:p.Nodes.length ≤ 1048576) (g:Bool→Option Bool):(Option.bind (if (!(inB f.Body 0 ((p.Nodes.length:Int) - 1)))=true then some true else (bD p.Nodes f.Body).bind fun e=>some (e.Kind != 20)) fun v=>g v)=g (!(aEv p f)):=by
 unfold aEv
 cases h:inB f.Body 0 ((p.Nodes.length:Int) - 1) with
 | false=>rfl
 | true =>
  have h':=inB_iff.1 h
  have hlt:f.Body.toNat < p.Nodes.length:=by omega
  rw [kW h'.1 (by omega),List.getElem?_eq_getElem hlt]
  rfl
theorem aFb (p:GProgram) (f:GFn) (hn:p.Nodes.length ≤ 1048576):(if (f.Res == 0)=true then some (f.Ret == (-1)) else Option.bind (if inB f.Ret 0 ((p.Nodes.length:Int) - 1)=true then (bD p.Nodes f.Ret).bind fun e=>some (fD e.Kind) else some false) fun v=>some v)=some (retB p f):=by
 unfold retB
 by_cases h0:f.Res=0
 ·rw [if_pos (by simpa using h0),if_pos h0]
 rw [if_neg (by simpa using h0),if_neg h0]
 cases h:inB f.Ret 0 ((p.Nodes.length:Int) - 1) with
 | false=>rfl
 | true =>
  have h':=inB_iff.1 h
  have hlt:f.Ret.toNat < p.Nodes.length:=by omega
  rw [kW h'.1 (by omega),List.getElem?_eq_getElem hlt]
  rfl
theorem aDf (p:GProgram) (f:GFn) (hn:p.Nodes.length ≤ 1048576):rU p f=some (fnB p f):=by
 unfold rU fnB
 simp only [oZ,gC,nV,Option.bind_some,kB hn]
 cases hnm:sX f.Name with
 | false=>rfl
 | true =>
  simp only [Bool.not_true,Bool.false_eq_true,if_false,Bool.true_and]
  by_cases hp3:(f.Params.length:Int) > 3
  ·rw [if_pos (by simpa using hp3),decide_eq_true hp3];rfl
  rw [if_neg (by simpa using hp3),decide_eq_false hp3]
  simp only [Bool.not_false,Bool.true_and]
  have hres:(if (f.Res != 0)=true then if (f.Res != 1)=true then some (f.Res != 2) else some false else some false)=some (!(inB f.Res 0 2)):=by
   by_cases h0:f.Res=0
   ·rw [h0];rfl
   by_cases h1:f.Res=1
   ·rw [h1];rfl
   by_cases h2:f.Res=2
   ·rw [h2];rfl
   have:inB f.Res 0 2=false:=inB_false.2 (by omega)
   simp [this,h0,h1,h2]
  rw [hres]
  cases hin:inB f.Res 0 2 with
  | false=>rfl
  | true =>
   simp only [Option.bind_some,Bool.not_true,Bool.false_eq_true,if_false,Bool.true_and]
   rw [rP f.Params yQ (mR f) (fun k hk=>by
    simp only [mR,aL hk,if_true,bK hk,Option.bind_some,oZ,gC,cY hk (by omega)]
    unfold yQ
    cases sX f.Params[k].Name
    ·rfl
    cases inB f.Params[k].Typ 1 4<;>rfl) (by simp [mR])]
   cases f.Params.all yQ with
   | false=>rfl
   | true =>
    simp only [if_true,Option.bind_some,Bool.true_and]
    rw [aDs p f hn]
    cases aEv p f with
    | false=>rfl
    | true =>
     simp only [Bool.not_true,Bool.false_eq_true,if_false,Bool.true_and]
     exact aFb p f hn
def aHe (p:GProgram) (nm:ByteArray) (k:Nat):Option Int:=match p.Fns[k]? with
 | some f=>if sEq f.Name nm=true then some (k:Int) else none
 | none=>none
def rW (p:GProgram) (nm:ByteArray):Int:=((List.range p.Fns.length).findSome? (aHe p nm)).getD (-1)
theorem wW (p:GProgram) (nm:ByteArray) (hp:p.Fns.length ≤ 1048576):rV p nm=some (rW p nm):=by
 unfold rV rW
 rw [aAp p.Fns.length (aHe p nm) (mW p nm) (fun k hk=>by
  simp only [mW,aL hk,if_true,bK hk,Option.bind_some,cY hk hp]
  unfold aHe
  rw [List.getElem?_eq_getElem hk]
  cases h:sEq p.Fns[k].Name nm<;>simp [h]) (by simp [mW])]
 cases (List.range p.Fns.length).findSome? (aHe p nm)<;>rfl
theorem aCm (p:GProgram) (nm:ByteArray) (hp:p.Fns.length ≤ 1048576):uG p nm=some (rW p nm):=wW p nm hp
theorem aBa (p:GProgram) (i:Nat) (hi:i < p.Fns.length) (hn:p.Nodes.length ≤ 1048576) (hp:p.Fns.length ≤ 1048576):pL p i=some (fnB p p.Fns[i] && rW p p.Fns[i].Name == i):=by
 unfold pL fnB
 simp only [bK hi,mC,gX,nA,aCm p _ hp,Option.bind_some,kB hn]
 generalize p.Fns[i]=f
 cases hnm:sX f.Name with
 | false=>rfl
 | true =>
  simp only [Bool.not_true,Bool.false_eq_true,if_false,Bool.true_and]
  cases hat:rW p f.Name == i with
  | false =>
   have:(rW p f.Name != i)=true:=by simp only [bne,hat,Bool.not_false]
   rw [this,Bool.and_false];rfl
  | true =>
   have:(rW p f.Name != i)=false:=by simp only [bne,hat,Bool.not_true]
   rw [this,Bool.and_true]
   simp only [Bool.false_eq_true,if_false]
   by_cases hp3:(f.Params.length:Int) > 3
   ·rw [if_pos (by simpa using hp3),decide_eq_true hp3];rfl
   rw [if_neg (by simpa using hp3),decide_eq_false hp3]
   simp only [Bool.not_false,Bool.true_and]
   cases hin:inB f.Res 0 2 with
   | false=>rfl
   | true =>
    simp only [Option.bind_some,Bool.not_true,Bool.false_eq_true,if_false,Bool.true_and]
    rw [rP f.Params yQ (kP f) (fun k hk=>by
     simp only [kP,aL hk,if_true,bK hk,Option.bind_some,mC,gX,cY hk (by omega)]
     unfold yQ
     cases sX f.Params[k].Name
     ·rfl
     cases inB f.Params[k].Typ 1 4<;>rfl) (by simp [kP])]
    cases f.Params.all yQ with
    | false=>rfl
    | true =>
     simp only [if_true,Option.bind_some,Bool.true_and]
     rw [aDs p f hn]
     cases aEv p f with
     | false=>rfl
     | true =>
      simp only [Bool.not_true,Bool.false_eq_true,if_false,Bool.true_and]
      exact aFb p f hn
def incs (d:Int) (l:List Int) (m:List Int):List Int:=l.foldl (fun m e=>m.set e.toNat (m.getD e.toNat 0 + d)) m
theorem aBv (d:Int):∀ (l m:List Int),(incs d l m).length=m.length
 | [],m=>rfl
 | e :: l,m=>by
  show (incs d l (m.set e.toNat (m.getD e.toNat 0 + d))).length=_
  rw [aBv d l];simp
theorem yX (d:Int) (a b m:List Int):incs d (a ++ b) m=incs d b (incs d a m):=by unfold incs;rw [List.foldl_append]
theorem aBw (d:Int) (k:Nat):∀ (l m:List Int),(∀ e ∈ l,0 ≤ e∧e < m.length)→(incs d l m).getD k 0=m.getD k 0 + d * (l.count (k:Int):Nat)
 | [],m,_=>by simp [incs]
 | e :: l,m,h=>by
  have he:=h e (by simp)
  have ih:=aBw d k l (m.set e.toNat (m.getD e.toNat 0 + d)) (fun x hx=>by rw [List.length_set];exact h x (by simp [hx]))
  show (incs d l (m.set e.toNat (m.getD e.toNat 0 + d))).getD k 0=_
  rw [ih,List.count_cons]
  by_cases hk:e.toNat=k
  ·have:(e == (k:Int))=true:=by simp only [beq_iff_eq];omega
   rw [if_pos this]
   have hg:(m.set e.toNat (m.getD e.toNat 0 + d)).getD k 0=m.getD k 0 + d:=by
    rw [List.getD_eq_getElem?_getD,List.getElem?_set,if_pos hk,if_pos (by omega),hk];rfl
   rw [hg,Int.natCast_add,Int.mul_add]
   simp only [Int.natCast_one,Int.mul_one]
   omega
  have:¬ (e == (k:Int))=true:=by simp only [beq_iff_eq];omega
  rw [if_neg this]
  have hg:(m.set e.toNat (m.getD e.toNat 0 + d)).getD k 0=m.getD k 0:=by
   rw [List.getD_eq_getElem?_getD,List.getElem?_set,if_neg hk,← List.getD_eq_getElem?_getD]
  rw [hg];rfl
structure Bd (n:Nat) (C:Int) (m:List Int):Prop where
 len:m.length=n
 bnd:∀ v ∈ m,0 ≤ v∧v ≤ C
theorem Bd.mono {n:Nat} {C C':Int} {m:List Int} (h:Bd n C m) (hc:C ≤ C'):Bd n C' m:=⟨h.len,fun v hv=>by have:=h.bnd v hv;omega⟩
theorem Bd.getD {n:Nat} {C:Int} {m:List Int} (h:Bd n C m) (hC:0 ≤ C) (k:Nat):0 ≤ m.getD k 0∧m.getD k 0 ≤ C:=by
 rw [List.getD_eq_getElem?_getD]
 cases hk:m[k]? with
 | none=>exact ⟨Int.le_refl 0,hC⟩
 | some v=>exact h.bnd v (List.mem_of_getElem? hk)
theorem Bd.set {n:Nat} {C d:Int} {m:List Int} (h:Bd n C m) (hC:0 ≤ C) (hd:0 ≤ d) (k:Nat):Bd n (C + d) (m.set k (m.getD k 0 + d)):=⟨by rw [List.length_set];exact h.len,fun v hv=>by
 rcases List.mem_or_eq_of_mem_set hv with h1 | h1
 ·have:=h.bnd v h1;omega
 have:=h.getD hC k;omega⟩
theorem Bd.incs {n:Nat} {d:Int} (hd:0 ≤ d):∀ (l:List Int) {C:Int} {m:List Int},0 ≤ C→Bd n C m→Bd n (C + d * l.length) (Go.OM.incs d l m)
 | [],C,m,hC,h=>by simpa [Go.OM.incs] using h
 | e :: l,C,m,hC,h=>by
  have:=Bd.incs hd l (C:=C + d) (by omega) (h.set hC hd e.toNat)
  refine this.mono ?_
  rw [List.length_cons,Int.natCast_add,Int.mul_add]
  simp only [Int.natCast_one,Int.mul_one]
  omega
theorem aFs {ρ:Type} (n:Nat) (kids:List Int) (hk:∀ e ∈ kids,0 ≤ e∧e < n) (C:Int) (hC:0 ≤ C) (f:List Int × Int→Option ((List Int × Int) ⊕ ρ)) (fin:List Int→ρ)
  (hf:∀ (m:List Int) (j:Nat) (hj:j < kids.length),Bd n (C + kids.length) m→f (m,j)=some (.inl (m.set kids[j].toNat (m.getD kids[j].toNat 0 + 1),((j + 1:Nat):Int))))
  (he:∀ m:List Int,f (m,kids.length)=some (.inr (fin m))) (m:List Int) (hm:Bd n C m):aJ f (m,0)=some (fin (incs 1 kids m)):=by
 have:=nP kids (fun (m:List Int) j=>(m,(j:Int))) (fun j m=>Bd n (C + j) m) (fun m e=>.inl (m.set e.toNat (m.getD e.toNat 0 + 1))) fin f (fun m j hj hI=>by
  left
  refine ⟨_,rfl,hf m j hj (hI.mono (by omega)),?_⟩
  have:=hI.set (by omega) (show (0:Int) ≤ 1 by omega) kids[j].toNat
  exact this.mono (by omega)) (fun m _=>he m) m (by simpa using hm)
 rw [nX] at this
 exact this
def aIo (nodes:List GNode):List Int:=nodes.flatMap (·.Kids)
def kc (nodes:List GNode) (k:Nat):Nat:=(aIo nodes).count (k:Int)
theorem uQ {nodes:List GNode} (h:okU nodes nodes.length=true) {x:GNode} (hx:x ∈ nodes):x.Kids.length ≤ 12∧(∀ e ∈ x.Kids,0 ≤ e∧e < nodes.length)∧x.Kids.Nodup:=by
 obtain ⟨i,hi,rfl⟩:=List.mem_iff_getElem.1 hx
 have hn:=(rL h hi).1
 have hg:nodes[i]? = some nodes[i]:=List.getElem?_eq_getElem hi
 refine ⟨oP hn hg,fun e he=>?_,?_⟩
 ·have:=pR hn hg e he;omega
 obtain ⟨_,_,_,h3,_⟩:=rM hn
 rw [List.nodup_iff_pairwise_ne,List.pairwise_iff_getElem]
 intro a b ha hb hab e
 refine (h3 b hb).2.1 ?_
 rw [← e]
 refine List.mem_iff_getElem.2 ⟨a,by simp only [List.length_take];omega,?_⟩
 rw [List.getElem_take]
theorem kc_le {nodes:List GNode} (h:okU nodes nodes.length=true) (k:Nat):kc nodes k ≤ nodes.length:=by
 have key:∀ l:List GNode,(∀ x ∈ l,x.Kids.Nodup)→(l.flatMap (·.Kids)).count (k:Int) ≤ l.length:=by
  intro l
  induction l with
  | nil=>intro _;simp
  | cons x l ih =>
   intro hl
   rw [List.flatMap_cons,List.count_append,List.length_cons]
   have h1:=ih fun y hy=>hl y (by simp [hy])
   have h2:=List.nodup_iff_count.1 (hl x (by simp)) (k:Int)
   omega
 exact key nodes fun x hx=>(uQ h hx).2.2
theorem aDc (nodes:List GNode) (hok:okU nodes nodes.length=true) (hn:nodes.length ≤ 300) (f:List Int × Int→Option ((List Int × Int) ⊕ List Int))
  (hf:∀ (m:List Int) (i:Nat) (hi:i < nodes.length),Bd nodes.length (12 * i) m→f (m,i)=some (.inl (incs 1 nodes[i].Kids m,((i + 1:Nat):Int))))
  (he:∀ m:List Int,f (m,nodes.length)=some (.inr m)):aJ f (List.replicate nodes.length 0,0)=some (incs 1 (aIo nodes) (List.replicate nodes.length 0)):=by
 have:=nP nodes (fun (m:List Int) j=>(m,(j:Int))) (fun j m=>Bd nodes.length (12 * j) m) (fun m x=>.inl (incs 1 x.Kids m)) id f (fun m j hj hI=>by
  left
  refine ⟨_,rfl,hf m j hj hI,?_⟩
  have h12:=(uQ hok (List.getElem_mem hj)).1
  have:=Bd.incs (show (0:Int) ≤ 1 by omega) nodes[j].Kids (by omega) hI
  exact this.mono (by omega)) (fun m _=>he m) (List.replicate nodes.length 0) ⟨by simp,fun v hv=>by
   have:=(List.mem_replicate.1 hv).2
   omega⟩
 rw [nX] at this
 have e:∀ (l:List GNode) (m:List Int),l.foldl (fun m x=>incs 1 x.Kids m) m=incs 1 (l.flatMap (·.Kids)) m:=by
  intro l
  induction l with
  | nil=>intro m;rfl
  | cons x l ih=>intro m;rw [List.foldl_cons,List.flatMap_cons,yX,ih]
 rw [e] at this
 exact this
def aGx (nodes:List GNode):List Int:=incs 1 (aIo nodes) (List.replicate nodes.length 0)
theorem uU (nodes:List GNode):(aGx nodes).length=nodes.length:=by unfold aGx;rw [aBv];simp
theorem sO {nodes:List GNode} (h:okU nodes nodes.length=true) (k:Nat):(aGx nodes).getD k 0=(kc nodes k:Nat):=by
 unfold aGx
 rw [aBw 1 k _ _ (fun e he=>by
  obtain ⟨x,hx,hm⟩:=List.mem_flatMap.1 he
  rw [List.length_replicate]
  exact (uQ h hx).2.1 e hm)]
 have:(List.replicate nodes.length (0:Int)).getD k 0=0:=by
  rw [List.getD_eq_getElem?_getD,List.getElem?_replicate];split<;>rfl
 rw [this]
 unfold kc
 omega
theorem aKe (p:GProgram) (hok:okU p.Nodes p.Nodes.length=true) (hn:p.Nodes.length ≤ 300):aJ (gG p) (List.replicate p.Nodes.length 0,0)=some (aGx p.Nodes):=by
 refine aDc p.Nodes hok hn _ (fun m i hi hI=>?_) (fun m=>by simp [gG])
 obtain ⟨h12,hb,_⟩:=uQ hok (List.getElem_mem hi)
 simp only [gG,aL hi,if_true,bK hi,Option.bind_some]
 rw [aFs p.Nodes.length p.Nodes[i].Kids hb (12 * i) (by omega) (gF p.Nodes[i]) id (fun m j hj hm=>by
  have hbe:=hb _ (List.getElem_mem hj)
  have hg:=hm.getD (by omega) p.Nodes[i].Kids[j].toNat
  simp only [gF,aL hj,if_true,bK hj,Option.bind_some]
  rw [kW hbe.1 (by rw [hm.len];exact hbe.2)]
  have hlt:p.Nodes[i].Kids[j].toNat < m.length:=by rw [hm.len];omega
  have e:m[p.Nodes[i].Kids[j].toNat]=m.getD p.Nodes[i].Kids[j].toNat 0:=by rw [List.getD_eq_getElem?_getD,List.getElem?_eq_getElem hlt];rfl
  rw [e]
  simp only [Option.bind_some,eS,w64 (n:=m.getD p.Nodes[i].Kids[j].toNat 0 + 1) (by omega) (by omega),cY hj (show p.Nodes[i].Kids.length ≤ 1048576 by omega)]) (fun m=>by simp [gF]) m hI]
 simp only [Option.bind_some,id,cY hi (show p.Nodes.length ≤ 1048576 by omega)]
theorem aK0 (nodes:List GNode) (hok:okU nodes nodes.length=true) (hn:nodes.length ≤ 300):mH nodes=some (aGx nodes):=by
 unfold mH
 rw [aEb _ _ _ (by omega) (by omega)]
 simp only [Option.bind_some]
 rw [aDc nodes hok hn (iM nodes) (fun m i hi hI=>by
  obtain ⟨h12,hb,_⟩:=uQ hok (List.getElem_mem hi)
  simp only [iM,aL hi,if_true]
  rw [aFs nodes.length nodes[i].Kids hb (12 * i) (by omega) (iL nodes i) id (fun m j hj hm=>by
   have hbe:=hb _ (List.getElem_mem hj)
   have hg:=hm.getD (by omega) nodes[i].Kids[j].toNat
   simp only [iL,bK hi,aL hj,if_true,bK hj,Option.bind_some]
   rw [kW hbe.1 (by rw [hm.len];exact hbe.2)]
   have hlt:nodes[i].Kids[j].toNat < m.length:=by rw [hm.len];omega
   have e:m[nodes[i].Kids[j].toNat]=m.getD nodes[i].Kids[j].toNat 0:=by rw [List.getD_eq_getElem?_getD,List.getElem?_eq_getElem hlt];rfl
   rw [e]
   simp only [Option.bind_some,eS,w64 (n:=m.getD nodes[i].Kids[j].toNat 0 + 1) (by omega) (by omega),cY hj (show nodes[i].Kids.length ≤ 1048576 by omega)]) (fun m=>by simp [iL,bK hi]) m hI]
  simp only [Option.bind_some,id,cY hi (show nodes.length ≤ 1048576 by omega)]) (fun m=>by simp [iM])]
 rfl
def nE (f:GFn):List Int:=if f.Ret < 0 then [f.Body] else [f.Body,f.Ret]
def tF (p:GProgram) (n:Nat):List Int:=(p.Fns.take n).flatMap nE
def nC (p:GProgram):List Int:=p.Fns.flatMap nE
theorem aAd (p:GProgram):tF p p.Fns.length=nC p:=by unfold tF nC;rw [List.take_length]
theorem yH (p:GProgram) {n:Nat} (h:n < p.Fns.length):tF p (n + 1)=tF p n ++ nE p.Fns[n]:=by
 unfold tF
 rw [List.take_add_one,List.getElem?_eq_getElem h,List.flatMap_append];simp
def pA (p:GProgram) (i:Nat):Bool:=match p.Fns[i]? with
 | some f=>fnB p f && rW p f.Name == i
 | none=>false
theorem xS {p:GProgram} {i:Nat} (h:i < p.Fns.length):pA p i=(fnB p p.Fns[i] && rW p p.Fns[i].Name == i):=by unfold pA;rw [List.getElem?_eq_getElem h]
theorem zF {p:GProgram} {f:GFn} (h:fnB p f=true):(∀ e ∈ nE f,0 ≤ e∧e < p.Nodes.length)∧0 ≤ f.Body∧f.Body < p.Nodes.length∧f.Ret < p.Nodes.length:=by
 unfold fnB at h
 simp only [Bool.and_eq_true] at h
 obtain ⟨_,_,_,_,h5,h6⟩:=h
 obtain ⟨b1,b2,_⟩:=bodyB_iff.1 h5
 have hr:f.Ret < p.Nodes.length:=by
  unfold retB at h6
  split at h6
  ·simp only [beq_iff_eq] at h6;omega
  rw [Bool.and_eq_true,inB_iff] at h6;omega
 refine ⟨?_,b1,b2,hr⟩
 intro e he
 unfold nE at he
 split at he
 ·simp only [List.mem_singleton] at he;subst he;exact ⟨b1,b2⟩
 simp only [List.mem_cons,List.not_mem_nil,or_false] at he
 rcases he with rfl | rfl
 ·exact ⟨b1,b2⟩
 exact ⟨by omega,hr⟩
def oJ:List Int→List Int→Option (List Int)
 | [],m=>some m
 | r :: rs,m=>if m.getD r.toNat 0=0 then oJ rs (m.set r.toNat (-1)) else none
theorem rN:∀ (a b m:List Int),oJ (a ++ b) m=(oJ a m).bind (oJ b)
 | [],b,m=>rfl
 | r :: a,b,m=>by
  simp only [List.cons_append,oJ]
  split
  ·exact rN a b _
  rfl
theorem aAh (n:Nat):∀ (rs m:List Int),m.length=n→(∀ r ∈ rs,0 ≤ r∧r < n) →
  (match oJ rs m with
   | some m'=>(rs.Nodup∧∀ r ∈ rs,m.getD r.toNat 0=0)∧m'.length=n∧∀ k:Nat,m'.getD k 0=if (k:Int) ∈ rs then -1 else m.getD k 0
   | none=>¬ (rs.Nodup∧∀ r ∈ rs,m.getD r.toNat 0=0))
 | [],m,hm,_=>by simp [oJ,hm]
 | r :: rs,m,hm,h=>by
  have hr:=h r (by simp)
  simp only [oJ]
  by_cases h0:m.getD r.toNat 0=0
  ·rw [if_pos h0]
   have ih:=aAh n rs (m.set r.toNat (-1)) (by rw [List.length_set];exact hm) (fun x hx=>h x (by simp [hx]))
   have hget:∀ k:Nat,(m.set r.toNat (-1)).getD k 0=if (k:Int)=r then -1 else m.getD k 0:=by
    intro k
    rw [List.getD_eq_getElem?_getD,List.getElem?_set]
    by_cases hk:r.toNat=k
    ·rw [if_pos hk,if_pos (by omega),if_pos (by omega)];rfl
    rw [if_neg hk,if_neg (by omega),← List.getD_eq_getElem?_getD]
   have hre:∀ x ∈ rs,((x.toNat:Nat):Int)=x:=fun x hx=>by have:=h x (by simp [hx]);omega
   split at ih
   ·rename_i m' hm'
    try rw [hm']
    obtain ⟨⟨i1,i2⟩,i3,i4⟩:=ih
    have hnr:r ∉ rs:=fun hm=>by
     have:=i2 r hm
     rw [hget,hre r hm,if_pos rfl] at this
     omega
    refine ⟨⟨List.nodup_cons.2 ⟨hnr,i1⟩,fun x hx=>?_⟩,i3,fun k=>?_⟩
    ·rcases List.mem_cons.1 hx with rfl | hx
     ·exact h0
     have:=i2 x hx
     rw [hget,hre x hx] at this
     split at this
     ·omega
     exact this
    rw [i4,hget]
    by_cases h1:(k:Int) ∈ rs
    ·rw [if_pos h1,if_pos (by simp [h1])]
    rw [if_neg h1]
    by_cases h2:(k:Int)=r
    ·rw [if_pos h2,if_pos (by simp [h2])]
    rw [if_neg h2,if_neg (by simp [h1,h2])]
   rename_i hm'
   try rw [hm']
   rintro ⟨j1,j2⟩
   rw [List.nodup_cons] at j1
   refine ih ⟨j1.2,fun x hx=>?_⟩
   rw [hget,hre x hx]
   have:¬ x=r:=fun e=>j1.1 (e ▸ hx)
   rw [if_neg this]
   exact j2 x (by simp [hx])
  rw [if_neg h0]
  rintro ⟨_,j2⟩
  exact h0 (j2 r (by simp))
def zY (n:Nat):Bool:=n == 1 || n == 1000
def uL (p:GProgram):Bool:=inB p.Nodes.length 1 300 && (inB p.Fns.length 1 8 && (okU p.Nodes p.Nodes.length && ((List.range p.Fns.length).all (pA p) && (List.range p.Nodes.length).all fun k=>zY (kc p.Nodes k + 1000 * (nC p).count (k:Int)))))
theorem aHj {nodes:List GNode} (h:1 ≤ nodes.length):(tZ nodes ((nodes.length:Int) - 1) == 0) = !(okU nodes nodes.length):=by
 unfold tZ
 have e:((nodes.length:Int) - 1).toNat=nodes.length - 1:=by omega
 rw [e,show nodes.length - 1 + 1=nodes.length by omega]
 cases hok:okU nodes nodes.length with
 | true =>
  rw [if_pos ⟨by omega,by omega,rfl⟩]
  have:=qQ nodes (nodes.length - 1)
  have hne:¬ qW nodes (nodes.length - 1)=0:=by omega
  simp [hne]
 | false=>rw [if_neg (fun h=>by cases h.2.2)];rfl
theorem aH9 (p:GProgram) (f:GFn) (hf:fnB p f=true) (m:List Int) (hm:m.length=p.Nodes.length):aJ (aY f) (m,0)=some (match oJ (nE f) m with | some m'=>.inl m' | none=>.inr (.inr (.inr false))):=by
 obtain ⟨_,b0,b1,r1⟩:=zF hf
 have hl:(([f.Body,f.Ret]:List Int).length:Int)=2:=rfl
 have g0:bD [f.Body,f.Ret] 0=some f.Body:=rfl
 have g1:bD [f.Body,f.Ret] 1=some f.Ret:=rfl
 have d0:decide ((0:Int) < 2)=true:=rfl
 have d1:decide ((1:Int) < 2)=true:=rfl
 have d2:decide ((2:Int) < 2)=false:=rfl
 have w0:IntKind.wrap .i64 ((0:Int) + 1)=1:=rfl
 have w1:IntKind.wrap .i64 ((1:Int) + 1)=2:=rfl
 have hgd:∀ (m:List Int) (v:Int),m.length=p.Nodes.length→0 ≤ v→v < p.Nodes.length→bD m v=some (m.getD v.toNat 0):=fun m v hm h0 h1=>by
  have hlt:v.toNat < m.length:=by omega
  rw [kW h0 (by omega),List.getD_eq_getElem?_getD,List.getElem?_eq_getElem hlt];rfl
 have step1:∀ m:List Int,m.length=p.Nodes.length→aJ (aY f) (m,1)=some (match oJ (if f.Ret < 0 then [] else [f.Ret]) m with | some m'=>.inl m' | none=>.inr (.inr (.inr false))):=by
  intro m hm
  by_cases hr:f.Ret < 0
  ·have:aY f (m,1)=some (.inl (m,2)):=by
    simp only [aY,hl,d1,if_true,g1,Option.bind_some,w1]
    rw [if_pos (by simpa using hr)]
   rw [rO this,if_pos hr,kT (r:=.inl m) (by simp only [aY,hl,d2,Bool.false_eq_true,if_false])]
   rfl
  rw [if_neg hr]
  simp only [oJ]
  by_cases hz:m.getD f.Ret.toNat 0=0
  ·have:aY f (m,1)=some (.inl (m.set f.Ret.toNat (-1),2)):=by
    simp only [aY,hl,d1,if_true,g1,Option.bind_some,w1]
    rw [if_neg (by simpa using hr),hgd m f.Ret hm (by omega) r1]
    simp only [Option.bind_some,hz,eS]
    rfl
   rw [rO this,if_pos hz,kT (r:=.inl (m.set f.Ret.toNat (-1))) (by simp only [aY,hl,d2,Bool.false_eq_true,if_false])]
  have:aY f (m,1)=some (.inr (.inr (.inr (.inr false)))):=by
   simp only [aY,hl,d1,if_true,g1,Option.bind_some,w1]
   rw [if_neg (by simpa using hr),hgd m f.Ret hm (by omega) r1]
   simp only [Option.bind_some]
   rw [if_pos (by simpa using hz)]
  rw [kT this,if_neg hz]
 have hsplit:nE f=f.Body :: (if f.Ret < 0 then [] else [f.Ret]):=by unfold nE;split<;>rfl
 rw [hsplit]
 simp only [oJ]
 have hb:¬ f.Body < 0:=by omega
 by_cases hz:m.getD f.Body.toNat 0=0
 ·have:aY f (m,0)=some (.inl (m.set f.Body.toNat (-1),1)):=by
   simp only [aY,hl,d0,if_true,g0,Option.bind_some,w0]
   rw [if_neg (by simpa using hb),hgd m f.Body hm b0 b1]
   simp only [Option.bind_some,hz,eS]
   rfl
  rw [rO this,if_pos hz,step1 _ (by rw [List.length_set];exact hm)]
 have:aY f (m,0)=some (.inr (.inr (.inr (.inr false)))):=by
  simp only [aY,hl,d0,if_true,g0,Option.bind_some,w0]
  rw [if_neg (by simpa using hb),hgd m f.Body hm b0 b1]
  simp only [Option.bind_some]
  rw [if_pos (by simpa using hz)]
 rw [kT this,if_neg hz]
theorem aD5:∀ (rs m:List Int) {m':List Int},oJ rs m=some m'→m'.length=m.length
 | [],m,m',h=>by cases h;rfl
 | r :: rs,m,m',h=>by
  simp only [oJ] at h
  split at h
  ·rw [aD5 rs _ h];simp
  cases h
theorem aHa (p:GProgram) (hn:p.Nodes.length ≤ 300) (hp:p.Fns.length ≤ 8) (m0:List Int) (hm0:m0.length=p.Nodes.length):aJ (eI p) (m0,0)=some (if (List.range p.Fns.length).all (pA p)=true then (match oJ (nC p) m0 with | some m=>.inl m | none=>.inr false) else .inr false):=by
 obtain ⟨r,h1,h2⟩:=dZ (f:=eI p) (fun s:List Int × Int=>∃ i:Nat,s.2=i∧i ≤ p.Fns.length∧(∀ j,j < i→pA p j=true)∧oJ (tF p i) m0=some s.1) (fun s=>p.Fns.length - s.2.toNat) (fun r=>r=if (List.range p.Fns.length).all (pA p)=true then (match oJ (nC p) m0 with | some m=>.inl m | none=>.inr false) else .inr false) (by
  rintro ⟨m,i⟩ ⟨i,rfl,hi,hg,hm⟩
  simp only at hm hi
  have hml:m.length=p.Nodes.length:=by rw [aD5 _ _ hm];exact hm0
  by_cases hlt:i < p.Fns.length
  ·have hbad:(pA p i=false)→(List.range p.Fns.length).all (pA p)=false:=by
    intro hb
    rw [Bool.eq_false_iff]
    intro h
    rw [List.all_eq_true.1 h i (List.mem_range.2 hlt)] at hb
    cases hb
   have hgi:=xS hlt
   have hcond:(Option.bind (if (!(fnB p p.Fns[i]))=true then some true else some (rW p p.Fns[i].Name != (i:Int))) fun v:Bool=>some v)=some (!(pA p i)):=by
    rw [hgi];cases fnB p p.Fns[i]<;>rfl
   have hcond2:(if (!(fnB p p.Fns[i]))=true then some true else some (rW p p.Fns[i].Name != (i:Int)))=some (!(pA p i)):=by
    rw [hgi];cases fnB p p.Fns[i]<;>rfl
   simp only [eI,aL hlt,if_true,bK hlt,Option.bind_some,aDf p _ (show p.Nodes.length ≤ 1048576 by omega),wW p _ (show p.Fns.length ≤ 1048576 by omega),hcond2]
   cases hgb:pA p i with
   | false =>
    right
    refine ⟨.inr false,rfl,?_⟩
    rw [hbad hgb];rfl
   | true =>
    simp only [Bool.not_true,Bool.false_eq_true,if_false]
    have hfb:fnB p p.Fns[i]=true:=by rw [hgi,Bool.and_eq_true] at hgb;exact hgb.1
    rw [aH9 p _ hfb m hml]
    simp only [Option.bind_some]
    have hsucc:oJ (tF p (i + 1)) m0=oJ (nE p.Fns[i]) m:=by
     rw [yH p hlt,rN,hm];rfl
    cases hmr:oJ (nE p.Fns[i]) m with
    | some m' =>
     left
     refine ⟨(m',((i + 1:Nat):Int)),by simp only [cY hlt (show p.Fns.length ≤ 1048576 by omega)],⟨i + 1,rfl,by omega,fun j hj=>?_,by rw [hsucc];exact hmr⟩,by simp only [Int.toNat_natCast];omega⟩
     by_cases e:j=i
     ·subst e;exact hgb
     exact hg j (by omega)
    | none =>
     right
     refine ⟨.inr false,rfl,?_⟩
     have:oJ (nC p) m0=none:=by
      have hsp:nC p=tF p (i + 1) ++ (p.Fns.drop (i + 1)).flatMap nE:=by
       unfold nC tF
       rw [← List.flatMap_append,List.take_append_drop]
      rw [hsp,rN,hsucc,hmr];rfl
     rw [this];split<;>rfl
  right
  have:i=p.Fns.length:=by omega
  subst this
  refine ⟨.inl m,by simp [eI],?_⟩
  rw [if_pos (List.all_eq_true.2 fun j hj=>hg j (List.mem_range.1 hj)),← aAd,hm]) (m0,0) ⟨0,rfl,by omega,fun j hj=>by omega,rfl⟩
 rw [h1,h2]
theorem yL (n:Nat) (m:List Int) (q:Int→Bool) (hm:m.length=n):m.all q=(List.range n).all fun k=>q (m.getD k 0):=by
 rw [Bool.eq_iff_iff,List.all_eq_true,List.all_eq_true]
 constructor
 ·intro h k hk
  have hk':k < m.length:=by rw [hm];exact List.mem_range.1 hk
  rw [List.getD_eq_getElem?_getD,List.getElem?_eq_getElem hk']
  exact h _ (List.getElem_mem hk')
 intro h v hv
 obtain ⟨k,hk,rfl⟩:=List.mem_iff_getElem.1 hv
 have:=h k (List.mem_range.2 (by omega))
 rw [List.getD_eq_getElem?_getD,List.getElem?_eq_getElem hk] at this
 exact this
theorem aCs {p:GProgram} (h:(List.range p.Fns.length).all (pA p)=true):∀ e ∈ nC p,0 ≤ e∧e < p.Nodes.length:=by
 intro e he
 obtain ⟨f,hf,hm⟩:=List.mem_flatMap.1 he
 obtain ⟨i,hi,rfl⟩:=List.mem_iff_getElem.1 hf
 have:=List.all_eq_true.1 h i (List.mem_range.2 hi)
 rw [xS hi,Bool.and_eq_true] at this
 exact (zF this.1).1 e hm
theorem wF (p:GProgram) (hn:p.Nodes.length ≤ 1048576) (hp:p.Fns.length ≤ 1048576):jW p=some (uL p):=by
 unfold jW uL
 simp only [gC,Option.bind_some,kB hn,tO p.Nodes hn]
 cases h1:inB p.Nodes.length 1 300 with
 | false=>rfl
 | true =>
  have h1':=inB_iff.1 h1
  cases h2:inB p.Fns.length 1 8 with
  | false=>rfl
  | true =>
   have h2':=inB_iff.1 h2
   simp only [Bool.not_true,Bool.false_eq_true,if_false,Bool.true_and,Option.bind_some,aHj (show 1 ≤ p.Nodes.length by omega)]
   cases h3:okU p.Nodes p.Nodes.length with
   | false=>rfl
   | true =>
    simp only [Bool.not_true,Bool.false_eq_true,if_false,Bool.true_and]
    rw [aEb _ _ _ (by omega) (by omega)]
    simp only [Option.bind_some]
    rw [aKe p h3 (by omega)]
    simp only [Option.bind_some]
    rw [aHa p (by omega) (by omega) _ (uU _)]
    cases h4:(List.range p.Fns.length).all (pA p) with
    | false=>rfl
    | true =>
     simp only [if_true,Option.bind_some,Bool.true_and]
     have hb:=aCs h4
     have hsp:=aAh p.Nodes.length (nC p) (aGx p.Nodes) (uU _) hb
     have hmet:∀ r ∈ nC p,(aGx p.Nodes).getD r.toNat 0=(kc p.Nodes r.toNat:Nat):=fun r _=>sO h3 _
     cases hmr:oJ (nC p) (aGx p.Nodes) with
     | none =>
      rw [hmr] at hsp
      simp only at hsp ⊢
      congr 1
      rw [eq_comm,Bool.eq_false_iff]
      intro hall
      rw [List.all_eq_true] at hall
      refine hsp ⟨List.nodup_iff_count.2 fun a=>?_,fun r hr=>?_⟩
      ·by_cases ha:a ∈ nC p
       ·have hab:=hb a ha
        have:=hall a.toNat (List.mem_range.2 (by omega))
        rw [show ((a.toNat:Nat):Int)=a by omega] at this
        simp only [zY,Bool.or_eq_true,beq_iff_eq] at this
        omega
       rw [List.count_eq_zero.2 ha];omega
      have hrb:=hb r hr
      have:=hall r.toNat (List.mem_range.2 (by omega))
      rw [show ((r.toNat:Nat):Int)=r by omega] at this
      simp only [zY,Bool.or_eq_true,beq_iff_eq] at this
      have hc:=List.count_pos_iff.2 hr
      rw [sO h3]
      omega
     | some m =>
      rw [hmr] at hsp
      obtain ⟨⟨s1,s2⟩,s3,s4⟩:=hsp
      simp only
      rw [rP m (fun v=>v == 1 || v == -1) (gE m) (fun k hk=>by
       simp only [gE,aL hk,if_true,bK hk,Option.bind_some,cY hk (show m.length ≤ 1048576 by omega)]
       by_cases e1:m[k]=1
       ·simp [e1]
       by_cases e2:m[k] = -1<;>simp [e1,e2]) (by simp [gE])]
      have hfin:m.all (fun v=>v == 1 || v == -1)=(List.range p.Nodes.length).all fun k=>zY (kc p.Nodes k + 1000 * (nC p).count (k:Int)):=by
       rw [yL p.Nodes.length m _ s3,Bool.eq_iff_iff,List.all_eq_true,List.all_eq_true]
       have each:∀ k,k < p.Nodes.length→((m.getD k 0 == 1 || m.getD k 0 == -1)=true ↔ zY (kc p.Nodes k + 1000 * (nC p).count (k:Int))=true):=by
        intro k hk
        have hkc:=kc_le h3 k
        rw [s4,sO h3]
        simp only [zY,Bool.or_eq_true,beq_iff_eq]
        by_cases hm:(k:Int) ∈ nC p
        ·rw [if_pos hm]
         have hc:=List.count_pos_iff.2 hm
         have hc1:=List.nodup_iff_count.1 s1 (k:Int)
         have:=s2 _ hm
         rw [Int.toNat_natCast,sO h3] at this
         omega
        rw [if_neg hm,List.count_eq_zero.2 hm]
        omega
       constructor
       ·intro h k hk;exact (each k (List.mem_range.1 hk)).1 (h k hk)
       intro h k hk;exact (each k (List.mem_range.1 hk)).2 (h k hk)
      rw [hfin]
      cases (List.range p.Nodes.length).all fun k=>zY (kc p.Nodes k + 1000 * (nC p).count (k:Int))<;>rfl
theorem aCl (p:GProgram) (hn:p.Nodes.length ≤ 300) (hp:p.Fns.length ≤ 8) (C:Int) (hC:0 ≤ C) (hC2:C ≤ 1000000) (m:List Int) (hm:Bd p.Nodes.length C m) (i:Nat) (hi:i < p.Fns.length):cX p (m,i)=some (if pA p i=true then .inl (incs 1000 (nE p.Fns[i]) m,((i + 1:Nat):Int)) else .inr (.inr false)):=by
 simp only [cX,aL hi,if_true,aBa p i hi (show p.Nodes.length ≤ 1048576 by omega) (show p.Fns.length ≤ 1048576 by omega),Option.bind_some,bK hi]
 rw [← xS hi]
 cases hg:pA p i with
 | false=>rfl
 | true =>
  simp only [Bool.not_true,Bool.false_eq_true,if_false,if_true]
  have hfb:fnB p p.Fns[i]=true:=by rw [xS hi,Bool.and_eq_true] at hg;exact hg.1
  obtain ⟨_,b0,b1,r1⟩:=zF hfb
  generalize p.Fns[i]=f at *
  have hgd:∀ (m:List Int) (v:Int),m.length=p.Nodes.length→0 ≤ v→v < p.Nodes.length→bD m v=some (m.getD v.toNat 0):=fun m v hm h0 h1=>by
   have hlt:v.toNat < m.length:=by omega
   rw [kW h0 (by omega),List.getD_eq_getElem?_getD,List.getElem?_eq_getElem hlt];rfl
  have g0:=hm.getD hC f.Body.toNat
  have hm1:=hm.set hC (show (0:Int) ≤ 1000 by omega) f.Body.toNat
  have g1:=hm1.getD (by omega) f.Ret.toNat
  rw [hgd m f.Body hm.len b0 b1]
  simp only [Option.bind_some,eS,w64 (n:=m.getD f.Body.toNat 0 + 1000) (by omega) (by omega),cY hi (show p.Fns.length ≤ 1048576 by omega)]
  unfold nE
  by_cases hr:f.Ret < 0
  ·have hr':¬ f.Ret ≥ 0:=by omega
   rw [if_neg (by simpa using hr'),if_pos hr]
   rfl
  have hr':f.Ret ≥ 0:=by omega
  rw [if_pos (by simpa using hr'),if_neg hr,hgd _ f.Ret hm1.len (by omega) r1]
  simp only [Option.bind_some,eS]
  rw [w64 (by omega) (by omega)]
  rfl
theorem aGm (p:GProgram) (hn:p.Nodes.length ≤ 300) (hp:p.Fns.length ≤ 8) (m0:List Int) (C:Int) (hC:0 ≤ C) (hC2:C ≤ 10000) (hm0:Bd p.Nodes.length C m0):aJ (cX p) (m0,0)=some (if (List.range p.Fns.length).all (pA p)=true then .inl (incs 1000 (nC p) m0) else .inr false):=by
 obtain ⟨r,h1,h2⟩:=dZ (f:=cX p) (fun s:List Int × Int=>∃ i:Nat,s.2=i∧i ≤ p.Fns.length∧(∀ j,j < i→pA p j=true)∧s.1=incs 1000 (tF p i) m0∧Bd p.Nodes.length (C + 2000 * i) s.1) (fun s=>p.Fns.length - s.2.toNat) (fun r=>r=if (List.range p.Fns.length).all (pA p)=true then .inl (incs 1000 (nC p) m0) else .inr false) (by
  rintro ⟨m,i⟩ ⟨i,rfl,hi,hg,hm,hb⟩
  simp only at hm hi hb
  by_cases hlt:i < p.Fns.length
  ·have hst:=aCl p hn hp (C + 2000 * i) (by omega) (by omega) m hb i hlt
   cases hgb:pA p i with
   | false =>
    right
    refine ⟨.inr false,by rw [hst,hgb];rfl,?_⟩
    have:(List.range p.Fns.length).all (pA p)=false:=by
     rw [Bool.eq_false_iff]
     intro h
     rw [List.all_eq_true.1 h i (List.mem_range.2 hlt)] at hgb
     cases hgb
    rw [this];rfl
   | true =>
    left
    refine ⟨_,by rw [hst,hgb,if_pos rfl],⟨i + 1,rfl,by omega,fun j hj=>?_,?_,?_⟩,by simp only [Int.toNat_natCast];omega⟩
    ·by_cases e:j=i
     ·subst e;exact hgb
     exact hg j (by omega)
    ·simp only
     rw [yH p hlt,yX,← hm]
    have:=Bd.incs (show (0:Int) ≤ 1000 by omega) (nE p.Fns[i]) (by omega) hb
    refine this.mono ?_
    have:(nE p.Fns[i]).length ≤ 2:=by unfold nE;split<;>simp
    omega
  right
  have:i=p.Fns.length:=by omega
  subst this
  refine ⟨.inl m,by simp [cX],?_⟩
  rw [if_pos (List.all_eq_true.2 fun j hj=>hg j (List.mem_range.1 hj)),← aAd,hm]) (m0,0) ⟨0,rfl,by omega,fun j hj=>by omega,rfl,hm0.mono (by omega)⟩
 rw [h1,h2]
theorem lQ (p:GProgram) (hn:p.Nodes.length ≤ 1048576) (hp:p.Fns.length ≤ 1048576):gY p=some (uL p):=by
 unfold gY uL
 simp only [gX,Option.bind_some,kB hn]
 cases h1:inB p.Nodes.length 1 300 with
 | false=>rfl
 | true =>
  have h1':=inB_iff.1 h1
  cases h2:inB p.Fns.length 1 8 with
  | false=>rfl
  | true =>
   have h2':=inB_iff.1 h2
   have hc:((p.Nodes.length:Int) - 1)=((p.Nodes.length - 1:Nat):Int):=by omega
   simp only [Bool.not_true,Bool.false_eq_true,if_false,Bool.true_and,Option.bind_some]
   rw [hc,uH p.Nodes hn _ (by omega)]
   simp only [Option.bind_some,vR]
   rw [show p.Nodes.length - 1 + 1=p.Nodes.length by omega,kB hn,hc,uZ,sM p.Nodes (show p.Nodes.length - 1 < p.Nodes.length by omega),show p.Nodes.length - 1 + 1=p.Nodes.length by omega]
   simp only [Option.bind_some]
   cases h3:okU p.Nodes p.Nodes.length with
   | false=>rfl
   | true =>
    have hpos:=qQ p.Nodes (p.Nodes.length - 1)
    have hne:¬ qW p.Nodes (p.Nodes.length - 1)=0:=by omega
    simp only [if_true,Bool.true_and]
    rw [if_neg (by simpa using hne),aK0 p.Nodes h3 (by omega)]
    simp only [Option.bind_some]
    have hB:Bd p.Nodes.length 300 (aGx p.Nodes):=⟨uU _,fun v hv=>by
     obtain ⟨k,hk,rfl⟩:=List.mem_iff_getElem.1 hv
     have h:=sO h3 k
     rw [List.getD_eq_getElem?_getD,List.getElem?_eq_getElem hk,Option.getD_some] at h
     have:=kc_le h3 k
     omega⟩
    rw [aGm p (by omega) (by omega) _ 300 (by omega) (by omega) hB]
    cases h4:(List.range p.Fns.length).all (pA p) with
    | false=>rfl
    | true =>
     simp only [if_true,Option.bind_some,Bool.true_and]
     have hb:=aCs h4
     have hl:(incs 1000 (nC p) (aGx p.Nodes)).length=p.Nodes.length:=by rw [aBv,uU]
     have hval:∀ k,(incs 1000 (nC p) (aGx p.Nodes)).getD k 0=((kc p.Nodes k + 1000 * (nC p).count (k:Int):Nat):Int):=by
      intro k
      rw [aBw 1000 k _ _ (fun e he=>by rw [uU];exact hb e he),sO h3]
      omega
     generalize hmm:incs 1000 (nC p) (aGx p.Nodes)=m at *
     rw [rP m (fun v=>v == 1 || v == 1000) (eH m) (fun k hk=>by
      simp only [eH,aL hk,if_true,bK hk,Option.bind_some,cY hk (show m.length ≤ 1048576 by omega)]
      by_cases e1:m[k]=1
      ·simp [e1]
      by_cases e2:m[k]=1000<;>simp [e1,e2]) (by simp [eH])]
     have hfin:m.all (fun v=>v == 1 || v == 1000)=(List.range p.Nodes.length).all fun k=>zY (kc p.Nodes k + 1000 * (nC p).count (k:Int)):=by
      rw [yL p.Nodes.length m _ hl]
      congr 1
      funext k
      rw [hval,Bool.eq_iff_iff]
      simp only [zY,Bool.or_eq_true,beq_iff_eq]
      omega
     rw [hfin]
     cases (List.range p.Nodes.length).all fun k=>zY (kc p.Nodes k + 1000 * (nC p).count (k:Int))<;>rfl
end Go.OM
namespace Go.OM
theorem aG3 {α:Type} {n:Nat} {l:List α} (h:l.length ≤ 1048576) (hn:n ≤ 64):cE n [] l=some l:=aMc h hn
def NL (l:List GNode):Prop:=∀ x ∈ l,GNode.le 1048576 x
theorem aJ4 {α ρ:Type} (l:List α) (hl:l.length ≤ 1048576) (f:List α × Int→Option ((List α × Int) ⊕ ρ)) (fin:List α→ρ)
  (hf:∀ (o:List α) (k:Nat) (hk:k < l.length),o.length=k→f (o,k)=some (.inl (o ++ [l[k]],((k + 1:Nat):Int)))) (he:∀ o:List α,f (o,l.length)=some (.inr (fin o))):aJ f ([],0)=some (fin l):=by
 obtain ⟨r,h1,h2⟩:=dZ (f:=f) (fun s:List α × Int=>∃ k:Nat,s.2=k∧k ≤ l.length∧s.1=l.take k) (fun s=>l.length - s.2.toNat) (fun r=>r=fin l) (by
  rintro ⟨o,i⟩ ⟨k,rfl,hk,ho⟩
  simp only at ho hk
  by_cases hlt:k < l.length
  ·left
   refine ⟨_,hf o k hlt (by rw [ho,List.length_take];omega),⟨k + 1,rfl,by omega,?_⟩,by simp only [Int.toNat_natCast];omega⟩
   simp only
   rw [ho,List.take_add_one,List.getElem?_eq_getElem hlt];rfl
  right
  have:k=l.length:=by omega
  subst this
  rw [List.take_length] at ho
  exact ⟨_,he o,by rw [ho]⟩) ([],0) ⟨0,rfl,by omega,by simp⟩
 rw [h1,h2]
theorem aCn (l:List GNode) (hl:l.length ≤ 1048576) (hN:NL l):kN l=some l:=by
 unfold kN
 rw [aJ4 l hl (gR l) (fun o=>o) (fun o k hk ho=>by
  have hk2:=(hN _ (List.getElem_mem hk)).2
  simp only [gR,aL hk,if_true,bK hk,Option.bind_some,aG3 hk2 (show 8 ≤ 64 by omega),app1g (show o.length ≤ 1048576 by omega) (show 56 ≤ 64 by omega),cY hk hl]) (fun o=>by simp [gR])]
 rfl
theorem aH4 (p:GProgram) (h:GProgram.le 1048576 p):mK p=some p:=by
 obtain ⟨⟨hn,hN⟩,hF,hFl⟩:=h
 unfold mK
 rw [aCn _ hn hN]
 simp only [Option.bind_some]
 obtain ⟨r,h1,h2⟩:=dZ (f:=iN p) (fun s:Int × GProgram=>∃ k:Nat,s.1=k∧k ≤ p.Fns.length∧s.2=⟨p.Nodes,p.Fns.take k⟩) (fun s=>p.Fns.length - s.1.toNat) (fun r=>r=p) (by
  rintro ⟨i,v⟩ ⟨k,rfl,hk,rfl⟩
  try simp only at hk
  by_cases hlt:k < p.Fns.length
  ·left
   have hpar:=(hFl _ (List.getElem_mem hlt)).2.1
   refine ⟨(((k + 1:Nat):Int),⟨p.Nodes,p.Fns.take (k + 1)⟩),?_,⟨k + 1,rfl,by omega,rfl⟩,by simp only [Int.toNat_natCast];omega⟩
   simp only [iN,aL hlt,if_true,bK hlt,Option.bind_some,aG3 hpar (show 24 ≤ 64 by omega),app1g (show (p.Fns.take k).length ≤ 1048576 by rw [List.length_take];omega) (show 64 ≤ 64 by omega),cY hlt hF]
   rw [List.take_add_one,List.getElem?_eq_getElem hlt];rfl
  right
  have:k=p.Fns.length:=by omega
  subst this
  refine ⟨⟨p.Nodes,p.Fns.take p.Fns.length⟩,by simp [iN],?_⟩
  rw [List.take_length]) (0,⟨p.Nodes,[]⟩) ⟨0,rfl,by omega,by simp⟩
 rw [h1,h2];rfl
end Go.OM
namespace Go.OM
open Classical in
noncomputable def aCq (n:Nat) (P:Nat→Prop):List Int:=((List.range n).filter fun j=>decide (P j)).map fun k:Nat=>(k:Int)
theorem mem_setL {n:Nat} {P:Nat→Prop} {x:Int}:x ∈ aCq n P ↔ 0 ≤ x∧x < n∧P x.toNat:=by
 unfold aCq
 rw [List.mem_map]
 constructor
 ·rintro ⟨j,hj,rfl⟩
  obtain ⟨h1,h2⟩:=List.mem_filter.1 hj
  have:=List.mem_range.1 h1
  exact ⟨by omega,by omega,by simpa using h2⟩
 rintro ⟨h1,h2,h3⟩
 refine ⟨x.toNat,List.mem_filter.2 ⟨List.mem_range.2 (by omega),by simpa using h3⟩,by omega⟩
theorem aBf (n:Nat) (P:Nat→Prop):(aCq n P).Pairwise (· < ·):=by
 unfold aCq
 refine List.Pairwise.map _ (fun a b h=>?_) (List.Pairwise.filter _ List.pairwise_lt_range)
 omega
theorem sP {l:List Int} (h:l.Pairwise (· < ·)):l.Nodup:=by
 rw [List.nodup_iff_pairwise_ne]
 exact h.imp fun h=>by omega
theorem aD7 {a b:List Int} (ha:a.Pairwise (· < ·)) (hb:b.Pairwise (· < ·)) (h:∀ x,x ∈ a ↔ x ∈ b):a=b:=by
 refine List.Perm.eq_of_pairwise (le:=fun x y:Int=>x < y) (fun x y _ _ h1 h2=>by omega) ha hb ?_
 exact (List.perm_ext_iff_of_nodup (sP ha) (sP hb)).2 h
theorem aAb {n:Nat} {P Q:Nat→Prop} (h:∀ j,j < n→(P j ↔ Q j)):aCq n P=aCq n Q:=by
 refine aD7 (aBf _ _) (aBf _ _) fun x=>?_
 rw [mem_setL,mem_setL]
 constructor
 ·rintro ⟨h1,h2,h3⟩;exact ⟨h1,h2,(h _ (by omega)).1 h3⟩
 rintro ⟨h1,h2,h3⟩;exact ⟨h1,h2,(h _ (by omega)).2 h3⟩
theorem aI3 {n:Nat} {P:Nat→Prop} {l:List Int} (hl:l.Pairwise (· < ·)) (h:∀ x,x ∈ l ↔ 0 ≤ x∧x < n∧P x.toNat):l=aCq n P:=aD7 hl (aBf _ _) fun x=>by rw [h,mem_setL]
theorem aCp {n:Nat} {P:Nat→Prop} {l:List Int} (hl:l.Nodup) (h:∀ x,x ∈ l ↔ 0 ≤ x∧x < n∧P x.toNat):(l.mergeSort fun x y=>decide (x ≤ y))=aCq n P:=by
 have hp:=List.mergeSort_perm l (fun x y=>decide (x ≤ y))
 have hs:=List.pairwise_mergeSort (le:=fun x y:Int=>decide (x ≤ y)) (fun a b c h1 h2=>by simp only [decide_eq_true_eq] at *;omega) (fun a b=>by simp only [Bool.or_eq_true,decide_eq_true_eq];omega) l
 have hn:(l.mergeSort fun x y=>decide (x ≤ y)).Nodup:=hp.nodup_iff.2 hl
 refine aI3 ?_ fun x=>by rw [← h];exact hp.mem_iff
 rw [List.nodup_iff_pairwise_ne] at hn
 exact (hs.and hn).imp fun ⟨h1,h2⟩=>by simp only [decide_eq_true_eq] at h1;omega
theorem kS {n:Nat} {l:List Int} (hl:l.Nodup) (hb:∀ x ∈ l,0 ≤ x∧x < n):l.length ≤ n:=by
 have:=hl.length_le_of_subset (l₂:=(List.range n).map fun k:Nat=>(k:Int)) fun x hx=>by
  have:=hb x hx
  exact List.mem_map.2 ⟨x.toNat,List.mem_range.2 (by omega),by omega⟩
 simpa using this
theorem aCo {l:List Int} (h:l.length ≤ 1048576):sort_Ints l=some (l.mergeSort fun x y=>decide (x ≤ y)):=by
 unfold sort_Ints;rw [if_pos (by omega)]
theorem wM {s:List Int} (h:s.Nodup) (x:Int):(xV s x).Nodup:=by
 unfold xV
 split
 ·exact h
 rename_i hc
 rw [List.nodup_append]
 refine ⟨h,by simp,fun a ha b hb=>?_⟩
 simp only [List.mem_singleton] at hb
 subst hb
 rintro rfl
 exact hc (by simpa using ha)
theorem nL:∀ (l:List Int) {s:List Int},s.Nodup→(l.foldl xV s).Nodup
 | [],s,h=>h
 | x :: l,s,h=>nL l (wM h x)
theorem aKw (s:List Int) (x:Int):∃ t,xV s x=s ++ t:=by
 unfold xV
 split
 ·exact ⟨[],by simp⟩
 exact ⟨[x],rfl⟩
theorem tY:∀ (l:List Int) (s:List Int),∃ t,l.foldl xV s=s ++ t
 | [],s=>⟨[],by simp⟩
 | x :: l,s=>by
  obtain ⟨t,ht⟩:=aKw s x
  obtain ⟨t',ht'⟩:=tY l (xV s x)
  exact ⟨t ++ t',by rw [List.foldl_cons,ht',ht,List.append_assoc]⟩
theorem aEm {n:Nat} {l s:List Int} (hs:∀ x ∈ s,0 ≤ x∧x < (n:Int)) (hl:∀ x ∈ l,0 ≤ x∧x < (n:Int)):∀ x ∈ l.foldl xV s,0 ≤ x∧x < (n:Int):=fun x hx=>by
 rcases (hE x l s).1 hx with h | h
 ·exact hs x h
 exact hl x h
theorem aG5 {ρ:Type} (n:Nat) (l:List Int) (hl:∀ x ∈ l,0 ≤ x∧x < (n:Int)) (f:List Int × Int→Option ((List Int × Int) ⊕ ρ)) (fin:List Int→ρ)
  (hf:∀ (o:List Int) (k:Nat) (hk:k < l.length),o.length ≤ n→f (o,k)=some (.inl (xV o l[k],((k + 1:Nat):Int))))
  (he:∀ o,f (o,l.length)=some (.inr (fin o))) (o:List Int) (ho:o.Nodup) (hb:∀ x ∈ o,0 ≤ x∧x < (n:Int)):aJ f (o,0)=some (fin (l.foldl xV o)):=by
 have:=nP l (fun (s:List Int) k=>(s,(k:Int))) (fun k s=>s.Nodup∧∀ x ∈ s,0 ≤ x∧x < (n:Int)) (fun s e=>.inl (xV s e)) fin f (fun s k hk hI=>by
  left
  refine ⟨_,rfl,hf s k hk (kS hI.1 hI.2),wM hI.1 _,fun x hx=>?_⟩
  rcases mem_addL.1 hx with h | h
  ·exact hI.2 x h
  subst h;exact hl _ (List.getElem_mem hk)) (fun s _=>he s) o ⟨ho,hb⟩
 rw [nX] at this
 exact this
theorem aKv {ρ:Type} (n:Nat) (root:Nat) (hroot:root < n) (next:Nat→List Int) (hnx:∀ i,Reach next root i→∀ m ∈ next i,0 ≤ m∧m < (n:Int)) (f:List Int × Int→Option ((List Int × Int) ⊕ ρ)) (fin:List Int→ρ)
  (hf:∀ (o:List Int) (k:Nat) (hk:k < o.length),o.Nodup→(∀ x ∈ o,0 ≤ x∧x < (n:Int))→Reach next root o[k].toNat→f (o,k)=some (.inl ((next o[k].toNat).foldl xV o,((k + 1:Nat):Int))))
  (he:∀ o:List Int,o.length ≤ n→f (o,o.length)=some (.inr (fin o))):∃ o:List Int,aJ f ([(root:Int)],0)=some (fin o)∧o.Nodup∧∀ x,x ∈ o ↔ 0 ≤ x∧x < (n:Int)∧Reach next root x.toNat:=by
 obtain ⟨r,h1,o,h2,h3⟩:=dZ (f:=f) (fun s:List Int × Int=>∃ i:Nat,s.2=i∧i ≤ s.1.length∧s.1.Nodup∧(root:Int) ∈ s.1∧(∀ x ∈ s.1,0 ≤ x∧x < (n:Int)∧Reach next root x.toNat)∧∀ (j:Nat) (hj:j < s.1.length),j < i→∀ m ∈ next s.1[j].toNat,m ∈ s.1) (fun s=>n - s.2.toNat) (fun r=>∃ o,r=fin o∧o.Nodup∧∀ x,x ∈ o ↔ 0 ≤ x∧x < (n:Int)∧Reach next root x.toNat) (by
  rintro ⟨o,i⟩ ⟨i,rfl,hi,hn,hr,hb,hc⟩
  simp only at hi hn hr hb hc
  have hb2:∀ x ∈ o,0 ≤ x∧x < (n:Int):=fun x hx=>⟨(hb x hx).1,(hb x hx).2.1⟩
  have hlen:=kS hn hb2
  by_cases hlt:i < o.length
  ·left
   have hbi:=hb _ (List.getElem_mem hlt)
   have hnb:=hnx _ hbi.2.2
   refine ⟨_,hf o i hlt hn hb2 hbi.2.2,⟨i + 1,rfl,?_,nL _ hn,?_,?_,?_⟩,by simp only [Int.toNat_natCast];omega⟩
   ·obtain ⟨t,ht⟩:=tY (next o[i].toNat) o
    simp only [ht,List.length_append];omega
   ·exact (hE _ _ _).2 (.inl hr)
   ·intro x hx
    rcases (hE _ _ _).1 hx with h | h
    ·exact hb x h
    exact ⟨(hnb x h).1,(hnb x h).2,.step hbi.2.2 h⟩
   intro j hj hji m hm
   obtain ⟨t,ht⟩:=tY (next o[i].toNat) o
   simp only at hj hm ⊢
   have hjo:j < o.length:=by omega
   have hg:((next o[i].toNat).foldl xV o)[j]=o[j]:=by
    simp only [ht]
    exact List.getElem_append_left hjo
   rw [hg] at hm
   rw [hE]
   by_cases e:j=i
   ·subst e;exact .inr hm
   exact .inl (hc j hjo (by omega) m hm)
  ·right
   have:i=o.length:=by omega
   subst this
   refine ⟨fin o,he o hlen,o,rfl,hn,fun x=>⟨hb x,fun ⟨h1,h2,h3⟩=>?_⟩⟩
   have key:∀ k,Reach next root k→(k:Int) ∈ o:=by
    intro k hk
    induction hk with
    | base=>exact hr
    | step hk' hm ih =>
     obtain ⟨j,hj,he⟩:=List.mem_iff_getElem.1 ih
     rename_i a m
     have hm2:m ∈ next o[j].toNat:=by rw [he,Int.toNat_natCast];exact hm
     have:=hc j hj hj m hm2
     have hmb:=hb m this
     rw [show ((m.toNat:Nat):Int)=m by omega]
     exact this
   have:=key _ h3
   rwa [show ((x.toNat:Nat):Int)=x by omega] at this) ([(root:Int)],0) ⟨0,rfl,by simp,by simp,by simp,fun x hx=>by
  simp only [List.mem_singleton] at hx
  subst hx
  exact ⟨by omega,by omega,by rw [Int.toNat_natCast];exact .base⟩,fun j hj h=>by omega⟩
 exact ⟨o,by rw [h1,h2],h3⟩
theorem aI4 {ρ:Type} (n:Nat) (hn:n ≤ 1048576) (p:Nat→Bool) (f:List Int × Int→Option ((List Int × Int) ⊕ ρ)) (fin:List Int→ρ)
  (hf:∀ (o:List Int) (k:Nat),o.length ≤ 1048576→k < n→f (o,k)=some (.inl ((if p k=true then o ++ [(k:Int)] else o),((k + 1:Nat):Int))))
  (he:∀ o:List Int,f (o,n)=some (.inr (fin o))):aJ f ([],0)=some (fin (aCq n fun k=>p k=true)):=by
 obtain ⟨r,h1,h2⟩:=dZ (f:=f) (fun s:List Int × Int=>∃ k:Nat,s.2=k∧k ≤ n∧s.1=((List.range k).filter p).map fun k:Nat=>(k:Int)) (fun s=>n - s.2.toNat) (fun r=>r=fin (((List.range n).filter p).map fun k:Nat=>(k:Int))) (by
  rintro ⟨o,i⟩ ⟨k,rfl,hk,ho⟩
  simp only at ho hk
  by_cases hlt:k < n
  ·left
   have hol:o.length ≤ 1048576:=by
    rw [ho,List.length_map]
    have:=List.length_filter_le p (List.range k)
    rw [List.length_range] at this
    omega
   refine ⟨_,hf o k hol hlt,⟨k + 1,rfl,by omega,?_⟩,by simp only [Int.toNat_natCast];omega⟩
   simp only
   rw [List.range_succ,List.filter_append,List.map_append,← ho]
   cases hp:p k<;>simp [hp]
  right
  have:k=n:=by omega
  subst this
  exact ⟨_,he o,by rw [ho]⟩) ([],0) ⟨0,rfl,by omega,rfl⟩
 rw [h1,h2]
 have:((List.range n).filter p).map (fun k:Nat=>(k:Int))=aCq n fun k=>p k=true:=by
  unfold aCq
  congr 1
  refine List.filter_congr fun x _=>?_
  simp
 rw [this]
def rT (nodes:List GNode) (i:Nat):List Int:=match nodes[i]? with
 | some x=>x.Kids
 | none=>[]
theorem aBr {nodes:List GNode} {i:Nat} (h:i < nodes.length):rT nodes i=nodes[i].Kids:=by unfold rT;rw [List.getElem?_eq_getElem h]
theorem yV {nodes:List GNode} {i:Nat} (h:oI nodes i=true):(rT nodes i).length ≤ 12∧∀ m ∈ rT nodes i,0 ≤ m∧m < i:=by
 have hi:i < nodes.length:=(rM h).1
 have hg:nodes[i]? = some nodes[i]:=List.getElem?_eq_getElem hi
 rw [aBr hi]
 exact ⟨oP h hg,pR h hg⟩
theorem aAz {nodes:List GNode} {k:Nat} (h:okU nodes (k + 1)=true) {j:Nat} (r:Reach (rT nodes) k j):j ≤ k:=by
 induction r with
 | base=>exact Nat.le_refl _
 | step _ hm ih =>
  have:=(yV (rL h (by omega)).1).2 _ hm
  omega
noncomputable def jQ (nodes:List GNode) (k:Int):List Int:=if tZ nodes k=0 then [] else aCq nodes.length (Reach (rT nodes) k.toNat)
theorem nN {nodes:List GNode} {k x:Int} (h:x ∈ jQ nodes k):0 ≤ x∧x < nodes.length:=by
 unfold jQ at h
 split at h
 ·cases h
 have:=mem_setL.1 h;exact ⟨this.1,this.2.1⟩
theorem xY (nodes:List GNode) (k:Int):(jQ nodes k).Pairwise (· < ·):=by
 unfold jQ
 split
 ·simp
 exact aBf _ _
theorem aBx (nodes:List GNode) (hn:nodes.length ≤ 1048576) (k:Nat) (hk:k < nodes.length) (hok:okU nodes (k + 1)=true):pT nodes k=some (aCq nodes.length (Reach (rT nodes) k)):=by
 unfold pT
 have hnx:∀ i,Reach (rT nodes) k i→(rT nodes i).length ≤ 12∧∀ m ∈ rT nodes i,0 ≤ m∧m < (i:Int):=fun i hr=>yV (rL hok (by have:=aAz hok hr;omega)).1
 obtain ⟨o,g1,g2,g3⟩:=aKv nodes.length k hk (rT nodes) (fun i hr m hm=>by
  have:=(hnx i hr).2 m hm
  have:=aAz hok hr
  omega) (jL nodes) (fun o=>o) (fun o i hi hnd hb hr=>by
   have hbi:=hb _ (List.getElem_mem hi)
   have hlt:o[i].toNat < nodes.length:=by omega
   have hge:bD nodes o[i]=some nodes[o[i].toNat]:=kW hbi.1 hbi.2
   have hol:=kS hnd hb
   obtain ⟨hkl,hkb⟩:=hnx _ hr
   have hle:=aAz hok hr
   have hkn:=aBr hlt
   simp only [jL,aL hi,if_true,bK hi,Option.bind_some,hge]
   rw [hkn] at hkl hkb ⊢
   generalize nodes[o[i].toNat]=x at *
   rw [aG5 nodes.length x.Kids (fun m hm=>by have:=hkb m hm;omega) (jK x) (fun o=>o) (fun o k hk ho=>by
    have happ:cE 8 o [x.Kids[k]]=some (o ++ [x.Kids[k]]):=app1 (by omega) (by omega)
    simp only [jK,aL hk,if_true,bK hk,Option.bind_some,zD o _ (by omega),cY hk (show x.Kids.length ≤ 1048576 by omega),happ]
    unfold xV
    cases o.contains x.Kids[k]<;>rfl) (fun o=>by simp [jK]) o hnd hb]
   simp only [Option.bind_some,cY hi (show o.length ≤ 1048576 by omega)]) (fun o ho=>by simp [jL])
 rw [g1]
 simp only [Option.bind_some]
 have hol:o.length ≤ 1048576:=by
  have:=kS (n:=nodes.length) g2 fun x hx=>⟨((g3 x).1 hx).1,((g3 x).1 hx).2.1⟩
  omega
 rw [aCo hol]
 simp only [Option.bind_some]
 rw [aCp g2 g3]
theorem aC0 (p:GProgram) (hn:p.Nodes.length ≤ 1048576) (k:Int):pW p k=some (jQ p.Nodes k):=by
 unfold pW jQ
 rw [tO _ hn]
 simp only [Option.bind_some]
 by_cases hz:tZ p.Nodes k=0
 ·rw [if_pos (by simpa using hz),if_pos hz]
 rw [if_neg (by simpa using hz),if_neg hz]
 obtain ⟨h0,h1,h2⟩:=aAs hz
 have:=aBx p.Nodes hn k.toNat (by omega) h2
 rw [show ((k.toNat:Nat):Int)=k by omega] at this
 rw [this];rfl
structure MarkR (nodes:List GNode) (k:Nat) (s s':List Bool):Prop where
 len:s'.length=s.length
 mono:∀ j:Nat,s[j]? = some true→s'[j]? = some true
 self:s'[k]? = some true
 sound:∀ j:Nat,s'[j]? = some true→s[j]? = some true ∨ Reach (rT nodes) k j
 closed:∀ j:Nat,s'[j]? = some true→s[j]? = some true ∨ ∀ m ∈ rT nodes j,s'[m.toNat]? = some true
theorem aId {next:Nat→List Int} {k:Nat} {m:Int} (hm:m ∈ next k) {j:Nat} (r:Reach next m.toNat j):Reach next k j:=by
 induction r with
 | base=>exact .step .base hm
 | step _ hm' ih=>exact .step ih hm'
theorem aD4 (nodes:List GNode) (hn:nodes.length ≤ 1048576):∀ (f k:Nat) (s:List Bool),okU nodes (k + 1)=true→qW nodes k ≤ f→s.length=nodes.length→∃ s',dR f nodes k s=some s'∧MarkR nodes k s s'
 | 0,k,s,hok,hd,hs=>by have:=qQ nodes k;omega
 | f + 1,k,s,hok,hd,hs=>by
  obtain ⟨hnb,_⟩:=rL hok (Nat.lt_succ_self k)
  have hk:k < nodes.length:=(rM hnb).1
  have hx:nodes[k]? = some nodes[k]:=List.getElem?_eq_getElem hk
  have hge:bD nodes (k:Int)=some nodes[k]:=bK hk
  obtain ⟨hkl,hkb⟩:=yV hnb
  have hkn:=aBr hk
  have hks:k < s.length:=by omega
  have hkid:=fun kid hm=>aKq (kid:=kid) hnb hx hm
  rw [hkn] at hkl hkb
  generalize hxe:nodes[k]=x at *
  show ∃ s',jR (dR f) nodes k s=some s'∧MarkR nodes k s s'
  unfold jR
  rw [bK hks]
  simp only [Option.bind_some]
  by_cases hsk:s[k]=true
  ·rw [if_pos hsk]
   have hsk':s[k]? = some true:=by rw [List.getElem?_eq_getElem hks,hsk]
   exact ⟨s,rfl,rfl,fun _ h=>h,hsk',fun _ h=>.inl h,fun _ h=>.inl h⟩
  rw [if_neg hsk]
  simp only [eS,Int.toNat_natCast]
  have hs0:(s.set k true).length=nodes.length:=by rw [List.length_set];exact hs
  have hs0k:(s.set k true)[k]? = some true:=by rw [List.getElem?_set,if_pos rfl,if_pos hks]
  have hs0j:∀ j:Nat,(s.set k true)[j]? = some true→s[j]? = some true ∨ j=k:=by
   intro j h
   rw [List.getElem?_set] at h
   split at h
   ·rename_i e;exact .inr e.symm
   exact .inl h
  have hs0m:∀ j:Nat,s[j]? = some true→(s.set k true)[j]? = some true:=by
   intro j h
   rw [List.getElem?_set]
   by_cases e:k=j
   ·subst e;rw [if_pos rfl,if_pos hks]
   rw [if_neg e];exact h
  obtain ⟨r,g1,g2⟩:=dZ (f:=fX (dR f) nodes k) (fun t:List Bool × Int=>∃ i:Nat,t.2=i∧i ≤ x.Kids.length∧t.1.length=nodes.length∧(∀ j:Nat,(s.set k true)[j]? = some true→t.1[j]? = some true)∧(∀ j:Nat,t.1[j]? = some true→(s.set k true)[j]? = some true ∨ Reach (rT nodes) k j) ∧
    (∀ j:Nat,t.1[j]? = some true→(s.set k true)[j]? = some true ∨ ∀ m ∈ rT nodes j,t.1[m.toNat]? = some true)∧∀ (q:Nat) (hq:q < x.Kids.length),q < i→t.1[(x.Kids[q]).toNat]? = some true) (fun t=>x.Kids.length - t.2.toNat) (fun r=>MarkR nodes k s r) (by
   rintro ⟨t,i⟩ ⟨i,rfl,hi,hl,hm,hso,hcl,hd'⟩
   simp only at hi hl hm hso hcl hd'
   by_cases hlt:i < x.Kids.length
   ·left
    have hmem:=List.getElem_mem hlt
    have hb:=hkb _ hmem
    obtain ⟨s',r1,r2⟩:=aD4 nodes hn f (x.Kids[i]).toNat t (uP (by omega) hok) (by have:=hkid _ hmem;omega) hl
    rw [show (((x.Kids[i]).toNat:Nat):Int)=x.Kids[i] by omega] at r1
    have hmk:x.Kids[i] ∈ rT nodes k:=by rw [hkn];exact hmem
    refine ⟨(s',((i + 1:Nat):Int)),?_,⟨i + 1,rfl,by omega,r2.len.trans hl,fun j h=>r2.mono j (hm j h),fun j h=>?_,fun j h=>?_,fun q hq hqi=>?_⟩,by simp only [Int.toNat_natCast];omega⟩
    ·simp only [fX,hge,Option.bind_some,aL hlt,if_true,bK hlt,r1,cY hlt (show x.Kids.length ≤ 1048576 by omega)]
    ·rcases r2.sound j h with h | h
     ·exact hso j h
     exact .inr (aId hmk h)
    ·rcases r2.closed j h with h | h
     ·rcases hcl j h with h | h
      ·exact .inl h
      exact .inr fun m hm=>r2.mono _ (h m hm)
     exact .inr h
    by_cases e:q=i
    ·subst e;exact r2.self
    exact r2.mono _ (hd' q hq (by omega))
   right
   have:i=x.Kids.length:=by omega
   subst this
   refine ⟨t,by simp [fX,hge],hl.trans hs.symm,fun j h=>hm j (hs0m j h),hm k hs0k,fun j h=>?_,fun j h=>?_⟩
   ·rcases hso j h with h | h
    ·rcases hs0j j h with h | h
     ·exact .inl h
     subst h;exact .inr .base
    exact .inr h
   rcases hcl j h with h | h
   ·rcases hs0j j h with h | h
    ·exact .inl h
    subst h
    right
    intro m hm'
    rw [hkn] at hm'
    obtain ⟨q,hq,rfl⟩:=List.mem_iff_getElem.1 hm'
    exact hd' q hq hq
   exact .inr h) (s.set k true,0) ⟨0,rfl,by omega,hs0,fun _ h=>h,fun _ h=>.inl h,fun _ h=>.inl h,fun q _ h=>by omega⟩
  exact ⟨r,g1,g2⟩
theorem aBb (p:GProgram) (hn:p.Nodes.length ≤ 1048576) (k:Int):nO p k=some (jQ p.Nodes k):=by
 unfold nO jQ
 rw [tB _ hn]
 simp only [Option.bind_some]
 by_cases hz:tZ p.Nodes k=0
 ·rw [if_pos (by simpa using hz),if_pos hz]
 rw [if_neg (by simpa using hz),if_neg hz]
 obtain ⟨h0,h1,h2⟩:=aAs hz
 rw [aEb _ _ _ (by omega) (by omega)]
 simp only [Option.bind_some]
 obtain ⟨s',r1,r2⟩:=aD4 p.Nodes hn eX k.toNat (List.replicate p.Nodes.length false) h2 (by
  have:=(rL h2 (Nat.lt_succ_self _)).2
  rw [aGr];omega) (by simp)
 rw [show ((k.toNat:Nat):Int)=k by omega] at r1
 have r1':rK p.Nodes k (List.replicate p.Nodes.length false)=some s':=r1
 rw [r1']
 simp only [Option.bind_some]
 have hl:s'.length=p.Nodes.length:=by rw [r2.len];simp
 have hrep:∀ j:Nat,¬ (List.replicate p.Nodes.length false)[j]? = some true:=by
  intro j h
  rw [List.getElem?_replicate] at h
  split at h<;>simp at h
 have hiff:∀ j,s'[j]? = some true ↔ Reach (rT p.Nodes) k.toNat j:=by
  intro j
  constructor
  ·intro h
   rcases r2.sound j h with h | h
   ·exact absurd h (hrep j)
   exact h
  intro h
  induction h with
  | base=>exact r2.self
  | step _ hm ih =>
   rcases r2.closed _ ih with h | h
   ·exact absurd h (hrep _)
   exact h _ hm
 rw [aI4 p.Nodes.length hn (fun j=>s'.getD j false) (jG s') (fun o=>o) (fun o j ho hj=>by
  have hjs:j < s'.length:=by omega
  have happ:cE 8 o [(j:Int)]=some (o ++ [(j:Int)]):=app1 ho (by omega)
  simp only [jG,hl,aL hj,if_true,bK hjs,Option.bind_some,happ,cY hj hn]
  rw [List.getD_eq_getElem?_getD,List.getElem?_eq_getElem hjs]
  simp only [Option.getD_some]
  cases s'[j]<;>rfl) (fun o=>by simp [jG,hl])]
 simp only [Option.bind_some]
 congr 1
 refine aAb fun j hj=>?_
 rw [← hiff]
 have hjs:j < s'.length:=by omega
 rw [List.getD_eq_getElem?_getD,List.getElem?_eq_getElem hjs]
 simp
end Go.OM
namespace Go.OM
theorem aJ1 {L:List Int} (h:L.Pairwise (· < ·)) {i:Nat} (hi:i < L.length) {y:Int} (hy:y ∈ L.drop i):L[i] ≤ y:=by
 obtain ⟨j,hj,rfl⟩:=List.mem_iff_getElem.1 hy
 rw [List.length_drop] at hj
 rw [List.getElem_drop]
 rcases Nat.eq_zero_or_pos j with e | e
 ·subst e;simp
 have:=(List.pairwise_iff_getElem.1 h) i (i + j) hi (by omega) (by omega)
 omega
theorem zN {L:List Int} (h:L.Pairwise (· < ·)) {i:Nat} (hi:i < L.length) {y:Int} (hy:y ∈ L.drop (i + 1)):L[i] < y:=by
 obtain ⟨j,hj,rfl⟩:=List.mem_iff_getElem.1 hy
 rw [List.length_drop] at hj
 rw [List.getElem_drop]
 exact (List.pairwise_iff_getElem.1 h) i (i + 1 + j) hi (by omega) (by omega)
theorem kL {L:List Int} {i:Nat} (hi:i < L.length) {x:Int}:x ∈ L.take (i + 1) ↔ x ∈ L.take i ∨ x=L[i]:=by
 rw [List.take_add_one,List.getElem?_eq_getElem hi,List.mem_append]
 simp
theorem kY {L:List Int} {i:Nat} {x:Int} (h:x ∈ L.drop (i + 1)):x ∈ L.drop i:=by
 obtain ⟨j,hj,rfl⟩:=List.mem_iff_getElem.1 h
 rw [List.length_drop] at hj
 rw [List.getElem_drop]
 exact List.mem_iff_getElem.2 ⟨1 + j,by rw [List.length_drop];omega,by rw [List.getElem_drop];congr 1;omega⟩
theorem vF {L:List Int} {i:Nat} (hi:i < L.length):L[i] ∈ L.drop i:=by
 rw [List.drop_eq_getElem_cons hi];exact List.mem_cons_self
theorem aBc {o:List Int} {a:Int} (h:o.Pairwise (· < ·)) (hb:∀ x ∈ o,x < a):(o ++ [a]).Pairwise (· < ·):=by
 rw [List.pairwise_append]
 exact ⟨h,by simp,fun x hx y hy=>by simp only [List.mem_singleton] at hy;subst hy;exact hb x hx⟩
theorem aGy (n:Nat) (hn:n ≤ 1048576) (A B:List Int) (hA:A.Pairwise (· < ·)) (hB:B.Pairwise (· < ·)) (hbA:∀ x ∈ A,0 ≤ x∧x < (n:Int)) (hbB:∀ x ∈ B,0 ≤ x∧x < (n:Int)) :
  aJ (cK A B) ([],0,0)=some (aCq n fun j=>(j:Int) ∈ A ∨ (j:Int) ∈ B):=by
 have lA:=kS (sP hA) hbA
 have lB:=kS (sP hB) hbB
 obtain ⟨r,h1,h2⟩:=dZ (f:=cK A B) (fun s:List Int × Int × Int=>∃ i k:Nat,s.2=((i:Int),(k:Int))∧i ≤ A.length∧k ≤ B.length∧s.1.Pairwise (· < ·)∧(∀ x,x ∈ s.1 ↔ x ∈ A.take i ∨ x ∈ B.take k)∧(∀ x ∈ s.1,∀ y ∈ A.drop i,x < y)∧∀ x ∈ s.1,∀ y ∈ B.drop k,x < y) (fun s=>(A.length - s.2.1.toNat) + (B.length - s.2.2.toNat)) (fun r=>r=aCq n fun j=>(j:Int) ∈ A ∨ (j:Int) ∈ B) (by
  rintro ⟨o,p⟩ ⟨i,k,rfl,hi,hk,ho,hm,h3,h4⟩
  simp only at ho hm h3 h4
  have hob:∀ x ∈ o,0 ≤ x∧x < (n:Int):=fun x hx=>by
   rcases (hm x).1 hx with h | h
   ·exact hbA x (List.mem_of_mem_take h)
   exact hbB x (List.mem_of_mem_take h)
  have hol:=kS (sP ho) hob
  have happ:∀ a:Int,cE 8 o [a]=some (o ++ [a]):=fun a=>app1 (by omega) (by omega)
  have di:decide ((i:Int) < (A.length:Int))=decide (i < A.length):=decide_eq_decide.2 (by omega)
  have dk:decide ((k:Int) < (B.length:Int))=decide (k < B.length):=decide_eq_decide.2 (by omega)
  have dk2:decide ((k:Int) ≥ (B.length:Int))=decide (¬ k < B.length):=decide_eq_decide.2 (by omega)
  have wi:IntKind.wrap .i64 ((i:Int) + 1)=((i + 1:Nat):Int):=by rw [w64 (by omega) (by omega)];omega
  have wk:IntKind.wrap .i64 ((k:Int) + 1)=((k + 1:Nat):Int):=by rw [w64 (by omega) (by omega)];omega
  -- what the step takes
  have takeA:∀ (hia:i < A.length),(∀ hkb:k < B.length,A[i] < B[k])→∃ b,cK A B (o,(i:Int),(k:Int))=some (.inl b)∧(∃ i' k':Nat,b.2=((i':Int),(k':Int))∧i' ≤ A.length∧k' ≤ B.length∧b.1.Pairwise (· < ·)∧(∀ x,x ∈ b.1 ↔ x ∈ A.take i' ∨ x ∈ B.take k')∧(∀ x ∈ b.1,∀ y ∈ A.drop i',x < y)∧∀ x ∈ b.1,∀ y ∈ B.drop k',x < y)∧(A.length - b.2.1.toNat) + (B.length - b.2.2.toNat) < (A.length - i) + (B.length - k):=by
   intro hia hab
   refine ⟨(o ++ [A[i]],((i + 1:Nat):Int),(k:Int)),?_,⟨i + 1,k,rfl,by omega,hk,aBc ho fun x hx=>h3 x hx _ (vF hia),fun x=>?_,fun x hx y hy=>?_,fun x hx y hy=>?_⟩,by simp only [Int.toNat_natCast];omega⟩
   ·by_cases hkb:k < B.length
    ·have:=hab hkb
     simp [cK,di,dk,dk2,hia,hkb,bK hia,bK hkb,happ,wi,this,show ¬ B.length ≤ k by omega]
    simp [cK,di,dk,dk2,hia,hkb,bK hia,happ,wi,show B.length ≤ k by omega]
   ·simp only [List.mem_append,List.mem_singleton,hm,kL hia]
    constructor
    ·rintro ((h | h) | h)
     ·exact .inl (.inl h)
     ·exact .inr h
     exact .inl (.inr h)
    rintro ((h | h) | h)
    ·exact .inl (.inl h)
    ·exact .inr h
    exact .inl (.inr h)
   ·rcases List.mem_append.1 hx with h | h
    ·exact h3 x h y (kY hy)
    simp only [List.mem_singleton] at h;subst h;exact zN hA hia hy
   rcases List.mem_append.1 hx with h | h
   ·exact h4 x h y hy
   simp only [List.mem_singleton] at h;subst h
   have hkb:k < B.length:=by
    rcases Nat.lt_or_ge k B.length with h | h
    ·exact h
    rw [List.drop_eq_nil_of_le h] at hy;cases hy
   have:=hab hkb
   have:=aJ1 hB hkb hy
   omega
  by_cases hend:i < A.length ∨ k < B.length
  ·left
   by_cases hkb:k < B.length
   ·by_cases hia:i < A.length
    ·by_cases hlt:A[i] < B[k]
     ·exact takeA hia fun _=>hlt
     by_cases heq:A[i]=B[k]
     ·refine ⟨(o ++ [B[k]],((i + 1:Nat):Int),((k + 1:Nat):Int)),?_,⟨i + 1,k + 1,rfl,by omega,by omega,aBc ho fun x hx=>h4 x hx _ (vF hkb),fun x=>?_,fun x hx y hy=>?_,fun x hx y hy=>?_⟩,by simp only [Int.toNat_natCast];omega⟩
      ·simp [cK,di,dk,dk2,hia,hkb,bK hia,bK hkb,happ,wi,wk,heq,show ¬ B.length ≤ k by omega]
      ·simp only [List.mem_append,List.mem_singleton,hm,kL hia,kL hkb,heq]
       constructor
       ·rintro ((h | h) | h)
        ·exact .inl (.inl h)
        ·exact .inr (.inl h)
        exact .inr (.inr h)
       rintro ((h | h) | (h | h))
       ·exact .inl (.inl h)
       ·exact .inr h
       ·exact .inl (.inr h)
       exact .inr h
      ·rcases List.mem_append.1 hx with h | h
       ·exact h3 x h y (kY hy)
       simp only [List.mem_singleton] at h;subst h;rw [← heq];exact zN hA hia hy
      rcases List.mem_append.1 hx with h | h
      ·exact h4 x h y (kY hy)
      simp only [List.mem_singleton] at h;subst h;exact zN hB hkb hy
     refine ⟨(o ++ [B[k]],(i:Int),((k + 1:Nat):Int)),?_,⟨i,k + 1,rfl,hi,by omega,aBc ho fun x hx=>h4 x hx _ (vF hkb),fun x=>?_,fun x hx y hy=>?_,fun x hx y hy=>?_⟩,by simp only [Int.toNat_natCast];omega⟩
     ·simp [cK,di,dk,dk2,hia,hkb,bK hia,bK hkb,happ,wi,wk,heq,hlt,show ¬ B.length ≤ k by omega]
     ·simp only [List.mem_append,List.mem_singleton,hm,kL hkb,or_assoc]
     ·rcases List.mem_append.1 hx with h | h
      ·exact h3 x h y hy
      simp only [List.mem_singleton] at h;subst h
      have:=aJ1 hA hia hy
      omega
     rcases List.mem_append.1 hx with h | h
     ·exact h4 x h y (kY hy)
     simp only [List.mem_singleton] at h;subst h;exact zN hB hkb hy
    refine ⟨(o ++ [B[k]],(i:Int),((k + 1:Nat):Int)),?_,⟨i,k + 1,rfl,hi,by omega,aBc ho fun x hx=>h4 x hx _ (vF hkb),fun x=>?_,fun x hx y hy=>?_,fun x hx y hy=>?_⟩,by simp only [Int.toNat_natCast];omega⟩
    ·simp [cK,di,dk,dk2,hia,hkb,bK hkb,happ,wi,wk,show ¬ B.length ≤ k by omega]
    ·simp only [List.mem_append,List.mem_singleton,hm,kL hkb,or_assoc]
    ·rw [List.drop_eq_nil_of_le (by omega)] at hy;cases hy
    rcases List.mem_append.1 hx with h | h
    ·exact h4 x h y (kY hy)
    simp only [List.mem_singleton] at h;subst h;exact zN hB hkb hy
   exact takeA (by omega) fun h=>absurd h hkb
  right
  have hi':i=A.length:=by omega
  have hk':k=B.length:=by omega
  refine ⟨o,by simp [cK,hi',hk'],?_⟩
  refine aI3 ho fun x=>?_
  rw [hm,hi',hk',List.take_length,List.take_length]
  constructor
  ·intro h
   have hb:0 ≤ x∧x < (n:Int):=h.elim (hbA x) (hbB x)
   refine ⟨hb.1,hb.2,?_⟩
   rwa [show ((x.toNat:Nat):Int)=x by omega]
  rintro ⟨a1,_,a3⟩
  rwa [show ((x.toNat:Nat):Int)=x by omega] at a3) ([],0,0) ⟨0,0,rfl,by omega,by omega,by simp,fun x=>by simp,fun x hx=>by simp at hx,fun x hx=>by simp at hx⟩
 rw [h1,h2]
def nF (p:GProgram) (fn:Int):List Int:=if inB fn 0 ((p.Fns.length:Int) - 1)=true then (match p.Fns[fn.toNat]? with | some f=>if f.Ret = -1 then [f.Body] else [f.Body,f.Ret] | none=>[]) else []
noncomputable def aIh (p:GProgram) (fn:Int):List Int:=aCq p.Nodes.length fun j=>∃ r ∈ nF p fn,(j:Int) ∈ jQ p.Nodes r
theorem aBz (p:GProgram) (hp:p.Fns.length ≤ 1048576) (fn:Int):pV p fn=some (nF p fn):=by
 unfold pV nF
 simp only [gC,Option.bind_some,kB hp]
 cases hi:inB fn 0 ((p.Fns.length:Int) - 1) with
 | false=>rfl
 | true =>
  have hi':=inB_iff.1 hi
  have hlt:fn.toNat < p.Fns.length:=by omega
  simp only [Bool.not_true,Bool.false_eq_true,if_false,if_true]
  rw [kW hi'.1 (by omega),List.getElem?_eq_getElem hlt]
  simp only [Option.bind_some]
  by_cases hr:p.Fns[fn.toNat].Ret = -1
  ·simp [hr]
  have happ:cE 8 [p.Fns[fn.toNat].Body] [p.Fns[fn.toNat].Ret]=some ([p.Fns[fn.toNat].Body] ++ [p.Fns[fn.toNat].Ret]):=app1 (by simp) (by omega)
  simp [hr,happ]
theorem aD3 (nodes:List GNode) (x:Int):∀ (rs s:List Int),x ∈ rs.foldl (fun o r=>(jQ nodes r).foldl xV o) s ↔ x ∈ s ∨ ∃ r ∈ rs,x ∈ jQ nodes r
 | [],s=>by simp
 | r :: rs,s=>by
  rw [List.foldl_cons,aD3 nodes x rs,hE]
  simp only [List.mem_cons,exists_eq_or_imp,or_assoc]
theorem aGp (p:GProgram) (fn:Int):(nF p fn).length ≤ 2:=by
 unfold nF
 split
 ·split
  ·split<;>simp
  simp
 simp
theorem zB (p:GProgram) (hn:p.Nodes.length ≤ 1048576) (hp:p.Fns.length ≤ 1048576) (fn:Int):mT p fn=some (aIh p fn):=by
 unfold mT
 rw [aBz p hp]
 simp only [Option.bind_some]
 have hrl:=aGp p fn
 have:=nP (nF p fn) (fun (o:List Int) k=>(o,(k:Int))) (fun k o=>o.Nodup∧∀ x ∈ o,0 ≤ x∧x < (p.Nodes.length:Int)) (fun o r=>.inl ((jQ p.Nodes r).foldl xV o)) id (eR p (nF p fn)) (fun o k hk hI=>by
  left
  refine ⟨_,rfl,?_,nL _ hI.1,aEm hI.2 fun x hx=>nN hx⟩
  have hul:=kS (n:=p.Nodes.length) (sP (xY p.Nodes (nF p fn)[k])) fun x hx=>nN hx
  simp only [eR,aL hk,if_true,bK hk,Option.bind_some,aC0 p hn]
  generalize hu:jQ p.Nodes (nF p fn)[k]=U at *
  rw [aG5 p.Nodes.length U (fun m hm=>by rw [← hu] at hm;exact nN hm) (gD U) (fun o=>o) (fun o j hj ho=>by
   have happ:cE 8 o [U[j]]=some (o ++ [U[j]]):=app1 (by omega) (by omega)
   simp only [gD,aL hj,if_true,bK hj,Option.bind_some,zD o _ (by omega),cY hj (show U.length ≤ 1048576 by omega),happ]
   unfold xV
   cases o.contains U[j]<;>rfl) (fun o=>by simp [gD]) o hI.1 hI.2]
  simp only [Option.bind_some,cY hk (show (nF p fn).length ≤ 1048576 by omega)]) (fun o _=>by simp [eR]) [] ⟨by simp,fun x hx=>by simp at hx⟩
 rw [nX] at this
 have h2:aJ (eR p (nF p fn)) ([],0)=some ((nF p fn).foldl (fun o r=>(jQ p.Nodes r).foldl xV o) []):=this
 rw [h2]
 simp only [Option.bind_some]
 generalize ho:(nF p fn).foldl (fun o r=>(jQ p.Nodes r).foldl xV o) []=o
 have hnd:o.Nodup:=by
  rw [← ho]
  have key:∀ (rs s:List Int),s.Nodup→(rs.foldl (fun o r=>(jQ p.Nodes r).foldl xV o) s).Nodup:=by
   intro rs
   induction rs with
   | nil=>intro s h;exact h
   | cons r rs ih=>intro s h;rw [List.foldl_cons];exact ih _ (nL _ h)
  exact key _ _ (by simp)
 have hmem:∀ x,x ∈ o ↔ 0 ≤ x∧x < (p.Nodes.length:Int)∧∃ r ∈ nF p fn,((x.toNat:Nat):Int) ∈ jQ p.Nodes r:=by
  intro x
  rw [← ho,aD3]
  constructor
  ·rintro (h | ⟨r,h1,h2⟩)
   ·simp at h
   have:=nN h2
   exact ⟨this.1,this.2,r,h1,by rwa [show ((x.toNat:Nat):Int)=x by omega]⟩
  rintro ⟨h1,_,r,h3,h4⟩
  exact .inr ⟨r,h3,by rwa [show ((x.toNat:Nat):Int)=x by omega] at h4⟩
 have hol:o.length ≤ p.Nodes.length:=kS hnd fun x hx=>⟨((hmem x).1 hx).1,((hmem x).1 hx).2.1⟩
 rw [aCo (by omega)]
 simp only [Option.bind_some]
 rw [aCp (n:=p.Nodes.length) (P:=fun j=>∃ r ∈ nF p fn,(j:Int) ∈ jQ p.Nodes r) hnd hmem]
 rfl
theorem aA0 (p:GProgram) (hn:p.Nodes.length ≤ 1048576) (hp:p.Fns.length ≤ 1048576) (fn:Int):nR p fn=some (aIh p fn):=by
 unfold nR aIh nF
 simp only [gX,Option.bind_some,kB hp]
 cases hi:inB fn 0 ((p.Fns.length:Int) - 1) with
 | false =>
  simp only [Bool.not_false,if_true,Bool.false_eq_true,if_false]
  congr 1
  have:∀ x,x ∉ aCq p.Nodes.length fun j=>∃ r ∈ ([]:List Int),(j:Int) ∈ jQ p.Nodes r:=by
   intro x hx
   obtain ⟨_,_,r,hr,_⟩:=mem_setL.1 hx
   cases hr
  exact (List.eq_nil_iff_forall_not_mem.2 this).symm
 | true =>
  have hi':=inB_iff.1 hi
  have hlt:fn.toNat < p.Fns.length:=by omega
  simp only [Bool.not_true,Bool.false_eq_true,if_false,if_true]
  rw [kW hi'.1 (by omega),List.getElem?_eq_getElem hlt]
  simp only [Option.bind_some,aBb p hn]
  generalize p.Fns[fn.toNat]=f
  rw [aGy p.Nodes.length hn _ _ (xY _ _) (xY _ _) (fun x hx=>nN hx) (fun x hx=>nN hx)]
  simp only [Option.bind_some]
  congr 1
  refine aAb fun j hj=>?_
  by_cases hr:f.Ret = -1
  ·have h0:jQ p.Nodes f.Ret=[]:=by
    have hd:tZ p.Nodes f.Ret=0:=by
     unfold tZ
     rw [hr,if_neg (by omega)]
    unfold jQ
    rw [if_pos hd]
   rw [if_pos hr,h0]
   simp
  rw [if_neg hr]
  simp
theorem aDy (p:GProgram) (hn:p.Nodes.length ≤ 1048576) (hp:p.Fns.length ≤ 1048576) (fn:Int):∃ n:Int,mV p fn=some n∧mM p fn=some n:=by
 unfold mV mM
 rw [zB p hn hp,aA0 p hn hp]
 exact ⟨_,rfl,rfl⟩
end Go.OM
namespace Go.OM
theorem aIt (p:GProgram) (nm:ByteArray):rW p nm = -1 ∨ (0 ≤ rW p nm∧rW p nm < p.Fns.length):=by
 unfold rW
 cases h:(List.range p.Fns.length).findSome? (aHe p nm) with
 | none=>exact .inl rfl
 | some r =>
  right
  obtain ⟨k,hk,hr⟩:=List.exists_of_findSome?_eq_some h
  have:=List.mem_range.1 hk
  unfold aHe at hr
  split at hr
  ·split at hr
   ·have:=Option.some.inj hr
    simp only [Option.getD_some]
    omega
   cases hr
  cases hr
def aG2 (p:GProgram) (o:List Int) (e:Int):List Int:=match p.Nodes[e.toNat]? with
 | some x=>if x.Kind=12 then (if 0 ≤ rW p x.Name then xV o (rW p x.Name) else o) else o
 | none=>o
structure CInv (p:GProgram) (o:List Int):Prop where
 nd:o.Nodup
 bnd:∀ x ∈ o,0 ≤ x∧x < (p.Fns.length:Int)
theorem CInv.step {p:GProgram} {o:List Int} (h:CInv p o) (e:Int):CInv p (aG2 p o e):=by
 unfold aG2
 split
 ·split
  ·split
   ·rename_i x _ _ hge
    refine ⟨wM h.nd _,fun y hy=>?_⟩
    rcases mem_addL.1 hy with hy | hy
    ·exact h.bnd y hy
    subst hy
    rcases aIt p x.Name with hb | hb
    ·omega
    exact hb
   exact h
  exact h
 exact h
end Go.OM
namespace Go.OM
theorem uK {p:GProgram} (h:uL p=true):1 ≤ p.Nodes.length∧p.Nodes.length ≤ 300∧1 ≤ p.Fns.length∧p.Fns.length ≤ 8∧okU p.Nodes p.Nodes.length=true:=by
 unfold uL at h
 simp only [Bool.and_eq_true,inB_iff] at h
 obtain ⟨h1,h2,h3,_⟩:=h
 exact ⟨by omega,by omega,by omega,by omega,h3⟩
theorem tL:dN=cD:=rfl
def pB (nodes:List GNode) (q:Int→Bool):Nat→Int
 | 0=>0
 | n + 1=>pB nodes q n + (match nodes[n]? with | some x=>if q x.Kind=true then 1 else 0 | none=>0)
theorem gM (nodes:List GNode) (q:Int→Bool):∀ n:Nat,0 ≤ pB nodes q n∧pB nodes q n ≤ n
 | 0=>⟨Int.le_refl _,Int.le_refl _⟩
 | n + 1=>by
  have:=gM nodes q n
  simp only [pB]
  split
  ·split<;>omega
  omega
theorem sB {nodes:List GNode} (q:Int→Bool) {n:Nat} (h:n < nodes.length):pB nodes q (n + 1)=if q nodes[n].Kind=true then pB nodes q n + 1 else pB nodes q n:=by
 simp only [pB,List.getElem?_eq_getElem h]
 split<;>omega
theorem jJ (p:GProgram) (kind:Int) (hp:p.Nodes.length ≤ 1048576):cD p kind=some (pB p.Nodes (fun k=>k == kind) p.Nodes.length):=by
 obtain ⟨r,h1,h2⟩:=dZ (f:=fY p kind) (fun s:Int × Int=>∃ k:Nat,s.2=k∧k ≤ p.Nodes.length∧s.1=pB p.Nodes (fun k=>k == kind) k) (fun s=>p.Nodes.length - s.2.toNat) (fun r=>r=pB p.Nodes (fun k=>k == kind) p.Nodes.length) (by
  rintro ⟨n,i⟩ ⟨k,hi,hk,h0⟩
  simp only at hi h0
  subst hi;subst h0
  by_cases hlt:k < p.Nodes.length
  ·left
   have c1:=gM p.Nodes (fun k=>k == kind) k
   have s1:=sB (fun k=>k == kind) hlt
   simp only [fY,aL hlt,if_true,bK hlt,Option.bind_some,cY hlt hp,w64 (n:=pB p.Nodes (fun k=>k == kind) k + 1) (by omega) (by omega)]
   split
   ·rename_i hc
    exact ⟨_,rfl,⟨k + 1,rfl,by omega,by simp only;rw [s1,if_pos hc]⟩,by simp only [Int.toNat_natCast];omega⟩
   rename_i hc
   exact ⟨_,rfl,⟨k + 1,rfl,by omega,by simp only;rw [s1,if_neg hc]⟩,by simp only [Int.toNat_natCast];omega⟩
  right
  have hke:k=p.Nodes.length:=by omega
  subst hke
  exact ⟨_,by simp [fY],rfl⟩) (0,0) ⟨0,rfl,by omega,rfl⟩
 subst h2
 unfold cD;rw [h1];rfl
theorem aA3 (p:GProgram) (kind:Int) (hp:p.Nodes.length ≤ 1048576):∃ r,cD p kind=some r:=⟨_,jJ p kind hp⟩
def mD (nodes:List GNode):Nat→Int
 | 0=>0
 | n + 1=>if qW nodes n > mD nodes n then qW nodes n else mD nodes n
theorem zZ {k:Int} (h:fW k=true):fD k=false:=by
 unfold fW at h
 unfold fD
 have:=inB_iff.1 h
 exact inB_false.2 (by omega)
def aGz (p:GProgram):GMeasure:=if uL p=true then ⟨p.Fns.length,p.Nodes.length,pB p.Nodes fW p.Nodes.length,pB p.Nodes fD p.Nodes.length,pB p.Nodes (fun k=>k == 20) p.Nodes.length,pB p.Nodes (fun k=>k == 13) p.Nodes.length,pB p.Nodes (fun k=>k == 8) p.Nodes.length,pB p.Nodes (fun k=>k == 5) p.Nodes.length + pB p.Nodes (fun k=>k == 6) p.Nodes.length,mD p.Nodes p.Nodes.length⟩ else ⟨0,0,0,0,0,0,0,0,0⟩
theorem vJ (p:GProgram) (hn:p.Nodes.length ≤ 1048576) (hp:p.Fns.length ≤ 1048576):kV p=some (aGz p)∧jH p=some (aGz p):=by
 unfold kV jH
 rw [wF p hn hp,lQ p hn hp,tL]
 simp only [Option.bind_some]
 cases hok:uL p with
 | false=>simp only [aGz,hok];exact ⟨rfl,rfl⟩
 | true =>
  obtain ⟨b1,b2,b3,b4,hu⟩:=uK hok
  simp only [Bool.not_true,Bool.false_eq_true,if_false]
  rw [jJ p 20 hn,jJ p 13 hn,jJ p 8 hn,jJ p 5 hn,jJ p 6 hn]
  have c5:=gM p.Nodes (fun k=>k == 5) p.Nodes.length
  have c6:=gM p.Nodes (fun k=>k == 6) p.Nodes.length
  have hw:=w64 (n:=pB p.Nodes (fun k=>k == 5) p.Nodes.length + pB p.Nodes (fun k=>k == 6) p.Nodes.length) (by omega) (by omega)
  simp only [Option.bind_some]
  have hI:aJ (dV p) (0,(⟨(p.Fns.length:Int),(p.Nodes.length:Int),0,0,0,0,0,0,0⟩:GMeasure))=some ⟨(p.Fns.length:Int),(p.Nodes.length:Int),pB p.Nodes fW p.Nodes.length,pB p.Nodes fD p.Nodes.length,0,0,0,0,0⟩:=by
   obtain ⟨r,h1,h2⟩:=dZ (f:=dV p) (fun s:Int × GMeasure=>∃ k:Nat,s.1=k∧k ≤ p.Nodes.length∧s.2=⟨(p.Fns.length:Int),(p.Nodes.length:Int),pB p.Nodes fW k,pB p.Nodes fD k,0,0,0,0,0⟩) (fun s=>p.Nodes.length - s.1.toNat) (fun r=>r=⟨(p.Fns.length:Int),(p.Nodes.length:Int),pB p.Nodes fW p.Nodes.length,pB p.Nodes fD p.Nodes.length,0,0,0,0,0⟩) (by
    rintro ⟨i,m⟩ ⟨k,rfl,hk,hm⟩
    simp only at hm hk
    subst hm
    by_cases hlt:k < p.Nodes.length
    ·left
     have c1:=gM p.Nodes fW k
     have c2:=gM p.Nodes fD k
     have s1:=sB fW hlt
     have s2:=sB fD hlt
     refine ⟨(((k + 1:Nat):Int),(⟨(p.Fns.length:Int),(p.Nodes.length:Int),pB p.Nodes fW (k + 1),pB p.Nodes fD (k + 1),0,0,0,0,0⟩:GMeasure)),?_,⟨k + 1,rfl,by omega,rfl⟩,by simp only [Int.toNat_natCast];omega⟩
     simp only [dV,aL hlt,if_true,bK hlt,Option.bind_some,tM,nV,cY hlt hn,w64 (n:=pB p.Nodes fW k + 1) (by omega) (by omega),w64 (n:=pB p.Nodes fD k + 1) (by omega) (by omega)]
     rw [s1,s2]
     cases hs:fW p.Nodes[k].Kind with
     | true=>rw [zZ hs];rfl
     | false=>cases fD p.Nodes[k].Kind<;>rfl
    right
    have:k=p.Nodes.length:=by omega
    subst this
    exact ⟨_,by simp [dV],rfl⟩) (0,_) ⟨0,rfl,by omega,rfl⟩
   exact h1.trans (congrArg some h2)
  have hI2:∀ F N S V B L W D:Int,aJ (dU (jN p.Nodes p.Nodes.length)) (0,(⟨F,N,S,V,B,L,W,D,0⟩:GMeasure))=some ⟨F,N,S,V,B,L,W,D,mD p.Nodes p.Nodes.length⟩:=by
   intro F N S V B L W D
   obtain ⟨r,h1,h2⟩:=dZ (f:=dU (jN p.Nodes p.Nodes.length)) (fun s:Int × GMeasure=>∃ k:Nat,s.1=k∧k ≤ p.Nodes.length∧s.2=⟨F,N,S,V,B,L,W,D,mD p.Nodes k⟩) (fun s=>p.Nodes.length - s.1.toNat) (fun r=>r=⟨F,N,S,V,B,L,W,D,mD p.Nodes p.Nodes.length⟩) (by
    rintro ⟨i,m⟩ ⟨k,rfl,hk,hm⟩
    simp only at hm hk
    subst hm
    by_cases hlt:k < p.Nodes.length
    ·left
     refine ⟨(((k + 1:Nat):Int),(⟨F,N,S,V,B,L,W,D,mD p.Nodes (k + 1)⟩:GMeasure)),?_,⟨k + 1,rfl,by omega,rfl⟩,by simp only [Int.toNat_natCast];omega⟩
     simp only [dU,fM,aL hlt,if_true,uZ,kZ p.Nodes _ k hlt,Option.bind_some,cY hlt hn]
     rfl
    right
    have:k=p.Nodes.length:=by omega
    subst this
    exact ⟨_,by simp [dU,fM],rfl⟩) (0,_) ⟨0,rfl,by omega,rfl⟩
   exact h1.trans (congrArg some h2)
  have hS:∀ B L W D:Int,aJ (dS p) (0,(⟨(p.Fns.length:Int),(p.Nodes.length:Int),0,0,B,L,W,D,0⟩:GMeasure))=some ⟨(p.Fns.length:Int),(p.Nodes.length:Int),pB p.Nodes fW p.Nodes.length,pB p.Nodes fD p.Nodes.length,B,L,W,D,mD p.Nodes p.Nodes.length⟩:=by
   intro B L W D
   obtain ⟨r,h1,h2⟩:=dZ (f:=dS p) (fun s:Int × GMeasure=>∃ k:Nat,s.1=k∧k ≤ p.Nodes.length∧s.2=⟨(p.Fns.length:Int),(p.Nodes.length:Int),pB p.Nodes fW k,pB p.Nodes fD k,B,L,W,D,mD p.Nodes k⟩) (fun s=>p.Nodes.length - s.1.toNat) (fun r=>r=⟨(p.Fns.length:Int),(p.Nodes.length:Int),pB p.Nodes fW p.Nodes.length,pB p.Nodes fD p.Nodes.length,B,L,W,D,mD p.Nodes p.Nodes.length⟩) (by
    rintro ⟨i,m⟩ ⟨k,rfl,hk,hm⟩
    simp only at hm hk
    subst hm
    by_cases hlt:k < p.Nodes.length
    ·left
     have c1:=gM p.Nodes fW k
     have c2:=gM p.Nodes fD k
     have s1:=sB fW hlt
     have s2:=sB fD hlt
     have hd:tZ p.Nodes (k:Int)=qW p.Nodes k:=by
      unfold tZ
      rw [if_pos ⟨by omega,by omega,uP (by simp only [Int.toNat_natCast];omega) hu⟩,Int.toNat_natCast]
     refine ⟨(((k + 1:Nat):Int),(⟨(p.Fns.length:Int),(p.Nodes.length:Int),pB p.Nodes fW (k + 1),pB p.Nodes fD (k + 1),B,L,W,D,mD p.Nodes (k + 1)⟩:GMeasure)),?_,⟨k + 1,rfl,by omega,rfl⟩,by simp only [Int.toNat_natCast];omega⟩
     simp only [dS,aL hlt,if_true,bK hlt,Option.bind_some,nA,nD,tB p.Nodes hn,hd,cY hlt hn,w64 (n:=pB p.Nodes fW k + 1) (by omega) (by omega),w64 (n:=pB p.Nodes fD k + 1) (by omega) (by omega)]
     rw [s1,s2]
     have ws:=w64 (n:=pB p.Nodes fW k + 1) (by omega) (by omega)
     have wv:=w64 (n:=pB p.Nodes fD k + 1) (by omega) (by omega)
     simp only [mD]
     by_cases hgt:qW p.Nodes k > mD p.Nodes k
     ·rw [if_pos hgt]
      cases hs:fW p.Nodes[k].Kind<;>cases hv:fD p.Nodes[k].Kind<;>simp [hgt,ws,wv]
     rw [if_neg hgt]
     cases hs:fW p.Nodes[k].Kind<;>cases hv:fD p.Nodes[k].Kind<;>simp [hgt,ws,wv]
    right
    have:k=p.Nodes.length:=by omega
    subst this
    exact ⟨_,by simp [dS],rfl⟩) (0,_) ⟨0,rfl,by omega,rfl⟩
   exact h1.trans (congrArg some h2)
  have hdep:kG p.Nodes (IntKind.wrap .i64 ((p.Nodes.length:Int) - 1))=some (jN p.Nodes p.Nodes.length,true):=by
   rw [kB hn,tN p.Nodes hn]
   have e:((p.Nodes.length:Int) - 1).toNat + 1=p.Nodes.length:=by omega
   rw [e,if_pos ⟨by omega,by omega,hu⟩]
  rw [hI]
  simp only [Option.bind_some]
  rw [hdep]
  simp only [Option.bind_some]
  rw [hI2,hS]
  simp only [aGz,hok,if_true,hw]
  exact ⟨rfl,rfl⟩
end Go.OM
namespace Go.OM
end Go.OM
namespace Go.OM
end Go.OM
namespace Go.OM
end Go.OM
namespace Go.OM
end Go.OM
namespace Go.OM
end Go.OM
namespace Go.OM
end Go.OM
namespace Go.OM
theorem aLi {n:Int} (h:0 ≤ n) (h2:n < 256):IntKind.wrap .u8 n=n:=by
 simp [IntKind.wrap,IntKind.bits,IntKind.signed];omega
theorem aBi {x y:ByteArray} (h:x.size + y.size ≤ 9223372036854775807):bC x y=some (x ++ y):=by unfold bC;rw [if_pos h]
theorem aLe {x y:ByteArray} (h:x.data.toList=y.data.toList):x=y:=by
 cases x;cases y
 simp only [ByteArray.mk.injEq]
 exact Array.toList_inj.1 h
theorem aAg:∀ (k u:Nat),u < 10 ^ (k + 1)→Lib.nDigits u ≤ k + 1
 | 0,u,h=>by rw [Lib.nDigits_small (by simpa using h)];omega
 | k + 1,u,h=>by
  by_cases h10:u < 10
  ·rw [Lib.nDigits_small h10];omega
  rw [Lib.nDigits_big h10]
  have:=aAg k (u / 10) (by rw [Nat.pow_succ] at h;omega)
  omega
theorem qR {n:Nat} (h:n ≤ 9223372036854775807):(Lib.decDigits n).length ≤ 19:=by
 rw [Lib.decDigits_length]
 exact aAg 18 n (by omega)
def digs (m:Nat):List UInt8:=if m=0 then [] else Lib.decDigits m
theorem aJ2 {m:Nat} (h:m ≠ 0):digs m=digs (m / 10) ++ [UInt8.ofNat (48 + m % 10)]:=by
 unfold digs
 rw [if_neg h]
 by_cases h10:m < 10
 ·rw [if_pos (by omega),Lib.decDigits_one h10,Nat.mod_eq_of_lt h10];rfl
 rw [if_neg (by omega)]
 conv=>lhs;rw [Lib.decDigits,dif_neg h10]
theorem aAt (n:Nat) (h:n ≤ 9223372036854775807):fK n=some ⟨(Lib.decDigits n).toArray⟩:=by
 unfold fK
 by_cases h0:n=0
 ·subst h0
  rw [Lib.decDigits_one (by omega)];rfl
 have hne:((n:Int) == 0)=false:=by simp;omega
 have hneg:decide ((n:Int) < 0)=false:=by simp
 obtain ⟨r,h1,h2⟩:=dZ (f:=iY) (fun s:Int × ByteArray=>∃ m:Nat,s.1=m∧m ≤ n∧digs m ++ s.2.data.toList=Lib.decDigits n) (fun s=>s.1.toNat) (fun r=>r=⟨(Lib.decDigits n).toArray⟩) (by
  rintro ⟨i,s⟩ ⟨m,hi,hm,hs⟩
  simp only at hi hs
  subst hi
  by_cases hz:m=0
  ·right
   subst hz
   refine ⟨s,by simp [iY],?_⟩
   apply aLe
   rw [← hs];simp [digs]
  left
  have hb:((m:Int) != 0)=true:=by simp;omega
  have ht:Int.tmod (m:Int) 10=((m % 10:Nat):Int):=by rw [Int.tmod_eq_emod_of_nonneg (by omega)];omega
  have hd:Int.tdiv (m:Int) 10=((m / 10:Nat):Int):=by rw [Int.tdiv_eq_ediv_of_nonneg (by omega)];omega
  have hn0:decide (((m % 10:Nat):Int) < 0)=false:=by simp;omega
  have hlt:decide (((m % 10:Nat):Int) < 10)=true:=by simp;omega
  have hw:IntKind.wrap .u8 (IntKind.wrap .i64 (48 + ((m % 10:Nat):Int)))=((48 + m % 10:Nat):Int):=by
   rw [w64 (by omega) (by omega),aLi (by omega) (by omega)];omega
  have hsz:s.size ≤ 19:=by
   have e1:=congrArg List.length hs
   have e2:=qR h
   have e3:s.data.toList.length=s.size:=Array.length_toList
   simp only [List.length_append] at e1
   omega
  have hsz2:(pI [((48 + m % 10:Nat):Int)]).size=1:=rfl
  refine ⟨(((m / 10:Nat):Int),pI [((48 + m % 10:Nat):Int)] ++ s),?_,⟨m / 10,rfl,by omega,?_⟩,by simp only [Int.toNat_natCast];omega⟩
  ·simp only [iY,mB,hb,if_true,ht,hn0,Bool.false_eq_true,if_false,Option.bind_some,hlt,hw,hd]
   rw [aBi (by omega),w64 (by omega) (by omega)]
   rfl
  have hb2:(pI [((48 + m % 10:Nat):Int)]).data.toList=[UInt8.ofNat (48 + m % 10)]:=by
   simp only [pI,List.map_cons,List.map_nil,Int.toNat_natCast]
  rw [← hs,aJ2 hz]
  simp only
  rw [ByteArray.data_append,Array.toList_append,hb2,List.append_assoc]) ((n:Int),⟨#[]⟩) ⟨n,rfl,Nat.le_refl _,by simp [digs,h0]⟩
 rw [hne]
 simp only [Bool.false_eq_true,if_false]
 rw [h1,h2]
 simp only [Option.bind_some,hneg,Bool.false_eq_true,if_false]
def decB (n:Nat):ByteArray:=⟨(Lib.decDigits n).toArray⟩
theorem aJ3 {n:Nat} (h:n ≤ 1048576):(decB n).size ≤ 19:=by
 show (Lib.decDigits n).toArray.size ≤ 19
 rw [List.size_toArray]
 exact qR (by omega)
theorem aK1 {n:Nat} (h:n ≤ 1048576):fK (n:Int)=some (decB n):=aAt n (by omega)
end Go.OM
set_option maxHeartbeats 4000000
namespace Go.OM
structure MOk (a:Nat) (m:Gl05Made):Prop where
 n0:0 ≤ m.n
 n1:m.n ≤ a
 il:m.ints.length ≤ a
 bl:m.boxes.length ≤ a
 tl:m.text.size ≤ 1000 * a
 is:∀ x ∈ m.ints,x.size ≤ 40
 bs:∀ x ∈ m.boxes,x.size ≤ 40
theorem MOk.mono {a b:Nat} {m:Gl05Made} (h:MOk a m) (hab:a ≤ b):MOk b m:=⟨h.n0,by have:=h.n1;omega,by have:=h.il;omega,by have:=h.bl;omega,by have:=h.tl;omega,h.is,h.bs⟩
theorem Ends.catL {α:Type} {x y:ByteArray} {f:ByteArray→Option α} {Q:α→Prop} {n:Nat} (hx:x.size ≤ n) (hy:y.size ≤ 20) (h:n ≤ 100000000000) (k:∀ t:ByteArray,t.size ≤ n + 20→Ends (f t) Q):Ends ((bC x y).bind f) Q:=Ends.cat hx hy (by omega) k
theorem Ends.catR {α:Type} {x y:ByteArray} {f:ByteArray→Option α} {Q:α→Prop} {n:Nat} (hx:x.size ≤ 20) (hy:y.size ≤ n) (h:n ≤ 100000000000) (k:∀ t:ByteArray,t.size ≤ 20 + n→Ends (f t) Q):Ends ((bC x y).bind f) Q:=Ends.cat hx hy (by omega) k
theorem Ends.appN {α β:Type} {n:Nat} {b:List α} {f:List α→Option β} {Q:β→Prop} (hb:b.length ≤ 10000000) (hn:n ≤ 1000) (k:Ends (f b) Q):Ends ((cE n [] b).bind f) Q:=Ends.app (by simp) hb hn k
theorem Ends.app1 {α β:Type} {n:Nat} {a:List α} {x:α} {f:List α→Option β} {Q:β→Prop} (ha:a.length ≤ 1000000) (hn:n ≤ 1000) (k:Ends (f (a ++ [x])) Q):Ends ((cE n a [x]).bind f) Q:=Ends.app (by omega) (by simp) hn k
variable {α:Type} {Q:α→Prop}
theorem oG {c:Gl01Cur} {n:Int} {f:Int × Gl01Cur→Option α} (hc:Cur c) (k:∀ r q,Cur q→0 ≤ r→(0 < n→r < n)→Ends (f (r,q)) Q):Ends ((bN c n).bind f) Q :=
 Ends.bind (aF0 hc n) fun ⟨r,q⟩ h=>k r q h.1 h.2.1 h.2.2
theorem aG8 {c:Gl01Cur} {n:Int} {f:Bool × Gl01Cur→Option α} (hc:Cur c) (k:∀ r q,Cur q→Ends (f (r,q)) Q):Ends ((eF c n).bind f) Q :=
 Ends.bind (aLf hc n) fun ⟨r,q⟩ h=>k r q h
theorem aLh {c:Gl01Cur} {l:List ByteArray} {f:ByteArray × Gl01Cur→Option α} (hc:Cur c) (hl:l ≠ []) (k:∀ r q,Cur q→r ∈ l→Ends (f (r,q)) Q):Ends ((iR c l).bind f) Q :=
 Ends.bind (E_Pick hc hl) fun ⟨r,q⟩ h=>k r q h.1 h.2
theorem aCc {m:Gl05Made} {c:Gl01Cur} {l:List ByteArray} {f:ByteArray × Gl01Cur→Option α} (hc:Cur c) (hl:l ≠ []) (hs:∀ x ∈ l,x.size ≤ 40) (k:∀ r q,Cur q→r.size ≤ 40→Ends (f (r,q)) Q):Ends ((cV m l c).bind f) Q:=by
 unfold cV
 refine Ends.bind (P:=fun r=>Cur r.2∧r.1.size ≤ 40) ?_ fun ⟨r,q⟩ h=>k r q h.1 h.2
 refine oG hc fun r q h1 h2 h3=>?_
 have:0 < l.length:=List.length_pos_iff.2 hl
 exact Ends.get h2 (h3 (by omega)) fun x hx=>Ends.one ⟨h1,hs x hx⟩
theorem aG7 {m:Gl05Made} {c:Gl01Cur} {f:ByteArray × Gl01Cur→Option α} (hc:Cur c) (k:∀ r q,Cur q→r.size ≤ 20→Ends (f (r,q)) Q):Ends ((dI m c).bind f) Q:=by
 unfold dI
 refine Ends.bind (P:=fun r=>Cur r.2∧r.1.size ≤ 20) ?_ fun ⟨r,q⟩ h=>k r q h.1 h.2
 refine aLh hc (by simp) fun r q h1 h2=>Ends.one ⟨h1,?_⟩
 simp only [List.mem_cons,List.mem_nil_iff,or_false] at h2
 rcases h2 with rfl | rfl | rfl | rfl | rfl | rfl | rfl<;>(dsimp only;decide)
theorem uA {a:Nat} {m:Gl05Made} {c:Gl01Cur} {f:ByteArray × Gl01Cur→Option α} (hm:MOk a m) (hc:Cur c) (k:∀ r q,Cur q→r.size ≤ 60→Ends (f (r,q)) Q):Ends ((aK m c).bind f) Q:=by
 unfold aK
 refine Ends.bind (P:=fun r=>Cur r.2∧r.1.size ≤ 60) ?_ fun ⟨r,q⟩ h=>k r q h.1 h.2
 refine oG hc fun r q h1 h2 h3=>?_
 refine Ends.bind (P:=fun v=>v=true→m.ints ≠ []) (Ends.ite (fun _=>Ends.one fun h e=>by simp [e] at h) fun _=>Ends.one fun h=>by cases h) fun v hv=>?_
 refine Ends.ite (fun h=>aCc h1 (hv h) hm.is fun r q h4 h5=>Ends.one ⟨h4,by show r.size ≤ 60;omega⟩) fun _=>?_
 refine Ends.bind (P:=fun v=>v=true→m.boxes ≠ []) (Ends.ite (fun _=>Ends.one fun h e=>by simp [e] at h) fun _=>Ends.one fun h=>by cases h) fun v hv=>?_
 refine Ends.ite (fun h=>?_) fun _=>aG7 h1 fun r q h4 h5=>Ends.one ⟨h4,by show r.size ≤ 60;omega⟩
 refine aCc h1 (hv h) hm.bs fun r q h4 h5=>?_
 exact Ends.catR (by decide) h5 (by omega) fun t ht=>Ends.one ⟨h4,ht⟩
theorem aCb {a:Nat} {m:Gl05Made} {c:Gl01Cur} {f:ByteArray × Gl01Cur→Option α} (hm:MOk a m) (hc:Cur c) (k:∀ r q,Cur q→r.size ≤ 300→Ends (f (r,q)) Q):Ends ((cJ m c).bind f) Q:=by
 unfold cJ
 refine Ends.bind (P:=fun r=>Cur r.2∧r.1.size ≤ 300) ?_ fun ⟨r,q⟩ h=>k r q h.1 h.2
 repeat' first
  | refine oG (by assumption) fun _ _ _ _ _=>?_
  | refine aG8 (by assumption) fun _ _ _=>?_
  | refine uA hm (by assumption) fun _ _ _ _=>?_
  | refine Ends.catR (by decide) (by assumption) (by omega) fun _ _=>?_
  | refine Ends.catL (by assumption) (by decide) (by omega) fun _ _=>?_
  | refine Ends.cat (by assumption) (by assumption) (by omega) fun _ _=>?_
  | refine Ends.ite (fun _=>?_) fun _=>?_
  | exact Ends.one ⟨by assumption,by dsimp only;decide⟩
  | exact Ends.one ⟨by assumption,by dsimp only;omega⟩
theorem aCd {a:Nat} {m:Gl05Made} {s:ByteArray} {c:Gl01Cur} {f:ByteArray × Gl05Made × Gl01Cur→Option α} (hm:MOk a m) (ha:a ≤ 100000) (hs:s.size ≤ 20) (k:∀ r,r.size ≤ 40→Ends (f (r,⟨(),m.ints,m.boxes,m.n + 1,m.text,m.wild⟩,c)) Q):Ends ((bR m s c).bind f) Q:=by
 have n0:=hm.n0
 have n1:=hm.n1
 unfold bR
 rw [w64 (n:=m.n + 1) (by omega) (by omega)]
 have hd:fK (m.n + 1)=some (decB (m.n + 1).toNat):=by
  have:=aK1 (n:=(m.n + 1).toNat) (by omega)
  rw [← this];congr 1;omega
 have hz:=aJ3 (n:=(m.n + 1).toNat) (by omega)
 rw [hd]
 refine Ends.bind (P:=fun r=>r.1.size ≤ 40∧r.2=(⟨(),m.ints,m.boxes,m.n + 1,m.text,m.wild⟩,c)) ?_ fun ⟨r,q⟩ h=>(by
  obtain ⟨h1,h2⟩:=h
  simp only at h2
  subst h2
  exact k r h1)
 simp only [Option.bind_some]
 exact Ends.cat hs hz (by omega) fun t ht=>Ends.one ⟨by show t.size ≤ 40;omega,rfl⟩
theorem aMg {m:Gl05Made} {b:ByteArray} {c:Gl01Cur} {f:Gl05Made × Gl01Cur→Option α} (hl:m.boxes.length ≤ 1000000) (hs:∀ x ∈ m.boxes,x.size ≤ 40) (k:∀ l:List ByteArray,l.length ≤ m.boxes.length→(∀ x ∈ l,x.size ≤ 40)→Ends (f (⟨(),m.ints,l,m.n,m.text,m.wild⟩,c)) Q):Ends ((cW m b c).bind f) Q:=by
 unfold cW
 refine Ends.bind (P:=fun r=>∃ l:List ByteArray,r=(⟨(),m.ints,l,m.n,m.text,m.wild⟩,c)∧l.length ≤ m.boxes.length∧∀ x ∈ l,x.size ≤ 40) ?_ fun r h=>(by
  obtain ⟨l,rfl,h1,h2⟩:=h
  exact k l h1 h2)
 refine Ends.bind (P:=fun l:List ByteArray=>l.length ≤ m.boxes.length∧∀ x ∈ l,x.size ≤ 40) ?_ fun l h=>Ends.one ⟨l,rfl,h⟩
 refine Ends.loop (fun s:List ByteArray × Int=>0 ≤ s.2∧s.2 ≤ m.boxes.length∧s.1.length ≤ s.2∧∀ x ∈ s.1,x.size ≤ 40) (fun s=>m.boxes.length - s.2.toNat) _ ?_ ⟨by simp,by simp,by simp,by simp⟩
 rintro ⟨l,i⟩ ⟨h0,h1,h2,h3⟩
 simp only at h0 h1 h2 h3
 unfold fU
 refine Ends.ite (fun h=>?_) fun h=>Ends.one (.inr ⟨l,rfl,by omega,h3⟩)
 simp only [decide_eq_true_eq] at h
 have hw:IntKind.wrap .i64 (i + 1)=i + 1:=w64 (by omega) (by omega)
 refine Ends.bind (P:=fun _=>True) (Ends.get h0 h fun e he=>Ends.ite (fun _=>Ends.one trivial) fun _=>Ends.one trivial) fun v _=>?_
 refine Ends.ite (fun _=>Ends.get h0 h fun e he=>Ends.app (by omega) (by simp) (by omega) (Ends.one (.inl ⟨_,rfl,?_,?_⟩))) fun _=>Ends.one (.inl ⟨_,rfl,?_,?_⟩)
 ·rw [hw]
  refine ⟨by omega,by omega,by simp only [List.length_append,List.length_cons,List.length_nil];omega,fun x hx=>?_⟩
  rcases List.mem_append.1 hx with hx | hx
  ·exact h3 x hx
  rw [List.mem_singleton.1 hx];exact hs _ he
 ·simp only;rw [hw];omega
 ·rw [hw]
  exact ⟨by omega,by omega,by simp only;omega,h3⟩
 simp only;rw [hw];omega
theorem C_gone {i bx:List ByteArray} {n:Int} {t:ByteArray} {w:Bool} {b:ByteArray} {c:Gl01Cur} {f:Gl05Made × Gl01Cur→Option α} (hl:bx.length ≤ 1000000) (hs:∀ x ∈ bx,x.size ≤ 40) (k:∀ l:List ByteArray,l.length ≤ bx.length→(∀ x ∈ l,x.size ≤ 40)→Ends (f (⟨(),i,l,n,t,w⟩,c)) Q):Ends ((cW ⟨(),i,bx,n,t,w⟩ b c).bind f) Q:=aMg hl hs k
theorem aJc {l:List ByteArray} {r:ByteArray} (h:∀ x ∈ l,x.size ≤ 40) (hr:r.size ≤ 40):∀ x ∈ l ++ [r],x.size ≤ 40:=by
 intro x hx
 rcases List.mem_append.1 hx with hx | hx
 ·exact h x hx
 rw [List.mem_singleton.1 hx];exact hr
theorem aEy {l:List ByteArray} {r:ByteArray} {a:Nat} (h:l.length ≤ a):(l ++ [r]).length ≤ a + 1:=by simp only [List.length_append,List.length_cons,List.length_nil];omega
theorem aGt {a:Nat} {m:Gl05Made} (hm:MOk a m) {i b:List ByteArray} {n:Int} {t:ByteArray} {w:Bool} (hn:n=m.n ∨ n=m.n + 1) (hil:i.length ≤ a + 1) (his:∀ x ∈ i,x.size ≤ 40) (hbl:b.length ≤ a + 1) (hbs:∀ x ∈ b,x.size ≤ 40) (ht:t.size ≤ 1000 * (a + 1)):MOk (a + 1) ⟨(),i,b,n,t,w⟩:=by
 have n0:=hm.n0
 have n1:=hm.n1
 exact ⟨by simp only;omega,by simp only;omega,hil,hbl,ht,his,hbs⟩
theorem aH2 {a:Nat} {m:Gl05Made} {c:Gl01Cur} (hm:MOk a m) (ha:a ≤ 90000) (hb:m.boxes ≠ []) (hc:Cur c) (give:Bool):Ends (fG m give c) (fun r=>MOk (a + 1) r.1∧Cur r.2):=by
 have il:m.ints.length ≤ a + 1:=by have:=hm.il;omega
 have bl:=hm.bl
 have bl':m.boxes.length ≤ a + 1:=by have:=hm.bl;omega
 have tl:=hm.tl
 have is:=hm.is
 have bs:=hm.bs
 unfold fG
 refine aCc hc hb bs fun r4 q h1 h2=>?_
 refine oG h1 fun r7 q8 h3 h4 h5=>?_
 repeat' first
  | dsimp only
  | exact Ends.one ⟨hm.mono (by omega),by assumption⟩
  | exact Ends.one ⟨aGt hm (.inl rfl) il is bl' bs (by omega),by assumption⟩
  | exact Ends.one ⟨aGt hm (.inr rfl) il is bl' bs (by omega),by assumption⟩
  | exact Ends.one ⟨aGt hm (.inl rfl) il is (by omega) (by assumption) (by omega),by assumption⟩
  | exact Ends.one ⟨aGt hm (.inr rfl) il is (aEy (by omega)) (aJc (by assumption) (by assumption)) (by omega),by assumption⟩
  | refine aCd hm (by omega) (by decide) fun _ _=>?_
  | refine uA hm (by assumption) fun _ _ _ _=>?_
  | refine uA (aGt hm (.inr rfl) il is bl' bs (by omega)) (by assumption) fun _ _ _ _=>?_
  | refine aG7 (by assumption) fun _ _ _ _=>?_
  | refine aCb hm (by assumption) fun _ _ _ _=>?_
  | refine C_gone (by omega) (by assumption) fun _ _ _=>?_
  | refine Ends.catL (by assumption) (by decide) (by omega) fun _ _=>?_
  | refine Ends.cat (by assumption) (by assumption) (by omega) fun _ _=>?_
  | refine Ends.appN (by omega) (by omega) ?_
  | refine Ends.app1 (by omega) (by omega) ?_
  | refine Ends.ite (fun _=>?_) fun _=>?_
  | refine aG8 (by assumption) fun _ _ _=>?_
  | (refine Ends.bind (P:=fun r=>Cur r.2∧∃ (l:List ByteArray) (t:ByteArray),r.1=⟨(),m.ints,l,m.n + 1,t,m.wild⟩∧l.length ≤ a∧(∀ x ∈ l,x.size ≤ 40)∧t.size ≤ 1000 * a + 200) ?_ ?_)
  | (rintro ⟨v,q⟩ ⟨_,l,t,rfl,_,_,_⟩)
  | exact Ends.one ⟨by assumption,_,_,rfl,by omega,by assumption,by omega⟩
end Go.OM
namespace Go.OM
variable {α:Type} {Q:α→Prop}
def wgt:Nat→Nat
 | 0=>1
 | d + 1=>6 + 4 * wgt d
theorem aAx:∀ d,1 ≤ wgt d
 | 0=>Nat.le_refl _
 | d + 1=>by simp only [wgt];omega
theorem aHq:∀ f:Nat,(∀ (d a:Nat) (m:Gl05Made) (c:Gl01Cur) (give:Bool),d ≤ 2→2 * d + 1 ≤ f→MOk a m→Cur c→a + wgt d ≤ 90000→Ends ((aM f).1 m (d:Int) give c) (fun r=>MOk (a + wgt d) r.1∧Cur r.2)) ∧
  ∀ (d a:Nat) (m:Gl05Made) (c:Gl01Cur) (last:ByteArray),d ≤ 1→2 * d + 2 ≤ f→MOk a m→Cur c→last.size ≤ 200→a + 2 + 2 * wgt d ≤ 90000→Ends ((aM f).2 m ((d:Int) + 1) last c) (fun r=>MOk (a + 2 + 2 * wgt d) r.1∧Cur r.2):=by
 intro f
 induction f with
 | zero=>exact ⟨fun d a m c give _ h=>by omega,fun d a m c last _ h=>by omega⟩
 | succ f ih =>
  obtain ⟨ih1,ih2⟩:=ih
  refine ⟨fun d a m c give hd hf hm hc ha=>?_,fun d a m c last hd hf hm hc hl ha=>?_⟩
  ·show Ends (eM (aM f).1 (aM f).2 m d give c) _
   have hw:=aAx d
   have il:m.ints.length ≤ a + 1:=by have:=hm.il;omega
   have il':=hm.il
   have bl:=hm.bl
   have bl':m.boxes.length ≤ a + 1:=by have:=hm.bl;omega
   have tl:=hm.tl
   have is:=hm.is
   have bs:=hm.bs
   unfold eM
   refine oG hc fun r5 q6 h1 h2 h3=>?_
   dsimp only
   refine Ends.bind (P:=fun v=>v=false→m.ints ≠ []) (Ends.ite (fun _=>Ends.one fun h=>by cases h) fun _=>Ends.one fun h e=>by simp [e] at h) fun v hv=>?_
   refine Ends.ite (fun _=>?_) fun hv2=>?_
   ·repeat' first
     | dsimp only
     | exact Ends.one ⟨(aGt hm (.inr rfl) (aEy (by omega)) (aJc (by assumption) (by assumption)) (by omega) bs (by omega)).mono (by omega),by assumption⟩
     | refine aCd hm (by omega) (by decide) fun _ _=>?_
     | refine aCb hm (by assumption) fun _ _ _ _=>?_
     | refine Ends.catL (by assumption) (by decide) (by omega) fun _ _=>?_
     | refine Ends.cat (by assumption) (by assumption) (by omega) fun _ _=>?_
     | refine Ends.appN (by omega) (by omega) ?_
     | refine Ends.app1 (by omega) (by omega) ?_
   have hni:m.ints ≠ []:=hv (by simpa using hv2)
   refine Ends.bind (P:=fun v=>v=false→m.boxes ≠ []) (Ends.ite (fun _=>Ends.one fun h=>by cases h) fun _=>Ends.one fun h e=>by simp [e] at h) fun v hv=>?_
   refine Ends.ite (fun _=>?_) fun hv2=>?_
   ·refine uA hm (by assumption) fun _ _ _ _=>?_
    dsimp only
    refine Ends.catR (by decide) (by assumption) (by omega) fun _ _=>?_
    refine Ends.bind (P:=fun r=>Cur r.2.2∧r.2.1=m∧r.1.size ≤ 200) ?_ ?_
    ·repeat' first
      | dsimp only
      | exact Ends.one ⟨by assumption,rfl,by dsimp only;omega⟩
      | refine aG8 (by assumption) fun _ _ _=>?_
      | refine uA hm (by assumption) fun _ _ _ _=>?_
      | refine Ends.catR (by decide) (by assumption) (by omega) fun _ _=>?_
      | refine Ends.catL (by assumption) (by decide) (by omega) fun _ _=>?_
      | refine Ends.ite (fun _=>?_) fun _=>?_
    rintro ⟨t,m',q⟩ ⟨hq,hm',ht⟩
    dsimp only at hq hm' ht ⊢
    subst hm'
    repeat' first
     | dsimp only
     | exact Ends.one ⟨(aGt hm (.inr rfl) il is (aEy (by omega)) (aJc (by assumption) (by assumption)) (by omega)).mono (by omega),by assumption⟩
     | refine aCd hm (by omega) (by decide) fun _ _=>?_
     | refine Ends.catL (by assumption) (by decide) (by omega) fun _ _=>?_
     | refine Ends.cat (by assumption) (by assumption) (by omega) fun _ _=>?_
     | refine Ends.appN (by omega) (by omega) ?_
     | refine Ends.app1 (by omega) (by omega) ?_
   have hnb:m.boxes ≠ []:=hv (by simpa using hv2)
   refine Ends.ite (fun _=>?_) fun _=>?_
   ·repeat' first
     | dsimp only
     | exact Ends.one ⟨(aGt hm (.inl rfl) il is bl' bs (by omega)).mono (by omega),by assumption⟩
     | refine aCb hm (by assumption) fun _ _ _ _=>?_
     | refine Ends.catL (by assumption) (by decide) (by omega) fun _ _=>?_
     | refine Ends.cat (by assumption) (by assumption) (by omega) fun _ _=>?_
   refine Ends.ite (fun _=>?_) fun _=>?_
   ·refine aCc (by assumption) hni is fun _ _ _ _=>?_
    repeat' first
     | dsimp only
     | exact Ends.one ⟨(aGt hm (.inl rfl) il is bl' bs (by omega)).mono (by omega),by assumption⟩
     | refine aCb hm (by assumption) fun _ _ _ _=>?_
     | refine Ends.catL (by assumption) (by decide) (by omega) fun _ _=>?_
     | refine Ends.cat (by assumption) (by assumption) (by omega) fun _ _=>?_
   refine Ends.bind (P:=fun v=>v=true→0 < d) (Ends.ite (fun _=>Ends.one fun h=>by simpa using h) fun _=>Ends.one fun h=>by cases h) fun v hv=>?_
   refine Ends.ite (fun hv2=>?_) fun _=>?_
   ·obtain ⟨e,rfl⟩:∃ e,d=e + 1:=⟨d - 1,by have:=hv hv2;omega⟩
    simp only [wgt] at ha hw ⊢
    have ec:((e + 1:Nat):Int)=(e:Int) + 1:=by omega
    rw [ec]
    have hwe:=aAx e
    refine Ends.catL tl (by decide) (by omega) fun _ _=>?_
    refine uA hm (by assumption) fun _ _ _ _=>?_
    dsimp only
    refine Ends.cat (by assumption) (by assumption) (by omega) fun _ _=>?_
    refine Ends.catL (by assumption) (by decide) (by omega) fun _ _=>?_
    refine uA hm (by assumption) fun _ _ _ _=>?_
    dsimp only
    refine Ends.cat (by assumption) (by assumption) (by omega) fun _ _=>?_
    refine Ends.catL (by assumption) (by decide) (by omega) fun _ _=>?_
    have hm1:=aGt (w:=m.wild) (t:=‹ByteArray›) hm (.inl rfl) il is bl' bs (by omega)
    refine Ends.bind (ih2 e (a + 1) _ _ _ (by omega) (by omega) hm1 (by assumption) (by decide) (by omega)) ?_
    rintro ⟨m2,c2⟩ ⟨hm2,hc2⟩
    dsimp only at hm2 hc2 ⊢
    have tl2:=hm2.tl
    refine Ends.catL tl2 (by decide) (by omega) fun t3 ht3=>?_
    have hm3:MOk (a + 1 + 2 + 2 * wgt e + 1) ⟨(),m2.ints,m2.boxes,m2.n,t3,m2.wild⟩:=aGt hm2 (.inl rfl) (by have:=hm2.il;omega) hm2.is (by have:=hm2.bl;omega) hm2.bs (by omega)
    refine Ends.bind (ih2 e _ _ _ _ (by omega) (by omega) hm3 hc2 (by decide) (by omega)) ?_
    rintro ⟨m4,c4⟩ ⟨hm4,hc4⟩
    dsimp only at hm4 hc4 ⊢
    exact Ends.one ⟨hm4.mono (by omega),hc4⟩
   refine Ends.bind (P:=fun v=>v=true→0 < d) (Ends.ite (fun _=>Ends.one fun h=>by simpa using h) fun _=>Ends.one fun h=>by cases h) fun v hv=>?_
   refine Ends.ite (fun hv2=>?_) fun _=>?_
   ·obtain ⟨e,rfl⟩:∃ e,d=e + 1:=⟨d - 1,by have:=hv hv2;omega⟩
    simp only [wgt] at ha hw ⊢
    have ec:((e + 1:Nat):Int)=(e:Int) + 1:=by omega
    rw [ec]
    have hwe:=aAx e
    refine aCd hm (by omega) (by decide) fun rw hrw=>?_
    dsimp only
    iterate 5
     first
      | refine Ends.catL (by assumption) (by decide) (by omega) fun _ _=>?_
      | refine Ends.cat (by assumption) (by assumption) (by omega) fun _ _=>?_
    refine aLh (by assumption) (by simp) fun rp qp hqp hrp=>?_
    have hrs:rp.size ≤ 20:=by
     simp only [List.mem_cons,List.mem_nil_iff,or_false] at hrp
     rcases hrp with rfl | rfl | rfl | rfl<;>decide
    dsimp only
    refine Ends.cat (by assumption) (by assumption) (by omega) fun _ _=>?_
    refine Ends.catL (by assumption) (by decide) (by omega) fun t1 ht1=>?_
    refine Ends.catL hrw (by decide) (by omega) fun _ _=>?_
    refine Ends.cat (by assumption) hrw (by omega) fun _ _=>?_
    refine Ends.catL (by assumption) (by decide) (by omega) fun t2 ht2=>?_
    have hm1:MOk (a + 1) ⟨(),m.ints,m.boxes,m.n + 1,t1,m.wild⟩:=aGt hm (.inr rfl) il is bl' bs (by omega)
    refine Ends.bind (ih2 e _ _ _ _ (by omega) (by omega) hm1 (by assumption) (by omega) (by omega)) ?_
    rintro ⟨m4,c4⟩ ⟨hm4,hc4⟩
    dsimp only at hm4 hc4 ⊢
    exact Ends.one ⟨hm4.mono (by omega),hc4⟩
   refine Ends.bind (aH2 hm (by omega) hnb (by assumption) give) ?_
   rintro ⟨m4,c4⟩ ⟨hm4,hc4⟩
   exact Ends.one ⟨hm4.mono (by omega),hc4⟩
  show Ends (dP (aM f).1 (aM f).2 m ((d:Int) + 1) last c) _
  have hw:=aAx d
  have il':=hm.il
  have bl:=hm.bl
  have tl:=hm.tl
  unfold dP
  refine Ends.app (by simp) (by omega) (by omega) ?_
  refine Ends.app (by simp) (by omega) (by omega) ?_
  refine Ends.catL tl (by decide) (by omega) fun t7 ht7=>?_
  refine Ends.bind (P:=fun r:Gl05Made × Gl01Cur=>MOk (a + 1 + 2 * wgt d) r.1∧Cur r.2) ?_ ?_
  ·refine Ends.loop (fun s:Int × Gl05Made × Gl01Cur=>∃ j:Nat,s.1=j∧j ≤ 2∧MOk (a + 1 + j * wgt d) s.2.1∧Cur s.2.2) (fun s=>2 - s.1.toNat) _ ?_ ⟨0,rfl,by omega,by
    rw [Nat.zero_mul]
    exact aGt hm (.inl rfl) (by omega) hm.is (by omega) hm.bs (by omega),hc⟩
   rintro ⟨i,m1,c1⟩ ⟨j,rfl,hj,hm1,hc1⟩
   dsimp only at hm1 hc1
   have hj2:j * wgt d ≤ 2 * wgt d:=Nat.mul_le_mul_right _ hj
   unfold eT
   refine oG hc1 fun r q h1 h2 h3=>?_
   dsimp only
   refine Ends.ite (fun h=>?_) fun h=>Ends.one (.inr ⟨_,rfl,hm1.mono (by omega),h1⟩)
   simp only [decide_eq_true_eq] at h
   have hr:=h3 (by omega)
   have hj3:j + 1 ≤ 2:=by omega
   have e1:IntKind.wrap .i64 ((d:Int) + 1 - 1)=d:=by rw [w64 (by omega) (by omega)];omega
   have e2:IntKind.wrap .i64 ((j:Int) + 1)=((j + 1:Nat):Int):=by rw [w64 (by omega) (by omega)];omega
   rw [e1]
   have hj4:(j + 1) * wgt d ≤ 2 * wgt d:=Nat.mul_le_mul_right _ hj3
   have hj5:(j + 1) * wgt d=j * wgt d + wgt d:=by rw [Nat.succ_mul]
   refine Ends.bind (ih1 d (a + 1 + j * wgt d) m1 q false (by omega) (by omega) hm1 h1 (by omega)) ?_
   rintro ⟨m2,c2⟩ ⟨hm2,hc2⟩
   dsimp only at hm2 hc2 ⊢
   refine Ends.one (.inl ⟨_,rfl,⟨j + 1,e2,hj3,by dsimp only;exact hm2.mono (by omega),hc2⟩,?_⟩)
   dsimp only
   rw [e2]
   omega
  rintro ⟨m2,c2⟩ ⟨hm2,hc2⟩
  dsimp only at hm2 hc2 ⊢
  have tl2:=hm2.tl
  refine Ends.cat tl2 hl (by omega) fun t8 ht8=>?_
  refine Ends.catL ht8 (by decide) (by omega) fun t9 ht9=>?_
  exact Ends.one ⟨⟨hm2.n0,by have:=hm2.n1;dsimp only;omega,by dsimp only;omega,by dsimp only;omega,by dsimp only;omega,hm.is,hm.bs⟩,hc2⟩
theorem E_Text {c:Gl01Cur} (hc:Cur c) {most:Int} (h1:0 < most) (h2:most ≤ 20):Ends (mG c most) (fun r=>Cur r.2∧r.1.size ≤ 10000000):=by
 unfold mG
 refine aG8 hc fun w q hq=>?_
 dsimp only
 refine Ends.bind (P:=fun r:Gl05Made × Gl01Cur=>MOk 2000 r.1∧Cur r.2) ?_ ?_
 ·refine Ends.loop (fun s:Int × Gl05Made × Gl01Cur=>∃ j:Nat,s.1=j∧j ≤ 22∧MOk (1 + j * 46) s.2.1∧Cur s.2.2) (fun s=>22 - s.1.toNat) _ ?_ ⟨0,rfl,by omega,⟨by dsimp only;omega,by dsimp only;omega,by dsimp only;simp,by dsimp only;simp,by dsimp only;exact of_decide_eq_true (by kernel_rfl),by simp,by simp⟩,hq⟩
  rintro ⟨i,m1,c1⟩ ⟨j,rfl,hj,hm1,hc1⟩
  dsimp only at hm1 hc1
  unfold kM
  refine oG hc1 fun r q h3 h4 h5=>?_
  dsimp only
  have hr:=h5 h1
  rw [w64 (n:=2 + r) (by omega) (by omega)]
  refine Ends.ite (fun h=>?_) fun h=>Ends.one (.inr ⟨_,rfl,hm1.mono (by omega),h3⟩)
  simp only [decide_eq_true_eq] at h
  have e2:IntKind.wrap .i64 ((j:Int) + 1)=((j + 1:Nat):Int):=by rw [w64 (by omega) (by omega)];omega
  refine Ends.bind ((aHq 1048576).1 2 (1 + j * 46) m1 q true (by omega) (by omega) hm1 h3 (by show 1 + j * 46 + 46 ≤ 90000;omega)) ?_
  rintro ⟨m2,c2⟩ ⟨hm2,hc2⟩
  dsimp only at hm2 hc2 ⊢
  refine Ends.one (.inl ⟨_,rfl,⟨j + 1,e2,by omega,by dsimp only;exact hm2.mono (by show 1 + j * 46 + 46 ≤ _;omega),hc2⟩,?_⟩)
  dsimp only
  rw [e2]
  omega
 rintro ⟨m2,c2⟩ ⟨hm2,hc2⟩
 dsimp only at hm2 hc2 ⊢
 exact Ends.catL hm2.tl (by decide) (by omega) fun t ht=>Ends.one ⟨hc2,by dsimp only;omega⟩
end Go.OM
namespace Go.OM
theorem Ends.sat {α:Type} {Q:α→Prop} {z:ByteArray} {i:Int} {f:Int→Option α} (h0:0 ≤ i) (h1:i < z.size) (k:Ends (f (oC z i)) Q):Ends ((sAt z i).bind f) Q:=by
 unfold sAt
 rw [if_pos ⟨h0,h1⟩]
 exact k
theorem Ends.sub {α:Type} {Q:α→Prop} {z:ByteArray} {lo hi:Int} {f:ByteArray→Option α} (h0:0 ≤ lo) (h1:lo ≤ hi) (h2:hi ≤ z.size) (k:∀ t:ByteArray,(t.size:Int)=hi - lo→Ends (f t) Q):Ends ((gB z lo hi).bind f) Q:=by
 unfold gB
 rw [if_pos ⟨h0,h1,h2⟩]
 refine k _ ?_
 rw [ByteArray.size_extract]
 omega
def SG (l:List GSign):Prop:=∀ s ∈ l,s.Text.size ≤ 3000
theorem SG.snoc {l:List GSign} {s:GSign} (h:SG l) (hs:s.Text.size ≤ 3000):SG (l ++ [s]):=by
 intro x hx
 rcases List.mem_append.1 hx with hx | hx
 ·exact h x hx
 rw [List.mem_singleton.1 hx];exact hs
theorem aI6 {r:ByteArray} (h:¬ sEq r (⟨#[]⟩:ByteArray)=true):0 < r.size:=by
 rcases Nat.eq_zero_or_pos r.size with h0 | h0
 ·exfalso
  apply h
  rw [aBg,decide_eq_true_eq]
  cases r with
  | mk a =>
   congr 1
   exact Array.eq_empty_of_size_eq_zero h0
 exact h0
theorem E_Mark {t:ByteArray} {at_:Int} (ht:t.size ≤ 3000) (h0:0 ≤ at_) (h1:at_ ≤ t.size):Ends (iQ t at_) (fun r=>r.size ≤ 2∧at_ + (r.size:Int) ≤ t.size):=by
 unfold iQ
 refine Ends.bind (P:=fun l:List ByteArray=>l.length ≤ 20∧∀ x ∈ l,x.size ≤ 2) ?_ fun l ⟨hl,hs⟩=>?_
 ·unfold kQ
  refine Ends.one ⟨by decide,fun x hx=>?_⟩
  simp only [List.mem_cons,List.mem_nil_iff,or_false] at hx
  rcases hx with rfl | rfl | rfl | rfl | rfl | rfl | rfl | rfl | rfl | rfl | rfl | rfl | rfl | rfl<;>decide
 refine Ends.bind (P:=fun r:Unit ⊕ ByteArray=>r = .inl () ∨ ∃ x:ByteArray,r = .inr x∧x.size ≤ 2∧at_ + (x.size:Int) ≤ t.size) ?_ ?_
 ·refine Ends.loop (fun i:Int=>0 ≤ i) (fun i=>20 - i.toNat) _ (fun i hi=>?_) (Int.le_refl _)
  unfold iP
  refine Ends.ite (fun h=>?_) fun h=>Ends.one (.inr ⟨_,rfl,.inl rfl⟩)
  simp only [decide_eq_true_eq] at h
  have hw:IntKind.wrap .i64 (i + 1)=i + 1:=w64 (by omega) (by omega)
  obtain ⟨j,rfl⟩:=Int.eq_ofNat_of_zero_le hi
  have hj:j < l.length:=by exact_mod_cast h
  have hg:bD l (j:Int)=some l[j]:=bK hj
  have hsz:=hs _ (List.getElem_mem hj)
  have hw2:IntKind.wrap .i64 (at_ + (l[j].size:Int))=at_ + (l[j].size:Int):=w64 (by omega) (by omega)
  rw [hg]
  simp only [Option.bind_some,hw2]
  refine Ends.bind (P:=fun v=>v=true→at_ + (l[j].size:Int) ≤ t.size) ?_ fun v hv=>?_
  ·refine Ends.ite (fun h2=>?_) fun h2=>Ends.one fun h=>by cases h
   simp only [decide_eq_true_eq] at h2
   exact Ends.sub h0 (by omega) h2 fun u hu=>Ends.one fun _=>h2
  refine Ends.ite (fun h2=>Ends.one (.inr ⟨_,rfl,.inr ⟨_,rfl,hsz,hv h2⟩⟩)) fun h2=>Ends.one (.inl ⟨_,rfl,?_,?_⟩)
  ·rw [hw];omega
  rw [hw];omega
 rintro r (rfl | ⟨x,rfl,h2,h3⟩)
 ·exact Ends.one ⟨by decide,by show at_ + ((0:Nat):Int) ≤ _;omega⟩
 exact Ends.one ⟨h2,h3⟩
theorem E_l2 {t:ByteArray} (ht:t.size ≤ 3000) {a:Int} (h0:0 ≤ a) (h1:a ≤ t.size):Ends (aJ (iU t) a) (fun n=>a ≤ n∧n ≤ t.size∧(n < t.size→kE (oC t n)=false)):=by
 refine Ends.loop (fun n:Int=>a ≤ n∧n ≤ t.size) (fun n=>t.size - n.toNat) _ ?_ ⟨Int.le_refl _,h1⟩
 rintro n ⟨h2,h3⟩
 unfold iU
 have hw:IntKind.wrap .i64 (n + 1)=n + 1:=w64 (by omega) (by omega)
 by_cases h:n < t.size
 ·rw [if_pos (by simpa using h)]
  refine Ends.bind (P:=fun v=>v=(kE (oC t n) || kX (oC t n))) ?_ ?_
  ·refine Ends.sat (by omega) h ?_
   rw [jE]
   simp only [Option.bind_some,jF]
   refine Ends.ite (fun h=>Ends.one (by rw [h];rfl)) fun h=>Ends.one (by rw [show kE (oC t n)=false by simpa using h];rfl)
  rintro v rfl
  refine Ends.ite (fun h4=>Ends.one (.inl ⟨_,rfl,by rw [hw];omega,by rw [hw];omega⟩)) fun h4=>Ends.one (.inr ⟨_,rfl,h2,h3,fun _=>?_⟩)
  simp only [Bool.or_eq_true,not_or] at h4
  simpa using h4.1
 rw [if_neg (by simpa using h)]
 exact Ends.one (.inr ⟨_,rfl,h2,h3,fun h4=>absurd h4 h⟩)
theorem E_l3 {t:ByteArray} (ht:t.size ≤ 3000) {a:Int} (h0:0 ≤ a) (h1:a ≤ t.size):Ends (aJ (iT t a) (a,0)) (fun n=>a ≤ n.1∧n.1 ≤ t.size∧(n.1=a→n.1 < t.size→kX (oC t n.1)=false)):=by
 refine Ends.loop (fun n:Int × Int=>a ≤ n.1∧n.1 ≤ t.size) (fun n=>t.size - n.1.toNat) _ ?_ ⟨Int.le_refl _,h1⟩
 rintro ⟨n,v⟩ ⟨h2,h3⟩
 dsimp only at h2 h3
 unfold iT
 have hw:IntKind.wrap .i64 (n + 1)=n + 1:=w64 (by omega) (by omega)
 have hw2:IntKind.wrap .i64 (n - a)=n - a:=w64 (by omega) (by omega)
 dsimp only
 by_cases h:n < t.size
 ·rw [if_pos (by simpa using h),hw2]
  refine Ends.bind (P:=fun v=>v=(kX (oC t n) && decide (n - a ≤ 10))) ?_ ?_
  ·refine Ends.sat (by omega) h ?_
   rw [jF]
   simp only [Option.bind_some]
   refine Ends.ite (fun h=>Ends.one (by rw [h];rfl)) fun h=>Ends.one (by rw [show kX (oC t n)=false by simpa using h];rfl)
  rintro v rfl
  refine Ends.ite (fun h4=>Ends.sat (by omega) h (Ends.one (.inl ⟨_,rfl,?_,?_⟩))) fun h4=>Ends.one (.inr ⟨_,rfl,h2,h3,fun h5 _=>?_⟩)
  ·dsimp only;rw [hw];omega
  ·dsimp only;rw [hw];omega
  dsimp only at h5 ⊢
  cases hf:kX (oC t n) with
  | false=>rfl
  | true=>rw [hf] at h4;simp [h5] at h4
 rw [if_neg (by simpa using h)]
 exact Ends.one (.inr ⟨_,rfl,h2,h3,fun _ h4=>absurd h4 h⟩)
theorem aJg (t:ByteArray):Ends (iW t) (fun r=>r.1.length ≤ 3000∧SG r.1):=by
 unfold iW
 refine Ends.ite (fun _=>Ends.one ⟨by simp,by intro s hs;cases hs⟩) fun h=>?_
 have ht:t.size ≤ 3000:=by simp only [decide_eq_true_eq] at h;omega
 refine Ends.bind (P:=fun r:List GSign ⊕ (List GSign × Bool)=>(∃ o,r = .inl o∧o.length ≤ 3000∧SG o) ∨ ∃ o b,r = .inr (o,b)∧o.length ≤ 3000∧SG o) ?_ ?_
 ·refine Ends.loop (fun s:List GSign × Int=>0 ≤ s.2∧s.2 ≤ t.size∧s.1.length ≤ s.2∧SG s.1) (fun s=>t.size - s.2.toNat) _ ?_ ⟨by simp,by simp,by simp,by intro s hs;cases hs⟩
  rintro ⟨out,a⟩ ⟨h0,h1,h2,h3⟩
  dsimp only at h0 h1 h2 h3
  unfold iV
  dsimp only
  have hnil:([]:List GSign).length ≤ 3000∧SG []:=⟨by simp,by intro s hs;cases hs⟩
  refine Ends.ite (fun h4=>?_) fun h4=>Ends.one (.inr ⟨_,rfl,.inl ⟨_,rfl,by omega,h3⟩⟩)
  simp only [decide_eq_true_eq] at h4
  have hw:IntKind.wrap .i64 (a + 1)=a + 1:=w64 (by omega) (by omega)
  refine Ends.bind (P:=fun _=>True) (Ends.sat h0 h4 (Ends.ite (fun _=>Ends.one trivial) fun _=>Ends.one trivial)) fun v _=>?_
  refine Ends.ite (fun _=>Ends.one (.inl ⟨_,rfl,by dsimp only;rw [hw];exact ⟨by omega,by omega,by omega,h3⟩,by dsimp only;rw [hw];omega⟩)) fun _=>?_
  refine Ends.bind (P:=fun s=>s=Sum.inl (out,a,a) ∨ ∃ z,s=Sum.inr z∧((∃ b:List GSign × Int,z=Sum.inl b∧(0 ≤ b.2∧b.2 ≤ t.size∧b.1.length ≤ b.2∧SG b.1)∧t.size - b.2.toNat < t.size - a.toNat) ∨ ∃ r:List GSign ⊕ (List GSign × Bool),z=Sum.inr r∧((∃ o,r = .inl o∧o.length ≤ 3000∧SG o) ∨ ∃ o b,r = .inr (o,b)∧o.length ≤ 3000∧SG o))) ?_ ?_
  ·refine Ends.sat h0 h4 ?_
   rw [jE]
   simp only [Option.bind_some]
   refine Ends.ite (fun hl=>?_) fun _=>Ends.one (.inl rfl)
   refine Ends.bind (E_l2 ht h0 h1) fun n ⟨n1,n2,n3⟩=>?_
   refine Ends.ite (fun _=>Ends.one (.inr ⟨_,rfl,.inr ⟨_,rfl,.inr ⟨_,_,rfl,hnil⟩⟩⟩)) fun _=>?_
   have hna:a < n:=by
    rcases Int.lt_or_eq_of_le n1 with h5 | h5
    ·exact h5
    subst h5
    rw [n3 h4] at hl;cases hl
   refine Ends.sub h0 n1 n2 fun u hu=>Ends.app1 (by omega) (by omega) (Ends.one (.inr ⟨_,rfl,.inl ⟨_,rfl,⟨by dsimp only;omega,n2,?_,h3.snoc (by dsimp only;omega)⟩,?_⟩⟩))
   ·simp only [List.length_append,List.length_cons,List.length_nil];omega
   dsimp only;omega
  rintro s (rfl | ⟨z,rfl,hz⟩)
  ·dsimp only
   refine Ends.bind (P:=fun s=>s=Sum.inl (out,a) ∨ ∃ z,s=Sum.inr z∧((∃ b:List GSign × Int,z=Sum.inl b∧(0 ≤ b.2∧b.2 ≤ t.size∧b.1.length ≤ b.2∧SG b.1)∧t.size - b.2.toNat < t.size - a.toNat) ∨ ∃ r:List GSign ⊕ (List GSign × Bool),z=Sum.inr r∧((∃ o,r = .inl o∧o.length ≤ 3000∧SG o) ∨ ∃ o b,r = .inr (o,b)∧o.length ≤ 3000∧SG o))) ?_ ?_
   ·refine Ends.sat h0 h4 ?_
    rw [jF]
    simp only [Option.bind_some]
    refine Ends.ite (fun hl=>?_) fun _=>Ends.one (.inl rfl)
    refine Ends.bind (E_l3 ht h0 h1) ?_
    rintro ⟨n,v⟩ ⟨n1,n2,n3⟩
    dsimp only at n1 n2 n3 ⊢
    refine Ends.bind (P:=fun _=>True) (Ends.ite (fun _=>Ends.one trivial) fun _=>Ends.one trivial) fun w _=>?_
    refine Ends.ite (fun _=>Ends.one (.inr ⟨_,rfl,.inr ⟨_,rfl,.inr ⟨_,_,rfl,hnil⟩⟩⟩)) fun _=>?_
    have hna:a < n:=by
     rcases Int.lt_or_eq_of_le n1 with h5 | h5
     ·exact h5
     subst h5
     rw [n3 rfl h4] at hl;cases hl
    refine Ends.app1 (by omega) (by omega) (Ends.one (.inr ⟨_,rfl,.inl ⟨_,rfl,⟨by dsimp only;omega,n2,?_,h3.snoc (by dsimp only;decide)⟩,?_⟩⟩))
    ·simp only [List.length_append,List.length_cons,List.length_nil];omega
    dsimp only;omega
   rintro s (rfl | ⟨z,rfl,hz⟩)
   ·dsimp only
    refine Ends.bind (E_Mark ht h0 h1) fun r ⟨hr,hr2⟩=>?_
    refine Ends.ite (fun _=>Ends.one (.inr ⟨_,rfl,.inr ⟨_,_,rfl,hnil⟩⟩)) fun h5=>?_
    have hp:=aI6 h5
    have hw2:IntKind.wrap .i64 (a + (r.size:Int))=a + (r.size:Int):=w64 (by omega) (by omega)
    refine Ends.app1 (by omega) (by omega) (Ends.one (.inl ⟨_,rfl,?_,?_⟩))
    ·dsimp only
     rw [hw2]
     exact ⟨by omega,hr2,by simp only [List.length_append,List.length_cons,List.length_nil];omega,h3.snoc (by dsimp only;omega)⟩
    dsimp only;rw [hw2];omega
   exact Ends.one hz
  exact Ends.one hz
 rintro r (⟨o,rfl,h2⟩ | ⟨o,b,rfl,h2⟩)
 ·exact Ends.one h2
 exact Ends.one h2
end Go.OM
namespace Go.OM
def NOk (x:GNode):Prop:=x.Name.size ≤ 3000∧x.Kids.length ≤ 4000
structure ROk (r:Gl05Read):Prop where
 ll:r.list.length ≤ 3000
 sg:SG r.list
 a0:0 ≤ r.at_
 a1:r.at_ ≤ r.list.length
 d0:0 ≤ r.deep
 d1:r.deep ≤ 13
 nl:r.nodes.length ≤ 300
 nk:∀ x ∈ r.nodes,NOk x
structure Adv (r0:Gl05Read) (p:Prop) (r:Gl05Read):Prop where
 ok:ROk r
 li:r.list=r0.list
 le:r0.at_ ≤ r.at_
 bd:r0.bad=true→r.bad=true
 dp:r.deep=r0.deep
 pr:p→(r.bad=true ∨ r0.at_ < r.at_)
theorem Adv.refl {r:Gl05Read} (h:ROk r):Adv r False r:=⟨h,rfl,Int.le_refl _,id,rfl,False.elim⟩
theorem Adv.trans {r0 r r':Gl05Read} {p:Prop} (h1:Adv r0 p r) (h2:Adv r True r'):Adv r0 True r' :=
 ⟨h2.ok,h2.li.trans h1.li,Int.le_trans h1.le h2.le,fun h=>h2.bd (h1.bd h),h2.dp.trans h1.dp,fun _=>by
  have:=h1.le
  rcases h2.pr trivial with h | h
  ·exact .inl h
  right;omega⟩
theorem Adv.trans' {r0 r r':Gl05Read} {p:Prop} (h1:Adv r0 p r) (h2:Adv r False r'):Adv r0 p r' :=
 ⟨h2.ok,h2.li.trans h1.li,Int.le_trans h1.le h2.le,fun h=>h2.bd (h1.bd h),h2.dp.trans h1.dp,fun hp=>by
  have:=h2.le
  rcases h1.pr hp with h | h
  ·exact .inl (h2.bd h)
  right;omega⟩
theorem Adv.weak {r0 r:Gl05Read} {p q:Prop} (h1:Adv r0 p r) (h:q→p):Adv r0 q r:=⟨h1.ok,h1.li,h1.le,h1.bd,h1.dp,fun hq=>h1.pr (h hq)⟩
theorem Adv.fail {r0 r:Gl05Read} {p:Prop} (h:Adv r0 p r):Adv r0 True ⟨r.list,r.at_,true,r.deep,r.nodes⟩ :=
 ⟨⟨h.ok.ll,h.ok.sg,h.ok.a0,h.ok.a1,h.ok.d0,h.ok.d1,h.ok.nl,h.ok.nk⟩,h.li,h.le,fun _=>rfl,h.dp,fun _=>.inl rfl⟩
def rmu (r:Gl05Read):Nat:=2 * (r.list.length - r.at_.toNat) + (if r.bad=true then 0 else 1)
theorem aFa {r r':Gl05Read} (h0:ROk r) (h:Adv r True r') (hb:r.bad=false):rmu r' < rmu r:=by
 unfold rmu
 have h7:=h0.a0
 have h1:=h.li
 have h2:=h.le
 have h3:=h.ok.a1
 have h4:=h.ok.a0
 rw [h1] at h3 ⊢
 rw [hb]
 simp only [Bool.false_eq_true,if_false]
 rcases h.pr trivial with h5 | h5
 ·rw [h5];simp only [if_true];omega
 split<;>omega
variable {α:Type} {Q:α→Prop}
theorem E_is {r:Gl05Read} {k:Int} {t:ByteArray} (h:ROk r):Ends (cL r k t) (fun x=>x.2=r∧(x.1=true→r.bad=false∧r.at_ < r.list.length)):=by
 unfold cL
 refine Ends.bind (P:=fun v=>v=true→r.bad=false∧r.at_ < r.list.length) ?_ fun v hv=>Ends.one ⟨rfl,hv⟩
 refine Ends.ite (fun h1=>Ends.ite (fun h2=>?_) fun _=>Ends.one fun h=>by cases h) fun _=>Ends.one fun h=>by cases h
 simp only [decide_eq_true_eq] at h2
 refine Ends.get h.a0 h2 fun e _=>Ends.ite (fun _=>Ends.one fun _=>⟨by simpa using h1,h2⟩) fun _=>Ends.one fun h=>by cases h
theorem C_is {r:Gl05Read} {k:Int} {t:ByteArray} {f:Bool × Gl05Read→Option α} (h:ROk r) (K:∀ b,Ends (f (b,r)) Q):Ends ((cL r k t).bind f) Q :=
 Ends.bind (E_is h) fun ⟨b,r'⟩ ⟨h1,_⟩=>by
  simp only at h1
  subst h1
  exact K b
theorem cS {r0 r:Gl05Read} {p:Prop} {k:Int} {t:ByteArray} {f:Bool × Gl05Read→Option α} (h:Adv r0 p r) (K1:∀ r',r.bad=false→Adv r0 True r'→Ends (f (true,r')) Q) (K2:∀ r',Adv r0 p r'→Ends (f (false,r')) Q):Ends ((aE r k t).bind f) Q:=by
 unfold aE
 refine Ends.bind (P:=fun x=>(x.1=true∧r.bad=false∧Adv r0 True x.2) ∨ (x.1=false∧Adv r0 p x.2)) ?_ ?_
 ·refine Ends.bind (E_is h.ok) ?_
  rintro ⟨b,r'⟩ ⟨h1,h2⟩
  dsimp only at h1 h2 ⊢
  subst h1
  refine Ends.ite (fun hb=>Ends.one (.inl ⟨rfl,(h2 hb).1,?_⟩)) fun hb=>Ends.one (.inr ⟨rfl,h⟩)
  have h3:=(h2 hb).2
  have h4:=h.ok.ll
  have h5:=h.ok.a0
  have h6:=h.le
  dsimp only
  rw [w64 (by omega) (by omega)]
  exact ⟨⟨h.ok.ll,h.ok.sg,by dsimp only;omega,by dsimp only;omega,h.ok.d0,h.ok.d1,h.ok.nl,h.ok.nk⟩,h.li,by dsimp only;omega,h.bd,h.dp,fun _=>.inr (by dsimp only;omega)⟩
 rintro ⟨b,r'⟩ (⟨h1,h2,h3⟩ | ⟨h1,h2⟩)
 ·dsimp only at h1 h3
  subst h1
  exact K1 r' h2 h3
 dsimp only at h1 h2
 subst h1
 exact K2 r' h2
theorem oU {r0 r:Gl05Read} {p:Prop} {t:ByteArray} {f:Gl05Read→Option α} (h:Adv r0 p r) (K:∀ r',Adv r0 True r'→Ends (f r') Q):Ends ((aO r t).bind f) Q:=by
 unfold aO
 refine Ends.bind (P:=fun r'=>Adv r0 True r') ?_ K
 refine cS h (fun r' _ h1=>?_) fun r' h1=>?_
 ·exact Ends.one h1
 exact Ends.one h1.fail
theorem tQ {r0 r:Gl05Read} {p:Prop} {f:ByteArray × Gl05Read→Option α} (h:Adv r0 p r) (K:∀ s r',s.size ≤ 3000→Adv r0 True r'→Ends (f (s,r')) Q):Ends ((aX r).bind f) Q:=by
 unfold aX
 refine Ends.bind (P:=fun x=>x.1.size ≤ 3000∧Adv r0 True x.2) ?_ fun ⟨s,r'⟩ h=>K s r' h.1 h.2
 refine Ends.bind (P:=fun v=>v=false→r.at_ < r.list.length) ?_ fun v hv=>?_
 ·refine Ends.ite (fun _=>Ends.one fun h=>by cases h) fun _=>Ends.ite (fun _=>Ends.one fun h=>by cases h) fun h2=>?_
  have h3:r.at_ < r.list.length:=by simp only [decide_eq_true_eq] at h2;omega
  refine Ends.get h.ok.a0 h3 fun e _=>Ends.ite (fun _=>Ends.one fun h=>by cases h) fun _=>?_
  rw [mC]
  exact Ends.one fun _=>h3
 refine Ends.ite (fun _=>Ends.one ⟨by dsimp only;decide,h.fail⟩) fun hv2=>?_
 have h3:=hv (by simpa using hv2)
 have h4:=h.ok.ll
 have h5:=h.ok.a0
 have h6:=h.le
 have e1:IntKind.wrap .i64 (r.at_ + 1)=r.at_ + 1:=w64 (by omega) (by omega)
 have e2:IntKind.wrap .i64 (r.at_ + 1 - 1)=r.at_:=by rw [w64 (by omega) (by omega)];omega
 rw [e1,e2]
 refine Ends.get h5 h3 fun e he=>Ends.one ⟨h.ok.sg e he,?_⟩
 exact ⟨⟨h.ok.ll,h.ok.sg,by dsimp only;omega,by dsimp only;omega,h.ok.d0,h.ok.d1,h.ok.nl,h.ok.nk⟩,h.li,by dsimp only;omega,h.bd,h.dp,fun _=>.inr (by dsimp only;omega)⟩
theorem sY {r0 r:Gl05Read} {p:Prop} {x:GNode} {f:Int × Gl05Read→Option α} (h:Adv r0 p r) (hx:NOk x) (K:∀ k r',Adv r0 p r'→Ends (f (k,r')) Q):Ends ((aG r x).bind f) Q:=by
 unfold aG
 refine Ends.bind (P:=fun x=>Adv r0 p x.2) ?_ fun ⟨k,r'⟩ h=>K k r' h
 refine Ends.bind (P:=fun v=>v=false→r.nodes.length < 300) ?_ fun v hv=>?_
 ·refine Ends.ite (fun _=>Ends.one fun h=>by cases h) fun _=>Ends.one fun h=>?_
  simp only [decide_eq_false_iff_not] at h
  omega
 refine Ends.ite (fun _=>Ends.one (h.fail.weak fun _=>trivial)) fun hv2=>?_
 have h3:=hv (by simpa using hv2)
 refine Ends.app1 (by omega) (by omega) (Ends.one ⟨⟨h.ok.ll,h.ok.sg,h.ok.a0,h.ok.a1,h.ok.d0,h.ok.d1,?_,fun y hy=>?_⟩,h.li,h.le,h.bd,h.dp,h.pr⟩)
 ·simp only [List.length_append,List.length_cons,List.length_nil];omega
 rcases List.mem_append.1 hy with hy | hy
 ·exact h.ok.nk y hy
 rw [List.mem_singleton.1 hy];exact hx
theorem C_lent {r0 r:Gl05Read} {p:Prop} {f:Int × Gl05Read→Option α} (h:Adv r0 p r) (K:∀ k r',Adv r0 True r'→Ends (f (k,r')) Q):Ends ((dH r).bind f) Q:=by
 unfold dH
 refine Ends.bind (P:=fun x=>Adv r0 True x.2) ?_ fun ⟨k,r'⟩ h=>K k r' h
 refine cS h (fun r' _ h1=>?_) fun r' h1=>?_
 ·refine tQ h1 fun s r2 hs h2=>sY h2 ⟨hs,by simp⟩ fun k r3 h3=>Ends.one h3
 refine tQ h1 fun s r2 hs h2=>sY h2 ⟨hs,by simp⟩ fun k r3 h3=>Ends.one h3
def Kl (l:Nat) (r:Gl05Read):Prop:=(l:Int) ≤ r.at_ + (if r.bad=true then 1 else 0)
theorem Kl.le {l:Nat} {r:Gl05Read} (h:Kl l r) (hr:ROk r):l ≤ 3001:=by
 unfold Kl at h
 have h1:=hr.a1
 have h2:=hr.ll
 split at h<;>omega
theorem Kl.zero {r:Gl05Read} (h:ROk r):Kl 0 r:=by
 unfold Kl
 have:=h.a0
 split<;>omega
theorem Kl.step {l:Nat} {r r':Gl05Read} (h:Kl l r) (hb:r.bad=false) (ha:Adv r True r'):Kl (l + 1) r':=by
 unfold Kl at *
 rw [hb] at h
 simp only [Bool.false_eq_true,if_false] at h
 have h2:=ha.le
 rcases ha.pr trivial with h3 | h3
 ·rw [h3];simp only [if_true];omega
 split<;>omega
theorem wV {a b:Option α}:(if (true=true) then a else b)=a:=rfl
theorem mO {a b:Option α}:(if (false=true) then a else b)=b:=rfl
theorem aL9 {a b:Option α}:(if ((!false)=true) then a else b)=a:=rfl
theorem aG9:∀ f:Nat,∀ r:Gl05Read,ROk r →
  (4 * (13 - r.deep).toNat + 3 ≤ f→Ends ((aA f).1 r) (fun x=>Adv r True x.2)) ∧
  (4 * (13 - r.deep).toNat + 2 ≤ f→Ends ((aA f).2.1 r) (fun x=>Adv r True x.2)) ∧
  (4 * (13 - r.deep).toNat + 1 ≤ f→Ends ((aA f).2.2.1 r) (fun x=>Adv r True x.2)) ∧
  (∀ nm:ByteArray,nm.size ≤ 3000→4 * (13 - r.deep).toNat + 4 ≤ f→Ends ((aA f).2.2.2 r nm) (fun x=>Adv r False x.2)):=by
 intro f
 induction f with
 | zero=>exact fun r hr=>⟨fun h=>by omega,fun h=>by omega,fun h=>by omega,fun nm hn h=>by omega⟩
 | succ f ih =>
  intro r hr
  refine ⟨fun hf=>?_,fun hf=>?_,fun hf=>?_,fun nm hn hf=>?_⟩
  ·show Ends (cF (aA f).1 (aA f).2.1 (aA f).2.2.1 (aA f).2.2.2 r) _
   unfold cF
   have S:∀ {p:Prop} {r1:Gl05Read},Adv r p r1→Ends ((aA f).2.1 r1) (fun x=>Adv r True x.2):=fun h=>((ih _ h.ok).2.1 (by rw [h.dp];omega)).mono fun x hx=>h.trans hx
   refine Ends.bind (S (Adv.refl hr)) ?_
   rintro ⟨k,r1⟩ h1
   dsimp only at h1 ⊢
   refine Ends.bind (P:=fun x:Int × Gl05Read=>Adv r True x.2) ?_ ?_
   ·refine cS h1 (fun r2 _ h2=>Ends.one h2) fun r2 h2=>?_
    dsimp only
    rw [mO]
    exact cS h2 (fun r3 _ h3=>Ends.one h3) fun r3 h3=>Ends.one h3
   rintro ⟨kd,r2⟩ h2
   dsimp only at h2 ⊢
   refine Ends.ite (fun _=>?_) fun _=>Ends.one h2
   refine Ends.bind (S h2) ?_
   rintro ⟨k2,r3⟩ h3
   exact sY h3 ⟨by dsimp only;decide,by simp⟩ fun k r4 h4=>Ends.one h4
  ·show Ends (dC (aA f).1 (aA f).2.1 (aA f).2.2.1 (aA f).2.2.2 r) _
   unfold dC
   have S:∀ {p:Prop} {r0 r1:Gl05Read},r0.deep=r.deep→Adv r0 p r1→Ends ((aA f).2.2.1 r1) (fun x=>Adv r0 True x.2):=fun hd h=>((ih _ h.ok).2.2.1 (by rw [h.dp,hd];omega)).mono fun x hx=>h.trans hx
   refine Ends.bind (S rfl (Adv.refl hr)) ?_
   rintro ⟨k,r1⟩ h1
   dsimp only at h1 ⊢
   refine Ends.bind (P:=fun x:Int × Gl05Read=>Adv r True x.2) ?_ ?_
   ·refine Ends.loop (fun s:Int × Gl05Read=>Adv r True s.2) (fun s=>rmu s.2) _ ?_ h1
    rintro ⟨k2,r2⟩ h2
    dsimp only at h2
    unfold eK
    dsimp only
    refine cS (Adv.refl h2.ok) (fun r3 hb h3=>?_) fun r3 h3=>?_
    ·dsimp only
     rw [wV]
     refine Ends.bind (S h2.dp h3) ?_
     rintro ⟨k3,r4⟩ h4
     refine sY h4 ⟨by dsimp only;decide,by simp⟩ fun k r5 h5=>Ends.one (.inl ⟨_,rfl,h2.trans h5,aFa h2.ok h5 hb⟩)
    exact Ends.one (.inr ⟨_,rfl,h2.trans' h3⟩)
   rintro ⟨k2,r2⟩ h2
   exact Ends.one h2
  ·show Ends (cO (aA f).1 (aA f).2.1 (aA f).2.2.1 (aA f).2.2.2 r) _
   unfold cO
   refine Ends.bind (P:=fun v=>v=false→r.at_ < r.list.length∧r.deep ≤ 12) ?_ fun v hv=>?_
   ·refine Ends.ite (fun _=>Ends.one fun h=>by cases h) fun _=>Ends.ite (fun _=>Ends.one fun h=>by cases h) fun h2=>Ends.one fun h3=>?_
    simp only [decide_eq_true_eq,decide_eq_false_iff_not] at h2 h3
    exact ⟨by omega,by omega⟩
   refine Ends.ite (fun _=>Ends.one (Adv.refl hr).fail) fun hv2=>?_
   obtain ⟨h3,h4⟩:=hv (by simpa using hv2)
   have h5:=hr.ll
   have h6:=hr.a0
   have h7:=hr.d0
   have e1:IntKind.wrap .i64 (r.at_ + 1)=r.at_ + 1:=w64 (by omega) (by omega)
   have e2:IntKind.wrap .i64 (r.at_ + 1 - 1)=r.at_:=by rw [w64 (by omega) (by omega)];omega
   have e3:IntKind.wrap .i64 (r.deep + 1)=r.deep + 1:=w64 (by omega) (by omega)
   rw [e1,e2,e3]
   obtain ⟨r1,hr1⟩:∃ r1:Gl05Read,r1=⟨r.list,r.at_,r.bad,r.deep + 1,r.nodes⟩:=⟨_,rfl⟩
   have ok1:ROk r1:=by subst hr1;exact ⟨hr.ll,hr.sg,hr.a0,hr.a1,by dsimp only;omega,by dsimp only;omega,hr.nl,hr.nk⟩
   have b1:=Adv.refl ok1
   have dp1:r1.deep=r.deep + 1:=by subst hr1;rfl
   have V:∀ {p:Prop} {r2:Gl05Read},Adv r1 p r2→Ends ((aA f).1 r2) (fun x=>Adv r1 True x.2):=fun h=>((ih _ h.ok).1 (by rw [h.dp,dp1];omega)).mono fun x hx=>h.trans hx
   have T:∀ {p:Prop} {r2:Gl05Read},Adv r1 p r2→Ends ((aA f).2.2.1 r2) (fun x=>Adv r1 True x.2):=fun h=>((ih _ h.ok).2.2.1 (by rw [h.dp,dp1];omega)).mono fun x hx=>h.trans hx
   have A:∀ {p:Prop} {r2:Gl05Read} {nm:ByteArray},nm.size ≤ 3000→Adv r1 p r2→Ends ((aA f).2.2.2 r2 nm) (fun x=>Adv r1 p x.2):=fun hn h=>((ih _ h.ok).2.2.2 _ hn (by rw [h.dp,dp1];omega)).mono fun x hx=>h.trans' hx
   refine Ends.bind (P:=fun x:Int × Gl05Read=>Adv r1 True x.2) ?_ ?_
   ·rw [← hr1]
    refine Ends.get h6 h3 fun e he=>?_
    refine Ends.ite (fun _=>?_) fun _=>?_
    ·refine Ends.get h6 h3 fun e2 he2=>?_
     have h8:Adv r1 True ⟨r.list,r.at_ + 1,r.bad,r.deep + 1,r.nodes⟩:=by
      subst hr1
      exact ⟨⟨hr.ll,hr.sg,by dsimp only;omega,by dsimp only;omega,by dsimp only;omega,by dsimp only;omega,hr.nl,hr.nk⟩,rfl,by dsimp only;omega,id,rfl,fun _=>.inr (by dsimp only;omega)⟩
     exact sY h8 ⟨by dsimp only;decide,by simp⟩ fun k r4 h4=>Ends.one h4
    refine cS b1 (fun r2 _ h2=>?_) fun r2 h2=>?_
    ·exact tQ h2 fun s r3 hs h3=>sY h3 ⟨hs,by simp⟩ fun k r4 h4=>Ends.one h4
    dsimp only;rw [mO]
    refine cS h2 (fun r3 _ h3=>?_) fun r3 h3=>?_
    ·exact C_lent h3 fun k r4 h4=>Ends.one h4
    dsimp only;rw [mO]
    refine cS h3 (fun r4 _ h4=>?_) fun r4 h4=>?_
    ·dsimp only;rw [wV]
     refine Ends.bind (V h4) ?_
     rintro ⟨k,r5⟩ h5
     exact oU h5 fun r6 h6=>Ends.one h6
    dsimp only;rw [mO]
    refine cS h4 (fun r5 _ h5=>?_) fun r5 h5=>?_
    ·exact tQ h5 fun s r6 hs h6=>sY h6 ⟨hs,by simp⟩ fun k r7 h7=>Ends.one h7
    dsimp only;rw [mO]
    refine cS h5 (fun r6 _ h6=>?_) fun r6 h6=>?_
    ·exact sY h6 ⟨by dsimp only;decide,by simp⟩ fun k r7 h7=>Ends.one h7
    dsimp only;rw [mO]
    refine cS h6 (fun r7 _ h7=>?_) fun r7 h7=>?_
    ·dsimp only;rw [wV]
     refine Ends.bind (T h7) ?_
     rintro ⟨k,r8⟩ h8
     exact sY h8 ⟨by dsimp only;decide,by simp⟩ fun k r9 h9=>Ends.one h9
    dsimp only;rw [mO]
    refine tQ h7 fun s r8 hs h8=>?_
    dsimp only
    refine cS h8 (fun r9 _ h9=>?_) fun r9 h9=>?_
    ·dsimp only;rw [wV]
     refine Ends.bind (A hs h9) ?_
     rintro ⟨k,r10⟩ h10
     exact Ends.one h10
    exact sY h9 ⟨hs,by simp⟩ fun k r10 h10=>Ends.one h10
   rintro ⟨k,r2⟩ h2
   dsimp only at h2 ⊢
   have h8:=h2.dp
   have e4:IntKind.wrap .i64 (r2.deep - 1)=r.deep:=by rw [h8,dp1,w64 (by omega) (by omega)];omega
   rw [e4]
   subst hr1
   exact Ends.one ⟨⟨h2.ok.ll,h2.ok.sg,h2.ok.a0,h2.ok.a1,by dsimp only;omega,by dsimp only;omega,h2.ok.nl,h2.ok.nk⟩,h2.li,h2.le,h2.bd,rfl,h2.pr⟩
  show Ends (cQ (aA f).1 (aA f).2.1 (aA f).2.2.1 (aA f).2.2.2 r nm) _
  unfold cQ
  have V:∀ {p:Prop} {r0 r1:Gl05Read},r0.deep=r.deep→Adv r0 p r1→Ends ((aA f).1 r1) (fun x=>Adv r0 True x.2):=fun hd h=>((ih _ h.ok).1 (by rw [h.dp,hd];omega)).mono fun x hx=>h.trans hx
  refine Ends.bind (P:=fun x:List Int × Gl05Read=>Adv r False x.2∧x.1.length ≤ 4000) ?_ ?_
  ·refine cS (Adv.refl hr) (fun r1 _ h1=>Ends.one ⟨h1.weak fun h=>trivial,by simp⟩) fun r1 h1=>?_
   dsimp only
   rw [aL9]
   refine Ends.loop (fun s:List Int × Gl05Read=>Adv r False s.2∧Kl s.1.length s.2) (fun s=>rmu s.2) _ ?_ ⟨h1,Kl.zero h1.ok⟩
   rintro ⟨ks,r2⟩ ⟨h2,h3⟩
   dsimp only at h2 h3
   have hk:=h3.le h2.ok
   unfold dX
   dsimp only
   refine Ends.ite (fun hb=>?_) fun hb=>Ends.one (.inr ⟨_,rfl,h2,by dsimp only;omega⟩)
   have hb':r2.bad=false:=by simpa using hb
   refine Ends.bind (V h2.dp (Adv.refl h2.ok)) ?_
   rintro ⟨k,r3⟩ h4
   dsimp only at h4 ⊢
   refine Ends.app1 (by omega) (by omega) ?_
   refine cS h4 (fun r4 _ h5=>?_) fun r4 h5=>?_
   ·refine Ends.one (.inr ⟨_,rfl,h2.trans' (h5.weak fun _=>trivial),?_⟩)
    simp only [List.length_append,List.length_cons,List.length_nil];omega
   dsimp only
   rw [mO]
   refine oU h5 fun r5 h6=>Ends.one (.inl ⟨_,rfl,⟨h2.trans' (h6.weak fun _=>trivial),?_⟩,aFa h2.ok h6 hb'⟩)
   simp only [List.length_append,List.length_cons,List.length_nil]
   exact h3.step hb' h6
  rintro ⟨ks,r1⟩ ⟨h1,h2⟩
  exact sY h1 ⟨hn,h2⟩ fun k r2 h3=>Ends.one h3
end Go.OM
namespace Go.OM
variable {α:Type} {Q:α→Prop}
theorem aC9 {r0 r:Gl05Read} {p:Prop} (h:Adv r0 p r):Ends (dB r) (fun x=>Adv r0 True x.2):=by
 have h0:=h.ok.d0
 exact ((aG9 1048576 r h.ok).1 (by omega)).mono fun x hx=>h.trans hx
theorem zW {r0 r:Gl05Read} {p:Prop} {kd:Int} {nm:ByteArray} {f:Int × Gl05Read→Option α} (h:Adv r0 p r) (hn:nm.size ≤ 3000) (K:∀ k r',Adv r0 True r'→Ends (f (k,r')) Q):Ends ((bQ r kd nm).bind f) Q:=by
 unfold bQ
 refine Ends.bind (P:=fun x=>Adv r0 True x.2) ?_ fun ⟨k,r'⟩ h=>K k r' h
 refine Ends.bind (aC9 h) ?_
 rintro ⟨k,r1⟩ h1
 exact oU h1 fun r2 h2=>sY h2 ⟨hn,by simp⟩ fun k r3 h3=>Ends.one h3
theorem aGb:∀ f:Nat,∀ r:Gl05Read,ROk r →
  (((r.bad=true∧1 ≤ f) ∨ (r.deep ≤ 12∧3 * (13 - r.deep).toNat + 1 ≤ f))→Ends ((aC f).1 r) (fun x=>Adv r False x.2∧x.1.length ≤ 4000)) ∧
  (r.deep ≤ 12→3 * (13 - r.deep).toNat ≤ f→Ends ((aC f).2.1 r) (fun x=>Adv r True x.2)) ∧
  (r.deep ≤ 12→3 * (13 - r.deep).toNat ≤ f + 1→Ends ((aC f).2.2 r) (fun x=>Adv r True x.2)):=by
 intro f
 induction f with
 | zero=>exact fun r hr=>⟨fun h=>by omega,fun hd h=>by omega,fun hd h=>by omega⟩
 | succ f ih =>
  intro r hr
  refine ⟨fun hf=>?_,fun hd hf=>?_,fun hd hf=>?_⟩
  ·show Ends (cG (aC f).1 (aC f).2.1 (aC f).2.2 r) _
   unfold cG
   refine Ends.bind (P:=fun x:List Int × Gl05Read=>Adv r False x.2∧x.1.length ≤ 4000) ?_ ?_
   ·refine Ends.loop (fun s:List Int × Gl05Read=>Adv r False s.2∧Kl s.1.length s.2) (fun s=>rmu s.2) _ ?_ ⟨Adv.refl hr,Kl.zero hr⟩
    rintro ⟨ks,r2⟩ ⟨h2,h3⟩
    dsimp only at h2 h3
    have hk:=h3.le h2.ok
    unfold dO
    dsimp only
    refine Ends.bind (P:=fun x:Bool × Gl05Read=>x.2=r2∧(x.1=true→r2.bad=false)) ?_ ?_
    ·refine Ends.ite (fun hb=>?_) fun hb=>Ends.one ⟨rfl,fun h=>by cases h⟩
     have hb':r2.bad=false:=by simpa using hb
     refine C_is h2.ok fun b=>?_
     dsimp only
     refine Ends.ite (fun _=>?_) fun _=>Ends.one ⟨rfl,fun h=>by cases h⟩
     exact C_is h2.ok fun b2=>Ends.one ⟨rfl,fun _=>hb'⟩
    rintro ⟨b,r3⟩ ⟨h4,h5⟩
    dsimp only at h4 h5 ⊢
    subst h4
    refine Ends.ite (fun hb=>?_) fun hb=>Ends.one (.inr ⟨_,rfl,h2,by dsimp only;omega⟩)
    have hb':=h5 hb
    have hfl:r.deep ≤ 12∧3 * (13 - r.deep).toNat + 1 ≤ f + 1:=by
     rcases hf with ⟨h6,_⟩ | h6
     ·rw [h2.bd h6] at hb';cases hb'
     exact h6
    refine Ends.bind ((ih r3 h2.ok).2.1 (by rw [h2.dp];exact hfl.1) (by rw [h2.dp];omega)) ?_
    rintro ⟨k,r4⟩ h6
    dsimp only at h6 ⊢
    refine Ends.app1 (by omega) (by omega) (Ends.one (.inl ⟨_,rfl,⟨h2.trans' (h6.weak fun _=>trivial),?_⟩,aFa h2.ok h6 hb'⟩))
    simp only [List.length_append,List.length_cons,List.length_nil]
    exact h3.step hb' h6
   rintro ⟨ks,r1⟩ h
   exact Ends.one h
  ·show Ends (cP (aC f).1 (aC f).2.1 (aC f).2.2 r) _
   unfold cP
   have B:∀ {p:Prop} {r1:Gl05Read},Adv r p r1→Ends ((aC f).2.2 r1) (fun x=>Adv r True x.2):=fun h=>((ih _ h.ok).2.2 (by rw [h.dp];exact hd) (by rw [h.dp];exact hf)).mono fun x hx=>h.trans hx
   refine cS (Adv.refl hr) (fun r1 _ h1=>?_) fun r1 h1=>?_
   ·exact tQ h1 fun s r2 hs h2=>oU h2 fun r3 h3=>zW h3 hs fun k r4 h4=>Ends.one h4
   dsimp only;rw [mO]
   refine cS h1 (fun r2 _ h2=>?_) fun r2 h2=>?_
   ·exact tQ h2 fun s r2 hs h2=>oU h2 fun r3 h3=>zW h3 hs fun k r4 h4=>Ends.one h4
   dsimp only;rw [mO]
   refine cS h2 (fun r3 _ h3=>?_) fun r3 h3=>?_
   ·dsimp only;rw [wV]
    refine Ends.bind (aC9 h3) ?_
    rintro ⟨k,r4⟩ h4
    refine Ends.bind (B h4) ?_
    rintro ⟨k2,r5⟩ h5
    dsimp only at h5 ⊢
    refine Ends.bind (P:=fun x=>Adv r True x) ?_ fun r6 h6=>?_
    ·exact cS h5 (fun r6 _ h6=>Ends.one h6) fun r6 h6=>Ends.one h6.fail
    refine Ends.bind (B h6) ?_
    rintro ⟨k3,r7⟩ h7
    exact sY h7 ⟨by dsimp only;decide,by simp⟩ fun k r8 h8=>Ends.one h8
   dsimp only;rw [mO]
   refine cS h3 (fun r4 _ h4=>?_) fun r4 h4=>?_
   ·dsimp only;rw [wV]
    refine Ends.bind (aC9 h4) ?_
    rintro ⟨k,r5⟩ h5
    refine Ends.bind (B h5) ?_
    rintro ⟨k2,r6⟩ h6
    exact sY h6 ⟨by dsimp only;decide,by simp⟩ fun k r8 h8=>Ends.one h8
   dsimp only;rw [mO]
   refine cS h4 (fun r5 _ h5=>?_) fun r5 h5=>?_
   ·exact zW h5 (by decide) fun k r6 h6=>Ends.one h6
   dsimp only;rw [mO]
   refine cS h5 (fun r6 _ h6=>?_) fun r6 h6=>?_
   ·exact zW h6 (by decide) fun k r6 h6=>Ends.one h6
   dsimp only;rw [mO]
   exact tQ h6 fun s r2 hs h2=>oU h2 fun r3 h3=>zW h3 hs fun k r4 h4=>Ends.one h4
  show Ends (cH (aC f).1 (aC f).2.1 (aC f).2.2 r) _
  unfold cH
  have h7:=hr.d0
  have e3:IntKind.wrap .i64 (r.deep + 1)=r.deep + 1:=w64 (by omega) (by omega)
  rw [e3]
  obtain ⟨r1,hr1⟩:∃ r1:Gl05Read,r1=⟨r.list,r.at_,r.bad,r.deep + 1,r.nodes⟩:=⟨_,rfl⟩
  have ok1:ROk r1:=by subst hr1;exact ⟨hr.ll,hr.sg,hr.a0,hr.a1,by dsimp only;omega,by dsimp only;omega,hr.nl,hr.nk⟩
  have b1:=Adv.refl ok1
  have dp1:r1.deep=r.deep + 1:=by subst hr1;rfl
  have f1:Adv r1 True ⟨r.list,r.at_,true,r.deep + 1,r.nodes⟩:=by
   have:=b1.fail
   subst hr1
   exact this
  refine Ends.bind (P:=fun x=>Adv r1 False x∧(12 < r.deep + 1→x.bad=true)) ?_ fun r2 ⟨h2,h2b⟩=>?_
  ·refine Ends.ite (fun h=>Ends.one ⟨f1.weak fun _=>trivial,fun _=>rfl⟩) fun h=>Ends.one ⟨by rw [← hr1];exact b1,fun h3=>?_⟩
   simp only [decide_eq_true_eq] at h
   omega
  refine Ends.bind (P:=fun r3=>Adv r2 True r3) ?_ fun r3 h3=>?_
  ·unfold aO
   exact cS (Adv.refl h2.ok) (fun r' _ h1=>Ends.one h1) fun r' h1=>Ends.one h1.fail
  refine Ends.bind ((ih r3 h3.ok).1 ?_) ?_
  ·by_cases hdd:r.deep + 1 ≤ 12
   ·right
    rw [h3.dp,h2.dp,dp1]
    exact ⟨hdd,by omega⟩
   left
   exact ⟨h3.bd (h2b (by omega)),by omega⟩
  rintro ⟨ks,r4⟩ ⟨h4,h5⟩
  dsimp only at h4 h5 ⊢
  have h6:Adv r1 True r4:=(h2.trans h3).trans' h4
  refine oU h6 fun r5 h8=>?_
  have e4:IntKind.wrap .i64 (r5.deep - 1)=r.deep:=by rw [h8.dp,dp1,w64 (by omega) (by omega)];omega
  rw [e4]
  have h9:Adv r True ⟨r5.list,r5.at_,r5.bad,r.deep,r5.nodes⟩:=by
   subst hr1
   exact ⟨⟨h8.ok.ll,h8.ok.sg,h8.ok.a0,h8.ok.a1,by dsimp only;omega,by dsimp only;omega,h8.ok.nl,h8.ok.nk⟩,h8.li,h8.le,h8.bd,rfl,h8.pr⟩
  exact sY h9 ⟨by dsimp only;decide,h5⟩ fun k r6 h10=>Ends.one h10
end Go.OM
namespace Go.OM
variable {α:Type} {Q:α→Prop}
theorem aLg {r0 r:Gl05Read} {p:Prop} {f:Int × Gl05Read→Option α} (h:Adv r0 p r) (K:∀ k r',Adv r0 p r'→Ends (f (k,r')) Q):Ends ((cT r).bind f) Q:=by
 unfold cT
 refine Ends.bind (P:=fun x=>Adv r0 p x.2) ?_ fun ⟨k,r'⟩ h=>K k r' h
 refine cS h (fun r1 _ h1=>Ends.one (h1.weak fun _=>trivial)) fun r1 h1=>?_
 dsimp only;rw [mO]
 refine cS h1 (fun r2 _ h2=>Ends.one (h2.weak fun _=>trivial)) fun r2 h2=>?_
 dsimp only;rw [mO]
 refine oU h2 fun r3 h3=>?_
 refine Ends.bind (P:=fun x:Int × Gl05Read=>Adv r0 True x.2) ?_ ?_
 ·exact cS h3 (fun r4 _ h4=>Ends.one h4) fun r4 h4=>Ends.one h4
 rintro ⟨k,r4⟩ h4
 dsimp only at h4 ⊢
 exact cS h4 (fun r5 _ h5=>Ends.one (h5.weak fun _=>trivial)) fun r5 h5=>Ends.one (h5.fail.weak fun _=>trivial)
structure FOk (f:GFn):Prop where
 nm:f.Name.size ≤ 3000
 pl:f.Params.length ≤ 4000
 ps:∀ q ∈ f.Params,q.Name.size ≤ 3000
theorem aMf {r0 r:Gl05Read} {p:Prop} (h:Adv r0 p r) (hd:r0.deep=0):Ends (iG r) (fun x=>Adv r0 p x.2∧x.1.length ≤ 4000):=by
 have h1:=h.dp
 exact ((aGb 1048576 r h.ok).1 (.inr ⟨by omega,by omega⟩)).mono fun x hx=>⟨h.trans' hx.1,hx.2⟩
theorem E_fn {r:Gl05Read} (hr:ROk r) (hd:r.deep=0):Ends (eL r) (fun x=>Adv r False x.2∧FOk x.1):=by
 unfold eL
 refine Ends.bind (P:=fun x=>Adv r True x) ?_ fun r1 h1=>?_
 ·exact cS (Adv.refl hr) (fun r1 _ h1=>Ends.one h1) fun r1 h1=>Ends.one h1.fail
 refine tQ h1 fun nm r2 hn h2=>?_
 dsimp only
 refine oU h2 fun r3 h3=>?_
 have fz:FOk ⟨nm,[],0,0,(-1)⟩:=⟨hn,by simp,by simp⟩
 refine Ends.bind (P:=fun x:GFn × Gl05Read=>Adv r True x.2∧FOk x.1) ?_ ?_
 ·refine cS h3 (fun r4 _ h4=>Ends.one ⟨h4,fz⟩) fun r4 h4=>?_
  dsimp only;rw [aL9]
  refine Ends.loop (fun s:GFn × Gl05Read=>Adv r True s.2∧FOk s.1∧Kl s.1.Params.length s.2) (fun s=>rmu s.2) _ ?_ ⟨h4,fz,Kl.zero h4.ok⟩
  rintro ⟨f,r5⟩ ⟨h5,h6,h7⟩
  dsimp only at h5 h6 h7
  have hk:=h7.le h5.ok
  unfold fE
  dsimp only
  refine Ends.ite (fun hb=>?_) fun hb=>Ends.one (.inr ⟨_,rfl,h5,h6⟩)
  have hb':r5.bad=false:=by simpa using hb
  refine tQ (Adv.refl h5.ok) fun nm2 r6 hn2 h8=>?_
  dsimp only
  refine oU h8 fun r7 h9=>?_
  refine aLg h9 fun k r8 h10=>?_
  dsimp only
  refine Ends.app1 (by omega) (by omega) ?_
  have hps:∀ q ∈ f.Params ++ [(⟨nm2,k⟩:GParam)],q.Name.size ≤ 3000:=by
   intro q hq
   rcases List.mem_append.1 hq with hq | hq
   ·exact h6.ps q hq
   rw [List.mem_singleton.1 hq];exact hn2
  have hpl:(f.Params ++ [(⟨nm2,k⟩:GParam)]).length ≤ 4000:=by simp only [List.length_append,List.length_cons,List.length_nil];omega
  refine cS h10 (fun r9 _ h11=>Ends.one (.inr ⟨_,rfl,h5.trans h11,⟨h6.nm,hpl,hps⟩⟩)) fun r9 h11=>?_
  dsimp only;rw [mO]
  refine oU h11 fun r10 h12=>Ends.one (.inl ⟨_,rfl,⟨h5.trans h12,⟨h6.nm,hpl,hps⟩,?_⟩,aFa h5.ok h12 hb'⟩)
  simp only [List.length_append,List.length_cons,List.length_nil]
  exact h7.step hb' h12
 rintro ⟨f,r4⟩ ⟨h4,h5⟩
 dsimp only at h4 h5 ⊢
 refine Ends.bind (P:=fun x:GFn × Gl05Read=>Adv r True x.2∧FOk x.1) ?_ ?_
 ·refine cS h4 (fun r5 _ h6=>?_) fun r5 h6=>Ends.one ⟨h6,h5⟩
  dsimp only;rw [wV]
  exact aLg h6 fun k r6 h7=>Ends.one ⟨h7,⟨h5.nm,h5.pl,h5.ps⟩⟩
 rintro ⟨f2,r5⟩ ⟨h6,h7⟩
 dsimp only at h6 h7 ⊢
 refine oU h6 fun r6 h8=>?_
 refine Ends.bind (aMf h8 hd) ?_
 rintro ⟨ks,r7⟩ ⟨h9,h10⟩
 dsimp only at h9 h10 ⊢
 refine sY h9 ⟨by dsimp only;decide,h10⟩ fun k r8 h11=>?_
 dsimp only
 refine Ends.bind (P:=fun x:GFn × Gl05Read=>Adv r True x.2∧FOk x.1) ?_ ?_
 ·refine cS h11 (fun r9 _ h12=>?_) fun r9 h12=>Ends.one ⟨h12,⟨h7.nm,h7.pl,h7.ps⟩⟩
  dsimp only;rw [wV]
  refine Ends.bind (aC9 h12) ?_
  rintro ⟨k2,r10⟩ h13
  exact oU h13 fun r11 h14=>Ends.one ⟨h14,⟨h7.nm,h7.pl,h7.ps⟩⟩
 rintro ⟨f3,r9⟩ ⟨h12,h13⟩
 dsimp only at h12 h13 ⊢
 exact oU h12 fun r10 h14=>Ends.one ⟨h14.weak fun _=>trivial,h13⟩
theorem qT (t:ByteArray):Ends (cC t) (fun r=>GProgram.le 4000 r.1∧(r.2=true→uL r.1=true)∧(r.2=false→r.1=⟨[],[]⟩)):=by
 have h00:GProgram.le 4000 ⟨[],[]⟩:=⟨⟨by simp,by simp⟩,⟨by simp,by simp⟩⟩
 unfold cC
 refine Ends.bind (aJg t) ?_
 rintro ⟨l,b⟩ ⟨h1,h2⟩
 dsimp only at h1 h2 ⊢
 refine Ends.ite (fun _=>Ends.one ⟨h00,(fun h=>by cases h),fun _=>rfl⟩) fun _=>?_
 refine Ends.bind (P:=fun x:GProgram × Gl05Read=>ROk x.2∧x.1.Fns.length ≤ 9∧∀ f ∈ x.1.Fns,FOk f) ?_ ?_
 ·refine Ends.loop (fun s:GProgram × Gl05Read=>ROk s.2∧s.2.deep=0∧s.1.Fns.length ≤ 9∧∀ f ∈ s.1.Fns,FOk f) (fun s=>9 - s.1.Fns.length) _ ?_ ⟨⟨h1,h2,by dsimp only;omega,by dsimp only;omega,by dsimp only;omega,by dsimp only;omega,by simp,by simp⟩,rfl,by simp,by simp⟩
  rintro ⟨q,r⟩ ⟨h3,h4,h5,h6⟩
  dsimp only at h3 h4 h5 h6
  unfold dJ
  dsimp only
  refine Ends.bind (P:=fun v=>v=true→q.Fns.length ≤ 8) ?_ fun v hv=>?_
  ·refine Ends.ite (fun _=>Ends.ite (fun _=>Ends.one fun h=>?_) fun _=>Ends.one fun h=>by cases h) fun _=>Ends.one fun h=>by cases h
   simp only [decide_eq_true_eq] at h
   omega
  refine Ends.ite (fun hv2=>?_) fun _=>Ends.one (.inr ⟨_,rfl,h3,h5,h6⟩)
  have h7:=hv hv2
  refine Ends.bind (E_fn h3 h4) ?_
  rintro ⟨f,r2⟩ ⟨h8,h9⟩
  dsimp only at h8 h9 ⊢
  refine Ends.app1 (by omega) (by omega) (Ends.one (.inl ⟨_,rfl,⟨h8.ok,h8.dp.trans h4,?_,fun g hg=>?_⟩,?_⟩))
  ·simp only [List.length_append,List.length_cons,List.length_nil];omega
  ·rcases List.mem_append.1 hg with hg | hg
   ·exact h6 g hg
   rw [List.mem_singleton.1 hg];exact h9
  simp only [List.length_append,List.length_cons,List.length_nil];omega
 rintro ⟨q,r⟩ ⟨h3,h4,h5⟩
 dsimp only at h3 h4 h5 ⊢
 have hn:=h3.nl
 have hle:GProgram.le 4000 ⟨r.nodes,q.Fns⟩:=⟨⟨by dsimp only;omega,fun x hx=>⟨by have:=(h3.nk x hx).1;omega,by have:=(h3.nk x hx).2;omega⟩⟩,⟨by dsimp only;omega,fun f hf=>⟨by have:=(h5 f hf).nm;omega,by have:=(h5 f hf).pl;omega,fun y hy=>by have:=(h5 f hf).ps y hy;unfold GParam.le;omega⟩⟩⟩
 refine Ends.bind (P:=fun v=>v=false→uL ⟨r.nodes,q.Fns⟩=true) ?_ fun v hv=>?_
 ·refine Ends.ite (fun _=>Ends.one fun h=>by cases h) fun _=>?_
  rw [lQ ⟨r.nodes,q.Fns⟩ (by dsimp only;omega) (by dsimp only;omega)]
  exact Ends.one fun h=>by simpa using h
 refine Ends.ite (fun _=>Ends.one ⟨h00,(fun h=>by cases h),fun _=>rfl⟩) fun hv2=>Ends.one ⟨hle,fun _=>hv (by simpa using hv2),fun h=>by cases h⟩
end Go.OM
set_option maxRecDepth 100000
namespace Go.OM
def tW {α ρ:Type}:Nat→(α→Option (α ⊕ ρ))→α→Option ρ
 | 0,_,_=>none
 | n + 1,f,a=>match f a with
  | none=>none
  | some (.inl b)=>tW n f b
  | some (.inr r)=>some r
def sEqC (x y:ByteArray):Bool:=x.data.toList == y.data.toList
theorem aBh (x y:ByteArray):sEqC x y=sEq x y:=by
 rw [aBg]
 unfold sEqC
 cases x with
 | mk a =>
  cases y with
  | mk b =>
   by_cases h:a=b
   ·subst h;simp
   simp [h,Array.toList_inj]
def Le {α:Type} (x y:Option α):Prop:=∀ r,x=some r→y=some r
theorem Le.refl {α:Type} (x:Option α):Le x x:=fun _ h=>h
theorem Le.none {α:Type} {y:Option α}:Le Option.none y:=fun _ h=>by cases h
theorem Le.ite {α:Type} {c:Prop} [Decidable c] {a b a' b':Option α} (h1:c→Le a a') (h2:¬ c→Le b b'):Le (if c then a else b) (if c then a' else b'):=by
 by_cases h:c
 ·rw [if_pos h,if_pos h];exact h1 h
 rw [if_neg h,if_neg h];exact h2 h
theorem Le.bind {α β:Type} {x y:Option α} {f g:α→Option β} (h:Le x y) (k:∀ a,Le (f a) (g a)):Le (x.bind f) (y.bind g):=by
 intro r hr
 cases x with
 | none=>cases hr
 | some a =>
  rw [h a rfl]
  exact k a r hr
theorem Le.loop {α ρ:Type} {f g:α→Option (α ⊕ ρ)} (h:∀ s,Le (f s) (g s)):∀ {n:Nat} {a:α},Le (tW n f a) (aJ g a)
 | 0,a=>fun _ h=>by cases h
 | n + 1,a=>by
  intro r hr
  rw [xO]
  unfold tW at hr
  cases hf:f a with
  | none=>rw [hf] at hr;cases hr
  | some s =>
   rw [hf] at hr
   rw [h a s hf]
   cases s with
   | inl b=>exact Le.loop h r hr
   | inr q=>exact hr
def lI (s1:ByteArray) (r2:List ByteArray):Int→Option ((Int) ⊕ ((Unit) ⊕ (Bool))):=fun i7 =>
 if (decide (i7 < (r2.length:Int)))=true then
  (bD r2 i7).bind fun e13 =>
  if (sEqC e13 s1)=true then
   some (Sum.inr (Sum.inr true))
  else
   some (Sum.inl (IntKind.wrap .i64 (i7 + 1)))
 else
  some (Sum.inr (Sum.inl ()))
theorem sF (s1:ByteArray) (r2:List ByteArray) (s):Le (lI s1 r2 s) (fZ s1 r2 s):=by
 unfold lI fZ
 try simp only [aBh]
 repeat' first
  | exact Le.refl _
  | refine Le.ite (fun _=>?_) fun _=>?_
  | refine Le.bind ?_ fun _=>?_
  | refine Le.loop fun _=>?_
  | split
  | dsimp only
def oA (s1:ByteArray):Option (Bool) :=
 (mL ).bind fun r2 =>
 Option.bind (
  tW 400 (lI s1 r2) (0:Int)) fun j6 =>
 match j6 with
 | Sum.inr z=>some z
 | Sum.inl () =>
  some false
theorem vI (s1:ByteArray):Le (oA s1) (iX s1):=by
 unfold oA iX
 repeat' first
  | exact sF _ _ _
  | exact Le.refl _
  | refine Le.ite (fun _=>?_) fun _=>?_
  | refine Le.bind ?_ fun _=>?_
  | refine Le.loop fun _=>?_
  | split
  | dsimp only
def pH (s1:ByteArray):Option (Bool) :=
 Option.bind (
  (bV (s1.size:Int) 1 8).bind fun r4 =>
  if (!r4)=true then
   some true
  else
   (sAt s1 0).bind fun c8 =>
   (cZ c8).bind fun r9 =>
   if (!r9)=true then
    some true
   else
    (oA s1).bind fun r13 =>
    some r13) fun v15 =>
 if v15=true then
  some false
 else
  Option.bind (
   tW 400 (gZ s1) (0:Int)) fun j20 =>
  match j20 with
  | Sum.inr z=>some z
  | Sum.inl () =>
   some true
theorem wJ (s1:ByteArray):Le (pH s1) (fP s1):=by
 unfold pH fP
 repeat' first
  | exact vI _
  | exact Le.refl _
  | refine Le.ite (fun _=>?_) fun _=>?_
  | refine Le.bind ?_ fun _=>?_
  | refine Le.loop fun _=>?_
  | split
  | dsimp only
def lF (t1:ByteArray) (at2:Int) (r3:List ByteArray):Int→Option ((Int) ⊕ ((Unit) ⊕ (ByteArray))):=fun i8 =>
 if (decide (i8 < (r3.length:Int)))=true then
  (bD r3 i8).bind fun e14 =>
  Option.bind (
   if (decide (IntKind.wrap .i64 (at2 + (e14.size:Int)) ≤ (t1.size:Int)))=true then
    (gB t1 at2 (IntKind.wrap .i64 (at2 + (e14.size:Int)))).bind fun t19 =>
    (bD r3 i8).bind fun e20 =>
    some (sEqC t19 e20)
   else
    some false) fun v21 =>
  if v21=true then
   (bD r3 i8).bind fun e24 =>
   some (Sum.inr (Sum.inr e24))
  else
   some (Sum.inl (IntKind.wrap .i64 (i8 + 1)))
 else
  some (Sum.inr (Sum.inl ()))
theorem sD (t1:ByteArray) (at2:Int) (r3:List ByteArray) (s):Le (lF t1 at2 r3 s) (iP t1 at2 r3 s):=by
 unfold lF iP
 try simp only [aBh]
 repeat' first
  | exact Le.refl _
  | refine Le.ite (fun _=>?_) fun _=>?_
  | refine Le.bind ?_ fun _=>?_
  | refine Le.loop fun _=>?_
  | split
  | dsimp only
def nZ (t1:ByteArray) (at2:Int):Option (ByteArray) :=
 (kQ ).bind fun r3 =>
 Option.bind (
  tW 400 (lF t1 at2 r3) (0:Int)) fun j7 =>
 match j7 with
 | Sum.inr z=>some z
 | Sum.inl () =>
  some (⟨#[]⟩:ByteArray)
theorem vG (t1:ByteArray) (at2:Int):Le (nZ t1 at2) (iQ t1 at2):=by
 unfold nZ iQ
 repeat' first
  | exact sD _ _ _ _
  | exact Le.refl _
  | refine Le.ite (fun _=>?_) fun _=>?_
  | refine Le.bind ?_ fun _=>?_
  | refine Le.loop fun _=>?_
  | split
  | dsimp only
def lG (t1:ByteArray):((List GSign) × Int)→Option (((List GSign) × Int) ⊕ ((List GSign) ⊕ ((List GSign) × Bool))):=fun ⟨out7,at8⟩ =>
 if (decide (at8 < (t1.size:Int)))=true then
  Option.bind (
   (sAt t1 at8).bind fun c16 =>
   if (c16 == 32)=true then
    some true
   else
    some (c16 == 10)) fun v19 =>
  if v19=true then
   some (Sum.inl (out7,IntKind.wrap .i64 (at8 + 1)))
  else
   Option.bind (
    (sAt t1 at8).bind fun c25 =>
    (cZ c25).bind fun r26 =>
    if r26=true then
     Option.bind (
      tW 400 (iU t1) at8) fun n52 =>
     if (decide (IntKind.wrap .i64 (n52 - at8) > 8))=true then
      some (Sum.inr (Sum.inr (Sum.inr ([],false))))
     else
      (gB t1 at8 n52).bind fun t56 =>
      (cE 32 out7 [(⟨1,t56,0⟩:GSign)]).bind fun l57 =>
      some (Sum.inr (Sum.inl (l57,n52)))
    else
     some (Sum.inl (out7,at8,at8))) fun j24 =>
   match j24 with
   | Sum.inr z=>some z
   | Sum.inl (out58,at59,n60) =>
    Option.bind (
     (sAt t1 at59).bind fun c64 =>
     (dM c64).bind fun r65 =>
     if r65=true then
      Option.bind (
       tW 400 (iT t1 at59) (n60,(0:Int))) fun ⟨n91,v92⟩ =>
      Option.bind (
       if (decide (IntKind.wrap .i64 (n91 - at59) > 10))=true then
        some true
       else
        some (decide (v92 > 1000000000))) fun v97 =>
      if v97=true then
       some (Sum.inr (Sum.inr (Sum.inr ([],false))))
      else
       (cE 32 out58 [(⟨2,ByteArray.empty,v92⟩:GSign)]).bind fun l101 =>
       some (Sum.inr (Sum.inl (l101,n91)))
     else
      some (Sum.inl (out58,at59))) fun j63 =>
    match j63 with
    | Sum.inr z=>some z
    | Sum.inl (out102,at103) =>
     (nZ t1 at103).bind fun r104 =>
     if (sEqC r104 (⟨#[]⟩:ByteArray))=true then
      some (Sum.inr (Sum.inr ([],false)))
     else
      (cE 32 out102 [(⟨3,r104,0⟩:GSign)]).bind fun l109 =>
      some (Sum.inl (l109,IntKind.wrap .i64 (at103 + (r104.size:Int))))
 else
  some (Sum.inr (Sum.inl out7))
theorem sE (t1:ByteArray) (s):Le (lG t1 s) (iV t1 s):=by
 unfold lG iV
 try simp only [aBh]
 repeat' first
  | exact vG _ _
  | exact Le.refl _
  | refine Le.ite (fun _=>?_) fun _=>?_
  | refine Le.bind ?_ fun _=>?_
  | refine Le.loop fun _=>?_
  | split
  | dsimp only
def lH (t1:ByteArray):Option ((List GSign) × Bool) :=
 if (decide ((t1.size:Int) > 3000))=true then
  some ([],false)
 else
  Option.bind (
   tW 400 (lG t1) ([],(0:Int))) fun j6 =>
  match j6 with
  | Sum.inr z=>some z
  | Sum.inl out111 =>
   some (out111,true)
theorem vH (t1:ByteArray):Le (lH t1) (iW t1):=by
 unfold lH iW
 repeat' first
  | exact sE _ _
  | exact Le.refl _
  | refine Le.ite (fun _=>?_) fun _=>?_
  | refine Le.bind ?_ fun _=>?_
  | refine Le.loop fun _=>?_
  | split
  | dsimp only
def fN (r1:Gl05Read) (kind2:Int) (text3:ByteArray):Option (Bool × Gl05Read) :=
 Option.bind (
  if (!r1.bad)=true then
   if (decide (r1.at_ < (r1.list.length:Int)))=true then
    (bD r1.list r1.at_).bind fun e10 =>
    if (e10.Kind == kind2)=true then
     some (sEqC e10.Text text3)
    else
     some false
   else
    some false
  else
   some false) fun v13 =>
 some (v13,r1)
theorem mZ (r1:Gl05Read) (kind2:Int) (text3:ByteArray):Le (fN r1 kind2 text3) (cL r1 kind2 text3):=by
 unfold fN cL
 try simp only [aBh]
 repeat' first
  | exact Le.refl _
  | refine Le.ite (fun _=>?_) fun _=>?_
  | refine Le.bind ?_ fun _=>?_
  | refine Le.loop fun _=>?_
  | split
  | dsimp only
def aD (r1:Gl05Read) (kind2:Int) (text3:ByteArray):Option (Bool × Gl05Read) :=
 (fN r1 kind2 text3).bind fun ⟨r4,q5⟩ =>
 if r4=true then
  some (true,(⟨q5.list,IntKind.wrap .i64 (q5.at_ + 1),q5.bad,q5.deep,q5.nodes⟩:Gl05Read))
 else
  some (false,q5)
theorem aW (r1:Gl05Read) (kind2:Int) (text3:ByteArray):Le (aD r1 kind2 text3) (aE r1 kind2 text3):=by
 unfold aD aE
 repeat' first
  | exact mZ _ _ _
  | exact Le.refl _
  | refine Le.ite (fun _=>?_) fun _=>?_
  | refine Le.bind ?_ fun _=>?_
  | refine Le.loop fun _=>?_
  | split
  | dsimp only
def bB (r1:Gl05Read):Option (ByteArray × Gl05Read) :=
 Option.bind (
  if r1.bad=true then
   some true
  else
   if (decide (r1.at_ ≥ (r1.list.length:Int)))=true then
    some true
   else
    (bD r1.list r1.at_).bind fun e8 =>
    if (e8.Kind != 1)=true then
     some true
    else
     (pH e8.Text).bind fun r11 =>
     some (!r11)) fun v13 =>
 if v13=true then
  some ((⟨#[]⟩:ByteArray),(⟨r1.list,r1.at_,true,r1.deep,r1.nodes⟩:Gl05Read))
 else
  (bD r1.list (IntKind.wrap .i64 ((IntKind.wrap .i64 (r1.at_ + 1)) - 1))).bind fun e17 =>
  some (e17.Text,(⟨r1.list,IntKind.wrap .i64 (r1.at_ + 1),r1.bad,r1.deep,r1.nodes⟩:Gl05Read))
theorem dD (r1:Gl05Read):Le (bB r1) (aX r1):=by
 unfold bB aX
 repeat' first
  | exact wJ _
  | exact Le.refl _
  | refine Le.ite (fun _=>?_) fun _=>?_
  | refine Le.bind ?_ fun _=>?_
  | refine Le.loop fun _=>?_
  | split
  | dsimp only
def aT (r1:Gl05Read) (text2:ByteArray):Option (Gl05Read) :=
 (aD r1 3 text2).bind fun ⟨r3,q4⟩ =>
 if (!r3)=true then
  some (⟨q4.list,q4.at_,true,q4.deep,q4.nodes⟩:Gl05Read)
 else
  some q4
theorem bT (r1:Gl05Read) (text2:ByteArray):Le (aT r1 text2) (aO r1 text2):=by
 unfold aT aO
 repeat' first
  | exact aW _ _ _
  | exact Le.refl _
  | refine Le.ite (fun _=>?_) fun _=>?_
  | refine Le.bind ?_ fun _=>?_
  | refine Le.loop fun _=>?_
  | split
  | dsimp only
def fV (r1:Gl05Read):Option (Int × Gl05Read) :=
 (aD r1 1 (⟨#[105,110,116]⟩:ByteArray)).bind fun ⟨r2,q3⟩ =>
 if r2=true then
  some (1,q3)
 else
  (aD q3 1 (⟨#[98,111,120]⟩:ByteArray)).bind fun ⟨r7,q8⟩ =>
  if r7=true then
   some (2,q8)
  else
   (aT q8 (⟨#[38]⟩:ByteArray)).bind fun q12 =>
   Option.bind (
    (aD q12 1 (⟨#[109,117,116]⟩:ByteArray)).bind fun ⟨r17,q18⟩ =>
    if r17=true then
     some ((4:Int),q18)
    else
     some ((3:Int),q18)) fun ⟨t22,v23⟩ =>
   (aD v23 1 (⟨#[98,111,120]⟩:ByteArray)).bind fun ⟨r24,q25⟩ =>
   if (!r24)=true then
    some (t22,(⟨q25.list,q25.at_,true,q25.deep,q25.nodes⟩:Gl05Read))
   else
    some (t22,q25)
theorem lD (r1:Gl05Read):Le (fV r1) (cT r1):=by
 unfold fV cT
 repeat' first
  | exact aW _ _ _
  | exact bT _ _
  | exact Le.refl _
  | refine Le.ite (fun _=>?_) fun _=>?_
  | refine Le.bind ?_ fun _=>?_
  | refine Le.loop fun _=>?_
  | split
  | dsimp only
def jP (r1:Gl05Read):Option (Int × Gl05Read) :=
 (aD r1 1 (⟨#[109,117,116]⟩:ByteArray)).bind fun ⟨r2,q3⟩ =>
 if r2=true then
  (bB q3).bind fun ⟨r7,q8⟩ =>
  (aG q8 (⟨6,0,r7,[]⟩:GNode)).bind fun ⟨r10,q11⟩ =>
  some (r10,q11)
 else
  (bB q3).bind fun ⟨r13,q14⟩ =>
  (aG q14 (⟨5,0,r13,[]⟩:GNode)).bind fun ⟨r16,q17⟩ =>
  some (r16,q17)
theorem qS (r1:Gl05Read):Le (jP r1) (dH r1):=by
 unfold jP dH
 repeat' first
  | exact aW _ _ _
  | exact dD _
  | exact Le.refl _
  | refine Le.ite (fun _=>?_) fun _=>?_
  | refine Le.bind ?_ fun _=>?_
  | refine Le.loop fun _=>?_
  | split
  | dsimp only
def gN (rec_spec_l05Read_value:Gl05Read→Option (Int × Gl05Read)) (rec_spec_l05Read_sum:Gl05Read→Option (Int × Gl05Read)) (rec_spec_l05Read_term:Gl05Read→Option (Int × Gl05Read)) (rec_spec_l05Read_args:Gl05Read→ByteArray→Option (Int × Gl05Read)) (r1:Gl05Read):Option (Int × Gl05Read) :=
 (rec_spec_l05Read_sum r1).bind fun ⟨r2,q3⟩ =>
 Option.bind (
  (aD q3 3 (⟨#[60]⟩:ByteArray)).bind fun ⟨r8,q9⟩ =>
  if r8=true then
   some ((10:Int),q9)
  else
   (aD q9 3 (⟨#[61,61]⟩:ByteArray)).bind fun ⟨r13,q14⟩ =>
   if r13=true then
    some ((11:Int),q14)
   else
    some ((0:Int),q14)) fun ⟨kind18,v19⟩ =>
 if (kind18 != 0)=true then
  (rec_spec_l05Read_sum v19).bind fun ⟨r22,q23⟩ =>
  (aG q23 (⟨kind18,0,ByteArray.empty,[r2,r22]⟩:GNode)).bind fun ⟨r25,q26⟩ =>
  some (r25,q26)
 else
  some (r2,v19)
theorem oK {crec_spec_l05Read_value rec_spec_l05Read_value:Gl05Read→Option (Int × Gl05Read)} (hrec_spec_l05Read_value:∀ y0,Le (crec_spec_l05Read_value y0) (rec_spec_l05Read_value y0)) {crec_spec_l05Read_sum rec_spec_l05Read_sum:Gl05Read→Option (Int × Gl05Read)} (hrec_spec_l05Read_sum:∀ y0,Le (crec_spec_l05Read_sum y0) (rec_spec_l05Read_sum y0)) {crec_spec_l05Read_term rec_spec_l05Read_term:Gl05Read→Option (Int × Gl05Read)} (hrec_spec_l05Read_term:∀ y0,Le (crec_spec_l05Read_term y0) (rec_spec_l05Read_term y0)) {crec_spec_l05Read_args rec_spec_l05Read_args:Gl05Read→ByteArray→Option (Int × Gl05Read)} (hrec_spec_l05Read_args:∀ y0 y1,Le (crec_spec_l05Read_args y0 y1) (rec_spec_l05Read_args y0 y1)) (r1:Gl05Read):Le (gN crec_spec_l05Read_value crec_spec_l05Read_sum crec_spec_l05Read_term crec_spec_l05Read_args r1) (cF rec_spec_l05Read_value rec_spec_l05Read_sum rec_spec_l05Read_term rec_spec_l05Read_args r1):=by
 unfold gN cF
 repeat' first
  | exact aW _ _ _
  | exact hrec_spec_l05Read_value _
  | exact hrec_spec_l05Read_sum _
  | exact hrec_spec_l05Read_term _
  | exact hrec_spec_l05Read_args _ _
  | exact Le.refl _
  | refine Le.ite (fun _=>?_) fun _=>?_
  | refine Le.bind ?_ fun _=>?_
  | refine Le.loop fun _=>?_
  | split
  | dsimp only
def iD (rec_spec_l05Read_term:Gl05Read→Option (Int × Gl05Read)):(Int × Gl05Read)→Option ((Int × Gl05Read) ⊕ (Int × Gl05Read)):=fun ⟨k8,v9⟩ =>
 (aD v9 3 (⟨#[43]⟩:ByteArray)).bind fun ⟨r13,q14⟩ =>
 if r13=true then
  (rec_spec_l05Read_term q14).bind fun ⟨r18,q19⟩ =>
  (aG q19 (⟨9,0,ByteArray.empty,[k8,r18]⟩:GNode)).bind fun ⟨r21,q22⟩ =>
  some (Sum.inl (r21,q22))
 else
  some (Sum.inr (k8,q14))
theorem pD {crec_spec_l05Read_term rec_spec_l05Read_term:Gl05Read→Option (Int × Gl05Read)} (hrec_spec_l05Read_term:∀ y0,Le (crec_spec_l05Read_term y0) (rec_spec_l05Read_term y0)) (s):Le (iD crec_spec_l05Read_term s) (eK rec_spec_l05Read_term s):=by
 unfold iD eK
 repeat' first
  | exact aW _ _ _
  | exact hrec_spec_l05Read_term _
  | exact Le.refl _
  | refine Le.ite (fun _=>?_) fun _=>?_
  | refine Le.bind ?_ fun _=>?_
  | refine Le.loop fun _=>?_
  | split
  | dsimp only
def jB (rec_spec_l05Read_value:Gl05Read→Option (Int × Gl05Read)) (rec_spec_l05Read_sum:Gl05Read→Option (Int × Gl05Read)) (rec_spec_l05Read_term:Gl05Read→Option (Int × Gl05Read)) (rec_spec_l05Read_args:Gl05Read→ByteArray→Option (Int × Gl05Read)) (r1:Gl05Read):Option (Int × Gl05Read) :=
 (rec_spec_l05Read_term r1).bind fun ⟨r2,q3⟩ =>
 Option.bind (
  tW 400 (iD rec_spec_l05Read_term) (r2,q3)) fun ⟨k25,v26⟩ =>
 some (k25,v26)
theorem pZ {crec_spec_l05Read_value rec_spec_l05Read_value:Gl05Read→Option (Int × Gl05Read)} (hrec_spec_l05Read_value:∀ y0,Le (crec_spec_l05Read_value y0) (rec_spec_l05Read_value y0)) {crec_spec_l05Read_sum rec_spec_l05Read_sum:Gl05Read→Option (Int × Gl05Read)} (hrec_spec_l05Read_sum:∀ y0,Le (crec_spec_l05Read_sum y0) (rec_spec_l05Read_sum y0)) {crec_spec_l05Read_term rec_spec_l05Read_term:Gl05Read→Option (Int × Gl05Read)} (hrec_spec_l05Read_term:∀ y0,Le (crec_spec_l05Read_term y0) (rec_spec_l05Read_term y0)) {crec_spec_l05Read_args rec_spec_l05Read_args:Gl05Read→ByteArray→Option (Int × Gl05Read)} (hrec_spec_l05Read_args:∀ y0 y1,Le (crec_spec_l05Read_args y0 y1) (rec_spec_l05Read_args y0 y1)) (r1:Gl05Read):Le (jB crec_spec_l05Read_value crec_spec_l05Read_sum crec_spec_l05Read_term crec_spec_l05Read_args r1) (dC rec_spec_l05Read_value rec_spec_l05Read_sum rec_spec_l05Read_term rec_spec_l05Read_args r1):=by
 unfold jB dC
 repeat' first
  | exact pD hrec_spec_l05Read_term _
  | exact hrec_spec_l05Read_value _
  | exact hrec_spec_l05Read_sum _
  | exact hrec_spec_l05Read_term _
  | exact hrec_spec_l05Read_args _ _
  | exact Le.refl _
  | refine Le.ite (fun _=>?_) fun _=>?_
  | refine Le.bind ?_ fun _=>?_
  | refine Le.loop fun _=>?_
  | split
  | dsimp only
def iC (rec_spec_l05Read_value:Gl05Read→Option (Int × Gl05Read)) (rec_spec_l05Read_sum:Gl05Read→Option (Int × Gl05Read)) (rec_spec_l05Read_term:Gl05Read→Option (Int × Gl05Read)) (rec_spec_l05Read_args:Gl05Read→ByteArray→Option (Int × Gl05Read)) (r1:Gl05Read):Option (Int × Gl05Read) :=
 Option.bind (
  if r1.bad=true then
   some true
  else
   if (decide (r1.at_ ≥ (r1.list.length:Int)))=true then
    some true
   else
    some (decide (r1.deep > 12))) fun v8 =>
 if v8=true then
  some (0,(⟨r1.list,r1.at_,true,r1.deep,r1.nodes⟩:Gl05Read))
 else
  Option.bind (
   (bD r1.list r1.at_).bind fun e15 =>
   if (e15.Kind == 2)=true then
    (bD r1.list (IntKind.wrap .i64 ((IntKind.wrap .i64 (r1.at_ + 1)) - 1))).bind fun e19 =>
    (aG (⟨r1.list,IntKind.wrap .i64 (r1.at_ + 1),r1.bad,IntKind.wrap .i64 (r1.deep + 1),r1.nodes⟩:Gl05Read) (⟨1,e19.Num,ByteArray.empty,[]⟩:GNode)).bind fun ⟨r20,q21⟩ =>
    some (r20,q21)
   else
    (aD (⟨r1.list,r1.at_,r1.bad,IntKind.wrap .i64 (r1.deep + 1),r1.nodes⟩:Gl05Read) 3 (⟨#[42]⟩:ByteArray)).bind fun ⟨r23,q24⟩ =>
    if r23=true then
     (bB q24).bind fun ⟨r28,q29⟩ =>
     (aG q29 (⟨3,0,r28,[]⟩:GNode)).bind fun ⟨r31,q32⟩ =>
     some (r31,q32)
    else
     (aD q24 3 (⟨#[38]⟩:ByteArray)).bind fun ⟨r34,q35⟩ =>
     if r34=true then
      (jP q35).bind fun ⟨r39,q40⟩ =>
      some (r39,q40)
     else
      (aD q35 3 (⟨#[40]⟩:ByteArray)).bind fun ⟨r42,q43⟩ =>
      if r42=true then
       (rec_spec_l05Read_value q43).bind fun ⟨r47,q48⟩ =>
       (aT q48 (⟨#[41]⟩:ByteArray)).bind fun q50 =>
       some (r47,q50)
      else
       (aD q43 1 (⟨#[99,108,111,110,101]⟩:ByteArray)).bind fun ⟨r52,q53⟩ =>
       if r52=true then
        (bB q53).bind fun ⟨r57,q58⟩ =>
        (aG q58 (⟨4,0,r57,[]⟩:GNode)).bind fun ⟨r60,q61⟩ =>
        some (r60,q61)
       else
        (aD q53 1 (⟨#[105,110,112,117,116]⟩:ByteArray)).bind fun ⟨r63,q64⟩ =>
        if r63=true then
         (aG q64 (⟨7,0,ByteArray.empty,[]⟩:GNode)).bind fun ⟨r68,q69⟩ =>
         some (r68,q69)
        else
         (aD q64 1 (⟨#[110,101,119]⟩:ByteArray)).bind fun ⟨r71,q72⟩ =>
         if r71=true then
          (rec_spec_l05Read_term q72).bind fun ⟨r76,q77⟩ =>
          (aG q77 (⟨8,0,ByteArray.empty,[r76]⟩:GNode)).bind fun ⟨r79,q80⟩ =>
          some (r79,q80)
         else
          (bB q72).bind fun ⟨r82,q83⟩ =>
          (aD q83 3 (⟨#[40]⟩:ByteArray)).bind fun ⟨r85,q86⟩ =>
          if r85=true then
           (rec_spec_l05Read_args q86 r82).bind fun ⟨r90,q91⟩ =>
           some (r90,q91)
          else
           (aG q86 (⟨2,0,r82,[]⟩:GNode)).bind fun ⟨r93,q94⟩ =>
           some (r93,q94)) fun ⟨k96,v97⟩ =>
  some (k96,(⟨v97.list,v97.at_,v97.bad,IntKind.wrap .i64 (v97.deep - 1),v97.nodes⟩:Gl05Read))
theorem pC {crec_spec_l05Read_value rec_spec_l05Read_value:Gl05Read→Option (Int × Gl05Read)} (hrec_spec_l05Read_value:∀ y0,Le (crec_spec_l05Read_value y0) (rec_spec_l05Read_value y0)) {crec_spec_l05Read_sum rec_spec_l05Read_sum:Gl05Read→Option (Int × Gl05Read)} (hrec_spec_l05Read_sum:∀ y0,Le (crec_spec_l05Read_sum y0) (rec_spec_l05Read_sum y0)) {crec_spec_l05Read_term rec_spec_l05Read_term:Gl05Read→Option (Int × Gl05Read)} (hrec_spec_l05Read_term:∀ y0,Le (crec_spec_l05Read_term y0) (rec_spec_l05Read_term y0)) {crec_spec_l05Read_args rec_spec_l05Read_args:Gl05Read→ByteArray→Option (Int × Gl05Read)} (hrec_spec_l05Read_args:∀ y0 y1,Le (crec_spec_l05Read_args y0 y1) (rec_spec_l05Read_args y0 y1)) (r1:Gl05Read):Le (iC crec_spec_l05Read_value crec_spec_l05Read_sum crec_spec_l05Read_term crec_spec_l05Read_args r1) (cO rec_spec_l05Read_value rec_spec_l05Read_sum rec_spec_l05Read_term rec_spec_l05Read_args r1):=by
 unfold iC cO
 repeat' first
  | exact aW _ _ _
  | exact dD _
  | exact qS _
  | exact bT _ _
  | exact hrec_spec_l05Read_value _
  | exact hrec_spec_l05Read_sum _
  | exact hrec_spec_l05Read_term _
  | exact hrec_spec_l05Read_args _ _
  | exact Le.refl _
  | refine Le.ite (fun _=>?_) fun _=>?_
  | refine Le.bind ?_ fun _=>?_
  | refine Le.loop fun _=>?_
  | split
  | dsimp only
def gQ (rec_spec_l05Read_value:Gl05Read→Option (Int × Gl05Read)):((List Int) × Gl05Read)→Option (((List Int) × Gl05Read) ⊕ ((List Int) × Gl05Read)):=fun ⟨kids11,v12⟩ =>
 if (!v12.bad)=true then
  (rec_spec_l05Read_value v12).bind fun ⟨r18,q19⟩ =>
  (cE 8 kids11 [r18]).bind fun l21 =>
  (aD q19 3 (⟨#[41]⟩:ByteArray)).bind fun ⟨r22,q23⟩ =>
  if r22=true then
   some (Sum.inr (l21,q23))
  else
   (aT q23 (⟨#[44]⟩:ByteArray)).bind fun q28 =>
   some (Sum.inl (l21,q28))
 else
  some (Sum.inr (kids11,v12))
theorem oN {crec_spec_l05Read_value rec_spec_l05Read_value:Gl05Read→Option (Int × Gl05Read)} (hrec_spec_l05Read_value:∀ y0,Le (crec_spec_l05Read_value y0) (rec_spec_l05Read_value y0)) (s):Le (gQ crec_spec_l05Read_value s) (dX rec_spec_l05Read_value s):=by
 unfold gQ dX
 repeat' first
  | exact aW _ _ _
  | exact bT _ _
  | exact hrec_spec_l05Read_value _
  | exact Le.refl _
  | refine Le.ite (fun _=>?_) fun _=>?_
  | refine Le.bind ?_ fun _=>?_
  | refine Le.loop fun _=>?_
  | split
  | dsimp only
def iF (rec_spec_l05Read_value:Gl05Read→Option (Int × Gl05Read)) (rec_spec_l05Read_sum:Gl05Read→Option (Int × Gl05Read)) (rec_spec_l05Read_term:Gl05Read→Option (Int × Gl05Read)) (rec_spec_l05Read_args:Gl05Read→ByteArray→Option (Int × Gl05Read)) (r1:Gl05Read) (name2:ByteArray):Option (Int × Gl05Read) :=
 Option.bind (
  (aD r1 3 (⟨#[41]⟩:ByteArray)).bind fun ⟨r6,q7⟩ =>
  if (!r6)=true then
   tW 400 (gQ rec_spec_l05Read_value) ([],q7)
  else
   some ([],q7)) fun ⟨kids31,v32⟩ =>
 (aG v32 (⟨12,0,name2,kids31⟩:GNode)).bind fun ⟨r33,q34⟩ =>
 some (r33,q34)
theorem pF {crec_spec_l05Read_value rec_spec_l05Read_value:Gl05Read→Option (Int × Gl05Read)} (hrec_spec_l05Read_value:∀ y0,Le (crec_spec_l05Read_value y0) (rec_spec_l05Read_value y0)) {crec_spec_l05Read_sum rec_spec_l05Read_sum:Gl05Read→Option (Int × Gl05Read)} (hrec_spec_l05Read_sum:∀ y0,Le (crec_spec_l05Read_sum y0) (rec_spec_l05Read_sum y0)) {crec_spec_l05Read_term rec_spec_l05Read_term:Gl05Read→Option (Int × Gl05Read)} (hrec_spec_l05Read_term:∀ y0,Le (crec_spec_l05Read_term y0) (rec_spec_l05Read_term y0)) {crec_spec_l05Read_args rec_spec_l05Read_args:Gl05Read→ByteArray→Option (Int × Gl05Read)} (hrec_spec_l05Read_args:∀ y0 y1,Le (crec_spec_l05Read_args y0 y1) (rec_spec_l05Read_args y0 y1)) (r1:Gl05Read) (name2:ByteArray):Le (iF crec_spec_l05Read_value crec_spec_l05Read_sum crec_spec_l05Read_term crec_spec_l05Read_args r1 name2) (cQ rec_spec_l05Read_value rec_spec_l05Read_sum rec_spec_l05Read_term rec_spec_l05Read_args r1 name2):=by
 unfold iF cQ
 repeat' first
  | exact aW _ _ _
  | exact oN hrec_spec_l05Read_value _
  | exact hrec_spec_l05Read_value _
  | exact hrec_spec_l05Read_sum _
  | exact hrec_spec_l05Read_term _
  | exact hrec_spec_l05Read_args _ _
  | exact Le.refl _
  | refine Le.ite (fun _=>?_) fun _=>?_
  | refine Le.bind ?_ fun _=>?_
  | refine Le.loop fun _=>?_
  | split
  | dsimp only
def aF:Nat→(Gl05Read→Option (Int × Gl05Read)) × (Gl05Read→Option (Int × Gl05Read)) × (Gl05Read→Option (Int × Gl05Read)) × (Gl05Read→ByteArray→Option (Int × Gl05Read))
 | 0=>(fun _=>none,fun _=>none,fun _=>none,fun _ _=>none)
 | n + 1=>(gN ((aF n).1) ((aF n).2.1) ((aF n).2.2.1) ((aF n).2.2.2),jB ((aF n).1) ((aF n).2.1) ((aF n).2.2.1) ((aF n).2.2.2),iC ((aF n).1) ((aF n).2.1) ((aF n).2.2.1) ((aF n).2.2.2),iF ((aF n).1) ((aF n).2.1) ((aF n).2.2.1) ((aF n).2.2.2))
theorem iI:∀ n m:Nat,n ≤ m→(∀ x0,Le ((aF n).1 x0) ((aA m).1 x0))∧(∀ x0,Le ((aF n).2.1 x0) ((aA m).2.1 x0))∧(∀ x0,Le ((aF n).2.2.1 x0) ((aA m).2.2.1 x0))∧(∀ x0 x1,Le ((aF n).2.2.2 x0 x1) ((aA m).2.2.2 x0 x1))
 | 0,m,_=>⟨fun _=>Le.none,fun _=>Le.none,fun _=>Le.none,fun _ _=>Le.none⟩
 | n + 1,0,h=>absurd h (by omega)
 | n + 1,m + 1,h=>by
  have ih:=iI n m (by omega)
  exact ⟨fun _=>oK ih.1 ih.2.1 ih.2.2.1 ih.2.2.2 _,fun _=>pZ ih.1 ih.2.1 ih.2.2.1 ih.2.2.2 _,fun _=>pC ih.1 ih.2.1 ih.2.2.1 ih.2.2.2 _,fun _ _=>pF ih.1 ih.2.1 ih.2.2.1 ih.2.2.2 _ _⟩
def dQ:Gl05Read→Option (Int × Gl05Read):=(aF 60).1
theorem gH:∀ x0,Le (dQ x0) (dB x0):=(iI 60 eX (by decide)).1
def cB (r1:Gl05Read) (kind2:Int) (name3:ByteArray):Option (Int × Gl05Read) :=
 (dQ r1).bind fun ⟨r4,q5⟩ =>
 (aT q5 (⟨#[59]⟩:ByteArray)).bind fun q7 =>
 (aG q7 (⟨kind2,0,name3,[r4]⟩:GNode)).bind fun ⟨r9,q10⟩ =>
 some (r9,q10)
theorem qC (r1:Gl05Read) (kind2:Int) (name3:ByteArray):Le (cB r1 kind2 name3) (bQ r1 kind2 name3):=by
 unfold cB bQ
 repeat' first
  | exact gH _
  | exact bT _ _
  | exact Le.refl _
  | refine Le.ite (fun _=>?_) fun _=>?_
  | refine Le.bind ?_ fun _=>?_
  | refine Le.loop fun _=>?_
  | split
  | dsimp only
def gI (rec_spec_l05Read_step:Gl05Read→Option (Int × Gl05Read)):((List Int) × Gl05Read)→Option (((List Int) × Gl05Read) ⊕ ((List Int) × Gl05Read)):=fun ⟨out5,v6⟩ =>
 Option.bind (
  if (!v6.bad)=true then
   (fN v6 3 (⟨#[125]⟩:ByteArray)).bind fun ⟨r14,q15⟩ =>
   if (!r14)=true then
    (fN q15 1 (⟨#[114,101,116]⟩:ByteArray)).bind fun ⟨r19,q20⟩ =>
    some (!r19,q20)
   else
    some (false,q15)
  else
   some (false,v6)) fun ⟨v22,v23⟩ =>
 if v22=true then
  (rec_spec_l05Read_step v23).bind fun ⟨r26,q27⟩ =>
  (cE 8 out5 [r26]).bind fun l29 =>
  some (Sum.inl (l29,q27))
 else
  some (Sum.inr (out5,v23))
theorem nY {crec_spec_l05Read_step rec_spec_l05Read_step:Gl05Read→Option (Int × Gl05Read)} (hrec_spec_l05Read_step:∀ y0,Le (crec_spec_l05Read_step y0) (rec_spec_l05Read_step y0)) (s):Le (gI crec_spec_l05Read_step s) (dO rec_spec_l05Read_step s):=by
 unfold gI dO
 repeat' first
  | exact mZ _ _ _
  | exact hrec_spec_l05Read_step _
  | exact Le.refl _
  | refine Le.ite (fun _=>?_) fun _=>?_
  | refine Le.bind ?_ fun _=>?_
  | refine Le.loop fun _=>?_
  | split
  | dsimp only
def gO (rec_spec_l05Read_steps:Gl05Read→Option ((List Int) × Gl05Read)) (rec_spec_l05Read_step:Gl05Read→Option (Int × Gl05Read)) (rec_spec_l05Read_block:Gl05Read→Option (Int × Gl05Read)) (r1:Gl05Read):Option ((List Int) × Gl05Read) :=
 Option.bind (
  tW 400 (gI rec_spec_l05Read_step) ([],r1)) fun ⟨out31,v32⟩ =>
 some (out31,v32)
theorem oL {crec_spec_l05Read_steps rec_spec_l05Read_steps:Gl05Read→Option ((List Int) × Gl05Read)} (hrec_spec_l05Read_steps:∀ y0,Le (crec_spec_l05Read_steps y0) (rec_spec_l05Read_steps y0)) {crec_spec_l05Read_step rec_spec_l05Read_step:Gl05Read→Option (Int × Gl05Read)} (hrec_spec_l05Read_step:∀ y0,Le (crec_spec_l05Read_step y0) (rec_spec_l05Read_step y0)) {crec_spec_l05Read_block rec_spec_l05Read_block:Gl05Read→Option (Int × Gl05Read)} (hrec_spec_l05Read_block:∀ y0,Le (crec_spec_l05Read_block y0) (rec_spec_l05Read_block y0)) (r1:Gl05Read):Le (gO crec_spec_l05Read_steps crec_spec_l05Read_step crec_spec_l05Read_block r1) (cG rec_spec_l05Read_steps rec_spec_l05Read_step rec_spec_l05Read_block r1):=by
 unfold gO cG
 repeat' first
  | exact nY hrec_spec_l05Read_step _
  | exact hrec_spec_l05Read_steps _
  | exact hrec_spec_l05Read_step _
  | exact hrec_spec_l05Read_block _
  | exact Le.refl _
  | refine Le.ite (fun _=>?_) fun _=>?_
  | refine Le.bind ?_ fun _=>?_
  | refine Le.loop fun _=>?_
  | split
  | dsimp only
def iE (rec_spec_l05Read_steps:Gl05Read→Option ((List Int) × Gl05Read)) (rec_spec_l05Read_step:Gl05Read→Option (Int × Gl05Read)) (rec_spec_l05Read_block:Gl05Read→Option (Int × Gl05Read)) (r1:Gl05Read):Option (Int × Gl05Read) :=
 (aD r1 1 (⟨#[108,101,116]⟩:ByteArray)).bind fun ⟨r2,q3⟩ =>
 if r2=true then
  (bB q3).bind fun ⟨r7,q8⟩ =>
  (aT q8 (⟨#[61]⟩:ByteArray)).bind fun q10 =>
  (cB q10 13 r7).bind fun ⟨r12,q13⟩ =>
  some (r12,q13)
 else
  (aD q3 3 (⟨#[42]⟩:ByteArray)).bind fun ⟨r15,q16⟩ =>
  if r15=true then
   (bB q16).bind fun ⟨r20,q21⟩ =>
   (aT q21 (⟨#[61]⟩:ByteArray)).bind fun q23 =>
   (cB q23 15 r20).bind fun ⟨r25,q26⟩ =>
   some (r25,q26)
  else
   (aD q16 1 (⟨#[105,102]⟩:ByteArray)).bind fun ⟨r28,q29⟩ =>
   if r28=true then
    (dQ q29).bind fun ⟨r33,q34⟩ =>
    (rec_spec_l05Read_block q34).bind fun ⟨r36,q37⟩ =>
    Option.bind (
     (aD q37 1 (⟨#[101,108,115,101]⟩:ByteArray)).bind fun ⟨r42,q43⟩ =>
     if (!r42)=true then
      some (⟨q43.list,q43.at_,true,q43.deep,q43.nodes⟩:Gl05Read)
     else
      some q43) fun v47 =>
    (rec_spec_l05Read_block v47).bind fun ⟨r48,q49⟩ =>
    (aG q49 (⟨16,0,ByteArray.empty,[r33,r36,r48]⟩:GNode)).bind fun ⟨r51,q52⟩ =>
    some (r51,q52)
   else
    (aD q29 1 (⟨#[119,104,105,108,101]⟩:ByteArray)).bind fun ⟨r54,q55⟩ =>
    if r54=true then
     (dQ q55).bind fun ⟨r59,q60⟩ =>
     (rec_spec_l05Read_block q60).bind fun ⟨r62,q63⟩ =>
     (aG q63 (⟨17,0,ByteArray.empty,[r59,r62]⟩:GNode)).bind fun ⟨r65,q66⟩ =>
     some (r65,q66)
    else
     (aD q55 1 (⟨#[112,114,105,110,116]⟩:ByteArray)).bind fun ⟨r68,q69⟩ =>
     if r68=true then
      (cB q69 18 (⟨#[]⟩:ByteArray)).bind fun ⟨r73,q74⟩ =>
      some (r73,q74)
     else
      (aD q69 1 (⟨#[100,111]⟩:ByteArray)).bind fun ⟨r76,q77⟩ =>
      if r76=true then
       (cB q77 19 (⟨#[]⟩:ByteArray)).bind fun ⟨r81,q82⟩ =>
       some (r81,q82)
      else
       (bB q77).bind fun ⟨r84,q85⟩ =>
       (aT q85 (⟨#[61]⟩:ByteArray)).bind fun q87 =>
       (cB q87 14 r84).bind fun ⟨r89,q90⟩ =>
       some (r89,q90)
theorem pE {crec_spec_l05Read_steps rec_spec_l05Read_steps:Gl05Read→Option ((List Int) × Gl05Read)} (hrec_spec_l05Read_steps:∀ y0,Le (crec_spec_l05Read_steps y0) (rec_spec_l05Read_steps y0)) {crec_spec_l05Read_step rec_spec_l05Read_step:Gl05Read→Option (Int × Gl05Read)} (hrec_spec_l05Read_step:∀ y0,Le (crec_spec_l05Read_step y0) (rec_spec_l05Read_step y0)) {crec_spec_l05Read_block rec_spec_l05Read_block:Gl05Read→Option (Int × Gl05Read)} (hrec_spec_l05Read_block:∀ y0,Le (crec_spec_l05Read_block y0) (rec_spec_l05Read_block y0)) (r1:Gl05Read):Le (iE crec_spec_l05Read_steps crec_spec_l05Read_step crec_spec_l05Read_block r1) (cP rec_spec_l05Read_steps rec_spec_l05Read_step rec_spec_l05Read_block r1):=by
 unfold iE cP
 repeat' first
  | exact aW _ _ _
  | exact dD _
  | exact bT _ _
  | exact qC _ _ _
  | exact gH _
  | exact hrec_spec_l05Read_steps _
  | exact hrec_spec_l05Read_step _
  | exact hrec_spec_l05Read_block _
  | exact Le.refl _
  | refine Le.ite (fun _=>?_) fun _=>?_
  | refine Le.bind ?_ fun _=>?_
  | refine Le.loop fun _=>?_
  | split
  | dsimp only
def gP (rec_spec_l05Read_steps:Gl05Read→Option ((List Int) × Gl05Read)) (rec_spec_l05Read_step:Gl05Read→Option (Int × Gl05Read)) (rec_spec_l05Read_block:Gl05Read→Option (Int × Gl05Read)) (r1:Gl05Read):Option (Int × Gl05Read) :=
 Option.bind (
  if (decide (IntKind.wrap .i64 (r1.deep + 1) > 12))=true then
   some (⟨r1.list,r1.at_,true,IntKind.wrap .i64 (r1.deep + 1),r1.nodes⟩:Gl05Read)
  else
   some (⟨r1.list,r1.at_,r1.bad,IntKind.wrap .i64 (r1.deep + 1),r1.nodes⟩:Gl05Read)) fun v7 =>
 (aT v7 (⟨#[123]⟩:ByteArray)).bind fun q8 =>
 (rec_spec_l05Read_steps q8).bind fun ⟨r10,q11⟩ =>
 (aT q11 (⟨#[125]⟩:ByteArray)).bind fun q13 =>
 (aG (⟨q13.list,q13.at_,q13.bad,IntKind.wrap .i64 (q13.deep - 1),q13.nodes⟩:Gl05Read) (⟨20,0,ByteArray.empty,r10⟩:GNode)).bind fun ⟨r15,q16⟩ =>
 some (r15,q16)
theorem oM {crec_spec_l05Read_steps rec_spec_l05Read_steps:Gl05Read→Option ((List Int) × Gl05Read)} (hrec_spec_l05Read_steps:∀ y0,Le (crec_spec_l05Read_steps y0) (rec_spec_l05Read_steps y0)) {crec_spec_l05Read_step rec_spec_l05Read_step:Gl05Read→Option (Int × Gl05Read)} (hrec_spec_l05Read_step:∀ y0,Le (crec_spec_l05Read_step y0) (rec_spec_l05Read_step y0)) {crec_spec_l05Read_block rec_spec_l05Read_block:Gl05Read→Option (Int × Gl05Read)} (hrec_spec_l05Read_block:∀ y0,Le (crec_spec_l05Read_block y0) (rec_spec_l05Read_block y0)) (r1:Gl05Read):Le (gP crec_spec_l05Read_steps crec_spec_l05Read_step crec_spec_l05Read_block r1) (cH rec_spec_l05Read_steps rec_spec_l05Read_step rec_spec_l05Read_block r1):=by
 unfold gP cH
 repeat' first
  | exact bT _ _
  | exact hrec_spec_l05Read_steps _
  | exact hrec_spec_l05Read_step _
  | exact hrec_spec_l05Read_block _
  | exact Le.refl _
  | refine Le.ite (fun _=>?_) fun _=>?_
  | refine Le.bind ?_ fun _=>?_
  | refine Le.loop fun _=>?_
  | split
  | dsimp only
def aR:Nat→(Gl05Read→Option ((List Int) × Gl05Read)) × (Gl05Read→Option (Int × Gl05Read)) × (Gl05Read→Option (Int × Gl05Read))
 | 0=>(fun _=>none,fun _=>none,fun _=>none)
 | n + 1=>(gO ((aR n).1) ((aR n).2.1) ((aR n).2.2),iE ((aR n).1) ((aR n).2.1) ((aR n).2.2),gP ((aR n).1) ((aR n).2.1) ((aR n).2.2))
theorem iJ:∀ n m:Nat,n ≤ m→(∀ x0,Le ((aR n).1 x0) ((aC m).1 x0))∧(∀ x0,Le ((aR n).2.1 x0) ((aC m).2.1 x0))∧(∀ x0,Le ((aR n).2.2 x0) ((aC m).2.2 x0))
 | 0,m,_=>⟨fun _=>Le.none,fun _=>Le.none,fun _=>Le.none⟩
 | n + 1,0,h=>absurd h (by omega)
 | n + 1,m + 1,h=>by
  have ih:=iJ n m (by omega)
  exact ⟨fun _=>oL ih.1 ih.2.1 ih.2.2 _,fun _=>pE ih.1 ih.2.1 ih.2.2 _,fun _=>oM ih.1 ih.2.1 ih.2.2 _⟩
def mY:Gl05Read→Option ((List Int) × Gl05Read):=(aR 60).1
theorem qA:∀ x0,Le (mY x0) (iG x0):=(iJ 60 eX (by decide)).1
def jC:(GFn × Gl05Read)→Option ((GFn × Gl05Read) ⊕ (GFn × Gl05Read)):=fun ⟨v24,v25⟩ =>
 if (!v25.bad)=true then
  (bB v25).bind fun ⟨r31,q32⟩ =>
  (aT q32 (⟨#[58]⟩:ByteArray)).bind fun q34 =>
  (fV q34).bind fun ⟨r36,q37⟩ =>
  (cE 24 v24.Params [(⟨r31,r36⟩:GParam)]).bind fun l39 =>
  (aD q37 3 (⟨#[41]⟩:ByteArray)).bind fun ⟨r40,q41⟩ =>
  if r40=true then
   some (Sum.inr ((⟨v24.Name,l39,v24.Res,v24.Body,v24.Ret⟩:GFn),q41))
  else
   (aT q41 (⟨#[44]⟩:ByteArray)).bind fun q46 =>
   some (Sum.inl ((⟨v24.Name,l39,v24.Res,v24.Body,v24.Ret⟩:GFn),q46))
 else
  some (Sum.inr (v24,v25))
theorem qB (s):Le (jC  s) (fE  s):=by
 unfold jC fE
 repeat' first
  | exact dD _
  | exact bT _ _
  | exact lD _
  | exact aW _ _ _
  | exact Le.refl _
  | refine Le.ite (fun _=>?_) fun _=>?_
  | refine Le.bind ?_ fun _=>?_
  | refine Le.loop fun _=>?_
  | split
  | dsimp only
def lE (r1:Gl05Read):Option (GFn × Gl05Read) :=
 Option.bind (
  (aD r1 1 (⟨#[102,110]⟩:ByteArray)).bind fun ⟨r5,q6⟩ =>
  if (!r5)=true then
   some (⟨q6.list,q6.at_,true,q6.deep,q6.nodes⟩:Gl05Read)
  else
   some q6) fun v10 =>
 (bB v10).bind fun ⟨r11,q12⟩ =>
 (aT q12 (⟨#[40]⟩:ByteArray)).bind fun q14 =>
 Option.bind (
  (aD q14 3 (⟨#[41]⟩:ByteArray)).bind fun ⟨r19,q20⟩ =>
  if (!r19)=true then
   tW 400 (jC) ((⟨r11,[],0,0,(-1)⟩:GFn),q20)
  else
   some ((⟨r11,[],0,0,(-1)⟩:GFn),q20)) fun ⟨v49,v50⟩ =>
 Option.bind (
  (aD v50 3 (⟨#[45,62]⟩:ByteArray)).bind fun ⟨r54,q55⟩ =>
  if r54=true then
   (fV q55).bind fun ⟨r59,q60⟩ =>
   some ((⟨v49.Name,v49.Params,r59,v49.Body,v49.Ret⟩:GFn),q60)
  else
   some (v49,q55)) fun ⟨v62,v63⟩ =>
 (aT v63 (⟨#[123]⟩:ByteArray)).bind fun q64 =>
 (mY q64).bind fun ⟨r66,q67⟩ =>
 (aG q67 (⟨20,0,ByteArray.empty,r66⟩:GNode)).bind fun ⟨r69,q70⟩ =>
 Option.bind (
  (aD q70 1 (⟨#[114,101,116]⟩:ByteArray)).bind fun ⟨r75,q76⟩ =>
  if r75=true then
   (dQ q76).bind fun ⟨r80,q81⟩ =>
   (aT q81 (⟨#[59]⟩:ByteArray)).bind fun q83 =>
   some ((⟨v62.Name,v62.Params,v62.Res,r69,r80⟩:GFn),q83)
  else
   some ((⟨v62.Name,v62.Params,v62.Res,r69,v62.Ret⟩:GFn),q76)) fun ⟨v85,v86⟩ =>
 (aT v86 (⟨#[125]⟩:ByteArray)).bind fun q87 =>
 some (v85,q87)
theorem sC (r1:Gl05Read):Le (lE r1) (eL r1):=by
 unfold lE eL
 repeat' first
  | exact aW _ _ _
  | exact dD _
  | exact bT _ _
  | exact qB _
  | exact lD _
  | exact qA _
  | exact gH _
  | exact Le.refl _
  | refine Le.ite (fun _=>?_) fun _=>?_
  | refine Le.bind ?_ fun _=>?_
  | refine Le.loop fun _=>?_
  | split
  | dsimp only
def eU:(GProgram × Gl05Read)→Option ((GProgram × Gl05Read) ⊕ (GProgram × Gl05Read)):=fun ⟨v10,v11⟩ =>
 Option.bind (
  if (!v11.bad)=true then
   if (decide (v11.at_ < (v11.list.length:Int)))=true then
    some (decide ((v10.Fns.length:Int) ≤ 8))
   else
    some false
  else
   some false) fun v21 =>
 if v21=true then
  (lE v11).bind fun ⟨r24,q25⟩ =>
  (cE 64 v10.Fns [r24]).bind fun l27 =>
  some (Sum.inl ((⟨v10.Nodes,l27⟩:GProgram),q25))
 else
  some (Sum.inr (v10,v11))
theorem pG (s):Le (eU  s) (dJ  s):=by
 unfold eU dJ
 repeat' first
  | exact sC _
  | exact Le.refl _
  | refine Le.ite (fun _=>?_) fun _=>?_
  | refine Le.bind ?_ fun _=>?_
  | refine Le.loop fun _=>?_
  | split
  | dsimp only
def aG0 (t:ByteArray):Option GProgram:=(lH t).bind fun x=>if (!x.2)=true then none else (tW 400 eU (⟨[],[]⟩,⟨x.1,0,false,0,[]⟩)).bind fun y=>if y.2.bad=true then none else some ⟨y.2.nodes,y.1.Fns⟩
theorem aJ6 {t:ByteArray} (h:(aG0 t).map uL=some true):∃ p,cC t=some (p,true)∧uL p=true∧aG0 t=some p:=by
 cases hc:aG0 t with
 | none=>rw [hc] at h;cases h
 | some p =>
  rw [hc] at h
  simp only [Option.map_some,Option.some.injEq] at h
  refine ⟨p,?_,h,rfl⟩
  unfold aG0 at hc
  cases hs:lH t with
  | none=>rw [hs] at hc;cases hc
  | some x =>
   obtain ⟨l,b⟩:=x
   rw [hs] at hc
   simp only [Option.bind_some] at hc
   cases b with
   | false=>cases hc
   | true =>
    simp only [Bool.not_true,Bool.false_eq_true,if_false] at hc
    unfold cC
    rw [vH t _ hs]
    simp only [Option.bind_some,Bool.not_true,Bool.false_eq_true,if_false]
    cases hl:tW 400 eU ((⟨[],[]⟩:GProgram),(⟨l,0,false,0,[]⟩:Gl05Read)) with
    | none=>rw [hl] at hc;cases hc
    | some y =>
     obtain ⟨q,r⟩:=y
     rw [hl] at hc
     rw [Le.loop (fun s=>pG s) _ hl]
     simp only [Option.bind_some] at hc ⊢
     cases hb:r.bad with
     | true=>rw [hb] at hc;cases hc
     | false =>
      rw [hb] at hc
      simp only [Bool.false_eq_true,if_false,Option.some.injEq] at hc ⊢
      subst hc
      obtain ⟨b1,b2,b3,b4,hu⟩:=uK h
      rw [lQ _ (by omega) (by dsimp only at b3 b4 ⊢;omega),h]
      rfl
theorem fall3:∃ p,cC (⟨#[102,110,32,109,97,105,110,40,41,32,123,32,112,114,105,110,116,32,49,59,32,125]⟩:ByteArray)=some (p,true)∧uL p=true:=by
 obtain ⟨p,h1,h2,_⟩:=aJ6 (t:=(⟨#[102,110,32,109,97,105,110,40,41,32,123,32,112,114,105,110,116,32,49,59,32,125]⟩:ByteArray)) (by kernel_rfl)
 exact ⟨p,h1,h2⟩
end Go.OM
namespace Go.OM
variable {α:Type} {Q:α→Prop}
theorem tX {n m:Nat} {p:GProgram} (h:GProgram.le n p) (hnm:n ≤ m):GProgram.le m p :=
 ⟨⟨Nat.le_trans h.1.1 hnm,fun x hx=>⟨Nat.le_trans (h.1.2 x hx).1 hnm,Nat.le_trans (h.1.2 x hx).2 hnm⟩⟩,⟨Nat.le_trans h.2.1 hnm,fun f hf=>⟨Nat.le_trans (h.2.2 f hf).1 hnm,Nat.le_trans (h.2.2 f hf).2.1 hnm,fun y hy=>Nat.le_trans ((h.2.2 f hf).2.2 y hy) hnm⟩⟩⟩
theorem aJh {c:Gl01Cur} (hc:Cur c):Ends (iK c) (fun r=>Cur r.2∧GProgram.le 4000 r.1∧uL r.1=true):=by
 unfold iK
 refine Ends.bind (E_Text hc (by omega) (by omega)) ?_
 rintro ⟨t,q⟩ ⟨hq,_⟩
 dsimp only at hq ⊢
 refine Ends.bind (qT t) ?_
 rintro ⟨p,b⟩ ⟨h1,h2,h3⟩
 dsimp only at h1 h2 h3 ⊢
 refine Ends.ite (fun _=>?_) fun hb=>Ends.one ⟨hq,h1,h2 (by simpa using hb)⟩
 refine Ends.bind (qT _) ?_
 rintro ⟨p2,b2⟩ ⟨h4,h5,h6⟩
 dsimp only at h4 h5 h6 ⊢
 refine Ends.ite (fun _=>?_) fun hz=>Ends.one ⟨hq,h4,?_⟩
 ·obtain ⟨p3,h7,h8⟩:=fall3
  obtain ⟨r,h9,h10,_⟩:=qT (⟨#[102,110,32,109,97,105,110,40,41,32,123,32,112,114,105,110,116,32,49,59,32,125]⟩:ByteArray)
  rw [h7] at h9
  injection h9 with h9
  subst h9
  rw [h7]
  exact Ends.one ⟨hq,h10,h8⟩
 cases hb:b2 with
 | true=>exact h5 hb
 | false=>rw [h6 hb] at hz;simp at hz
theorem aBp {p:GProgram} (h:GProgram.le 4000 p) (k:Nat) {x:GNode} (h1:x.Name.size ≤ 5000) (h2:x.Kids.length ≤ 5000):GProgram.le 5000 ⟨p.Nodes.set k x,p.Fns⟩:=by
 have h':=tX h (show 4000 ≤ 5000 by omega)
 refine ⟨⟨by rw [List.length_set];exact h'.1.1,fun y hy=>?_⟩,h'.2⟩
 rcases List.mem_or_eq_of_mem_set hy with hy | rfl
 ·exact h'.1.2 y hy
 exact ⟨h1,h2⟩
theorem aBq {p:GProgram} (h:GProgram.le 4000 p) (k:Nat) {x:GFn} (h1:GFn.le 5000 x):GProgram.le 5000 ⟨p.Nodes,p.Fns.set k x⟩:=by
 have h':=tX h (show 4000 ≤ 5000 by omega)
 refine ⟨h'.1,⟨by rw [List.length_set];exact h'.2.1,fun y hy=>?_⟩⟩
 rcases List.mem_or_eq_of_mem_set hy with hy | rfl
 ·exact h'.2.2 y hy
 exact h1
theorem aHo {x:Int} (h:0 ≤ x) (n:Int) (hn:0 < n):0 ≤ Int.tmod x n∧Int.tmod x n < n:=⟨Int.tmod_nonneg _ h,Int.tmod_lt_of_pos _ hn⟩
theorem aCa {c:Gl01Cur} (hc:Cur c):Ends (iO c) (fun r=>Cur r.2∧GProgram.le 5000 r.1∧1 ≤ r.1.Nodes.length):=by
 unfold iO
 refine oG hc fun r2 q3 h1 h2 h3=>?_
 dsimp only
 refine oG h1 fun r5 q6 h4 h5 h6=>?_
 dsimp only
 refine Ends.bind (aJh h4) ?_
 rintro ⟨p,q⟩ ⟨hq,hp,hok⟩
 dsimp only at hq hp hok ⊢
 rw [aH4 p (tX hp (by omega))]
 simp only [Option.bind_some]
 obtain ⟨b1,b2,b3,b4,hu⟩:=uK hok
 have hle:=tX hp (show 4000 ≤ 5000 by omega)
 refine Ends.bind (yK h5 (by omega)) fun n ⟨n0,n1⟩=>?_
 have hn:∀ k:Nat,∀ x:GNode,1 ≤ (p.Nodes.set k x).length:=fun k x=>by rw [List.length_set];exact b1
 have hN:=hp.1.2
 have hF:=hp.2.2
 refine Ends.ite (fun _=>?_) fun _=>?_
 ·refine Ends.get n0 n1 fun e he=>?_
  rw [eS]
  exact Ends.one ⟨hq,aBp hp _ (by have:=(hN e he).1;dsimp only;omega) (by have:=(hN e he).2;dsimp only;omega),hn _ _⟩
 refine Ends.ite (fun _=>?_) fun _=>?_
 ·have:=aHo h5 3 (by omega)
  refine Ends.get this.1 (by simp only [List.length_cons,List.length_nil];omega) fun v _=>?_
  refine Ends.get n0 n1 fun e he=>?_
  rw [eS]
  exact Ends.one ⟨hq,aBp hp _ (by have:=(hN e he).1;dsimp only;omega) (by have:=(hN e he).2;dsimp only;omega),hn _ _⟩
 refine Ends.ite (fun _=>?_) fun _=>?_
 ·have:=aHo h5 4 (by omega)
  refine Ends.get this.1 (by simp only [List.length_cons,List.length_nil];omega) fun v hv=>?_
  have hvs:v.size ≤ 5000:=by
   simp only [List.mem_cons,List.mem_nil_iff,or_false] at hv
   rcases hv with rfl | rfl | rfl | rfl<;>decide
  refine Ends.get n0 n1 fun e he=>?_
  rw [eS]
  exact Ends.one ⟨hq,aBp hp _ hvs (by have:=(hN e he).2;dsimp only;omega),hn _ _⟩
 refine Ends.ite (fun _=>?_) fun _=>?_
 ·refine Ends.get n0 n1 fun e he=>?_
  have h9:=(hN e he).2
  refine Ends.app1 (by omega) (by omega) ?_
  rw [eS]
  exact Ends.one ⟨hq,aBp hp _ (by have:=(hN e he).1;dsimp only;omega) (by simp only [List.length_append,List.length_cons,List.length_nil];omega),hn _ _⟩
 refine Ends.ite (fun _=>?_) fun _=>?_
 ·refine Ends.bind (yK h5 (by omega)) fun k ⟨k0,k1⟩=>Ends.get k0 k1 fun e he=>?_
  rw [eS]
  exact Ends.one ⟨hq,aBq hp _ (hle.2.2 e he),b1⟩
 refine Ends.ite (fun _=>?_) fun _=>?_
 ·refine Ends.bind (yK h5 (by omega)) fun k ⟨k0,k1⟩=>Ends.get k0 k1 fun e he=>?_
  rw [eS]
  exact Ends.one ⟨hq,aBq hp _ (hle.2.2 e he),b1⟩
 refine Ends.ite (fun _=>?_) fun _=>?_
 ·refine Ends.bind (yK h5 (by omega)) fun k ⟨k0,k1⟩=>Ends.get k0 k1 fun e he=>?_
  rw [eS]
  exact Ends.one ⟨hq,aBq hp _ ⟨by dsimp only;decide,(hle.2.2 e he).2⟩,b1⟩
 refine Ends.ite (fun _=>?_) fun _=>Ends.one ⟨hq,hle,b1⟩
 ·refine Ends.bind (yK h5 (by omega)) fun k ⟨k0,k1⟩=>Ends.get k0 k1 fun e he=>?_
  have h9:=(hF e he).2.1
  refine Ends.app1 (by omega) (by omega) ?_
  rw [eS]
  refine Ends.one ⟨hq,aBq hp _ ⟨(hle.2.2 e he).1,by simp only [List.length_append,List.length_cons,List.length_nil];omega,fun y hy=>?_⟩,b1⟩
  rcases List.mem_append.1 hy with hy | hy
  ·exact (hle.2.2 e he).2.2 y hy
  rw [List.mem_singleton.1 hy];unfold GParam.le;dsimp only;decide
theorem aK2 (x:ByteArray):sEq x x=true:=by rw [aBg];simp
end Go.OM
namespace Go.OM
def num (x:Int):ByteArray:=⟨(Lib.decDigits x.toNat).toArray⟩
theorem aFi (x:Int) (h:x ≤ 9223372036854775807):(num x).size ≤ 19:=by
 show (Lib.decDigits x.toNat).toArray.size ≤ 19
 rw [List.size_toArray]
 exact qR (by omega)
theorem aIm (x:Int) (h:x ≤ 9223372036854775807):dA x=some (num x):=by
 unfold dA
 by_cases h0:x < 0
 ·have hd:decide (x < 0)=true:=by simp;omega
  rw [hd,if_pos rfl]
  unfold num
  rw [show x.toNat=0 by omega,Lib.decDigits_one (by omega)];rfl
 have hd:decide (x < 0)=false:=by simp;omega
 rw [hd]
 obtain ⟨n,rfl⟩:=Int.eq_ofNat_of_zero_le (show 0 ≤ x by omega)
 simp only [Bool.false_eq_true,if_false]
 rw [show fK (n:Int)=_ from aAt n (by omega)]
 rfl
theorem aEf (x:Int) (h:x ≤ 9223372036854775807):mX (if 0 > x then 0 else x)=some (num x):=by
 unfold mX strconv_Itoa
 have e:(if 0 > x then 0 else x)=((x.toNat:Nat):Int):=by split<;>omega
 rw [e,if_pos ⟨by omega,by omega⟩]
 simp only [Option.bind_some]
 unfold Lib.itoa num
 rw [if_neg (by omega),Int.toNat_natCast]
def GMeasure.rng (m:GMeasure):Prop:=m.Fns ≤ 9223372036854775807∧m.Nodes ≤ 9223372036854775807∧m.Steps ≤ 9223372036854775807∧m.Values ≤ 9223372036854775807∧m.Blocks ≤ 9223372036854775807∧m.Lets ≤ 9223372036854775807∧m.News ≤ 9223372036854775807∧m.Lends ≤ 9223372036854775807∧m.Deep ≤ 9223372036854775807
theorem bU {α:Type} {x y:ByteArray} {n k:Nat} {f:ByteArray→Option α} {P:Option α→Prop} (hx:x.size ≤ n) (hy:y.size ≤ k) (hn:n + k ≤ 9223372036854775807)
  (h:∀ z:ByteArray,z.size ≤ n + k→z.data.toList=x.data.toList ++ y.data.toList→P (f z)):P ((bC x y).bind f):=by
 rw [aBi (by omega),Option.bind_some]
 exact h _ (by rw [ByteArray.size_append];omega) (by rw [ByteArray.data_append,Array.toList_append])
theorem kK {α:Type} {s:ByteArray} {x:Int} {f:ByteArray→Option α} {P:Option α→Prop} (hs:s.size ≤ 20) (h:x ≤ 9223372036854775807)
  (H:∀ z:ByteArray,z.size ≤ 40→z.data.toList=s.data.toList ++ [32] ++ (num x).data.toList→P (f z)):P ((bA s x).bind f):=by
 have h1:=aFi x h
 have h2:(⟨#[32]⟩:ByteArray).size=1:=rfl
 have e:bA s x=some (s ++ ⟨#[32]⟩ ++ num x):=by
  unfold bA
  rw [aBi (by omega)]
  simp only [Option.bind_some,aEf x h]
  rw [aBi (by simp only [ByteArray.size_append];omega)]
  rfl
 rw [e,Option.bind_some]
 exact H _ (by simp only [ByteArray.size_append];omega) (by simp only [ByteArray.data_append,Array.toList_append])
theorem nH {α:Type} {x:Int} {f:ByteArray→Option α} {P:Option α→Prop} (h:x ≤ 9223372036854775807) (H:∀ z:ByteArray,z=num x→z.size ≤ 19→P (f z)):P ((dA x).bind f):=by
 rw [aIm x h,Option.bind_some]
 exact H _ rfl (aFi x h)
def eE (m:GMeasure):List UInt8:=([102,110,115,32]:List UInt8) ++ (num m.Fns).data.toList ++ ([32,110,111,100,101,115,32]:List UInt8) ++ (num m.Nodes).data.toList ++ ([32,115,116,101,112,115,32]:List UInt8) ++ (num m.Steps).data.toList ++ ([32,118,97,108,117,101,115,32]:List UInt8) ++ (num m.Values).data.toList ++ ([32,98,108,111,99,107,115,32]:List UInt8) ++ (num m.Blocks).data.toList ++ ([32,108,101,116,115,32]:List UInt8) ++ (num m.Lets).data.toList ++ ([32,110,101,119,115,32]:List UInt8) ++ (num m.News).data.toList ++ ([32,108,101,110,100,115,32]:List UInt8) ++ (num m.Lends).data.toList ++ ([32,100,101,101,112,32]:List UInt8) ++ (num m.Deep).data.toList ++ [10]
theorem aHz (m:GMeasure) (hm:GMeasure.rng m):∃ z,eY m=some z∧z.data.toList=eE m:=by
 obtain ⟨h1,h2,h3,h4,h5,h6,h7,h8,h9⟩:=hm
 unfold eY
 refine nH (P:=fun o=>∃ z:ByteArray,o=some z∧z.data.toList=eE m) h1 fun a1 e1 b1=>?_
 refine bU (P:=fun o=>∃ z:ByteArray,o=some z∧z.data.toList=eE m) (n:=20) (k:=20) (by decide) (by omega) (by omega) fun t1 s1 d1=>?_
 refine bU (P:=fun o=>∃ z:ByteArray,o=some z∧z.data.toList=eE m) (n:=40) (k:=20) (by omega) (by decide) (by omega) fun t2 s2 d2=>?_
 refine nH (P:=fun o=>∃ z:ByteArray,o=some z∧z.data.toList=eE m) h2 fun a2 e2 b2=>?_
 refine bU (P:=fun o=>∃ z:ByteArray,o=some z∧z.data.toList=eE m) (n:=60) (k:=20) (by omega) (by omega) (by omega) fun t3 s3 d3=>?_
 refine bU (P:=fun o=>∃ z:ByteArray,o=some z∧z.data.toList=eE m) (n:=80) (k:=20) (by omega) (by decide) (by omega) fun t4 s4 d4=>?_
 refine nH (P:=fun o=>∃ z:ByteArray,o=some z∧z.data.toList=eE m) h3 fun a3 e3 b3=>?_
 refine bU (P:=fun o=>∃ z:ByteArray,o=some z∧z.data.toList=eE m) (n:=100) (k:=20) (by omega) (by omega) (by omega) fun t5 s5 d5=>?_
 refine bU (P:=fun o=>∃ z:ByteArray,o=some z∧z.data.toList=eE m) (n:=120) (k:=20) (by omega) (by decide) (by omega) fun t6 s6 d6=>?_
 refine nH (P:=fun o=>∃ z:ByteArray,o=some z∧z.data.toList=eE m) h4 fun a4 e4 b4=>?_
 refine bU (P:=fun o=>∃ z:ByteArray,o=some z∧z.data.toList=eE m) (n:=140) (k:=20) (by omega) (by omega) (by omega) fun t7 s7 d7=>?_
 refine bU (P:=fun o=>∃ z:ByteArray,o=some z∧z.data.toList=eE m) (n:=160) (k:=20) (by omega) (by decide) (by omega) fun t8 s8 d8=>?_
 refine nH (P:=fun o=>∃ z:ByteArray,o=some z∧z.data.toList=eE m) h5 fun a5 e5 b5=>?_
 refine bU (P:=fun o=>∃ z:ByteArray,o=some z∧z.data.toList=eE m) (n:=180) (k:=20) (by omega) (by omega) (by omega) fun t9 s9 d9=>?_
 refine bU (P:=fun o=>∃ z:ByteArray,o=some z∧z.data.toList=eE m) (n:=200) (k:=20) (by omega) (by decide) (by omega) fun t10 s10 d10=>?_
 refine nH (P:=fun o=>∃ z:ByteArray,o=some z∧z.data.toList=eE m) h6 fun a6 e6 b6=>?_
 refine bU (P:=fun o=>∃ z:ByteArray,o=some z∧z.data.toList=eE m) (n:=220) (k:=20) (by omega) (by omega) (by omega) fun t11 s11 d11=>?_
 refine bU (P:=fun o=>∃ z:ByteArray,o=some z∧z.data.toList=eE m) (n:=240) (k:=20) (by omega) (by decide) (by omega) fun t12 s12 d12=>?_
 refine nH (P:=fun o=>∃ z:ByteArray,o=some z∧z.data.toList=eE m) h7 fun a7 e7 b7=>?_
 refine bU (P:=fun o=>∃ z:ByteArray,o=some z∧z.data.toList=eE m) (n:=260) (k:=20) (by omega) (by omega) (by omega) fun t13 s13 d13=>?_
 refine bU (P:=fun o=>∃ z:ByteArray,o=some z∧z.data.toList=eE m) (n:=280) (k:=20) (by omega) (by decide) (by omega) fun t14 s14 d14=>?_
 refine nH (P:=fun o=>∃ z:ByteArray,o=some z∧z.data.toList=eE m) h8 fun a8 e8 b8=>?_
 refine bU (P:=fun o=>∃ z:ByteArray,o=some z∧z.data.toList=eE m) (n:=300) (k:=20) (by omega) (by omega) (by omega) fun t15 s15 d15=>?_
 refine bU (P:=fun o=>∃ z:ByteArray,o=some z∧z.data.toList=eE m) (n:=320) (k:=20) (by omega) (by decide) (by omega) fun t16 s16 d16=>?_
 refine nH (P:=fun o=>∃ z:ByteArray,o=some z∧z.data.toList=eE m) h9 fun a9 e9 b9=>?_
 refine bU (P:=fun o=>∃ z:ByteArray,o=some z∧z.data.toList=eE m) (n:=340) (k:=20) (by omega) (by omega) (by omega) fun t17 s17 d17=>?_
 refine bU (P:=fun o=>∃ z:ByteArray,o=some z∧z.data.toList=eE m) (n:=360) (k:=20) (by omega) (by decide) (by omega) fun t18 s18 d18=>?_
 refine ⟨t18,rfl,?_⟩
 rw [d18,d17,d16,d15,d14,d13,d12,d11,d10,d9,d8,d7,d6,d5,d4,d3,d2,d1]
 simp only [e1,e2,e3,e4,e5,e6,e7,e8,e9,eE,List.append_assoc]
theorem aIq (m:GMeasure) (hm:GMeasure.rng m):∃ z,fC m=some z∧z.data.toList=eE m:=by
 obtain ⟨h1,h2,h3,h4,h5,h6,h7,h8,h9⟩:=hm
 unfold fC
 refine kK (P:=fun o=>∃ z:ByteArray,o=some z∧z.data.toList=eE m) (Nat.le_of_ble_eq_true rfl) h1 fun a1 b1 e1=>?_
 refine kK (P:=fun o=>∃ z:ByteArray,o=some z∧z.data.toList=eE m) (Nat.le_of_ble_eq_true rfl) h2 fun a2 b2 e2=>?_
 refine bU (P:=fun o=>∃ z:ByteArray,o=some z∧z.data.toList=eE m) (n:=40) (k:=40) (by omega) (by omega) (by omega) fun t1 s1 d1=>?_
 refine kK (P:=fun o=>∃ z:ByteArray,o=some z∧z.data.toList=eE m) (Nat.le_of_ble_eq_true rfl) h3 fun a3 b3 e3=>?_
 refine bU (P:=fun o=>∃ z:ByteArray,o=some z∧z.data.toList=eE m) (n:=80) (k:=40) (by omega) (by omega) (by omega) fun t2 s2 d2=>?_
 refine kK (P:=fun o=>∃ z:ByteArray,o=some z∧z.data.toList=eE m) (Nat.le_of_ble_eq_true rfl) h4 fun a4 b4 e4=>?_
 refine bU (P:=fun o=>∃ z:ByteArray,o=some z∧z.data.toList=eE m) (n:=120) (k:=40) (by omega) (by omega) (by omega) fun t3 s3 d3=>?_
 refine kK (P:=fun o=>∃ z:ByteArray,o=some z∧z.data.toList=eE m) (Nat.le_of_ble_eq_true rfl) h5 fun a5 b5 e5=>?_
 refine bU (P:=fun o=>∃ z:ByteArray,o=some z∧z.data.toList=eE m) (n:=160) (k:=40) (by omega) (by omega) (by omega) fun t4 s4 d4=>?_
 refine kK (P:=fun o=>∃ z:ByteArray,o=some z∧z.data.toList=eE m) (Nat.le_of_ble_eq_true rfl) h6 fun a6 b6 e6=>?_
 refine bU (P:=fun o=>∃ z:ByteArray,o=some z∧z.data.toList=eE m) (n:=200) (k:=40) (by omega) (by omega) (by omega) fun t5 s5 d5=>?_
 refine kK (P:=fun o=>∃ z:ByteArray,o=some z∧z.data.toList=eE m) (Nat.le_of_ble_eq_true rfl) h7 fun a7 b7 e7=>?_
 refine bU (P:=fun o=>∃ z:ByteArray,o=some z∧z.data.toList=eE m) (n:=240) (k:=40) (by omega) (by omega) (by omega) fun t6 s6 d6=>?_
 refine kK (P:=fun o=>∃ z:ByteArray,o=some z∧z.data.toList=eE m) (Nat.le_of_ble_eq_true rfl) h8 fun a8 b8 e8=>?_
 refine bU (P:=fun o=>∃ z:ByteArray,o=some z∧z.data.toList=eE m) (n:=280) (k:=40) (by omega) (by omega) (by omega) fun t7 s7 d7=>?_
 refine kK (P:=fun o=>∃ z:ByteArray,o=some z∧z.data.toList=eE m) (Nat.le_of_ble_eq_true rfl) h9 fun a9 b9 e9=>?_
 refine bU (P:=fun o=>∃ z:ByteArray,o=some z∧z.data.toList=eE m) (n:=320) (k:=40) (by omega) (by omega) (by omega) fun t8 s8 d8=>?_
 refine bU (P:=fun o=>∃ z:ByteArray,o=some z∧z.data.toList=eE m) (n:=360) (k:=20) (by omega) (by decide) (by omega) fun t9 s9 d9=>?_
 refine ⟨t9,rfl,?_⟩
 rw [d9,d8,d7,d6,d5,d4,d3,d2,d1,e1,e2,e3,e4,e5,e6,e7,e8,e9]
 simp only [eE,List.append_assoc,List.cons_append,List.nil_append]
end Go.OM
namespace Go.OM
theorem aL8 {nodes:List GNode} (h:okU nodes nodes.length=true):∀ n:Nat,n ≤ nodes.length→0 ≤ mD nodes n∧mD nodes n ≤ 10
 | 0,_=>⟨Int.le_refl _,by simp [mD]⟩
 | n + 1,hn=>by
  have:=aL8 h n (by omega)
  have h2:=(rL h (show n < nodes.length by omega)).2
  have h3:=qQ nodes n
  simp only [mD]
  split<;>omega
theorem aIk (p:GProgram) (hn:p.Nodes.length ≤ 1048576) (hp:p.Fns.length ≤ 1048576):GMeasure.rng (aGz p):=by
 unfold aGz
 split
 ·rename_i hok
  obtain ⟨b1,b2,b3,b4,hu⟩:=uK hok
  have c1:=gM p.Nodes fW p.Nodes.length
  have c2:=gM p.Nodes fD p.Nodes.length
  have c3:=gM p.Nodes (fun k=>k == 20) p.Nodes.length
  have c4:=gM p.Nodes (fun k=>k == 13) p.Nodes.length
  have c5:=gM p.Nodes (fun k=>k == 8) p.Nodes.length
  have c6:=gM p.Nodes (fun k=>k == 5) p.Nodes.length
  have c7:=gM p.Nodes (fun k=>k == 6) p.Nodes.length
  have c8:=aL8 hu p.Nodes.length (Nat.le_refl _)
  exact ⟨by simp only;omega,by simp only;omega,by simp only;omega,by simp only;omega,by simp only;omega,by simp only;omega,by simp only;omega,by simp only;omega,by simp only;omega⟩
 exact ⟨by decide,by decide,by decide,by decide,by decide,by decide,by decide,by decide,by decide⟩
theorem aI1 {m:GMeasure} (hm:GMeasure.rng m):∃ z,fC m=some z∧eY m=some z:=by
 obtain ⟨a,h1,h2⟩:=aHz m hm
 obtain ⟨b,h3,h4⟩:=aIq m hm
 have e:b=a:=aLe (h4.trans h2.symm)
 subst e
 exact ⟨b,h3,h1⟩
theorem aL0 {code:List Int} (h:code.length ≤ 9223372036854775807):Ends (mF code) (fun r=>GProgram.le 5000 r.1):=by
 unfold mF
 refine Ends.bind (aKz h) fun c hc=>?_
 refine oG hc fun r q h1 h2 h3=>?_
 dsimp only
 refine Ends.bind (aCa h1) ?_
 rintro ⟨p,q2⟩ ⟨h4,h5,h6⟩
 exact Ends.one h5
theorem zV {code:List Int} (h:code.length ≤ 9223372036854775807):Ends (fJ code) (fun r=>GProgram.le 5000 r.1):=by
 unfold fJ
 refine Ends.bind (aKz h) fun c hc=>?_
 refine oG hc fun r q h1 h2 h3=>?_
 dsimp only
 refine Ends.bind (aCa h1) ?_
 rintro ⟨p,q2⟩ ⟨h4,h5,h6⟩
 exact Ends.one h5
theorem aA7 {code:List Int} (h:code.length ≤ 9223372036854775807):Ends (gA code) (fun p=>GProgram.le 5000 p):=by
 unfold gA
 refine Ends.bind (aKz h) fun c hc=>?_
 refine Ends.bind (aCa hc) ?_
 rintro ⟨p,q2⟩ ⟨h4,h5,h6⟩
 exact Ends.one h5
theorem wQ {code:List Int} (h:code.length ≤ 9223372036854775807):Ends (dY code) GMeasure.rng:=by
 unfold dY
 refine Ends.bind (aKz h) fun c hc=>?_
 refine Ends.bind (aCa hc) ?_
 rintro ⟨p,q2⟩ ⟨h4,h5,h6⟩
 dsimp only at h4 h5 h6 ⊢
 have hn:p.Nodes.length ≤ 1048576:=Nat.le_trans h5.1.1 (by omega)
 have hp:p.Fns.length ≤ 1048576:=Nat.le_trans h5.2.1 (by omega)
 have hr:=aIk p hn hp
 rw [(vJ p hn hp).2,Option.bind_some]
 refine Ends.bind (aLf h4 4) ?_
 rintro ⟨b,q3⟩ _
 dsimp only
 split
 ·exact Ends.one ⟨hr.1,hr.2.1,hr.2.2.1,hr.2.2.2.1,hr.2.2.2.2.1,hr.2.2.2.2.2.1,hr.2.2.2.2.2.2.1,hr.2.2.2.2.2.2.2.1,by simp⟩
 exact Ends.one hr
theorem xF (code:List Int) (hw:code.length ≤ maxLen):eQ code=some true:=by
 have hl:code.length ≤ 9223372036854775807:=hw
 unfold eQ xR
 simp only [Option.bind_some]
 split
 ·rfl
 obtain ⟨⟨p,k⟩,a1,a2⟩:=zV hl
 obtain ⟨⟨q,fn⟩,b1,b2⟩:=aL0 hl
 obtain ⟨x,c1,c2⟩:=aA7 hl
 obtain ⟨m,d1,d2⟩:=wQ hl
 have hb:gU code=some (q,fn):=by unfold gU;rw [b1];rfl
 dsimp only at a2 b2
 have hp:=tX a2 (show 5000 ≤ 1048576 by omega)
 have hq:=tX b2 (show 5000 ≤ 1048576 by omega)
 have hx:=tX c2 (show 5000 ≤ 1048576 by omega)
 obtain ⟨n1,e1⟩:=aA3 p k hp.1.1
 obtain ⟨n2,f1,f2⟩:=aDy q hq.1.1 hq.2.1 fn
 obtain ⟨g1,g2⟩:=vJ x hx.1.1 hx.2.1
 obtain ⟨z,s1,s2⟩:=aI1 d2
 rw [a1,hb,c1,d1]
 simp only [Option.bind_some,tL,e1,f1,f2,g1,g2,s1,s2,beq_self_eq_true,if_true,Bool.and_self,aK2]
end Go.OM
