import Derived.Test.YteibeahceppedaaGreatDoorTA
import Derived.KernelRfl
import Derived.Lib.ItoaNum
set_option linter.unusedVariables false
set_option linter.unusedSimpArgs false
set_option linter.unusedVariables false
set_option linter.unusedSimpArgs false
namespace Go.OM
theorem w64 {n:Int} (h1 : -9223372036854775808 ≤ n) (h2:n ≤ 9223372036854775807):IntKind.wrap .i64 n=n:=wrap64 h1 h2
theorem qQ {k n:Nat} (hk:k < n) (hn:n ≤ maxLen):IntKind.wrap .i64 ((k:Int) + 1)=((k + 1:Nat):Int):=by
 have hn':n ≤ 9223372036854775807:=hn
 rw [w64 (by omega) (by omega)];omega
@[simp] theorem oY {α:Type} (l:List α) (k:Nat):aY l (k:Int)=l[k]?:=by simp [aY]
theorem bJ {α:Type} {l:List α} {k:Nat} (hk:k < l.length):aY l (k:Int)=some l[k]:=by simp [hk]
theorem aI8 {α:Type} (l:List α):aY l 0=l[0]?:=by simp [aY]
theorem aB6 (x y : ByteArray) : sEq x y = decide (x = y) := by
  unfold sEq
  have hxy : x.toList = y.toList ↔ x = y := by
    constructor
    · intro h
      have hx : ∀ z : ByteArray, z.toList = z.data.toList := by
        intro z
        have loop : ∀ (n i : Nat) (r : List UInt8), z.size - i = n → ByteArray.toList.loop z i r = r.reverse ++ z.data.toList.drop i := by
          intro n
          induction n with
          | zero =>
            intro i r hn
            unfold ByteArray.toList.loop
            rw [if_neg (by omega), List.drop_eq_nil_of_le (by have : z.data.toList.length = z.size := Array.length_toList
                                                              omega)]
            simp
          | succ n ih =>
            intro i r hn
            unfold ByteArray.toList.loop
            rw [if_pos (by omega), ih (i + 1) _ (by omega)]
            have hlt : i < z.data.toList.length := by have : z.data.toList.length = z.size := Array.length_toList
                                                      omega
            rw [List.drop_eq_getElem_cons hlt]
            have hz : i < z.size := by omega
            simp [ByteArray.get!, Array.getElem!_eq_getD, Array.getD, hz]
        unfold ByteArray.toList
        rw [loop _ 0 [] rfl]; simp
      rw [hx, hx] at h
      cases x; cases y
      simp only [ByteArray.mk.injEq]
      exact Array.toList_inj.1 h
    intro h; rw [h]
  by_cases h : x = y
  · simp [h]
  have : ¬ (x.toList = y.toList) := fun e => h (hxy.1 e)
  simp [h, this]
theorem aF {k n:Nat} (h:k < n):decide ((k:Int) < (n:Int))=true:=by simpa using h
theorem aGj (n:Nat):decide ((n:Int) < (n:Int))=false:=by simp
theorem aBe {α:Type} (b:Int) (n:Nat) (z:α) (h1:b * n ≤ 140737488355328) (h2:(n:Int) ≤ 140737488355328):mkI b (n:Int) z=some (List.replicate n z):=by
 unfold mkI
 rw [if_pos ⟨by omega,h1,h2⟩]
 simp
theorem dI {α β:Type} (x:α) (f:α→β):bF x f=f x:=rfl
end Go.OM
namespace Go.OM
theorem jK {α ρ:Type} {f:α→Option (α ⊕ ρ)} {a:α} {r:ρ} (h:f a=some (.inr r)):aJ f a=some r:=by rw [sU,h];rfl
theorem nY {α ρ:Type} {f:α→Option (α ⊕ ρ)} {a b:α} (h:f a=some (.inl b)):aJ f a=aJ f b:=by rw [sU,h];rfl
theorem wH {α ρ:Type} (l:List α) (q:α→Option ρ) (f:Int→Option (Int ⊕ (Unit ⊕ ρ)))
  (hf:∀ (k:Nat) (h:k < l.length),f k=some (match q l[k] with | none=>.inl ((k + 1:Nat):Int) | some r=>.inr (.inr r)))
  (he:f l.length=some (.inr (.inl ()))):aJ f 0=some (match l.findSome? q with | some r=>.inr r | none=>.inl ()):=by
 have key:∀ (n k:Nat),n=l.length - k→k ≤ l.length→aJ f k=some (match (l.drop k).findSome? q with | some r=>.inr r | none=>.inl ()):=by
  intro n
  induction n with
  | zero =>
   intro k hn hk
   have:k=l.length:=by omega
   subst this
   rw [jK he,List.drop_length];rfl
  | succ n ih =>
   intro k hn hk
   have hlt:k < l.length:=by omega
   rw [List.drop_eq_getElem_cons hlt,List.findSome?_cons]
   cases hq:q l[k] with
   | none =>
    have h1:=hf k hlt
    rw [hq] at h1
    rw [nY h1]
    exact ih (k + 1) (by omega) (by omega)
   | some r =>
    have h1:=hf k hlt
    rw [hq] at h1
    rw [jK h1]
 have:=key l.length 0 (by omega) (by omega)
 simpa using this
theorem aJw {α:Type} (l:List α) (p:α→Bool) (b:Bool):l.findSome? (fun x=>if p x=true then none else some b)=if l.all p=true then none else some b:=by
 induction l with
 | nil=>rfl
 | cons x l ih =>
  rw [List.findSome?_cons,List.all_cons]
  cases hp:p x<;>simp [ih]
theorem aJv {α:Type} (l:List α) (p:α→Bool) (b:Bool):l.findSome? (fun x=>if p x=true then some b else none)=if l.any p=true then some b else none:=by
 induction l with
 | nil=>rfl
 | cons x l ih =>
  rw [List.findSome?_cons,List.any_cons]
  cases hp:p x<;>simp [ih]
theorem nZ {α:Type} (l:List α) (p:α→Bool) (f:Int→Option (Int ⊕ (Unit ⊕ Bool)))
  (hf:∀ (k:Nat) (h:k < l.length),f k=some (if p l[k]=true then .inl ((k + 1:Nat):Int) else .inr (.inr false)))
  (he:f l.length=some (.inr (.inl ()))):aJ f 0=some (if l.all p=true then .inl () else .inr false):=by
 rw [wH l (fun x=>if p x=true then none else some false) f (fun k h=>by rw [hf k h];cases p l[k]<;>rfl) he,aJw]
 cases l.all p<;>rfl
theorem aCq {α:Type} (l:List α) (p:α→Bool) (f:Int→Option (Int ⊕ (Unit ⊕ Bool)))
  (hf:∀ (k:Nat) (h:k < l.length),f k=some (if p l[k]=true then .inr (.inr true) else .inl ((k + 1:Nat):Int)))
  (he:f l.length=some (.inr (.inl ()))):aJ f 0=some (if l.any p=true then .inr true else .inl ()):=by
 rw [wH l (fun x=>if p x=true then some true else none) f (fun k h=>by rw [hf k h];cases p l[k]<;>rfl) he,aJv]
 cases l.any p<;>rfl
def aE4 {α σ ρ:Type} (g:σ→α→σ ⊕ ρ) (fin:σ→ρ):List α→σ→ρ
 | [],s=>fin s
 | x :: l,s=>match g s x with
  | .inl s'=>aE4 g fin l s'
  | .inr r=>r
theorem qA {α σ τ ρ:Type} (l:List α) (mk:σ→Nat→τ) (I:Nat→σ→Prop) (g:σ→α→σ ⊕ ρ) (fin:σ→ρ) (f:τ→Option (τ ⊕ ρ))
  (hf:∀ (s:σ) (k:Nat) (h:k < l.length),I k s→(∃ s',g s l[k] = .inl s'∧f (mk s k)=some (.inl (mk s' (k + 1)))∧I (k + 1) s') ∨ ∃ r,g s l[k] = .inr r∧f (mk s k)=some (.inr r))
  (he:∀ s,I l.length s→f (mk s l.length)=some (.inr (fin s))) (s:σ) (h0:I 0 s):aJ f (mk s 0)=some (aE4 g fin l s):=by
 have key:∀ (n k:Nat) (s:σ),n=l.length - k→k ≤ l.length→I k s→aJ f (mk s k)=some (aE4 g fin (l.drop k) s):=by
  intro n
  induction n with
  | zero =>
   intro k s hn hk hI
   have:k=l.length:=by omega
   subst this
   rw [jK (he s hI),List.drop_length];rfl
  | succ n ih =>
   intro k s hn hk hI
   have hlt:k < l.length:=by omega
   rw [List.drop_eq_getElem_cons hlt]
   rcases hf s k hlt hI with ⟨s',h1,h2,h3⟩ | ⟨r,h1,h2⟩
   ·rw [nY h2,ih (k + 1) s' (by omega) (by omega) h3]
    simp only [aE4,h1]
   rw [jK h2]
   simp only [aE4,h1]
 have:=key l.length 0 s (by omega) (by omega) h0
 simpa using this
end Go.OM
set_option maxHeartbeats 1000000
namespace Go.OM
def GNode.le (n:Nat) (a:GNode):Prop:=(a.Name.size ≤ n)∧(a.Kids.length ≤ n)
def GParam.le (n:Nat) (a:GParam):Prop:=(a.Name.size ≤ n)
def GFn.le (n:Nat) (a:GFn):Prop:=(a.Name.size ≤ n)∧(a.Params.length ≤ n∧∀ x ∈ a.Params,GParam.le n x)
def GProgram.le (n:Nat) (a:GProgram):Prop:=(a.Nodes.length ≤ n∧∀ x ∈ a.Nodes,GNode.le n x)∧(a.Fns.length ≤ n∧∀ x ∈ a.Fns,GFn.le n x)
def Gl01Cur.le (n:Nat) (a:Gl01Cur):Prop:=(a.b.length ≤ n)
def Gpacker.le (n:Nat) (a:Gpacker):Prop:=(a.from_.length ≤ n∧∀ x ∈ a.from_,GNode.le n x)∧(a.to_.length ≤ n∧∀ x ∈ a.to_,GNode.le n x)
def Gl04Pack.le (n:Nat) (a:Gl04Pack):Prop:=(a.from_.length ≤ n∧∀ x ∈ a.from_,GNode.le n x)∧(a.to_.length ≤ n∧∀ x ∈ a.to_,GNode.le n x)
def GSign.le (n:Nat) (a:GSign):Prop:=(a.Text.size ≤ n)
def Gl05Read.le (n:Nat) (a:Gl05Read):Prop:=(a.list.length ≤ n∧∀ x ∈ a.list,GSign.le n x)∧(a.nodes.length ≤ n∧∀ x ∈ a.nodes,GNode.le n x)
def Gl05Made.le (n:Nat) (a:Gl05Made):Prop:=(a.ints.length ≤ n∧∀ x ∈ a.ints,x.size ≤ n)∧(a.boxes.length ≤ n∧∀ x ∈ a.boxes,x.size ≤ n)∧(a.text.size ≤ n)
end Go.OM
namespace Go.OM
theorem aJt {α:Type} {c:Prop} [Decidable c] (a b:α):(if c then some a else some b)=some (if c then a else b):=by split<;>rfl
def inB (x a b:Int):Bool:=decide (a ≤ x) && decide (x ≤ b)
theorem inB_iff {x a b:Int}:inB x a b=true ↔ a ≤ x∧x ≤ b:=by simp [inB]
theorem inB_false {x a b:Int}:inB x a b=false ↔ ¬ (a ≤ x∧x ≤ b):=by rw [← inB_iff];simp
theorem dX (x a b:Int):eZ x a b=some (inB x a b):=by
 unfold eZ inB
 by_cases h:a ≤ x<;>simp [h]
theorem gF (x a b:Int):bY x a b=some (inB x a b):=by
 unfold bY inB
 by_cases h:a ≤ x<;>simp [h]
def bI (z:ByteArray):List Int:=z.data.toList.map fun x=>((x.toNat:Nat):Int)
theorem qL (z:ByteArray):(bI z).length=z.size:=by rw [bI,List.length_map];exact Array.length_toList
theorem aHr {z:ByteArray} {k:Nat} (h:k < (bI z).length):sAt z k=some (bI z)[k]:=by
 have h1:k < z.size:=by rw [← qL];exact h
 unfold sAt
 rw [if_pos ⟨by omega,by omega⟩]
 simp only [oM,Int.toNat_natCast,bI]
 have e:z.data.toList.length=z.size:=Array.length_toList
 have h2:k < z.data.toList.length:=by omega
 rw [List.getD_eq_getElem?_getD,List.getElem?_eq_getElem h2]
 simp only [Option.getD_some,List.getElem_map]
def kM (b:Int):Bool:=inB b 97 122
def lG (b:Int):Bool:=inB b 48 57
theorem rC (b:Int):jT b=some (kM b):=by
 unfold jT kM inB
 by_cases h:97 ≤ b<;>simp [h]
theorem xK (b:Int):lE b=some (lG b):=by
 unfold lE lG inB
 by_cases h:48 ≤ b<;>simp [h]
theorem jP (b:Int):dK b=some (kM b):=by
 unfold dK kM inB
 by_cases h:97 ≤ b<;>simp [h]
theorem jQ (b:Int):dZ b=some (lG b):=by
 unfold dZ lG inB
 by_cases h:48 ≤ b<;>simp [h]
def keys:List ByteArray:=[⟨#[102,110]⟩,⟨#[108,101,116]⟩,⟨#[105,102]⟩,⟨#[101,108,115,101]⟩,⟨#[119,104,105,108,101]⟩,⟨#[112,114,105,110,116]⟩,⟨#[100,111]⟩,⟨#[110,101,119]⟩,⟨#[99,108,111,110,101]⟩,⟨#[109,117,116]⟩,⟨#[105,110,112,117,116]⟩,⟨#[105,110,116]⟩,⟨#[98,111,120]⟩,⟨#[114,101,116]⟩]
def aL5 (s:ByteArray):Bool:=keys.any fun w=>sEq w s
theorem aGm:strings_Split (⟨#[102,110,32,108,101,116,32,105,102,32,101,108,115,101,32,119,104,105,108,101,32,112,114,105,110,116,32,100,111,32,110,101,119,32,99,108,111,110,101,32,109,117,116,32,105,110,112,117,116,32,105,110,116,32,98,111,120,32,114,101,116]⟩:ByteArray) (⟨#[32]⟩:ByteArray)=some keys:=by kernel_rfl
theorem aFp (l:List ByteArray) (s:ByteArray) (hl:l.length ≤ 1048576) (f:Int→Option (Int ⊕ (Unit ⊕ Bool)))
  (hf:∀ i,f i=if (decide (i < (l.length:Int)))=true then (aY l i).bind fun e=>if (sEq e s)=true then some (Sum.inr (Sum.inr true)) else some (Sum.inl (IntKind.wrap .i64 (i + 1))) else some (Sum.inr (Sum.inl ()))) :
  aJ f 0=some (if (l.any fun w=>sEq w s)=true then .inr true else .inl ()):=by
 refine aCq l (fun w=>sEq w s) f (fun k hk=>?_) (by rw [hf];simp)
 rw [hf]
 simp only [aF hk,if_true,bJ hk,Option.bind_some,qQ hk (show l.length ≤ maxLen by show _ ≤ 9223372036854775807;omega),aJt]
theorem yG (s:ByteArray):jF s=some (aL5 s):=by
 unfold jF mQ
 simp only [Option.bind_some]
 have h:=aFp keys s (by decide) (gG s keys) (fun i=>by simp only [gG])
 unfold keys at h
 rw [h]
 unfold aL5 keys
 simp only [Option.bind_some]
 split<;>rename_i h2<;>split at h2<;>simp_all
theorem yZ (s:ByteArray):mZ s=some (aL5 s):=by
 unfold mZ sW
 rw [aGm]
 simp only [Option.bind_some]
 rw [aFp keys s (by decide) (nL s keys) (fun i=>by simp only [nL])]
 unfold aL5
 simp only [Option.bind_some]
 cases keys.any fun w=>sEq w s<;>rfl
def aDc (b:Int):Bool:=kM b || lG b
def tD (s:ByteArray):Bool:=inB s.size 1 8 && (kM ((bI s).getD 0 0) && ((bI s).all aDc && !aL5 s))
theorem aCn (s:ByteArray) (hs:s.size ≤ 8) (f:Int→Option (Int ⊕ (Unit ⊕ Bool)))
  (hf:∀ (k:Nat) (h:k < (bI s).length),f k=some (if aDc (bI s)[k]=true then .inl (IntKind.wrap .i64 ((k:Int) + 1)) else .inr (.inr false)))
  (he:f s.size=some (.inr (.inl ()))):aJ f 0=some (if (bI s).all aDc=true then .inl () else .inr false):=by
 refine nZ (bI s) aDc f (fun k hk=>?_) (by rw [qL];exact he)
 rw [hf k hk,qQ hk (show (bI s).length ≤ maxLen by rw [qL];show _ ≤ 9223372036854775807;omega)]
theorem aIp {s:ByteArray} (h:1 ≤ s.size):sAt s 0=some ((bI s).getD 0 0):=by
 have h1:0 < (bI s).length:=by rw [qL];omega
 have:=aHr h1
 rw [show ((0:Nat):Int)=0 from rfl] at this
 rw [this,List.getD_eq_getElem?_getD,List.getElem?_eq_getElem h1];rfl
theorem pJ (s:ByteArray):kN s=some (tD s):=by
 unfold kN tD
 simp only [dX,Option.bind_some]
 by_cases hi:inB s.size 1 8=true
 ·have hi':=inB_iff.1 hi
  rw [aIp (by omega),aCn s (by omega) (kI s) (fun k hk=>?_) (by simp [kI])]
  ·simp only [hi,rC,yZ,Option.bind_some,Bool.not_true,Bool.false_eq_true,if_false,Bool.true_and]
   cases kM ((bI s).getD 0 0)<;>cases (bI s).all aDc<;>cases aL5 s<;>rfl
  have hk2:k < s.size:=by rw [← qL];exact hk
  simp only [kI,aF hk2,if_true,aHr hk,rC,xK,Option.bind_some]
  rw [show aDc (bI s)[k]=(kM (bI s)[k] || lG (bI s)[k]) from rfl]
  cases kM (bI s)[k]<;>cases lG (bI s)[k]<;>rfl
 simp [Bool.eq_false_iff.2 hi]
theorem mH (s:ByteArray):fU s=some (tD s):=by
 unfold fU tD
 simp only [gF,Option.bind_some]
 by_cases hi:inB s.size 1 8=true
 ·have hi':=inB_iff.1 hi
  rw [aIp (by omega),aCn s (by omega) (iH s) (fun k hk=>?_) (by simp [iH])]
  ·simp only [hi,jP,yG,Option.bind_some,Bool.not_true,Bool.false_eq_true,if_false,Bool.true_and]
   cases kM ((bI s).getD 0 0)<;>cases (bI s).all aDc<;>cases aL5 s<;>rfl
  have hk2:k < s.size:=by rw [← qL];exact hk
  simp only [iH,aF hk2,if_true,aHr hk,jP,jQ,Option.bind_some]
  rw [show aDc (bI s)[k]=(kM (bI s)[k] || lG (bI s)[k]) from rfl]
  cases kM (bI s)[k]<;>cases lG (bI s)[k]<;>rfl
 simp [Bool.eq_false_iff.2 hi]
end Go.OM
namespace Go.OM
def Ends {α:Type} (x:Option α) (P:α→Prop):Prop:=∃ r,x=some r∧P r
theorem Ends.one {α:Type} {r:α} {P:α→Prop} (h:P r):Ends (some r) P:=⟨r,rfl,h⟩
theorem Ends.bind {α β:Type} {x:Option α} {P:α→Prop} {f:α→Option β} {Q:β→Prop} (h:Ends x P) (k:∀ r,P r→Ends (f r) Q):Ends (x.bind f) Q:=by
 obtain ⟨r,rfl,h⟩:=h
 exact k r h
theorem Ends.ite {α:Type} {c:Prop} [Decidable c] {a b:Option α} {Q:α→Prop} (h1:c→Ends a Q) (h2:¬ c→Ends b Q):Ends (if c then a else b) Q:=by
 by_cases h:c
 ·rw [if_pos h];exact h1 h
 rw [if_neg h];exact h2 h
theorem Ends.mono {α:Type} {x:Option α} {P Q:α→Prop} (h:Ends x P) (hk:∀ r,P r→Q r):Ends x Q:=by
 obtain ⟨r,h1,h2⟩:=h
 exact ⟨r,h1,hk r h2⟩
theorem Ends.cat {α:Type} {x y:ByteArray} {f:ByteArray→Option α} {Q:α→Prop} {n m:Nat} (hx:x.size ≤ n) (hy:y.size ≤ m) (h:n + m ≤ 1000000000000) (k:∀ t:ByteArray,t.size ≤ n + m→Ends (f t) Q):Ends ((bK x y).bind f) Q:=by
 unfold bK
 rw [if_pos (by omega)]
 exact k _ (by rw [ByteArray.size_append];omega)
theorem Ends.app {α β:Type} {n:Nat} {a b:List α} {f:List α→Option β} {Q:β→Prop} (ha:a.length ≤ 10000000) (hb:b.length ≤ 10000000) (hn:n ≤ 1000) (k:Ends (f (a ++ b)) Q):Ends ((bW n a b).bind f) Q:=by
 have h2:(a.length + b.length) * n ≤ 20000000 * 1000:=Nat.mul_le_mul (by omega) hn
 unfold bW
 rw [if_pos ⟨by omega,by omega⟩]
 exact k
theorem Ends.get {α β:Type} {l:List α} {i:Int} {f:α→Option β} {Q:β→Prop} (h0:0 ≤ i) (h1:i < l.length) (k:∀ x ∈ l,Ends (f x) Q):Ends ((aY l i).bind f) Q:=by
 obtain ⟨j,rfl⟩:=Int.eq_ofNat_of_zero_le h0
 have hj:j < l.length:=by exact_mod_cast h1
 rw [oY,List.getElem?_eq_getElem hj]
 exact k _ (List.getElem_mem hj)
theorem Ends.loop {α ρ:Type} {f:α→Option (α ⊕ ρ)} (I:α→Prop) (μ:α→Nat) (R:ρ→Prop) (h:∀ a,I a→Ends (f a) (fun s=>(∃ b,s = .inl b∧I b∧μ b < μ a) ∨ ∃ r,s = .inr r∧R r)) {a:α} (ha:I a):Ends (aJ f a) R:=by
 obtain ⟨r,h1,h2⟩:=jJ I μ R (fun a ha=>by
  obtain ⟨s,h1,h2 | h2⟩:=h a ha
  ·obtain ⟨b,rfl,h3,h4⟩:=h2
   exact .inl ⟨b,h1,h3,h4⟩
  obtain ⟨r,rfl,h3⟩:=h2
  exact .inr ⟨r,h1,h3⟩) a ha
 exact ⟨r,h1,h2⟩
theorem aIr (x:Int):0 ≤ bits .and .i64 x 255∧bits .and .i64 x 255 ≤ 255:=by
 have h1:(BitVec.ofInt 64 x &&& BitVec.ofInt 64 255).toNat ≤ 255:=by
  rw [BitVec.toNat_and]
  exact Nat.le_trans Nat.and_le_right (by decide)
 have h2:bits .and .i64 x 255=IntKind.wrap .i64 ((BitVec.ofInt 64 x &&& BitVec.ofInt 64 255).toNat:Int):=rfl
 rw [h2,w64 (by omega) (by omega)]
 omega
structure Cur (c:Gl01Cur):Prop where
 i0:0 ≤ c.i
 len:c.b.length ≤ 9223372036854775807
theorem aDl {c:Gl01Cur} (hc:Cur c):Ends (fO c) (fun r=>Cur r.2∧0 ≤ r.1∧r.1 ≤ 255):=by
 unfold fO
 refine Ends.ite (fun h=>?_) fun h=>Ends.one ⟨⟨hc.i0,hc.len⟩,aIr _⟩
 simp only [decide_eq_true_eq] at h
 refine Ends.get hc.i0 h fun e _=>Ends.one ⟨⟨?_,hc.len⟩,aIr _⟩
 have h1:=hc.i0
 have h2:=hc.len
 simp only
 rw [w64 (by omega) (by omega)]
 omega
theorem wX {x n:Int} (hx:0 ≤ x) (hn:0 < n):Ends (aCd x n) (fun r=>0 ≤ r∧r < n):=by
 unfold aCd
 rw [if_neg (by omega)]
 exact Ends.one ⟨Int.tmod_nonneg _ hx,Int.tmod_lt_of_pos _ hn⟩
theorem aEj {c:Gl01Cur} (hc:Cur c) (n:Int):Ends (bP c n) (fun r=>Cur r.2∧0 ≤ r.1∧(0 < n→r.1 < n)):=by
 unfold bP
 refine Ends.ite (fun h=>?_) fun h=>?_
 ·simp only [decide_eq_true_eq] at h
  exact Ends.one ⟨hc,Int.le_refl _,fun h2=>by omega⟩
 simp only [decide_eq_true_eq] at h
 refine Ends.ite (fun h2=>?_) fun h2=>?_
 ·refine Ends.bind (aDl hc) ?_
  rintro ⟨r,q⟩ ⟨h3,h4,h5⟩
  refine Ends.bind (wX h4 (by omega)) fun y hy=>Ends.one ⟨h3,hy.1,fun _=>hy.2⟩
 refine Ends.bind (aDl hc) ?_
 rintro ⟨r1,q1⟩ ⟨h3,h4,h5⟩
 refine Ends.bind (aDl h3) ?_
 rintro ⟨r2,q2⟩ ⟨h6,h7,h8⟩
 refine Ends.bind (aDl h6) ?_
 rintro ⟨r3,q3⟩ ⟨h9,h10,h11⟩
 refine Ends.bind (aDl h9) ?_
 rintro ⟨r4,q4⟩ ⟨h12,h13,h14⟩
 simp only at *
 refine Ends.bind (wX ?_ (by omega)) fun y hy=>Ends.one ⟨h12,hy.1,fun _=>hy.2⟩
 rw [w64 (n:=r1 * 16777216) (by omega) (by omega),w64 (n:=r2 * 65536) (by omega) (by omega),w64 (n:=r3 * 256) (by omega) (by omega),w64 (n:=r1 * 16777216 + r2 * 65536) (by omega) (by omega),w64 (n:=r1 * 16777216 + r2 * 65536 + r3 * 256) (by omega) (by omega),w64 (by omega) (by omega)]
 omega
theorem E_Once {c:Gl01Cur} (hc:Cur c) (n:Int):Ends (eM c n) (fun r=>Cur r.2):=by
 unfold eM
 refine Ends.bind (aEj hc n) ?_
 rintro ⟨r,q⟩ ⟨h,_⟩
 exact Ends.one h
theorem E_Pick {c:Gl01Cur} (hc:Cur c) {l:List ByteArray} (hl:l ≠ []):Ends (fN c l) (fun r=>Cur r.2∧r.1 ∈ l):=by
 unfold fN
 refine Ends.bind (aEj hc l.length) ?_
 rintro ⟨r,q⟩ ⟨h,h1,h2⟩
 have:0 < l.length:=List.length_pos_iff.2 hl
 exact Ends.get h1 (h2 (by omega)) fun x hx=>Ends.one ⟨h,hx⟩
theorem E_New {code:List Int} (h:code.length ≤ 9223372036854775807):Ends (lY code) Cur:=by
 unfold lY
 refine Ends.bind (P:=fun _=>True) ?_ fun r _=>Ends.one ⟨Int.le_refl _,h⟩
 refine Ends.loop (fun s:Int × Int=>0 ≤ s.2) (fun s=>4000 - s.2.toNat) (fun _=>True) ?_ (Int.le_refl _)
 rintro ⟨x,i⟩ hi
 simp only at hi
 unfold mF
 refine Ends.bind (P:=fun v=>v=true→i < code.length∧i < 4000) ?_ fun v hv=>?_
 ·refine Ends.ite (fun h1=>Ends.one fun h2=>?_) fun h1=>Ends.one fun h2=>(by cases h2)
  simp only [decide_eq_true_eq] at h1 h2
  exact ⟨h1,h2⟩
 refine Ends.ite (fun h1=>?_) fun h1=>Ends.one (.inr ⟨_,rfl,trivial⟩)
 obtain ⟨h2,h3⟩:=hv h1
 refine Ends.get hi h2 fun e _=>Ends.one (.inl ⟨_,rfl,?_,?_⟩)
 ·simp only
  rw [w64 (by omega) (by omega)];omega
 simp only
 rw [w64 (by omega) (by omega)];omega
end Go.OM
namespace Go.OM
theorem iO {n:Nat} (h:n ≤ 1048576):IntKind.wrap .i64 ((n:Int) - 1)=(n:Int) - 1:=w64 (by omega) (by omega)
end Go.OM
namespace Go.OM
theorem qE {α σ ρ:Type} (h:σ→α→σ) (fin:σ→ρ):∀ (l:List α) (s:σ),aE4 (fun s x=>(.inl (h s x):σ ⊕ ρ)) fin l s=fin (l.foldl h s)
 | [],s=>rfl
 | x :: l,s=>by simp only [aE4,List.foldl_cons];exact qE h fin l _
theorem app1 {n:Nat} {s:List Int} {e:Int} (h:s.length ≤ 1048576) (hn:n ≤ 64):bW n s [e]=some (s ++ [e]):=by
 unfold bW
 have h1:(s.length + [e].length) * n ≤ (s.length + [e].length) * 64:=Nat.mul_le_mul_left _ hn
 rw [if_pos ⟨by simp only [List.length_cons,List.length_nil] at h1 ⊢;omega,by simp only [List.length_cons,List.length_nil];omega⟩]
def addL (out:List Int) (n:Int):List Int:=if out.contains n=true then out else out ++ [n]
theorem mem_addL {out:List Int} {n m:Int}:m ∈ addL out n ↔ m ∈ out ∨ m=n:=by
 unfold addL
 by_cases h:out.contains n=true
 ·rw [if_pos h]
  have:=List.contains_iff_mem.1 h
  constructor
  ·exact .inl
  rintro (h | rfl)
  ·exact h
  exact this
 rw [if_neg h];simp
end Go.OM
namespace Go.OM
inductive Reach (next:Nat→List Int) (root:Nat):Nat→Prop
 | base:Reach next root root
 | step {i:Nat} {m:Int}:Reach next root i→m ∈ next i→Reach next root m.toNat
theorem Reach.congr {next next':Nat→List Int} {root:Nat} (h:∀ i m,m ∈ next i ↔ m ∈ next' i) {n:Nat}:Reach next root n ↔ Reach next' root n:=by
 constructor
 ·intro r
  induction r with
  | base=>exact .base
  | step _ hm ih=>exact .step ih ((h _ _).1 hm)
 intro r
 induction r with
 | base=>exact .base
 | step _ hm ih=>exact .step ih ((h _ _).2 hm)
def vis (s:List Bool × List Int) (m:Int):List Bool × List Int:=if s.1[m.toNat]? = some true then s else (s.1.set m.toNat true,s.2 ++ [m])
theorem aD6 {l:List Bool} {k:Nat} (hk:k < l.length) (h:l[k]? ≠ some true):(l.set k true).count true=l.count true + 1:=by
 induction l generalizing k with
 | nil=>simp at hk
 | cons x l ih =>
  cases k with
  | zero =>
   simp only [List.getElem?_cons_zero,ne_eq,Option.some.injEq] at h
   have:x=false:=by cases x<;>simp_all
   subst this
   simp [List.set_cons_zero]
  | succ k =>
   simp only [List.length_cons] at hk
   simp only [List.getElem?_cons_succ] at h
   rw [List.set_cons_succ,List.count_cons,List.count_cons,ih (by omega) h]
   omega
theorem aH5 (s:List Bool × List Int) (m:Int):(vis s m).1.length=s.1.length:=by unfold vis;split<;>simp
theorem aH6 {s:List Bool × List Int} {m:Int} (h:m.toNat < s.1.length):(vis s m).2.length + s.1.count true=s.2.length + (vis s m).1.count true:=by
 unfold vis
 split
 ·rfl
 rename_i hn
 simp only [List.length_append,List.length_cons,List.length_nil]
 rw [aD6 h hn];omega
theorem aJ0 {s:List Bool × List Int} {m:Int} {n:Nat} (h:s.1[n]? = some true):(vis s m).1[n]? = some true:=by
 unfold vis
 split
 ·exact h
 simp only [List.getElem?_set]
 split
 ·rename_i e
  subst e
  have:=(List.getElem?_eq_some_iff.1 h).1
  simp [this]
 exact h
theorem aIz {s:List Bool × List Int} {m:Int} (h:m.toNat < s.1.length):(vis s m).1[m.toNat]? = some true:=by
 unfold vis
 split
 ·rename_i e;exact e
 simp [h]
theorem aKs {s:List Bool × List Int} {m:Int} {n:Nat} (h:(vis s m).1[n]? = some true):s.1[n]? = some true ∨ (n=m.toNat∧m ∈ (vis s m).2):=by
 unfold vis at h ⊢
 split at h
 ·exact .inl h
 rename_i hn
 rw [if_neg hn]
 simp only [List.getElem?_set] at h
 split at h
 ·rename_i e;exact .inr ⟨e.symm,by simp⟩
 exact .inl h
theorem aIy {s:List Bool × List Int} {m x:Int} (h:x ∈ (vis s m).2):x ∈ s.2 ∨ x=m:=by
 unfold vis at h
 split at h
 ·exact .inl h
 simpa using h
theorem aKr {s:List Bool × List Int} {m x:Int} (h:x ∈ s.2):x ∈ (vis s m).2:=by
 unfold vis
 split
 ·exact h
 simp [h]
structure VisL (W:Nat) (s s':List Bool × List Int) (nl:List Int):Prop where
 len:s'.1.length=s.1.length
 count:s'.2.length + s.1.count true=s.2.length + s'.1.count true
 cle:s.1.count true ≤ s'.1.count true
 mono:∀ n:Nat,s.1[n]? = some true→s'.1[n]? = some true
 all:∀ m ∈ nl,s'.1[m.toNat]? = some true
 new:∀ n:Nat,s'.1[n]? = some true→s.1[n]? = some true ∨ ∃ m ∈ nl,n=m.toNat∧m ∈ s'.2
 todo:∀ x ∈ s'.2,x ∈ s.2 ∨ x ∈ nl
 sub:∀ x ∈ s.2,x ∈ s'.2
theorem visL:∀ (nl:List Int) (s:List Bool × List Int),(∀ m ∈ nl,m.toNat < s.1.length)→VisL 0 s (nl.foldl vis s) nl
 | [],s,_=>⟨rfl,rfl,Nat.le_refl _,fun _ h=>h,by simp,fun _ h=>.inl h,fun _ h=>.inl h,fun _ h=>h⟩
 | m :: nl,s,h=>by
  have h1:m.toNat < s.1.length:=h m (by simp)
  have ih:=visL nl (vis s m) (fun x hx=>by rw [aH5];exact h x (by simp [hx]))
  have hc:=aH6 h1
  have hcl:s.1.count true ≤ (vis s m).1.count true:=by
   unfold vis
   split
   ·exact Nat.le_refl _
   rename_i hn;rw [aD6 h1 hn];omega
  rw [List.foldl_cons]
  refine ⟨ih.len.trans (aH5 s m),?_,Nat.le_trans hcl ih.cle,fun n hn=>ih.mono n (aJ0 hn),fun x hx=>?_,fun n hn=>?_,fun x hx=>?_,fun x hx=>ih.sub x (aKr hx)⟩
  ·have:=ih.count;omega
  ·rcases List.mem_cons.1 hx with rfl | hx
   ·exact ih.mono _ (aIz h1)
   exact ih.all x hx
  ·rcases ih.new n hn with h2 | ⟨x,h2,h3,h4⟩
   ·rcases aKs h2 with h3 | ⟨h3,h4⟩
    ·exact .inl h3
    exact .inr ⟨m,by simp,h3,ih.sub _ h4⟩
   exact .inr ⟨x,by simp [h2],h3,h4⟩
  rcases ih.todo x hx with h2 | h2
  ·rcases aIy h2 with h3 | h3
   ·exact .inl h3
   exact .inr (by simp [h3])
  exact .inr (by simp [h2])
structure WInv (W root:Nat) (next:Nat→List Int) (s:List Bool × List Int):Prop where
 len:s.1.length=W
 cnt:s.2.length ≤ s.1.count true
 bnd:∀ x ∈ s.2,0 ≤ x∧x < W
 rt:s.1[root]? = some true
 sound:∀ n:Nat,s.1[n]? = some true→Reach next root n
 closed:∀ n:Nat,s.1[n]? = some true→(n:Int) ∈ s.2 ∨ ∀ m ∈ next n,s.1[m.toNat]? = some true
 tdo:∀ x ∈ s.2,s.1[x.toNat]? = some true
theorem WInv.go {W root:Nat} {next:Nat→List Int} {s:List Bool × List Int} (H:WInv W root next s) (hn:∀ (i:Nat),i < W→∀ m ∈ next i,0 ≤ m∧m < W) {e:Int} {rest nl:List Int} (he:e ∈ s.2)
  (h1:∀ x ∈ s.2,x=e ∨ x ∈ rest) (h2:∀ x ∈ rest,x ∈ s.2) (h3:rest.length + 1=s.2.length) (h4:∀ m,m ∈ nl ↔ m ∈ next e.toNat) :
  WInv W root next (nl.foldl vis (s.1,rest))∧2 * (W - (nl.foldl vis (s.1,rest)).1.count true) + (nl.foldl vis (s.1,rest)).2.length < 2 * (W - s.1.count true) + s.2.length:=by
 have heb:=H.bnd e he
 have hb:∀ m ∈ nl,0 ≤ m∧m < W:=fun m hm=>hn e.toNat (by omega) m ((h4 m).1 hm)
 have V:=visL nl (s.1,rest) (fun m hm=>by have:=hb m hm;have:=H.len;simp only;omega)
 have c1:=V.count
 have c2:=V.cle
 have c3:=H.cnt
 have c4:(nl.foldl vis (s.1,rest)).1.count true ≤ W:=by
  have:=List.count_le_length (a:=true) (l:=(nl.foldl vis (s.1,rest)).1)
  have:=V.len
  have:=H.len
  simp only at *;omega
 simp only at c1 c2
 refine ⟨⟨V.len.trans H.len,by omega,fun x hx=>?_,V.mono _ H.rt,fun n hn'=>?_,fun n hn'=>?_,fun x hx=>?_⟩,by omega⟩
 ·rcases V.todo x hx with h | h
  ·exact H.bnd x (h2 x h)
  exact hb x h
 ·rcases V.new n hn' with h | ⟨m,h,rfl,_⟩
  ·exact H.sound n h
  exact .step (H.sound _ (H.tdo e he)) ((h4 m).1 h)
 ·rcases V.new n hn' with h | ⟨m,h,h5,h6⟩
  ·rcases H.closed n h with h5 | h5
   ·rcases h1 _ h5 with h6 | h6
    ·right
     intro m hm
     have:e.toNat=n:=by omega
     exact V.all m ((h4 m).2 (this ▸ hm))
    exact .inl (V.sub _ h6)
   exact .inr fun m hm=>V.mono _ (h5 m hm)
  left
  have:=hb m h
  have e1:(n:Int)=m:=by omega
  rw [e1];exact h6
 rcases V.todo x hx with h | h
 ·exact V.mono _ (H.tdo x (h2 x h))
 exact V.all x h
open Classical in
noncomputable def aKd (W root:Nat) (next:Nat→List Int):List Bool:=(List.range W).map fun n=>decide (Reach next root n)
theorem WInv.done {W root:Nat} {next:Nat→List Int} {s:List Bool × List Int} (H:WInv W root next s) (hn:∀ (i:Nat),i < W→∀ m ∈ next i,0 ≤ m∧m < W) (h:s.2=[]):s.1=aKd W root next:=by
 have hcl:∀ n:Nat,Reach next root n→s.1[n]? = some true:=by
  intro n r
  induction r with
  | base=>exact H.rt
  | step _ hm ih =>
   rcases H.closed _ ih with h5 | h5
   ·rw [h] at h5;cases h5
   exact h5 _ hm
 apply List.ext_getElem?
 intro n
 unfold aKd
 by_cases hlt:n < W
 ·have hlt2:n < s.1.length:=by rw [H.len];exact hlt
  rw [List.getElem?_eq_getElem hlt2,List.getElem?_map,List.getElem?_range hlt]
  simp only [Option.map_some,Option.some.injEq]
  by_cases r:Reach next root n
  ·have:=hcl n r
   rw [List.getElem?_eq_getElem hlt2] at this
   simp only [Option.some.injEq] at this
   simp [this,r]
  have:s.1[n] ≠ true:=fun e=>r (H.sound n (by rw [List.getElem?_eq_getElem hlt2,e]))
  simp [r,this]
 rw [List.getElem?_eq_none (by rw [H.len];omega),List.getElem?_eq_none (by simp;omega)]
end Go.OM
namespace Go.OM
theorem uW {α β ρ ρ':Type} {f:α→Option (α ⊕ ρ)} {g:β→Option (β ⊕ ρ')} (I:α→β→Prop) (μ:α→Nat) (R:ρ→ρ'→Prop)
  (h:∀ a b,I a b→(∃ a' b',f a=some (.inl a')∧g b=some (.inl b')∧I a' b'∧μ a' < μ a) ∨ ∃ r r',f a=some (.inr r)∧g b=some (.inr r')∧R r r'):∀ a b,I a b→∃ r r',aJ f a=some r∧aJ g b=some r'∧R r r':=by
 intro a
 generalize hn:μ a=n
 induction n using Nat.strongRecOn generalizing a with
 | _ n ih =>
  intro b hI
  rw [sU f,sU g]
  rcases h a b hI with ⟨a',b',h1,h2,h3,h4⟩ | ⟨r,r',h1,h2,h3⟩
  ·rw [h1,h2];exact ih _ (by omega) a' rfl b' h3
  rw [h1,h2];exact ⟨r,r',rfl,rfl,h3⟩
abbrev Tab:=List (List Bool)
structure TabOk (W L:Nat) (t:Tab):Prop where
 len:t.length=W
 row:∀ r ∈ t,r.length=L
theorem TabOk.set {W L:Nat} {t:Tab} (h:TabOk W L t) (n:Nat) {r:List Bool} (hr:r.length=L):TabOk W L (t.set n r) :=
 ⟨by simpa using h.len,fun x hx=>by
  rcases List.mem_or_eq_of_mem_set hx with h1 | h1
  ·exact h.row x h1
  rw [h1];exact hr⟩
theorem dJ {k n:Nat} (hk:k < n) (hn:n ≤ 1048576):IntKind.wrap .i64 ((k:Int) + 1)=((k + 1:Nat):Int):=qQ hk (show n ≤ maxLen by show _ ≤ 9223372036854775807;omega)
theorem aH2 {α:Type} {n:Nat} {s:List α} {e:α} (h:s.length ≤ 1048576) (hn:n ≤ 64):bW n s [e]=some (s ++ [e]):=by
 unfold bW
 have h1:(s.length + [e].length) * n ≤ (s.length + [e].length) * 64:=Nat.mul_le_mul_left _ hn
 rw [if_pos ⟨by simp only [List.length_cons,List.length_nil] at h1 ⊢;omega,by simp only [List.length_cons,List.length_nil];omega⟩]
def cntR (r:List Bool):Nat:=r.count true
def cntT (t:Tab):Nat:=(t.map cntR).sum
end Go.OM
namespace Go.OM
theorem gV {α:Type} {l:List α} {v:Int} (h0:0 ≤ v) (h:v < l.length):aY l v=some (l[v.toNat]'(by omega)):=by
 have:v=((v.toNat:Nat):Int):=by omega
 conv=>lhs;rw [this]
 exact bJ (by omega)
theorem aLd {α:Type} {n:Nat} {l:List α} (h:l.length ≤ 1048576) (hn:n ≤ 64):bW n [] l=some l:=by
 unfold bW
 have h1:(([]:List α).length + l.length) * n ≤ (([]:List α).length + l.length) * 64:=Nat.mul_le_mul_left _ hn
 rw [if_pos ⟨by simp only [List.length_nil] at h1 ⊢;omega,by simp only [List.length_nil];omega⟩]
 simp
end Go.OM
namespace Go.OM
structure Dn (W L:Nat) (s s':Tab × Bool):Prop where
 ok:TabOk W L s'.1
 le:cntT s'.1 ≤ cntT s.1
 lt:s'.2=true→s.2=true ∨ cntT s'.1 < cntT s.1
 keep:s.2=true→s'.2=true
theorem Dn.refl {W L:Nat} {s:Tab × Bool} (h:TabOk W L s.1):Dn W L s s:=⟨h,Nat.le_refl _,.inl,id⟩
theorem Dn.trans {W L:Nat} {s s' s2:Tab × Bool} (h:Dn W L s s') (h2:Dn W L s' s2):Dn W L s s2 :=
 ⟨h2.ok,Nat.le_trans h2.le h.le,fun e=>by
  rcases h2.lt e with e | e
  ·rcases h.lt e with e | e
   ·exact .inl e
   exact .inr (Nat.lt_of_le_of_lt h2.le e)
  exact .inr (Nat.lt_of_lt_of_le e h.le),fun e=>h2.keep (h.keep e)⟩
end Go.OM
namespace Go.OM
theorem aI7 (l:List Int) (n:Int) (hl:l.length ≤ 1048576):oD l n=some (l.contains n):=by
 unfold oD
 rw [aCq l (fun e=>e == n) (kD l n) (fun k hk=>by
  simp only [kD,aF hk,if_true,bJ hk,Option.bind_some,dJ hk hl]
  cases l[k] == n<;>rfl) (by simp [kD])]
 have:(l.any fun e=>e == n)=l.contains n:=by
  induction l with
  | nil=>rfl
  | cons x l ih =>
   rw [List.any_cons,List.contains_cons,ih (by simp at hl;omega)]
   congr 1
   rw [Bool.eq_iff_iff,beq_iff_eq,beq_iff_eq]
   exact eq_comm
 rw [this]
 cases l.contains n<;>rfl
theorem aAj {ρ:Type} (n:Nat) (q:Nat→Option ρ) (f:Int→Option (Int ⊕ (Unit ⊕ ρ)))
  (hf:∀ (k:Nat),k < n→f k=some (match q k with | none=>.inl ((k + 1:Nat):Int) | some r=>.inr (.inr r)))
  (he:f n=some (.inr (.inl ()))):aJ f 0=some (match (List.range n).findSome? q with | some r=>.inr r | none=>.inl ()) :=
 wH (List.range n) q f (fun k hk=>by
  have hk':k < n:=by simpa using hk
  rw [hf k hk',List.getElem_range]
  all_goals (cases q k<;>rfl)) (by rw [List.length_range];exact he)
end Go.OM
namespace Go.OM
def yB (k:Int):Bool:=inB k 1 12
def aC3 (k:Int):Bool:=inB k 13 19
theorem rW (k:Int):kT k=some (yB k):=by simp only [kT,dX,Option.bind_some,yB]
theorem aA0 (k:Int):oC k=some (aC3 k):=by simp only [oC,dX,Option.bind_some,aC3]
theorem rA (k:Int):gR k=some (yB k):=by simp only [gR,gF,Option.bind_some,yB]
theorem tC (k:Int):gE k=some (aC3 k):=by simp only [gE,gF,Option.bind_some,aC3]
def nV (k:Int):Int × Int:=if k=8 ∨ k=13 ∨ k=14 ∨ k=15 ∨ k=18 ∨ k=19 then (1,1) else if k=9 ∨ k=10 ∨ k=11 ∨ k=17 then (2,2) else if k=16 then (3,3) else if k=12 then (0,3) else if k=20 then (0,12) else (0,0)
theorem aBn (k:Int):qC k=some (nV k):=by
 unfold qC nV
 by_cases h8:k=8
 ·simp [h8]
 by_cases h13:k=13
 ·simp [h13]
 by_cases h14:k=14
 ·simp [h14]
 by_cases h15:k=15
 ·simp [h15]
 by_cases h18:k=18
 ·simp [h18]
 by_cases h19:k=19
 ·simp [h19]
 by_cases h9:k=9
 ·simp [h9]
 by_cases h10:k=10
 ·simp [h10]
 by_cases h11:k=11
 ·simp [h11]
 by_cases h17:k=17
 ·simp [h17]
 by_cases h16:k=16
 ·simp [h16]
 by_cases h12:k=12
 ·simp [h12]
 by_cases h20:k=20
 ·simp [h20]
 simp [h8,h13,h14,h15,h18,h19,h9,h10,h11,h17,h16,h12,h20]
theorem yE (k:Int):mO k=some (nV k):=by
 unfold mO nV
 by_cases h8:k=8
 ·simp [h8]
 by_cases h13:k=13
 ·simp [h13]
 by_cases h14:k=14
 ·simp [h14]
 by_cases h15:k=15
 ·simp [h15]
 by_cases h18:k=18
 ·simp [h18]
 by_cases h19:k=19
 ·simp [h19]
 by_cases h9:k=9
 ·simp [h9]
 by_cases h10:k=10
 ·simp [h10]
 by_cases h11:k=11
 ·simp [h11]
 by_cases h17:k=17
 ·simp [h17]
 by_cases h16:k=16
 ·simp [h16]
 by_cases h12:k=12
 ·simp [h12]
 by_cases h20:k=20
 ·simp [h20]
 simp [h8,h13,h14,h15,h18,h19,h9,h10,h11,h17,h16,h12,h20]
def aBo (kind i kid:Int):Bool:=if kind=20 then aC3 kid else if (kind=16 ∨ kind=17)∧0 < i then kid == 20 else if kind=19 then kid == 12 else yB kid
theorem yX (kind i kid:Int):mW kind i kid=some (aBo kind i kid):=by
 unfold mW aBo
 simp only [aA0,rW,Option.bind_some,gt_iff_lt]
 by_cases h20:kind=20
 ·simp [h20]
 by_cases h16:kind=16
 ·by_cases hi:0 < i<;>simp [h16,hi]
 by_cases h17:kind=17
 ·by_cases hi:0 < i<;>simp [h17,hi]
 by_cases h19:kind=19
 ·simp [h19]
 simp [h20,h16,h17,h19]
theorem yF (kind i kid:Int):mP kind i kid=some (aBo kind i kid):=by
 unfold mP aBo
 simp only [tC,rA,Option.bind_some,gt_iff_lt]
 by_cases h20:kind=20
 ·simp [h20]
 by_cases h16:kind=16
 ·by_cases hi:0 < i<;>simp [h16,hi]
 by_cases h17:kind=17
 ·by_cases hi:0 < i<;>simp [h17,hi]
 by_cases h19:kind=19
 ·simp [h19]
 simp [h20,h16,h17,h19]
def rB (k:Int):Bool:=inB k 2 6 || inB k 12 15
theorem yY (k:Int):mX k=some (rB k):=by
 unfold mX rB
 simp only [dX,Option.bind_some]
 cases inB k 2 6<;>rfl
theorem xH (k:Int):kY k=some (rB k):=by
 unfold kY rB
 by_cases h:inB k 2 6=true
 ·have h':=inB_iff.1 h
  rw [h]
  have:k=2 ∨ k=3 ∨ k=4 ∨ k=5 ∨ k=6:=by omega
  rcases this with e | e | e | e | e<;>simp [e]
 by_cases h2:inB k 12 15=true
 ·have h':=inB_iff.1 h2
  rw [h2]
  have:k=12 ∨ k=13 ∨ k=14 ∨ k=15:=by omega
  rcases this with e | e | e | e<;>simp [e]
 have h':=inB_false.1 (Bool.eq_false_iff.2 h)
 have h2':=inB_false.1 (Bool.eq_false_iff.2 h2)
 have n2:¬ k=2:=by omega
 have n3:¬ k=3:=by omega
 have n4:¬ k=4:=by omega
 have n5:¬ k=5:=by omega
 have n6:¬ k=6:=by omega
 have n12:¬ k=12:=by omega
 have n13:¬ k=13:=by omega
 have n14:¬ k=14:=by omega
 have n15:¬ k=15:=by omega
 simp [Bool.eq_false_iff.2 h,Bool.eq_false_iff.2 h2,n2,n3,n4,n5,n6,n12,n13,n14,n15]
def aL4 (nodes:List GNode) (k:Nat) (x:GNode) (i:Nat):Bool:=match x.Kids[i]? with
 | none=>false
 | some kid=>inB kid 0 ((k:Int) - 1) && (!((x.Kids.take i).contains kid) && (match nodes[kid.toNat]? with | some y=>aBo x.Kind i y.Kind | none=>false))
theorem aDz {nodes:List GNode} {k:Nat} {x:GNode} {i:Nat} (h:i < x.Kids.length):aL4 nodes k x i=(inB x.Kids[i] 0 ((k:Int) - 1) && (!((x.Kids.take i).contains x.Kids[i]) && (match nodes[(x.Kids[i]).toNat]? with | some y=>aBo x.Kind i y.Kind | none=>false))):=by
 unfold aL4;rw [List.getElem?_eq_getElem h]
def aI3 (nodes:List GNode) (k:Nat) (x:GNode):Bool:=(List.range x.Kids.length).all (aL4 nodes k x)
def aHz (x:GNode):Bool:=if x.Kind=1 then inB x.Num 0 1000000000 else x.Num == 0
def aF5 (x:GNode):Bool:=if rB x.Kind=true then tD x.Name else sEq x.Name ⟨#[]⟩
def pG (nodes:List GNode) (k:Nat):Bool:=match nodes[k]? with
 | none=>false
 | some x=>inB x.Kind 1 20 && (inB x.Kids.length (nV x.Kind).1 (nV x.Kind).2 && (aI3 nodes k x && (aHz x && aF5 x)))
theorem yM {ρ:Type} (n:Nat) (hn:n ≤ 1048576) (p:Nat→Bool) (b:ρ) (f:Int→Option (Int ⊕ (Unit ⊕ ρ)))
  (hf:∀ (k:Nat),k < n→f k=some (if p k=true then .inl (IntKind.wrap .i64 ((k:Int) + 1)) else .inr (.inr b)))
  (he:f n=some (.inr (.inl ()))):aJ f 0=some (if (List.range n).all p=true then .inl () else .inr b):=by
 rw [aAj n (fun k=>if p k=true then none else some b) f (fun k hk=>by
  rw [hf k hk,dJ hk hn]
  cases p k<;>rfl) he]
 have key:∀ l:List Nat,l.findSome? (fun k=>if p k=true then none else some b)=if l.all p=true then none else some b:=by
  intro l
  induction l with
  | nil=>rfl
  | cons x l ih =>
   rw [List.findSome?_cons,List.all_cons]
   cases hp:p x
   ·simp
   simp only [if_true,Bool.true_and];exact ih
 rw [key]
 cases (List.range n).all p<;>rfl
theorem aB1 (k:Int):(nV k).2 ≤ 12:=by
 unfold nV
 repeat' split
 all_goals simp
theorem aDv:tD ⟨#[]⟩=false:=by
 unfold tD
 have:inB ((⟨#[]⟩:ByteArray).size:Int) 1 8=false:=rfl
 rw [this];rfl
theorem aA2 (nodes:List GNode) (hn:nodes.length ≤ 1048576) (k:Int):oH nodes k=some (decide (0 ≤ k) && pG nodes k.toNat):=by
 unfold oH
 simp only [dX,Option.bind_some,iO hn]
 by_cases hi:inB k 0 ((nodes.length:Int) - 1)=true
 ·have hi':=inB_iff.1 hi
  have hk:k.toNat < nodes.length:=by omega
  have hkk:k=((k.toNat:Nat):Int):=by omega
  rw [decide_eq_true hi'.1,Bool.true_and]
  generalize k.toNat=m at *
  subst hkk
  unfold pG
  rw [List.getElem?_eq_getElem hk,bJ hk]
  simp only [hi,Bool.not_true,Bool.false_eq_true,if_false,Option.bind_some,aBn]
  generalize nodes[m]=x
  cases h1:inB x.Kind 1 20
  ·rfl
  cases h2:inB x.Kids.length (nV x.Kind).1 (nV x.Kind).2
  ·rfl
  have h2':=inB_iff.1 h2
  have hs:=aB1 x.Kind
  have hkl:x.Kids.length ≤ 1048576:=by omega
  have hw:IntKind.wrap .i64 ((m:Int) - 1)=(m:Int) - 1:=w64 (by omega) (by omega)
  rw [yM x.Kids.length hkl (aL4 nodes m x) false (kH nodes m x) (fun i hi=>by
   have hsub:fE x.Kids 0 (i:Int)=some (x.Kids.take i):=by
    unfold fE;rw [if_pos ⟨by omega,by omega,by omega⟩];simp
   simp only [kH,aF hi,if_true,bJ hi,Option.bind_some,dX,hw,hsub,aI7 (x.Kids.take i) _ (by simp;omega),yX]
   rw [aDz hi]
   cases h3:inB x.Kids[i] 0 ((m:Int) - 1)
   ·rfl
   have h3':=inB_iff.1 h3
   cases h4:(x.Kids.take i).contains x.Kids[i]
   ·have hlt:x.Kids[i].toNat < nodes.length:=by omega
    rw [gV h3'.1 (by omega),List.getElem?_eq_getElem hlt]
    simp only [Bool.not_true,Bool.false_eq_true,if_false,Option.bind_some,Bool.not_false,Bool.true_and]
    cases aBo x.Kind i nodes[x.Kids[i].toNat].Kind<;>rfl
   rfl) (by simp [kH])]
  have hkk:(List.range x.Kids.length).all (aL4 nodes m x)=aI3 nodes m x:=rfl
  rw [hkk]
  cases aI3 nodes m x
  ·rfl
  unfold aHz aF5
  simp only [yY,pJ,Option.bind_some,Bool.not_true,Bool.false_eq_true,if_false,if_true]
  by_cases hkd:x.Kind=1
  ·have e:(x.Kind == 1)=true:=by simpa using hkd
   rw [if_pos hkd,if_pos e]
   cases inB x.Num 0 1000000000
   ·rfl
   cases rB x.Kind<;>rfl
  have e:¬ (x.Kind == 1)=true:=by simpa using hkd
  have e2:(x.Num != 0) = !(x.Num == 0):=rfl
  rw [if_neg hkd,if_neg e,e2]
  cases x.Num == 0
  ·rfl
  cases rB x.Kind<;>rfl
 simp only [Bool.eq_false_iff.2 hi,Bool.not_false,if_true]
 have hi':=inB_false.1 (Bool.eq_false_iff.2 hi)
 congr 1
 by_cases h0:0 ≤ k
 ·unfold pG
  rw [List.getElem?_eq_none (by omega)];simp
 simp [h0]
theorem zQ (nodes:List GNode) (hn:nodes.length ≤ 1048576) (k:Int):nS nodes k=some (decide (0 ≤ k) && pG nodes k.toNat):=by
 unfold nS
 simp only [gF,Option.bind_some,iO hn]
 by_cases hi:inB k 0 ((nodes.length:Int) - 1)=true
 ·have hi':=inB_iff.1 hi
  have hk:k.toNat < nodes.length:=by omega
  have hkk:k=((k.toNat:Nat):Int):=by omega
  rw [decide_eq_true hi'.1,Bool.true_and]
  generalize k.toNat=m at *
  subst hkk
  unfold pG
  rw [List.getElem?_eq_getElem hk,bJ hk]
  simp only [hi,Bool.not_true,Bool.false_eq_true,if_false,Option.bind_some,yE]
  generalize nodes[m]=x
  cases h1:inB x.Kind 1 20
  ·rfl
  simp only [Bool.not_true,Bool.false_eq_true,if_false,Bool.true_and]
  cases h2:inB x.Kids.length (nV x.Kind).1 (nV x.Kind).2
  ·rfl
  have h2':=inB_iff.1 h2
  have hs:=aB1 x.Kind
  have hkl:x.Kids.length ≤ 1048576:=by omega
  have hw:IntKind.wrap .i64 ((m:Int) - 1)=(m:Int) - 1:=w64 (by omega) (by omega)
  rw [yM x.Kids.length hkl (aL4 nodes m x) false (jY nodes m x) (fun i hi=>by
   simp only [jY,aF hi,if_true,bJ hi,Option.bind_some,gF,hw,yF]
   rw [yM i (by omega) (fun j=>!(x.Kids[i] == (x.Kids[j]?).getD 0)) (.inr (.inr false)) (jX x i) (fun j hj=>by
    have hjl:j < x.Kids.length:=by omega
    simp only [jX,aF hj,if_true,bJ hi,bJ hjl,Option.bind_some,List.getElem?_eq_getElem hjl,Option.getD_some]
    cases x.Kids[i] == x.Kids[j]<;>rfl) (by simp [jX])]
   have hall:(List.range i).all (fun j=>!(x.Kids[i] == (x.Kids[j]?).getD 0)) = !((x.Kids.take i).contains x.Kids[i]):=by
    rw [Bool.eq_iff_iff]
    simp only [List.all_eq_true,List.mem_range,Bool.not_eq_true',List.contains_eq_mem,decide_eq_false_iff_not,beq_eq_false_iff_ne,ne_eq]
    constructor
    ·intro h hm
     obtain ⟨j,hj,e⟩:=List.mem_iff_getElem.1 hm
     simp only [List.length_take] at hj
     rw [List.getElem_take] at e
     refine h j (by omega) ?_
     rw [List.getElem?_eq_getElem (by omega)]
     exact e.symm
    intro h j hj e
    rw [List.getElem?_eq_getElem (show j < x.Kids.length by omega)] at e
    refine h ?_
    rw [e]
    refine List.mem_iff_getElem.2 ⟨j,by simp only [List.length_take];omega,?_⟩
    rw [List.getElem_take];rfl
   rw [hall]
   rw [aDz hi]
   cases h3:inB x.Kids[i] 0 ((m:Int) - 1)
   ·rfl
   have h3':=inB_iff.1 h3
   have hlt:x.Kids[i].toNat < nodes.length:=by omega
   rw [gV h3'.1 (by omega),List.getElem?_eq_getElem hlt]
   simp only [Bool.not_true,Bool.false_eq_true,if_false,Option.bind_some,Bool.true_and]
   cases aBo x.Kind i nodes[x.Kids[i].toNat].Kind<;>cases (x.Kids.take i).contains x.Kids[i]<;>rfl) (by simp [jY])]
  have hkk:(List.range x.Kids.length).all (aL4 nodes m x)=aI3 nodes m x:=rfl
  rw [hkk]
  unfold aHz aF5
  simp only [xH,mH,Option.bind_some,Bool.not_true,Bool.false_eq_true,if_false,if_true]
  have hname:(if (!(rB x.Kind == (!(sEq x.Name (⟨#[]⟩:ByteArray)))))=true then some true else if (!(sEq x.Name (⟨#[]⟩:ByteArray)))=true then some (!(tD x.Name)) else some false)=some (!(if rB x.Kind=true then tD x.Name else sEq x.Name ⟨#[]⟩)):=by
   cases he:sEq x.Name ⟨#[]⟩ with
   | true =>
    have:x.Name=⟨#[]⟩:=by rw [aB6] at he;simpa using he
    cases rB x.Kind
    ·rfl
    rw [this,aDv];rfl
   | false =>
    cases rB x.Kind<;>rfl
  rw [hname]
  have hnum:(if (!(inB x.Num 0 1000000000))=true then some true else if (x.Kind != 1)=true then some (x.Num != 0) else some false)=some (!(if x.Kind=1 then inB x.Num 0 1000000000 else x.Num == 0)):=by
   have e2:(x.Num != 0) = !(x.Num == 0):=rfl
   by_cases hkd:x.Kind=1
   ·have e:(x.Kind != 1)=false:=by simp [hkd]
    rw [if_pos hkd,e]
    cases inB x.Num 0 1000000000<;>rfl
   have e:(x.Kind != 1)=true:=by simpa using hkd
   rw [if_neg hkd,e,e2]
   cases hz:x.Num == 0 with
   | true =>
    have:x.Num=0:=by simpa using hz
    rw [this];rfl
   | false=>cases inB x.Num 0 1000000000<;>rfl
  rw [hnum]
  generalize (if x.Kind=1 then inB x.Num 0 1000000000 else x.Num == 0)=u
  generalize (if rB x.Kind=true then tD x.Name else sEq x.Name ⟨#[]⟩)=v
  cases u<;>cases v<;>cases aI3 nodes m x<;>rfl
 simp only [Bool.eq_false_iff.2 hi,Bool.not_false,if_true,Option.bind_some]
 have hi':=inB_false.1 (Bool.eq_false_iff.2 hi)
 congr 1
 by_cases h0:0 ≤ k
 ·unfold pG
  rw [List.getElem?_eq_none (by omega)];simp
 simp [h0]
end Go.OM
namespace Go.OM
def mx (a b:Int):Int:=if b > a then b else a
def aEa (nodes:List GNode) (out:List Int) (i:Nat):Int:=match nodes[i]? with
 | some x=>x.Kids.foldl (fun d kid=>mx d (out.getD kid.toNat 0 + 1)) 1
 | none=>1
def kP (nodes:List GNode):Nat→List Int
 | 0=>[]
 | n + 1=>kP nodes n ++ [aEa nodes (kP nodes n) n]
def okU (nodes:List GNode):Nat→Bool
 | 0=>true
 | n + 1=>okU nodes n && (pG nodes n && decide (aEa nodes (kP nodes n) n ≤ 10))
def rD (nodes:List GNode) (k:Nat):Int:=aEa nodes (kP nodes k) k
theorem iG (nodes:List GNode):∀ n,(kP nodes n).length=n
 | 0=>rfl
 | n + 1=>by simp [kP,iG nodes n]
theorem nC (nodes:List GNode):∀ (n j:Nat),j < n→(kP nodes n)[j]? = some (rD nodes j)
 | 0,j,h=>by omega
 | n + 1,j,h=>by
  simp only [kP]
  rcases Nat.lt_or_ge j n with h1 | h1
  ·rw [List.getElem?_append_left (by rw [iG];exact h1)]
   exact nC nodes n j h1
  have:j=n:=by omega
  subst this
  rw [List.getElem?_append_right (by rw [iG];omega),iG]
  simp [rD]
theorem mI {nodes : List GNode} : ∀ {n m : Nat}, m ≤ n → okU nodes n = true → okU nodes m = true
  | 0, m, h, h1 => by have : m = 0 := by omega
                      subst this; rfl
  | n + 1, m, h, h1 => by
    by_cases e : m = n + 1
    · subst e; exact h1
    simp only [okU, Bool.and_eq_true] at h1
    exact mI (by omega) h1.1
theorem tO {nodes:List GNode} {n j:Nat} (h:okU nodes n=true) (hj:j < n):pG nodes j=true∧rD nodes j ≤ 10:=by
 have:=mI (show j + 1 ≤ n by omega) h
 simp only [okU,Bool.and_eq_true,decide_eq_true_eq] at this
 exact this.2
theorem mx_ge (l:List Int) (g:Int→Int):∀ d,d ≤ l.foldl (fun d kid=>mx d (g kid)) d∧∀ kid ∈ l,g kid ≤ l.foldl (fun d kid=>mx d (g kid)) d:=by
 induction l with
 | nil=>intro d;simp
 | cons x l ih =>
  intro d
  rw [List.foldl_cons]
  obtain ⟨h1,h2⟩:=ih (mx d (g x))
  have h3:d ≤ mx d (g x)∧g x ≤ mx d (g x):=by unfold mx;split<;>omega
  refine ⟨by omega,fun kid hk=>?_⟩
  rcases List.mem_cons.1 hk with rfl | hk
  ·omega
  exact h2 kid hk
theorem pA (nodes:List GNode) (k:Nat):1 ≤ rD nodes k:=by
 unfold rD aEa
 split
 ·exact (mx_ge _ _ 1).1
 omega
theorem uS {nodes:List GNode} {k:Nat} (h:pG nodes k=true):∃ (hk:k < nodes.length),inB nodes[k].Kind 1 20=true∧inB nodes[k].Kids.length (nV nodes[k].Kind).1 (nV nodes[k].Kind).2=true∧(∀ (i:Nat) (hi:i < nodes[k].Kids.length),(0 ≤ nodes[k].Kids[i]∧nodes[k].Kids[i] < k)∧¬ nodes[k].Kids[i] ∈ nodes[k].Kids.take i∧∃ y,nodes[(nodes[k].Kids[i]).toNat]? = some y∧aBo nodes[k].Kind i y.Kind=true)∧aHz nodes[k]=true∧aF5 nodes[k]=true:=by
 unfold pG at h
 split at h
 ·cases h
 rename_i x hx
 obtain ⟨hk,hxe⟩:=List.getElem?_eq_some_iff.1 hx
 subst hxe
 simp only [Bool.and_eq_true] at h
 obtain ⟨h1,h2,h3,h4,h5⟩:=h
 refine ⟨hk,h1,h2,fun i hi=>?_,h4,h5⟩
 have:=List.all_eq_true.1 h3 i (List.mem_range.2 hi)
 rw [aDz hi] at this
 simp only [Bool.and_eq_true,inB_iff,Bool.not_eq_true',List.contains_eq_mem,decide_eq_false_iff_not] at this
 obtain ⟨g1,g2,g3⟩:=this
 refine ⟨⟨g1.1,by omega⟩,g2,?_⟩
 split at g3
 ·rename_i y hy;exact ⟨y,hy,g3⟩
 cases g3
theorem mA {nodes:List GNode} {k:Nat} (h:pG nodes k=true) {x:GNode} (hx:nodes[k]? = some x):∀ kid ∈ x.Kids,0 ≤ kid∧kid < k:=by
 obtain ⟨hk,_,_,h3,_⟩:=uS h
 obtain ⟨_,hxe⟩:=List.getElem?_eq_some_iff.1 hx
 subst hxe
 intro kid hm
 obtain ⟨i,hi,rfl⟩:=List.mem_iff_getElem.1 hm
 exact (h3 i hi).1
theorem mT {nodes:List GNode} {k:Nat} (h:pG nodes k=true) {x:GNode} (hx:nodes[k]? = some x):x.Kids.length ≤ 12:=by
 obtain ⟨hk,_,h2,_⟩:=uS h
 obtain ⟨_,hxe⟩:=List.getElem?_eq_some_iff.1 hx
 subst hxe
 have:=inB_iff.1 h2
 have:=aB1 nodes[k].Kind
 omega
theorem aK4 {nodes:List GNode} {k:Nat} (h:pG nodes k=true) {x:GNode} (hx:nodes[k]? = some x) {kid:Int} (hm:kid ∈ x.Kids):rD nodes kid.toNat < rD nodes k:=by
 have hb:=mA h hx kid hm
 have:rD nodes k=x.Kids.foldl (fun d kid=>mx d ((kP nodes k).getD kid.toNat 0 + 1)) 1:=by unfold rD aEa;rw [hx]
 rw [this]
 have h2:=(mx_ge x.Kids (fun kid=>(kP nodes k).getD kid.toNat 0 + 1) 1).2 kid hm
 have h3:(kP nodes k).getD kid.toNat 0=rD nodes kid.toNat:=by
  rw [List.getD_eq_getElem?_getD,nC nodes k kid.toNat (by omega)];rfl
 rw [h3] at h2
 omega
theorem aGq (nodes:List GNode) (k:Nat) (x:GNode) (hx:nodes[k]? = some x) (hok:okU nodes k=true) (hn:pG nodes k=true):aJ (iI (kP nodes k) x) (1,0)=some (rD nodes k):=by
 have hkl:=mT hn hx
 have hkb:=mA hn hx
 have hg:∀ kid ∈ x.Kids,(kP nodes k).getD kid.toNat 0=rD nodes kid.toNat:=fun kid hm=>by
  have:=hkb kid hm
  rw [List.getD_eq_getElem?_getD,nC nodes k kid.toNat (by omega)];rfl
 have:=qA x.Kids (fun (d:Int) j=>(d,(j:Int))) (fun j d=>True) (fun d kid=>.inl (mx d ((kP nodes k).getD kid.toNat 0 + 1))) id (iI (kP nodes k) x) (fun d j hj _=>by
  left
  have hm:=List.getElem_mem hj
  have hb:=hkb _ hm
  have hd:=tO hok (show x.Kids[j].toNat < k by omega)
  have hp:=pA nodes x.Kids[j].toNat
  refine ⟨_,rfl,?_,trivial⟩
  have hlt:x.Kids[j].toNat < (kP nodes k).length:=by rw [iG];omega
  have hge:(kP nodes k)[x.Kids[j].toNat]=rD nodes x.Kids[j].toNat:=by
   have:=nC nodes k x.Kids[j].toNat (by omega)
   rw [List.getElem?_eq_getElem hlt] at this
   exact Option.some.inj this
  simp only [iI,aF hj,if_true,bJ hj,Option.bind_some]
  rw [gV hb.1 (by rw [iG];omega),hge]
  simp only [Option.bind_some,w64 (n:=rD nodes x.Kids[j].toNat + 1) (by omega) (by omega),dJ hj (by omega),hg _ hm]
  rfl) (fun d _=>by simp [iI]) 1 trivial
 rw [qE] at this
 unfold rD aEa
 rw [hx]
 exact this
theorem aA1 (nodes:List GNode) (hn:nodes.length ≤ 1048576) (k:Int):oE nodes k=some (if 0 ≤ k∧k < nodes.length∧okU nodes (k.toNat + 1)=true then (kP nodes (k.toNat + 1),true) else ([],false)):=by
 unfold oE
 simp only [dX,Option.bind_some,iO hn]
 by_cases hi:inB k 0 ((nodes.length:Int) - 1)=true
 ·have hi':=inB_iff.1 hi
  have hkk:k=((k.toNat:Nat):Int):=by omega
  have hk:k.toNat < nodes.length:=by omega
  generalize k.toNat=m at *
  subst hkk
  simp only [hi,Bool.not_true,Bool.false_eq_true,if_false]
  obtain ⟨r,h1,h2⟩:=jJ (f:=kE nodes m) (fun s:List Int × Int=>∃ i:Nat,s.2=i∧i ≤ m + 1∧s.1=kP nodes i∧okU nodes i=true) (fun s=>m + 1 - s.2.toNat) (fun r=>r=if okU nodes (m + 1)=true then Sum.inl (kP nodes (m + 1)) else Sum.inr ([],false)) (by
   rintro ⟨out,i⟩ ⟨i,rfl,hle,ho,hok⟩
   simp only at ho hle
   subst ho
   by_cases hlt:i ≤ m
   ·have hd:decide ((i:Int) ≤ (m:Int))=true:=by simp only [decide_eq_true_eq];omega
    have hil:i < nodes.length:=by omega
    simp only [kE,hd,if_true,aA2 nodes hn,Option.bind_some,Int.toNat_natCast]
    have h0:decide ((0:Int) ≤ (i:Int))=true:=by simp
    rw [h0,Bool.true_and]
    cases hnb:pG nodes i with
    | false =>
     right
     refine ⟨.inr ([],false),by simp,?_⟩
     have:okU nodes (m + 1)=false:=by
      rw [Bool.eq_false_iff]
      intro h
      rw [(tO h (show i < m + 1 by omega)).1] at hnb
      cases hnb
     rw [this];rfl
    | true =>
     simp only [Bool.not_true,Bool.false_eq_true,if_false,bJ hil,Option.bind_some]
     rw [aGq nodes i _ (List.getElem?_eq_getElem hil) hok hnb]
     simp only [Option.bind_some]
     by_cases hd10:rD nodes i > 10
     ·right
      rw [if_pos (by simpa using hd10)]
      refine ⟨.inr ([],false),rfl,?_⟩
      have:okU nodes (m + 1)=false:=by
       rw [Bool.eq_false_iff]
       intro h
       have:=(tO h (show i < m + 1 by omega)).2
       omega
      rw [this];rfl
     left
     rw [if_neg (by simpa using hd10),app1 (by rw [iG];omega) (by omega)]
     refine ⟨(kP nodes (i + 1),((i + 1:Nat):Int)),?_,⟨i + 1,rfl,by omega,rfl,?_⟩,by simp only [Int.toNat_natCast];omega⟩
     ·simp only [Option.bind_some,dJ hil hn]
      rfl
     simp only [okU,hok,hnb,Bool.true_and,decide_eq_true_eq]
     show rD nodes i ≤ 10
     omega
   right
   have:i=m + 1:=by omega
   subst this
   have hd:decide (((m + 1:Nat):Int) ≤ (m:Int))=false:=by simp only [decide_eq_false_iff_not];omega
   refine ⟨.inl (kP nodes (m + 1)),by simp only [kE,hd,Bool.false_eq_true,if_false],?_⟩
   rw [hok];rfl) ([],0) ⟨0,rfl,by omega,rfl,rfl⟩
  rw [h1,h2]
  by_cases hok:okU nodes (m + 1)=true
  ·rw [if_pos hok,if_pos (show 0 ≤ (m:Int)∧(m:Int) < nodes.length∧okU nodes (m + 1)=true from ⟨by omega,by omega,hok⟩)];rfl
  rw [if_neg hok,if_neg (show ¬ (0 ≤ (m:Int)∧(m:Int) < nodes.length∧okU nodes (m + 1)=true) from fun h=>hok h.2.2)];rfl
 have hi':=inB_false.1 (Bool.eq_false_iff.2 hi)
 simp only [Bool.eq_false_iff.2 hi,Bool.not_false,if_true]
 rw [if_neg (show ¬ (0 ≤ k∧k < nodes.length∧okU nodes (k.toNat + 1)=true) from fun h=>hi' ⟨h.1,by omega⟩)]
def vG (nodes:List GNode) (k:Int):Int:=if 0 ≤ k∧k < nodes.length∧okU nodes (k.toNat + 1)=true then rD nodes k.toNat else 0
theorem mK (nodes:List GNode) (hn:nodes.length ≤ 1048576) (k:Int):mD nodes k=some (vG nodes k):=by
 unfold mD vG
 rw [aA1 nodes hn]
 by_cases h:0 ≤ k∧k < nodes.length∧okU nodes (k.toNat + 1)=true
 ·rw [if_pos h,if_pos h]
  have hlt:k.toNat < (kP nodes (k.toNat + 1)).length:=by rw [iG];omega
  simp only [Option.bind_some,Bool.not_true,Bool.false_eq_true,if_false]
  rw [gV h.1 (by rw [iG];omega)]
  have:=nC nodes (k.toNat + 1) k.toNat (by omega)
  rw [List.getElem?_eq_getElem hlt] at this
  simp only [Option.bind_some]
  exact this
 rw [if_neg h,if_neg h];rfl
def lR (nodes:List GNode) (n:Nat):List Int:=(List.range n).map fun j=>if okU nodes (j + 1)=true then rD nodes j else 0
theorem vV (nodes:List GNode) (n:Nat):(lR nodes n).length=n:=by simp [lR]
theorem sP (nodes:List GNode) {n j:Nat} (h:j < n):(lR nodes n)[j]? = some (if okU nodes (j + 1)=true then rD nodes j else 0):=by
 unfold lR
 rw [List.getElem?_map,List.getElem?_range h];rfl
theorem aCb {nodes:List GNode} {n:Nat} (h:okU nodes n=true):lR nodes n=kP nodes n:=by
 apply List.ext_getElem?
 intro j
 by_cases hj:j < n
 ·rw [sP nodes hj,nC nodes n j hj,if_pos (mI (by omega) h)]
 rw [List.getElem?_eq_none (by rw [vV];omega),List.getElem?_eq_none (by rw [iG];omega)]
theorem aG7 (nodes:List GNode) (k:Nat) (hk:k < nodes.length) (hok:okU nodes k=true) (hn:pG nodes k=true):aJ (dR nodes (kP nodes k) k) (1,0)=some (rD nodes k):=by
 have hx:nodes[k]? = some nodes[k]:=List.getElem?_eq_getElem hk
 generalize hgx:nodes[k]=x at *
 have hkl:=mT hn hx
 have hkb:=mA hn hx
 have hg:∀ kid ∈ x.Kids,(kP nodes k).getD kid.toNat 0=rD nodes kid.toNat:=fun kid hm=>by
  have:=hkb kid hm
  rw [List.getD_eq_getElem?_getD,nC nodes k kid.toNat (by omega)];rfl
 have hgk:aY nodes (k:Int)=some x:=by rw [bJ hk,hgx]
 have:=qA x.Kids (fun (d:Int) j=>(d,(j:Int))) (fun j d=>0 < d) (fun d kid=>.inl (mx d ((kP nodes k).getD kid.toNat 0 + 1))) id (dR nodes (kP nodes k) k) (fun d j hj hpos=>by
  left
  have hm:=List.getElem_mem hj
  have hb:=hkb _ hm
  have hd:=tO hok (show x.Kids[j].toNat < k by omega)
  have hp:=pA nodes x.Kids[j].toNat
  refine ⟨_,rfl,?_,by unfold mx;split<;>omega⟩
  have hlt:x.Kids[j].toNat < (kP nodes k).length:=by rw [iG];omega
  have hge:(kP nodes k)[x.Kids[j].toNat]=rD nodes x.Kids[j].toNat:=by
   have:=nC nodes k x.Kids[j].toNat (by omega)
   rw [List.getElem?_eq_getElem hlt] at this
   exact Option.some.inj this
  have hp0:decide (d > 0)=true:=by simpa using hpos
  have hgi:aY (kP nodes k) x.Kids[j]=some (rD nodes x.Kids[j].toNat):=by rw [gV hb.1 (by rw [iG];omega),hge]
  simp only [dR,hp0,if_true,hgk,Option.bind_some,aF hj,bJ hj,hgi,w64 (n:=rD nodes x.Kids[j].toNat + 1) (by omega) (by omega),dJ hj (by omega),hg _ hm]
  unfold mx
  by_cases hgt:rD nodes x.Kids[j].toNat + 1 > d
  ·rw [if_pos (by simpa using hgt),if_pos hgt]
  ·rw [if_neg (by simpa using hgt),if_neg hgt]) (fun d hd=>by
  have hp0:decide (d > 0)=true:=by simpa using hd
  simp [dR,hp0,hgk]) 1 (by omega)
 rw [qE] at this
 unfold rD aEa
 rw [hx]
 exact this
theorem uJ (nodes:List GNode) (hn:nodes.length ≤ 1048576) (k:Nat) (hk:k < nodes.length):jO nodes k=some (lR nodes (k + 1)):=by
 unfold jO
 obtain ⟨r,h1,h2⟩:=jJ (f:=iA nodes k) (fun s:List Int × Int=>∃ i:Nat,s.2=i∧i ≤ k + 1∧s.1=lR nodes i) (fun s=>k + 1 - s.2.toNat) (fun r=>r=lR nodes (k + 1)) (by
  rintro ⟨out,i⟩ ⟨i,rfl,hle,ho⟩
  simp only at ho hle
  subst ho
  by_cases hlt:i ≤ k
  ·left
   have hd:decide ((i:Int) ≤ (k:Int))=true:=by simp only [decide_eq_true_eq];omega
   have hil:i < nodes.length:=by omega
   have hd2:decide ((i:Int) < (nodes.length:Int))=true:=by simp only [decide_eq_true_eq];omega
   have h0:decide ((0:Int) ≤ (i:Int))=true:=by simp
   refine ⟨(lR nodes (i + 1),((i + 1:Nat):Int)),?_,⟨i + 1,rfl,by omega,rfl⟩,by simp only [Int.toNat_natCast];omega⟩
   simp only [iA,hd,hd2,if_true,zQ nodes hn,Option.bind_some,Int.toNat_natCast,h0,Bool.true_and]
   -- is it right so far?
   have hflag:(if (!(pG nodes i))=true then some true else if (decide ((i:Int) > 0))=true then (aY (lR nodes i) (IntKind.wrap .i64 ((i:Int) - 1))).bind fun e32=>some (e32 == 0) else some false)=some (!(pG nodes i && okU nodes i)):=by
    cases hnb:pG nodes i with
    | false=>rfl
    | true =>
     simp only [Bool.not_true,Bool.false_eq_true,if_false,Bool.true_and]
     by_cases hz:i=0
     ·subst hz;rfl
     have hp:decide ((i:Int) > 0)=true:=by simp only [decide_eq_true_eq];omega
     have hw:IntKind.wrap .i64 ((i:Int) - 1)=((i - 1:Nat):Int):=by rw [w64 (by omega) (by omega)];omega
     rw [if_pos hp,hw,oY,sP nodes (show i - 1 < i by omega),show i - 1 + 1=i by omega]
     simp only [Option.bind_some]
     cases hok:okU nodes i with
     | true =>
      have:=pA nodes (i - 1)
      have hne:¬ rD nodes (i - 1)=0:=by omega
      simp [hne]
     | false=>simp
   rw [hflag]
   simp only [Option.bind_some]
   have hfin:(Option.bind (if (!(pG nodes i && okU nodes i))=true then some 0 else some (1:Int)) fun deep36=>Option.bind (aJ (dR nodes (lR nodes i) i) (deep36,0)) fun deep62=>Option.bind (if (decide (deep62 > 10))=true then some 0 else some deep62) fun deep68=>(bW 8 (lR nodes i) [deep68]).bind fun l69=>some l69)=some (lR nodes (i + 1)):=by
    have hsucc:lR nodes (i + 1)=lR nodes i ++ [if okU nodes (i + 1)=true then rD nodes i else 0]:=by
     unfold lR;rw [List.range_succ,List.map_append];rfl
    have happ:∀ z:Int,bW 8 (lR nodes i) [z]=some (lR nodes i ++ [z]):=fun z=>app1 (by rw [vV];omega) (by omega)
    cases hb:(pG nodes i && okU nodes i) with
    | true =>
     simp only [Bool.and_eq_true] at hb
     simp only [Bool.not_true,Bool.false_eq_true,if_false,Option.bind_some]
     rw [aCb hb.2,aG7 nodes i hil hb.2 hb.1,← aCb hb.2]
     simp only [Option.bind_some]
     rw [hsucc]
     by_cases hd10:rD nodes i > 10
     ·have hf:okU nodes (i + 1)=false:=by
       rw [Bool.eq_false_iff]
       intro h
       have:=(tO h (Nat.lt_succ_self i)).2
       omega
      rw [if_pos (by simpa using hd10),hf]
      simp only [Option.bind_some,happ,Bool.false_eq_true,if_false]
     have hf:okU nodes (i + 1)=true:=by
      simp only [okU,hb.1,hb.2,Bool.true_and,decide_eq_true_eq]
      show rD nodes i ≤ 10
      omega
     rw [if_neg (by simpa using hd10),hf]
     simp only [Option.bind_some,happ,if_true]
    | false =>
     have hf:okU nodes (i + 1)=false:=by
      rw [Bool.eq_false_iff]
      intro h
      simp only [okU,Bool.and_eq_true] at h
      rw [h.1,h.2.1] at hb
      cases hb
     simp only [Bool.not_false,if_true,Option.bind_some]
     rw [jK (r:=(0:Int)) (by simp [dR])]
     simp only [Option.bind_some]
     rw [hsucc,hf]
     simp [happ]
   have:=congrArg (fun z=>Option.bind z fun out70:List Int=>(some (Sum.inl (out70,IntKind.wrap .i64 ((i:Int) + 1))):Option ((List Int × Int) ⊕ List Int))) hfin
   simp only [Option.bind_some,dJ hil hn] at this
   rw [dJ hil hn]
   exact this
  right
  have:i=k + 1:=by omega
  subst this
  have hd:decide (((k + 1:Nat):Int) ≤ (k:Int))=false:=by simp only [decide_eq_false_iff_not];omega
  exact ⟨_,by simp only [iA,hd,Bool.false_eq_true,if_false,Option.bind_some],rfl⟩) ([],0) ⟨0,rfl,by omega,rfl⟩
 rw [h1,h2]
 rfl
theorem zV (nodes:List GNode) (hn:nodes.length ≤ 1048576) (k:Int):nU nodes k=some (vG nodes k):=by
 unfold nU vG
 simp only [gF,Option.bind_some,iO hn]
 by_cases hi:inB k 0 ((nodes.length:Int) - 1)=true
 ·have hi':=inB_iff.1 hi
  have hkk:k=((k.toNat:Nat):Int):=by omega
  have hk:k.toNat < nodes.length:=by omega
  generalize k.toNat=m at *
  subst hkk
  simp only [hi,Bool.not_true,Bool.false_eq_true,if_false]
  rw [uJ nodes hn m hk]
  simp only [Option.bind_some,oY]
  rw [sP nodes (Nat.lt_succ_self m)]
  by_cases hok:okU nodes (m + 1)=true
  ·rw [if_pos hok,if_pos (show 0 ≤ (m:Int)∧(m:Int) < nodes.length∧okU nodes (m + 1)=true from ⟨by omega,by omega,hok⟩)];rfl
  rw [if_neg hok,if_neg (show ¬ (0 ≤ (m:Int)∧(m:Int) < nodes.length∧okU nodes (m + 1)=true) from fun h=>hok h.2.2)];rfl
 have hi':=inB_false.1 (Bool.eq_false_iff.2 hi)
 simp only [Bool.eq_false_iff.2 hi,Bool.not_false,if_true]
 rw [if_neg (show ¬ (0 ≤ k∧k < nodes.length∧okU nodes (k.toNat + 1)=true) from fun h=>hi' ⟨h.1,by omega⟩)]
end Go.OM
namespace Go.OM
theorem wQ (p:GProgram):∀ (f k:Nat),okU p.Nodes (k + 1)=true→rD p.Nodes k ≤ f→∃ (n:Int) (b:Bool),iE f p k=some (n,b)∧gC f p.Nodes k=some (n,b)∧0 ≤ n∧n ≤ 1000000000∧(b=true→∃ x,p.Nodes[k]? = some x∧(x.Kind=1 ∨ (9 ≤ x.Kind∧x.Kind ≤ 11)))
 | 0,k,hok,hd=>by have:=pA p.Nodes k;omega
 | f + 1,k,hok,hd=>by
  obtain ⟨hnb,_⟩:=tO hok (Nat.lt_succ_self k)
  obtain ⟨hk,h1,h2,h3,h4,h5⟩:=uS hnb
  have hx:p.Nodes[k]? = some p.Nodes[k]:=List.getElem?_eq_getElem hk
  have hg:aY p.Nodes (k:Int)=some p.Nodes[k]:=bJ hk
  show ∃ (n:Int) (b:Bool),kG (iE f) p k=some (n,b)∧iV (gC f) p.Nodes k=some (n,b)∧_
  have hkid:=fun kid hm=>aK4 (kid:=kid) hnb hx hm
  have hkb:=mA hnb hx
  generalize hxe:p.Nodes[k]=x at *
  unfold kG iV
  rw [hg]
  simp only [Option.bind_some]
  by_cases hk1:x.Kind=1
  ·have e:(x.Kind == 1)=true:=by simpa using hk1
   refine ⟨x.Num,true,by rw [if_pos e],by rw [if_pos e],?_⟩
   unfold aHz at h4
   rw [if_pos hk1] at h4
   have:=inB_iff.1 h4
   exact ⟨this.1,this.2,fun _=>⟨x,hx,.inl hk1⟩⟩
  have e:¬ (x.Kind == 1)=true:=by simpa using hk1
  rw [if_neg e,if_neg e]
  simp only [dX,Option.bind_some]
  by_cases hr:9 ≤ x.Kind∧x.Kind ≤ 11
  ·have hin:inB x.Kind 9 11=true:=inB_iff.2 hr
   have hsh:nV x.Kind=(2,2):=by
    have:x.Kind=9 ∨ x.Kind=10 ∨ x.Kind=11:=by omega
    rcases this with h | h | h<;>rw [h]<;>rfl
   rw [hsh] at h2
   have hlen:=inB_iff.1 h2
   have hl2:x.Kids.length=2:=by omega
   have h0l:0 < x.Kids.length:=by omega
   have h1l:1 < x.Kids.length:=by omega
   have m0:=List.getElem_mem h0l
   have m1:=List.getElem_mem h1l
   have b0:=hkb _ m0
   have b1:=hkb _ m1
   have d0:=hkid _ m0
   have d1:=hkid _ m1
   have c0:((x.Kids[0].toNat:Nat):Int)=x.Kids[0]:=by omega
   have c1:((x.Kids[1].toNat:Nat):Int)=x.Kids[1]:=by omega
   obtain ⟨n0,t0,i0,s0,l0,u0,_⟩:=wQ p f x.Kids[0].toNat (mI (by omega) hok) (by omega)
   obtain ⟨n1,t1,i1,s1,l1,u1,_⟩:=wQ p f x.Kids[1].toNat (mI (by omega) hok) (by omega)
   rw [c0] at i0 s0
   rw [c1] at i1 s1
   have g0:aY x.Kids 0=some x.Kids[0]:=by rw [aI8,List.getElem?_eq_getElem h0l]
   have g1:aY x.Kids 1=some x.Kids[1]:=bJ (k:=1) h1l
   have hsel:(if (x.Kind == 9)=true then some (x.Kind == 9) else if (x.Kind == 10)=true then some (x.Kind == 10) else some (x.Kind == 11))=some true:=by
    have:x.Kind=9 ∨ x.Kind=10 ∨ x.Kind=11:=by omega
    rcases this with h | h | h<;>rw [h]<;>rfl
   rw [hsel]
   simp only [hin,Bool.not_true,Bool.false_eq_true,if_false,g0,g1,Option.bind_some,i0,i1,s0,s1,if_true]
   have hw:IntKind.wrap .i64 (n0 + n1)=n0 + n1:=w64 (by omega) (by omega)
   have hx':∃ y,p.Nodes[k]? = some y∧(y.Kind=1 ∨ (9 ≤ y.Kind∧y.Kind ≤ 11)):=⟨x,hx,.inr hr⟩
   cases t0 with
   | false=>exact ⟨0,false,rfl,rfl,by omega,by omega,fun h=>by cases h⟩
   | true =>
    cases t1 with
    | false=>exact ⟨0,false,rfl,rfl,by omega,by omega,fun h=>by cases h⟩
    | true =>
     simp only [Bool.not_true,Bool.false_eq_true,if_false,Option.bind_some,hw]
     by_cases h9:x.Kind=9
     ·have e9:(x.Kind == 9)=true:=by simpa using h9
      rw [if_pos e9,if_pos e9]
      simp only [Option.bind_some]
      by_cases hbig:n0 + n1 > 1000000000
      ·rw [if_pos (by simpa using hbig)]
       exact ⟨0,false,rfl,rfl,by omega,by omega,fun h=>by cases h⟩
      rw [if_neg (by simpa using hbig)]
      exact ⟨n0 + n1,true,rfl,rfl,by omega,by omega,fun _=>hx'⟩
     have e9:¬ (x.Kind == 9)=true:=by simpa using h9
     rw [if_neg e9,if_neg e9]
     unfold vB
     by_cases h10:x.Kind=10
     ·have e10:(x.Kind == 10)=true:=by simpa using h10
      simp only [e10,if_true]
      by_cases hlt:n0 < n1
      ·have el:decide (n0 < n1)=true:=by simpa using hlt
       exact ⟨1,true,by simp [el],by simp [el],by omega,by omega,fun _=>hx'⟩
      have el:decide (n0 < n1)=false:=by simpa using hlt
      exact ⟨0,true,by simp [el],by simp [el],by omega,by omega,fun _=>hx'⟩
     have h11:x.Kind=11:=by omega
     have e10:(x.Kind == 10)=false:=by simpa using h10
     have e11:(x.Kind == 11)=true:=by simpa using h11
     simp only [e10,e11,Bool.false_eq_true,if_false,if_true]
     by_cases heq:n0=n1
     ·have el:(n0 == n1)=true:=by simpa using heq
      exact ⟨1,true,by simp [el],by simp [el],by omega,by omega,fun _=>hx'⟩
     have el:(n0 == n1)=false:=by simpa using heq
     exact ⟨0,true,by simp [el],by simp [el],by omega,by omega,fun _=>hx'⟩
  have hin:inB x.Kind 9 11=false:=inB_false.2 hr
  have n9:(x.Kind == 9)=false:=by simp;omega
  have n10:(x.Kind == 10)=false:=by simp;omega
  have n11:(x.Kind == 11)=false:=by simp;omega
  exact ⟨0,false,by simp [hin],by simp [n9,n10,n11],by omega,by omega,fun h=>by cases h⟩
theorem vZ:bV=1048576:=rfl
theorem pB (p:GProgram) (k:Nat) (hok:okU p.Nodes (k + 1)=true):∃ (n:Int) (b:Bool),oX p k=some (n,b)∧kU p.Nodes k=some (n,b)∧0 ≤ n∧n ≤ 1000000000∧(b=true→∃ x,p.Nodes[k]? = some x∧(x.Kind=1 ∨ (9 ≤ x.Kind∧x.Kind ≤ 11))) :=
 wQ p bV k hok (by
  have:=(tO hok (Nat.lt_succ_self k)).2
  rw [vZ];omega)
theorem aGy {nodes:List GNode} {k:Int} (h:vG nodes k ≠ 0):0 ≤ k∧k < nodes.length∧okU nodes (k.toNat + 1)=true:=by
 unfold vG at h
 split at h
 ·assumption
 exact absurd rfl h
theorem xE (p:GProgram) (hn:p.Nodes.length ≤ 1048576) (k:Int):∃ (n:Int) (b:Bool),eN p k=some (n,b)∧kR p k=some (n,b)∧(b=true→0 ≤ k∧k < p.Nodes.length∧∃ x,p.Nodes[k.toNat]? = some x∧(x.Kind=1 ∨ (9 ≤ x.Kind∧x.Kind ≤ 11))):=by
 unfold eN kR
 rw [mK _ hn,zV _ hn]
 simp only [Option.bind_some]
 by_cases hz:vG p.Nodes k=0
 ·exact ⟨0,false,by rw [hz];rfl,by rw [hz];rfl,fun h=>by cases h⟩
 obtain ⟨h0,h1,h2⟩:=aGy hz
 have e:¬ (vG p.Nodes k == 0)=true:=by simpa using hz
 obtain ⟨n,b,g1,g2,_,_,g3⟩:=pB p k.toNat h2
 have hk:((k.toNat:Nat):Int)=k:=by omega
 rw [hk] at g1 g2
 refine ⟨n,b,?_,?_,fun hb=>⟨h0,h1,g3 hb⟩⟩
 ·rw [if_neg e,g1];rfl
 rw [if_neg e,g2];rfl
theorem aBv (p:GProgram) (hn:p.Nodes.length ≤ 1048576) (k:Int):∃ b:Bool,eB p k=some b∧lB p k=some b:=by
 obtain ⟨n,b,v1,v2,v3⟩:=xE p hn k
 unfold eB lB
 rw [v1,v2]
 simp only [Option.bind_some]
 cases b with
 | false=>exact ⟨false,rfl,rfl⟩
 | true =>
  obtain ⟨h0,h1,x,hx,hkd⟩:=v3 rfl
  have hlt:k.toNat < p.Nodes.length:=by omega
  rw [List.getElem?_eq_getElem hlt] at hx
  have hx':=Option.some.inj hx
  rw [gV h0 h1,hx']
  simp only [if_true,Option.bind_some,dX]
  rcases hkd with hkd | hkd
  ·exact ⟨false,by simp [hkd,inB],by simp [hkd]⟩
  have:inB x.Kind 9 11=true:=inB_iff.2 hkd
  exact ⟨true,by simp [this],by simp;omega⟩
end Go.OM
namespace Go.OM
def yQ (x:GParam):Bool:=tD x.Name && inB x.Typ 1 4
def aEc (p:GProgram) (f:GFn):Bool:=inB f.Body 0 ((p.Nodes.length:Int) - 1) && (match p.Nodes[f.Body.toNat]? with | some x=>x.Kind == 20 | none=>false)
def retB (p:GProgram) (f:GFn):Bool:=if f.Res=0 then f.Ret == -1 else inB f.Ret 0 ((p.Nodes.length:Int) - 1) && (match p.Nodes[f.Ret.toNat]? with | some x=>yB x.Kind | none=>false)
def fnB (p:GProgram) (f:GFn):Bool:=tD f.Name && (!decide ((f.Params.length:Int) > 3) && (inB f.Res 0 2 && (f.Params.all yQ && (aEc p f && retB p f))))
theorem bodyB_iff {p:GProgram} {f:GFn}:aEc p f=true ↔ 0 ≤ f.Body∧f.Body < p.Nodes.length∧∃ x,p.Nodes[f.Body.toNat]? = some x∧x.Kind=20:=by
 unfold aEc
 rw [Bool.and_eq_true,inB_iff]
 constructor
 ·rintro ⟨⟨h1,h2⟩,h3⟩
  refine ⟨h1,by omega,?_⟩
  split at h3
  ·rename_i x hx;exact ⟨x,hx,by simpa using h3⟩
  cases h3
 rintro ⟨h1,h2,x,hx,hk⟩
 refine ⟨⟨h1,by omega⟩,?_⟩
 rw [hx];simpa using hk
theorem aDd (p:GProgram) (f:GFn) (hn:p.Nodes.length ≤ 1048576) (g:Bool→Option Bool):(Option.bind (if (!(inB f.Body 0 ((p.Nodes.length:Int) - 1)))=true then some true else (aY p.Nodes f.Body).bind fun e=>some (e.Kind != 20)) fun v=>g v)=g (!(aEc p f)):=by
 unfold aEc
 cases h:inB f.Body 0 ((p.Nodes.length:Int) - 1) with
 | false=>rfl
 | true =>
  have h':=inB_iff.1 h
  have hlt:f.Body.toNat < p.Nodes.length:=by omega
  rw [gV h'.1 (by omega),List.getElem?_eq_getElem hlt]
  rfl
theorem aEv (p:GProgram) (f:GFn) (hn:p.Nodes.length ≤ 1048576):(if (f.Res == 0)=true then some (f.Ret == (-1)) else Option.bind (if inB f.Ret 0 ((p.Nodes.length:Int) - 1)=true then (aY p.Nodes f.Ret).bind fun e=>some (yB e.Kind) else some false) fun v=>some v)=some (retB p f):=by
 unfold retB
 by_cases h0:f.Res=0
 ·rw [if_pos (by simpa using h0),if_pos h0]
 rw [if_neg (by simpa using h0),if_neg h0]
 cases h:inB f.Ret 0 ((p.Nodes.length:Int) - 1) with
 | false=>rfl
 | true =>
  have h':=inB_iff.1 h
  have hlt:f.Ret.toNat < p.Nodes.length:=by omega
  rw [gV h'.1 (by omega),List.getElem?_eq_getElem hlt]
  rfl
theorem aCy (p:GProgram) (f:GFn) (hn:p.Nodes.length ≤ 1048576):rX p f=some (fnB p f):=by
 unfold rX fnB
 simp only [pJ,dX,rW,Option.bind_some,iO hn]
 cases hnm:tD f.Name with
 | false=>rfl
 | true =>
  simp only [Bool.not_true,Bool.false_eq_true,if_false,Bool.true_and]
  by_cases hp3:(f.Params.length:Int) > 3
  ·rw [if_pos (by simpa using hp3),decide_eq_true hp3];rfl
  rw [if_neg (by simpa using hp3),decide_eq_false hp3]
  simp only [Bool.not_false,Bool.true_and]
  have hres:(if (f.Res != 0)=true then if (f.Res != 1)=true then some (f.Res != 2) else some false else some false)=some (!(inB f.Res 0 2)):=by
   by_cases h0:f.Res=0
   ·rw [h0];rfl
   by_cases h1:f.Res=1
   ·rw [h1];rfl
   by_cases h2:f.Res=2
   ·rw [h2];rfl
   have:inB f.Res 0 2=false:=inB_false.2 (by omega)
   simp [this,h0,h1,h2]
  rw [hres]
  cases hin:inB f.Res 0 2 with
  | false=>rfl
  | true =>
   simp only [Option.bind_some,Bool.not_true,Bool.false_eq_true,if_false,Bool.true_and]
   rw [nZ f.Params yQ (mY f) (fun k hk=>by
    simp only [mY,aF hk,if_true,bJ hk,Option.bind_some,pJ,dX,dJ hk (by omega)]
    unfold yQ
    cases tD f.Params[k].Name
    ·rfl
    cases inB f.Params[k].Typ 1 4<;>rfl) (by simp [mY])]
   cases f.Params.all yQ with
   | false=>rfl
   | true =>
    simp only [if_true,Option.bind_some,Bool.true_and]
    rw [aDd p f hn]
    cases aEc p f with
    | false=>rfl
    | true =>
     simp only [Bool.not_true,Bool.false_eq_true,if_false,Bool.true_and]
     exact aEv p f hn
def aGt (p:GProgram) (nm:ByteArray) (k:Nat):Option Int:=match p.Fns[k]? with
 | some f=>if sEq f.Name nm=true then some (k:Int) else none
 | none=>none
def rZ (p:GProgram) (nm:ByteArray):Int:=((List.range p.Fns.length).findSome? (aGt p nm)).getD (-1)
theorem wZ (p:GProgram) (nm:ByteArray) (hp:p.Fns.length ≤ 1048576):rY p nm=some (rZ p nm):=by
 unfold rY rZ
 rw [aAj p.Fns.length (aGt p nm) (nB p nm) (fun k hk=>by
  simp only [nB,aF hk,if_true,bJ hk,Option.bind_some,dJ hk hp]
  unfold aGt
  rw [List.getElem?_eq_getElem hk]
  cases h:sEq p.Fns[k].Name nm<;>simp [h]) (by simp [nB])]
 cases (List.range p.Fns.length).findSome? (aGt p nm)<;>rfl
theorem aC9 (p:GProgram) (nm:ByteArray) (hp:p.Fns.length ≤ 1048576):uI p nm=some (rZ p nm):=wZ p nm hp
theorem aB0 (p:GProgram) (i:Nat) (hi:i < p.Fns.length) (hn:p.Nodes.length ≤ 1048576) (hp:p.Fns.length ≤ 1048576):pV p i=some (fnB p p.Fns[i] && rZ p p.Fns[i].Name == i):=by
 unfold pV fnB
 simp only [bJ hi,mH,gF,rA,aC9 p _ hp,Option.bind_some,iO hn]
 generalize p.Fns[i]=f
 cases hnm:tD f.Name with
 | false=>rfl
 | true =>
  simp only [Bool.not_true,Bool.false_eq_true,if_false,Bool.true_and]
  cases hat:rZ p f.Name == i with
  | false =>
   have:(rZ p f.Name != i)=true:=by simp only [bne,hat,Bool.not_false]
   rw [this,Bool.and_false];rfl
  | true =>
   have:(rZ p f.Name != i)=false:=by simp only [bne,hat,Bool.not_true]
   rw [this,Bool.and_true]
   simp only [Bool.false_eq_true,if_false]
   by_cases hp3:(f.Params.length:Int) > 3
   ·rw [if_pos (by simpa using hp3),decide_eq_true hp3];rfl
   rw [if_neg (by simpa using hp3),decide_eq_false hp3]
   simp only [Bool.not_false,Bool.true_and]
   cases hin:inB f.Res 0 2 with
   | false=>rfl
   | true =>
    simp only [Option.bind_some,Bool.not_true,Bool.false_eq_true,if_false,Bool.true_and]
    rw [nZ f.Params yQ (kZ f) (fun k hk=>by
     simp only [kZ,aF hk,if_true,bJ hk,Option.bind_some,mH,gF,dJ hk (by omega)]
     unfold yQ
     cases tD f.Params[k].Name
     ·rfl
     cases inB f.Params[k].Typ 1 4<;>rfl) (by simp [kZ])]
    cases f.Params.all yQ with
    | false=>rfl
    | true =>
     simp only [if_true,Option.bind_some,Bool.true_and]
     rw [aDd p f hn]
     cases aEc p f with
     | false=>rfl
     | true =>
      simp only [Bool.not_true,Bool.false_eq_true,if_false,Bool.true_and]
      exact aEv p f hn
def incs (d:Int) (l:List Int) (m:List Int):List Int:=l.foldl (fun m e=>m.set e.toNat (m.getD e.toNat 0 + d)) m
theorem aBl (d:Int):∀ (l m:List Int),(incs d l m).length=m.length
 | [],m=>rfl
 | e :: l,m=>by
  show (incs d l (m.set e.toNat (m.getD e.toNat 0 + d))).length=_
  rw [aBl d l];simp
theorem yW (d:Int) (a b m:List Int):incs d (a ++ b) m=incs d b (incs d a m):=by unfold incs;rw [List.foldl_append]
theorem aBm (d:Int) (k:Nat):∀ (l m:List Int),(∀ e ∈ l,0 ≤ e∧e < m.length)→(incs d l m).getD k 0=m.getD k 0 + d * (l.count (k:Int):Nat)
 | [],m,_=>by simp [incs]
 | e :: l,m,h=>by
  have he:=h e (by simp)
  have ih:=aBm d k l (m.set e.toNat (m.getD e.toNat 0 + d)) (fun x hx=>by rw [List.length_set];exact h x (by simp [hx]))
  show (incs d l (m.set e.toNat (m.getD e.toNat 0 + d))).getD k 0=_
  rw [ih,List.count_cons]
  by_cases hk:e.toNat=k
  ·have:(e == (k:Int))=true:=by simp only [beq_iff_eq];omega
   rw [if_pos this]
   have hg:(m.set e.toNat (m.getD e.toNat 0 + d)).getD k 0=m.getD k 0 + d:=by
    rw [List.getD_eq_getElem?_getD,List.getElem?_set,if_pos hk,if_pos (by omega),hk];rfl
   rw [hg,Int.natCast_add,Int.mul_add]
   simp only [Int.natCast_one,Int.mul_one]
   omega
  have:¬ (e == (k:Int))=true:=by simp only [beq_iff_eq];omega
  rw [if_neg this]
  have hg:(m.set e.toNat (m.getD e.toNat 0 + d)).getD k 0=m.getD k 0:=by
   rw [List.getD_eq_getElem?_getD,List.getElem?_set,if_neg hk,← List.getD_eq_getElem?_getD]
  rw [hg];rfl
structure Bd (n:Nat) (C:Int) (m:List Int):Prop where
 len:m.length=n
 bnd:∀ v ∈ m,0 ≤ v∧v ≤ C
theorem Bd.mono {n:Nat} {C C':Int} {m:List Int} (h:Bd n C m) (hc:C ≤ C'):Bd n C' m:=⟨h.len,fun v hv=>by have:=h.bnd v hv;omega⟩
theorem Bd.getD {n:Nat} {C:Int} {m:List Int} (h:Bd n C m) (hC:0 ≤ C) (k:Nat):0 ≤ m.getD k 0∧m.getD k 0 ≤ C:=by
 rw [List.getD_eq_getElem?_getD]
 cases hk:m[k]? with
 | none=>exact ⟨Int.le_refl 0,hC⟩
 | some v=>exact h.bnd v (List.mem_of_getElem? hk)
theorem Bd.set {n:Nat} {C d:Int} {m:List Int} (h:Bd n C m) (hC:0 ≤ C) (hd:0 ≤ d) (k:Nat):Bd n (C + d) (m.set k (m.getD k 0 + d)):=⟨by rw [List.length_set];exact h.len,fun v hv=>by
 rcases List.mem_or_eq_of_mem_set hv with h1 | h1
 ·have:=h.bnd v h1;omega
 have:=h.getD hC k;omega⟩
theorem Bd.incs {n:Nat} {d:Int} (hd:0 ≤ d):∀ (l:List Int) {C:Int} {m:List Int},0 ≤ C→Bd n C m→Bd n (C + d * l.length) (Go.OM.incs d l m)
 | [],C,m,hC,h=>by simpa [Go.OM.incs] using h
 | e :: l,C,m,hC,h=>by
  have:=Bd.incs hd l (C:=C + d) (by omega) (h.set hC hd e.toNat)
  refine this.mono ?_
  rw [List.length_cons,Int.natCast_add,Int.mul_add]
  simp only [Int.natCast_one,Int.mul_one]
  omega
theorem aFe {ρ:Type} (n:Nat) (kids:List Int) (hk:∀ e ∈ kids,0 ≤ e∧e < n) (C:Int) (hC:0 ≤ C) (f:List Int × Int→Option ((List Int × Int) ⊕ ρ)) (fin:List Int→ρ)
  (hf:∀ (m:List Int) (j:Nat) (hj:j < kids.length),Bd n (C + kids.length) m→f (m,j)=some (.inl (m.set kids[j].toNat (m.getD kids[j].toNat 0 + 1),((j + 1:Nat):Int))))
  (he:∀ m:List Int,f (m,kids.length)=some (.inr (fin m))) (m:List Int) (hm:Bd n C m):aJ f (m,0)=some (fin (incs 1 kids m)):=by
 have:=qA kids (fun (m:List Int) j=>(m,(j:Int))) (fun j m=>Bd n (C + j) m) (fun m e=>.inl (m.set e.toNat (m.getD e.toNat 0 + 1))) fin f (fun m j hj hI=>by
  left
  refine ⟨_,rfl,hf m j hj (hI.mono (by omega)),?_⟩
  have:=hI.set (by omega) (show (0:Int) ≤ 1 by omega) kids[j].toNat
  exact this.mono (by omega)) (fun m _=>he m) m (by simpa using hm)
 rw [qE] at this
 exact this
def aI4 (nodes:List GNode):List Int:=nodes.flatMap (·.Kids)
def kc (nodes:List GNode) (k:Nat):Nat:=(aI4 nodes).count (k:Int)
theorem uQ {nodes:List GNode} (h:okU nodes nodes.length=true) {x:GNode} (hx:x ∈ nodes):x.Kids.length ≤ 12∧(∀ e ∈ x.Kids,0 ≤ e∧e < nodes.length)∧x.Kids.Nodup:=by
 obtain ⟨i,hi,rfl⟩:=List.mem_iff_getElem.1 hx
 have hn:=(tO h hi).1
 have hg:nodes[i]? = some nodes[i]:=List.getElem?_eq_getElem hi
 refine ⟨mT hn hg,fun e he=>?_,?_⟩
 ·have:=mA hn hg e he;omega
 obtain ⟨_,_,_,h3,_⟩:=uS hn
 rw [List.nodup_iff_pairwise_ne,List.pairwise_iff_getElem]
 intro a b ha hb hab e
 refine (h3 b hb).2.1 ?_
 rw [← e]
 refine List.mem_iff_getElem.2 ⟨a,by simp only [List.length_take];omega,?_⟩
 rw [List.getElem_take]
theorem kc_le {nodes:List GNode} (h:okU nodes nodes.length=true) (k:Nat):kc nodes k ≤ nodes.length:=by
 have key:∀ l:List GNode,(∀ x ∈ l,x.Kids.Nodup)→(l.flatMap (·.Kids)).count (k:Int) ≤ l.length:=by
  intro l
  induction l with
  | nil=>intro _;simp
  | cons x l ih =>
   intro hl
   rw [List.flatMap_cons,List.count_append,List.length_cons]
   have h1:=ih fun y hy=>hl y (by simp [hy])
   have h2:=List.nodup_iff_count.1 (hl x (by simp)) (k:Int)
   omega
 exact key nodes fun x hx=>(uQ h hx).2.2
theorem aCu (nodes:List GNode) (hok:okU nodes nodes.length=true) (hn:nodes.length ≤ 300) (f:List Int × Int→Option ((List Int × Int) ⊕ List Int))
  (hf:∀ (m:List Int) (i:Nat) (hi:i < nodes.length),Bd nodes.length (12 * i) m→f (m,i)=some (.inl (incs 1 nodes[i].Kids m,((i + 1:Nat):Int))))
  (he:∀ m:List Int,f (m,nodes.length)=some (.inr m)):aJ f (List.replicate nodes.length 0,0)=some (incs 1 (aI4 nodes) (List.replicate nodes.length 0)):=by
 have:=qA nodes (fun (m:List Int) j=>(m,(j:Int))) (fun j m=>Bd nodes.length (12 * j) m) (fun m x=>.inl (incs 1 x.Kids m)) id f (fun m j hj hI=>by
  left
  refine ⟨_,rfl,hf m j hj hI,?_⟩
  have h12:=(uQ hok (List.getElem_mem hj)).1
  have:=Bd.incs (show (0:Int) ≤ 1 by omega) nodes[j].Kids (by omega) hI
  exact this.mono (by omega)) (fun m _=>he m) (List.replicate nodes.length 0) ⟨by simp,fun v hv=>by
   have:=(List.mem_replicate.1 hv).2
   omega⟩
 rw [qE] at this
 have e:∀ (l:List GNode) (m:List Int),l.foldl (fun m x=>incs 1 x.Kids m) m=incs 1 (l.flatMap (·.Kids)) m:=by
  intro l
  induction l with
  | nil=>intro m;rfl
  | cons x l ih=>intro m;rw [List.foldl_cons,List.flatMap_cons,yW,ih]
 rw [e] at this
 exact this
def aGf (nodes:List GNode):List Int:=incs 1 (aI4 nodes) (List.replicate nodes.length 0)
theorem uV (nodes:List GNode):(aGf nodes).length=nodes.length:=by unfold aGf;rw [aBl];simp
theorem sT {nodes:List GNode} (h:okU nodes nodes.length=true) (k:Nat):(aGf nodes).getD k 0=(kc nodes k:Nat):=by
 unfold aGf
 rw [aBm 1 k _ _ (fun e he=>by
  obtain ⟨x,hx,hm⟩:=List.mem_flatMap.1 he
  rw [List.length_replicate]
  exact (uQ h hx).2.1 e hm)]
 have:(List.replicate nodes.length (0:Int)).getD k 0=0:=by
  rw [List.getD_eq_getElem?_getD,List.getElem?_replicate];split<;>rfl
 rw [this]
 unfold kc
 omega
theorem aJu (p:GProgram) (hok:okU p.Nodes p.Nodes.length=true) (hn:p.Nodes.length ≤ 300):aJ (gL p) (List.replicate p.Nodes.length 0,0)=some (aGf p.Nodes):=by
 refine aCu p.Nodes hok hn _ (fun m i hi hI=>?_) (fun m=>by simp [gL])
 obtain ⟨h12,hb,_⟩:=uQ hok (List.getElem_mem hi)
 simp only [gL,aF hi,if_true,bJ hi,Option.bind_some]
 rw [aFe p.Nodes.length p.Nodes[i].Kids hb (12 * i) (by omega) (gK p.Nodes[i]) id (fun m j hj hm=>by
  have hbe:=hb _ (List.getElem_mem hj)
  have hg:=hm.getD (by omega) p.Nodes[i].Kids[j].toNat
  simp only [gK,aF hj,if_true,bJ hj,Option.bind_some]
  rw [gV hbe.1 (by rw [hm.len];exact hbe.2)]
  have hlt:p.Nodes[i].Kids[j].toNat < m.length:=by rw [hm.len];omega
  have e:m[p.Nodes[i].Kids[j].toNat]=m.getD p.Nodes[i].Kids[j].toNat 0:=by rw [List.getD_eq_getElem?_getD,List.getElem?_eq_getElem hlt];rfl
  rw [e]
  simp only [Option.bind_some,dI,w64 (n:=m.getD p.Nodes[i].Kids[j].toNat 0 + 1) (by omega) (by omega),dJ hj (show p.Nodes[i].Kids.length ≤ 1048576 by omega)]) (fun m=>by simp [gK]) m hI]
 simp only [Option.bind_some,id,dJ hi (show p.Nodes.length ≤ 1048576 by omega)]
theorem aJi (nodes:List GNode) (hok:okU nodes nodes.length=true) (hn:nodes.length ≤ 300):mN nodes=some (aGf nodes):=by
 unfold mN
 rw [aBe _ _ _ (by omega) (by omega)]
 simp only [Option.bind_some]
 rw [aCu nodes hok hn (iX nodes) (fun m i hi hI=>by
  obtain ⟨h12,hb,_⟩:=uQ hok (List.getElem_mem hi)
  simp only [iX,aF hi,if_true]
  rw [aFe nodes.length nodes[i].Kids hb (12 * i) (by omega) (iW nodes i) id (fun m j hj hm=>by
   have hbe:=hb _ (List.getElem_mem hj)
   have hg:=hm.getD (by omega) nodes[i].Kids[j].toNat
   simp only [iW,bJ hi,aF hj,if_true,bJ hj,Option.bind_some]
   rw [gV hbe.1 (by rw [hm.len];exact hbe.2)]
   have hlt:nodes[i].Kids[j].toNat < m.length:=by rw [hm.len];omega
   have e:m[nodes[i].Kids[j].toNat]=m.getD nodes[i].Kids[j].toNat 0:=by rw [List.getD_eq_getElem?_getD,List.getElem?_eq_getElem hlt];rfl
   rw [e]
   simp only [Option.bind_some,dI,w64 (n:=m.getD nodes[i].Kids[j].toNat 0 + 1) (by omega) (by omega),dJ hj (show nodes[i].Kids.length ≤ 1048576 by omega)]) (fun m=>by simp [iW,bJ hi]) m hI]
  simp only [Option.bind_some,id,dJ hi (show nodes.length ≤ 1048576 by omega)]) (fun m=>by simp [iX])]
 rfl
def nH (f:GFn):List Int:=if f.Ret < 0 then [f.Body] else [f.Body,f.Ret]
def tL (p:GProgram) (n:Nat):List Int:=(p.Fns.take n).flatMap nH
def nF (p:GProgram):List Int:=p.Fns.flatMap nH
theorem aA7 (p:GProgram):tL p p.Fns.length=nF p:=by unfold tL nF;rw [List.take_length]
theorem yI (p:GProgram) {n:Nat} (h:n < p.Fns.length):tL p (n + 1)=tL p n ++ nH p.Fns[n]:=by
 unfold tL
 rw [List.take_add_one,List.getElem?_eq_getElem h,List.flatMap_append];simp
def pK (p:GProgram) (i:Nat):Bool:=match p.Fns[i]? with
 | some f=>fnB p f && rZ p f.Name == i
 | none=>false
theorem xV {p:GProgram} {i:Nat} (h:i < p.Fns.length):pK p i=(fnB p p.Fns[i] && rZ p p.Fns[i].Name == i):=by unfold pK;rw [List.getElem?_eq_getElem h]
theorem zC {p:GProgram} {f:GFn} (h:fnB p f=true):(∀ e ∈ nH f,0 ≤ e∧e < p.Nodes.length)∧0 ≤ f.Body∧f.Body < p.Nodes.length∧f.Ret < p.Nodes.length:=by
 unfold fnB at h
 simp only [Bool.and_eq_true] at h
 obtain ⟨_,_,_,_,h5,h6⟩:=h
 obtain ⟨b1,b2,_⟩:=bodyB_iff.1 h5
 have hr:f.Ret < p.Nodes.length:=by
  unfold retB at h6
  split at h6
  ·simp only [beq_iff_eq] at h6;omega
  rw [Bool.and_eq_true,inB_iff] at h6;omega
 refine ⟨?_,b1,b2,hr⟩
 intro e he
 unfold nH at he
 split at he
 ·simp only [List.mem_singleton] at he;subst he;exact ⟨b1,b2⟩
 simp only [List.mem_cons,List.not_mem_nil,or_false] at he
 rcases he with rfl | rfl
 ·exact ⟨b1,b2⟩
 exact ⟨by omega,hr⟩
def oR:List Int→List Int→Option (List Int)
 | [],m=>some m
 | r :: rs,m=>if m.getD r.toNat 0=0 then oR rs (m.set r.toNat (-1)) else none
theorem rQ:∀ (a b m:List Int),oR (a ++ b) m=(oR a m).bind (oR b)
 | [],b,m=>rfl
 | r :: a,b,m=>by
  simp only [List.cons_append,oR]
  split
  ·exact rQ a b _
  rfl
theorem aAb (n:Nat):∀ (rs m:List Int),m.length=n→(∀ r ∈ rs,0 ≤ r∧r < n) →
  (match oR rs m with
   | some m'=>(rs.Nodup∧∀ r ∈ rs,m.getD r.toNat 0=0)∧m'.length=n∧∀ k:Nat,m'.getD k 0=if (k:Int) ∈ rs then -1 else m.getD k 0
   | none=>¬ (rs.Nodup∧∀ r ∈ rs,m.getD r.toNat 0=0))
 | [],m,hm,_=>by simp [oR,hm]
 | r :: rs,m,hm,h=>by
  have hr:=h r (by simp)
  simp only [oR]
  by_cases h0:m.getD r.toNat 0=0
  ·rw [if_pos h0]
   have ih:=aAb n rs (m.set r.toNat (-1)) (by rw [List.length_set];exact hm) (fun x hx=>h x (by simp [hx]))
   have hget:∀ k:Nat,(m.set r.toNat (-1)).getD k 0=if (k:Int)=r then -1 else m.getD k 0:=by
    intro k
    rw [List.getD_eq_getElem?_getD,List.getElem?_set]
    by_cases hk:r.toNat=k
    ·rw [if_pos hk,if_pos (by omega),if_pos (by omega)];rfl
    rw [if_neg hk,if_neg (by omega),← List.getD_eq_getElem?_getD]
   have hre:∀ x ∈ rs,((x.toNat:Nat):Int)=x:=fun x hx=>by have:=h x (by simp [hx]);omega
   split at ih
   ·rename_i m' hm'
    try rw [hm']
    obtain ⟨⟨i1,i2⟩,i3,i4⟩:=ih
    have hnr:r ∉ rs:=fun hm=>by
     have:=i2 r hm
     rw [hget,hre r hm,if_pos rfl] at this
     omega
    refine ⟨⟨List.nodup_cons.2 ⟨hnr,i1⟩,fun x hx=>?_⟩,i3,fun k=>?_⟩
    ·rcases List.mem_cons.1 hx with rfl | hx
     ·exact h0
     have:=i2 x hx
     rw [hget,hre x hx] at this
     split at this
     ·omega
     exact this
    rw [i4,hget]
    by_cases h1:(k:Int) ∈ rs
    ·rw [if_pos h1,if_pos (by simp [h1])]
    rw [if_neg h1]
    by_cases h2:(k:Int)=r
    ·rw [if_pos h2,if_pos (by simp [h2])]
    rw [if_neg h2,if_neg (by simp [h1,h2])]
   rename_i hm'
   try rw [hm']
   rintro ⟨j1,j2⟩
   rw [List.nodup_cons] at j1
   refine ih ⟨j1.2,fun x hx=>?_⟩
   rw [hget,hre x hx]
   have:¬ x=r:=fun e=>j1.1 (e ▸ hx)
   rw [if_neg this]
   exact j2 x (by simp [hx])
  rw [if_neg h0]
  rintro ⟨_,j2⟩
  exact h0 (j2 r (by simp))
def zP (n:Nat):Bool:=n == 1 || n == 1000
def uN (p:GProgram):Bool:=inB p.Nodes.length 1 300 && (inB p.Fns.length 1 8 && (okU p.Nodes p.Nodes.length && ((List.range p.Fns.length).all (pK p) && (List.range p.Nodes.length).all fun k=>zP (kc p.Nodes k + 1000 * (nF p).count (k:Int)))))
theorem aGz {nodes:List GNode} (h:1 ≤ nodes.length):(vG nodes ((nodes.length:Int) - 1) == 0) = !(okU nodes nodes.length):=by
 unfold vG
 have e:((nodes.length:Int) - 1).toNat=nodes.length - 1:=by omega
 rw [e,show nodes.length - 1 + 1=nodes.length by omega]
 cases hok:okU nodes nodes.length with
 | true =>
  rw [if_pos ⟨by omega,by omega,rfl⟩]
  have:=pA nodes (nodes.length - 1)
  have hne:¬ rD nodes (nodes.length - 1)=0:=by omega
  simp [hne]
 | false=>rw [if_neg (fun h=>by cases h.2.2)];rfl
theorem aGo (p:GProgram) (f:GFn) (hf:fnB p f=true) (m:List Int) (hm:m.length=p.Nodes.length):aJ (bD f) (m,0)=some (match oR (nH f) m with | some m'=>.inl m' | none=>.inr (.inr (.inr false))):=by
 obtain ⟨_,b0,b1,r1⟩:=zC hf
 have hl:(([f.Body,f.Ret]:List Int).length:Int)=2:=rfl
 have g0:aY [f.Body,f.Ret] 0=some f.Body:=rfl
 have g1:aY [f.Body,f.Ret] 1=some f.Ret:=rfl
 have d0:decide ((0:Int) < 2)=true:=rfl
 have d1:decide ((1:Int) < 2)=true:=rfl
 have d2:decide ((2:Int) < 2)=false:=rfl
 have w0:IntKind.wrap .i64 ((0:Int) + 1)=1:=rfl
 have w1:IntKind.wrap .i64 ((1:Int) + 1)=2:=rfl
 have hgd:∀ (m:List Int) (v:Int),m.length=p.Nodes.length→0 ≤ v→v < p.Nodes.length→aY m v=some (m.getD v.toNat 0):=fun m v hm h0 h1=>by
  have hlt:v.toNat < m.length:=by omega
  rw [gV h0 (by omega),List.getD_eq_getElem?_getD,List.getElem?_eq_getElem hlt];rfl
 have step1:∀ m:List Int,m.length=p.Nodes.length→aJ (bD f) (m,1)=some (match oR (if f.Ret < 0 then [] else [f.Ret]) m with | some m'=>.inl m' | none=>.inr (.inr (.inr false))):=by
  intro m hm
  by_cases hr:f.Ret < 0
  ·have:bD f (m,1)=some (.inl (m,2)):=by
    simp only [bD,hl,d1,if_true,g1,Option.bind_some,w1]
    rw [if_pos (by simpa using hr)]
   rw [nY this,if_pos hr,jK (r:=.inl m) (by simp only [bD,hl,d2,Bool.false_eq_true,if_false])]
   rfl
  rw [if_neg hr]
  simp only [oR]
  by_cases hz:m.getD f.Ret.toNat 0=0
  ·have:bD f (m,1)=some (.inl (m.set f.Ret.toNat (-1),2)):=by
    simp only [bD,hl,d1,if_true,g1,Option.bind_some,w1]
    rw [if_neg (by simpa using hr),hgd m f.Ret hm (by omega) r1]
    simp only [Option.bind_some,hz,dI]
    rfl
   rw [nY this,if_pos hz,jK (r:=.inl (m.set f.Ret.toNat (-1))) (by simp only [bD,hl,d2,Bool.false_eq_true,if_false])]
  have:bD f (m,1)=some (.inr (.inr (.inr (.inr false)))):=by
   simp only [bD,hl,d1,if_true,g1,Option.bind_some,w1]
   rw [if_neg (by simpa using hr),hgd m f.Ret hm (by omega) r1]
   simp only [Option.bind_some]
   rw [if_pos (by simpa using hz)]
  rw [jK this,if_neg hz]
 have hsplit:nH f=f.Body :: (if f.Ret < 0 then [] else [f.Ret]):=by unfold nH;split<;>rfl
 rw [hsplit]
 simp only [oR]
 have hb:¬ f.Body < 0:=by omega
 by_cases hz:m.getD f.Body.toNat 0=0
 ·have:bD f (m,0)=some (.inl (m.set f.Body.toNat (-1),1)):=by
   simp only [bD,hl,d0,if_true,g0,Option.bind_some,w0]
   rw [if_neg (by simpa using hb),hgd m f.Body hm b0 b1]
   simp only [Option.bind_some,hz,dI]
   rfl
  rw [nY this,if_pos hz,step1 _ (by rw [List.length_set];exact hm)]
 have:bD f (m,0)=some (.inr (.inr (.inr (.inr false)))):=by
  simp only [bD,hl,d0,if_true,g0,Option.bind_some,w0]
  rw [if_neg (by simpa using hb),hgd m f.Body hm b0 b1]
  simp only [Option.bind_some]
  rw [if_pos (by simpa using hz)]
 rw [jK this,if_neg hz]
theorem aCo:∀ (rs m:List Int) {m':List Int},oR rs m=some m'→m'.length=m.length
 | [],m,m',h=>by cases h;rfl
 | r :: rs,m,m',h=>by
  simp only [oR] at h
  split at h
  ·rw [aCo rs _ h];simp
  cases h
theorem aGp (p:GProgram) (hn:p.Nodes.length ≤ 300) (hp:p.Fns.length ≤ 8) (m0:List Int) (hm0:m0.length=p.Nodes.length):aJ (eU p) (m0,0)=some (if (List.range p.Fns.length).all (pK p)=true then (match oR (nF p) m0 with | some m=>.inl m | none=>.inr false) else .inr false):=by
 obtain ⟨r,h1,h2⟩:=jJ (f:=eU p) (fun s:List Int × Int=>∃ i:Nat,s.2=i∧i ≤ p.Fns.length∧(∀ j,j < i→pK p j=true)∧oR (tL p i) m0=some s.1) (fun s=>p.Fns.length - s.2.toNat) (fun r=>r=if (List.range p.Fns.length).all (pK p)=true then (match oR (nF p) m0 with | some m=>.inl m | none=>.inr false) else .inr false) (by
  rintro ⟨m,i⟩ ⟨i,rfl,hi,hg,hm⟩
  simp only at hm hi
  have hml:m.length=p.Nodes.length:=by rw [aCo _ _ hm];exact hm0
  by_cases hlt:i < p.Fns.length
  ·have hbad:(pK p i=false)→(List.range p.Fns.length).all (pK p)=false:=by
    intro hb
    rw [Bool.eq_false_iff]
    intro h
    rw [List.all_eq_true.1 h i (List.mem_range.2 hlt)] at hb
    cases hb
   have hgi:=xV hlt
   have hcond:(Option.bind (if (!(fnB p p.Fns[i]))=true then some true else some (rZ p p.Fns[i].Name != (i:Int))) fun v:Bool=>some v)=some (!(pK p i)):=by
    rw [hgi];cases fnB p p.Fns[i]<;>rfl
   have hcond2:(if (!(fnB p p.Fns[i]))=true then some true else some (rZ p p.Fns[i].Name != (i:Int)))=some (!(pK p i)):=by
    rw [hgi];cases fnB p p.Fns[i]<;>rfl
   simp only [eU,aF hlt,if_true,bJ hlt,Option.bind_some,aCy p _ (show p.Nodes.length ≤ 1048576 by omega),wZ p _ (show p.Fns.length ≤ 1048576 by omega),hcond2]
   cases hgb:pK p i with
   | false =>
    right
    refine ⟨.inr false,rfl,?_⟩
    rw [hbad hgb];rfl
   | true =>
    simp only [Bool.not_true,Bool.false_eq_true,if_false]
    have hfb:fnB p p.Fns[i]=true:=by rw [hgi,Bool.and_eq_true] at hgb;exact hgb.1
    rw [aGo p _ hfb m hml]
    simp only [Option.bind_some]
    have hsucc:oR (tL p (i + 1)) m0=oR (nH p.Fns[i]) m:=by
     rw [yI p hlt,rQ,hm];rfl
    cases hmr:oR (nH p.Fns[i]) m with
    | some m' =>
     left
     refine ⟨(m',((i + 1:Nat):Int)),by simp only [dJ hlt (show p.Fns.length ≤ 1048576 by omega)],⟨i + 1,rfl,by omega,fun j hj=>?_,by rw [hsucc];exact hmr⟩,by simp only [Int.toNat_natCast];omega⟩
     by_cases e:j=i
     ·subst e;exact hgb
     exact hg j (by omega)
    | none =>
     right
     refine ⟨.inr false,rfl,?_⟩
     have:oR (nF p) m0=none:=by
      have hsp:nF p=tL p (i + 1) ++ (p.Fns.drop (i + 1)).flatMap nH:=by
       unfold nF tL
       rw [← List.flatMap_append,List.take_append_drop]
      rw [hsp,rQ,hsucc,hmr];rfl
     rw [this];split<;>rfl
  right
  have:i=p.Fns.length:=by omega
  subst this
  refine ⟨.inl m,by simp [eU],?_⟩
  rw [if_pos (List.all_eq_true.2 fun j hj=>hg j (List.mem_range.1 hj)),← aA7,hm]) (m0,0) ⟨0,rfl,by omega,fun j hj=>by omega,rfl⟩
 rw [h1,h2]
theorem yL (n:Nat) (m:List Int) (q:Int→Bool) (hm:m.length=n):m.all q=(List.range n).all fun k=>q (m.getD k 0):=by
 rw [Bool.eq_iff_iff,List.all_eq_true,List.all_eq_true]
 constructor
 ·intro h k hk
  have hk':k < m.length:=by rw [hm];exact List.mem_range.1 hk
  rw [List.getD_eq_getElem?_getD,List.getElem?_eq_getElem hk']
  exact h _ (List.getElem_mem hk')
 intro h v hv
 obtain ⟨k,hk,rfl⟩:=List.mem_iff_getElem.1 hv
 have:=h k (List.mem_range.2 (by omega))
 rw [List.getD_eq_getElem?_getD,List.getElem?_eq_getElem hk] at this
 exact this
theorem aCc {p:GProgram} (h:(List.range p.Fns.length).all (pK p)=true):∀ e ∈ nF p,0 ≤ e∧e < p.Nodes.length:=by
 intro e he
 obtain ⟨f,hf,hm⟩:=List.mem_flatMap.1 he
 obtain ⟨i,hi,rfl⟩:=List.mem_iff_getElem.1 hf
 have:=List.all_eq_true.1 h i (List.mem_range.2 hi)
 rw [xV hi,Bool.and_eq_true] at this
 exact (zC this.1).1 e hm
theorem qD (p:GProgram) (hn:p.Nodes.length ≤ 1048576) (hp:p.Fns.length ≤ 1048576):iJ p=some (uN p):=by
 unfold iJ uN
 simp only [dX,Option.bind_some,iO hn,mK p.Nodes hn]
 cases h1:inB p.Nodes.length 1 300 with
 | false=>rfl
 | true =>
  have h1':=inB_iff.1 h1
  cases h2:inB p.Fns.length 1 8 with
  | false=>rfl
  | true =>
   have h2':=inB_iff.1 h2
   simp only [Bool.not_true,Bool.false_eq_true,if_false,Bool.true_and,Option.bind_some,aGz (show 1 ≤ p.Nodes.length by omega)]
   cases h3:okU p.Nodes p.Nodes.length with
   | false=>rfl
   | true =>
    simp only [Bool.not_true,Bool.false_eq_true,if_false,Bool.true_and]
    rw [aBe _ _ _ (by omega) (by omega)]
    simp only [Option.bind_some]
    rw [aJu p h3 (by omega)]
    simp only [Option.bind_some]
    rw [aGp p (by omega) (by omega) _ (uV _)]
    cases h4:(List.range p.Fns.length).all (pK p) with
    | false=>rfl
    | true =>
     simp only [if_true,Option.bind_some,Bool.true_and]
     have hb:=aCc h4
     have hsp:=aAb p.Nodes.length (nF p) (aGf p.Nodes) (uV _) hb
     have hmet:∀ r ∈ nF p,(aGf p.Nodes).getD r.toNat 0=(kc p.Nodes r.toNat:Nat):=fun r _=>sT h3 _
     cases hmr:oR (nF p) (aGf p.Nodes) with
     | none =>
      rw [hmr] at hsp
      simp only at hsp ⊢
      congr 1
      rw [eq_comm,Bool.eq_false_iff]
      intro hall
      rw [List.all_eq_true] at hall
      refine hsp ⟨List.nodup_iff_count.2 fun a=>?_,fun r hr=>?_⟩
      ·by_cases ha:a ∈ nF p
       ·have hab:=hb a ha
        have:=hall a.toNat (List.mem_range.2 (by omega))
        rw [show ((a.toNat:Nat):Int)=a by omega] at this
        simp only [zP,Bool.or_eq_true,beq_iff_eq] at this
        omega
       rw [List.count_eq_zero.2 ha];omega
      have hrb:=hb r hr
      have:=hall r.toNat (List.mem_range.2 (by omega))
      rw [show ((r.toNat:Nat):Int)=r by omega] at this
      simp only [zP,Bool.or_eq_true,beq_iff_eq] at this
      have hc:=List.count_pos_iff.2 hr
      rw [sT h3]
      omega
     | some m =>
      rw [hmr] at hsp
      obtain ⟨⟨s1,s2⟩,s3,s4⟩:=hsp
      simp only
      rw [nZ m (fun v=>v == 1 || v == -1) (gJ m) (fun k hk=>by
       simp only [gJ,aF hk,if_true,bJ hk,Option.bind_some,dJ hk (show m.length ≤ 1048576 by omega)]
       by_cases e1:m[k]=1
       ·simp [e1]
       by_cases e2:m[k] = -1<;>simp [e1,e2]) (by simp [gJ])]
      have hfin:m.all (fun v=>v == 1 || v == -1)=(List.range p.Nodes.length).all fun k=>zP (kc p.Nodes k + 1000 * (nF p).count (k:Int)):=by
       rw [yL p.Nodes.length m _ s3,Bool.eq_iff_iff,List.all_eq_true,List.all_eq_true]
       have each:∀ k,k < p.Nodes.length→((m.getD k 0 == 1 || m.getD k 0 == -1)=true ↔ zP (kc p.Nodes k + 1000 * (nF p).count (k:Int))=true):=by
        intro k hk
        have hkc:=kc_le h3 k
        rw [s4,sT h3]
        simp only [zP,Bool.or_eq_true,beq_iff_eq]
        by_cases hm:(k:Int) ∈ nF p
        ·rw [if_pos hm]
         have hc:=List.count_pos_iff.2 hm
         have hc1:=List.nodup_iff_count.1 s1 (k:Int)
         have:=s2 _ hm
         rw [Int.toNat_natCast,sT h3] at this
         omega
        rw [if_neg hm,List.count_eq_zero.2 hm]
        omega
       constructor
       ·intro h k hk;exact (each k (List.mem_range.1 hk)).1 (h k hk)
       intro h k hk;exact (each k (List.mem_range.1 hk)).2 (h k hk)
      rw [hfin]
      cases (List.range p.Nodes.length).all fun k=>zP (kc p.Nodes k + 1000 * (nF p).count (k:Int))<;>rfl
theorem aC8 (p:GProgram) (hn:p.Nodes.length ≤ 300) (hp:p.Fns.length ≤ 8) (C:Int) (hC:0 ≤ C) (hC2:C ≤ 1000000) (m:List Int) (hm:Bd p.Nodes.length C m) (i:Nat) (hi:i < p.Fns.length):dE p (m,i)=some (if pK p i=true then .inl (incs 1000 (nH p.Fns[i]) m,((i + 1:Nat):Int)) else .inr (.inr false)):=by
 simp only [dE,aF hi,if_true,aB0 p i hi (show p.Nodes.length ≤ 1048576 by omega) (show p.Fns.length ≤ 1048576 by omega),Option.bind_some,bJ hi]
 rw [← xV hi]
 cases hg:pK p i with
 | false=>rfl
 | true =>
  simp only [Bool.not_true,Bool.false_eq_true,if_false,if_true]
  have hfb:fnB p p.Fns[i]=true:=by rw [xV hi,Bool.and_eq_true] at hg;exact hg.1
  obtain ⟨_,b0,b1,r1⟩:=zC hfb
  generalize p.Fns[i]=f at *
  have hgd:∀ (m:List Int) (v:Int),m.length=p.Nodes.length→0 ≤ v→v < p.Nodes.length→aY m v=some (m.getD v.toNat 0):=fun m v hm h0 h1=>by
   have hlt:v.toNat < m.length:=by omega
   rw [gV h0 (by omega),List.getD_eq_getElem?_getD,List.getElem?_eq_getElem hlt];rfl
  have g0:=hm.getD hC f.Body.toNat
  have hm1:=hm.set hC (show (0:Int) ≤ 1000 by omega) f.Body.toNat
  have g1:=hm1.getD (by omega) f.Ret.toNat
  rw [hgd m f.Body hm.len b0 b1]
  simp only [Option.bind_some,dI,w64 (n:=m.getD f.Body.toNat 0 + 1000) (by omega) (by omega),dJ hi (show p.Fns.length ≤ 1048576 by omega)]
  unfold nH
  by_cases hr:f.Ret < 0
  ·have hr':¬ f.Ret ≥ 0:=by omega
   rw [if_neg (by simpa using hr'),if_pos hr]
   rfl
  have hr':f.Ret ≥ 0:=by omega
  rw [if_pos (by simpa using hr'),if_neg hr,hgd _ f.Ret hm1.len (by omega) r1]
  simp only [Option.bind_some,dI]
  rw [w64 (by omega) (by omega)]
  rfl
theorem aG6 (p:GProgram) (hn:p.Nodes.length ≤ 300) (hp:p.Fns.length ≤ 8) (m0:List Int) (C:Int) (hC:0 ≤ C) (hC2:C ≤ 10000) (hm0:Bd p.Nodes.length C m0):aJ (dE p) (m0,0)=some (if (List.range p.Fns.length).all (pK p)=true then .inl (incs 1000 (nF p) m0) else .inr false):=by
 obtain ⟨r,h1,h2⟩:=jJ (f:=dE p) (fun s:List Int × Int=>∃ i:Nat,s.2=i∧i ≤ p.Fns.length∧(∀ j,j < i→pK p j=true)∧s.1=incs 1000 (tL p i) m0∧Bd p.Nodes.length (C + 2000 * i) s.1) (fun s=>p.Fns.length - s.2.toNat) (fun r=>r=if (List.range p.Fns.length).all (pK p)=true then .inl (incs 1000 (nF p) m0) else .inr false) (by
  rintro ⟨m,i⟩ ⟨i,rfl,hi,hg,hm,hb⟩
  simp only at hm hi hb
  by_cases hlt:i < p.Fns.length
  ·have hst:=aC8 p hn hp (C + 2000 * i) (by omega) (by omega) m hb i hlt
   cases hgb:pK p i with
   | false =>
    right
    refine ⟨.inr false,by rw [hst,hgb];rfl,?_⟩
    have:(List.range p.Fns.length).all (pK p)=false:=by
     rw [Bool.eq_false_iff]
     intro h
     rw [List.all_eq_true.1 h i (List.mem_range.2 hlt)] at hgb
     cases hgb
    rw [this];rfl
   | true =>
    left
    refine ⟨_,by rw [hst,hgb,if_pos rfl],⟨i + 1,rfl,by omega,fun j hj=>?_,?_,?_⟩,by simp only [Int.toNat_natCast];omega⟩
    ·by_cases e:j=i
     ·subst e;exact hgb
     exact hg j (by omega)
    ·simp only
     rw [yI p hlt,yW,← hm]
    have:=Bd.incs (show (0:Int) ≤ 1000 by omega) (nH p.Fns[i]) (by omega) hb
    refine this.mono ?_
    have:(nH p.Fns[i]).length ≤ 2:=by unfold nH;split<;>simp
    omega
  right
  have:i=p.Fns.length:=by omega
  subst this
  refine ⟨.inl m,by simp [dE],?_⟩
  rw [if_pos (List.all_eq_true.2 fun j hj=>hg j (List.mem_range.1 hj)),← aA7,hm]) (m0,0) ⟨0,rfl,by omega,fun j hj=>by omega,rfl,hm0.mono (by omega)⟩
 rw [h1,h2]
theorem jR (p:GProgram) (hn:p.Nodes.length ≤ 1048576) (hp:p.Fns.length ≤ 1048576):fT p=some (uN p):=by
 unfold fT uN
 simp only [gF,Option.bind_some,iO hn]
 cases h1:inB p.Nodes.length 1 300 with
 | false=>rfl
 | true =>
  have h1':=inB_iff.1 h1
  cases h2:inB p.Fns.length 1 8 with
  | false=>rfl
  | true =>
   have h2':=inB_iff.1 h2
   have hc:((p.Nodes.length:Int) - 1)=((p.Nodes.length - 1:Nat):Int):=by omega
   simp only [Bool.not_true,Bool.false_eq_true,if_false,Bool.true_and,Option.bind_some]
   rw [hc,uJ p.Nodes hn _ (by omega)]
   simp only [Option.bind_some,vV]
   rw [show p.Nodes.length - 1 + 1=p.Nodes.length by omega,iO hn,hc,oY,sP p.Nodes (show p.Nodes.length - 1 < p.Nodes.length by omega),show p.Nodes.length - 1 + 1=p.Nodes.length by omega]
   simp only [Option.bind_some]
   cases h3:okU p.Nodes p.Nodes.length with
   | false=>rfl
   | true =>
    have hpos:=pA p.Nodes (p.Nodes.length - 1)
    have hne:¬ rD p.Nodes (p.Nodes.length - 1)=0:=by omega
    simp only [if_true,Bool.true_and]
    rw [if_neg (by simpa using hne),aJi p.Nodes h3 (by omega)]
    simp only [Option.bind_some]
    have hB:Bd p.Nodes.length 300 (aGf p.Nodes):=⟨uV _,fun v hv=>by
     obtain ⟨k,hk,rfl⟩:=List.mem_iff_getElem.1 hv
     have h:=sT h3 k
     rw [List.getD_eq_getElem?_getD,List.getElem?_eq_getElem hk,Option.getD_some] at h
     have:=kc_le h3 k
     omega⟩
    rw [aG6 p (by omega) (by omega) _ 300 (by omega) (by omega) hB]
    cases h4:(List.range p.Fns.length).all (pK p) with
    | false=>rfl
    | true =>
     simp only [if_true,Option.bind_some,Bool.true_and]
     have hb:=aCc h4
     have hl:(incs 1000 (nF p) (aGf p.Nodes)).length=p.Nodes.length:=by rw [aBl,uV]
     have hval:∀ k,(incs 1000 (nF p) (aGf p.Nodes)).getD k 0=((kc p.Nodes k + 1000 * (nF p).count (k:Int):Nat):Int):=by
      intro k
      rw [aBm 1000 k _ _ (fun e he=>by rw [uV];exact hb e he),sT h3]
      omega
     generalize hmm:incs 1000 (nF p) (aGf p.Nodes)=m at *
     rw [nZ m (fun v=>v == 1 || v == 1000) (eP m) (fun k hk=>by
      simp only [eP,aF hk,if_true,bJ hk,Option.bind_some,dJ hk (show m.length ≤ 1048576 by omega)]
      by_cases e1:m[k]=1
      ·simp [e1]
      by_cases e2:m[k]=1000<;>simp [e1,e2]) (by simp [eP])]
     have hfin:m.all (fun v=>v == 1 || v == 1000)=(List.range p.Nodes.length).all fun k=>zP (kc p.Nodes k + 1000 * (nF p).count (k:Int)):=by
      rw [yL p.Nodes.length m _ hl]
      congr 1
      funext k
      rw [hval,Bool.eq_iff_iff]
      simp only [zP,Bool.or_eq_true,beq_iff_eq]
      omega
     rw [hfin]
     cases (List.range p.Nodes.length).all fun k=>zP (kc p.Nodes k + 1000 * (nF p).count (k:Int))<;>rfl
end Go.OM
namespace Go.OM
theorem vL {α:Type} {n:Nat} {l:List α} (h:l.length ≤ 1048576) (hn:n ≤ 64):bW n [] l=some l:=aLd h hn
def NL (l:List GNode):Prop:=∀ x ∈ l,GNode.le 1048576 x
theorem aD9 (f:GFn) (h:f.Params.length ≤ 1048576):mC f=some f:=by
 unfold mC
 rw [vL h (by omega)]
 rfl
theorem aD7 {α ρ:Type} (l:List α) (hl:l.length ≤ 1048576) (f:List α × Int→Option ((List α × Int) ⊕ ρ)) (fin:List α→ρ)
  (hf:∀ (o:List α) (k:Nat) (hk:k < l.length),o.length=k→f (o,k)=some (.inl (o ++ [l[k]],((k + 1:Nat):Int)))) (he:∀ o:List α,f (o,l.length)=some (.inr (fin o))):aJ f ([],0)=some (fin l):=by
 obtain ⟨r,h1,h2⟩:=jJ (f:=f) (fun s:List α × Int=>∃ k:Nat,s.2=k∧k ≤ l.length∧s.1=l.take k) (fun s=>l.length - s.2.toNat) (fun r=>r=fin l) (by
  rintro ⟨o,i⟩ ⟨k,rfl,hk,ho⟩
  simp only at ho hk
  by_cases hlt:k < l.length
  ·left
   refine ⟨_,hf o k hlt (by rw [ho,List.length_take];omega),⟨k + 1,rfl,by omega,?_⟩,by simp only [Int.toNat_natCast];omega⟩
   simp only
   rw [ho,List.take_add_one,List.getElem?_eq_getElem hlt];rfl
  right
  have:k=l.length:=by omega
  subst this
  rw [List.take_length] at ho
  exact ⟨_,he o,by rw [ho]⟩) ([],0) ⟨0,rfl,by omega,by simp⟩
 rw [h1,h2]
theorem aD8 (l:List GNode) (hl:l.length ≤ 1048576) (hN:NL l):kF l=some l:=by
 unfold kF
 rw [aD7 l hl (gI l) (fun o=>o) (fun o k hk ho=>by
  have hk2:=(hN _ (List.getElem_mem hk)).2
  have hc:lF (l[k]).Kids=some (l[k]).Kids:=by unfold lF;rw [vL hk2 (by omega)];rfl
  simp only [gI,aF hk,if_true,bJ hk,Option.bind_some,hc,aH2 (show o.length ≤ 1048576 by omega) (show 56 ≤ 64 by omega),dJ hk hl]) (fun o=>by simp [gI])]
 rfl
theorem aCa (l:List GNode) (hl:l.length ≤ 1048576) (hN:NL l):kX l=some l:=by
 unfold kX
 rw [aD7 l hl (hO l) (fun o=>o) (fun o k hk ho=>by
  have hk2:=(hN _ (List.getElem_mem hk)).2
  simp only [hO,aF hk,if_true,bJ hk,Option.bind_some,vL hk2 (show 8 ≤ 64 by omega),aH2 (show o.length ≤ 1048576 by omega) (show 56 ≤ 64 by omega),dJ hk hl]) (fun o=>by simp [hO])]
 rfl
theorem tQ (p:GProgram) (h:GProgram.le 1048576 p):eH p=some p∧gQ p=some p:=by
 obtain ⟨⟨hn,hN⟩,hF,hFl⟩:=h
 constructor
 ·unfold eH
  rw [aD8 _ hn hN]
  simp only [Option.bind_some]
  obtain ⟨r,h1,h2⟩:=jJ (f:=dY p) (fun s:Int × GProgram=>∃ k:Nat,s.1=k∧k ≤ p.Fns.length∧s.2=⟨p.Nodes,p.Fns.take k⟩) (fun s=>p.Fns.length - s.1.toNat) (fun r=>r=p) (by
   rintro ⟨i,v⟩ ⟨k,rfl,hk,rfl⟩
   try simp only at hk
   by_cases hlt:k < p.Fns.length
   ·left
    have hpar:=(hFl _ (List.getElem_mem hlt)).2.1
    refine ⟨(((k + 1:Nat):Int),⟨p.Nodes,p.Fns.take (k + 1)⟩),?_,⟨k + 1,rfl,by omega,rfl⟩,by simp only [Int.toNat_natCast];omega⟩
    simp only [dY,aF hlt,if_true,bJ hlt,Option.bind_some,aD9 _ hpar,aH2 (show (p.Fns.take k).length ≤ 1048576 by rw [List.length_take];omega) (show 64 ≤ 64 by omega),dJ hlt hF]
    rw [List.take_add_one,List.getElem?_eq_getElem hlt];rfl
   right
   have:k=p.Fns.length:=by omega
   subst this
   refine ⟨⟨p.Nodes,p.Fns.take p.Fns.length⟩,by simp [dY],?_⟩
   rw [List.take_length]) (0,⟨p.Nodes,[]⟩) ⟨0,rfl,by omega,by simp⟩
  rw [h1,h2];rfl
 unfold gQ
 rw [aCa _ hn hN]
 simp only [Option.bind_some]
 obtain ⟨r,h1,h2⟩:=jJ (f:=iY p) (fun s:Int × GProgram=>∃ k:Nat,s.1=k∧k ≤ p.Fns.length∧s.2=⟨p.Nodes,p.Fns.take k⟩) (fun s=>p.Fns.length - s.1.toNat) (fun r=>r=p) (by
  rintro ⟨i,v⟩ ⟨k,rfl,hk,rfl⟩
  try simp only at hk
  by_cases hlt:k < p.Fns.length
  ·left
   have hpar:=(hFl _ (List.getElem_mem hlt)).2.1
   refine ⟨(((k + 1:Nat):Int),⟨p.Nodes,p.Fns.take (k + 1)⟩),?_,⟨k + 1,rfl,by omega,rfl⟩,by simp only [Int.toNat_natCast];omega⟩
   simp only [iY,aF hlt,if_true,bJ hlt,Option.bind_some,vL hpar (show 24 ≤ 64 by omega),aH2 (show (p.Fns.take k).length ≤ 1048576 by rw [List.length_take];omega) (show 64 ≤ 64 by omega),dJ hlt hF]
   rw [List.take_add_one,List.getElem?_eq_getElem hlt];rfl
  right
  have:k=p.Fns.length:=by omega
  subst this
  refine ⟨⟨p.Nodes,p.Fns.take p.Fns.length⟩,by simp [iY],?_⟩
  rw [List.take_length]) (0,⟨p.Nodes,[]⟩) ⟨0,rfl,by omega,by simp⟩
 rw [h1,h2];rfl
end Go.OM
namespace Go.OM
theorem aH3 {s:List Int} (h:s.Nodup) (x:Int):(addL s x).Nodup:=by
 unfold addL
 split
 ·exact h
 rename_i hc
 rw [List.nodup_append]
 refine ⟨h,by simp,fun a ha b hb=>?_⟩
 simp only [List.mem_singleton] at hb
 subst hb
 rintro rfl
 exact hc (by simpa using ha)
end Go.OM
namespace Go.OM
end Go.OM
namespace Go.OM
theorem aIa (p:GProgram) (nm:ByteArray):rZ p nm = -1 ∨ (0 ≤ rZ p nm∧rZ p nm < p.Fns.length):=by
 unfold rZ
 cases h:(List.range p.Fns.length).findSome? (aGt p nm) with
 | none=>exact .inl rfl
 | some r =>
  right
  obtain ⟨k,hk,hr⟩:=List.exists_of_findSome?_eq_some h
  have:=List.mem_range.1 hk
  unfold aGt at hr
  split at hr
  ·split at hr
   ·have:=Option.some.inj hr
    simp only [Option.getD_some]
    omega
   cases hr
  cases hr
def aFo (p:GProgram) (o:List Int) (e:Int):List Int:=match p.Nodes[e.toNat]? with
 | some x=>if x.Kind=12 then (if 0 ≤ rZ p x.Name then addL o (rZ p x.Name) else o) else o
 | none=>o
structure CInv (p:GProgram) (o:List Int):Prop where
 nd:o.Nodup
 bnd:∀ x ∈ o,0 ≤ x∧x < (p.Fns.length:Int)
theorem CInv.step {p:GProgram} {o:List Int} (h:CInv p o) (e:Int):CInv p (aFo p o e):=by
 unfold aFo
 split
 ·split
  ·split
   ·rename_i x _ _ hge
    refine ⟨aH3 h.nd _,fun y hy=>?_⟩
    rcases mem_addL.1 hy with hy | hy
    ·exact h.bnd y hy
    subst hy
    rcases aIa p x.Name with hb | hb
    ·omega
    exact hb
   exact h
  exact h
 exact h
end Go.OM
namespace Go.OM
theorem pY {p:GProgram} (h:uN p=true):1 ≤ p.Nodes.length∧p.Nodes.length ≤ 300∧1 ≤ p.Fns.length∧p.Fns.length ≤ 8∧okU p.Nodes p.Nodes.length=true:=by
 unfold uN at h
 simp only [Bool.and_eq_true,inB_iff] at h
 obtain ⟨h1,h2,h3,_⟩:=h
 exact ⟨by omega,by omega,by omega,by omega,h3⟩
def aHo (v:Bool) (l:List Int) (m:List Bool):List Bool:=l.foldl (fun m e=>m.set e.toNat v) m
theorem aB3 (v:Bool):∀ (l:List Int) (m:List Bool),(aHo v l m).length=m.length
 | [],m=>rfl
 | e :: l,m=>by
  show (aHo v l (m.set e.toNat v)).length=_
  rw [aB3 v l];simp
theorem uK {τ ρ:Type} (kids:List Int) (n k:Nat) (hk:k < n) (hkb:∀ e ∈ kids,0 ≤ e∧e < k) (v b:Bool) (f:List Bool × Int→Option ((List Bool × Int) ⊕ ρ)) (fin:List Bool→ρ)
  (hf:∀ (m:List Bool) (j:Nat) (hj:j < kids.length),m.length=n→m[k]? = some b→f (m,j)=some (.inl (m.set kids[j].toNat v,((j + 1:Nat):Int))))
  (he:∀ m:List Bool,f (m,kids.length)=some (.inr (fin m))) (m:List Bool) (hm:m.length=n) (hb:m[k]? = some b):aJ f (m,0)=some (fin (aHo v kids m)):=by
 have:=qA kids (fun (m:List Bool) j=>(m,(j:Int))) (fun j m=>m.length=n∧m[k]? = some b) (fun m e=>.inl (m.set e.toNat v)) fin f (fun m j hj hI=>by
  left
  refine ⟨_,rfl,hf m j hj hI.1 hI.2,by rw [List.length_set];exact hI.1,?_⟩
  have:=hkb _ (List.getElem_mem hj)
  rw [List.getElem?_set,if_neg (by omega)]
  exact hI.2) (fun m _=>he m) m ⟨hm,hb⟩
 rw [qE] at this
 exact this
theorem aDi (p:GProgram) (hn:p.Nodes.length ≤ 1048576) (hp:p.Fns.length ≤ 1048576):∃ n:Int,nA p=some n∧mR p=some n:=by
 unfold nA mR
 rw [qD p hn hp,jR p hn hp]
 simp only [Option.bind_some]
 cases hok:uN p with
 | false=>exact ⟨_,rfl,rfl⟩
 | true =>
  obtain ⟨b1,b2,b3,b4,hu⟩:=pY hok
  simp only [Bool.not_true,Bool.false_eq_true,if_false]
  unfold fV iT
  rw [aBe _ _ _ (by omega) (by omega)]
  simp only [Option.bind_some,iO hn]
  obtain ⟨r,r',h1,h2,h3⟩:=uW (f:=dH p) (g:=eC p) (fun (a b:List Bool × List Int × Int)=>a=b∧a.1.length=p.Nodes.length∧-1 ≤ a.2.2∧a.2.2 < p.Nodes.length∧(a.2.1.length:Int) + a.2.2 < p.Nodes.length) (fun a=>(a.2.2 + 1).toNat) (fun r r'=>r=r') (by
   rintro ⟨m,out,k⟩ _ ⟨rfl,hm,hk0,hk1,ho⟩
   simp only at hm hk0 hk1 ho
   by_cases hneg:k < 0
   ·right
    have d:decide (k ≥ 0)=false:=by simp only [decide_eq_false_iff_not];omega
    exact ⟨out,out,by simp only [dH,d,Bool.false_eq_true,if_false],by simp only [eC,d,Bool.false_eq_true,if_false],rfl⟩
   left
   have d:decide (k ≥ 0)=true:=by simp only [decide_eq_true_eq];omega
   have hkk:k=((k.toNat:Nat):Int):=by omega
   have hlt:k.toNat < p.Nodes.length:=by omega
   generalize k.toNat=i at *
   subst hkk
   obtain ⟨n,b,c1,c2,_,_,c3⟩:=pB p i (mI (by omega) hu)
   have hx:p.Nodes[i]? = some p.Nodes[i]:=List.getElem?_eq_getElem hlt
   have hnb:=(tO hu hlt).1
   have hkb:=mA hnb hx
   have hkl:=mT hnb hx
   have him:i < m.length:=by omega
   have hmi:m[i]? = some m[i]:=List.getElem?_eq_getElem him
   have hdeep:vG p.Nodes (i:Int)=rD p.Nodes i:=by
    unfold vG
    rw [if_pos ⟨by omega,by omega,mI (by simp only [Int.toNat_natCast];omega) hu⟩,Int.toNat_natCast]
   have hdn:¬ (rD p.Nodes i == 0)=true:=by
    have:=pA p.Nodes i
    simp only [beq_iff_eq];omega
   have hco:eN p (i:Int)=some (n,b):=by
    unfold eN
    rw [mK _ hn,hdeep]
    simp only [Option.bind_some]
    rw [if_neg hdn,c1];rfl
   generalize hg:p.Nodes[i]=x at *
   have hgi:aY p.Nodes (i:Int)=some x:=by rw [bJ hlt,hg]
   have hgm:aY m (i:Int)=some m[i]:=bJ him
   -- may it be reckoned?
   have hfold:eB p (i:Int)=some (b && x.Kind != 1):=by
    unfold eB
    rw [hco]
    simp only [Option.bind_some]
    cases b with
    | false=>rfl
    | true =>
     rw [if_pos rfl,hgi]
     simp only [Option.bind_some,dX]
     obtain ⟨y,hy,hyk⟩:=c3 rfl
     rw [hx] at hy
     have hy':=Option.some.inj hy
     subst hy'
     rcases hyk with e | e
     ·rw [e];rfl
     have hin:inB x.Kind 9 11=true:=inB_iff.2 e
     have hne:¬ x.Kind=1:=by omega
     simp [hin,hne]
   have hok2:(if b=true then (aY p.Nodes (i:Int)).bind fun e=>some (e.Kind != 1) else some false)=some (b && x.Kind != 1):=by
    cases b with
    | false=>rfl
    | true=>rw [if_pos rfl,hgi];rfl
   generalize hq:(b && x.Kind != 1)=q at *
   have hout:(Option.bind (if q=true then some (!m[i]) else some false) fun v:Bool=>if v=true then (bW 8 out [(i:Int)]).bind fun l=>some l else some out)=some (if (q && !m[i])=true then out ++ [(i:Int)] else out):=by
    have happ:bW 8 out [(i:Int)]=some (out ++ [(i:Int)]):=app1 (by omega) (by omega)
    cases q with
    | false=>rfl
    | true =>
     simp only [if_true,Option.bind_some,Bool.true_and]
     cases m[i]<;>simp [happ]
   have hw:IntKind.wrap .i64 ((i:Int) - 1)=(i:Int) - 1:=w64 (by omega) (by omega)
   have hset:∀ (z:Bool) (o:List Int),z=(m[i] || q)→aJ (cB i q o x) (m,0)=some (aHo z x.Kids m,o):=by
    intro z o hz
    subst hz
    exact uK (τ:=Unit) x.Kids p.Nodes.length i hlt hkb (m[i] || q) m[i] (cB i q o x) (fun m=>(m,o)) (fun m' j hj hm' hb'=>by
     have hbe:=hkb _ (List.getElem_mem hj)
     have g1:aY m' (i:Int)=some m[i]:=by rw [oY];exact hb'
     simp only [cB,aF hj,if_true,bJ hj,Option.bind_some,g1]
     rw [gV hbe.1 (by omega)]
     simp only [Option.bind_some,dI,dJ hj (show x.Kids.length ≤ 1048576 by omega)]
     cases m[i]<;>cases q<;>rfl) (fun m=>by simp [cB]) m hm hmi
   have hset2:∀ (z:Bool) (o:List Int),z=(m[i] || q)→aJ (cR p i q o) (m,0)=some (aHo z x.Kids m,o):=by
    intro z o hz
    subst hz
    exact uK (τ:=Unit) x.Kids p.Nodes.length i hlt hkb (m[i] || q) m[i] (cR p i q o) (fun m=>(m,o)) (fun m' j hj hm' hb'=>by
     have hbe:=hkb _ (List.getElem_mem hj)
     have g1:aY m' (i:Int)=some m[i]:=by rw [oY];exact hb'
     simp only [cR,hgi,aF hj,if_true,bJ hj,Option.bind_some,g1]
     rw [gV hbe.1 (by omega)]
     simp only [Option.bind_some,dI,dJ hj (show x.Kids.length ≤ 1048576 by omega)]
     cases q<;>cases m[i]<;>rfl) (fun m=>by simp [cR,hgi]) m hm hmi
   refine ⟨(aHo (m[i] || q) x.Kids m,(if (q && !m[i])=true then out ++ [(i:Int)] else out),(i:Int) - 1),(aHo (m[i] || q) x.Kids m,(if (q && !m[i])=true then out ++ [(i:Int)] else out),(i:Int) - 1),?_,?_,⟨rfl,?_⟩,?_⟩
   ·simp only [dH,d,if_true,hfold,Option.bind_some,hgm,hgi]
    rw [hout]
    simp only [Option.bind_some]
    rw [hset _ _ rfl]
    simp only [Option.bind_some,hw]
   ·simp only [eC,d,if_true,c2,Option.bind_some,hgm]
    rw [hok2]
    simp only [Option.bind_some]
    rw [hout]
    simp only [Option.bind_some]
    rw [hset2 _ _ rfl]
    simp only [Option.bind_some,hw]
   ·refine ⟨by simp only [aB3];exact hm,by simp only;omega,by simp only;omega,?_⟩
    simp only
    split
    ·rw [List.length_append];simp only [List.length_cons,List.length_nil];omega
    omega
   simp only;omega) (List.replicate p.Nodes.length false,[],(p.Nodes.length:Int) - 1) _ ⟨rfl,by simp,by simp only;omega,by simp only;omega,by simp only [List.length_nil];omega⟩
  rw [h1,h2]
  subst h3
  exact ⟨_,rfl,rfl⟩
end Go.OM
namespace Go.OM
end Go.OM
namespace Go.OM
end Go.OM
namespace Go.OM
end Go.OM
namespace Go.OM
end Go.OM
namespace Go.OM
end Go.OM
namespace Go.OM
end Go.OM
namespace Go.OM
theorem aKp {n:Int} (h:0 ≤ n) (h2:n < 256):IntKind.wrap .u8 n=n:=by
 simp [IntKind.wrap,IntKind.bits,IntKind.signed];omega
theorem aKx {x y:ByteArray} (h:x.size + y.size ≤ 9223372036854775807):bK x y=some (x ++ y):=by unfold bK;rw [if_pos h]
theorem ba_ext {x y:ByteArray} (h:x.data.toList=y.data.toList):x=y:=by
 cases x;cases y
 simp only [ByteArray.mk.injEq]
 exact Array.toList_inj.1 h
theorem aAa:∀ (k u:Nat),u < 10 ^ (k + 1)→Lib.nDigits u ≤ k + 1
 | 0,u,h=>by rw [Lib.nDigits_small (by simpa using h)];omega
 | k + 1,u,h=>by
  by_cases h10:u < 10
  ·rw [Lib.nDigits_small h10];omega
  rw [Lib.nDigits_big h10]
  have:=aAa k (u / 10) (by rw [Nat.pow_succ] at h;omega)
  omega
theorem vH {n:Nat} (h:n ≤ 9223372036854775807):(Lib.decDigits n).length ≤ 19:=by
 rw [Lib.decDigits_length]
 exact aAa 18 n (by omega)
def digs (m:Nat):List UInt8:=if m=0 then [] else Lib.decDigits m
theorem aIh {m:Nat} (h:m ≠ 0):digs m=digs (m / 10) ++ [UInt8.ofNat (48 + m % 10)]:=by
 unfold digs
 rw [if_neg h]
 by_cases h10:m < 10
 ·rw [if_pos (by omega),Lib.decDigits_one h10,Nat.mod_eq_of_lt h10];rfl
 rw [if_neg (by omega)]
 conv=>lhs;rw [Lib.decDigits,dif_neg h10]
theorem aH0 (n:Nat) (h:n ≤ 9223372036854775807):jI n=some ⟨(Lib.decDigits n).toArray⟩:=by
 unfold jI
 by_cases h0:n=0
 ·subst h0
  rw [Lib.decDigits_one (by omega)];rfl
 have hne:((n:Int) == 0)=false:=by simp;omega
 have hneg:decide ((n:Int) < 0)=false:=by simp
 obtain ⟨r,h1,h2⟩:=jJ (f:=jH) (fun s:Int × ByteArray=>∃ m:Nat,s.1=m∧m ≤ n∧digs m ++ s.2.data.toList=Lib.decDigits n) (fun s=>s.1.toNat) (fun r=>r=⟨(Lib.decDigits n).toArray⟩) (by
  rintro ⟨i,s⟩ ⟨m,hi,hm,hs⟩
  simp only at hi hs
  subst hi
  by_cases hz:m=0
  ·right
   subst hz
   refine ⟨s,by simp [jH],?_⟩
   apply ba_ext
   rw [← hs];simp [digs]
  left
  have hb:((m:Int) != 0)=true:=by simp;omega
  have ht:Int.tmod (m:Int) 10=((m % 10:Nat):Int):=by rw [Int.tmod_eq_emod_of_nonneg (by omega)];omega
  have hd:Int.tdiv (m:Int) 10=((m / 10:Nat):Int):=by rw [Int.tdiv_eq_ediv_of_nonneg (by omega)];omega
  have hn0:decide (((m % 10:Nat):Int) < 0)=false:=by simp;omega
  have hlt:decide (((m % 10:Nat):Int) < 10)=true:=by simp;omega
  have hw:IntKind.wrap .u8 (IntKind.wrap .i64 (48 + ((m % 10:Nat):Int)))=((48 + m % 10:Nat):Int):=by
   rw [w64 (by omega) (by omega),aKp (by omega) (by omega)];omega
  have hsz:s.size ≤ 19:=by
   have e1:=congrArg List.length hs
   have e2:=vH h
   have e3:s.data.toList.length=s.size:=Array.length_toList
   simp only [List.length_append] at e1
   omega
  have hsz2:(pS [((48 + m % 10:Nat):Int)]).size=1:=rfl
  refine ⟨(((m / 10:Nat):Int),pS [((48 + m % 10:Nat):Int)] ++ s),?_,⟨m / 10,rfl,by omega,?_⟩,by simp only [Int.toNat_natCast];omega⟩
  ·simp only [jH,mG,hb,if_true,ht,hn0,Bool.false_eq_true,if_false,Option.bind_some,hlt,hw,hd]
   rw [aKx (by omega),w64 (by omega) (by omega)]
   rfl
  have hb2:(pS [((48 + m % 10:Nat):Int)]).data.toList=[UInt8.ofNat (48 + m % 10)]:=by
   simp only [pS,List.map_cons,List.map_nil,Int.toNat_natCast]
  rw [← hs,aIh hz]
  simp only
  rw [ByteArray.data_append,Array.toList_append,hb2,List.append_assoc]) ((n:Int),⟨#[]⟩) ⟨n,rfl,Nat.le_refl _,by simp [digs,h0]⟩
 rw [hne]
 simp only [Bool.false_eq_true,if_false]
 rw [h1,h2]
 simp only [Option.bind_some,hneg,Bool.false_eq_true,if_false]
def decB (n:Nat):ByteArray:=⟨(Lib.decDigits n).toArray⟩
theorem aIi {n:Nat} (h:n ≤ 1048576):(decB n).size ≤ 19:=by
 show (Lib.decDigits n).toArray.size ≤ 19
 rw [List.size_toArray]
 exact vH (by omega)
theorem aJj {n:Nat} (h:n ≤ 1048576):jI (n:Int)=some (decB n):=aH0 n (by omega)
end Go.OM
set_option maxHeartbeats 4000000
namespace Go.OM
structure MOk (a:Nat) (m:Gl05Made):Prop where
 n0:0 ≤ m.n
 n1:m.n ≤ a
 il:m.ints.length ≤ a
 bl:m.boxes.length ≤ a
 tl:m.text.size ≤ 1000 * a
 is:∀ x ∈ m.ints,x.size ≤ 40
 bs:∀ x ∈ m.boxes,x.size ≤ 40
theorem MOk.mono {a b:Nat} {m:Gl05Made} (h:MOk a m) (hab:a ≤ b):MOk b m:=⟨h.n0,by have:=h.n1;omega,by have:=h.il;omega,by have:=h.bl;omega,by have:=h.tl;omega,h.is,h.bs⟩
theorem Ends.catL {α:Type} {x y:ByteArray} {f:ByteArray→Option α} {Q:α→Prop} {n:Nat} (hx:x.size ≤ n) (hy:y.size ≤ 20) (h:n ≤ 100000000000) (k:∀ t:ByteArray,t.size ≤ n + 20→Ends (f t) Q):Ends ((bK x y).bind f) Q:=Ends.cat hx hy (by omega) k
theorem Ends.catR {α:Type} {x y:ByteArray} {f:ByteArray→Option α} {Q:α→Prop} {n:Nat} (hx:x.size ≤ 20) (hy:y.size ≤ n) (h:n ≤ 100000000000) (k:∀ t:ByteArray,t.size ≤ 20 + n→Ends (f t) Q):Ends ((bK x y).bind f) Q:=Ends.cat hx hy (by omega) k
theorem Ends.appN {α β:Type} {n:Nat} {b:List α} {f:List α→Option β} {Q:β→Prop} (hb:b.length ≤ 10000000) (hn:n ≤ 1000) (k:Ends (f b) Q):Ends ((bW n [] b).bind f) Q:=Ends.app (by simp) hb hn k
theorem Ends.app1 {α β:Type} {n:Nat} {a:List α} {x:α} {f:List α→Option β} {Q:β→Prop} (ha:a.length ≤ 1000000) (hn:n ≤ 1000) (k:Ends (f (a ++ [x])) Q):Ends ((bW n a [x]).bind f) Q:=Ends.app (by omega) (by simp) hn k
variable {α:Type} {Q:α→Prop}
theorem oQ {c:Gl01Cur} {n:Int} {f:Int × Gl01Cur→Option α} (hc:Cur c) (k:∀ r q,Cur q→0 ≤ r→(0 < n→r < n)→Ends (f (r,q)) Q):Ends ((bP c n).bind f) Q :=
 Ends.bind (aEj hc n) fun ⟨r,q⟩ h=>k r q h.1 h.2.1 h.2.2
theorem aDm {c:Gl01Cur} {n:Int} {f:Bool × Gl01Cur→Option α} (hc:Cur c) (k:∀ r q,Cur q→Ends (f (r,q)) Q):Ends ((eM c n).bind f) Q :=
 Ends.bind (E_Once hc n) fun ⟨r,q⟩ h=>k r q h
theorem aFs {c:Gl01Cur} {l:List ByteArray} {f:ByteArray × Gl01Cur→Option α} (hc:Cur c) (hl:l ≠ []) (k:∀ r q,Cur q→r ∈ l→Ends (f (r,q)) Q):Ends ((fN c l).bind f) Q :=
 Ends.bind (E_Pick hc hl) fun ⟨r,q⟩ h=>k r q h.1 h.2
theorem aBy {m:Gl05Made} {c:Gl01Cur} {l:List ByteArray} {f:ByteArray × Gl01Cur→Option α} (hc:Cur c) (hl:l ≠ []) (hs:∀ x ∈ l,x.size ≤ 40) (k:∀ r q,Cur q→r.size ≤ 40→Ends (f (r,q)) Q):Ends ((dC m l c).bind f) Q:=by
 unfold dC
 refine Ends.bind (P:=fun r=>Cur r.2∧r.1.size ≤ 40) ?_ fun ⟨r,q⟩ h=>k r q h.1 h.2
 refine oQ hc fun r q h1 h2 h3=>?_
 have:0 < l.length:=List.length_pos_iff.2 hl
 exact Ends.get h2 (h3 (by omega)) fun x hx=>Ends.one ⟨h1,hs x hx⟩
theorem aFr {m:Gl05Made} {c:Gl01Cur} {f:ByteArray × Gl01Cur→Option α} (hc:Cur c) (k:∀ r q,Cur q→r.size ≤ 20→Ends (f (r,q)) Q):Ends ((dU m c).bind f) Q:=by
 unfold dU
 refine Ends.bind (P:=fun r=>Cur r.2∧r.1.size ≤ 20) ?_ fun ⟨r,q⟩ h=>k r q h.1 h.2
 refine aFs hc (by simp) fun r q h1 h2=>Ends.one ⟨h1,?_⟩
 simp only [List.mem_cons,List.mem_nil_iff,or_false] at h2
 rcases h2 with rfl | rfl | rfl | rfl | rfl | rfl | rfl<;>(dsimp only;decide)
theorem tZ {a:Nat} {m:Gl05Made} {c:Gl01Cur} {f:ByteArray × Gl01Cur→Option α} (hm:MOk a m) (hc:Cur c) (k:∀ r q,Cur q→r.size ≤ 60→Ends (f (r,q)) Q):Ends ((aN m c).bind f) Q:=by
 unfold aN
 refine Ends.bind (P:=fun r=>Cur r.2∧r.1.size ≤ 60) ?_ fun ⟨r,q⟩ h=>k r q h.1 h.2
 refine oQ hc fun r q h1 h2 h3=>?_
 refine Ends.bind (P:=fun v=>v=true→m.ints ≠ []) (Ends.ite (fun _=>Ends.one fun h e=>by simp [e] at h) fun _=>Ends.one fun h=>by cases h) fun v hv=>?_
 refine Ends.ite (fun h=>aBy h1 (hv h) hm.is fun r q h4 h5=>Ends.one ⟨h4,by show r.size ≤ 60;omega⟩) fun _=>?_
 refine Ends.bind (P:=fun v=>v=true→m.boxes ≠ []) (Ends.ite (fun _=>Ends.one fun h e=>by simp [e] at h) fun _=>Ends.one fun h=>by cases h) fun v hv=>?_
 refine Ends.ite (fun h=>?_) fun _=>aFr h1 fun r q h4 h5=>Ends.one ⟨h4,by show r.size ≤ 60;omega⟩
 refine aBy h1 (hv h) hm.bs fun r q h4 h5=>?_
 exact Ends.catR (by decide) h5 (by omega) fun t ht=>Ends.one ⟨h4,ht⟩
theorem aBx {a:Nat} {m:Gl05Made} {c:Gl01Cur} {f:ByteArray × Gl01Cur→Option α} (hm:MOk a m) (hc:Cur c) (k:∀ r q,Cur q→r.size ≤ 300→Ends (f (r,q)) Q):Ends ((cP m c).bind f) Q:=by
 unfold cP
 refine Ends.bind (P:=fun r=>Cur r.2∧r.1.size ≤ 300) ?_ fun ⟨r,q⟩ h=>k r q h.1 h.2
 repeat' first
  | refine oQ (by assumption) fun _ _ _ _ _=>?_
  | refine aDm (by assumption) fun _ _ _=>?_
  | refine tZ hm (by assumption) fun _ _ _ _=>?_
  | refine Ends.catR (by decide) (by assumption) (by omega) fun _ _=>?_
  | refine Ends.catL (by assumption) (by decide) (by omega) fun _ _=>?_
  | refine Ends.cat (by assumption) (by assumption) (by omega) fun _ _=>?_
  | refine Ends.ite (fun _=>?_) fun _=>?_
  | exact Ends.one ⟨by assumption,by dsimp only;decide⟩
  | exact Ends.one ⟨by assumption,by dsimp only;omega⟩
theorem aBz {a:Nat} {m:Gl05Made} {s:ByteArray} {c:Gl01Cur} {f:ByteArray × Gl05Made × Gl01Cur→Option α} (hm:MOk a m) (ha:a ≤ 100000) (hs:s.size ≤ 20) (k:∀ r,r.size ≤ 40→Ends (f (r,⟨(),m.ints,m.boxes,m.n + 1,m.text,m.wild⟩,c)) Q):Ends ((bR m s c).bind f) Q:=by
 have n0:=hm.n0
 have n1:=hm.n1
 unfold bR
 rw [w64 (n:=m.n + 1) (by omega) (by omega)]
 have hd:jI (m.n + 1)=some (decB (m.n + 1).toNat):=by
  have:=aJj (n:=(m.n + 1).toNat) (by omega)
  rw [← this];congr 1;omega
 have hz:=aIi (n:=(m.n + 1).toNat) (by omega)
 rw [hd]
 refine Ends.bind (P:=fun r=>r.1.size ≤ 40∧r.2=(⟨(),m.ints,m.boxes,m.n + 1,m.text,m.wild⟩,c)) ?_ fun ⟨r,q⟩ h=>(by
  obtain ⟨h1,h2⟩:=h
  simp only at h2
  subst h2
  exact k r h1)
 simp only [Option.bind_some]
 exact Ends.cat hs hz (by omega) fun t ht=>Ends.one ⟨by show t.size ≤ 40;omega,rfl⟩
theorem aLi {m:Gl05Made} {b:ByteArray} {c:Gl01Cur} {f:Gl05Made × Gl01Cur→Option α} (hl:m.boxes.length ≤ 1000000) (hs:∀ x ∈ m.boxes,x.size ≤ 40) (k:∀ l:List ByteArray,l.length ≤ m.boxes.length→(∀ x ∈ l,x.size ≤ 40)→Ends (f (⟨(),m.ints,l,m.n,m.text,m.wild⟩,c)) Q):Ends ((dD m b c).bind f) Q:=by
 unfold dD
 refine Ends.bind (P:=fun r=>∃ l:List ByteArray,r=(⟨(),m.ints,l,m.n,m.text,m.wild⟩,c)∧l.length ≤ m.boxes.length∧∀ x ∈ l,x.size ≤ 40) ?_ fun r h=>(by
  obtain ⟨l,rfl,h1,h2⟩:=h
  exact k l h1 h2)
 refine Ends.bind (P:=fun l:List ByteArray=>l.length ≤ m.boxes.length∧∀ x ∈ l,x.size ≤ 40) ?_ fun l h=>Ends.one ⟨l,rfl,h⟩
 refine Ends.loop (fun s:List ByteArray × Int=>0 ≤ s.2∧s.2 ≤ m.boxes.length∧s.1.length ≤ s.2∧∀ x ∈ s.1,x.size ≤ 40) (fun s=>m.boxes.length - s.2.toNat) _ ?_ ⟨by simp,by simp,by simp,by simp⟩
 rintro ⟨l,i⟩ ⟨h0,h1,h2,h3⟩
 simp only at h0 h1 h2 h3
 unfold gA
 refine Ends.ite (fun h=>?_) fun h=>Ends.one (.inr ⟨l,rfl,by omega,h3⟩)
 simp only [decide_eq_true_eq] at h
 have hw:IntKind.wrap .i64 (i + 1)=i + 1:=w64 (by omega) (by omega)
 refine Ends.bind (P:=fun _=>True) (Ends.get h0 h fun e he=>Ends.ite (fun _=>Ends.one trivial) fun _=>Ends.one trivial) fun v _=>?_
 refine Ends.ite (fun _=>Ends.get h0 h fun e he=>Ends.app (by omega) (by simp) (by omega) (Ends.one (.inl ⟨_,rfl,?_,?_⟩))) fun _=>Ends.one (.inl ⟨_,rfl,?_,?_⟩)
 ·rw [hw]
  refine ⟨by omega,by omega,by simp only [List.length_append,List.length_cons,List.length_nil];omega,fun x hx=>?_⟩
  rcases List.mem_append.1 hx with hx | hx
  ·exact h3 x hx
  rw [List.mem_singleton.1 hx];exact hs _ he
 ·simp only;rw [hw];omega
 ·rw [hw]
  exact ⟨by omega,by omega,by simp only;omega,h3⟩
 simp only;rw [hw];omega
theorem C_gone {i bx:List ByteArray} {n:Int} {t:ByteArray} {w:Bool} {b:ByteArray} {c:Gl01Cur} {f:Gl05Made × Gl01Cur→Option α} (hl:bx.length ≤ 1000000) (hs:∀ x ∈ bx,x.size ≤ 40) (k:∀ l:List ByteArray,l.length ≤ bx.length→(∀ x ∈ l,x.size ≤ 40)→Ends (f (⟨(),i,l,n,t,w⟩,c)) Q):Ends ((dD ⟨(),i,bx,n,t,w⟩ b c).bind f) Q:=aLi hl hs k
theorem aIq {l:List ByteArray} {r:ByteArray} (h:∀ x ∈ l,x.size ≤ 40) (hr:r.size ≤ 40):∀ x ∈ l ++ [r],x.size ≤ 40:=by
 intro x hx
 rcases List.mem_append.1 hx with hx | hx
 ·exact h x hx
 rw [List.mem_singleton.1 hx];exact hr
theorem aEf {l:List ByteArray} {r:ByteArray} {a:Nat} (h:l.length ≤ a):(l ++ [r]).length ≤ a + 1:=by simp only [List.length_append,List.length_cons,List.length_nil];omega
theorem aGb {a:Nat} {m:Gl05Made} (hm:MOk a m) {i b:List ByteArray} {n:Int} {t:ByteArray} {w:Bool} (hn:n=m.n ∨ n=m.n + 1) (hil:i.length ≤ a + 1) (his:∀ x ∈ i,x.size ≤ 40) (hbl:b.length ≤ a + 1) (hbs:∀ x ∈ b,x.size ≤ 40) (ht:t.size ≤ 1000 * (a + 1)):MOk (a + 1) ⟨(),i,b,n,t,w⟩:=by
 have n0:=hm.n0
 have n1:=hm.n1
 exact ⟨by simp only;omega,by simp only;omega,hil,hbl,ht,his,hbs⟩
theorem aGi {a:Nat} {m:Gl05Made} {c:Gl01Cur} (hm:MOk a m) (ha:a ≤ 90000) (hb:m.boxes ≠ []) (hc:Cur c) (give:Bool):Ends (fM m give c) (fun r=>MOk (a + 1) r.1∧Cur r.2):=by
 have il:m.ints.length ≤ a + 1:=by have:=hm.il;omega
 have bl:=hm.bl
 have bl':m.boxes.length ≤ a + 1:=by have:=hm.bl;omega
 have tl:=hm.tl
 have is:=hm.is
 have bs:=hm.bs
 unfold fM
 refine aBy hc hb bs fun r4 q h1 h2=>?_
 refine oQ h1 fun r7 q8 h3 h4 h5=>?_
 repeat' first
  | dsimp only
  | exact Ends.one ⟨hm.mono (by omega),by assumption⟩
  | exact Ends.one ⟨aGb hm (.inl rfl) il is bl' bs (by omega),by assumption⟩
  | exact Ends.one ⟨aGb hm (.inr rfl) il is bl' bs (by omega),by assumption⟩
  | exact Ends.one ⟨aGb hm (.inl rfl) il is (by omega) (by assumption) (by omega),by assumption⟩
  | exact Ends.one ⟨aGb hm (.inr rfl) il is (aEf (by omega)) (aIq (by assumption) (by assumption)) (by omega),by assumption⟩
  | refine aBz hm (by omega) (by decide) fun _ _=>?_
  | refine tZ hm (by assumption) fun _ _ _ _=>?_
  | refine tZ (aGb hm (.inr rfl) il is bl' bs (by omega)) (by assumption) fun _ _ _ _=>?_
  | refine aFr (by assumption) fun _ _ _ _=>?_
  | refine aBx hm (by assumption) fun _ _ _ _=>?_
  | refine C_gone (by omega) (by assumption) fun _ _ _=>?_
  | refine Ends.catL (by assumption) (by decide) (by omega) fun _ _=>?_
  | refine Ends.cat (by assumption) (by assumption) (by omega) fun _ _=>?_
  | refine Ends.appN (by omega) (by omega) ?_
  | refine Ends.app1 (by omega) (by omega) ?_
  | refine Ends.ite (fun _=>?_) fun _=>?_
  | refine aDm (by assumption) fun _ _ _=>?_
  | (refine Ends.bind (P:=fun r=>Cur r.2∧∃ (l:List ByteArray) (t:ByteArray),r.1=⟨(),m.ints,l,m.n + 1,t,m.wild⟩∧l.length ≤ a∧(∀ x ∈ l,x.size ≤ 40)∧t.size ≤ 1000 * a + 200) ?_ ?_)
  | (rintro ⟨v,q⟩ ⟨_,l,t,rfl,_,_,_⟩)
  | exact Ends.one ⟨by assumption,_,_,rfl,by omega,by assumption,by omega⟩
end Go.OM
namespace Go.OM
variable {α:Type} {Q:α→Prop}
def wgt:Nat→Nat
 | 0=>1
 | d + 1=>6 + 4 * wgt d
theorem aAp:∀ d,1 ≤ wgt d
 | 0=>Nat.le_refl _
 | d + 1=>by simp only [wgt];omega
theorem aHd:∀ f:Nat,(∀ (d a:Nat) (m:Gl05Made) (c:Gl01Cur) (give:Bool),d ≤ 2→2 * d + 1 ≤ f→MOk a m→Cur c→a + wgt d ≤ 90000→Ends ((aP f).1 m (d:Int) give c) (fun r=>MOk (a + wgt d) r.1∧Cur r.2)) ∧
  ∀ (d a:Nat) (m:Gl05Made) (c:Gl01Cur) (last:ByteArray),d ≤ 1→2 * d + 2 ≤ f→MOk a m→Cur c→last.size ≤ 200→a + 2 + 2 * wgt d ≤ 90000→Ends ((aP f).2 m ((d:Int) + 1) last c) (fun r=>MOk (a + 2 + 2 * wgt d) r.1∧Cur r.2):=by
 intro f
 induction f with
 | zero=>exact ⟨fun d a m c give _ h=>by omega,fun d a m c last _ h=>by omega⟩
 | succ f ih =>
  obtain ⟨ih1,ih2⟩:=ih
  refine ⟨fun d a m c give hd hf hm hc ha=>?_,fun d a m c last hd hf hm hc hl ha=>?_⟩
  ·show Ends (eX (aP f).1 (aP f).2 m d give c) _
   have hw:=aAp d
   have il:m.ints.length ≤ a + 1:=by have:=hm.il;omega
   have il':=hm.il
   have bl:=hm.bl
   have bl':m.boxes.length ≤ a + 1:=by have:=hm.bl;omega
   have tl:=hm.tl
   have is:=hm.is
   have bs:=hm.bs
   unfold eX
   refine oQ hc fun r5 q6 h1 h2 h3=>?_
   dsimp only
   refine Ends.bind (P:=fun v=>v=false→m.ints ≠ []) (Ends.ite (fun _=>Ends.one fun h=>by cases h) fun _=>Ends.one fun h e=>by simp [e] at h) fun v hv=>?_
   refine Ends.ite (fun _=>?_) fun hv2=>?_
   ·repeat' first
     | dsimp only
     | exact Ends.one ⟨(aGb hm (.inr rfl) (aEf (by omega)) (aIq (by assumption) (by assumption)) (by omega) bs (by omega)).mono (by omega),by assumption⟩
     | refine aBz hm (by omega) (by decide) fun _ _=>?_
     | refine aBx hm (by assumption) fun _ _ _ _=>?_
     | refine Ends.catL (by assumption) (by decide) (by omega) fun _ _=>?_
     | refine Ends.cat (by assumption) (by assumption) (by omega) fun _ _=>?_
     | refine Ends.appN (by omega) (by omega) ?_
     | refine Ends.app1 (by omega) (by omega) ?_
   have hni:m.ints ≠ []:=hv (by simpa using hv2)
   refine Ends.bind (P:=fun v=>v=false→m.boxes ≠ []) (Ends.ite (fun _=>Ends.one fun h=>by cases h) fun _=>Ends.one fun h e=>by simp [e] at h) fun v hv=>?_
   refine Ends.ite (fun _=>?_) fun hv2=>?_
   ·refine tZ hm (by assumption) fun _ _ _ _=>?_
    dsimp only
    refine Ends.catR (by decide) (by assumption) (by omega) fun _ _=>?_
    refine Ends.bind (P:=fun r=>Cur r.2.2∧r.2.1=m∧r.1.size ≤ 200) ?_ ?_
    ·repeat' first
      | dsimp only
      | exact Ends.one ⟨by assumption,rfl,by dsimp only;omega⟩
      | refine aDm (by assumption) fun _ _ _=>?_
      | refine tZ hm (by assumption) fun _ _ _ _=>?_
      | refine Ends.catR (by decide) (by assumption) (by omega) fun _ _=>?_
      | refine Ends.catL (by assumption) (by decide) (by omega) fun _ _=>?_
      | refine Ends.ite (fun _=>?_) fun _=>?_
    rintro ⟨t,m',q⟩ ⟨hq,hm',ht⟩
    dsimp only at hq hm' ht ⊢
    subst hm'
    repeat' first
     | dsimp only
     | exact Ends.one ⟨(aGb hm (.inr rfl) il is (aEf (by omega)) (aIq (by assumption) (by assumption)) (by omega)).mono (by omega),by assumption⟩
     | refine aBz hm (by omega) (by decide) fun _ _=>?_
     | refine Ends.catL (by assumption) (by decide) (by omega) fun _ _=>?_
     | refine Ends.cat (by assumption) (by assumption) (by omega) fun _ _=>?_
     | refine Ends.appN (by omega) (by omega) ?_
     | refine Ends.app1 (by omega) (by omega) ?_
   have hnb:m.boxes ≠ []:=hv (by simpa using hv2)
   refine Ends.ite (fun _=>?_) fun _=>?_
   ·repeat' first
     | dsimp only
     | exact Ends.one ⟨(aGb hm (.inl rfl) il is bl' bs (by omega)).mono (by omega),by assumption⟩
     | refine aBx hm (by assumption) fun _ _ _ _=>?_
     | refine Ends.catL (by assumption) (by decide) (by omega) fun _ _=>?_
     | refine Ends.cat (by assumption) (by assumption) (by omega) fun _ _=>?_
   refine Ends.ite (fun _=>?_) fun _=>?_
   ·refine aBy (by assumption) hni is fun _ _ _ _=>?_
    repeat' first
     | dsimp only
     | exact Ends.one ⟨(aGb hm (.inl rfl) il is bl' bs (by omega)).mono (by omega),by assumption⟩
     | refine aBx hm (by assumption) fun _ _ _ _=>?_
     | refine Ends.catL (by assumption) (by decide) (by omega) fun _ _=>?_
     | refine Ends.cat (by assumption) (by assumption) (by omega) fun _ _=>?_
   refine Ends.bind (P:=fun v=>v=true→0 < d) (Ends.ite (fun _=>Ends.one fun h=>by simpa using h) fun _=>Ends.one fun h=>by cases h) fun v hv=>?_
   refine Ends.ite (fun hv2=>?_) fun _=>?_
   ·obtain ⟨e,rfl⟩:∃ e,d=e + 1:=⟨d - 1,by have:=hv hv2;omega⟩
    simp only [wgt] at ha hw ⊢
    have ec:((e + 1:Nat):Int)=(e:Int) + 1:=by omega
    rw [ec]
    have hwe:=aAp e
    refine Ends.catL tl (by decide) (by omega) fun _ _=>?_
    refine tZ hm (by assumption) fun _ _ _ _=>?_
    dsimp only
    refine Ends.cat (by assumption) (by assumption) (by omega) fun _ _=>?_
    refine Ends.catL (by assumption) (by decide) (by omega) fun _ _=>?_
    refine tZ hm (by assumption) fun _ _ _ _=>?_
    dsimp only
    refine Ends.cat (by assumption) (by assumption) (by omega) fun _ _=>?_
    refine Ends.catL (by assumption) (by decide) (by omega) fun _ _=>?_
    have hm1:=aGb (w:=m.wild) (t:=‹ByteArray›) hm (.inl rfl) il is bl' bs (by omega)
    refine Ends.bind (ih2 e (a + 1) _ _ _ (by omega) (by omega) hm1 (by assumption) (by decide) (by omega)) ?_
    rintro ⟨m2,c2⟩ ⟨hm2,hc2⟩
    dsimp only at hm2 hc2 ⊢
    have tl2:=hm2.tl
    refine Ends.catL tl2 (by decide) (by omega) fun t3 ht3=>?_
    have hm3:MOk (a + 1 + 2 + 2 * wgt e + 1) ⟨(),m2.ints,m2.boxes,m2.n,t3,m2.wild⟩:=aGb hm2 (.inl rfl) (by have:=hm2.il;omega) hm2.is (by have:=hm2.bl;omega) hm2.bs (by omega)
    refine Ends.bind (ih2 e _ _ _ _ (by omega) (by omega) hm3 hc2 (by decide) (by omega)) ?_
    rintro ⟨m4,c4⟩ ⟨hm4,hc4⟩
    dsimp only at hm4 hc4 ⊢
    exact Ends.one ⟨hm4.mono (by omega),hc4⟩
   refine Ends.bind (P:=fun v=>v=true→0 < d) (Ends.ite (fun _=>Ends.one fun h=>by simpa using h) fun _=>Ends.one fun h=>by cases h) fun v hv=>?_
   refine Ends.ite (fun hv2=>?_) fun _=>?_
   ·obtain ⟨e,rfl⟩:∃ e,d=e + 1:=⟨d - 1,by have:=hv hv2;omega⟩
    simp only [wgt] at ha hw ⊢
    have ec:((e + 1:Nat):Int)=(e:Int) + 1:=by omega
    rw [ec]
    have hwe:=aAp e
    refine aBz hm (by omega) (by decide) fun rw hrw=>?_
    dsimp only
    iterate 5
     first
      | refine Ends.catL (by assumption) (by decide) (by omega) fun _ _=>?_
      | refine Ends.cat (by assumption) (by assumption) (by omega) fun _ _=>?_
    refine aFs (by assumption) (by simp) fun rp qp hqp hrp=>?_
    have hrs:rp.size ≤ 20:=by
     simp only [List.mem_cons,List.mem_nil_iff,or_false] at hrp
     rcases hrp with rfl | rfl | rfl | rfl<;>decide
    dsimp only
    refine Ends.cat (by assumption) (by assumption) (by omega) fun _ _=>?_
    refine Ends.catL (by assumption) (by decide) (by omega) fun t1 ht1=>?_
    refine Ends.catL hrw (by decide) (by omega) fun _ _=>?_
    refine Ends.cat (by assumption) hrw (by omega) fun _ _=>?_
    refine Ends.catL (by assumption) (by decide) (by omega) fun t2 ht2=>?_
    have hm1:MOk (a + 1) ⟨(),m.ints,m.boxes,m.n + 1,t1,m.wild⟩:=aGb hm (.inr rfl) il is bl' bs (by omega)
    refine Ends.bind (ih2 e _ _ _ _ (by omega) (by omega) hm1 (by assumption) (by omega) (by omega)) ?_
    rintro ⟨m4,c4⟩ ⟨hm4,hc4⟩
    dsimp only at hm4 hc4 ⊢
    exact Ends.one ⟨hm4.mono (by omega),hc4⟩
   refine Ends.bind (aGi hm (by omega) hnb (by assumption) give) ?_
   rintro ⟨m4,c4⟩ ⟨hm4,hc4⟩
   exact Ends.one ⟨hm4.mono (by omega),hc4⟩
  show Ends (eE (aP f).1 (aP f).2 m ((d:Int) + 1) last c) _
  have hw:=aAp d
  have il':=hm.il
  have bl:=hm.bl
  have tl:=hm.tl
  unfold eE
  refine Ends.app (by simp) (by omega) (by omega) ?_
  refine Ends.app (by simp) (by omega) (by omega) ?_
  refine Ends.catL tl (by decide) (by omega) fun t7 ht7=>?_
  refine Ends.bind (P:=fun r:Gl05Made × Gl01Cur=>MOk (a + 1 + 2 * wgt d) r.1∧Cur r.2) ?_ ?_
  ·refine Ends.loop (fun s:Int × Gl05Made × Gl01Cur=>∃ j:Nat,s.1=j∧j ≤ 2∧MOk (a + 1 + j * wgt d) s.2.1∧Cur s.2.2) (fun s=>2 - s.1.toNat) _ ?_ ⟨0,rfl,by omega,by
    rw [Nat.zero_mul]
    exact aGb hm (.inl rfl) (by omega) hm.is (by omega) hm.bs (by omega),hc⟩
   rintro ⟨i,m1,c1⟩ ⟨j,rfl,hj,hm1,hc1⟩
   dsimp only at hm1 hc1
   have hj2:j * wgt d ≤ 2 * wgt d:=Nat.mul_le_mul_right _ hj
   unfold fB
   refine oQ hc1 fun r q h1 h2 h3=>?_
   dsimp only
   refine Ends.ite (fun h=>?_) fun h=>Ends.one (.inr ⟨_,rfl,hm1.mono (by omega),h1⟩)
   simp only [decide_eq_true_eq] at h
   have hr:=h3 (by omega)
   have hj3:j + 1 ≤ 2:=by omega
   have e1:IntKind.wrap .i64 ((d:Int) + 1 - 1)=d:=by rw [w64 (by omega) (by omega)];omega
   have e2:IntKind.wrap .i64 ((j:Int) + 1)=((j + 1:Nat):Int):=by rw [w64 (by omega) (by omega)];omega
   rw [e1]
   have hj4:(j + 1) * wgt d ≤ 2 * wgt d:=Nat.mul_le_mul_right _ hj3
   have hj5:(j + 1) * wgt d=j * wgt d + wgt d:=by rw [Nat.succ_mul]
   refine Ends.bind (ih1 d (a + 1 + j * wgt d) m1 q false (by omega) (by omega) hm1 h1 (by omega)) ?_
   rintro ⟨m2,c2⟩ ⟨hm2,hc2⟩
   dsimp only at hm2 hc2 ⊢
   refine Ends.one (.inl ⟨_,rfl,⟨j + 1,e2,hj3,by dsimp only;exact hm2.mono (by omega),hc2⟩,?_⟩)
   dsimp only
   rw [e2]
   omega
  rintro ⟨m2,c2⟩ ⟨hm2,hc2⟩
  dsimp only at hm2 hc2 ⊢
  have tl2:=hm2.tl
  refine Ends.cat tl2 hl (by omega) fun t8 ht8=>?_
  refine Ends.catL ht8 (by decide) (by omega) fun t9 ht9=>?_
  exact Ends.one ⟨⟨hm2.n0,by have:=hm2.n1;dsimp only;omega,by dsimp only;omega,by dsimp only;omega,by dsimp only;omega,hm.is,hm.bs⟩,hc2⟩
theorem E_Text {c:Gl01Cur} (hc:Cur c) {most:Int} (h1:0 < most) (h2:most ≤ 20):Ends (mM c most) (fun r=>Cur r.2∧r.1.size ≤ 10000000):=by
 unfold mM
 refine aDm hc fun w q hq=>?_
 dsimp only
 refine Ends.bind (P:=fun r:Gl05Made × Gl01Cur=>MOk 2000 r.1∧Cur r.2) ?_ ?_
 ·refine Ends.loop (fun s:Int × Gl05Made × Gl01Cur=>∃ j:Nat,s.1=j∧j ≤ 22∧MOk (1 + j * 46) s.2.1∧Cur s.2.2) (fun s=>22 - s.1.toNat) _ ?_ ⟨0,rfl,by omega,⟨by dsimp only;omega,by dsimp only;omega,by dsimp only;simp,by dsimp only;simp,by dsimp only;exact of_decide_eq_true (by kernel_rfl),by simp,by simp⟩,hq⟩
  rintro ⟨i,m1,c1⟩ ⟨j,rfl,hj,hm1,hc1⟩
  dsimp only at hm1 hc1
  unfold kV
  refine oQ hc1 fun r q h3 h4 h5=>?_
  dsimp only
  have hr:=h5 h1
  rw [w64 (n:=2 + r) (by omega) (by omega)]
  refine Ends.ite (fun h=>?_) fun h=>Ends.one (.inr ⟨_,rfl,hm1.mono (by omega),h3⟩)
  simp only [decide_eq_true_eq] at h
  have e2:IntKind.wrap .i64 ((j:Int) + 1)=((j + 1:Nat):Int):=by rw [w64 (by omega) (by omega)];omega
  refine Ends.bind ((aHd 1048576).1 2 (1 + j * 46) m1 q true (by omega) (by omega) hm1 h3 (by show 1 + j * 46 + 46 ≤ 90000;omega)) ?_
  rintro ⟨m2,c2⟩ ⟨hm2,hc2⟩
  dsimp only at hm2 hc2 ⊢
  refine Ends.one (.inl ⟨_,rfl,⟨j + 1,e2,by omega,by dsimp only;exact hm2.mono (by show 1 + j * 46 + 46 ≤ _;omega),hc2⟩,?_⟩)
  dsimp only
  rw [e2]
  omega
 rintro ⟨m2,c2⟩ ⟨hm2,hc2⟩
 dsimp only at hm2 hc2 ⊢
 exact Ends.catL hm2.tl (by decide) (by omega) fun t ht=>Ends.one ⟨hc2,by dsimp only;omega⟩
end Go.OM
namespace Go.OM
theorem Ends.sat {α:Type} {Q:α→Prop} {z:ByteArray} {i:Int} {f:Int→Option α} (h0:0 ≤ i) (h1:i < z.size) (k:Ends (f (oM z i)) Q):Ends ((sAt z i).bind f) Q:=by
 unfold sAt
 rw [if_pos ⟨h0,h1⟩]
 exact k
theorem Ends.sub {α:Type} {Q:α→Prop} {z:ByteArray} {lo hi:Int} {f:ByteArray→Option α} (h0:0 ≤ lo) (h1:lo ≤ hi) (h2:hi ≤ z.size) (k:∀ t:ByteArray,(t.size:Int)=hi - lo→Ends (f t) Q):Ends ((fD z lo hi).bind f) Q:=by
 unfold fD
 rw [if_pos ⟨h0,h1,h2⟩]
 refine k _ ?_
 rw [ByteArray.size_extract]
 omega
def SG (l:List GSign):Prop:=∀ s ∈ l,s.Text.size ≤ 3000
theorem SG.snoc {l:List GSign} {s:GSign} (h:SG l) (hs:s.Text.size ≤ 3000):SG (l ++ [s]):=by
 intro x hx
 rcases List.mem_append.1 hx with hx | hx
 ·exact h x hx
 rw [List.mem_singleton.1 hx];exact hs
theorem aHq {r:ByteArray} (h:¬ sEq r (⟨#[]⟩:ByteArray)=true):0 < r.size:=by
 rcases Nat.eq_zero_or_pos r.size with h0 | h0
 ·exfalso
  apply h
  rw [aB6,decide_eq_true_eq]
  cases r with
  | mk a =>
   congr 1
   exact Array.eq_empty_of_size_eq_zero h0
 exact h0
theorem E_Mark {t:ByteArray} {at_:Int} (ht:t.size ≤ 3000) (h0:0 ≤ at_) (h1:at_ ≤ t.size):Ends (jA t at_) (fun r=>r.size ≤ 2∧at_ + (r.size:Int) ≤ t.size):=by
 unfold jA
 refine Ends.bind (P:=fun l:List ByteArray=>l.length ≤ 20∧∀ x ∈ l,x.size ≤ 2) ?_ fun l ⟨hl,hs⟩=>?_
 ·unfold lA
  refine Ends.one ⟨by decide,fun x hx=>?_⟩
  simp only [List.mem_cons,List.mem_nil_iff,or_false] at hx
  rcases hx with rfl | rfl | rfl | rfl | rfl | rfl | rfl | rfl | rfl | rfl | rfl | rfl | rfl | rfl<;>decide
 refine Ends.bind (P:=fun r:Unit ⊕ ByteArray=>r = .inl () ∨ ∃ x:ByteArray,r = .inr x∧x.size ≤ 2∧at_ + (x.size:Int) ≤ t.size) ?_ ?_
 ·refine Ends.loop (fun i:Int=>0 ≤ i) (fun i=>20 - i.toNat) _ (fun i hi=>?_) (Int.le_refl _)
  unfold iZ
  refine Ends.ite (fun h=>?_) fun h=>Ends.one (.inr ⟨_,rfl,.inl rfl⟩)
  simp only [decide_eq_true_eq] at h
  have hw:IntKind.wrap .i64 (i + 1)=i + 1:=w64 (by omega) (by omega)
  obtain ⟨j,rfl⟩:=Int.eq_ofNat_of_zero_le hi
  have hj:j < l.length:=by exact_mod_cast h
  have hg:aY l (j:Int)=some l[j]:=bJ hj
  have hsz:=hs _ (List.getElem_mem hj)
  have hw2:IntKind.wrap .i64 (at_ + (l[j].size:Int))=at_ + (l[j].size:Int):=w64 (by omega) (by omega)
  rw [hg]
  simp only [Option.bind_some,hw2]
  refine Ends.bind (P:=fun v=>v=true→at_ + (l[j].size:Int) ≤ t.size) ?_ fun v hv=>?_
  ·refine Ends.ite (fun h2=>?_) fun h2=>Ends.one fun h=>by cases h
   simp only [decide_eq_true_eq] at h2
   exact Ends.sub h0 (by omega) h2 fun u hu=>Ends.one fun _=>h2
  refine Ends.ite (fun h2=>Ends.one (.inr ⟨_,rfl,.inr ⟨_,rfl,hsz,hv h2⟩⟩)) fun h2=>Ends.one (.inl ⟨_,rfl,?_,?_⟩)
  ·rw [hw];omega
  rw [hw];omega
 rintro r (rfl | ⟨x,rfl,h2,h3⟩)
 ·exact Ends.one ⟨by decide,by show at_ + ((0:Nat):Int) ≤ _;omega⟩
 exact Ends.one ⟨h2,h3⟩
theorem E_l2 {t:ByteArray} (ht:t.size ≤ 3000) {a:Int} (h0:0 ≤ a) (h1:a ≤ t.size):Ends (aJ (jC t) a) (fun n=>a ≤ n∧n ≤ t.size∧(n < t.size→kM (oM t n)=false)):=by
 refine Ends.loop (fun n:Int=>a ≤ n∧n ≤ t.size) (fun n=>t.size - n.toNat) _ ?_ ⟨Int.le_refl _,h1⟩
 rintro n ⟨h2,h3⟩
 unfold jC
 have hw:IntKind.wrap .i64 (n + 1)=n + 1:=w64 (by omega) (by omega)
 by_cases h:n < t.size
 ·rw [if_pos (by simpa using h)]
  refine Ends.bind (P:=fun v=>v=(kM (oM t n) || lG (oM t n))) ?_ ?_
  ·refine Ends.sat (by omega) h ?_
   rw [jP]
   simp only [Option.bind_some,jQ]
   refine Ends.ite (fun h=>Ends.one (by rw [h];rfl)) fun h=>Ends.one (by rw [show kM (oM t n)=false by simpa using h];rfl)
  rintro v rfl
  refine Ends.ite (fun h4=>Ends.one (.inl ⟨_,rfl,by rw [hw];omega,by rw [hw];omega⟩)) fun h4=>Ends.one (.inr ⟨_,rfl,h2,h3,fun _=>?_⟩)
  simp only [Bool.or_eq_true,not_or] at h4
  simpa using h4.1
 rw [if_neg (by simpa using h)]
 exact Ends.one (.inr ⟨_,rfl,h2,h3,fun h4=>absurd h4 h⟩)
theorem E_l3 {t:ByteArray} (ht:t.size ≤ 3000) {a:Int} (h0:0 ≤ a) (h1:a ≤ t.size):Ends (aJ (jB t a) (a,0)) (fun n=>a ≤ n.1∧n.1 ≤ t.size∧(n.1=a→n.1 < t.size→lG (oM t n.1)=false)):=by
 refine Ends.loop (fun n:Int × Int=>a ≤ n.1∧n.1 ≤ t.size) (fun n=>t.size - n.1.toNat) _ ?_ ⟨Int.le_refl _,h1⟩
 rintro ⟨n,v⟩ ⟨h2,h3⟩
 dsimp only at h2 h3
 unfold jB
 have hw:IntKind.wrap .i64 (n + 1)=n + 1:=w64 (by omega) (by omega)
 have hw2:IntKind.wrap .i64 (n - a)=n - a:=w64 (by omega) (by omega)
 dsimp only
 by_cases h:n < t.size
 ·rw [if_pos (by simpa using h),hw2]
  refine Ends.bind (P:=fun v=>v=(lG (oM t n) && decide (n - a ≤ 10))) ?_ ?_
  ·refine Ends.sat (by omega) h ?_
   rw [jQ]
   simp only [Option.bind_some]
   refine Ends.ite (fun h=>Ends.one (by rw [h];rfl)) fun h=>Ends.one (by rw [show lG (oM t n)=false by simpa using h];rfl)
  rintro v rfl
  refine Ends.ite (fun h4=>Ends.sat (by omega) h (Ends.one (.inl ⟨_,rfl,?_,?_⟩))) fun h4=>Ends.one (.inr ⟨_,rfl,h2,h3,fun h5 _=>?_⟩)
  ·dsimp only;rw [hw];omega
  ·dsimp only;rw [hw];omega
  dsimp only at h5 ⊢
  cases hf:lG (oM t n) with
  | false=>rfl
  | true=>rw [hf] at h4;simp [h5] at h4
 rw [if_neg (by simpa using h)]
 exact Ends.one (.inr ⟨_,rfl,h2,h3,fun _ h4=>absurd h4 h⟩)
theorem aIv (t:ByteArray):Ends (jE t) (fun r=>r.1.length ≤ 3000∧SG r.1):=by
 unfold jE
 refine Ends.ite (fun _=>Ends.one ⟨by simp,by intro s hs;cases hs⟩) fun h=>?_
 have ht:t.size ≤ 3000:=by simp only [decide_eq_true_eq] at h;omega
 refine Ends.bind (P:=fun r:List GSign ⊕ (List GSign × Bool)=>(∃ o,r = .inl o∧o.length ≤ 3000∧SG o) ∨ ∃ o b,r = .inr (o,b)∧o.length ≤ 3000∧SG o) ?_ ?_
 ·refine Ends.loop (fun s:List GSign × Int=>0 ≤ s.2∧s.2 ≤ t.size∧s.1.length ≤ s.2∧SG s.1) (fun s=>t.size - s.2.toNat) _ ?_ ⟨by simp,by simp,by simp,by intro s hs;cases hs⟩
  rintro ⟨out,a⟩ ⟨h0,h1,h2,h3⟩
  dsimp only at h0 h1 h2 h3
  unfold jD
  dsimp only
  have hnil:([]:List GSign).length ≤ 3000∧SG []:=⟨by simp,by intro s hs;cases hs⟩
  refine Ends.ite (fun h4=>?_) fun h4=>Ends.one (.inr ⟨_,rfl,.inl ⟨_,rfl,by omega,h3⟩⟩)
  simp only [decide_eq_true_eq] at h4
  have hw:IntKind.wrap .i64 (a + 1)=a + 1:=w64 (by omega) (by omega)
  refine Ends.bind (P:=fun _=>True) (Ends.sat h0 h4 (Ends.ite (fun _=>Ends.one trivial) fun _=>Ends.one trivial)) fun v _=>?_
  refine Ends.ite (fun _=>Ends.one (.inl ⟨_,rfl,by dsimp only;rw [hw];exact ⟨by omega,by omega,by omega,h3⟩,by dsimp only;rw [hw];omega⟩)) fun _=>?_
  refine Ends.bind (P:=fun s=>s=Sum.inl (out,a,a) ∨ ∃ z,s=Sum.inr z∧((∃ b:List GSign × Int,z=Sum.inl b∧(0 ≤ b.2∧b.2 ≤ t.size∧b.1.length ≤ b.2∧SG b.1)∧t.size - b.2.toNat < t.size - a.toNat) ∨ ∃ r:List GSign ⊕ (List GSign × Bool),z=Sum.inr r∧((∃ o,r = .inl o∧o.length ≤ 3000∧SG o) ∨ ∃ o b,r = .inr (o,b)∧o.length ≤ 3000∧SG o))) ?_ ?_
  ·refine Ends.sat h0 h4 ?_
   rw [jP]
   simp only [Option.bind_some]
   refine Ends.ite (fun hl=>?_) fun _=>Ends.one (.inl rfl)
   refine Ends.bind (E_l2 ht h0 h1) fun n ⟨n1,n2,n3⟩=>?_
   refine Ends.ite (fun _=>Ends.one (.inr ⟨_,rfl,.inr ⟨_,rfl,.inr ⟨_,_,rfl,hnil⟩⟩⟩)) fun _=>?_
   have hna:a < n:=by
    rcases Int.lt_or_eq_of_le n1 with h5 | h5
    ·exact h5
    subst h5
    rw [n3 h4] at hl;cases hl
   refine Ends.sub h0 n1 n2 fun u hu=>Ends.app1 (by omega) (by omega) (Ends.one (.inr ⟨_,rfl,.inl ⟨_,rfl,⟨by dsimp only;omega,n2,?_,h3.snoc (by dsimp only;omega)⟩,?_⟩⟩))
   ·simp only [List.length_append,List.length_cons,List.length_nil];omega
   dsimp only;omega
  rintro s (rfl | ⟨z,rfl,hz⟩)
  ·dsimp only
   refine Ends.bind (P:=fun s=>s=Sum.inl (out,a) ∨ ∃ z,s=Sum.inr z∧((∃ b:List GSign × Int,z=Sum.inl b∧(0 ≤ b.2∧b.2 ≤ t.size∧b.1.length ≤ b.2∧SG b.1)∧t.size - b.2.toNat < t.size - a.toNat) ∨ ∃ r:List GSign ⊕ (List GSign × Bool),z=Sum.inr r∧((∃ o,r = .inl o∧o.length ≤ 3000∧SG o) ∨ ∃ o b,r = .inr (o,b)∧o.length ≤ 3000∧SG o))) ?_ ?_
   ·refine Ends.sat h0 h4 ?_
    rw [jQ]
    simp only [Option.bind_some]
    refine Ends.ite (fun hl=>?_) fun _=>Ends.one (.inl rfl)
    refine Ends.bind (E_l3 ht h0 h1) ?_
    rintro ⟨n,v⟩ ⟨n1,n2,n3⟩
    dsimp only at n1 n2 n3 ⊢
    refine Ends.bind (P:=fun _=>True) (Ends.ite (fun _=>Ends.one trivial) fun _=>Ends.one trivial) fun w _=>?_
    refine Ends.ite (fun _=>Ends.one (.inr ⟨_,rfl,.inr ⟨_,rfl,.inr ⟨_,_,rfl,hnil⟩⟩⟩)) fun _=>?_
    have hna:a < n:=by
     rcases Int.lt_or_eq_of_le n1 with h5 | h5
     ·exact h5
     subst h5
     rw [n3 rfl h4] at hl;cases hl
    refine Ends.app1 (by omega) (by omega) (Ends.one (.inr ⟨_,rfl,.inl ⟨_,rfl,⟨by dsimp only;omega,n2,?_,h3.snoc (by dsimp only;decide)⟩,?_⟩⟩))
    ·simp only [List.length_append,List.length_cons,List.length_nil];omega
    dsimp only;omega
   rintro s (rfl | ⟨z,rfl,hz⟩)
   ·dsimp only
    refine Ends.bind (E_Mark ht h0 h1) fun r ⟨hr,hr2⟩=>?_
    refine Ends.ite (fun _=>Ends.one (.inr ⟨_,rfl,.inr ⟨_,_,rfl,hnil⟩⟩)) fun h5=>?_
    have hp:=aHq h5
    have hw2:IntKind.wrap .i64 (a + (r.size:Int))=a + (r.size:Int):=w64 (by omega) (by omega)
    refine Ends.app1 (by omega) (by omega) (Ends.one (.inl ⟨_,rfl,?_,?_⟩))
    ·dsimp only
     rw [hw2]
     exact ⟨by omega,hr2,by simp only [List.length_append,List.length_cons,List.length_nil];omega,h3.snoc (by dsimp only;omega)⟩
    dsimp only;rw [hw2];omega
   exact Ends.one hz
  exact Ends.one hz
 rintro r (⟨o,rfl,h2⟩ | ⟨o,b,rfl,h2⟩)
 ·exact Ends.one h2
 exact Ends.one h2
end Go.OM
namespace Go.OM
def NOk (x:GNode):Prop:=x.Name.size ≤ 3000∧x.Kids.length ≤ 4000
structure ROk (r:Gl05Read):Prop where
 ll:r.list.length ≤ 3000
 sg:SG r.list
 a0:0 ≤ r.at_
 a1:r.at_ ≤ r.list.length
 d0:0 ≤ r.deep
 d1:r.deep ≤ 13
 nl:r.nodes.length ≤ 300
 nk:∀ x ∈ r.nodes,NOk x
structure Adv (r0:Gl05Read) (p:Prop) (r:Gl05Read):Prop where
 ok:ROk r
 li:r.list=r0.list
 le:r0.at_ ≤ r.at_
 bd:r0.bad=true→r.bad=true
 dp:r.deep=r0.deep
 pr:p→(r.bad=true ∨ r0.at_ < r.at_)
theorem Adv.refl {r:Gl05Read} (h:ROk r):Adv r False r:=⟨h,rfl,Int.le_refl _,id,rfl,False.elim⟩
theorem Adv.trans {r0 r r':Gl05Read} {p:Prop} (h1:Adv r0 p r) (h2:Adv r True r'):Adv r0 True r' :=
 ⟨h2.ok,h2.li.trans h1.li,Int.le_trans h1.le h2.le,fun h=>h2.bd (h1.bd h),h2.dp.trans h1.dp,fun _=>by
  have:=h1.le
  rcases h2.pr trivial with h | h
  ·exact .inl h
  right;omega⟩
theorem Adv.trans' {r0 r r':Gl05Read} {p:Prop} (h1:Adv r0 p r) (h2:Adv r False r'):Adv r0 p r' :=
 ⟨h2.ok,h2.li.trans h1.li,Int.le_trans h1.le h2.le,fun h=>h2.bd (h1.bd h),h2.dp.trans h1.dp,fun hp=>by
  have:=h2.le
  rcases h1.pr hp with h | h
  ·exact .inl (h2.bd h)
  right;omega⟩
theorem Adv.weak {r0 r:Gl05Read} {p q:Prop} (h1:Adv r0 p r) (h:q→p):Adv r0 q r:=⟨h1.ok,h1.li,h1.le,h1.bd,h1.dp,fun hq=>h1.pr (h hq)⟩
theorem Adv.fail {r0 r:Gl05Read} {p:Prop} (h:Adv r0 p r):Adv r0 True ⟨r.list,r.at_,true,r.deep,r.nodes⟩ :=
 ⟨⟨h.ok.ll,h.ok.sg,h.ok.a0,h.ok.a1,h.ok.d0,h.ok.d1,h.ok.nl,h.ok.nk⟩,h.li,h.le,fun _=>rfl,h.dp,fun _=>.inl rfl⟩
def rmu (r:Gl05Read):Nat:=2 * (r.list.length - r.at_.toNat) + (if r.bad=true then 0 else 1)
theorem aEu {r r':Gl05Read} (h0:ROk r) (h:Adv r True r') (hb:r.bad=false):rmu r' < rmu r:=by
 unfold rmu
 have h7:=h0.a0
 have h1:=h.li
 have h2:=h.le
 have h3:=h.ok.a1
 have h4:=h.ok.a0
 rw [h1] at h3 ⊢
 rw [hb]
 simp only [Bool.false_eq_true,if_false]
 rcases h.pr trivial with h5 | h5
 ·rw [h5];simp only [if_true];omega
 split<;>omega
variable {α:Type} {Q:α→Prop}
theorem E_is {r:Gl05Read} {k:Int} {t:ByteArray} (h:ROk r):Ends (cS r k t) (fun x=>x.2=r∧(x.1=true→r.bad=false∧r.at_ < r.list.length)):=by
 unfold cS
 refine Ends.bind (P:=fun v=>v=true→r.bad=false∧r.at_ < r.list.length) ?_ fun v hv=>Ends.one ⟨rfl,hv⟩
 refine Ends.ite (fun h1=>Ends.ite (fun h2=>?_) fun _=>Ends.one fun h=>by cases h) fun _=>Ends.one fun h=>by cases h
 simp only [decide_eq_true_eq] at h2
 refine Ends.get h.a0 h2 fun e _=>Ends.ite (fun _=>Ends.one fun _=>⟨by simpa using h1,h2⟩) fun _=>Ends.one fun h=>by cases h
theorem C_is {r:Gl05Read} {k:Int} {t:ByteArray} {f:Bool × Gl05Read→Option α} (h:ROk r) (K:∀ b,Ends (f (b,r)) Q):Ends ((cS r k t).bind f) Q :=
 Ends.bind (E_is h) fun ⟨b,r'⟩ ⟨h1,_⟩=>by
  simp only at h1
  subst h1
  exact K b
theorem cZ {r0 r:Gl05Read} {p:Prop} {k:Int} {t:ByteArray} {f:Bool × Gl05Read→Option α} (h:Adv r0 p r) (K1:∀ r',r.bad=false→Adv r0 True r'→Ends (f (true,r')) Q) (K2:∀ r',Adv r0 p r'→Ends (f (false,r')) Q):Ends ((aE r k t).bind f) Q:=by
 unfold aE
 refine Ends.bind (P:=fun x=>(x.1=true∧r.bad=false∧Adv r0 True x.2) ∨ (x.1=false∧Adv r0 p x.2)) ?_ ?_
 ·refine Ends.bind (E_is h.ok) ?_
  rintro ⟨b,r'⟩ ⟨h1,h2⟩
  dsimp only at h1 h2 ⊢
  subst h1
  refine Ends.ite (fun hb=>Ends.one (.inl ⟨rfl,(h2 hb).1,?_⟩)) fun hb=>Ends.one (.inr ⟨rfl,h⟩)
  have h3:=(h2 hb).2
  have h4:=h.ok.ll
  have h5:=h.ok.a0
  have h6:=h.le
  dsimp only
  rw [w64 (by omega) (by omega)]
  exact ⟨⟨h.ok.ll,h.ok.sg,by dsimp only;omega,by dsimp only;omega,h.ok.d0,h.ok.d1,h.ok.nl,h.ok.nk⟩,h.li,by dsimp only;omega,h.bd,h.dp,fun _=>.inr (by dsimp only;omega)⟩
 rintro ⟨b,r'⟩ (⟨h1,h2,h3⟩ | ⟨h1,h2⟩)
 ·dsimp only at h1 h3
  subst h1
  exact K1 r' h2 h3
 dsimp only at h1 h2
 subst h1
 exact K2 r' h2
theorem pD {r0 r:Gl05Read} {p:Prop} {t:ByteArray} {f:Gl05Read→Option α} (h:Adv r0 p r) (K:∀ r',Adv r0 True r'→Ends (f r') Q):Ends ((aR r t).bind f) Q:=by
 unfold aR
 refine Ends.bind (P:=fun r'=>Adv r0 True r') ?_ K
 refine cZ h (fun r' _ h1=>?_) fun r' h1=>?_
 ·exact Ends.one h1
 exact Ends.one h1.fail
theorem tR {r0 r:Gl05Read} {p:Prop} {f:ByteArray × Gl05Read→Option α} (h:Adv r0 p r) (K:∀ s r',s.size ≤ 3000→Adv r0 True r'→Ends (f (s,r')) Q):Ends ((bC r).bind f) Q:=by
 unfold bC
 refine Ends.bind (P:=fun x=>x.1.size ≤ 3000∧Adv r0 True x.2) ?_ fun ⟨s,r'⟩ h=>K s r' h.1 h.2
 refine Ends.bind (P:=fun v=>v=false→r.at_ < r.list.length) ?_ fun v hv=>?_
 ·refine Ends.ite (fun _=>Ends.one fun h=>by cases h) fun _=>Ends.ite (fun _=>Ends.one fun h=>by cases h) fun h2=>?_
  have h3:r.at_ < r.list.length:=by simp only [decide_eq_true_eq] at h2;omega
  refine Ends.get h.ok.a0 h3 fun e _=>Ends.ite (fun _=>Ends.one fun h=>by cases h) fun _=>?_
  rw [mH]
  exact Ends.one fun _=>h3
 refine Ends.ite (fun _=>Ends.one ⟨by dsimp only;decide,h.fail⟩) fun hv2=>?_
 have h3:=hv (by simpa using hv2)
 have h4:=h.ok.ll
 have h5:=h.ok.a0
 have h6:=h.le
 have e1:IntKind.wrap .i64 (r.at_ + 1)=r.at_ + 1:=w64 (by omega) (by omega)
 have e2:IntKind.wrap .i64 (r.at_ + 1 - 1)=r.at_:=by rw [w64 (by omega) (by omega)];omega
 rw [e1,e2]
 refine Ends.get h5 h3 fun e he=>Ends.one ⟨h.ok.sg e he,?_⟩
 exact ⟨⟨h.ok.ll,h.ok.sg,by dsimp only;omega,by dsimp only;omega,h.ok.d0,h.ok.d1,h.ok.nl,h.ok.nk⟩,h.li,by dsimp only;omega,h.bd,h.dp,fun _=>.inr (by dsimp only;omega)⟩
theorem tF {r0 r:Gl05Read} {p:Prop} {x:GNode} {f:Int × Gl05Read→Option α} (h:Adv r0 p r) (hx:NOk x) (K:∀ k r',Adv r0 p r'→Ends (f (k,r')) Q):Ends ((aH r x).bind f) Q:=by
 unfold aH
 refine Ends.bind (P:=fun x=>Adv r0 p x.2) ?_ fun ⟨k,r'⟩ h=>K k r' h
 refine Ends.bind (P:=fun v=>v=false→r.nodes.length < 300) ?_ fun v hv=>?_
 ·refine Ends.ite (fun _=>Ends.one fun h=>by cases h) fun _=>Ends.one fun h=>?_
  simp only [decide_eq_false_iff_not] at h
  omega
 refine Ends.ite (fun _=>Ends.one (h.fail.weak fun _=>trivial)) fun hv2=>?_
 have h3:=hv (by simpa using hv2)
 refine Ends.app1 (by omega) (by omega) (Ends.one ⟨⟨h.ok.ll,h.ok.sg,h.ok.a0,h.ok.a1,h.ok.d0,h.ok.d1,?_,fun y hy=>?_⟩,h.li,h.le,h.bd,h.dp,h.pr⟩)
 ·simp only [List.length_append,List.length_cons,List.length_nil];omega
 rcases List.mem_append.1 hy with hy | hy
 ·exact h.ok.nk y hy
 rw [List.mem_singleton.1 hy];exact hx
theorem C_lent {r0 r:Gl05Read} {p:Prop} {f:Int × Gl05Read→Option α} (h:Adv r0 p r) (K:∀ k r',Adv r0 True r'→Ends (f (k,r')) Q):Ends ((dS r).bind f) Q:=by
 unfold dS
 refine Ends.bind (P:=fun x=>Adv r0 True x.2) ?_ fun ⟨k,r'⟩ h=>K k r' h
 refine cZ h (fun r' _ h1=>?_) fun r' h1=>?_
 ·refine tR h1 fun s r2 hs h2=>tF h2 ⟨hs,by simp⟩ fun k r3 h3=>Ends.one h3
 refine tR h1 fun s r2 hs h2=>tF h2 ⟨hs,by simp⟩ fun k r3 h3=>Ends.one h3
def Kl (l:Nat) (r:Gl05Read):Prop:=(l:Int) ≤ r.at_ + (if r.bad=true then 1 else 0)
theorem Kl.le {l:Nat} {r:Gl05Read} (h:Kl l r) (hr:ROk r):l ≤ 3001:=by
 unfold Kl at h
 have h1:=hr.a1
 have h2:=hr.ll
 split at h<;>omega
theorem Kl.zero {r:Gl05Read} (h:ROk r):Kl 0 r:=by
 unfold Kl
 have:=h.a0
 split<;>omega
theorem Kl.step {l:Nat} {r r':Gl05Read} (h:Kl l r) (hb:r.bad=false) (ha:Adv r True r'):Kl (l + 1) r':=by
 unfold Kl at *
 rw [hb] at h
 simp only [Bool.false_eq_true,if_false] at h
 have h2:=ha.le
 rcases ha.pr trivial with h3 | h3
 ·rw [h3];simp only [if_true];omega
 split<;>omega
theorem wY {a b:Option α}:(if (true=true) then a else b)=a:=rfl
theorem mV {a b:Option α}:(if (false=true) then a else b)=b:=rfl
theorem aKj {a b:Option α}:(if ((!false)=true) then a else b)=a:=rfl
theorem aFt:∀ f:Nat,∀ r:Gl05Read,ROk r →
  (4 * (13 - r.deep).toNat + 3 ≤ f→Ends ((aA f).1 r) (fun x=>Adv r True x.2)) ∧
  (4 * (13 - r.deep).toNat + 2 ≤ f→Ends ((aA f).2.1 r) (fun x=>Adv r True x.2)) ∧
  (4 * (13 - r.deep).toNat + 1 ≤ f→Ends ((aA f).2.2.1 r) (fun x=>Adv r True x.2)) ∧
  (∀ nm:ByteArray,nm.size ≤ 3000→4 * (13 - r.deep).toNat + 4 ≤ f→Ends ((aA f).2.2.2 r nm) (fun x=>Adv r False x.2)):=by
 intro f
 induction f with
 | zero=>exact fun r hr=>⟨fun h=>by omega,fun h=>by omega,fun h=>by omega,fun nm hn h=>by omega⟩
 | succ f ih =>
  intro r hr
  refine ⟨fun hf=>?_,fun hf=>?_,fun hf=>?_,fun nm hn hf=>?_⟩
  ·show Ends (cL (aA f).1 (aA f).2.1 (aA f).2.2.1 (aA f).2.2.2 r) _
   unfold cL
   have S:∀ {p:Prop} {r1:Gl05Read},Adv r p r1→Ends ((aA f).2.1 r1) (fun x=>Adv r True x.2):=fun h=>((ih _ h.ok).2.1 (by rw [h.dp];omega)).mono fun x hx=>h.trans hx
   refine Ends.bind (S (Adv.refl hr)) ?_
   rintro ⟨k,r1⟩ h1
   dsimp only at h1 ⊢
   refine Ends.bind (P:=fun x:Int × Gl05Read=>Adv r True x.2) ?_ ?_
   ·refine cZ h1 (fun r2 _ h2=>Ends.one h2) fun r2 h2=>?_
    dsimp only
    rw [mV]
    exact cZ h2 (fun r3 _ h3=>Ends.one h3) fun r3 h3=>Ends.one h3
   rintro ⟨kd,r2⟩ h2
   dsimp only at h2 ⊢
   refine Ends.ite (fun _=>?_) fun _=>Ends.one h2
   refine Ends.bind (S h2) ?_
   rintro ⟨k2,r3⟩ h3
   exact tF h3 ⟨by dsimp only;decide,by simp⟩ fun k r4 h4=>Ends.one h4
  ·show Ends (dM (aA f).1 (aA f).2.1 (aA f).2.2.1 (aA f).2.2.2 r) _
   unfold dM
   have S:∀ {p:Prop} {r0 r1:Gl05Read},r0.deep=r.deep→Adv r0 p r1→Ends ((aA f).2.2.1 r1) (fun x=>Adv r0 True x.2):=fun hd h=>((ih _ h.ok).2.2.1 (by rw [h.dp,hd];omega)).mono fun x hx=>h.trans hx
   refine Ends.bind (S rfl (Adv.refl hr)) ?_
   rintro ⟨k,r1⟩ h1
   dsimp only at h1 ⊢
   refine Ends.bind (P:=fun x:Int × Gl05Read=>Adv r True x.2) ?_ ?_
   ·refine Ends.loop (fun s:Int × Gl05Read=>Adv r True s.2) (fun s=>rmu s.2) _ ?_ h1
    rintro ⟨k2,r2⟩ h2
    dsimp only at h2
    unfold eV
    dsimp only
    refine cZ (Adv.refl h2.ok) (fun r3 hb h3=>?_) fun r3 h3=>?_
    ·dsimp only
     rw [wY]
     refine Ends.bind (S h2.dp h3) ?_
     rintro ⟨k3,r4⟩ h4
     refine tF h4 ⟨by dsimp only;decide,by simp⟩ fun k r5 h5=>Ends.one (.inl ⟨_,rfl,h2.trans h5,aEu h2.ok h5 hb⟩)
    exact Ends.one (.inr ⟨_,rfl,h2.trans' h3⟩)
   rintro ⟨k2,r2⟩ h2
   exact Ends.one h2
  ·show Ends (cW (aA f).1 (aA f).2.1 (aA f).2.2.1 (aA f).2.2.2 r) _
   unfold cW
   refine Ends.bind (P:=fun v=>v=false→r.at_ < r.list.length∧r.deep ≤ 12) ?_ fun v hv=>?_
   ·refine Ends.ite (fun _=>Ends.one fun h=>by cases h) fun _=>Ends.ite (fun _=>Ends.one fun h=>by cases h) fun h2=>Ends.one fun h3=>?_
    simp only [decide_eq_true_eq,decide_eq_false_iff_not] at h2 h3
    exact ⟨by omega,by omega⟩
   refine Ends.ite (fun _=>Ends.one (Adv.refl hr).fail) fun hv2=>?_
   obtain ⟨h3,h4⟩:=hv (by simpa using hv2)
   have h5:=hr.ll
   have h6:=hr.a0
   have h7:=hr.d0
   have e1:IntKind.wrap .i64 (r.at_ + 1)=r.at_ + 1:=w64 (by omega) (by omega)
   have e2:IntKind.wrap .i64 (r.at_ + 1 - 1)=r.at_:=by rw [w64 (by omega) (by omega)];omega
   have e3:IntKind.wrap .i64 (r.deep + 1)=r.deep + 1:=w64 (by omega) (by omega)
   rw [e1,e2,e3]
   obtain ⟨r1,hr1⟩:∃ r1:Gl05Read,r1=⟨r.list,r.at_,r.bad,r.deep + 1,r.nodes⟩:=⟨_,rfl⟩
   have ok1:ROk r1:=by subst hr1;exact ⟨hr.ll,hr.sg,hr.a0,hr.a1,by dsimp only;omega,by dsimp only;omega,hr.nl,hr.nk⟩
   have b1:=Adv.refl ok1
   have dp1:r1.deep=r.deep + 1:=by subst hr1;rfl
   have V:∀ {p:Prop} {r2:Gl05Read},Adv r1 p r2→Ends ((aA f).1 r2) (fun x=>Adv r1 True x.2):=fun h=>((ih _ h.ok).1 (by rw [h.dp,dp1];omega)).mono fun x hx=>h.trans hx
   have T:∀ {p:Prop} {r2:Gl05Read},Adv r1 p r2→Ends ((aA f).2.2.1 r2) (fun x=>Adv r1 True x.2):=fun h=>((ih _ h.ok).2.2.1 (by rw [h.dp,dp1];omega)).mono fun x hx=>h.trans hx
   have A:∀ {p:Prop} {r2:Gl05Read} {nm:ByteArray},nm.size ≤ 3000→Adv r1 p r2→Ends ((aA f).2.2.2 r2 nm) (fun x=>Adv r1 p x.2):=fun hn h=>((ih _ h.ok).2.2.2 _ hn (by rw [h.dp,dp1];omega)).mono fun x hx=>h.trans' hx
   refine Ends.bind (P:=fun x:Int × Gl05Read=>Adv r1 True x.2) ?_ ?_
   ·rw [← hr1]
    refine Ends.get h6 h3 fun e he=>?_
    refine Ends.ite (fun _=>?_) fun _=>?_
    ·refine Ends.get h6 h3 fun e2 he2=>?_
     have h8:Adv r1 True ⟨r.list,r.at_ + 1,r.bad,r.deep + 1,r.nodes⟩:=by
      subst hr1
      exact ⟨⟨hr.ll,hr.sg,by dsimp only;omega,by dsimp only;omega,by dsimp only;omega,by dsimp only;omega,hr.nl,hr.nk⟩,rfl,by dsimp only;omega,id,rfl,fun _=>.inr (by dsimp only;omega)⟩
     exact tF h8 ⟨by dsimp only;decide,by simp⟩ fun k r4 h4=>Ends.one h4
    refine cZ b1 (fun r2 _ h2=>?_) fun r2 h2=>?_
    ·exact tR h2 fun s r3 hs h3=>tF h3 ⟨hs,by simp⟩ fun k r4 h4=>Ends.one h4
    dsimp only;rw [mV]
    refine cZ h2 (fun r3 _ h3=>?_) fun r3 h3=>?_
    ·exact C_lent h3 fun k r4 h4=>Ends.one h4
    dsimp only;rw [mV]
    refine cZ h3 (fun r4 _ h4=>?_) fun r4 h4=>?_
    ·dsimp only;rw [wY]
     refine Ends.bind (V h4) ?_
     rintro ⟨k,r5⟩ h5
     exact pD h5 fun r6 h6=>Ends.one h6
    dsimp only;rw [mV]
    refine cZ h4 (fun r5 _ h5=>?_) fun r5 h5=>?_
    ·exact tR h5 fun s r6 hs h6=>tF h6 ⟨hs,by simp⟩ fun k r7 h7=>Ends.one h7
    dsimp only;rw [mV]
    refine cZ h5 (fun r6 _ h6=>?_) fun r6 h6=>?_
    ·exact tF h6 ⟨by dsimp only;decide,by simp⟩ fun k r7 h7=>Ends.one h7
    dsimp only;rw [mV]
    refine cZ h6 (fun r7 _ h7=>?_) fun r7 h7=>?_
    ·dsimp only;rw [wY]
     refine Ends.bind (T h7) ?_
     rintro ⟨k,r8⟩ h8
     exact tF h8 ⟨by dsimp only;decide,by simp⟩ fun k r9 h9=>Ends.one h9
    dsimp only;rw [mV]
    refine tR h7 fun s r8 hs h8=>?_
    dsimp only
    refine cZ h8 (fun r9 _ h9=>?_) fun r9 h9=>?_
    ·dsimp only;rw [wY]
     refine Ends.bind (A hs h9) ?_
     rintro ⟨k,r10⟩ h10
     exact Ends.one h10
    exact tF h9 ⟨hs,by simp⟩ fun k r10 h10=>Ends.one h10
   rintro ⟨k,r2⟩ h2
   dsimp only at h2 ⊢
   have h8:=h2.dp
   have e4:IntKind.wrap .i64 (r2.deep - 1)=r.deep:=by rw [h8,dp1,w64 (by omega) (by omega)];omega
   rw [e4]
   subst hr1
   exact Ends.one ⟨⟨h2.ok.ll,h2.ok.sg,h2.ok.a0,h2.ok.a1,by dsimp only;omega,by dsimp only;omega,h2.ok.nl,h2.ok.nk⟩,h2.li,h2.le,h2.bd,rfl,h2.pr⟩
  show Ends (cY (aA f).1 (aA f).2.1 (aA f).2.2.1 (aA f).2.2.2 r nm) _
  unfold cY
  have V:∀ {p:Prop} {r0 r1:Gl05Read},r0.deep=r.deep→Adv r0 p r1→Ends ((aA f).1 r1) (fun x=>Adv r0 True x.2):=fun hd h=>((ih _ h.ok).1 (by rw [h.dp,hd];omega)).mono fun x hx=>h.trans hx
  refine Ends.bind (P:=fun x:List Int × Gl05Read=>Adv r False x.2∧x.1.length ≤ 4000) ?_ ?_
  ·refine cZ (Adv.refl hr) (fun r1 _ h1=>Ends.one ⟨h1.weak fun h=>trivial,by simp⟩) fun r1 h1=>?_
   dsimp only
   rw [aKj]
   refine Ends.loop (fun s:List Int × Gl05Read=>Adv r False s.2∧Kl s.1.length s.2) (fun s=>rmu s.2) _ ?_ ⟨h1,Kl.zero h1.ok⟩
   rintro ⟨ks,r2⟩ ⟨h2,h3⟩
   dsimp only at h2 h3
   have hk:=h3.le h2.ok
   unfold eI
   dsimp only
   refine Ends.ite (fun hb=>?_) fun hb=>Ends.one (.inr ⟨_,rfl,h2,by dsimp only;omega⟩)
   have hb':r2.bad=false:=by simpa using hb
   refine Ends.bind (V h2.dp (Adv.refl h2.ok)) ?_
   rintro ⟨k,r3⟩ h4
   dsimp only at h4 ⊢
   refine Ends.app1 (by omega) (by omega) ?_
   refine cZ h4 (fun r4 _ h5=>?_) fun r4 h5=>?_
   ·refine Ends.one (.inr ⟨_,rfl,h2.trans' (h5.weak fun _=>trivial),?_⟩)
    simp only [List.length_append,List.length_cons,List.length_nil];omega
   dsimp only
   rw [mV]
   refine pD h5 fun r5 h6=>Ends.one (.inl ⟨_,rfl,⟨h2.trans' (h6.weak fun _=>trivial),?_⟩,aEu h2.ok h6 hb'⟩)
   simp only [List.length_append,List.length_cons,List.length_nil]
   exact h3.step hb' h6
  rintro ⟨ks,r1⟩ ⟨h1,h2⟩
  exact tF h1 ⟨hn,h2⟩ fun k r2 h3=>Ends.one h3
end Go.OM
namespace Go.OM
variable {α:Type} {Q:α→Prop}
theorem aBw {r0 r:Gl05Read} {p:Prop} (h:Adv r0 p r):Ends (dL r) (fun x=>Adv r0 True x.2):=by
 have h0:=h.ok.d0
 exact ((aFt 1048576 r h.ok).1 (by omega)).mono fun x hx=>h.trans hx
theorem zN {r0 r:Gl05Read} {p:Prop} {kd:Int} {nm:ByteArray} {f:Int × Gl05Read→Option α} (h:Adv r0 p r) (hn:nm.size ≤ 3000) (K:∀ k r',Adv r0 True r'→Ends (f (k,r')) Q):Ends ((bQ r kd nm).bind f) Q:=by
 unfold bQ
 refine Ends.bind (P:=fun x=>Adv r0 True x.2) ?_ fun ⟨k,r'⟩ h=>K k r' h
 refine Ends.bind (aBw h) ?_
 rintro ⟨k,r1⟩ h1
 exact pD h1 fun r2 h2=>tF h2 ⟨hn,by simp⟩ fun k r3 h3=>Ends.one h3
theorem aFv:∀ f:Nat,∀ r:Gl05Read,ROk r →
  (((r.bad=true∧1 ≤ f) ∨ (r.deep ≤ 12∧3 * (13 - r.deep).toNat + 1 ≤ f))→Ends ((aC f).1 r) (fun x=>Adv r False x.2∧x.1.length ≤ 4000)) ∧
  (r.deep ≤ 12→3 * (13 - r.deep).toNat ≤ f→Ends ((aC f).2.1 r) (fun x=>Adv r True x.2)) ∧
  (r.deep ≤ 12→3 * (13 - r.deep).toNat ≤ f + 1→Ends ((aC f).2.2 r) (fun x=>Adv r True x.2)):=by
 intro f
 induction f with
 | zero=>exact fun r hr=>⟨fun h=>by omega,fun hd h=>by omega,fun hd h=>by omega⟩
 | succ f ih =>
  intro r hr
  refine ⟨fun hf=>?_,fun hd hf=>?_,fun hd hf=>?_⟩
  ·show Ends (cM (aC f).1 (aC f).2.1 (aC f).2.2 r) _
   unfold cM
   refine Ends.bind (P:=fun x:List Int × Gl05Read=>Adv r False x.2∧x.1.length ≤ 4000) ?_ ?_
   ·refine Ends.loop (fun s:List Int × Gl05Read=>Adv r False s.2∧Kl s.1.length s.2) (fun s=>rmu s.2) _ ?_ ⟨Adv.refl hr,Kl.zero hr⟩
    rintro ⟨ks,r2⟩ ⟨h2,h3⟩
    dsimp only at h2 h3
    have hk:=h3.le h2.ok
    unfold eD
    dsimp only
    refine Ends.bind (P:=fun x:Bool × Gl05Read=>x.2=r2∧(x.1=true→r2.bad=false)) ?_ ?_
    ·refine Ends.ite (fun hb=>?_) fun hb=>Ends.one ⟨rfl,fun h=>by cases h⟩
     have hb':r2.bad=false:=by simpa using hb
     refine C_is h2.ok fun b=>?_
     dsimp only
     refine Ends.ite (fun _=>?_) fun _=>Ends.one ⟨rfl,fun h=>by cases h⟩
     exact C_is h2.ok fun b2=>Ends.one ⟨rfl,fun _=>hb'⟩
    rintro ⟨b,r3⟩ ⟨h4,h5⟩
    dsimp only at h4 h5 ⊢
    subst h4
    refine Ends.ite (fun hb=>?_) fun hb=>Ends.one (.inr ⟨_,rfl,h2,by dsimp only;omega⟩)
    have hb':=h5 hb
    have hfl:r.deep ≤ 12∧3 * (13 - r.deep).toNat + 1 ≤ f + 1:=by
     rcases hf with ⟨h6,_⟩ | h6
     ·rw [h2.bd h6] at hb';cases hb'
     exact h6
    refine Ends.bind ((ih r3 h2.ok).2.1 (by rw [h2.dp];exact hfl.1) (by rw [h2.dp];omega)) ?_
    rintro ⟨k,r4⟩ h6
    dsimp only at h6 ⊢
    refine Ends.app1 (by omega) (by omega) (Ends.one (.inl ⟨_,rfl,⟨h2.trans' (h6.weak fun _=>trivial),?_⟩,aEu h2.ok h6 hb'⟩))
    simp only [List.length_append,List.length_cons,List.length_nil]
    exact h3.step hb' h6
   rintro ⟨ks,r1⟩ h
   exact Ends.one h
  ·show Ends (cX (aC f).1 (aC f).2.1 (aC f).2.2 r) _
   unfold cX
   have B:∀ {p:Prop} {r1:Gl05Read},Adv r p r1→Ends ((aC f).2.2 r1) (fun x=>Adv r True x.2):=fun h=>((ih _ h.ok).2.2 (by rw [h.dp];exact hd) (by rw [h.dp];exact hf)).mono fun x hx=>h.trans hx
   refine cZ (Adv.refl hr) (fun r1 _ h1=>?_) fun r1 h1=>?_
   ·exact tR h1 fun s r2 hs h2=>pD h2 fun r3 h3=>zN h3 hs fun k r4 h4=>Ends.one h4
   dsimp only;rw [mV]
   refine cZ h1 (fun r2 _ h2=>?_) fun r2 h2=>?_
   ·exact tR h2 fun s r2 hs h2=>pD h2 fun r3 h3=>zN h3 hs fun k r4 h4=>Ends.one h4
   dsimp only;rw [mV]
   refine cZ h2 (fun r3 _ h3=>?_) fun r3 h3=>?_
   ·dsimp only;rw [wY]
    refine Ends.bind (aBw h3) ?_
    rintro ⟨k,r4⟩ h4
    refine Ends.bind (B h4) ?_
    rintro ⟨k2,r5⟩ h5
    dsimp only at h5 ⊢
    refine Ends.bind (P:=fun x=>Adv r True x) ?_ fun r6 h6=>?_
    ·exact cZ h5 (fun r6 _ h6=>Ends.one h6) fun r6 h6=>Ends.one h6.fail
    refine Ends.bind (B h6) ?_
    rintro ⟨k3,r7⟩ h7
    exact tF h7 ⟨by dsimp only;decide,by simp⟩ fun k r8 h8=>Ends.one h8
   dsimp only;rw [mV]
   refine cZ h3 (fun r4 _ h4=>?_) fun r4 h4=>?_
   ·dsimp only;rw [wY]
    refine Ends.bind (aBw h4) ?_
    rintro ⟨k,r5⟩ h5
    refine Ends.bind (B h5) ?_
    rintro ⟨k2,r6⟩ h6
    exact tF h6 ⟨by dsimp only;decide,by simp⟩ fun k r8 h8=>Ends.one h8
   dsimp only;rw [mV]
   refine cZ h4 (fun r5 _ h5=>?_) fun r5 h5=>?_
   ·exact zN h5 (by decide) fun k r6 h6=>Ends.one h6
   dsimp only;rw [mV]
   refine cZ h5 (fun r6 _ h6=>?_) fun r6 h6=>?_
   ·exact zN h6 (by decide) fun k r6 h6=>Ends.one h6
   dsimp only;rw [mV]
   exact tR h6 fun s r2 hs h2=>pD h2 fun r3 h3=>zN h3 hs fun k r4 h4=>Ends.one h4
  show Ends (cN (aC f).1 (aC f).2.1 (aC f).2.2 r) _
  unfold cN
  have h7:=hr.d0
  have e3:IntKind.wrap .i64 (r.deep + 1)=r.deep + 1:=w64 (by omega) (by omega)
  rw [e3]
  obtain ⟨r1,hr1⟩:∃ r1:Gl05Read,r1=⟨r.list,r.at_,r.bad,r.deep + 1,r.nodes⟩:=⟨_,rfl⟩
  have ok1:ROk r1:=by subst hr1;exact ⟨hr.ll,hr.sg,hr.a0,hr.a1,by dsimp only;omega,by dsimp only;omega,hr.nl,hr.nk⟩
  have b1:=Adv.refl ok1
  have dp1:r1.deep=r.deep + 1:=by subst hr1;rfl
  have f1:Adv r1 True ⟨r.list,r.at_,true,r.deep + 1,r.nodes⟩:=by
   have:=b1.fail
   subst hr1
   exact this
  refine Ends.bind (P:=fun x=>Adv r1 False x∧(12 < r.deep + 1→x.bad=true)) ?_ fun r2 ⟨h2,h2b⟩=>?_
  ·refine Ends.ite (fun h=>Ends.one ⟨f1.weak fun _=>trivial,fun _=>rfl⟩) fun h=>Ends.one ⟨by rw [← hr1];exact b1,fun h3=>?_⟩
   simp only [decide_eq_true_eq] at h
   omega
  refine Ends.bind (P:=fun r3=>Adv r2 True r3) ?_ fun r3 h3=>?_
  ·unfold aR
   exact cZ (Adv.refl h2.ok) (fun r' _ h1=>Ends.one h1) fun r' h1=>Ends.one h1.fail
  refine Ends.bind ((ih r3 h3.ok).1 ?_) ?_
  ·by_cases hdd:r.deep + 1 ≤ 12
   ·right
    rw [h3.dp,h2.dp,dp1]
    exact ⟨hdd,by omega⟩
   left
   exact ⟨h3.bd (h2b (by omega)),by omega⟩
  rintro ⟨ks,r4⟩ ⟨h4,h5⟩
  dsimp only at h4 h5 ⊢
  have h6:Adv r1 True r4:=(h2.trans h3).trans' h4
  refine pD h6 fun r5 h8=>?_
  have e4:IntKind.wrap .i64 (r5.deep - 1)=r.deep:=by rw [h8.dp,dp1,w64 (by omega) (by omega)];omega
  rw [e4]
  have h9:Adv r True ⟨r5.list,r5.at_,r5.bad,r.deep,r5.nodes⟩:=by
   subst hr1
   exact ⟨⟨h8.ok.ll,h8.ok.sg,h8.ok.a0,h8.ok.a1,by dsimp only;omega,by dsimp only;omega,h8.ok.nl,h8.ok.nk⟩,h8.li,h8.le,h8.bd,rfl,h8.pr⟩
  exact tF h9 ⟨by dsimp only;decide,h5⟩ fun k r6 h10=>Ends.one h10
end Go.OM
namespace Go.OM
variable {α:Type} {Q:α→Prop}
theorem aKo {r0 r:Gl05Read} {p:Prop} {f:Int × Gl05Read→Option α} (h:Adv r0 p r) (K:∀ k r',Adv r0 p r'→Ends (f (k,r')) Q):Ends ((dA r).bind f) Q:=by
 unfold dA
 refine Ends.bind (P:=fun x=>Adv r0 p x.2) ?_ fun ⟨k,r'⟩ h=>K k r' h
 refine cZ h (fun r1 _ h1=>Ends.one (h1.weak fun _=>trivial)) fun r1 h1=>?_
 dsimp only;rw [mV]
 refine cZ h1 (fun r2 _ h2=>Ends.one (h2.weak fun _=>trivial)) fun r2 h2=>?_
 dsimp only;rw [mV]
 refine pD h2 fun r3 h3=>?_
 refine Ends.bind (P:=fun x:Int × Gl05Read=>Adv r0 True x.2) ?_ ?_
 ·exact cZ h3 (fun r4 _ h4=>Ends.one h4) fun r4 h4=>Ends.one h4
 rintro ⟨k,r4⟩ h4
 dsimp only at h4 ⊢
 exact cZ h4 (fun r5 _ h5=>Ends.one (h5.weak fun _=>trivial)) fun r5 h5=>Ends.one (h5.fail.weak fun _=>trivial)
structure FOk (f:GFn):Prop where
 nm:f.Name.size ≤ 3000
 pl:f.Params.length ≤ 4000
 ps:∀ q ∈ f.Params,q.Name.size ≤ 3000
theorem aLg {r0 r:Gl05Read} {p:Prop} (h:Adv r0 p r) (hd:r0.deep=0):Ends (iQ r) (fun x=>Adv r0 p x.2∧x.1.length ≤ 4000):=by
 have h1:=h.dp
 exact ((aFv 1048576 r h.ok).1 (.inr ⟨by omega,by omega⟩)).mono fun x hx=>⟨h.trans' hx.1,hx.2⟩
theorem E_fn {r:Gl05Read} (hr:ROk r) (hd:r.deep=0):Ends (eW r) (fun x=>Adv r False x.2∧FOk x.1):=by
 unfold eW
 refine Ends.bind (P:=fun x=>Adv r True x) ?_ fun r1 h1=>?_
 ·exact cZ (Adv.refl hr) (fun r1 _ h1=>Ends.one h1) fun r1 h1=>Ends.one h1.fail
 refine tR h1 fun nm r2 hn h2=>?_
 dsimp only
 refine pD h2 fun r3 h3=>?_
 have fz:FOk ⟨nm,[],0,0,(-1)⟩:=⟨hn,by simp,by simp⟩
 refine Ends.bind (P:=fun x:GFn × Gl05Read=>Adv r True x.2∧FOk x.1) ?_ ?_
 ·refine cZ h3 (fun r4 _ h4=>Ends.one ⟨h4,fz⟩) fun r4 h4=>?_
  dsimp only;rw [aKj]
  refine Ends.loop (fun s:GFn × Gl05Read=>Adv r True s.2∧FOk s.1∧Kl s.1.Params.length s.2) (fun s=>rmu s.2) _ ?_ ⟨h4,fz,Kl.zero h4.ok⟩
  rintro ⟨f,r5⟩ ⟨h5,h6,h7⟩
  dsimp only at h5 h6 h7
  have hk:=h7.le h5.ok
  unfold fK
  dsimp only
  refine Ends.ite (fun hb=>?_) fun hb=>Ends.one (.inr ⟨_,rfl,h5,h6⟩)
  have hb':r5.bad=false:=by simpa using hb
  refine tR (Adv.refl h5.ok) fun nm2 r6 hn2 h8=>?_
  dsimp only
  refine pD h8 fun r7 h9=>?_
  refine aKo h9 fun k r8 h10=>?_
  dsimp only
  refine Ends.app1 (by omega) (by omega) ?_
  have hps:∀ q ∈ f.Params ++ [(⟨nm2,k⟩:GParam)],q.Name.size ≤ 3000:=by
   intro q hq
   rcases List.mem_append.1 hq with hq | hq
   ·exact h6.ps q hq
   rw [List.mem_singleton.1 hq];exact hn2
  have hpl:(f.Params ++ [(⟨nm2,k⟩:GParam)]).length ≤ 4000:=by simp only [List.length_append,List.length_cons,List.length_nil];omega
  refine cZ h10 (fun r9 _ h11=>Ends.one (.inr ⟨_,rfl,h5.trans h11,⟨h6.nm,hpl,hps⟩⟩)) fun r9 h11=>?_
  dsimp only;rw [mV]
  refine pD h11 fun r10 h12=>Ends.one (.inl ⟨_,rfl,⟨h5.trans h12,⟨h6.nm,hpl,hps⟩,?_⟩,aEu h5.ok h12 hb'⟩)
  simp only [List.length_append,List.length_cons,List.length_nil]
  exact h7.step hb' h12
 rintro ⟨f,r4⟩ ⟨h4,h5⟩
 dsimp only at h4 h5 ⊢
 refine Ends.bind (P:=fun x:GFn × Gl05Read=>Adv r True x.2∧FOk x.1) ?_ ?_
 ·refine cZ h4 (fun r5 _ h6=>?_) fun r5 h6=>Ends.one ⟨h6,h5⟩
  dsimp only;rw [wY]
  exact aKo h6 fun k r6 h7=>Ends.one ⟨h7,⟨h5.nm,h5.pl,h5.ps⟩⟩
 rintro ⟨f2,r5⟩ ⟨h6,h7⟩
 dsimp only at h6 h7 ⊢
 refine pD h6 fun r6 h8=>?_
 refine Ends.bind (aLg h8 hd) ?_
 rintro ⟨ks,r7⟩ ⟨h9,h10⟩
 dsimp only at h9 h10 ⊢
 refine tF h9 ⟨by dsimp only;decide,h10⟩ fun k r8 h11=>?_
 dsimp only
 refine Ends.bind (P:=fun x:GFn × Gl05Read=>Adv r True x.2∧FOk x.1) ?_ ?_
 ·refine cZ h11 (fun r9 _ h12=>?_) fun r9 h12=>Ends.one ⟨h12,⟨h7.nm,h7.pl,h7.ps⟩⟩
  dsimp only;rw [wY]
  refine Ends.bind (aBw h12) ?_
  rintro ⟨k2,r10⟩ h13
  exact pD h13 fun r11 h14=>Ends.one ⟨h14,⟨h7.nm,h7.pl,h7.ps⟩⟩
 rintro ⟨f3,r9⟩ ⟨h12,h13⟩
 dsimp only at h12 h13 ⊢
 exact pD h12 fun r10 h14=>Ends.one ⟨h14.weak fun _=>trivial,h13⟩
theorem nN (t:ByteArray):Ends (bX t) (fun r=>GProgram.le 4000 r.1∧(r.2=true→uN r.1=true)∧(r.2=false→r.1=⟨[],[]⟩)):=by
 have h00:GProgram.le 4000 ⟨[],[]⟩:=⟨⟨by simp,by simp⟩,⟨by simp,by simp⟩⟩
 unfold bX
 refine Ends.bind (aIv t) ?_
 rintro ⟨l,b⟩ ⟨h1,h2⟩
 dsimp only at h1 h2 ⊢
 refine Ends.ite (fun _=>Ends.one ⟨h00,(fun h=>by cases h),fun _=>rfl⟩) fun _=>?_
 refine Ends.bind (P:=fun x:GProgram × Gl05Read=>ROk x.2∧x.1.Fns.length ≤ 9∧∀ f ∈ x.1.Fns,FOk f) ?_ ?_
 ·refine Ends.loop (fun s:GProgram × Gl05Read=>ROk s.2∧s.2.deep=0∧s.1.Fns.length ≤ 9∧∀ f ∈ s.1.Fns,FOk f) (fun s=>9 - s.1.Fns.length) _ ?_ ⟨⟨h1,h2,by dsimp only;omega,by dsimp only;omega,by dsimp only;omega,by dsimp only;omega,by simp,by simp⟩,rfl,by simp,by simp⟩
  rintro ⟨q,r⟩ ⟨h3,h4,h5,h6⟩
  dsimp only at h3 h4 h5 h6
  unfold dV
  dsimp only
  refine Ends.bind (P:=fun v=>v=true→q.Fns.length ≤ 8) ?_ fun v hv=>?_
  ·refine Ends.ite (fun _=>Ends.ite (fun _=>Ends.one fun h=>?_) fun _=>Ends.one fun h=>by cases h) fun _=>Ends.one fun h=>by cases h
   simp only [decide_eq_true_eq] at h
   omega
  refine Ends.ite (fun hv2=>?_) fun _=>Ends.one (.inr ⟨_,rfl,h3,h5,h6⟩)
  have h7:=hv hv2
  refine Ends.bind (E_fn h3 h4) ?_
  rintro ⟨f,r2⟩ ⟨h8,h9⟩
  dsimp only at h8 h9 ⊢
  refine Ends.app1 (by omega) (by omega) (Ends.one (.inl ⟨_,rfl,⟨h8.ok,h8.dp.trans h4,?_,fun g hg=>?_⟩,?_⟩))
  ·simp only [List.length_append,List.length_cons,List.length_nil];omega
  ·rcases List.mem_append.1 hg with hg | hg
   ·exact h6 g hg
   rw [List.mem_singleton.1 hg];exact h9
  simp only [List.length_append,List.length_cons,List.length_nil];omega
 rintro ⟨q,r⟩ ⟨h3,h4,h5⟩
 dsimp only at h3 h4 h5 ⊢
 have hn:=h3.nl
 have hle:GProgram.le 4000 ⟨r.nodes,q.Fns⟩:=⟨⟨by dsimp only;omega,fun x hx=>⟨by have:=(h3.nk x hx).1;omega,by have:=(h3.nk x hx).2;omega⟩⟩,⟨by dsimp only;omega,fun f hf=>⟨by have:=(h5 f hf).nm;omega,by have:=(h5 f hf).pl;omega,fun y hy=>by have:=(h5 f hf).ps y hy;unfold GParam.le;omega⟩⟩⟩
 refine Ends.bind (P:=fun v=>v=false→uN ⟨r.nodes,q.Fns⟩=true) ?_ fun v hv=>?_
 ·refine Ends.ite (fun _=>Ends.one fun h=>by cases h) fun _=>?_
  rw [jR ⟨r.nodes,q.Fns⟩ (by dsimp only;omega) (by dsimp only;omega)]
  exact Ends.one fun h=>by simpa using h
 refine Ends.ite (fun _=>Ends.one ⟨h00,(fun h=>by cases h),fun _=>rfl⟩) fun hv2=>Ends.one ⟨hle,fun _=>hv (by simpa using hv2),fun h=>by cases h⟩
end Go.OM
set_option maxRecDepth 100000
namespace Go.OM
def tX {α ρ:Type}:Nat→(α→Option (α ⊕ ρ))→α→Option ρ
 | 0,_,_=>none
 | n + 1,f,a=>match f a with
  | none=>none
  | some (.inl b)=>tX n f b
  | some (.inr r)=>some r
def sEqC (x y:ByteArray):Bool:=x.data.toList == y.data.toList
theorem aB7 (x y:ByteArray):sEqC x y=sEq x y:=by
 rw [aB6]
 unfold sEqC
 cases x with
 | mk a =>
  cases y with
  | mk b =>
   by_cases h:a=b
   ·subst h;simp
   simp [h,Array.toList_inj]
def Le {α:Type} (x y:Option α):Prop:=∀ r,x=some r→y=some r
theorem Le.refl {α:Type} (x:Option α):Le x x:=fun _ h=>h
theorem Le.none {α:Type} {y:Option α}:Le Option.none y:=fun _ h=>by cases h
theorem Le.ite {α:Type} {c:Prop} [Decidable c] {a b a' b':Option α} (h1:c→Le a a') (h2:¬ c→Le b b'):Le (if c then a else b) (if c then a' else b'):=by
 by_cases h:c
 ·rw [if_pos h,if_pos h];exact h1 h
 rw [if_neg h,if_neg h];exact h2 h
theorem Le.bind {α β:Type} {x y:Option α} {f g:α→Option β} (h:Le x y) (k:∀ a,Le (f a) (g a)):Le (x.bind f) (y.bind g):=by
 intro r hr
 cases x with
 | none=>cases hr
 | some a =>
  rw [h a rfl]
  exact k a r hr
theorem Le.loop {α ρ:Type} {f g:α→Option (α ⊕ ρ)} (h:∀ s,Le (f s) (g s)):∀ {n:Nat} {a:α},Le (tX n f a) (aJ g a)
 | 0,a=>fun _ h=>by cases h
 | n + 1,a=>by
  intro r hr
  rw [sU]
  unfold tX at hr
  cases hf:f a with
  | none=>rw [hf] at hr;cases hr
  | some s =>
   rw [hf] at hr
   rw [h a s hf]
   cases s with
   | inl b=>exact Le.loop h r hr
   | inr q=>exact hr
def lN (s1:ByteArray) (r2:List ByteArray):Int→Option ((Int) ⊕ ((Unit) ⊕ (Bool))):=fun i7 =>
 if (decide (i7 < (r2.length:Int)))=true then
  (aY r2 i7).bind fun e13 =>
  if (sEqC e13 s1)=true then
   some (Sum.inr (Sum.inr true))
  else
   some (Sum.inl (IntKind.wrap .i64 (i7 + 1)))
 else
  some (Sum.inr (Sum.inl ()))
theorem sI (s1:ByteArray) (r2:List ByteArray) (s):Le (lN s1 r2 s) (gG s1 r2 s):=by
 unfold lN gG
 try simp only [aB7]
 repeat' first
  | exact Le.refl _
  | refine Le.ite (fun _=>?_) fun _=>?_
  | refine Le.bind ?_ fun _=>?_
  | refine Le.loop fun _=>?_
  | split
  | dsimp only
def oL (s1:ByteArray):Option (Bool) :=
 (mQ ).bind fun r2 =>
 Option.bind (
  tX 400 (lN s1 r2) (0:Int)) fun j6 =>
 match j6 with
 | Sum.inr z=>some z
 | Sum.inl () =>
  some false
theorem vK (s1:ByteArray):Le (oL s1) (jF s1):=by
 unfold oL jF
 repeat' first
  | exact sI _ _ _
  | exact Le.refl _
  | refine Le.ite (fun _=>?_) fun _=>?_
  | refine Le.bind ?_ fun _=>?_
  | refine Le.loop fun _=>?_
  | split
  | dsimp only
def pR (s1:ByteArray):Option (Bool) :=
 Option.bind (
  (bY (s1.size:Int) 1 8).bind fun r4 =>
  if (!r4)=true then
   some true
  else
   (sAt s1 0).bind fun c8 =>
   (dK c8).bind fun r9 =>
   if (!r9)=true then
    some true
   else
    (oL s1).bind fun r13 =>
    some r13) fun v15 =>
 if v15=true then
  some false
 else
  Option.bind (
   tX 400 (iH s1) (0:Int)) fun j20 =>
  match j20 with
  | Sum.inr z=>some z
  | Sum.inl () =>
   some true
theorem wS (s1:ByteArray):Le (pR s1) (fU s1):=by
 unfold pR fU
 repeat' first
  | exact vK _
  | exact Le.refl _
  | refine Le.ite (fun _=>?_) fun _=>?_
  | refine Le.bind ?_ fun _=>?_
  | refine Le.loop fun _=>?_
  | split
  | dsimp only
def lK (t1:ByteArray) (at2:Int) (r3:List ByteArray):Int→Option ((Int) ⊕ ((Unit) ⊕ (ByteArray))):=fun i8 =>
 if (decide (i8 < (r3.length:Int)))=true then
  (aY r3 i8).bind fun e14 =>
  Option.bind (
   if (decide (IntKind.wrap .i64 (at2 + (e14.size:Int)) ≤ (t1.size:Int)))=true then
    (fD t1 at2 (IntKind.wrap .i64 (at2 + (e14.size:Int)))).bind fun t19 =>
    (aY r3 i8).bind fun e20 =>
    some (sEqC t19 e20)
   else
    some false) fun v21 =>
  if v21=true then
   (aY r3 i8).bind fun e24 =>
   some (Sum.inr (Sum.inr e24))
  else
   some (Sum.inl (IntKind.wrap .i64 (i8 + 1)))
 else
  some (Sum.inr (Sum.inl ()))
theorem sG (t1:ByteArray) (at2:Int) (r3:List ByteArray) (s):Le (lK t1 at2 r3 s) (iZ t1 at2 r3 s):=by
 unfold lK iZ
 try simp only [aB7]
 repeat' first
  | exact Le.refl _
  | refine Le.ite (fun _=>?_) fun _=>?_
  | refine Le.bind ?_ fun _=>?_
  | refine Le.loop fun _=>?_
  | split
  | dsimp only
def oK (t1:ByteArray) (at2:Int):Option (ByteArray) :=
 (lA ).bind fun r3 =>
 Option.bind (
  tX 400 (lK t1 at2 r3) (0:Int)) fun j7 =>
 match j7 with
 | Sum.inr z=>some z
 | Sum.inl () =>
  some (⟨#[]⟩:ByteArray)
theorem vI (t1:ByteArray) (at2:Int):Le (oK t1 at2) (jA t1 at2):=by
 unfold oK jA
 repeat' first
  | exact sG _ _ _ _
  | exact Le.refl _
  | refine Le.ite (fun _=>?_) fun _=>?_
  | refine Le.bind ?_ fun _=>?_
  | refine Le.loop fun _=>?_
  | split
  | dsimp only
def lL (t1:ByteArray):((List GSign) × Int)→Option (((List GSign) × Int) ⊕ ((List GSign) ⊕ ((List GSign) × Bool))):=fun ⟨out7,at8⟩ =>
 if (decide (at8 < (t1.size:Int)))=true then
  Option.bind (
   (sAt t1 at8).bind fun c16 =>
   if (c16 == 32)=true then
    some true
   else
    some (c16 == 10)) fun v19 =>
  if v19=true then
   some (Sum.inl (out7,IntKind.wrap .i64 (at8 + 1)))
  else
   Option.bind (
    (sAt t1 at8).bind fun c25 =>
    (dK c25).bind fun r26 =>
    if r26=true then
     Option.bind (
      tX 400 (jC t1) at8) fun n52 =>
     if (decide (IntKind.wrap .i64 (n52 - at8) > 8))=true then
      some (Sum.inr (Sum.inr (Sum.inr ([],false))))
     else
      (fD t1 at8 n52).bind fun t56 =>
      (bW 32 out7 [(⟨1,t56,0⟩:GSign)]).bind fun l57 =>
      some (Sum.inr (Sum.inl (l57,n52)))
    else
     some (Sum.inl (out7,at8,at8))) fun j24 =>
   match j24 with
   | Sum.inr z=>some z
   | Sum.inl (out58,at59,n60) =>
    Option.bind (
     (sAt t1 at59).bind fun c64 =>
     (dZ c64).bind fun r65 =>
     if r65=true then
      Option.bind (
       tX 400 (jB t1 at59) (n60,(0:Int))) fun ⟨n91,v92⟩ =>
      Option.bind (
       if (decide (IntKind.wrap .i64 (n91 - at59) > 10))=true then
        some true
       else
        some (decide (v92 > 1000000000))) fun v97 =>
      if v97=true then
       some (Sum.inr (Sum.inr (Sum.inr ([],false))))
      else
       (bW 32 out58 [(⟨2,ByteArray.empty,v92⟩:GSign)]).bind fun l101 =>
       some (Sum.inr (Sum.inl (l101,n91)))
     else
      some (Sum.inl (out58,at59))) fun j63 =>
    match j63 with
    | Sum.inr z=>some z
    | Sum.inl (out102,at103) =>
     (oK t1 at103).bind fun r104 =>
     if (sEqC r104 (⟨#[]⟩:ByteArray))=true then
      some (Sum.inr (Sum.inr ([],false)))
     else
      (bW 32 out102 [(⟨3,r104,0⟩:GSign)]).bind fun l109 =>
      some (Sum.inl (l109,IntKind.wrap .i64 (at103 + (r104.size:Int))))
 else
  some (Sum.inr (Sum.inl out7))
theorem sH (t1:ByteArray) (s):Le (lL t1 s) (jD t1 s):=by
 unfold lL jD
 try simp only [aB7]
 repeat' first
  | exact vI _ _
  | exact Le.refl _
  | refine Le.ite (fun _=>?_) fun _=>?_
  | refine Le.bind ?_ fun _=>?_
  | refine Le.loop fun _=>?_
  | split
  | dsimp only
def lM (t1:ByteArray):Option ((List GSign) × Bool) :=
 if (decide ((t1.size:Int) > 3000))=true then
  some ([],false)
 else
  Option.bind (
   tX 400 (lL t1) ([],(0:Int))) fun j6 =>
  match j6 with
  | Sum.inr z=>some z
  | Sum.inl out111 =>
   some (out111,true)
theorem vJ (t1:ByteArray):Le (lM t1) (jE t1):=by
 unfold lM jE
 repeat' first
  | exact sH _ _
  | exact Le.refl _
  | refine Le.ite (fun _=>?_) fun _=>?_
  | refine Le.bind ?_ fun _=>?_
  | refine Le.loop fun _=>?_
  | split
  | dsimp only
def fQ (r1:Gl05Read) (kind2:Int) (text3:ByteArray):Option (Bool × Gl05Read) :=
 Option.bind (
  if (!r1.bad)=true then
   if (decide (r1.at_ < (r1.list.length:Int)))=true then
    (aY r1.list r1.at_).bind fun e10 =>
    if (e10.Kind == kind2)=true then
     some (sEqC e10.Text text3)
    else
     some false
   else
    some false
  else
   some false) fun v13 =>
 some (v13,r1)
theorem nE (r1:Gl05Read) (kind2:Int) (text3:ByteArray):Le (fQ r1 kind2 text3) (cS r1 kind2 text3):=by
 unfold fQ cS
 try simp only [aB7]
 repeat' first
  | exact Le.refl _
  | refine Le.ite (fun _=>?_) fun _=>?_
  | refine Le.bind ?_ fun _=>?_
  | refine Le.loop fun _=>?_
  | split
  | dsimp only
def aD (r1:Gl05Read) (kind2:Int) (text3:ByteArray):Option (Bool × Gl05Read) :=
 (fQ r1 kind2 text3).bind fun ⟨r4,q5⟩ =>
 if r4=true then
  some (true,(⟨q5.list,IntKind.wrap .i64 (q5.at_ + 1),q5.bad,q5.deep,q5.nodes⟩:Gl05Read))
 else
  some (false,q5)
theorem bA (r1:Gl05Read) (kind2:Int) (text3:ByteArray):Le (aD r1 kind2 text3) (aE r1 kind2 text3):=by
 unfold aD aE
 repeat' first
  | exact nE _ _ _
  | exact Le.refl _
  | refine Le.ite (fun _=>?_) fun _=>?_
  | refine Le.bind ?_ fun _=>?_
  | refine Le.loop fun _=>?_
  | split
  | dsimp only
def bE (r1:Gl05Read):Option (ByteArray × Gl05Read) :=
 Option.bind (
  if r1.bad=true then
   some true
  else
   if (decide (r1.at_ ≥ (r1.list.length:Int)))=true then
    some true
   else
    (aY r1.list r1.at_).bind fun e8 =>
    if (e8.Kind != 1)=true then
     some true
    else
     (pR e8.Text).bind fun r11 =>
     some (!r11)) fun v13 =>
 if v13=true then
  some ((⟨#[]⟩:ByteArray),(⟨r1.list,r1.at_,true,r1.deep,r1.nodes⟩:Gl05Read))
 else
  (aY r1.list (IntKind.wrap .i64 ((IntKind.wrap .i64 (r1.at_ + 1)) - 1))).bind fun e17 =>
  some (e17.Text,(⟨r1.list,IntKind.wrap .i64 (r1.at_ + 1),r1.bad,r1.deep,r1.nodes⟩:Gl05Read))
theorem dO (r1:Gl05Read):Le (bE r1) (bC r1):=by
 unfold bE bC
 repeat' first
  | exact wS _
  | exact Le.refl _
  | refine Le.ite (fun _=>?_) fun _=>?_
  | refine Le.bind ?_ fun _=>?_
  | refine Le.loop fun _=>?_
  | split
  | dsimp only
def aU (r1:Gl05Read) (text2:ByteArray):Option (Gl05Read) :=
 (aD r1 3 text2).bind fun ⟨r3,q4⟩ =>
 if (!r3)=true then
  some (⟨q4.list,q4.at_,true,q4.deep,q4.nodes⟩:Gl05Read)
 else
  some q4
theorem bT (r1:Gl05Read) (text2:ByteArray):Le (aU r1 text2) (aR r1 text2):=by
 unfold aU aR
 repeat' first
  | exact bA _ _ _
  | exact Le.refl _
  | refine Le.ite (fun _=>?_) fun _=>?_
  | refine Le.bind ?_ fun _=>?_
  | refine Le.loop fun _=>?_
  | split
  | dsimp only
def gB (r1:Gl05Read):Option (Int × Gl05Read) :=
 (aD r1 1 (⟨#[105,110,116]⟩:ByteArray)).bind fun ⟨r2,q3⟩ =>
 if r2=true then
  some (1,q3)
 else
  (aD q3 1 (⟨#[98,111,120]⟩:ByteArray)).bind fun ⟨r7,q8⟩ =>
  if r7=true then
   some (2,q8)
  else
   (aU q8 (⟨#[38]⟩:ByteArray)).bind fun q12 =>
   Option.bind (
    (aD q12 1 (⟨#[109,117,116]⟩:ByteArray)).bind fun ⟨r17,q18⟩ =>
    if r17=true then
     some ((4:Int),q18)
    else
     some ((3:Int),q18)) fun ⟨t22,v23⟩ =>
   (aD v23 1 (⟨#[98,111,120]⟩:ByteArray)).bind fun ⟨r24,q25⟩ =>
   if (!r24)=true then
    some (t22,(⟨q25.list,q25.at_,true,q25.deep,q25.nodes⟩:Gl05Read))
   else
    some (t22,q25)
theorem lI (r1:Gl05Read):Le (gB r1) (dA r1):=by
 unfold gB dA
 repeat' first
  | exact bA _ _ _
  | exact bT _ _
  | exact Le.refl _
  | refine Le.ite (fun _=>?_) fun _=>?_
  | refine Le.bind ?_ fun _=>?_
  | refine Le.loop fun _=>?_
  | split
  | dsimp only
def jV (r1:Gl05Read):Option (Int × Gl05Read) :=
 (aD r1 1 (⟨#[109,117,116]⟩:ByteArray)).bind fun ⟨r2,q3⟩ =>
 if r2=true then
  (bE q3).bind fun ⟨r7,q8⟩ =>
  (aH q8 (⟨6,0,r7,[]⟩:GNode)).bind fun ⟨r10,q11⟩ =>
  some (r10,q11)
 else
  (bE q3).bind fun ⟨r13,q14⟩ =>
  (aH q14 (⟨5,0,r13,[]⟩:GNode)).bind fun ⟨r16,q17⟩ =>
  some (r16,q17)
theorem qZ (r1:Gl05Read):Le (jV r1) (dS r1):=by
 unfold jV dS
 repeat' first
  | exact bA _ _ _
  | exact dO _
  | exact Le.refl _
  | refine Le.ite (fun _=>?_) fun _=>?_
  | refine Le.bind ?_ fun _=>?_
  | refine Le.loop fun _=>?_
  | split
  | dsimp only
def gW (rec_spec_l05Read_value:Gl05Read→Option (Int × Gl05Read)) (rec_spec_l05Read_sum:Gl05Read→Option (Int × Gl05Read)) (rec_spec_l05Read_term:Gl05Read→Option (Int × Gl05Read)) (rec_spec_l05Read_args:Gl05Read→ByteArray→Option (Int × Gl05Read)) (r1:Gl05Read):Option (Int × Gl05Read) :=
 (rec_spec_l05Read_sum r1).bind fun ⟨r2,q3⟩ =>
 Option.bind (
  (aD q3 3 (⟨#[60]⟩:ByteArray)).bind fun ⟨r8,q9⟩ =>
  if r8=true then
   some ((10:Int),q9)
  else
   (aD q9 3 (⟨#[61,61]⟩:ByteArray)).bind fun ⟨r13,q14⟩ =>
   if r13=true then
    some ((11:Int),q14)
   else
    some ((0:Int),q14)) fun ⟨kind18,v19⟩ =>
 if (kind18 != 0)=true then
  (rec_spec_l05Read_sum v19).bind fun ⟨r22,q23⟩ =>
  (aH q23 (⟨kind18,0,ByteArray.empty,[r2,r22]⟩:GNode)).bind fun ⟨r25,q26⟩ =>
  some (r25,q26)
 else
  some (r2,v19)
theorem oS {crec_spec_l05Read_value rec_spec_l05Read_value:Gl05Read→Option (Int × Gl05Read)} (hrec_spec_l05Read_value:∀ y0,Le (crec_spec_l05Read_value y0) (rec_spec_l05Read_value y0)) {crec_spec_l05Read_sum rec_spec_l05Read_sum:Gl05Read→Option (Int × Gl05Read)} (hrec_spec_l05Read_sum:∀ y0,Le (crec_spec_l05Read_sum y0) (rec_spec_l05Read_sum y0)) {crec_spec_l05Read_term rec_spec_l05Read_term:Gl05Read→Option (Int × Gl05Read)} (hrec_spec_l05Read_term:∀ y0,Le (crec_spec_l05Read_term y0) (rec_spec_l05Read_term y0)) {crec_spec_l05Read_args rec_spec_l05Read_args:Gl05Read→ByteArray→Option (Int × Gl05Read)} (hrec_spec_l05Read_args:∀ y0 y1,Le (crec_spec_l05Read_args y0 y1) (rec_spec_l05Read_args y0 y1)) (r1:Gl05Read):Le (gW crec_spec_l05Read_value crec_spec_l05Read_sum crec_spec_l05Read_term crec_spec_l05Read_args r1) (cL rec_spec_l05Read_value rec_spec_l05Read_sum rec_spec_l05Read_term rec_spec_l05Read_args r1):=by
 unfold gW cL
 repeat' first
  | exact bA _ _ _
  | exact hrec_spec_l05Read_value _
  | exact hrec_spec_l05Read_sum _
  | exact hrec_spec_l05Read_term _
  | exact hrec_spec_l05Read_args _ _
  | exact Le.refl _
  | refine Le.ite (fun _=>?_) fun _=>?_
  | refine Le.bind ?_ fun _=>?_
  | refine Le.loop fun _=>?_
  | split
  | dsimp only
def iL (rec_spec_l05Read_term:Gl05Read→Option (Int × Gl05Read)):(Int × Gl05Read)→Option ((Int × Gl05Read) ⊕ (Int × Gl05Read)):=fun ⟨k8,v9⟩ =>
 (aD v9 3 (⟨#[43]⟩:ByteArray)).bind fun ⟨r13,q14⟩ =>
 if r13=true then
  (rec_spec_l05Read_term q14).bind fun ⟨r18,q19⟩ =>
  (aH q19 (⟨9,0,ByteArray.empty,[k8,r18]⟩:GNode)).bind fun ⟨r21,q22⟩ =>
  some (Sum.inl (r21,q22))
 else
  some (Sum.inr (k8,q14))
theorem pM {crec_spec_l05Read_term rec_spec_l05Read_term:Gl05Read→Option (Int × Gl05Read)} (hrec_spec_l05Read_term:∀ y0,Le (crec_spec_l05Read_term y0) (rec_spec_l05Read_term y0)) (s):Le (iL crec_spec_l05Read_term s) (eV rec_spec_l05Read_term s):=by
 unfold iL eV
 repeat' first
  | exact bA _ _ _
  | exact hrec_spec_l05Read_term _
  | exact Le.refl _
  | refine Le.ite (fun _=>?_) fun _=>?_
  | refine Le.bind ?_ fun _=>?_
  | refine Le.loop fun _=>?_
  | split
  | dsimp only
def jM (rec_spec_l05Read_value:Gl05Read→Option (Int × Gl05Read)) (rec_spec_l05Read_sum:Gl05Read→Option (Int × Gl05Read)) (rec_spec_l05Read_term:Gl05Read→Option (Int × Gl05Read)) (rec_spec_l05Read_args:Gl05Read→ByteArray→Option (Int × Gl05Read)) (r1:Gl05Read):Option (Int × Gl05Read) :=
 (rec_spec_l05Read_term r1).bind fun ⟨r2,q3⟩ =>
 Option.bind (
  tX 400 (iL rec_spec_l05Read_term) (r2,q3)) fun ⟨k25,v26⟩ =>
 some (k25,v26)
theorem qH {crec_spec_l05Read_value rec_spec_l05Read_value:Gl05Read→Option (Int × Gl05Read)} (hrec_spec_l05Read_value:∀ y0,Le (crec_spec_l05Read_value y0) (rec_spec_l05Read_value y0)) {crec_spec_l05Read_sum rec_spec_l05Read_sum:Gl05Read→Option (Int × Gl05Read)} (hrec_spec_l05Read_sum:∀ y0,Le (crec_spec_l05Read_sum y0) (rec_spec_l05Read_sum y0)) {crec_spec_l05Read_term rec_spec_l05Read_term:Gl05Read→Option (Int × Gl05Read)} (hrec_spec_l05Read_term:∀ y0,Le (crec_spec_l05Read_term y0) (rec_spec_l05Read_term y0)) {crec_spec_l05Read_args rec_spec_l05Read_args:Gl05Read→ByteArray→Option (Int × Gl05Read)} (hrec_spec_l05Read_args:∀ y0 y1,Le (crec_spec_l05Read_args y0 y1) (rec_spec_l05Read_args y0 y1)) (r1:Gl05Read):Le (jM crec_spec_l05Read_value crec_spec_l05Read_sum crec_spec_l05Read_term crec_spec_l05Read_args r1) (dM rec_spec_l05Read_value rec_spec_l05Read_sum rec_spec_l05Read_term rec_spec_l05Read_args r1):=by
 unfold jM dM
 repeat' first
  | exact pM hrec_spec_l05Read_term _
  | exact hrec_spec_l05Read_value _
  | exact hrec_spec_l05Read_sum _
  | exact hrec_spec_l05Read_term _
  | exact hrec_spec_l05Read_args _ _
  | exact Le.refl _
  | refine Le.ite (fun _=>?_) fun _=>?_
  | refine Le.bind ?_ fun _=>?_
  | refine Le.loop fun _=>?_
  | split
  | dsimp only
def iK (rec_spec_l05Read_value:Gl05Read→Option (Int × Gl05Read)) (rec_spec_l05Read_sum:Gl05Read→Option (Int × Gl05Read)) (rec_spec_l05Read_term:Gl05Read→Option (Int × Gl05Read)) (rec_spec_l05Read_args:Gl05Read→ByteArray→Option (Int × Gl05Read)) (r1:Gl05Read):Option (Int × Gl05Read) :=
 Option.bind (
  if r1.bad=true then
   some true
  else
   if (decide (r1.at_ ≥ (r1.list.length:Int)))=true then
    some true
   else
    some (decide (r1.deep > 12))) fun v8 =>
 if v8=true then
  some (0,(⟨r1.list,r1.at_,true,r1.deep,r1.nodes⟩:Gl05Read))
 else
  Option.bind (
   (aY r1.list r1.at_).bind fun e15 =>
   if (e15.Kind == 2)=true then
    (aY r1.list (IntKind.wrap .i64 ((IntKind.wrap .i64 (r1.at_ + 1)) - 1))).bind fun e19 =>
    (aH (⟨r1.list,IntKind.wrap .i64 (r1.at_ + 1),r1.bad,IntKind.wrap .i64 (r1.deep + 1),r1.nodes⟩:Gl05Read) (⟨1,e19.Num,ByteArray.empty,[]⟩:GNode)).bind fun ⟨r20,q21⟩ =>
    some (r20,q21)
   else
    (aD (⟨r1.list,r1.at_,r1.bad,IntKind.wrap .i64 (r1.deep + 1),r1.nodes⟩:Gl05Read) 3 (⟨#[42]⟩:ByteArray)).bind fun ⟨r23,q24⟩ =>
    if r23=true then
     (bE q24).bind fun ⟨r28,q29⟩ =>
     (aH q29 (⟨3,0,r28,[]⟩:GNode)).bind fun ⟨r31,q32⟩ =>
     some (r31,q32)
    else
     (aD q24 3 (⟨#[38]⟩:ByteArray)).bind fun ⟨r34,q35⟩ =>
     if r34=true then
      (jV q35).bind fun ⟨r39,q40⟩ =>
      some (r39,q40)
     else
      (aD q35 3 (⟨#[40]⟩:ByteArray)).bind fun ⟨r42,q43⟩ =>
      if r42=true then
       (rec_spec_l05Read_value q43).bind fun ⟨r47,q48⟩ =>
       (aU q48 (⟨#[41]⟩:ByteArray)).bind fun q50 =>
       some (r47,q50)
      else
       (aD q43 1 (⟨#[99,108,111,110,101]⟩:ByteArray)).bind fun ⟨r52,q53⟩ =>
       if r52=true then
        (bE q53).bind fun ⟨r57,q58⟩ =>
        (aH q58 (⟨4,0,r57,[]⟩:GNode)).bind fun ⟨r60,q61⟩ =>
        some (r60,q61)
       else
        (aD q53 1 (⟨#[105,110,112,117,116]⟩:ByteArray)).bind fun ⟨r63,q64⟩ =>
        if r63=true then
         (aH q64 (⟨7,0,ByteArray.empty,[]⟩:GNode)).bind fun ⟨r68,q69⟩ =>
         some (r68,q69)
        else
         (aD q64 1 (⟨#[110,101,119]⟩:ByteArray)).bind fun ⟨r71,q72⟩ =>
         if r71=true then
          (rec_spec_l05Read_term q72).bind fun ⟨r76,q77⟩ =>
          (aH q77 (⟨8,0,ByteArray.empty,[r76]⟩:GNode)).bind fun ⟨r79,q80⟩ =>
          some (r79,q80)
         else
          (bE q72).bind fun ⟨r82,q83⟩ =>
          (aD q83 3 (⟨#[40]⟩:ByteArray)).bind fun ⟨r85,q86⟩ =>
          if r85=true then
           (rec_spec_l05Read_args q86 r82).bind fun ⟨r90,q91⟩ =>
           some (r90,q91)
          else
           (aH q86 (⟨2,0,r82,[]⟩:GNode)).bind fun ⟨r93,q94⟩ =>
           some (r93,q94)) fun ⟨k96,v97⟩ =>
  some (k96,(⟨v97.list,v97.at_,v97.bad,IntKind.wrap .i64 (v97.deep - 1),v97.nodes⟩:Gl05Read))
theorem pL {crec_spec_l05Read_value rec_spec_l05Read_value:Gl05Read→Option (Int × Gl05Read)} (hrec_spec_l05Read_value:∀ y0,Le (crec_spec_l05Read_value y0) (rec_spec_l05Read_value y0)) {crec_spec_l05Read_sum rec_spec_l05Read_sum:Gl05Read→Option (Int × Gl05Read)} (hrec_spec_l05Read_sum:∀ y0,Le (crec_spec_l05Read_sum y0) (rec_spec_l05Read_sum y0)) {crec_spec_l05Read_term rec_spec_l05Read_term:Gl05Read→Option (Int × Gl05Read)} (hrec_spec_l05Read_term:∀ y0,Le (crec_spec_l05Read_term y0) (rec_spec_l05Read_term y0)) {crec_spec_l05Read_args rec_spec_l05Read_args:Gl05Read→ByteArray→Option (Int × Gl05Read)} (hrec_spec_l05Read_args:∀ y0 y1,Le (crec_spec_l05Read_args y0 y1) (rec_spec_l05Read_args y0 y1)) (r1:Gl05Read):Le (iK crec_spec_l05Read_value crec_spec_l05Read_sum crec_spec_l05Read_term crec_spec_l05Read_args r1) (cW rec_spec_l05Read_value rec_spec_l05Read_sum rec_spec_l05Read_term rec_spec_l05Read_args r1):=by
 unfold iK cW
 repeat' first
  | exact bA _ _ _
  | exact dO _
  | exact qZ _
  | exact bT _ _
  | exact hrec_spec_l05Read_value _
  | exact hrec_spec_l05Read_sum _
  | exact hrec_spec_l05Read_term _
  | exact hrec_spec_l05Read_args _ _
  | exact Le.refl _
  | refine Le.ite (fun _=>?_) fun _=>?_
  | refine Le.bind ?_ fun _=>?_
  | refine Le.loop fun _=>?_
  | split
  | dsimp only
def gZ (rec_spec_l05Read_value:Gl05Read→Option (Int × Gl05Read)):((List Int) × Gl05Read)→Option (((List Int) × Gl05Read) ⊕ ((List Int) × Gl05Read)):=fun ⟨kids11,v12⟩ =>
 if (!v12.bad)=true then
  (rec_spec_l05Read_value v12).bind fun ⟨r18,q19⟩ =>
  (bW 8 kids11 [r18]).bind fun l21 =>
  (aD q19 3 (⟨#[41]⟩:ByteArray)).bind fun ⟨r22,q23⟩ =>
  if r22=true then
   some (Sum.inr (l21,q23))
  else
   (aU q23 (⟨#[44]⟩:ByteArray)).bind fun q28 =>
   some (Sum.inl (l21,q28))
 else
  some (Sum.inr (kids11,v12))
theorem oV {crec_spec_l05Read_value rec_spec_l05Read_value:Gl05Read→Option (Int × Gl05Read)} (hrec_spec_l05Read_value:∀ y0,Le (crec_spec_l05Read_value y0) (rec_spec_l05Read_value y0)) (s):Le (gZ crec_spec_l05Read_value s) (eI rec_spec_l05Read_value s):=by
 unfold gZ eI
 repeat' first
  | exact bA _ _ _
  | exact bT _ _
  | exact hrec_spec_l05Read_value _
  | exact Le.refl _
  | refine Le.ite (fun _=>?_) fun _=>?_
  | refine Le.bind ?_ fun _=>?_
  | refine Le.loop fun _=>?_
  | split
  | dsimp only
def iN (rec_spec_l05Read_value:Gl05Read→Option (Int × Gl05Read)) (rec_spec_l05Read_sum:Gl05Read→Option (Int × Gl05Read)) (rec_spec_l05Read_term:Gl05Read→Option (Int × Gl05Read)) (rec_spec_l05Read_args:Gl05Read→ByteArray→Option (Int × Gl05Read)) (r1:Gl05Read) (name2:ByteArray):Option (Int × Gl05Read) :=
 Option.bind (
  (aD r1 3 (⟨#[41]⟩:ByteArray)).bind fun ⟨r6,q7⟩ =>
  if (!r6)=true then
   tX 400 (gZ rec_spec_l05Read_value) ([],q7)
  else
   some ([],q7)) fun ⟨kids31,v32⟩ =>
 (aH v32 (⟨12,0,name2,kids31⟩:GNode)).bind fun ⟨r33,q34⟩ =>
 some (r33,q34)
theorem pP {crec_spec_l05Read_value rec_spec_l05Read_value:Gl05Read→Option (Int × Gl05Read)} (hrec_spec_l05Read_value:∀ y0,Le (crec_spec_l05Read_value y0) (rec_spec_l05Read_value y0)) {crec_spec_l05Read_sum rec_spec_l05Read_sum:Gl05Read→Option (Int × Gl05Read)} (hrec_spec_l05Read_sum:∀ y0,Le (crec_spec_l05Read_sum y0) (rec_spec_l05Read_sum y0)) {crec_spec_l05Read_term rec_spec_l05Read_term:Gl05Read→Option (Int × Gl05Read)} (hrec_spec_l05Read_term:∀ y0,Le (crec_spec_l05Read_term y0) (rec_spec_l05Read_term y0)) {crec_spec_l05Read_args rec_spec_l05Read_args:Gl05Read→ByteArray→Option (Int × Gl05Read)} (hrec_spec_l05Read_args:∀ y0 y1,Le (crec_spec_l05Read_args y0 y1) (rec_spec_l05Read_args y0 y1)) (r1:Gl05Read) (name2:ByteArray):Le (iN crec_spec_l05Read_value crec_spec_l05Read_sum crec_spec_l05Read_term crec_spec_l05Read_args r1 name2) (cY rec_spec_l05Read_value rec_spec_l05Read_sum rec_spec_l05Read_term rec_spec_l05Read_args r1 name2):=by
 unfold iN cY
 repeat' first
  | exact bA _ _ _
  | exact oV hrec_spec_l05Read_value _
  | exact hrec_spec_l05Read_value _
  | exact hrec_spec_l05Read_sum _
  | exact hrec_spec_l05Read_term _
  | exact hrec_spec_l05Read_args _ _
  | exact Le.refl _
  | refine Le.ite (fun _=>?_) fun _=>?_
  | refine Le.bind ?_ fun _=>?_
  | refine Le.loop fun _=>?_
  | split
  | dsimp only
def aG:Nat→(Gl05Read→Option (Int × Gl05Read)) × (Gl05Read→Option (Int × Gl05Read)) × (Gl05Read→Option (Int × Gl05Read)) × (Gl05Read→ByteArray→Option (Int × Gl05Read))
 | 0=>(fun _=>none,fun _=>none,fun _=>none,fun _ _=>none)
 | n + 1=>(gW ((aG n).1) ((aG n).2.1) ((aG n).2.2.1) ((aG n).2.2.2),jM ((aG n).1) ((aG n).2.1) ((aG n).2.2.1) ((aG n).2.2.2),iK ((aG n).1) ((aG n).2.1) ((aG n).2.2.1) ((aG n).2.2.2),iN ((aG n).1) ((aG n).2.1) ((aG n).2.2.1) ((aG n).2.2.2))
theorem iR:∀ n m:Nat,n ≤ m→(∀ x0,Le ((aG n).1 x0) ((aA m).1 x0))∧(∀ x0,Le ((aG n).2.1 x0) ((aA m).2.1 x0))∧(∀ x0,Le ((aG n).2.2.1 x0) ((aA m).2.2.1 x0))∧(∀ x0 x1,Le ((aG n).2.2.2 x0 x1) ((aA m).2.2.2 x0 x1))
 | 0,m,_=>⟨fun _=>Le.none,fun _=>Le.none,fun _=>Le.none,fun _ _=>Le.none⟩
 | n + 1,0,h=>absurd h (by omega)
 | n + 1,m + 1,h=>by
  have ih:=iR n m (by omega)
  exact ⟨fun _=>oS ih.1 ih.2.1 ih.2.2.1 ih.2.2.2 _,fun _=>qH ih.1 ih.2.1 ih.2.2.1 ih.2.2.2 _,fun _=>pL ih.1 ih.2.1 ih.2.2.1 ih.2.2.2 _,fun _ _=>pP ih.1 ih.2.1 ih.2.2.1 ih.2.2.2 _ _⟩
def eF:Gl05Read→Option (Int × Gl05Read):=(aG 60).1
theorem gM:∀ x0,Le (eF x0) (dL x0):=(iR 60 bV (by decide)).1
def cJ (r1:Gl05Read) (kind2:Int) (name3:ByteArray):Option (Int × Gl05Read) :=
 (eF r1).bind fun ⟨r4,q5⟩ =>
 (aU q5 (⟨#[59]⟩:ByteArray)).bind fun q7 =>
 (aH q7 (⟨kind2,0,name3,[r4]⟩:GNode)).bind fun ⟨r9,q10⟩ =>
 some (r9,q10)
theorem qK (r1:Gl05Read) (kind2:Int) (name3:ByteArray):Le (cJ r1 kind2 name3) (bQ r1 kind2 name3):=by
 unfold cJ bQ
 repeat' first
  | exact gM _
  | exact bT _ _
  | exact Le.refl _
  | refine Le.ite (fun _=>?_) fun _=>?_
  | refine Le.bind ?_ fun _=>?_
  | refine Le.loop fun _=>?_
  | split
  | dsimp only
def gN (rec_spec_l05Read_step:Gl05Read→Option (Int × Gl05Read)):((List Int) × Gl05Read)→Option (((List Int) × Gl05Read) ⊕ ((List Int) × Gl05Read)):=fun ⟨out5,v6⟩ =>
 Option.bind (
  if (!v6.bad)=true then
   (fQ v6 3 (⟨#[125]⟩:ByteArray)).bind fun ⟨r14,q15⟩ =>
   if (!r14)=true then
    (fQ q15 1 (⟨#[114,101,116]⟩:ByteArray)).bind fun ⟨r19,q20⟩ =>
    some (!r19,q20)
   else
    some (false,q15)
  else
   some (false,v6)) fun ⟨v22,v23⟩ =>
 if v22=true then
  (rec_spec_l05Read_step v23).bind fun ⟨r26,q27⟩ =>
  (bW 8 out5 [r26]).bind fun l29 =>
  some (Sum.inl (l29,q27))
 else
  some (Sum.inr (out5,v23))
theorem oJ {crec_spec_l05Read_step rec_spec_l05Read_step:Gl05Read→Option (Int × Gl05Read)} (hrec_spec_l05Read_step:∀ y0,Le (crec_spec_l05Read_step y0) (rec_spec_l05Read_step y0)) (s):Le (gN crec_spec_l05Read_step s) (eD rec_spec_l05Read_step s):=by
 unfold gN eD
 repeat' first
  | exact nE _ _ _
  | exact hrec_spec_l05Read_step _
  | exact Le.refl _
  | refine Le.ite (fun _=>?_) fun _=>?_
  | refine Le.bind ?_ fun _=>?_
  | refine Le.loop fun _=>?_
  | split
  | dsimp only
def gX (rec_spec_l05Read_steps:Gl05Read→Option ((List Int) × Gl05Read)) (rec_spec_l05Read_step:Gl05Read→Option (Int × Gl05Read)) (rec_spec_l05Read_block:Gl05Read→Option (Int × Gl05Read)) (r1:Gl05Read):Option ((List Int) × Gl05Read) :=
 Option.bind (
  tX 400 (gN rec_spec_l05Read_step) ([],r1)) fun ⟨out31,v32⟩ =>
 some (out31,v32)
theorem oT {crec_spec_l05Read_steps rec_spec_l05Read_steps:Gl05Read→Option ((List Int) × Gl05Read)} (hrec_spec_l05Read_steps:∀ y0,Le (crec_spec_l05Read_steps y0) (rec_spec_l05Read_steps y0)) {crec_spec_l05Read_step rec_spec_l05Read_step:Gl05Read→Option (Int × Gl05Read)} (hrec_spec_l05Read_step:∀ y0,Le (crec_spec_l05Read_step y0) (rec_spec_l05Read_step y0)) {crec_spec_l05Read_block rec_spec_l05Read_block:Gl05Read→Option (Int × Gl05Read)} (hrec_spec_l05Read_block:∀ y0,Le (crec_spec_l05Read_block y0) (rec_spec_l05Read_block y0)) (r1:Gl05Read):Le (gX crec_spec_l05Read_steps crec_spec_l05Read_step crec_spec_l05Read_block r1) (cM rec_spec_l05Read_steps rec_spec_l05Read_step rec_spec_l05Read_block r1):=by
 unfold gX cM
 repeat' first
  | exact oJ hrec_spec_l05Read_step _
  | exact hrec_spec_l05Read_steps _
  | exact hrec_spec_l05Read_step _
  | exact hrec_spec_l05Read_block _
  | exact Le.refl _
  | refine Le.ite (fun _=>?_) fun _=>?_
  | refine Le.bind ?_ fun _=>?_
  | refine Le.loop fun _=>?_
  | split
  | dsimp only
def iM (rec_spec_l05Read_steps:Gl05Read→Option ((List Int) × Gl05Read)) (rec_spec_l05Read_step:Gl05Read→Option (Int × Gl05Read)) (rec_spec_l05Read_block:Gl05Read→Option (Int × Gl05Read)) (r1:Gl05Read):Option (Int × Gl05Read) :=
 (aD r1 1 (⟨#[108,101,116]⟩:ByteArray)).bind fun ⟨r2,q3⟩ =>
 if r2=true then
  (bE q3).bind fun ⟨r7,q8⟩ =>
  (aU q8 (⟨#[61]⟩:ByteArray)).bind fun q10 =>
  (cJ q10 13 r7).bind fun ⟨r12,q13⟩ =>
  some (r12,q13)
 else
  (aD q3 3 (⟨#[42]⟩:ByteArray)).bind fun ⟨r15,q16⟩ =>
  if r15=true then
   (bE q16).bind fun ⟨r20,q21⟩ =>
   (aU q21 (⟨#[61]⟩:ByteArray)).bind fun q23 =>
   (cJ q23 15 r20).bind fun ⟨r25,q26⟩ =>
   some (r25,q26)
  else
   (aD q16 1 (⟨#[105,102]⟩:ByteArray)).bind fun ⟨r28,q29⟩ =>
   if r28=true then
    (eF q29).bind fun ⟨r33,q34⟩ =>
    (rec_spec_l05Read_block q34).bind fun ⟨r36,q37⟩ =>
    Option.bind (
     (aD q37 1 (⟨#[101,108,115,101]⟩:ByteArray)).bind fun ⟨r42,q43⟩ =>
     if (!r42)=true then
      some (⟨q43.list,q43.at_,true,q43.deep,q43.nodes⟩:Gl05Read)
     else
      some q43) fun v47 =>
    (rec_spec_l05Read_block v47).bind fun ⟨r48,q49⟩ =>
    (aH q49 (⟨16,0,ByteArray.empty,[r33,r36,r48]⟩:GNode)).bind fun ⟨r51,q52⟩ =>
    some (r51,q52)
   else
    (aD q29 1 (⟨#[119,104,105,108,101]⟩:ByteArray)).bind fun ⟨r54,q55⟩ =>
    if r54=true then
     (eF q55).bind fun ⟨r59,q60⟩ =>
     (rec_spec_l05Read_block q60).bind fun ⟨r62,q63⟩ =>
     (aH q63 (⟨17,0,ByteArray.empty,[r59,r62]⟩:GNode)).bind fun ⟨r65,q66⟩ =>
     some (r65,q66)
    else
     (aD q55 1 (⟨#[112,114,105,110,116]⟩:ByteArray)).bind fun ⟨r68,q69⟩ =>
     if r68=true then
      (cJ q69 18 (⟨#[]⟩:ByteArray)).bind fun ⟨r73,q74⟩ =>
      some (r73,q74)
     else
      (aD q69 1 (⟨#[100,111]⟩:ByteArray)).bind fun ⟨r76,q77⟩ =>
      if r76=true then
       (cJ q77 19 (⟨#[]⟩:ByteArray)).bind fun ⟨r81,q82⟩ =>
       some (r81,q82)
      else
       (bE q77).bind fun ⟨r84,q85⟩ =>
       (aU q85 (⟨#[61]⟩:ByteArray)).bind fun q87 =>
       (cJ q87 14 r84).bind fun ⟨r89,q90⟩ =>
       some (r89,q90)
theorem pN {crec_spec_l05Read_steps rec_spec_l05Read_steps:Gl05Read→Option ((List Int) × Gl05Read)} (hrec_spec_l05Read_steps:∀ y0,Le (crec_spec_l05Read_steps y0) (rec_spec_l05Read_steps y0)) {crec_spec_l05Read_step rec_spec_l05Read_step:Gl05Read→Option (Int × Gl05Read)} (hrec_spec_l05Read_step:∀ y0,Le (crec_spec_l05Read_step y0) (rec_spec_l05Read_step y0)) {crec_spec_l05Read_block rec_spec_l05Read_block:Gl05Read→Option (Int × Gl05Read)} (hrec_spec_l05Read_block:∀ y0,Le (crec_spec_l05Read_block y0) (rec_spec_l05Read_block y0)) (r1:Gl05Read):Le (iM crec_spec_l05Read_steps crec_spec_l05Read_step crec_spec_l05Read_block r1) (cX rec_spec_l05Read_steps rec_spec_l05Read_step rec_spec_l05Read_block r1):=by
 unfold iM cX
 repeat' first
  | exact bA _ _ _
  | exact dO _
  | exact bT _ _
  | exact qK _ _ _
  | exact gM _
  | exact hrec_spec_l05Read_steps _
  | exact hrec_spec_l05Read_step _
  | exact hrec_spec_l05Read_block _
  | exact Le.refl _
  | refine Le.ite (fun _=>?_) fun _=>?_
  | refine Le.bind ?_ fun _=>?_
  | refine Le.loop fun _=>?_
  | split
  | dsimp only
def gY (rec_spec_l05Read_steps:Gl05Read→Option ((List Int) × Gl05Read)) (rec_spec_l05Read_step:Gl05Read→Option (Int × Gl05Read)) (rec_spec_l05Read_block:Gl05Read→Option (Int × Gl05Read)) (r1:Gl05Read):Option (Int × Gl05Read) :=
 Option.bind (
  if (decide (IntKind.wrap .i64 (r1.deep + 1) > 12))=true then
   some (⟨r1.list,r1.at_,true,IntKind.wrap .i64 (r1.deep + 1),r1.nodes⟩:Gl05Read)
  else
   some (⟨r1.list,r1.at_,r1.bad,IntKind.wrap .i64 (r1.deep + 1),r1.nodes⟩:Gl05Read)) fun v7 =>
 (aU v7 (⟨#[123]⟩:ByteArray)).bind fun q8 =>
 (rec_spec_l05Read_steps q8).bind fun ⟨r10,q11⟩ =>
 (aU q11 (⟨#[125]⟩:ByteArray)).bind fun q13 =>
 (aH (⟨q13.list,q13.at_,q13.bad,IntKind.wrap .i64 (q13.deep - 1),q13.nodes⟩:Gl05Read) (⟨20,0,ByteArray.empty,r10⟩:GNode)).bind fun ⟨r15,q16⟩ =>
 some (r15,q16)
theorem oU {crec_spec_l05Read_steps rec_spec_l05Read_steps:Gl05Read→Option ((List Int) × Gl05Read)} (hrec_spec_l05Read_steps:∀ y0,Le (crec_spec_l05Read_steps y0) (rec_spec_l05Read_steps y0)) {crec_spec_l05Read_step rec_spec_l05Read_step:Gl05Read→Option (Int × Gl05Read)} (hrec_spec_l05Read_step:∀ y0,Le (crec_spec_l05Read_step y0) (rec_spec_l05Read_step y0)) {crec_spec_l05Read_block rec_spec_l05Read_block:Gl05Read→Option (Int × Gl05Read)} (hrec_spec_l05Read_block:∀ y0,Le (crec_spec_l05Read_block y0) (rec_spec_l05Read_block y0)) (r1:Gl05Read):Le (gY crec_spec_l05Read_steps crec_spec_l05Read_step crec_spec_l05Read_block r1) (cN rec_spec_l05Read_steps rec_spec_l05Read_step rec_spec_l05Read_block r1):=by
 unfold gY cN
 repeat' first
  | exact bT _ _
  | exact hrec_spec_l05Read_steps _
  | exact hrec_spec_l05Read_step _
  | exact hrec_spec_l05Read_block _
  | exact Le.refl _
  | refine Le.ite (fun _=>?_) fun _=>?_
  | refine Le.bind ?_ fun _=>?_
  | refine Le.loop fun _=>?_
  | split
  | dsimp only
def aT:Nat→(Gl05Read→Option ((List Int) × Gl05Read)) × (Gl05Read→Option (Int × Gl05Read)) × (Gl05Read→Option (Int × Gl05Read))
 | 0=>(fun _=>none,fun _=>none,fun _=>none)
 | n + 1=>(gX ((aT n).1) ((aT n).2.1) ((aT n).2.2),iM ((aT n).1) ((aT n).2.1) ((aT n).2.2),gY ((aT n).1) ((aT n).2.1) ((aT n).2.2))
theorem iS:∀ n m:Nat,n ≤ m→(∀ x0,Le ((aT n).1 x0) ((aC m).1 x0))∧(∀ x0,Le ((aT n).2.1 x0) ((aC m).2.1 x0))∧(∀ x0,Le ((aT n).2.2 x0) ((aC m).2.2 x0))
 | 0,m,_=>⟨fun _=>Le.none,fun _=>Le.none,fun _=>Le.none⟩
 | n + 1,0,h=>absurd h (by omega)
 | n + 1,m + 1,h=>by
  have ih:=iS n m (by omega)
  exact ⟨fun _=>oT ih.1 ih.2.1 ih.2.2 _,fun _=>pN ih.1 ih.2.1 ih.2.2 _,fun _=>oU ih.1 ih.2.1 ih.2.2 _⟩
def nD:Gl05Read→Option ((List Int) × Gl05Read):=(aT 60).1
theorem qI:∀ x0,Le (nD x0) (iQ x0):=(iS 60 bV (by decide)).1
def jN:(GFn × Gl05Read)→Option ((GFn × Gl05Read) ⊕ (GFn × Gl05Read)):=fun ⟨v24,v25⟩ =>
 if (!v25.bad)=true then
  (bE v25).bind fun ⟨r31,q32⟩ =>
  (aU q32 (⟨#[58]⟩:ByteArray)).bind fun q34 =>
  (gB q34).bind fun ⟨r36,q37⟩ =>
  (bW 24 v24.Params [(⟨r31,r36⟩:GParam)]).bind fun l39 =>
  (aD q37 3 (⟨#[41]⟩:ByteArray)).bind fun ⟨r40,q41⟩ =>
  if r40=true then
   some (Sum.inr ((⟨v24.Name,l39,v24.Res,v24.Body,v24.Ret⟩:GFn),q41))
  else
   (aU q41 (⟨#[44]⟩:ByteArray)).bind fun q46 =>
   some (Sum.inl ((⟨v24.Name,l39,v24.Res,v24.Body,v24.Ret⟩:GFn),q46))
 else
  some (Sum.inr (v24,v25))
theorem qJ (s):Le (jN  s) (fK  s):=by
 unfold jN fK
 repeat' first
  | exact dO _
  | exact bT _ _
  | exact lI _
  | exact bA _ _ _
  | exact Le.refl _
  | refine Le.ite (fun _=>?_) fun _=>?_
  | refine Le.bind ?_ fun _=>?_
  | refine Le.loop fun _=>?_
  | split
  | dsimp only
def lJ (r1:Gl05Read):Option (GFn × Gl05Read) :=
 Option.bind (
  (aD r1 1 (⟨#[102,110]⟩:ByteArray)).bind fun ⟨r5,q6⟩ =>
  if (!r5)=true then
   some (⟨q6.list,q6.at_,true,q6.deep,q6.nodes⟩:Gl05Read)
  else
   some q6) fun v10 =>
 (bE v10).bind fun ⟨r11,q12⟩ =>
 (aU q12 (⟨#[40]⟩:ByteArray)).bind fun q14 =>
 Option.bind (
  (aD q14 3 (⟨#[41]⟩:ByteArray)).bind fun ⟨r19,q20⟩ =>
  if (!r19)=true then
   tX 400 (jN) ((⟨r11,[],0,0,(-1)⟩:GFn),q20)
  else
   some ((⟨r11,[],0,0,(-1)⟩:GFn),q20)) fun ⟨v49,v50⟩ =>
 Option.bind (
  (aD v50 3 (⟨#[45,62]⟩:ByteArray)).bind fun ⟨r54,q55⟩ =>
  if r54=true then
   (gB q55).bind fun ⟨r59,q60⟩ =>
   some ((⟨v49.Name,v49.Params,r59,v49.Body,v49.Ret⟩:GFn),q60)
  else
   some (v49,q55)) fun ⟨v62,v63⟩ =>
 (aU v63 (⟨#[123]⟩:ByteArray)).bind fun q64 =>
 (nD q64).bind fun ⟨r66,q67⟩ =>
 (aH q67 (⟨20,0,ByteArray.empty,r66⟩:GNode)).bind fun ⟨r69,q70⟩ =>
 Option.bind (
  (aD q70 1 (⟨#[114,101,116]⟩:ByteArray)).bind fun ⟨r75,q76⟩ =>
  if r75=true then
   (eF q76).bind fun ⟨r80,q81⟩ =>
   (aU q81 (⟨#[59]⟩:ByteArray)).bind fun q83 =>
   some ((⟨v62.Name,v62.Params,v62.Res,r69,r80⟩:GFn),q83)
  else
   some ((⟨v62.Name,v62.Params,v62.Res,r69,v62.Ret⟩:GFn),q76)) fun ⟨v85,v86⟩ =>
 (aU v86 (⟨#[125]⟩:ByteArray)).bind fun q87 =>
 some (v85,q87)
theorem sF (r1:Gl05Read):Le (lJ r1) (eW r1):=by
 unfold lJ eW
 repeat' first
  | exact bA _ _ _
  | exact dO _
  | exact bT _ _
  | exact qJ _
  | exact lI _
  | exact qI _
  | exact gM _
  | exact Le.refl _
  | refine Le.ite (fun _=>?_) fun _=>?_
  | refine Le.bind ?_ fun _=>?_
  | refine Le.loop fun _=>?_
  | split
  | dsimp only
def fC:(GProgram × Gl05Read)→Option ((GProgram × Gl05Read) ⊕ (GProgram × Gl05Read)):=fun ⟨v10,v11⟩ =>
 Option.bind (
  if (!v11.bad)=true then
   if (decide (v11.at_ < (v11.list.length:Int)))=true then
    some (decide ((v10.Fns.length:Int) ≤ 8))
   else
    some false
  else
   some false) fun v21 =>
 if v21=true then
  (lJ v11).bind fun ⟨r24,q25⟩ =>
  (bW 64 v10.Fns [r24]).bind fun l27 =>
  some (Sum.inl ((⟨v10.Nodes,l27⟩:GProgram),q25))
 else
  some (Sum.inr (v10,v11))
theorem pQ (s):Le (fC  s) (dV  s):=by
 unfold fC dV
 repeat' first
  | exact sF _
  | exact Le.refl _
  | refine Le.ite (fun _=>?_) fun _=>?_
  | refine Le.bind ?_ fun _=>?_
  | refine Le.loop fun _=>?_
  | split
  | dsimp only
def aFm (t:ByteArray):Option GProgram:=(lM t).bind fun x=>if (!x.2)=true then none else (tX 400 fC (⟨[],[]⟩,⟨x.1,0,false,0,[]⟩)).bind fun y=>if y.2.bad=true then none else some ⟨y.2.nodes,y.1.Fns⟩
theorem aIk {t:ByteArray} (h:(aFm t).map uN=some true):∃ p,bX t=some (p,true)∧uN p=true∧aFm t=some p:=by
 cases hc:aFm t with
 | none=>rw [hc] at h;cases h
 | some p =>
  rw [hc] at h
  simp only [Option.map_some,Option.some.injEq] at h
  refine ⟨p,?_,h,rfl⟩
  unfold aFm at hc
  cases hs:lM t with
  | none=>rw [hs] at hc;cases hc
  | some x =>
   obtain ⟨l,b⟩:=x
   rw [hs] at hc
   simp only [Option.bind_some] at hc
   cases b with
   | false=>cases hc
   | true =>
    simp only [Bool.not_true,Bool.false_eq_true,if_false] at hc
    unfold bX
    rw [vJ t _ hs]
    simp only [Option.bind_some,Bool.not_true,Bool.false_eq_true,if_false]
    cases hl:tX 400 fC ((⟨[],[]⟩:GProgram),(⟨l,0,false,0,[]⟩:Gl05Read)) with
    | none=>rw [hl] at hc;cases hc
    | some y =>
     obtain ⟨q,r⟩:=y
     rw [hl] at hc
     rw [Le.loop (fun s=>pQ s) _ hl]
     simp only [Option.bind_some] at hc ⊢
     cases hb:r.bad with
     | true=>rw [hb] at hc;cases hc
     | false =>
      rw [hb] at hc
      simp only [Bool.false_eq_true,if_false,Option.some.injEq] at hc ⊢
      subst hc
      obtain ⟨b1,b2,b3,b4,hu⟩:=pY h
      rw [jR _ (by omega) (by dsimp only at b3 b4 ⊢;omega),h]
      rfl
theorem fall3:∃ p,bX (⟨#[102,110,32,109,97,105,110,40,41,32,123,32,112,114,105,110,116,32,49,59,32,125]⟩:ByteArray)=some (p,true)∧uN p=true:=by
 obtain ⟨p,h1,h2,_⟩:=aIk (t:=(⟨#[102,110,32,109,97,105,110,40,41,32,123,32,112,114,105,110,116,32,49,59,32,125]⟩:ByteArray)) (by kernel_rfl)
 exact ⟨p,h1,h2⟩
end Go.OM
namespace Go.OM
variable {α:Type} {Q:α→Prop}
theorem rU {n m:Nat} {p:GProgram} (h:GProgram.le n p) (hnm:n ≤ m):GProgram.le m p :=
 ⟨⟨Nat.le_trans h.1.1 hnm,fun x hx=>⟨Nat.le_trans (h.1.2 x hx).1 hnm,Nat.le_trans (h.1.2 x hx).2 hnm⟩⟩,⟨Nat.le_trans h.2.1 hnm,fun f hf=>⟨Nat.le_trans (h.2.2 f hf).1 hnm,Nat.le_trans (h.2.2 f hf).2.1 hnm,fun y hy=>Nat.le_trans ((h.2.2 f hf).2.2 y hy) hnm⟩⟩⟩
theorem aDj {c:Gl01Cur} (hc:Cur c):Ends (gD c) (fun r=>Cur r.2∧GProgram.le 4000 r.1∧uN r.1=true):=by
 unfold gD
 refine Ends.bind (E_Text hc (by omega) (by omega)) ?_
 rintro ⟨t,q⟩ ⟨hq,_⟩
 dsimp only at hq ⊢
 refine Ends.bind (nN t) ?_
 rintro ⟨p,b⟩ ⟨h1,h2,h3⟩
 dsimp only at h1 h2 h3 ⊢
 refine Ends.ite (fun _=>?_) fun hb=>Ends.one ⟨hq,h1,h2 (by simpa using hb)⟩
 refine Ends.bind (nN _) ?_
 rintro ⟨p2,b2⟩ ⟨h4,h5,h6⟩
 dsimp only at h4 h5 h6 ⊢
 refine Ends.ite (fun _=>?_) fun hz=>Ends.one ⟨hq,h4,?_⟩
 ·obtain ⟨p3,h7,h8⟩:=fall3
  obtain ⟨r,h9,h10,_⟩:=nN (⟨#[102,110,32,109,97,105,110,40,41,32,123,32,112,114,105,110,116,32,49,59,32,125]⟩:ByteArray)
  rw [h7] at h9
  injection h9 with h9
  subst h9
  rw [h7]
  exact Ends.one ⟨hq,h10,h8⟩
 cases hb:b2 with
 | true=>exact h5 hb
 | false=>rw [h6 hb] at hz;simp at hz
theorem aBf {p:GProgram} (h:GProgram.le 4000 p) (k:Nat) {x:GNode} (h1:x.Name.size ≤ 5000) (h2:x.Kids.length ≤ 5000):GProgram.le 5000 ⟨p.Nodes.set k x,p.Fns⟩:=by
 have h':=rU h (show 4000 ≤ 5000 by omega)
 refine ⟨⟨by rw [List.length_set];exact h'.1.1,fun y hy=>?_⟩,h'.2⟩
 rcases List.mem_or_eq_of_mem_set hy with hy | rfl
 ·exact h'.1.2 y hy
 exact ⟨h1,h2⟩
theorem aBg {p:GProgram} (h:GProgram.le 4000 p) (k:Nat) {x:GFn} (h1:GFn.le 5000 x):GProgram.le 5000 ⟨p.Nodes,p.Fns.set k x⟩:=by
 have h':=rU h (show 4000 ≤ 5000 by omega)
 refine ⟨h'.1,⟨by rw [List.length_set];exact h'.2.1,fun y hy=>?_⟩⟩
 rcases List.mem_or_eq_of_mem_set hy with hy | rfl
 ·exact h'.2.2 y hy
 exact h1
theorem aHb {x:Int} (h:0 ≤ x) (n:Int) (hn:0 < n):0 ≤ Int.tmod x n∧Int.tmod x n < n:=⟨Int.tmod_nonneg _ h,Int.tmod_lt_of_pos _ hn⟩
theorem aLh {c:Gl01Cur} (hc:Cur c):Ends (nQ c) (fun r=>Cur r.2∧GProgram.le 5000 r.1∧1 ≤ r.1.Nodes.length):=by
 unfold nQ
 refine oQ hc fun r2 q3 h1 h2 h3=>?_
 dsimp only
 refine oQ h1 fun r5 q6 h4 h5 h6=>?_
 dsimp only
 refine Ends.bind (aDj h4) ?_
 rintro ⟨p,q⟩ ⟨hq,hp,hok⟩
 dsimp only at hq hp hok ⊢
 rw [(tQ p (rU hp (by omega))).2]
 simp only [Option.bind_some]
 obtain ⟨b1,b2,b3,b4,hu⟩:=pY hok
 have hle:=rU hp (show 4000 ≤ 5000 by omega)
 refine Ends.bind (wX h5 (by omega)) fun n ⟨n0,n1⟩=>?_
 have hn:∀ k:Nat,∀ x:GNode,1 ≤ (p.Nodes.set k x).length:=fun k x=>by rw [List.length_set];exact b1
 have hN:=hp.1.2
 have hF:=hp.2.2
 refine Ends.ite (fun _=>?_) fun _=>?_
 ·refine Ends.get n0 n1 fun e he=>?_
  rw [dI]
  exact Ends.one ⟨hq,aBf hp _ (by have:=(hN e he).1;dsimp only;omega) (by have:=(hN e he).2;dsimp only;omega),hn _ _⟩
 refine Ends.ite (fun _=>?_) fun _=>?_
 ·have:=aHb h5 3 (by omega)
  refine Ends.get this.1 (by simp only [List.length_cons,List.length_nil];omega) fun v _=>?_
  refine Ends.get n0 n1 fun e he=>?_
  rw [dI]
  exact Ends.one ⟨hq,aBf hp _ (by have:=(hN e he).1;dsimp only;omega) (by have:=(hN e he).2;dsimp only;omega),hn _ _⟩
 refine Ends.ite (fun _=>?_) fun _=>?_
 ·have:=aHb h5 4 (by omega)
  refine Ends.get this.1 (by simp only [List.length_cons,List.length_nil];omega) fun v hv=>?_
  have hvs:v.size ≤ 5000:=by
   simp only [List.mem_cons,List.mem_nil_iff,or_false] at hv
   rcases hv with rfl | rfl | rfl | rfl<;>decide
  refine Ends.get n0 n1 fun e he=>?_
  rw [dI]
  exact Ends.one ⟨hq,aBf hp _ hvs (by have:=(hN e he).2;dsimp only;omega),hn _ _⟩
 refine Ends.ite (fun _=>?_) fun _=>?_
 ·refine Ends.get n0 n1 fun e he=>?_
  have h9:=(hN e he).2
  refine Ends.app1 (by omega) (by omega) ?_
  rw [dI]
  exact Ends.one ⟨hq,aBf hp _ (by have:=(hN e he).1;dsimp only;omega) (by simp only [List.length_append,List.length_cons,List.length_nil];omega),hn _ _⟩
 refine Ends.ite (fun _=>?_) fun _=>?_
 ·refine Ends.bind (wX h5 (by omega)) fun k ⟨k0,k1⟩=>Ends.get k0 k1 fun e he=>?_
  rw [dI]
  exact Ends.one ⟨hq,aBg hp _ (hle.2.2 e he),b1⟩
 refine Ends.ite (fun _=>?_) fun _=>?_
 ·refine Ends.bind (wX h5 (by omega)) fun k ⟨k0,k1⟩=>Ends.get k0 k1 fun e he=>?_
  rw [dI]
  exact Ends.one ⟨hq,aBg hp _ (hle.2.2 e he),b1⟩
 refine Ends.ite (fun _=>?_) fun _=>?_
 ·refine Ends.bind (wX h5 (by omega)) fun k ⟨k0,k1⟩=>Ends.get k0 k1 fun e he=>?_
  rw [dI]
  exact Ends.one ⟨hq,aBg hp _ ⟨by dsimp only;decide,(hle.2.2 e he).2⟩,b1⟩
 refine Ends.ite (fun _=>?_) fun _=>Ends.one ⟨hq,hle,b1⟩
 ·refine Ends.bind (wX h5 (by omega)) fun k ⟨k0,k1⟩=>Ends.get k0 k1 fun e he=>?_
  have h9:=(hF e he).2.1
  refine Ends.app1 (by omega) (by omega) ?_
  rw [dI]
  refine Ends.one ⟨hq,aBg hp _ ⟨(hle.2.2 e he).1,by simp only [List.length_append,List.length_cons,List.length_nil];omega,fun y hy=>?_⟩,b1⟩
  rcases List.mem_append.1 hy with hy | hy
  ·exact (hle.2.2 e he).2.2 y hy
  rw [List.mem_singleton.1 hy];unfold GParam.le;dsimp only;decide
theorem aEk {c:Gl01Cur} (hc:Cur c):Ends (iU c) (fun r=>Cur r.2∧GProgram.le 5000 r.1∧1 ≤ r.1.Nodes.length):=by
 unfold iU
 refine aFs hc (by simp) fun r q h1 h2=>?_
 have hr:r.size ≤ 40:=by
  simp only [List.mem_cons,List.mem_nil_iff,or_false] at h2
  rcases h2 with rfl | rfl | rfl | rfl | rfl<;>decide
 dsimp only
 refine Ends.cat (n:=40) (by decide) hr (by omega) fun t1 ht1=>?_
 refine Ends.catL ht1 (by decide) (by omega) fun t2 ht2=>?_
 refine Ends.bind (P:=fun r:ByteArray × Gl01Cur=>r.1.size ≤ 2000∧Cur r.2) ?_ ?_
 ·refine Ends.loop (fun s:ByteArray × Int × Gl01Cur=>∃ j:Nat,s.2.1=j∧j ≤ 4∧s.1.size ≤ 100 + 100 * j∧Cur s.2.2) (fun s=>4 - s.2.1.toNat) _ ?_ ⟨0,rfl,by omega,by dsimp only;omega,h1⟩
  rintro ⟨t,i,c1⟩ ⟨j,rfl,hj,ht,hc1⟩
  dsimp only at ht hc1
  unfold iP
  dsimp only
  refine oQ hc1 fun r q h3 h4 h5=>?_
  dsimp only
  have hr:=h5 (by omega)
  refine Ends.ite (fun h=>?_) fun h=>Ends.one (.inr ⟨_,rfl,by dsimp only;omega,h3⟩)
  simp only [decide_eq_true_eq] at h
  refine aFs h3 (by simp) fun r2 q2 h6 h7=>?_
  have hr2:r2.size ≤ 60:=by
   simp only [List.mem_cons,List.mem_nil_iff,or_false] at h7
   rcases h7 with rfl | rfl | rfl | rfl | rfl | rfl | rfl<;>decide
  dsimp only
  have e2:IntKind.wrap .i64 ((j:Int) + 1)=((j + 1:Nat):Int):=by rw [w64 (by omega) (by omega)];omega
  refine Ends.cat ht hr2 (by omega) fun t3 ht3=>Ends.catL ht3 (by decide) (by omega) fun t4 ht4=>Ends.one (.inl ⟨_,rfl,⟨j + 1,e2,by omega,by dsimp only;omega,h6⟩,?_⟩)
  dsimp only
  rw [e2];omega
 rintro ⟨t3,q2⟩ ⟨h3,h4⟩
 dsimp only at h3 h4 ⊢
 refine Ends.catL h3 (by decide) (by omega) fun t4 ht4=>?_
 refine Ends.bind (nN t4) ?_
 rintro ⟨p,b⟩ ⟨h5,h6,h7⟩
 dsimp only at h5 h6 h7 ⊢
 refine Ends.ite (fun _=>?_) fun hb=>Ends.one ⟨h4,rU h5 (by omega),(pY (h6 (by simpa using hb))).1⟩
 refine Ends.bind (aDj h4) ?_
 rintro ⟨p2,q3⟩ ⟨h8,h9,h10⟩
 exact Ends.one ⟨h8,rU h9 (by omega),(pY h10).1⟩
theorem aIw {c:Gl01Cur} (hc:Cur c):Ends (lX c) (fun r=>Cur r.2∧GProgram.le 5000 r.1∧1 ≤ r.1.Nodes.length):=by
 unfold lX
 refine aDm hc fun b q h1=>?_
 dsimp only
 refine Ends.ite (fun _=>?_) fun _=>?_
 ·exact Ends.bind (aLh h1) fun ⟨p,q⟩ h=>Ends.one h
 exact Ends.bind (aEk h1) fun ⟨p,q⟩ h=>Ends.one h
theorem aKb {code:List Int} (h:code.length ≤ 9223372036854775807):Ends (mL code) (fun r=>GProgram.le 5000 r.1):=by
 unfold mL
 refine Ends.bind (E_New h) fun c hc=>?_
 refine oQ hc fun r q h1 h2 h3=>?_
 dsimp only
 refine Ends.bind (aIw h1) ?_
 rintro ⟨p,q2⟩ ⟨h4,h5,h6⟩
 dsimp only at h4 h5 h6 ⊢
 have h7:=h5.1.1
 rw [w64 (n:=(p.Nodes.length:Int) + 2) (by omega) (by omega)]
 exact Ends.bind (wX h2 (by omega)) fun n _=>Ends.one h5
theorem aDk {code:List Int} (h:code.length ≤ 9223372036854775807):Ends (jG code) (fun p=>GProgram.le 5000 p):=by
 unfold jG
 refine Ends.bind (E_New h) fun c hc=>?_
 refine Ends.bind (aIw hc) ?_
 rintro ⟨p,q2⟩ ⟨h4,h5,h6⟩
 exact Ends.one h5
theorem aB5 (x:ByteArray):sEq x x=true:=by rw [aB6];simp
theorem aB4 (l:List Int) (h:l.length ≤ 1048576):lD l l=some true:=by
 unfold lD
 rw [if_neg (by simp)]
 have:aJ (fJ l l) 0=some (.inl ()):=by
  have h1:=nZ l (fun _=>true) (fJ l l) (fun k hk=>by
   simp only [fJ,aF hk,if_true,bJ hk,Option.bind_some,bne_self_eq_false,Bool.false_eq_true,if_false,qQ hk (show l.length ≤ maxLen by unfold maxLen;omega)]) (by simp [fJ])
  rw [h1];simp
 rw [this]
 rfl
theorem zX (l:List GNode) (h:l.length ≤ 1048576) (hN:∀ x ∈ l,x.Kids.length ≤ 1048576):kB l l=some true:=by
 unfold kB
 rw [if_neg (by simp)]
 have:aJ (eS l l) 0=some (.inl ()):=by
  have h1:=nZ l (fun _=>true) (eS l l) (fun k hk=>by
   simp only [eS,aF hk,if_true,bJ hk,Option.bind_some,bne_self_eq_false,Bool.false_eq_true,if_false,aB5,Bool.not_true,aB4 _ (hN _ (List.getElem_mem hk)),qQ hk (show l.length ≤ maxLen by unfold maxLen;omega)]) (by simp [eS])
  rw [h1];simp
 rw [this]
 rfl
theorem yH (f:GFn) (h:f.Params.length ≤ 1048576):aJ (eQ f f) 0=some (.inl ()):=by
 have h1:∀ (n k:Nat),n=f.Params.length - k→k ≤ f.Params.length→aJ (eQ f f) (k:Int)=some (.inl ()):=by
  intro n
  induction n with
  | zero =>
   intro k hk hk2
   have:k=f.Params.length:=by omega
   subst this
   exact jK (by simp [eQ])
  | succ n ih =>
   intro k hk hk2
   have hlt:k < f.Params.length:=by omega
   refine (nY (b:=((k + 1:Nat):Int)) ?_).trans (ih (k + 1) (by omega) (by omega))
   simp only [eQ,aF hlt,if_true,bJ hlt,Option.bind_some,bne_self_eq_false,aB5,Bool.not_true,Bool.or_self,Bool.false_eq_true,if_false,qQ hlt (show f.Params.length ≤ maxLen by unfold maxLen;omega)]
 exact h1 _ 0 rfl (Nat.zero_le _)
theorem zW (p:GProgram) (h:GProgram.le 1048576 p):kA p p=some true:=by
 unfold kA
 rw [zX p.Nodes h.1.1 fun x hx=>(h.1.2 x hx).2]
 simp only [Option.bind_some,Bool.not_true,Bool.false_eq_true,if_false,bne_self_eq_false]
 have h1:∀ (n k:Nat),n=p.Fns.length - k→k ≤ p.Fns.length→aJ (eR p p) (k:Int)=some (.inl ()):=by
  intro n
  induction n with
  | zero =>
   intro k hk hk2
   have:k=p.Fns.length:=by omega
   subst this
   exact jK (by simp [eR])
  | succ n ih =>
   intro k hk hk2
   have hlt:k < p.Fns.length:=by omega
   have hl:=h.2.1
   refine (nY (b:=((k + 1:Nat):Int)) ?_).trans (ih (k + 1) (by omega) (by omega))
   simp only [eR,aF hlt,if_true,bJ hlt,Option.bind_some,bne_self_eq_false,aB5,Bool.not_true,Bool.false_eq_true,if_false,yH p.Fns[k] (h.2.2 _ (List.getElem_mem hlt)).2.1,qQ hlt (show p.Fns.length ≤ maxLen by unfold maxLen;omega)]
 have:=h1 _ 0 rfl (Nat.zero_le _)
 have h2:aJ (eR p p) 0=some (.inl ()):=this
 rw [h2]
 rfl
end Go.OM
namespace Go.OM
def pkL (rc:List GNode→Int→Option (Int × List GNode)):List Int→List Int × List GNode→Option (List Int × List GNode)
 | [],s=>some s
 | x :: xs,s=>match rc s.2 x with
  | none=>none
  | some r=>pkL rc xs (s.1 ++ [r.1],r.2)
def pkI (nodes:List GNode):Nat→Int→List GNode→Int→Option (Int × List GNode)
 | 0=>fun _ _ _=>none
 | f + 1=>fun d tq k=>if inB k 0 ((nodes.length:Int) - 1)=true∧d ≤ 10∧tq.length < 300 then (match nodes[k.toNat]? with
  | none=>none
  | some e=>match pkL (pkI nodes f (d + 1)) e.Kids ([],tq) with
   | none=>none
   | some s=>if s.2.length < 300 then some ((s.2.length:Int),s.2 ++ [⟨e.Kind,e.Num,e.Name,s.1⟩]) else none) else none
theorem wE {nodes:List GNode}:∀ {f:Nat} {d:Int} {tq:List GNode} {k:Int} {r:Int × List GNode},pkI nodes f d tq k=some r→r.2.length ≤ 300
 | 0,d,tq,k,r,h=>by cases h
 | f + 1,d,tq,k,r,h=>by
  simp only [pkI] at h
  split at h
  ·split at h
   ·cases h
   split at h
   ·cases h
   split at h
   ·have:=Option.some.inj h
    subst this
    simp only [List.length_append,List.length_cons,List.length_nil];omega
   cases h
  cases h
theorem aHx {rc:List GNode→Int→Option (Int × List GNode)} (hr:∀ tq k r,rc tq k=some r→r.2.length ≤ 300):∀ (l:List Int) (s s':List Int × List GNode),s.2.length ≤ 300→pkL rc l s=some s'→s'.2.length ≤ 300
 | [],s,s',hs,h=>by cases h;exact hs
 | x :: l,s,s',hs,h=>by
  simp only [pkL] at h
  split at h
  ·cases h
  rename_i r hx
  exact aHx hr l _ s' (hr _ _ _ hx) h
theorem app56 {l:List GNode} (h:l.length ≤ 1000000) (x:GNode):bW 56 l [x]=some (l ++ [x]):=aH2 (by omega) (by omega)
theorem vA (nodes:List GNode) (hn:nodes.length ≤ 1048576) (hk:∀ x ∈ nodes,x.Kids.length ≤ 1048576):∀ (f:Nat) (d:Int) (tq:List GNode) (k:Int),1 ≤ d→d ≤ 11→12 ≤ d + f→tq.length ≤ 300 →
  (∀ r,pkI nodes f d tq k=some r→bU f ⟨nodes,tq,false⟩ k d=some (r.1,⟨nodes,r.2,false⟩))∧(pkI nodes f d tq k=none→∃ X,bU f ⟨nodes,tq,false⟩ k d=some (-1,⟨nodes,X,true⟩))
 | 0,d,tq,k,h1,h2,h3,_=>by omega
 | f + 1,d,tq,k,h1,h2,h3,h4=>by
  show (∀ r,pkI nodes (f + 1) d tq k=some r→eT (bU f) ⟨nodes,tq,false⟩ k d=some (r.1,⟨nodes,r.2,false⟩))∧(pkI nodes (f + 1) d tq k=none→∃ X,eT (bU f) ⟨nodes,tq,false⟩ k d=some (-1,⟨nodes,X,true⟩))
  unfold eT
  simp only [pkI,dX,Option.bind_some,iO hn,Bool.false_eq_true,if_false]
  have hcond:(if (!(inB k 0 ((nodes.length:Int) - 1)))=true then some true else if decide (d > 10)=true then some true else some (decide ((tq.length:Int) ≥ 300)))=some (decide (¬ (inB k 0 ((nodes.length:Int) - 1)=true∧d ≤ 10∧tq.length < 300))):=by
   cases hi:inB k 0 ((nodes.length:Int) - 1) with
   | false=>simp
   | true =>
    by_cases hd:d > 10
    ·have:¬ d ≤ 10:=by omega
     simp [hd,this]
    have hd':d ≤ 10:=by omega
    simp only [Bool.not_true,Bool.false_eq_true,if_false,decide_eq_true_eq,if_neg hd]
    congr 1
    rw [decide_eq_decide]
    constructor
    ·rintro h ⟨_,_,h3⟩;omega
    intro h
    rcases Nat.lt_or_ge tq.length 300 with h' | h'
    ·exact absurd ⟨trivial,hd',h'⟩ h
    omega
  rw [hcond]
  simp only [Option.bind_some,decide_eq_true_eq]
  by_cases hc:inB k 0 ((nodes.length:Int) - 1)=true∧d ≤ 10∧tq.length < 300
  ·rw [if_pos hc,if_neg (fun h=>h hc)]
   obtain ⟨hi,hd,hl⟩:=hc
   have hi':=inB_iff.1 hi
   have hlt:k.toNat < nodes.length:=by omega
   have hmem:=List.getElem_mem hlt
   have hkl:=hk _ hmem
   rw [gV hi'.1 (by omega),List.getElem?_eq_getElem hlt]
   simp only [Option.bind_some]
   generalize nodes[k.toNat]=e at *
   have hw:IntKind.wrap .i64 (d + 1)=d + 1:=w64 (by omega) (by omega)
   obtain ⟨r,g1,g2⟩:=jJ (f:=dN (bU f) d e) (fun s:List Int × Int × Gpacker=>∃ (i:Nat) (t:List GNode),s.2.1=i∧i ≤ e.Kids.length∧s.1.length=i∧s.2.2=⟨nodes,t,false⟩∧t.length ≤ 300∧pkL (pkI nodes f (d + 1)) e.Kids ([],tq)=pkL (pkI nodes f (d + 1)) (e.Kids.drop i) (s.1,t)) (fun s=>e.Kids.length - s.2.1.toNat)
     (fun r=>(∀ s,pkL (pkI nodes f (d + 1)) e.Kids ([],tq)=some s→r = .inl (s.1,⟨nodes,s.2,false⟩))∧(pkL (pkI nodes f (d + 1)) e.Kids ([],tq)=none→∃ X,r = .inr (-1,⟨nodes,X,true⟩))) (by
    rintro ⟨ks,i,pk⟩ ⟨i,t,rfl,hi,hkl',rfl,ht,hp⟩
    simp only at hi hkl' ht hp
    by_cases hil:i < e.Kids.length
    ·rw [List.drop_eq_getElem_cons hil] at hp
     simp only [pkL] at hp
     obtain ⟨m1,m2⟩:=vA nodes hn hk f (d + 1) t e.Kids[i] (by omega) (by omega) (by omega) ht
     cases hx:pkI nodes f (d + 1) t e.Kids[i] with
     | none =>
      right
      obtain ⟨X,hX⟩:=m2 hx
      rw [hx] at hp
      simp only at hp
      refine ⟨.inr (-1,⟨nodes,X,true⟩),?_,fun s hs=>?_,fun _=>⟨X,rfl⟩⟩
      ·simp only [dN,aF hil,if_true,bJ hil,Option.bind_some,hw,hX]
      rw [hp] at hs;cases hs
     | some q =>
      left
      have hq:=m1 q hx
      rw [hx] at hp
      simp only at hp
      refine ⟨(ks ++ [q.1],((i + 1:Nat):Int),⟨nodes,q.2,false⟩),?_,⟨i + 1,q.2,rfl,by omega,by simp only [List.length_append,List.length_cons,List.length_nil];omega,rfl,wE hx,hp⟩,by simp only [Int.toNat_natCast];omega⟩
      have happ:bW 8 ks [q.1]=some (ks ++ [q.1]):=app1 (by omega) (by omega)
      simp only [dN,aF hil,if_true,bJ hil,Option.bind_some,hw,hq,Bool.false_eq_true,if_false,happ,dJ hil hkl]
    right
    have:i=e.Kids.length:=by omega
    subst this
    rw [List.drop_length] at hp
    simp only [pkL] at hp
    refine ⟨.inl (ks,⟨nodes,t,false⟩),by simp [dN],fun s hs=>?_,fun h=>?_⟩
    ·rw [hp] at hs
     have:=Option.some.inj hs
     subst this;rfl
    rw [hp] at h;cases h) ([],0,⟨nodes,tq,false⟩) ⟨0,tq,rfl,by omega,rfl,rfl,h4,by simp⟩
   rw [g1]
   simp only [Option.bind_some]
   cases hp:pkL (pkI nodes f (d + 1)) e.Kids ([],tq) with
   | none =>
    obtain ⟨X,hX⟩:=g2.2 hp
    subst hX
    exact ⟨fun r h=>(by simp only at h;cases h),fun _=>⟨X,rfl⟩⟩
   | some s =>
    have hr:=g2.1 s hp
    subst hr
    have hsl:=aHx (fun _ _ _ h=>wE h) _ _ _ h4 hp
    simp only
    by_cases hs:s.2.length < 300
    ·rw [if_pos hs,if_neg (show ¬ ((s.2.length:Int) ≥ 300) by omega),app56 (by omega)]
     refine ⟨fun r h=>?_,fun h=>(by cases h)⟩
     have:=Option.some.inj h
     subst this
     simp only [Option.bind_some,List.length_append,List.length_cons,List.length_nil]
     rw [w64 (by omega) (by omega)]
     congr 2
     omega
    rw [if_neg hs,if_pos (show (s.2.length:Int) ≥ 300 by omega)]
    exact ⟨fun r h=>(by cases h),fun _=>⟨_,rfl⟩⟩
  rw [if_neg hc,if_pos hc]
  exact ⟨fun r h=>(by cases h),fun _=>⟨_,rfl⟩⟩
theorem uF (nodes:List GNode) (hn:nodes.length ≤ 1048576) (f:Nat) (X:List GNode) (b:Bool) (hb:b=true ∨ X.length > 300) (k d:Int):aZ (f + 1) ⟨nodes,X,b⟩ k d=some (-1,⟨nodes,X,true⟩):=by
 show cQ (aZ f) ⟨nodes,X,b⟩ k d=_
 unfold cQ
 simp only [gF,Option.bind_some,iO hn]
 cases hbb:b with
 | true=>rfl
 | false =>
  have hx:X.length > 300:=by
   rcases hb with h | h
   ·rw [hbb] at h;cases h
   exact h
  have hd:decide ((X.length:Int) > 300)=true:=by simp only [decide_eq_true_eq];omega
  simp only [Bool.false_eq_true,if_false,hd]
  by_cases h10:decide (d > 10)=true
  ·rw [if_pos h10];rfl
  rw [if_neg h10]
  cases inB k 0 ((nodes.length:Int) - 1)<;>rfl
theorem uE (nodes:List GNode) (hn:nodes.length ≤ 1048576) (hk:∀ x ∈ nodes,x.Kids.length ≤ 1048576):∀ (f:Nat) (d:Int) (tq:List GNode) (k:Int),1 ≤ d→d ≤ 11→12 ≤ d + f→tq.length ≤ 300 →
  (∀ r,pkI nodes f d tq k=some r→aZ f ⟨nodes,tq,false⟩ k d=some (r.1,⟨nodes,r.2,false⟩))∧(pkI nodes f d tq k=none→∃ (q:Int) (X:List GNode) (b:Bool),aZ f ⟨nodes,tq,false⟩ k d=some (q,⟨nodes,X,b⟩)∧(b=true ∨ X.length > 300)∧(X.length:Int) ≤ 300 + (11 - d))
 | 0,d,tq,k,h1,h2,h3,_=>by omega
 | f + 1,d,tq,k,h1,h2,h3,h4=>by
  show (∀ r,pkI nodes (f + 1) d tq k=some r→cQ (aZ f) ⟨nodes,tq,false⟩ k d=some (r.1,⟨nodes,r.2,false⟩))∧(pkI nodes (f + 1) d tq k=none→∃ (q:Int) (X:List GNode) (b:Bool),cQ (aZ f) ⟨nodes,tq,false⟩ k d=some (q,⟨nodes,X,b⟩)∧(b=true ∨ X.length > 300)∧(X.length:Int) ≤ 300 + (11 - d))
  unfold cQ
  simp only [pkI,gF,Option.bind_some,iO hn,Bool.false_eq_true,if_false]
  have hcond:(if decide (d > 10)=true then some true else if (!(inB k 0 ((nodes.length:Int) - 1)))=true then some true else some (decide ((tq.length:Int) > 300)))=some (decide (¬ (inB k 0 ((nodes.length:Int) - 1)=true∧d ≤ 10))):=by
   have hto:decide ((tq.length:Int) > 300)=false:=by simp only [decide_eq_false_iff_not];omega
   rw [hto]
   by_cases hd:d > 10
   ·have:¬ d ≤ 10:=by omega
    simp [hd,this]
   have hd':d ≤ 10:=by omega
   simp only [decide_eq_true_eq,if_neg hd]
   cases hi:inB k 0 ((nodes.length:Int) - 1)<;>simp [hd']
  rw [hcond]
  simp only [Option.bind_some,decide_eq_true_eq]
  by_cases hc:inB k 0 ((nodes.length:Int) - 1)=true∧d ≤ 10
  ·rw [if_neg (show ¬ ¬ (inB k 0 ((nodes.length:Int) - 1)=true∧d ≤ 10) from fun h=>h hc)]
   obtain ⟨hi,hd⟩:=hc
   have hi':=inB_iff.1 hi
   have hlt:k.toNat < nodes.length:=by omega
   have hmem:=List.getElem_mem hlt
   have hkl:=hk _ hmem
   have hge:aY nodes k=some nodes[k.toNat]:=gV hi'.1 (by omega)
   rw [List.getElem?_eq_getElem hlt,hge]
   simp only [Option.bind_some]
   generalize nodes[k.toNat]=e at *
   have hw:IntKind.wrap .i64 (d + 1)=d + 1:=w64 (by omega) (by omega)
   -- is there room at all?
   generalize hpk:(if inB k 0 ((nodes.length:Int) - 1)=true∧d ≤ 10∧tq.length < 300 then (match pkL (pkI nodes f (d + 1)) e.Kids ([],tq) with | none=>none | some s=>if s.2.length < 300 then some ((s.2.length:Int),s.2 ++ [(⟨e.Kind,e.Num,e.Name,s.1⟩:GNode)]) else none) else none)=P
   have hf:∃ f',f=f' + 1:=by
    cases f with
    | zero=>omega
    | succ f'=>exact ⟨f',rfl⟩
   obtain ⟨r,g1,⟨ks,X,b,g2,g3⟩⟩:=jJ (f:=cG (aZ f) k d) (fun s:Int × GNode × Gl04Pack=>∃ (i:Nat) (ks:List Int) (t:List GNode) (b:Bool),s.1=i∧i ≤ e.Kids.length∧ks.length ≤ i∧s.2.1=⟨e.Kind,e.Num,e.Name,ks⟩∧s.2.2=⟨nodes,t,b⟩ ∧
     ((b=false∧t.length ≤ 300∧pkL (pkI nodes f (d + 1)) e.Kids ([],tq)=pkL (pkI nodes f (d + 1)) (e.Kids.drop i) (ks,t)) ∨ (pkL (pkI nodes f (d + 1)) e.Kids ([],tq)=none∧(b=true ∨ t.length > 300)∧(t.length:Int) ≤ 300 + (10 - d)))) (fun s=>e.Kids.length - s.1.toNat)
     (fun r=>∃ (ks:List Int) (X:List GNode) (b:Bool),r=((⟨e.Kind,e.Num,e.Name,ks⟩:GNode),(⟨nodes,X,b⟩:Gl04Pack))∧((b=false∧X.length ≤ 300∧pkL (pkI nodes f (d + 1)) e.Kids ([],tq)=some (ks,X)) ∨ (pkL (pkI nodes f (d + 1)) e.Kids ([],tq)=none∧(b=true ∨ X.length > 300)∧(X.length:Int) ≤ 300 + (10 - d)))) (by
    rintro ⟨i,nd,pk⟩ ⟨i,ks,t,b,rfl,hi,hkl',rfl,rfl,hcase⟩
    try simp only at hi hkl' hcase
    by_cases hil:i < e.Kids.length
    ·have hcnd:(if decide ((i:Int) < (e.Kids.length:Int))=true then some (!b) else some false)=some (!b):=by rw [aF hil];rfl
     cases hbb:b with
     | true =>
      right
      refine ⟨(⟨e.Kind,e.Num,e.Name,ks⟩,⟨nodes,t,true⟩),?_,ks,t,true,rfl,?_⟩
      ·simp only [cG,hge,Option.bind_some,aF hil,if_true,Bool.not_true,Bool.false_eq_true,if_false]
      rcases hcase with ⟨h,_⟩ | ⟨h1',_,h3'⟩
      ·rw [hbb] at h;cases h
      exact .inr ⟨h1',.inl rfl,h3'⟩
     | false =>
      left
      have hstp:∀ (q:Int) (X:List GNode) (b':Bool),aZ f ⟨nodes,t,false⟩ e.Kids[i] (d + 1)=some (q,⟨nodes,X,b'⟩)→cG (aZ f) k d ((i:Int),⟨e.Kind,e.Num,e.Name,ks⟩,⟨nodes,t,false⟩)=some (.inl (((i + 1:Nat):Int),⟨e.Kind,e.Num,e.Name,ks ++ [q]⟩,⟨nodes,X,b'⟩)):=by
       intro q X b' hq
       have happ:bW 8 ks [q]=some (ks ++ [q]):=app1 (by omega) (by omega)
       simp only [cG,hge,Option.bind_some,aF hil,if_true,Bool.not_false,bJ hil,hw,hq,happ,dJ hil hkl]
      by_cases hdoom:pkL (pkI nodes f (d + 1)) e.Kids ([],tq)=none∧(t.length > 300)∧(t.length:Int) ≤ 300 + (10 - d)
      ·obtain ⟨f',rfl⟩:=hf
       have hq:=uF nodes hn f' t false (.inr hdoom.2.1) e.Kids[i] (d + 1)
       exact ⟨_,hstp _ _ _ hq,⟨i + 1,ks ++ [-1],t,true,rfl,by omega,by simp only [List.length_append,List.length_cons,List.length_nil];omega,rfl,rfl,.inr ⟨hdoom.1,.inl rfl,hdoom.2.2⟩⟩,by simp only [Int.toNat_natCast];omega⟩
      have hgood:t.length ≤ 300∧pkL (pkI nodes f (d + 1)) e.Kids ([],tq)=pkL (pkI nodes f (d + 1)) (e.Kids.drop i) (ks,t):=by
       rcases hcase with ⟨_,h5,h6⟩ | ⟨h5,h6,h7⟩
       ·exact ⟨h5,h6⟩
       rcases h6 with h6 | h6
       ·rw [hbb] at h6;cases h6
       exact absurd ⟨h5,h6,h7⟩ hdoom
      obtain ⟨ht,hp⟩:=hgood
      rw [List.drop_eq_getElem_cons hil] at hp
      simp only [pkL] at hp
      obtain ⟨m1,m2⟩:=uE nodes hn hk f (d + 1) t e.Kids[i] (by omega) (by omega) (by omega) ht
      cases hx:pkI nodes f (d + 1) t e.Kids[i] with
      | none =>
       obtain ⟨q,X,b',n1,n2,n3⟩:=m2 hx
       rw [hx] at hp
       simp only at hp
       exact ⟨_,hstp _ _ _ n1,⟨i + 1,ks ++ [q],X,b',rfl,by omega,by simp only [List.length_append,List.length_cons,List.length_nil];omega,rfl,rfl,.inr ⟨hp,n2,by omega⟩⟩,by simp only [Int.toNat_natCast];omega⟩
      | some q =>
       have hq:=m1 q hx
       rw [hx] at hp
       simp only at hp
       exact ⟨_,hstp _ _ _ hq,⟨i + 1,ks ++ [q.1],q.2,false,rfl,by omega,by simp only [List.length_append,List.length_cons,List.length_nil];omega,rfl,rfl,.inl ⟨rfl,wE hx,hp⟩⟩,by simp only [Int.toNat_natCast];omega⟩
    right
    have:i=e.Kids.length:=by omega
    subst this
    refine ⟨(⟨e.Kind,e.Num,e.Name,ks⟩,⟨nodes,t,b⟩),?_,ks,t,b,rfl,?_⟩
    ·simp only [cG,hge,Option.bind_some,aGj,Bool.false_eq_true,if_false]
    rcases hcase with ⟨h5,h6,h7⟩ | h5
    ·rw [List.drop_length] at h7
     exact .inl ⟨h5,h6,h7⟩
    exact .inr h5) (0,⟨e.Kind,e.Num,e.Name,[]⟩,⟨nodes,tq,false⟩) ⟨0,[],tq,false,rfl,by omega,by simp,rfl,rfl,.inl ⟨rfl,h4,by simp⟩⟩
   subst g2
   rw [g1]
   simp only [Option.bind_some]
   have hXl:X.length ≤ 1000000:=by
    rcases g3 with ⟨_,h,_⟩ | ⟨_,_,h⟩<;>omega
   rw [app56 hXl]
   simp only [Option.bind_some,List.length_append,List.length_cons,List.length_nil]
   have hw2:IntKind.wrap .i64 (((X.length + (0 + 1):Nat):Int) - 1)=(X.length:Int):=by rw [w64 (by omega) (by omega)];omega
   rw [hw2]
   have hgoodP:∀ r,P=some r→b=false∧r=((X.length:Int),X ++ [(⟨e.Kind,e.Num,e.Name,ks⟩:GNode)]):=by
    intro r hr
    rw [← hpk] at hr
    split at hr
    ·rcases g3 with ⟨h5,h6,h7⟩ | ⟨h5,_⟩
     ·rw [h7] at hr
      simp only at hr
      split at hr
      ·exact ⟨h5,(Option.some.inj hr).symm⟩
      cases hr
     rw [h5] at hr;cases hr
    cases hr
   have hbadP:P=none→(b=true ∨ X.length ≥ 300):=by
    intro hr
    rw [← hpk] at hr
    rcases g3 with ⟨h5,h6,h7⟩ | ⟨_,h6,_⟩
    ·right
     split at hr
     ·rw [h7] at hr
      simp only at hr
      split at hr
      ·cases hr
      omega
     rename_i hno
     have hge300:¬ tq.length < 300:=fun h=>hno ⟨hi,hd,h⟩
     -- nothing is taken away
     have mono:∀ (l:List Int) (s s':List Int × List GNode),pkL (pkI nodes f (d + 1)) l s=some s'→s.2.length ≤ s'.2.length:=by
      intro l
      induction l with
      | nil=>intro s s' h;cases h;exact Nat.le_refl _
      | cons x l ih =>
       intro s s' h
       simp only [pkL] at h
       split at h
       ·cases h
       rename_i q hq
       have h8:=ih _ _ h
       have h9:s.2.length ≤ q.2.length:=by
        have:∀ (f:Nat) (d:Int) (tq:List GNode) (k:Int) (q:Int × List GNode),pkI nodes f d tq k=some q→tq.length < 300:=by
         intro f d tq k q h
         cases f with
         | zero=>cases h
         | succ f =>
          simp only [pkI] at h
          split at h
          ·rename_i hh;exact hh.2.2
          cases h
        have hlt:=this _ _ _ _ _ hq
        have hgr:∀ (f:Nat) (d:Int) (tq:List GNode) (k:Int) (q:Int × List GNode),pkI nodes f d tq k=some q→tq.length ≤ q.2.length:=by
         intro f
         induction f with
         | zero=>intro d tq k q h;cases h
         | succ f ihf =>
          intro d tq k q h
          simp only [pkI] at h
          split at h
          ·split at h
           ·cases h
           split at h
           ·cases h
           rename_i s'' hs''
           have hm:∀ (l:List Int) (s s':List Int × List GNode),pkL (pkI nodes f (d + 1)) l s=some s'→s.2.length ≤ s'.2.length:=by
            intro l
            induction l with
            | nil=>intro s s' h;cases h;exact Nat.le_refl _
            | cons x l ihl =>
             intro s s' h
             simp only [pkL] at h
             split at h
             ·cases h
             rename_i q' hq'
             exact Nat.le_trans (ihf _ _ _ _ hq') (ihl _ _ h)
           have h10:=hm _ _ _ hs''
           split at h
           ·have:=Option.some.inj h
            subst this
            simp only [List.length_append] at h10 ⊢;omega
           cases h
          cases h
        exact hgr _ _ _ _ _ hq
       exact Nat.le_trans h9 h8
     have:=mono _ _ _ h7
     simp only at this
     omega
    rcases h6 with h6 | h6
    ·exact .inl h6
    exact .inr (by omega)
   refine ⟨fun r hr=>?_,fun hr=>?_⟩
   ·obtain ⟨h5,h6⟩:=hgoodP r hr
    subst h5 h6;rfl
   refine ⟨_,_,b,rfl,?_,?_⟩
   ·rcases hbadP hr with h | h
    ·exact .inl h
    right
    simp only [List.length_append,List.length_cons,List.length_nil];omega
   simp only [List.length_append,List.length_cons,List.length_nil]
   rcases g3 with ⟨_,h,_⟩ | ⟨_,_,h⟩<;>omega
  rw [if_pos hc,if_neg (fun h=>hc ⟨h.1,h.2.1⟩)]
  exact ⟨fun r h=>(by cases h),fun _=>⟨_,_,true,rfl,.inl rfl,by first | omega | (simp only;omega)⟩⟩
end Go.OM
namespace Go.OM
theorem aF2 {rc:List GNode→Int→Option (Int × List GNode)}:∀ (l:List Int) (s s':List Int × List GNode),pkL rc l s=some s'→s'.1.length=s.1.length + l.length
 | [],s,s',h=>by cases h;rfl
 | x :: l,s,s',h=>by
  simp only [pkL] at h
  split at h
  ·cases h
  rename_i r hx
  have:=aF2 l _ s' h
  rw [this]
  simp only [List.length_append,List.length_cons,List.length_nil];omega
theorem aKf {rc:List GNode→Int→Option (Int × List GNode)} (hr:∀ tq k r,NL tq→rc tq k=some r→NL r.2):∀ (l:List Int) (s s':List Int × List GNode),NL s.2→pkL rc l s=some s'→NL s'.2
 | [],s,s',hs,h=>by cases h;exact hs
 | x :: l,s,s',hs,h=>by
  simp only [pkL] at h
  split at h
  ·cases h
  rename_i r hx
  exact aKf hr l _ s' (hr _ _ _ hs hx) h
theorem aF3 {nodes:List GNode} (hN:NL nodes):∀ (f:Nat) (d:Int) (tq:List GNode) (k:Int) (r:Int × List GNode),NL tq→pkI nodes f d tq k=some r→NL r.2
 | 0,d,tq,k,r,_,h=>by cases h
 | f + 1,d,tq,k,r,ht,h=>by
  simp only [pkI] at h
  split at h
  ·split at h
   ·cases h
   rename_i e he
   split at h
   ·cases h
   rename_i s hs
   split at h
   ·have hr:=Option.some.inj h
    subst hr
    have h1:=aKf (fun tq k r=>aF3 hN f (d + 1) tq k r) _ _ _ ht hs
    have h2:=aF2 _ _ _ hs
    have h3:=hN e (List.mem_of_getElem? he)
    intro x hx
    simp only [List.mem_append,List.mem_singleton] at hx
    rcases hx with hx | hx
    ·exact h1 x hx
    subst hx
    refine ⟨h3.1,?_⟩
    simp only [List.length_nil,Nat.zero_add] at h2
    simp only
    rw [h2]
    exact h3.2
   cases h
  cases h
theorem aCx (nodes:List GNode):∀ (f:Nat),1 ≤ f→∀ (X:List GNode) (k d:Int),bU f ⟨nodes,X,true⟩ k d=some (-1,⟨nodes,X,true⟩)
 | 0,h,_,_,_=>by omega
 | f + 1,_,X,k,d=>rfl
theorem aC7 (nodes:List GNode) (hn:nodes.length ≤ 1048576):∀ (f:Nat),1 ≤ f→∀ (X:List GNode) (b:Bool),(b=true ∨ X.length > 300)→∀ (k d:Int),aZ f ⟨nodes,X,b⟩ k d=some (-1,⟨nodes,X,true⟩)
 | 0,h,_,_,_,_,_=>by omega
 | f + 1,_,X,b,hb,k,d=>uF nodes hn f X b hb k d
def RelP (p:GProgram) (i:Nat) (pk:Gpacker) (pr:GProgram) (pr':GProgram) (pk':Gl04Pack):Prop :=
 (∃ (t:List GNode) (fs:List GFn),pk=⟨p.Nodes,t,false⟩∧pk'=⟨p.Nodes,t,false⟩∧t.length ≤ 300∧NL t∧pr=⟨[],fs⟩∧pr'=⟨[],fs⟩∧fs.length=i∧∀ f ∈ fs,GFn.le 1048576 f) ∨
 (∃ (X X':List GNode) (b':Bool) (fs fs':List GFn),pk=⟨p.Nodes,X,true⟩∧pk'=⟨p.Nodes,X',b'⟩∧(b'=true ∨ X'.length > 300)∧X'.length ≤ 1000∧pr=⟨[],fs⟩∧pr'=⟨[],fs'⟩∧fs.length=i∧fs'.length=i)
theorem aEh (p:GProgram) (h:GProgram.le 1048576 p):∃ (q:GProgram) (b:Bool),oG p=some (q,b)∧nR p=some (q,b)∧(b=true→GProgram.le 1048576 q):=by
 obtain ⟨⟨hn,hN⟩,hF,hFl⟩:=h
 have hk:∀ x ∈ p.Nodes,x.Kids.length ≤ 1048576:=fun x hx=>(hN x hx).2
 have h1f:1 ≤ bV:=by rw [vZ];omega
 have h12:12 ≤ (1:Int) + (bV:Nat):=by rw [vZ];omega
 have ip:∀ (t:List GNode) (k:Int),t.length ≤ 300→(∀ r,pkI p.Nodes bV 1 t k=some r→gH ⟨p.Nodes,t,false⟩ k 1=some (r.1,⟨p.Nodes,r.2,false⟩))∧(pkI p.Nodes bV 1 t k=none→∃ X,gH ⟨p.Nodes,t,false⟩ k 1=some (-1,⟨p.Nodes,X,true⟩)):=fun t k ht=>vA p.Nodes hn hk bV 1 t k (by omega) (by omega) h12 ht
 have sp:∀ (t:List GNode) (k:Int),t.length ≤ 300→(∀ r,pkI p.Nodes bV 1 t k=some r→fF ⟨p.Nodes,t,false⟩ k 1=some (r.1,⟨p.Nodes,r.2,false⟩))∧(pkI p.Nodes bV 1 t k=none→∃ (q:Int) (X:List GNode) (b:Bool),fF ⟨p.Nodes,t,false⟩ k 1=some (q,⟨p.Nodes,X,b⟩)∧(b=true ∨ X.length > 300)∧(X.length:Int) ≤ 300 + (11 - 1)):=fun t k ht=>uE p.Nodes hn hk bV 1 t k (by omega) (by omega) h12 ht
 have ib:∀ (X:List GNode) (k:Int),gH ⟨p.Nodes,X,true⟩ k 1=some (-1,⟨p.Nodes,X,true⟩):=fun X k=>aCx p.Nodes bV h1f X k 1
 have sb:∀ (X:List GNode) (b:Bool) (k:Int),(b=true ∨ X.length > 300)→fF ⟨p.Nodes,X,b⟩ k 1=some (-1,⟨p.Nodes,X,true⟩):=fun X b k hb=>aC7 p.Nodes hn bV h1f X b hb k 1
 obtain ⟨r,r',g1,g2,pk,pr,pr',pk',e1,e2,g3⟩:=uW (f:=cU p) (g:=cT p) (fun (a:Int × Gpacker × GProgram) (b:Int × GProgram × Gl04Pack)=>∃ i:Nat,a.1=i∧b.1=i∧i ≤ p.Fns.length∧RelP p i a.2.1 a.2.2 b.2.1 b.2.2) (fun a=>p.Fns.length - a.1.toNat)
  (fun r r'=>∃ pk pr pr' pk',r=(pk,pr)∧r'=(pr',pk')∧RelP p p.Fns.length pk pr pr' pk') (by
  rintro ⟨i,pk,pr⟩ ⟨i',pr',pk'⟩ ⟨i,rfl,rfl,hi,hrel⟩
  simp only at hi hrel
  by_cases hlt:i < p.Fns.length
  ·left
   have hfm:=List.getElem_mem hlt
   have hfl:=hFl _ hfm
   have hpar:(p.Fns[i]).Params.length ≤ 1048576:=hfl.2.1
   have hcp:=aD9 p.Fns[i] hpar
   have hap:=vL (n:=24) hpar (by omega)
   have hgi:aY p.Fns (i:Int)=some p.Fns[i]:=bJ hlt
   generalize p.Fns[i]=f at *
   have hwi:=dJ hlt hF
   have appF:∀ (fs:List GFn) (x:GFn),fs.length=i→bW 64 fs [x]=some (fs ++ [x]):=fun fs x hfs=>aH2 (by omega) (by omega)
   -- both go wrong
   have wrong:∀ (X X':List GNode) (b':Bool) (z z':GFn) (fs fs':List GFn),(b'=true ∨ X'.length > 300)→X'.length ≤ 1000→fs.length=i→fs'.length=i→RelP p (i + 1) ⟨p.Nodes,X,true⟩ ⟨[],fs ++ [z]⟩ ⟨[],fs' ++ [z']⟩ ⟨p.Nodes,X',b'⟩:=fun X X' b' z z' fs fs' a1 a2 a3 a4=>.inr ⟨X,X',b',_,_,rfl,rfl,a1,a2,rfl,rfl,by simp [a3],by simp [a4]⟩
   by_cases hret:f.Ret ≥ 0
   ·have hrd:decide (f.Ret ≥ 0)=true:=by simpa using hret
    rcases hrel with ⟨t,fs,rfl,rfl,ht,hnl,rfl,rfl,hfs,hfle⟩ | ⟨X,X',b',fs,fs',rfl,rfl,hb,hXl,rfl,rfl,hfs,hfs'⟩
    ·obtain ⟨i1,i2⟩:=ip t f.Body ht
     obtain ⟨s1,s2⟩:=sp t f.Body ht
     cases hx:pkI p.Nodes bV 1 t f.Body with
     | none =>
      obtain ⟨X,hX⟩:=i2 hx
      obtain ⟨q,X',b',n1,n2,n3⟩:=s2 hx
      refine ⟨(((i + 1:Nat):Int),⟨p.Nodes,X,true⟩,⟨[],fs ++ [⟨f.Name,f.Params,f.Res,-1,-1⟩]⟩),(((i + 1:Nat):Int),⟨[],fs ++ [⟨f.Name,f.Params,f.Res,q,-1⟩]⟩,⟨p.Nodes,X',true⟩),?_,?_,⟨i + 1,rfl,rfl,by omega,wrong X X' true _ _ fs fs (.inl rfl) (by omega) hfs hfs⟩,by simp only [Int.toNat_natCast];omega⟩
      ·simp only [cU,aF hlt,if_true,hgi,Option.bind_some,hcp,hX,hrd,ib,appF _ _ hfs,hwi]
      simp only [cT,aF hlt,if_true,hgi,Option.bind_some,hap,n1,hrd,sb X' b' _ n2,appF _ _ hfs,hwi]
     | some r1 =>
      have hl1:=wE hx
      have hnl1:=aF3 hN _ _ _ _ _ hnl hx
      obtain ⟨j1,j2⟩:=ip r1.2 f.Ret hl1
      obtain ⟨u1,u2⟩:=sp r1.2 f.Ret hl1
      cases hy:pkI p.Nodes bV 1 r1.2 f.Ret with
      | none =>
       obtain ⟨X,hX⟩:=j2 hy
       obtain ⟨q,X',b',n1,n2,n3⟩:=u2 hy
       refine ⟨(((i + 1:Nat):Int),⟨p.Nodes,X,true⟩,⟨[],fs ++ [⟨f.Name,f.Params,f.Res,r1.1,-1⟩]⟩),(((i + 1:Nat):Int),⟨[],fs ++ [⟨f.Name,f.Params,f.Res,r1.1,q⟩]⟩,⟨p.Nodes,X',b'⟩),?_,?_,⟨i + 1,rfl,rfl,by omega,wrong X X' b' _ _ fs fs n2 (by omega) hfs hfs⟩,by simp only [Int.toNat_natCast];omega⟩
       ·simp only [cU,aF hlt,if_true,hgi,Option.bind_some,hcp,i1 r1 hx,hrd,hX,appF _ _ hfs,hwi]
       simp only [cT,aF hlt,if_true,hgi,Option.bind_some,hap,s1 r1 hx,hrd,n1,appF _ _ hfs,hwi]
      | some r2 =>
       refine ⟨(((i + 1:Nat):Int),⟨p.Nodes,r2.2,false⟩,⟨[],fs ++ [⟨f.Name,f.Params,f.Res,r1.1,r2.1⟩]⟩),(((i + 1:Nat):Int),⟨[],fs ++ [⟨f.Name,f.Params,f.Res,r1.1,r2.1⟩]⟩,⟨p.Nodes,r2.2,false⟩),?_,?_,⟨i + 1,rfl,rfl,by omega,.inl ⟨r2.2,_,rfl,rfl,wE hy,aF3 hN _ _ _ _ _ hnl1 hy,rfl,rfl,by simp [hfs],fun x hx=>?_⟩⟩,by simp only [Int.toNat_natCast];omega⟩
       ·simp only [cU,aF hlt,if_true,hgi,Option.bind_some,hcp,i1 r1 hx,hrd,j1 r2 hy,appF _ _ hfs,hwi]
       ·simp only [cT,aF hlt,if_true,hgi,Option.bind_some,hap,s1 r1 hx,hrd,u1 r2 hy,appF _ _ hfs,hwi]
       simp only [List.mem_append,List.mem_singleton] at hx
       rcases hx with hx | hx
       ·exact hfle x hx
       subst hx;exact hfl
    refine ⟨(((i + 1:Nat):Int),⟨p.Nodes,X,true⟩,⟨[],fs ++ [⟨f.Name,f.Params,f.Res,-1,-1⟩]⟩),(((i + 1:Nat):Int),⟨[],fs' ++ [⟨f.Name,f.Params,f.Res,-1,-1⟩]⟩,⟨p.Nodes,X',true⟩),?_,?_,⟨i + 1,rfl,rfl,by omega,wrong X X' true _ _ fs fs' (.inl rfl) hXl hfs hfs'⟩,by simp only [Int.toNat_natCast];omega⟩
    ·simp only [cU,aF hlt,if_true,hgi,Option.bind_some,hcp,hrd,ib,appF _ _ hfs,hwi]
    simp only [cT,aF hlt,if_true,hgi,Option.bind_some,hap,hrd,sb X' b' _ hb,sb X' true _ (.inl rfl),appF _ _ hfs',hwi]
   have hrd:decide (f.Ret ≥ 0)=false:=by simpa using hret
   rcases hrel with ⟨t,fs,rfl,rfl,ht,hnl,rfl,rfl,hfs,hfle⟩ | ⟨X,X',b',fs,fs',rfl,rfl,hb,hXl,rfl,rfl,hfs,hfs'⟩
   ·obtain ⟨i1,i2⟩:=ip t f.Body ht
    obtain ⟨s1,s2⟩:=sp t f.Body ht
    cases hx:pkI p.Nodes bV 1 t f.Body with
    | none =>
     obtain ⟨X,hX⟩:=i2 hx
     obtain ⟨q,X',b',n1,n2,n3⟩:=s2 hx
     refine ⟨(((i + 1:Nat):Int),⟨p.Nodes,X,true⟩,⟨[],fs ++ [⟨f.Name,f.Params,f.Res,-1,f.Ret⟩]⟩),(((i + 1:Nat):Int),⟨[],fs ++ [⟨f.Name,f.Params,f.Res,q,f.Ret⟩]⟩,⟨p.Nodes,X',b'⟩),?_,?_,⟨i + 1,rfl,rfl,by omega,wrong X X' b' _ _ fs fs n2 (by omega) hfs hfs⟩,by simp only [Int.toNat_natCast];omega⟩
     ·simp only [cU,aF hlt,if_true,hgi,Option.bind_some,hcp,hX,hrd,Bool.false_eq_true,if_false,appF _ _ hfs,hwi]
     simp only [cT,aF hlt,if_true,hgi,Option.bind_some,hap,n1,hrd,Bool.false_eq_true,if_false,appF _ _ hfs,hwi]
    | some r1 =>
     refine ⟨(((i + 1:Nat):Int),⟨p.Nodes,r1.2,false⟩,⟨[],fs ++ [⟨f.Name,f.Params,f.Res,r1.1,f.Ret⟩]⟩),(((i + 1:Nat):Int),⟨[],fs ++ [⟨f.Name,f.Params,f.Res,r1.1,f.Ret⟩]⟩,⟨p.Nodes,r1.2,false⟩),?_,?_,⟨i + 1,rfl,rfl,by omega,.inl ⟨r1.2,_,rfl,rfl,wE hx,aF3 hN _ _ _ _ _ hnl hx,rfl,rfl,by simp [hfs],fun x hx=>?_⟩⟩,by simp only [Int.toNat_natCast];omega⟩
     ·simp only [cU,aF hlt,if_true,hgi,Option.bind_some,hcp,i1 r1 hx,hrd,Bool.false_eq_true,if_false,appF _ _ hfs,hwi]
     ·simp only [cT,aF hlt,if_true,hgi,Option.bind_some,hap,s1 r1 hx,hrd,Bool.false_eq_true,if_false,appF _ _ hfs,hwi]
     simp only [List.mem_append,List.mem_singleton] at hx
     rcases hx with hx | hx
     ·exact hfle x hx
     subst hx;exact hfl
   refine ⟨(((i + 1:Nat):Int),⟨p.Nodes,X,true⟩,⟨[],fs ++ [⟨f.Name,f.Params,f.Res,-1,f.Ret⟩]⟩),(((i + 1:Nat):Int),⟨[],fs' ++ [⟨f.Name,f.Params,f.Res,-1,f.Ret⟩]⟩,⟨p.Nodes,X',true⟩),?_,?_,⟨i + 1,rfl,rfl,by omega,wrong X X' true _ _ fs fs' (.inl rfl) hXl hfs hfs'⟩,by simp only [Int.toNat_natCast];omega⟩
   ·simp only [cU,aF hlt,if_true,hgi,Option.bind_some,hcp,hrd,ib,Bool.false_eq_true,if_false,appF _ _ hfs,hwi]
   simp only [cT,aF hlt,if_true,hgi,Option.bind_some,hap,hrd,sb X' b' _ hb,Bool.false_eq_true,if_false,appF _ _ hfs',hwi]
  right
  have:i=p.Fns.length:=by omega
  subst this
  exact ⟨(pk,pr),(pr',pk'),by simp [cU],by simp [cT],pk,pr,pr',pk',rfl,rfl,hrel⟩) (0,⟨p.Nodes,[],false⟩,⟨[],[]⟩) (0,⟨[],[]⟩,⟨p.Nodes,[],false⟩) ⟨0,rfl,rfl,by omega,.inl ⟨[],[],rfl,rfl,by simp,fun x hx=>(by cases hx),rfl,rfl,rfl,fun x hx=>(by cases hx)⟩⟩
 subst e1 e2
 unfold oG nR
 rw [g1,g2]
 simp only [Option.bind_some]
 rcases g3 with ⟨t,fs,rfl,rfl,ht,hnl,rfl,rfl,hfs,hfle⟩ | ⟨X,X',b',fs,fs',rfl,rfl,hb,hXl,rfl,rfl,hfs,hfs'⟩
 ·have hd:decide ((t.length:Int) > 300)=false:=by simp only [decide_eq_false_iff_not];omega
  refine ⟨⟨t,fs⟩,true,by simp,by simp only [Bool.false_eq_true,if_false,hd,Option.bind_some],fun _=>⟨⟨by simp only;omega,hnl⟩,by simp only;omega,hfle⟩⟩
 refine ⟨⟨[],[]⟩,false,by simp,?_,fun h=>by cases h⟩
 have:(if b'=true then some true else some (decide ((X'.length:Int) > 300)))=some true:=by
  rcases hb with h | h
  ·rw [h];rfl
  have hd:decide ((X'.length:Int) > 300)=true:=by simp only [decide_eq_true_eq];omega
  rw [hd];split<;>rfl
 simp only [this,Option.bind_some,if_true]
end Go.OM
