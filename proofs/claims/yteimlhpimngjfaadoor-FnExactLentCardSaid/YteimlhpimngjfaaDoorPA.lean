import Derived.Test.YteimlhpimngjfaaDoorTA
import Derived.KernelRfl
set_option linter.unusedVariables false
set_option linter.unusedSimpArgs false
set_option linter.unusedVariables false
set_option linter.unusedSimpArgs false
namespace Go.OM
theorem w64 {n : Int} (h1 : -9223372036854775808 ≤ n) (h2 : n ≤ 9223372036854775807) : IntKind.wrap .i64 n = n := wrap64 h1 h2
theorem w64_succ {k n : Nat} (hk : k < n) (hn : n ≤ maxLen) : IntKind.wrap .i64 ((k : Int) + 1) = ((k + 1 : Nat) : Int) := by
 have hn' : n ≤ 9223372036854775807 := hn
 rw [w64 (by omega) (by omega)]; omega
@[simp] theorem getI_nat {α : Type} (l : List α) (k : Nat) : getI l (k : Int) = l[k]? := by simp [getI]
theorem getI_at {α : Type} {l : List α} {k : Nat} (hk : k < l.length) : getI l (k : Int) = some l[k] := by simp [hk]
theorem getI_zero {α : Type} (l : List α) : getI l 0 = l[0]? := by simp [getI]
theorem sEq_iff (x y : ByteArray) : sEq x y = decide (x = y) := by
  unfold sEq
  have hxy : x.toList = y.toList ↔ x = y := by
    constructor
    · intro h
      have hx : ∀ z : ByteArray, z.toList = z.data.toList := by
        intro z
        have loop : ∀ (n i : Nat) (r : List UInt8), z.size - i = n → ByteArray.toList.loop z i r = r.reverse ++ z.data.toList.drop i := by
          intro n
          induction n with
          | zero =>
            intro i r hn
            unfold ByteArray.toList.loop
            rw [if_neg (by omega), List.drop_eq_nil_of_le (by have : z.data.toList.length = z.size := Array.length_toList
                                                              omega)]
            simp
          | succ n ih =>
            intro i r hn
            unfold ByteArray.toList.loop
            rw [if_pos (by omega), ih (i + 1) _ (by omega)]
            have hlt : i < z.data.toList.length := by have : z.data.toList.length = z.size := Array.length_toList
                                                      omega
            rw [List.drop_eq_getElem_cons hlt]
            have hz : i < z.size := by omega
            simp [ByteArray.get!, Array.getElem!_eq_getD, Array.getD, hz]
        unfold ByteArray.toList
        rw [loop _ 0 [] rfl]; simp
      rw [hx, hx] at h
      cases x; cases y
      simp only [ByteArray.mk.injEq]
      exact Array.toList_inj.1 h
    intro h; rw [h]
  by_cases h : x = y
  · simp [h]
  have : ¬ (x.toList = y.toList) := fun e => h (hxy.1 e)
  simp [h, this]
theorem ofNat_lt_true {k n : Nat} (h : k < n) : decide ((k : Int) < (n : Int)) = true := by simpa using h
theorem szS_gen {α : Type} (ok : α → Prop) (a : List α) (f : Int × Int → Option ((Int × Int) ⊕ (Int ⊕ Int))) (B : Int)
  (hf : ∀ (m : Int) (k : Nat) (h0 : 0 ≤ m) (h1 : m ≤ B) (hk : k < a.length), ∃ r, r ≤ m ∧ (0 ≤ r → ok a[k]) ∧ f (m, k) = some (if r < 0 then .inr (.inr (-1)) else .inl (r, ((k + 1 : Nat) : Int))))
  (he : ∀ m, f (m, a.length) = some (.inr (.inl m))) (n : Int) (h0 : 0 ≤ n) (h1 : n ≤ B) :
  ∃ j, loopP f (n, 0) = some j ∧ (j = .inr (-1) ∨ ∃ m, j = .inl m ∧ 0 ≤ m ∧ m ≤ n ∧ ∀ x ∈ a, ok x) := by
 refine loopP_run (f := f) (fun s : Int × Int => ∃ k : Nat, s.2 = k ∧ k ≤ a.length ∧ 0 ≤ s.1 ∧ s.1 ≤ n ∧ ∀ (j : Nat) (h : j < a.length), j < k → ok a[j]) (fun s => a.length - s.2.toNat) _ ?_ (n, 0) ⟨0, rfl, by omega, h0, by simp, fun j _ h => by omega⟩
 rintro ⟨m, i⟩ ⟨k, hi, hk, h2, h3, h4⟩
 simp only at hi h2 h3
 subst hi
 by_cases hlt : k < a.length
 ·obtain ⟨r, r1, r2, r3⟩ := hf m k h2 (by omega) hlt
  rw [r3]
  by_cases hr : r < 0
  ·right
   rw [if_pos hr]
   exact ⟨_, rfl, .inl rfl⟩
  left
  rw [if_neg hr]
  refine ⟨_, rfl, ⟨k + 1, rfl, by omega, by simp only; omega, by simp only; omega, fun j h hj => ?_⟩, ?_⟩
  ·by_cases e : j = k
   ·subst e; exact r2 (by omega)
   exact h4 j h (by omega)
  simp only [Int.toNat_natCast]; omega
 right
 have hke : k = a.length := by omega
 subst hke
 rw [he]
 refine ⟨_, rfl, .inr ⟨m, rfl, h2, h3, fun x hx => ?_⟩⟩
 obtain ⟨j, hj, rfl⟩ := List.mem_iff_getElem.1 hx
 exact h4 j hj hj
theorem toS_gen {α : Type} (a : List α) (z : α) (f : List α × Int → Option ((List α × Int) ⊕ List α))
  (hf : ∀ (out : List α) (k : Nat) (hk : k < a.length), out.length = a.length → f (out, k) = some (.inl (out.set k a[k], ((k + 1 : Nat) : Int))))
  (he : ∀ out, f (out, a.length) = some (.inr out)) : loopP f (List.replicate a.length z, 0) = some a := by
 obtain ⟨r, h1, h2⟩ := loopP_run (fun s : List α × Int => ∃ k : Nat, s.2 = k ∧ k ≤ a.length ∧ s.1.length = a.length ∧ ∀ j, j < k → s.1[j]? = a[j]?) (fun s => a.length - s.2.toNat) (fun r => r = a) (f := f) (by
  rintro ⟨out, i⟩ ⟨k, hi, hk, h2, h3⟩
  simp only at hi h2 h3
  subst hi
  by_cases hlt : k < a.length
  ·left
   rw [hf out k hlt h2]
   refine ⟨_, rfl, ⟨k + 1, rfl, by omega, by simpa using h2, fun j hj => ?_⟩, by simp only [Int.toNat_natCast]; omega⟩
   simp only [List.getElem?_set]
   by_cases e : k = j
   ·subst e; simp [h2, hlt]
   rw [if_neg e]; exact h3 j (by omega)
  right
  have hke : k = a.length := by omega
  subst hke
  rw [he]
  refine ⟨_, rfl, ?_⟩
  apply List.ext_getElem?
  intro j
  by_cases hj : j < a.length
  ·exact h3 j hj
  rw [List.getElem?_eq_none (by omega), List.getElem?_eq_none (by omega)]) (List.replicate a.length z, 0) ⟨0, rfl, by omega, by simp, fun j h => by omega⟩
 rw [h1, h2]
theorem eqS_gen {α : Type} (a b : List α) (p : α → α → Bool) (hp : ∀ x ∈ a, ∀ y, y ∈ b → (p x y = true ↔ x = y)) (hlen : a.length = b.length) (f : Int → Option (Int ⊕ (Unit ⊕ Bool)))
  (hf : ∀ (k : Nat) (hk : k < a.length) (hk2 : k < b.length), f k = some (if p a[k] b[k] = true then .inl ((k + 1 : Nat) : Int) else .inr (.inr false)))
  (he : f a.length = some (.inr (.inl ()))) : (a = b → loopP f 0 = some (.inl ())) ∧ (a ≠ b → loopP f 0 = some (.inr false)) := by
 obtain ⟨r, h1, h2⟩ := loopP_run (fun i : Int => ∃ k : Nat, i = k ∧ k ≤ a.length ∧ ∀ j, j < k → a[j]? = b[j]?) (fun i => a.length - i.toNat) (fun r => (r = .inl () ∧ a = b) ∨ (r = .inr false ∧ a ≠ b)) (f := f) (by
  rintro i ⟨k, rfl, hk, h3⟩
  by_cases hlt : k < a.length
  ·have hlt2 : k < b.length := by omega
   rw [hf k hlt hlt2]
   by_cases hpk : p a[k] b[k] = true
   ·left
    rw [if_pos hpk]
    refine ⟨_, rfl, ⟨k + 1, rfl, by omega, fun j hj => ?_⟩, by simp only [Int.toNat_natCast]; omega⟩
    by_cases e : j = k
    ·subst e
     rw [List.getElem?_eq_getElem hlt, List.getElem?_eq_getElem hlt2, (hp _ (List.getElem_mem hlt) _ (List.getElem_mem hlt2)).1 hpk]
    exact h3 j (by omega)
   right
   rw [if_neg hpk]
   refine ⟨_, rfl, .inr ⟨rfl, fun e => hpk ?_⟩⟩
   subst e
   exact (hp _ (List.getElem_mem hlt) _ (List.getElem_mem hlt)).2 rfl
  right
  have hke : k = a.length := by omega
  subst hke
  rw [he]
  refine ⟨_, rfl, .inl ⟨rfl, ?_⟩⟩
  apply List.ext_getElem?
  intro j
  by_cases hj : j < a.length
  ·exact h3 j hj
  rw [List.getElem?_eq_none (by omega), List.getElem?_eq_none (by omega)]) 0 ⟨0, rfl, by omega, fun j h => by omega⟩
 rcases h2 with ⟨e, hab⟩ | ⟨e, hab⟩
 ·exact ⟨fun _ => by rw [h1, e], fun h => absurd hab h⟩
 exact ⟨fun h => absurd h hab, fun _ => by rw [h1, e]⟩
theorem mkI_len {α : Type} (b : Int) (n : Nat) (z : α) (h1 : b * n ≤ 140737488355328) (h2 : (n : Int) ≤ 140737488355328) : mkI b (n : Int) z = some (List.replicate n z) := by
 unfold mkI
 rw [if_pos ⟨by omega, h1, h2⟩]
 simp
theorem bindS_def {α β : Type} (x : α) (f : α → β) : bindS x f = f x := rfl
end Go.OM
namespace Go.OM
theorem loopP_inr {α ρ : Type} {f : α → Option (α ⊕ ρ)} {a : α} {r : ρ} (h : f a = some (.inr r)) : loopP f a = some r := by rw [loopP_eq, h]; rfl
theorem loopP_inl {α ρ : Type} {f : α → Option (α ⊕ ρ)} {a b : α} (h : f a = some (.inl b)) : loopP f a = loopP f b := by rw [loopP_eq, h]; rfl
theorem loopP_find {α ρ : Type} (l : List α) (q : α → Option ρ) (f : Int → Option (Int ⊕ (Unit ⊕ ρ)))
  (hf : ∀ (k : Nat) (h : k < l.length), f k = some (match q l[k] with | none => .inl ((k + 1 : Nat) : Int) | some r => .inr (.inr r)))
  (he : f l.length = some (.inr (.inl ()))) : loopP f 0 = some (match l.findSome? q with | some r => .inr r | none => .inl ()) := by
 have key : ∀ (n k : Nat), n = l.length - k → k ≤ l.length → loopP f k = some (match (l.drop k).findSome? q with | some r => .inr r | none => .inl ()) := by
  intro n
  induction n with
  | zero =>
   intro k hn hk
   have : k = l.length := by omega
   subst this
   rw [loopP_inr he, List.drop_length]; rfl
  | succ n ih =>
   intro k hn hk
   have hlt : k < l.length := by omega
   rw [List.drop_eq_getElem_cons hlt, List.findSome?_cons]
   cases hq : q l[k] with
   | none =>
    have h1 := hf k hlt
    rw [hq] at h1
    rw [loopP_inl h1]
    exact ih (k + 1) (by omega) (by omega)
   | some r =>
    have h1 := hf k hlt
    rw [hq] at h1
    rw [loopP_inr h1]
 have := key l.length 0 (by omega) (by omega)
 simpa using this
theorem find_all {α : Type} (l : List α) (p : α → Bool) (b : Bool) : l.findSome? (fun x => if p x = true then none else some b) = if l.all p = true then none else some b := by
 induction l with
 | nil => rfl
 | cons x l ih =>
  rw [List.findSome?_cons, List.all_cons]
  cases hp : p x <;> simp [ih]
theorem find_any {α : Type} (l : List α) (p : α → Bool) (b : Bool) : l.findSome? (fun x => if p x = true then some b else none) = if l.any p = true then some b else none := by
 induction l with
 | nil => rfl
 | cons x l ih =>
  rw [List.findSome?_cons, List.any_cons]
  cases hp : p x <;> simp [ih]
theorem loopP_all {α : Type} (l : List α) (p : α → Bool) (f : Int → Option (Int ⊕ (Unit ⊕ Bool)))
  (hf : ∀ (k : Nat) (h : k < l.length), f k = some (if p l[k] = true then .inl ((k + 1 : Nat) : Int) else .inr (.inr false)))
  (he : f l.length = some (.inr (.inl ()))) : loopP f 0 = some (if l.all p = true then .inl () else .inr false) := by
 rw [loopP_find l (fun x => if p x = true then none else some false) f (fun k h => by rw [hf k h]; cases p l[k] <;> rfl) he, find_all]
 cases l.all p <;> rfl
theorem loopP_any {α : Type} (l : List α) (p : α → Bool) (f : Int → Option (Int ⊕ (Unit ⊕ Bool)))
  (hf : ∀ (k : Nat) (h : k < l.length), f k = some (if p l[k] = true then .inr (.inr true) else .inl ((k + 1 : Nat) : Int)))
  (he : f l.length = some (.inr (.inl ()))) : loopP f 0 = some (if l.any p = true then .inr true else .inl ()) := by
 rw [loopP_find l (fun x => if p x = true then some true else none) f (fun k h => by rw [hf k h]; cases p l[k] <;> rfl) he, find_any]
 cases l.any p <;> rfl
def foldE {α σ ρ : Type} (g : σ → α → σ ⊕ ρ) (fin : σ → ρ) : List α → σ → ρ
 | [], s => fin s
 | x :: l, s => match g s x with
  | .inl s' => foldE g fin l s'
  | .inr r => r
theorem loopP_fold {α σ τ ρ : Type} (l : List α) (mk : σ → Nat → τ) (I : Nat → σ → Prop) (g : σ → α → σ ⊕ ρ) (fin : σ → ρ) (f : τ → Option (τ ⊕ ρ))
  (hf : ∀ (s : σ) (k : Nat) (h : k < l.length), I k s → (∃ s', g s l[k] = .inl s' ∧ f (mk s k) = some (.inl (mk s' (k + 1))) ∧ I (k + 1) s') ∨ ∃ r, g s l[k] = .inr r ∧ f (mk s k) = some (.inr r))
  (he : ∀ s, I l.length s → f (mk s l.length) = some (.inr (fin s))) (s : σ) (h0 : I 0 s) : loopP f (mk s 0) = some (foldE g fin l s) := by
 have key : ∀ (n k : Nat) (s : σ), n = l.length - k → k ≤ l.length → I k s → loopP f (mk s k) = some (foldE g fin (l.drop k) s) := by
  intro n
  induction n with
  | zero =>
   intro k s hn hk hI
   have : k = l.length := by omega
   subst this
   rw [loopP_inr (he s hI), List.drop_length]; rfl
  | succ n ih =>
   intro k s hn hk hI
   have hlt : k < l.length := by omega
   rw [List.drop_eq_getElem_cons hlt]
   rcases hf s k hlt hI with ⟨s', h1, h2, h3⟩ | ⟨r, h1, h2⟩
   ·rw [loopP_inl h2, ih (k + 1) s' (by omega) (by omega) h3]
    simp only [foldE, h1]
   rw [loopP_inr h2]
   simp only [foldE, h1]
 have := key l.length 0 s (by omega) (by omega) h0
 simpa using this
theorem getI_set {α : Type} {l : List α} {k : Nat} {x : α} (hk : k < l.length) : getI (l.set k x) (k : Int) = some x := by simp [hk]
end Go.OM
set_option maxHeartbeats 1000000
namespace Go.OM
def GIns.le (n : Nat) (a : GIns) : Prop := (a.Name.size ≤ n) ∧ (a.Args.length ≤ n)
theorem GIns.ext' (a b : GIns) : a = b ↔ a.Op = b.Op ∧ a.A = b.A ∧ a.B = b.B ∧ a.C = b.C ∧ a.Num = b.Num ∧ a.Name = b.Name ∧ a.Args = b.Args := by cases a; cases b; simp
def GCode.le (n : Nat) (a : GCode) : Prop := (a.Name.size ≤ n) ∧ (a.Locals.length ≤ n) ∧ (a.Words.length ≤ n ∧ ∀ x ∈ a.Words, GIns.le n x)
theorem GCode.ext' (a b : GCode) : a = b ↔ a.Name = b.Name ∧ a.Params = b.Params ∧ a.Locals = b.Locals ∧ a.Words = b.Words := by cases a; cases b; simp
def GLoan.le (n : Nat) (a : GLoan) : Prop := True
theorem GLoan.ext' (a b : GLoan) : a = b ↔ a.At = b.At ∧ a.Of = b.Of ∧ a.Mut = b.Mut := by cases a; cases b; simp
theorem laws_szIntS_p (a : List Int) (hw : a.length ≤ maxLen) (n : Int) (h0 : 0 ≤ n) (h1 : n ≤ 1048576) : ∃ r, laws_szIntS a n = some r ∧ r ≤ n ∧ (0 ≤ r → a.length ≤ 1048576) := by
 have hw' : a.length ≤ 9223372036854775807 := hw
 unfold laws_szIntS
 rw [w64 (by omega) (by omega)]
 split
 ·exact ⟨_, rfl, by omega, fun h => by omega⟩
 rename_i h; simp only [decide_eq_true_eq] at h; exact ⟨_, rfl, by omega, fun h => by omega⟩
theorem laws_toIntS_p (a : List Int) (h : a.length ≤ 1048576) : laws_toIntS a = some a := by
 have hl : a.length ≤ 1048576 := h
 unfold laws_toIntS
 rw [mkI_len _ _ _ (by omega) (by omega)]
 simp only [Option.bind_some]
 rw [toS_gen a _ (laws_toIntS_l1 a) (fun out k hk ho => ?_) (fun out => by simp [laws_toIntS_l1])]
 ·rfl
 simp only [laws_toIntS_l1, ofNat_lt_true hk, if_true, getI_at hk, Option.bind_some, getI_at (show k < out.length by omega), bindS_def, Int.toNat_natCast, w64_succ hk (show a.length ≤ maxLen by show _ ≤ 9223372036854775807; omega)]
theorem laws_eqIntS_p (a b : List Int) (ha : a.length ≤ 1048576) (hb : b.length ≤ 1048576) : laws_eqIntS a b = some (decide (a = b)) := by
 have hl : a.length ≤ 1048576 := ha
 unfold laws_eqIntS
 by_cases hlen : a.length = b.length
 ·have hlen' : ((a.length : Int) != (b.length : Int)) = false := by simp [hlen]
  simp only [hlen', Bool.false_eq_true, if_false]
  have key := eqS_gen a b (fun x y => !(x != y)) (fun x _ y _ => by simp) hlen (laws_eqIntS_l1 a b) (fun k hk hk2 => ?_) (by simp [laws_eqIntS_l1])
  ·by_cases e : a = b
   ·rw [key.1 e]; simp [e]
   rw [key.2 e]; simp [e]
  simp only [laws_eqIntS_l1, ofNat_lt_true hk, if_true, getI_at hk, getI_at hk2, Option.bind_some, w64_succ hk (show a.length ≤ maxLen by show _ ≤ 9223372036854775807; omega)]
  try (by_cases e : a[k] = b[k] <;> simp [e])
 have hlen' : ((a.length : Int) != (b.length : Int)) = true := by simp; omega
 have hne : a ≠ b := fun e => hlen (by rw [e])
 simp [hlen', hne]
theorem laws_szIns_p (a : GIns) (hw : GIns.le maxLen a) (n : Int) (h0 : 0 ≤ n) (h1 : n ≤ 1048576) : ∃ r, laws_szIns a n = some r ∧ r ≤ n ∧ (0 ≤ r → GIns.le 1048576 a) := by
 obtain ⟨hw0, hw1⟩ := hw
 unfold laws_szIns
 have hs0 : a.Name.size ≤ 9223372036854775807 := hw0
 simp only [w64 (n := n - (a.Name.size : Int)) (by omega) (by omega)]
 by_cases hn0 : (n - (a.Name.size : Int)) < 0
 ·simp only [hn0, decide_true, if_true]; exact ⟨_, rfl, by omega, fun h => by omega⟩
 simp only [hn0, decide_false, Bool.false_eq_true, if_false]
 obtain ⟨r1, q1a, q1b, q1c⟩ := laws_szIntS_p a.Args hw1 (n - (a.Name.size : Int)) (by omega) (by omega)
 simp only [q1a, Option.bind_some]
 by_cases hn1 : r1 < 0
 ·simp only [hn1, decide_true, if_true]; exact ⟨_, rfl, by omega, fun h => by omega⟩
 simp only [hn1, decide_false, Bool.false_eq_true, if_false]
 exact ⟨_, rfl, by omega, fun _ => ⟨by omega, q1c (by omega)⟩⟩
theorem laws_toIns_p (a : GIns) (h : GIns.le 1048576 a) : laws_toIns a = some a := by
 obtain ⟨h0, h1⟩ := h
 unfold laws_toIns
 simp only [laws_toIntS_p a.Args h1, Option.bind_some]
theorem laws_eqIns_p (a b : GIns) (ha : GIns.le 1048576 a) (hb : GIns.le 1048576 b) : laws_eqIns a b = some (decide (a = b)) := by
 obtain ⟨ha0, ha1⟩ := ha
 obtain ⟨hb0, hb1⟩ := hb
 unfold laws_eqIns
 try simp only [sEq_iff, Option.bind_some, laws_eqIntS_p a.Args b.Args ha1 hb1]
 rw [show decide (a = b) = decide (a.Op = b.Op ∧ a.A = b.A ∧ a.B = b.B ∧ a.C = b.C ∧ a.Num = b.Num ∧ a.Name = b.Name ∧ a.Args = b.Args) from by simp only [GIns.ext' a b]]

 by_cases e0 : a.Op = b.Op
 case neg => simp [e0]
 by_cases e1 : a.A = b.A
 case neg => simp [e1, e0]
 by_cases e2 : a.B = b.B
 case neg => simp [e2, e0, e1]
 by_cases e3 : a.C = b.C
 case neg => simp [e3, e0, e1, e2]
 by_cases e4 : a.Num = b.Num
 case neg => simp [e4, e0, e1, e2, e3]
 by_cases e5 : a.Name = b.Name
 case neg => simp [e5, e0, e1, e2, e3, e4]
 by_cases e6 : a.Args = b.Args
 case neg => simp [e6, e0, e1, e2, e3, e4, e5]
 simp [e0, e1, e2, e3, e4, e5, e6]
theorem laws_szInsS_p (a : List GIns) (hw : a.length ≤ maxLen ∧ ∀ x ∈ a, GIns.le maxLen x) (n : Int) (h0 : 0 ≤ n) (h1 : n ≤ 1048576) : ∃ r, laws_szInsS a n = some r ∧ r ≤ n ∧ (0 ≤ r → a.length ≤ 1048576 ∧ ∀ x ∈ a, GIns.le 1048576 x) := by
 have hw' : a.length ≤ 9223372036854775807 := hw.1
 unfold laws_szInsS
 rw [w64 (by omega) (by omega)]
 split
 ·exact ⟨_, rfl, by omega, fun h => by omega⟩
 rename_i h
 simp only [decide_eq_true_eq] at h
 have hf : ∀ (m : Int) (k : Nat) (g0 : 0 ≤ m) (g1 : m ≤ 1048576) (hk : k < a.length), ∃ r, r ≤ m ∧ (0 ≤ r → (fun x : GIns => GIns.le 1048576 x) a[k]) ∧ laws_szInsS_l1 a (m, k) = some (if r < 0 then .inr (.inr (-1)) else .inl (r, ((k + 1 : Nat) : Int))) := by
  intro m k g0 g1 hk
  obtain ⟨r, r1, r2, r3⟩ := laws_szIns_p a[k] (hw.2 _ (List.getElem_mem hk)) m g0 g1
  refine ⟨r, r2, r3, ?_⟩
  simp only [laws_szInsS_l1, ofNat_lt_true hk, if_true, getI_at hk, Option.bind_some, r1, w64_succ hk hw.1]
  by_cases hr : r < 0 <;> simp [hr]
 obtain ⟨j, hj, hj2⟩ := szS_gen _ a (laws_szInsS_l1 a) 1048576 hf (fun m => by simp [laws_szInsS_l1]) (n - a.length) (by omega) (by omega)
 rcases hj2 with rfl | ⟨m, rfl, q1, q2, q3⟩
 ·exact ⟨-1, by rw [hj]; rfl, by omega, fun h => by omega⟩
 exact ⟨m, by rw [hj]; rfl, by omega, fun _ => ⟨by omega, q3⟩⟩
theorem laws_toInsS_p (a : List GIns) (h : a.length ≤ 1048576 ∧ ∀ x ∈ a, GIns.le 1048576 x) : laws_toInsS a = some a := by
 have hl : a.length ≤ 1048576 := h.1
 unfold laws_toInsS
 rw [mkI_len _ _ _ (by omega) (by omega)]
 simp only [Option.bind_some]
 rw [toS_gen a _ (laws_toInsS_l1 a) (fun out k hk ho => ?_) (fun out => by simp [laws_toInsS_l1])]
 ·rfl
 simp only [laws_toInsS_l1, ofNat_lt_true hk, if_true, getI_at hk, Option.bind_some, laws_toIns_p a[k] (h.2 _ (List.getElem_mem hk)), getI_at (show k < out.length by omega), bindS_def, Int.toNat_natCast, w64_succ hk (show a.length ≤ maxLen by show _ ≤ 9223372036854775807; omega)]
theorem laws_eqInsS_p (a b : List GIns) (ha : a.length ≤ 1048576 ∧ ∀ x ∈ a, GIns.le 1048576 x) (hb : b.length ≤ 1048576 ∧ ∀ x ∈ b, GIns.le 1048576 x) : laws_eqInsS a b = some (decide (a = b)) := by
 have hl : a.length ≤ 1048576 := ha.1
 unfold laws_eqInsS
 by_cases hlen : a.length = b.length
 ·have hlen' : ((a.length : Int) != (b.length : Int)) = false := by simp [hlen]
  simp only [hlen', Bool.false_eq_true, if_false]
  have key := eqS_gen a b (fun x y => decide (x = y)) (fun x _ y _ => by simp) hlen (laws_eqInsS_l1 a b) (fun k hk hk2 => ?_) (by simp [laws_eqInsS_l1])
  ·by_cases e : a = b
   ·rw [key.1 e]; simp [e]
   rw [key.2 e]; simp [e]
  simp only [laws_eqInsS_l1, ofNat_lt_true hk, if_true, getI_at hk, getI_at hk2, Option.bind_some, laws_eqIns_p a[k] b[k] (ha.2 _ (List.getElem_mem hk)) (hb.2 _ (List.getElem_mem hk2)), w64_succ hk (show a.length ≤ maxLen by show _ ≤ 9223372036854775807; omega)]
  try (by_cases e : a[k] = b[k] <;> simp [e])
 have hlen' : ((a.length : Int) != (b.length : Int)) = true := by simp; omega
 have hne : a ≠ b := fun e => hlen (by rw [e])
 simp [hlen', hne]
theorem laws_szCode_p (a : GCode) (hw : GCode.le maxLen a) (n : Int) (h0 : 0 ≤ n) (h1 : n ≤ 1048576) : ∃ r, laws_szCode a n = some r ∧ r ≤ n ∧ (0 ≤ r → GCode.le 1048576 a) := by
 obtain ⟨hw0, hw1, hw2⟩ := hw
 unfold laws_szCode
 have hs0 : a.Name.size ≤ 9223372036854775807 := hw0
 simp only [w64 (n := n - (a.Name.size : Int)) (by omega) (by omega)]
 by_cases hn0 : (n - (a.Name.size : Int)) < 0
 ·simp only [hn0, decide_true, if_true]; exact ⟨_, rfl, by omega, fun h => by omega⟩
 simp only [hn0, decide_false, Bool.false_eq_true, if_false]
 obtain ⟨r1, q1a, q1b, q1c⟩ := laws_szIntS_p a.Locals hw1 (n - (a.Name.size : Int)) (by omega) (by omega)
 simp only [q1a, Option.bind_some]
 by_cases hn1 : r1 < 0
 ·simp only [hn1, decide_true, if_true]; exact ⟨_, rfl, by omega, fun h => by omega⟩
 simp only [hn1, decide_false, Bool.false_eq_true, if_false]
 obtain ⟨r2, q2a, q2b, q2c⟩ := laws_szInsS_p a.Words hw2 r1 (by omega) (by omega)
 simp only [q2a, Option.bind_some]
 by_cases hn2 : r2 < 0
 ·simp only [hn2, decide_true, if_true]; exact ⟨_, rfl, by omega, fun h => by omega⟩
 simp only [hn2, decide_false, Bool.false_eq_true, if_false]
 exact ⟨_, rfl, by omega, fun _ => ⟨by omega, q1c (by omega), q2c (by omega)⟩⟩
theorem laws_toCode_p (a : GCode) (h : GCode.le 1048576 a) : laws_toCode a = some a := by
 obtain ⟨h0, h1, h2⟩ := h
 unfold laws_toCode
 simp only [laws_toIntS_p a.Locals h1, laws_toInsS_p a.Words h2, Option.bind_some]
theorem laws_eqCode_p (a b : GCode) (ha : GCode.le 1048576 a) (hb : GCode.le 1048576 b) : laws_eqCode a b = some (decide (a = b)) := by
 obtain ⟨ha0, ha1, ha2⟩ := ha
 obtain ⟨hb0, hb1, hb2⟩ := hb
 unfold laws_eqCode
 try simp only [sEq_iff, Option.bind_some, laws_eqIntS_p a.Locals b.Locals ha1 hb1, laws_eqInsS_p a.Words b.Words ha2 hb2]
 rw [show decide (a = b) = decide (a.Name = b.Name ∧ a.Params = b.Params ∧ a.Locals = b.Locals ∧ a.Words = b.Words) from by simp only [GCode.ext' a b]]
 by_cases e0 : a.Name = b.Name <;> by_cases e1 : a.Params = b.Params <;> by_cases e2 : a.Locals = b.Locals <;> by_cases e3 : a.Words = b.Words <;> simp [e0, e1, e2, e3]
end Go.OM
namespace Go.OM
theorem ite_some {α : Type} {c : Prop} [Decidable c] (a b : α) : (if c then some a else some b) = some (if c then a else b) := by split <;> rfl
def inB (x a b : Int) : Bool := decide (a ≤ x) && decide (x ≤ b)
theorem inB_iff {x a b : Int} : inB x a b = true ↔ a ≤ x ∧ x ≤ b := by simp [inB]
theorem inB_false {x a b : Int} : inB x a b = false ↔ ¬ (a ≤ x ∧ x ≤ b) := by rw [← inB_iff]; simp
theorem impl_in_eq (x a b : Int) : impl_in x a b = some (inB x a b) := by
 unfold impl_in inB
 by_cases h : a ≤ x <;> simp [h]
theorem spec_in_eq (x a b : Int) : spec_l01In x a b = some (inB x a b) := by
 unfold spec_l01In inB
 by_cases h : a ≤ x <;> simp [h]
def bI (z : ByteArray) : List Int := z.data.toList.map fun x => ((x.toNat : Nat) : Int)
theorem bI_length (z : ByteArray) : (bI z).length = z.size := by rw [bI, List.length_map]; exact Array.length_toList
theorem sAt_bI {z : ByteArray} {k : Nat} (h : k < (bI z).length) : sAt z k = some (bI z)[k] := by
 have h1 : k < z.size := by rw [← bI_length]; exact h
 unfold sAt
 rw [if_pos ⟨by omega, by omega⟩]
 simp only [byteAt, Int.toNat_natCast, bI]
 have e : z.data.toList.length = z.size := Array.length_toList
 have h2 : k < z.data.toList.length := by omega
 rw [List.getD_eq_getElem?_getD, List.getElem?_eq_getElem h2]
 simp only [Option.getD_some, List.getElem_map]
def letterB (b : Int) : Bool := inB b 97 122
def figureB (b : Int) : Bool := inB b 48 57
theorem impl_isLetter_eq (b : Int) : impl_isLetter b = some (letterB b) := by
 unfold impl_isLetter letterB inB
 by_cases h : 97 ≤ b <;> simp [h]
theorem impl_isFigure_eq (b : Int) : impl_isFigure b = some (figureB b) := by
 unfold impl_isFigure figureB inB
 by_cases h : 48 ≤ b <;> simp [h]
theorem spec_l03Letter_eq (b : Int) : spec_l03Letter b = some (letterB b) := by
 unfold spec_l03Letter letterB inB
 by_cases h : 97 ≤ b <;> simp [h]
theorem spec_l03Figure_eq (b : Int) : spec_l03Figure b = some (figureB b) := by
 unfold spec_l03Figure figureB inB
 by_cases h : 48 ≤ b <;> simp [h]
def keys : List ByteArray := [⟨#[102, 110]⟩, ⟨#[108, 101, 116]⟩, ⟨#[105, 102]⟩, ⟨#[101, 108, 115, 101]⟩, ⟨#[119, 104, 105, 108, 101]⟩, ⟨#[112, 114, 105, 110, 116]⟩, ⟨#[100, 111]⟩, ⟨#[110, 101, 119]⟩, ⟨#[99, 108, 111, 110, 101]⟩, ⟨#[109, 117, 116]⟩, ⟨#[105, 110, 112, 117, 116]⟩, ⟨#[105, 110, 116]⟩, ⟨#[98, 111, 120]⟩, ⟨#[114, 101, 116]⟩]
def keyB (s : ByteArray) : Bool := keys.any fun w => sEq w s
theorem keys_split : strings_Split (⟨#[102, 110, 32, 108, 101, 116, 32, 105, 102, 32, 101, 108, 115, 101, 32, 119, 104, 105, 108, 101, 32, 112, 114, 105, 110, 116, 32, 100, 111, 32, 110, 101, 119, 32, 99, 108, 111, 110, 101, 32, 109, 117, 116, 32, 105, 110, 112, 117, 116, 32, 105, 110, 116, 32, 98, 111, 120, 32, 114, 101, 116]⟩ : ByteArray) (⟨#[32]⟩ : ByteArray) = some keys := by kernel_rfl
theorem any_loop (l : List ByteArray) (s : ByteArray) (hl : l.length ≤ 1048576) (f : Int → Option (Int ⊕ (Unit ⊕ Bool)))
  (hf : ∀ i, f i = if (decide (i < (l.length : Int))) = true then (getI l i).bind fun e => if (sEq e s) = true then some (Sum.inr (Sum.inr true)) else some (Sum.inl (IntKind.wrap .i64 (i + 1))) else some (Sum.inr (Sum.inl ()))) :
  loopP f 0 = some (if (l.any fun w => sEq w s) = true then .inr true else .inl ()) := by
 refine loopP_any l (fun w => sEq w s) f (fun k hk => ?_) (by rw [hf]; simp)
 rw [hf]
 simp only [ofNat_lt_true hk, if_true, getI_at hk, Option.bind_some, w64_succ hk (show l.length ≤ maxLen by show _ ≤ 9223372036854775807; omega), ite_some]
theorem spec_KeyWord_eq (s : ByteArray) : spec_KeyWord s = some (keyB s) := by
 unfold spec_KeyWord spec_l03Keys
 simp only [Option.bind_some]
 have h := any_loop keys s (by decide) (spec_KeyWord_l1 s keys) (fun i => by simp only [spec_KeyWord_l1])
 unfold keys at h
 rw [h]
 unfold keyB keys
 simp only [Option.bind_some]
 split <;> rename_i h2 <;> split at h2 <;> simp_all
theorem impl_KeyWord_eq (s : ByteArray) : impl_KeyWord s = some (keyB s) := by
 unfold impl_KeyWord impl_oneOf
 rw [keys_split]
 simp only [Option.bind_some]
 rw [any_loop keys s (by decide) (impl_oneOf_l1 s keys) (fun i => by simp only [impl_oneOf_l1])]
 unfold keyB
 simp only [Option.bind_some]
 cases keys.any fun w => sEq w s <;> rfl
def charB (b : Int) : Bool := letterB b || figureB b
def nameB (s : ByteArray) : Bool := inB s.size 1 8 && (letterB ((bI s).getD 0 0) && ((bI s).all charB && !keyB s))
theorem name_loop (s : ByteArray) (hs : s.size ≤ 8) (f : Int → Option (Int ⊕ (Unit ⊕ Bool)))
  (hf : ∀ (k : Nat) (h : k < (bI s).length), f k = some (if charB (bI s)[k] = true then .inl (IntKind.wrap .i64 ((k : Int) + 1)) else .inr (.inr false)))
  (he : f s.size = some (.inr (.inl ()))) : loopP f 0 = some (if (bI s).all charB = true then .inl () else .inr false) := by
 refine loopP_all (bI s) charB f (fun k hk => ?_) (by rw [bI_length]; exact he)
 rw [hf k hk, w64_succ hk (show (bI s).length ≤ maxLen by rw [bI_length]; show _ ≤ 9223372036854775807; omega)]
theorem bI_zero {s : ByteArray} (h : 1 ≤ s.size) : sAt s 0 = some ((bI s).getD 0 0) := by
 have h1 : 0 < (bI s).length := by rw [bI_length]; omega
 have := sAt_bI h1
 rw [show ((0 : Nat) : Int) = 0 from rfl] at this
 rw [this, List.getD_eq_getElem?_getD, List.getElem?_eq_getElem h1]; rfl
theorem impl_NameOk_eq (s : ByteArray) : impl_NameOk s = some (nameB s) := by
 unfold impl_NameOk nameB
 simp only [impl_in_eq, Option.bind_some]
 by_cases hi : inB s.size 1 8 = true
 ·have hi' := inB_iff.1 hi
  rw [bI_zero (by omega), name_loop s (by omega) (impl_NameOk_l1 s) (fun k hk => ?_) (by simp [impl_NameOk_l1])]
  ·simp only [hi, impl_isLetter_eq, impl_KeyWord_eq, Option.bind_some, Bool.not_true, Bool.false_eq_true, if_false, Bool.true_and]
   cases letterB ((bI s).getD 0 0) <;> cases (bI s).all charB <;> cases keyB s <;> rfl
  have hk2 : k < s.size := by rw [← bI_length]; exact hk
  simp only [impl_NameOk_l1, ofNat_lt_true hk2, if_true, sAt_bI hk, impl_isLetter_eq, impl_isFigure_eq, Option.bind_some]
  rw [show charB (bI s)[k] = (letterB (bI s)[k] || figureB (bI s)[k]) from rfl]
  cases letterB (bI s)[k] <;> cases figureB (bI s)[k] <;> rfl
 simp [Bool.eq_false_iff.2 hi]
theorem spec_NameOk_eq (s : ByteArray) : spec_NameOk s = some (nameB s) := by
 unfold spec_NameOk nameB
 simp only [spec_in_eq, Option.bind_some]
 by_cases hi : inB s.size 1 8 = true
 ·have hi' := inB_iff.1 hi
  rw [bI_zero (by omega), name_loop s (by omega) (spec_NameOk_l1 s) (fun k hk => ?_) (by simp [spec_NameOk_l1])]
  ·simp only [hi, spec_l03Letter_eq, spec_KeyWord_eq, Option.bind_some, Bool.not_true, Bool.false_eq_true, if_false, Bool.true_and]
   cases letterB ((bI s).getD 0 0) <;> cases (bI s).all charB <;> cases keyB s <;> rfl
  have hk2 : k < s.size := by rw [← bI_length]; exact hk
  simp only [spec_NameOk_l1, ofNat_lt_true hk2, if_true, sAt_bI hk, spec_l03Letter_eq, spec_l03Figure_eq, Option.bind_some]
  rw [show charB (bI s)[k] = (letterB (bI s)[k] || figureB (bI s)[k]) from rfl]
  cases letterB (bI s)[k] <;> cases figureB (bI s)[k] <;> rfl
 simp [Bool.eq_false_iff.2 hi]
end Go.OM
namespace Go.OM
def hasBB (op : Int) : Bool := inB op 2 7 || (inB op 9 12 || (op == 14 || op == 15))
def hasCB (op : Int) : Bool := inB op 10 12
def hasAB (op : Int) : Bool := inB op 1 17 || (op == 19 || op == 20)
theorem impl_hasA_eq (op : Int) : impl_hasA op = some (hasAB op) := by
 unfold impl_hasA hasAB
 simp only [impl_in_eq, Option.bind_some]
 cases inB op 1 17 <;> cases op == 19 <;> rfl
theorem impl_hasB_eq (op : Int) : impl_hasB op = some (hasBB op) := by
 unfold impl_hasB hasBB
 simp only [impl_in_eq, Option.bind_some]
 cases inB op 2 7 <;> cases inB op 9 12 <;> cases op == 14 <;> rfl
theorem spec_l11HasB_eq (op : Int) : spec_l11HasB op = some (hasBB op) := by
 unfold spec_l11HasB hasBB
 simp only [spec_in_eq, Option.bind_some]
 cases inB op 2 7 <;> cases inB op 9 12 <;> cases op == 14 <;> rfl
theorem impl_hasC_eq (op : Int) : impl_hasC op = some (hasCB op) := by simp only [impl_hasC, impl_in_eq, Option.bind_some, hasCB]
theorem spec_l11HasC_eq (op : Int) : spec_l11HasC op = some (hasCB op) := by simp only [spec_l11HasC, spec_in_eq, Option.bind_some, hasCB]
def placeB (n : Nat) (v : Int) : Bool := inB v 0 ((n : Int) - 1)
theorem w64_pred {n : Nat} (h : n ≤ 1048576) : IntKind.wrap .i64 ((n : Int) - 1) = (n : Int) - 1 := w64 (by omega) (by omega)
theorem impl_isPlace_eq (c : GCode) (hc : c.Locals.length ≤ 1048576) (v : Int) (b : Bool) : impl_isPlace c v b = some (if b = true then placeB c.Locals.length v else v == 0) := by
 unfold impl_isPlace
 simp only [impl_in_eq, Option.bind_some, w64_pred hc, placeB, ite_some]
theorem spec_l11Place_eq (c : GCode) (hc : c.Locals.length ≤ 1048576) (v : Int) : spec_l11Place c v = some (placeB c.Locals.length v) := by
 unfold spec_l11Place
 simp only [spec_in_eq, Option.bind_some, w64_pred hc, placeB]
def aB (n : Nat) (x : GIns) : Bool := if (x.Op == 13 || x.Op == 20) = true then (x.A == -1 || placeB n x.A) else if (x.Op == 18) = true then x.A == 0 else placeB n x.A
def bB (n : Nat) (x : GIns) : Bool := if hasBB x.Op = true then placeB n x.B else x.B == 0
def cB (n : Nat) (x : GIns) : Bool := if hasCB x.Op = true then placeB n x.C else x.C == 0
def numB (m : Nat) (x : GIns) : Bool := if (x.Op == 1) = true then inB x.Num 0 1000000000 else if (x.Op == 18 || x.Op == 19) = true then inB x.Num 0 ((m : Int) - 1) else x.Num == 0
def restB (n : Nat) (x : GIns) : Bool := if (x.Op != 13) = true then sEq x.Name ⟨#[]⟩ && ((x.Args.length : Int) == 0) else x.Args.all (placeB n) && (nameB x.Name && decide ((x.Args.length : Int) ≤ 3))
def wordB (n m : Nat) (x : GIns) : Bool := inB x.Op 1 20 && (aB n x && (bB n x && (cB n x && (numB m x && restB n x))))
theorem args_loop (c : GCode) (x : GIns) (n : Nat) (hx : x.Args.length ≤ 1048576) (f : Int → Option (Int ⊕ (Unit ⊕ Bool)))
  (hf : ∀ (k : Nat) (h : k < x.Args.length), f k = some (if placeB n x.Args[k] = true then .inl (IntKind.wrap .i64 ((k : Int) + 1)) else .inr (.inr false)))
  (he : f x.Args.length = some (.inr (.inl ()))) : loopP f 0 = some (if x.Args.all (placeB n) = true then .inl () else .inr false) := by
 refine loopP_all x.Args (placeB n) f (fun k hk => ?_) he
 rw [hf k hk, w64_succ hk (show x.Args.length ≤ maxLen by show _ ≤ 9223372036854775807; omega)]
theorem inB_zero (x : Int) : inB x 0 0 = (x == 0) := by
 rw [Bool.eq_iff_iff, inB_iff, beq_iff_eq]
 omega
theorem aB_eq {n : Nat} {x : GIns} (h0 : inB x.Op 1 20 = true) : ((if (x.Op == 13) = true then x.A == -1 else if (x.Op == 20) = true then x.A == -1 else false) || (if hasAB x.Op = true then placeB n x.A else x.A == 0)) = aB n x := by
 have h1 := inB_iff.1 h0
 have hA : hasAB x.Op = !(x.Op == 18) := by
  unfold hasAB
  by_cases h18 : x.Op = 18
  ·simp [h18, inB]
  by_cases h17 : x.Op ≤ 17
  ·have : inB x.Op 1 17 = true := inB_iff.2 ⟨h1.1, h17⟩
   simp [this, h18]
  have h3 : x.Op = 19 ∨ x.Op = 20 := by omega
  rcases h3 with h3 | h3 <;> simp [h3]
 unfold aB
 rw [hA]
 by_cases h13 : x.Op = 13
 ·simp [h13]
 by_cases h20 : x.Op = 20
 ·simp [h20]
 by_cases h18 : x.Op = 18
 ·simp [h18]
 simp [h13, h20, h18]
theorem numB_eq (m : Nat) (x : GIns) : inB x.Num 0 (if (x.Op == 1) = true then 1000000000 else if (if (x.Op == 18) = true then x.Op == 18 else x.Op == 19) = true then (m : Int) - 1 else 0) = numB m x := by
 unfold numB
 cases x.Op == 1
 ·cases x.Op == 18
  ·cases x.Op == 19 <;> simp [inB_zero]
  simp
 simp
theorem impl_WordOk_eq (c : GCode) (x : GIns) (hc : c.Locals.length ≤ 1048576) (hm : c.Words.length ≤ 1048576) (hx : x.Args.length ≤ 1048576) : impl_WordOk c x = some (wordB c.Locals.length c.Words.length x) := by
 unfold impl_WordOk
 rw [args_loop c x c.Locals.length hx (impl_WordOk_l1 c x) (fun k hk => by
  simp only [impl_WordOk_l1, ofNat_lt_true hk, if_true, getI_at hk, Option.bind_some, impl_isPlace_eq c hc]
  cases placeB c.Locals.length x.Args[k] <;> rfl) (by simp [impl_WordOk_l1])]
 simp only [impl_in_eq, impl_hasA_eq, impl_hasB_eq, impl_hasC_eq, impl_isPlace_eq c hc, impl_NameOk_eq, Option.bind_some, w64_pred hm, ite_some, numB_eq]
 unfold wordB
 by_cases h0 : inB x.Op 1 20 = true
 ·rw [← aB_eq h0]
  simp only [h0, Bool.not_true, Bool.false_eq_true, if_false, Bool.true_and]
  generalize (if (x.Op == 13) = true then x.A == -1 else if (x.Op == 20) = true then x.A == -1 else false) = N
  generalize (if hasAB x.Op = true then placeB c.Locals.length x.A else x.A == 0) = P
  have hQ : (if hasBB x.Op = true then placeB c.Locals.length x.B else x.B == 0) = bB c.Locals.length x := rfl
  have hR : (if hasCB x.Op = true then placeB c.Locals.length x.C else x.C == 0) = cB c.Locals.length x := rfl
  rw [hQ, hR]
  unfold restB
  generalize bB c.Locals.length x = Q
  generalize cB c.Locals.length x = R
  generalize numB c.Words.length x = U
  generalize (x.Op != 13) = o
  generalize sEq x.Name ⟨#[]⟩ = e
  generalize ((x.Args.length : Int) == 0) = l0
  generalize x.Args.all (placeB c.Locals.length) = al
  generalize nameB x.Name = nm
  generalize decide ((x.Args.length : Int) ≤ 3) = l3
  cases N <;> cases P <;> cases Q <;> cases R <;> cases U <;> cases o <;> cases al <;> cases nm <;> cases e <;> rfl
 simp [Bool.eq_false_iff.2 h0]
theorem spec_l11A_eq (c : GCode) (x : GIns) (hc : c.Locals.length ≤ 1048576) : spec_l11A c x = some (aB c.Locals.length x) := by
 unfold spec_l11A aB
 simp only [spec_l11Place_eq c hc, Option.bind_some, ite_some]
 cases x.Op == 13 <;> cases x.Op == 20 <;> cases x.A == -1 <;> cases x.Op == 18 <;> rfl
theorem spec_WordOk_eq (c : GCode) (x : GIns) (hc : c.Locals.length ≤ 1048576) (hm : c.Words.length ≤ 1048576) (hx : x.Args.length ≤ 1048576) : spec_WordOk c x = some (wordB c.Locals.length c.Words.length x) := by
 unfold spec_WordOk
 rw [args_loop c x c.Locals.length hx (spec_WordOk_l1 c x) (fun k hk => by
  simp only [spec_WordOk_l1, ofNat_lt_true hk, if_true, getI_at hk, Option.bind_some, spec_l11Place_eq c hc]
  cases placeB c.Locals.length x.Args[k] <;> rfl) (by simp [spec_WordOk_l1])]
 simp only [spec_in_eq, spec_l11A_eq c x hc, spec_l11HasB_eq, spec_l11HasC_eq, spec_l11Place_eq c hc, spec_NameOk_eq, Option.bind_some, w64_pred hm]
 unfold wordB bB cB numB restB
 have e1 : (x.B != 0) = !(x.B == 0) := rfl
 have e2 : (x.C != 0) = !(x.C == 0) := rfl
 have e3 : (x.Num != 0) = !(x.Num == 0) := rfl
 rw [e1, e2, e3]
 generalize inB x.Op 1 20 = O
 generalize aB c.Locals.length x = A
 generalize hasBB x.Op = hb
 generalize hasCB x.Op = hcc
 generalize placeB c.Locals.length x.B = pB
 generalize placeB c.Locals.length x.C = pC
 generalize (x.B == 0) = zB
 generalize (x.C == 0) = zC
 generalize (x.Num == 0) = zN
 generalize inB x.Num 0 1000000000 = n1
 generalize inB x.Num 0 ((c.Words.length : Int) - 1) = n2
 generalize (x.Op == 1) = o1
 generalize (x.Op == 18) = o18
 generalize (x.Op == 19) = o19
 generalize (x.Op != 13) = o
 generalize sEq x.Name ⟨#[]⟩ = e
 generalize ((x.Args.length : Int) == 0) = l0
 generalize x.Args.all (placeB c.Locals.length) = al
 generalize nameB x.Name = nm
 generalize decide ((x.Args.length : Int) ≤ 3) = l3
 have rest : (if o = true then (Option.bind (if e = true then some l0 else some false) fun v85 => some v85) else match (if al = true then (Sum.inl () : Unit ⊕ Bool) else Sum.inr false) with | Sum.inr z => some z | Sum.inl () => Option.bind (if nm = true then some l3 else some false) fun v109 => some v109) = some (if o = true then e && l0 else al && (nm && l3)) := by
  cases o <;> cases e <;> cases al <;> cases nm <;> rfl
 cases O
 ·rfl
 cases A
 ·rfl
 cases hb <;> cases pB <;> cases zB <;> cases hcc <;> cases pC <;> cases zC <;> first | rfl | (cases o1 <;> cases o18 <;> cases o19 <;> cases n1 <;> cases n2 <;> cases zN <;> first | rfl | exact rest)
def codeB (c : GCode) : Bool := nameB c.Name && (decide (c.Locals.length ≤ 200) && (inB c.Params 0 c.Locals.length && (inB c.Words.length 1 400 && ((match c.Words[c.Words.length - 1]? with | some x => x.Op == 20 | none => false) && (c.Locals.all (fun t => inB t 1 4) && c.Words.all (wordB c.Locals.length c.Words.length))))))
theorem codes_eq (c : GCode) (h : GCode.le 1048576 c) (g : Option Bool)
  (hg : g = Option.bind (
  (some (nameB c.Name)).bind fun r4 =>
  if (!r4) = true then
   some true
  else
   if (decide ((c.Locals.length : Int) > 200)) = true then
    some true
   else
    (some (inB c.Params 0 (c.Locals.length : Int))).bind fun r10 =>
    if (!r10) = true then
     some true
    else
     (some (inB (c.Words.length : Int) 1 400)).bind fun r14 =>
     if (!r14) = true then
      some true
     else
      (getI c.Words (IntKind.wrap .i64 ((c.Words.length : Int) - 1))).bind fun e18 =>
      some (e18.Op != 20)) fun v19 =>
 if v19 = true then
  some false
 else
  Option.bind (some (if (c.Locals.all fun t => inB t 1 4) = true then (Sum.inl () : Unit ⊕ Bool) else Sum.inr false)) fun j24 =>
  match j24 with
  | Sum.inr z => some z
  | Sum.inl () =>
   Option.bind (some (if c.Words.all (wordB c.Locals.length c.Words.length) = true then (Sum.inl () : Unit ⊕ Bool) else Sum.inr false)) fun j40 =>
   match j40 with
   | Sum.inr z => some z
   | Sum.inl () =>
    some true) : g = some (codeB c) := by
 subst hg
 obtain ⟨h1, h2, h3⟩ := h
 rw [w64_pred h3.1]
 unfold codeB
 have hd : decide ((c.Locals.length : Int) > 200) = !decide (c.Locals.length ≤ 200) := by
  by_cases e : c.Locals.length ≤ 200
  ·simp [e]; omega
  simp [e]; omega
 rw [hd]
 cases nameB c.Name
 ·rfl
 cases decide (c.Locals.length ≤ 200)
 ·rfl
 cases inB c.Params 0 (c.Locals.length : Int)
 ·rfl
 cases hw : inB (c.Words.length : Int) 1 400
 ·rfl
 have hw' := inB_iff.1 hw
 have hlt : c.Words.length - 1 < c.Words.length := by omega
 rw [show (c.Words.length : Int) - 1 = ((c.Words.length - 1 : Nat) : Int) by omega, getI_at hlt, List.getElem?_eq_getElem hlt]
 simp only [Option.bind_some, Bool.not_true, Bool.false_eq_true, if_false, Bool.true_and, bne]
 cases c.Words[c.Words.length - 1].Op == 20
 ·rfl
 cases c.Locals.all fun t => inB t 1 4
 ·rfl
 cases c.Words.all (wordB c.Locals.length c.Words.length) <;> rfl
theorem impl_CodeOk_eq (c : GCode) (h : GCode.le 1048576 c) : impl_CodeOk c = some (codeB c) := by
 have h' := h
 obtain ⟨h1, h2, h3⟩ := h
 refine codes_eq c h' _ ?_
 unfold impl_CodeOk
 rw [loopP_all c.Locals (fun t => inB t 1 4) (impl_CodeOk_l1 c) (fun k hk => by
   simp only [impl_CodeOk_l1, ofNat_lt_true hk, if_true, getI_at hk, Option.bind_some, impl_in_eq, w64_succ hk (show c.Locals.length ≤ maxLen by show _ ≤ 9223372036854775807; omega)]
   cases inB c.Locals[k] 1 4 <;> rfl) (by simp [impl_CodeOk_l1]),
  loopP_all c.Words (wordB c.Locals.length c.Words.length) (impl_CodeOk_l2 c) (fun k hk => by
   simp only [impl_CodeOk_l2, ofNat_lt_true hk, if_true, getI_at hk, Option.bind_some, impl_WordOk_eq c c.Words[k] h2 h3.1 (h3.2 _ (List.getElem_mem hk)).2, w64_succ hk (show c.Words.length ≤ maxLen by show _ ≤ 9223372036854775807; omega)]
   cases wordB c.Locals.length c.Words.length c.Words[k] <;> rfl) (by simp [impl_CodeOk_l2])]
 simp only [impl_NameOk_eq, impl_in_eq]
 rfl
theorem spec_CodeOk_eq (c : GCode) (h : GCode.le 1048576 c) : spec_CodeOk c = some (codeB c) := by
 have h' := h
 obtain ⟨h1, h2, h3⟩ := h
 refine codes_eq c h' _ ?_
 unfold spec_CodeOk
 rw [loopP_all c.Locals (fun t => inB t 1 4) (spec_CodeOk_l1 c) (fun k hk => by
   simp only [spec_CodeOk_l1, ofNat_lt_true hk, if_true, getI_at hk, Option.bind_some, spec_in_eq, w64_succ hk (show c.Locals.length ≤ maxLen by show _ ≤ 9223372036854775807; omega)]
   cases inB c.Locals[k] 1 4 <;> rfl) (by simp [spec_CodeOk_l1]),
  loopP_all c.Words (wordB c.Locals.length c.Words.length) (spec_CodeOk_l2 c) (fun k hk => by
   simp only [spec_CodeOk_l2, ofNat_lt_true hk, if_true, getI_at hk, Option.bind_some, spec_WordOk_eq c c.Words[k] h2 h3.1 (h3.2 _ (List.getElem_mem hk)).2, w64_succ hk (show c.Words.length ≤ maxLen by show _ ≤ 9223372036854775807; omega)]
   cases wordB c.Locals.length c.Words.length c.Words[k] <;> rfl) (by simp [spec_CodeOk_l2])]
 simp only [spec_NameOk_eq, spec_in_eq]
 rfl
end Go.OM
namespace Go.OM
theorem codeB_facts {c : GCode} (h : codeB c = true) : nameB c.Name = true ∧ c.Locals.length ≤ 200 ∧ (0 ≤ c.Params ∧ c.Params ≤ c.Locals.length) ∧ (1 ≤ c.Words.length ∧ c.Words.length ≤ 400) ∧ (∃ x, c.Words[c.Words.length - 1]? = some x ∧ x.Op = 20) ∧ (∀ t ∈ c.Locals, 1 ≤ t ∧ t ≤ 4) ∧ ∀ x ∈ c.Words, wordB c.Locals.length c.Words.length x = true := by
 unfold codeB at h
 simp only [Bool.and_eq_true, decide_eq_true_eq, inB_iff, List.all_eq_true] at h
 obtain ⟨h1, h2, h3, h4, h5, h6, h7⟩ := h
 refine ⟨h1, h2, h3, ⟨by omega, by omega⟩, ?_, h6, h7⟩
 split at h5
 ·rename_i x hx
  exact ⟨x, hx, by simpa using h5⟩
 cases h5
theorem foldE_inl {α σ ρ : Type} (h : σ → α → σ) (fin : σ → ρ) : ∀ (l : List α) (s : σ), foldE (fun s x => (.inl (h s x) : σ ⊕ ρ)) fin l s = fin (l.foldl h s)
 | [], s => rfl
 | x :: l, s => by simp only [foldE, List.foldl_cons]; exact foldE_inl h fin l _
theorem foldl_filter {α : Type} (p : α → Bool) : ∀ (l s : List α), l.foldl (fun s e => if p e = true then s ++ [e] else s) s = s ++ l.filter p
 | [], s => by simp
 | x :: l, s => by
  rw [List.foldl_cons, foldl_filter p l, List.filter_cons]
  cases p x <;> simp
theorem app1 {n : Nat} {s : List Int} {e : Int} (h : s.length ≤ 1048576) (hn : n ≤ 64) : appI n s [e] = some (s ++ [e]) := by
 unfold appI
 have h1 : (s.length + [e].length) * n ≤ (s.length + [e].length) * 64 := Nat.mul_le_mul_left _ hn
 rw [if_pos ⟨by simp only [List.length_cons, List.length_nil] at h1 ⊢; omega, by simp only [List.length_cons, List.length_nil]; omega⟩]
def addL (out : List Int) (n : Int) : List Int := if out.contains n = true then out else out ++ [n]
theorem addL_len (out : List Int) (n : Int) : (addL out n).length ≤ out.length + 1 := by
 unfold addL; split <;> simp
theorem spec_l11Add_eq (out : List Int) (n : Int) (h : out.length ≤ 1048576) : spec_l11Add out n = some (addL out n) := by
 unfold spec_l11Add addL
 rw [loopP_find out (fun e => if (e == n) = true then some out else none) (spec_l11Add_l1 out n) (fun k hk => by
  simp only [spec_l11Add_l1, ofNat_lt_true hk, if_true, getI_at hk, Option.bind_some, w64_succ hk (show out.length ≤ maxLen by show _ ≤ 9223372036854775807; omega)]
  cases out[k] == n <;> rfl) (by simp [spec_l11Add_l1])]
 have key : ∀ l : List Int, l.findSome? (fun e => if (e == n) = true then some out else none) = if l.contains n = true then some out else none := by
  intro l
  induction l with
  | nil => rfl
  | cons x l ih =>
   rw [List.findSome?_cons, List.contains_cons]
   by_cases hx : x = n
   ·simp [hx]
   have h1 : (x == n) = false := by simpa using hx
   have h2 : (n == x) = false := by simpa using fun e => hx e.symm
   rw [h1, h2, Bool.false_or, ← ih]
   rfl
 rw [key]
 cases out.contains n
 ·simp only [Bool.false_eq_true, if_false, Option.bind_some, app1 (n := 8) h (by omega)]
 rfl
def bndB (m : Nat) (e : Int) : Bool := inB e 0 ((m : Int) - 1)
theorem impl_Next_loop (c : GCode) (hm : c.Words.length ≤ 1048576) (l : List Int) (hl : l.length ≤ 1000) : loopP (impl_Next_l1 c l) ([], 0) = some (l.filter (bndB c.Words.length)) := by
 have := loopP_fold l (fun (s : List Int) k => (s, (k : Int))) (fun k s => s.length ≤ k) (fun s e => .inl (if bndB c.Words.length e = true then s ++ [e] else s)) id (impl_Next_l1 c l) (fun s k hk hI => by
  left
  simp only [impl_Next_l1, ofNat_lt_true hk, if_true, getI_at hk, Option.bind_some, impl_in_eq, w64_pred hm, w64_succ hk (show l.length ≤ maxLen by show _ ≤ 9223372036854775807; omega)]
  unfold bndB
  cases hb : inB l[k] 0 ((c.Words.length : Int) - 1)
  ·exact ⟨s, by simp, rfl, by omega⟩
  exact ⟨s ++ [l[k]], by simp, by rw [if_pos rfl, app1 (by omega) (by omega)]; rfl, by simp; omega⟩) (fun s _ => by simp [impl_Next_l1]) [] (by simp)
 rw [foldE_inl, foldl_filter] at this
 simpa using this
theorem spec_Next_loop (c : GCode) (hm : c.Words.length ≤ 1048576) (l : List Int) (hl : l.length ≤ 1000) : loopP (spec_Next_l1 c l) ([], 0) = some ((l.filter (bndB c.Words.length)).foldl addL []) := by
 have := loopP_fold l (fun (s : List Int) k => (s, (k : Int))) (fun k s => s.length ≤ k) (fun s e => .inl (if bndB c.Words.length e = true then addL s e else s)) id (spec_Next_l1 c l) (fun s k hk hI => by
  left
  simp only [spec_Next_l1, ofNat_lt_true hk, if_true, getI_at hk, Option.bind_some, spec_in_eq, w64_pred hm, w64_succ hk (show l.length ≤ maxLen by show _ ≤ 9223372036854775807; omega), spec_l11Add_eq s l[k] (by omega)]
  unfold bndB
  cases hb : inB l[k] 0 ((c.Words.length : Int) - 1)
  ·exact ⟨s, by simp, rfl, by omega⟩
  exact ⟨addL s l[k], by simp, rfl, by have := addL_len s l[k]; omega⟩) (fun s _ => by simp [spec_Next_l1]) [] (by simp)
 rw [foldE_inl] at this
 have key : ∀ (l s : List Int), l.foldl (fun s e => if bndB c.Words.length e = true then addL s e else s) s = (l.filter (bndB c.Words.length)).foldl addL s := by
  intro l
  induction l with
  | nil => intro s; rfl
  | cons x l ih =>
   intro s
   rw [List.foldl_cons, ih, List.filter_cons]
   cases bndB c.Words.length x <;> rfl
 rw [key] at this
 simpa using this
def rawNext (x : GIns) (i : Nat) : List Int := if x.Op = 20 then [] else if x.Op = 18 then [x.Num] else if x.Op = 19 then [((i + 1 : Nat) : Int), x.Num] else [((i + 1 : Nat) : Int)]
def nextI (c : GCode) (i : Nat) : List Int := match c.Words[i]? with
 | some x => (rawNext x i).filter (bndB c.Words.length)
 | none => []
def nextS (c : GCode) (i : Nat) : List Int := (nextI c i).foldl addL []
theorem impl_Next_eq (c : GCode) (hm : c.Words.length ≤ 1048576) (i : Nat) (hi : i < c.Words.length) : impl_Next c i = some (nextI c i) := by
 unfold impl_Next nextI
 have hin : inB (i : Int) 0 ((c.Words.length : Int) - 1) = true := inB_iff.2 ⟨by omega, by omega⟩
 have hw : IntKind.wrap .i64 ((i : Int) + 1) = ((i + 1 : Nat) : Int) := w64_succ hi (show c.Words.length ≤ maxLen by show _ ≤ 9223372036854775807; omega)
 simp only [impl_in_eq, w64_pred hm, Option.bind_some, hin, Bool.not_true, Bool.false_eq_true, if_false, getI_at hi, List.getElem?_eq_getElem hi, hw]
 have e : (if (c.Words[i].Op == 20) = true then some [] else if (c.Words[i].Op == 18) = true then some [c.Words[i].Num] else if (c.Words[i].Op == 19) = true then (appI 8 [((i + 1 : Nat) : Int)] [c.Words[i].Num]).bind fun l17 => some l17 else some [((i + 1 : Nat) : Int)]) = some (rawNext c.Words[i] i) := by
  unfold rawNext
  rw [app1 (by simp) (by omega)]
  by_cases h1 : c.Words[i].Op = 20
  ·simp [h1]
  by_cases h2 : c.Words[i].Op = 18
  ·simp [h2]
  by_cases h3 : c.Words[i].Op = 19
  ·simp [h3]
  simp [h1, h2, h3]
 rw [e]
 have hl : (rawNext c.Words[i] i).length ≤ 1000 := by unfold rawNext; split <;> (try split) <;> (try split) <;> simp
 simp only [Option.bind_some, impl_Next_loop c hm _ hl]
theorem spec_Next_eq (c : GCode) (hm : c.Words.length ≤ 1048576) (i : Nat) (hi : i < c.Words.length) : spec_Next c i = some (nextS c i) := by
 unfold spec_Next nextS nextI
 have hin : inB (i : Int) 0 ((c.Words.length : Int) - 1) = true := inB_iff.2 ⟨by omega, by omega⟩
 have hw : IntKind.wrap .i64 ((i : Int) + 1) = ((i + 1 : Nat) : Int) := w64_succ hi (show c.Words.length ≤ maxLen by show _ ≤ 9223372036854775807; omega)
 simp only [spec_in_eq, w64_pred hm, Option.bind_some, hin, Bool.not_true, Bool.false_eq_true, if_false, getI_at hi, List.getElem?_eq_getElem hi, hw]
 have e : (if (c.Words[i].Op == 20) = true then some [] else if (c.Words[i].Op == 18) = true then some [c.Words[i].Num] else if (c.Words[i].Op == 19) = true then some [((i + 1 : Nat) : Int), c.Words[i].Num] else some [((i + 1 : Nat) : Int)]) = some (rawNext c.Words[i] i) := by
  unfold rawNext
  by_cases h1 : c.Words[i].Op = 20
  ·simp [h1]
  by_cases h2 : c.Words[i].Op = 18
  ·simp [h2]
  by_cases h3 : c.Words[i].Op = 19
  ·simp [h3]
  simp [h1, h2, h3]
 rw [e]
 have hl : (rawNext c.Words[i] i).length ≤ 1000 := by unfold rawNext; split <;> (try split) <;> (try split) <;> simp
 simp only [Option.bind_some, spec_Next_loop c hm _ hl]
theorem mem_addL {out : List Int} {n m : Int} : m ∈ addL out n ↔ m ∈ out ∨ m = n := by
 unfold addL
 by_cases h : out.contains n = true
 ·rw [if_pos h]
  have := List.contains_iff_mem.1 h
  constructor
  ·exact .inl
  rintro (h | rfl)
  ·exact h
  exact this
 rw [if_neg h]; simp
theorem mem_foldl_addL (m : Int) : ∀ (l s : List Int), m ∈ l.foldl addL s ↔ m ∈ s ∨ m ∈ l
 | [], s => by simp
 | x :: l, s => by rw [List.foldl_cons, mem_foldl_addL m l, mem_addL, List.mem_cons, or_assoc]
theorem mem_nextS {c : GCode} {i : Nat} {m : Int} : m ∈ nextS c i ↔ m ∈ nextI c i := by unfold nextS; rw [mem_foldl_addL]; simp
theorem nextI_bnd {c : GCode} {i : Nat} {m : Int} (h : m ∈ nextI c i) : 0 ≤ m ∧ m < c.Words.length := by
 unfold nextI at h
 split at h
 ·have := (List.mem_filter.1 h).2
  have := inB_iff.1 this
  omega
 simp at h
end Go.OM
namespace Go.OM
inductive Reach (next : Nat → List Int) (root : Nat) : Nat → Prop
 | base : Reach next root root
 | step {i : Nat} {m : Int} : Reach next root i → m ∈ next i → Reach next root m.toNat
theorem Reach.congr {next next' : Nat → List Int} {root : Nat} (h : ∀ i m, m ∈ next i ↔ m ∈ next' i) {n : Nat} : Reach next root n ↔ Reach next' root n := by
 constructor
 ·intro r
  induction r with
  | base => exact .base
  | step _ hm ih => exact .step ih ((h _ _).1 hm)
 intro r
 induction r with
 | base => exact .base
 | step _ hm ih => exact .step ih ((h _ _).2 hm)
def vis (s : List Bool × List Int) (m : Int) : List Bool × List Int := if s.1[m.toNat]? = some true then s else (s.1.set m.toNat true, s.2 ++ [m])
theorem count_set {l : List Bool} {k : Nat} (hk : k < l.length) (h : l[k]? ≠ some true) : (l.set k true).count true = l.count true + 1 := by
 induction l generalizing k with
 | nil => simp at hk
 | cons x l ih =>
  cases k with
  | zero =>
   simp only [List.getElem?_cons_zero, ne_eq, Option.some.injEq] at h
   have : x = false := by cases x <;> simp_all
   subst this
   simp [List.set_cons_zero]
  | succ k =>
   simp only [List.length_cons] at hk
   simp only [List.getElem?_cons_succ] at h
   rw [List.set_cons_succ, List.count_cons, List.count_cons, ih (by omega) h]
   omega
theorem vis_len (s : List Bool × List Int) (m : Int) : (vis s m).1.length = s.1.length := by unfold vis; split <;> simp
theorem vis_count {s : List Bool × List Int} {m : Int} (h : m.toNat < s.1.length) : (vis s m).2.length + s.1.count true = s.2.length + (vis s m).1.count true := by
 unfold vis
 split
 ·rfl
 rename_i hn
 simp only [List.length_append, List.length_cons, List.length_nil]
 rw [count_set h hn]; omega
theorem vis_mono {s : List Bool × List Int} {m : Int} {n : Nat} (h : s.1[n]? = some true) : (vis s m).1[n]? = some true := by
 unfold vis
 split
 ·exact h
 simp only [List.getElem?_set]
 split
 ·rename_i e
  subst e
  have := (List.getElem?_eq_some_iff.1 h).1
  simp [this]
 exact h
theorem vis_self {s : List Bool × List Int} {m : Int} (h : m.toNat < s.1.length) : (vis s m).1[m.toNat]? = some true := by
 unfold vis
 split
 ·rename_i e; exact e
 simp [h]
theorem vis_new {s : List Bool × List Int} {m : Int} {n : Nat} (h : (vis s m).1[n]? = some true) : s.1[n]? = some true ∨ (n = m.toNat ∧ m ∈ (vis s m).2) := by
 unfold vis at h ⊢
 split at h
 ·exact .inl h
 rename_i hn
 rw [if_neg hn]
 simp only [List.getElem?_set] at h
 split at h
 ·rename_i e; exact .inr ⟨e.symm, by simp⟩
 exact .inl h
theorem vis_todo {s : List Bool × List Int} {m x : Int} (h : x ∈ (vis s m).2) : x ∈ s.2 ∨ x = m := by
 unfold vis at h
 split at h
 ·exact .inl h
 simpa using h
theorem vis_sub {s : List Bool × List Int} {m x : Int} (h : x ∈ s.2) : x ∈ (vis s m).2 := by
 unfold vis
 split
 ·exact h
 simp [h]
structure VisL (W : Nat) (s s' : List Bool × List Int) (nl : List Int) : Prop where
 len : s'.1.length = s.1.length
 count : s'.2.length + s.1.count true = s.2.length + s'.1.count true
 cle : s.1.count true ≤ s'.1.count true
 mono : ∀ n : Nat, s.1[n]? = some true → s'.1[n]? = some true
 all : ∀ m ∈ nl, s'.1[m.toNat]? = some true
 new : ∀ n : Nat, s'.1[n]? = some true → s.1[n]? = some true ∨ ∃ m ∈ nl, n = m.toNat ∧ m ∈ s'.2
 todo : ∀ x ∈ s'.2, x ∈ s.2 ∨ x ∈ nl
 sub : ∀ x ∈ s.2, x ∈ s'.2
theorem visL : ∀ (nl : List Int) (s : List Bool × List Int), (∀ m ∈ nl, m.toNat < s.1.length) → VisL 0 s (nl.foldl vis s) nl
 | [], s, _ => ⟨rfl, rfl, Nat.le_refl _, fun _ h => h, by simp, fun _ h => .inl h, fun _ h => .inl h, fun _ h => h⟩
 | m :: nl, s, h => by
  have h1 : m.toNat < s.1.length := h m (by simp)
  have ih := visL nl (vis s m) (fun x hx => by rw [vis_len]; exact h x (by simp [hx]))
  have hc := vis_count h1
  have hcl : s.1.count true ≤ (vis s m).1.count true := by
   unfold vis
   split
   ·exact Nat.le_refl _
   rename_i hn; rw [count_set h1 hn]; omega
  rw [List.foldl_cons]
  refine ⟨ih.len.trans (vis_len s m), ?_, Nat.le_trans hcl ih.cle, fun n hn => ih.mono n (vis_mono hn), fun x hx => ?_, fun n hn => ?_, fun x hx => ?_, fun x hx => ih.sub x (vis_sub hx)⟩
  ·have := ih.count; omega
  ·rcases List.mem_cons.1 hx with rfl | hx
   ·exact ih.mono _ (vis_self h1)
   exact ih.all x hx
  ·rcases ih.new n hn with h2 | ⟨x, h2, h3, h4⟩
   ·rcases vis_new h2 with h3 | ⟨h3, h4⟩
    ·exact .inl h3
    exact .inr ⟨m, by simp, h3, ih.sub _ h4⟩
   exact .inr ⟨x, by simp [h2], h3, h4⟩
  rcases ih.todo x hx with h2 | h2
  ·rcases vis_todo h2 with h3 | h3
   ·exact .inl h3
   exact .inr (by simp [h3])
  exact .inr (by simp [h2])
structure WInv (W root : Nat) (next : Nat → List Int) (s : List Bool × List Int) : Prop where
 len : s.1.length = W
 cnt : s.2.length ≤ s.1.count true
 bnd : ∀ x ∈ s.2, 0 ≤ x ∧ x < W
 rt : s.1[root]? = some true
 sound : ∀ n : Nat, s.1[n]? = some true → Reach next root n
 closed : ∀ n : Nat, s.1[n]? = some true → (n : Int) ∈ s.2 ∨ ∀ m ∈ next n, s.1[m.toNat]? = some true
 tdo : ∀ x ∈ s.2, s.1[x.toNat]? = some true
theorem WInv.go {W root : Nat} {next : Nat → List Int} {s : List Bool × List Int} (H : WInv W root next s) (hn : ∀ (i : Nat), i < W → ∀ m ∈ next i, 0 ≤ m ∧ m < W) {e : Int} {rest nl : List Int} (he : e ∈ s.2)
  (h1 : ∀ x ∈ s.2, x = e ∨ x ∈ rest) (h2 : ∀ x ∈ rest, x ∈ s.2) (h3 : rest.length + 1 = s.2.length) (h4 : ∀ m, m ∈ nl ↔ m ∈ next e.toNat) :
  WInv W root next (nl.foldl vis (s.1, rest)) ∧ 2 * (W - (nl.foldl vis (s.1, rest)).1.count true) + (nl.foldl vis (s.1, rest)).2.length < 2 * (W - s.1.count true) + s.2.length := by
 have heb := H.bnd e he
 have hb : ∀ m ∈ nl, 0 ≤ m ∧ m < W := fun m hm => hn e.toNat (by omega) m ((h4 m).1 hm)
 have V := visL nl (s.1, rest) (fun m hm => by have := hb m hm; have := H.len; simp only; omega)
 have c1 := V.count
 have c2 := V.cle
 have c3 := H.cnt
 have c4 : (nl.foldl vis (s.1, rest)).1.count true ≤ W := by
  have := List.count_le_length (a := true) (l := (nl.foldl vis (s.1, rest)).1)
  have := V.len
  have := H.len
  simp only at *; omega
 simp only at c1 c2
 refine ⟨⟨V.len.trans H.len, by omega, fun x hx => ?_, V.mono _ H.rt, fun n hn' => ?_, fun n hn' => ?_, fun x hx => ?_⟩, by omega⟩
 ·rcases V.todo x hx with h | h
  ·exact H.bnd x (h2 x h)
  exact hb x h
 ·rcases V.new n hn' with h | ⟨m, h, rfl, _⟩
  ·exact H.sound n h
  exact .step (H.sound _ (H.tdo e he)) ((h4 m).1 h)
 ·rcases V.new n hn' with h | ⟨m, h, h5, h6⟩
  ·rcases H.closed n h with h5 | h5
   ·rcases h1 _ h5 with h6 | h6
    ·right
     intro m hm
     have : e.toNat = n := by omega
     exact V.all m ((h4 m).2 (this ▸ hm))
    exact .inl (V.sub _ h6)
   exact .inr fun m hm => V.mono _ (h5 m hm)
  left
  have := hb m h
  have e1 : (n : Int) = m := by omega
  rw [e1]; exact h6
 rcases V.todo x hx with h | h
 ·exact V.mono _ (H.tdo x (h2 x h))
 exact V.all x h
open Classical in
noncomputable def reachL (W root : Nat) (next : Nat → List Int) : List Bool := (List.range W).map fun n => decide (Reach next root n)
theorem WInv.done {W root : Nat} {next : Nat → List Int} {s : List Bool × List Int} (H : WInv W root next s) (hn : ∀ (i : Nat), i < W → ∀ m ∈ next i, 0 ≤ m ∧ m < W) (h : s.2 = []) : s.1 = reachL W root next := by
 have hcl : ∀ n : Nat, Reach next root n → s.1[n]? = some true := by
  intro n r
  induction r with
  | base => exact H.rt
  | step _ hm ih =>
   rcases H.closed _ ih with h5 | h5
   ·rw [h] at h5; cases h5
   exact h5 _ hm
 apply List.ext_getElem?
 intro n
 unfold reachL
 by_cases hlt : n < W
 ·have hlt2 : n < s.1.length := by rw [H.len]; exact hlt
  rw [List.getElem?_eq_getElem hlt2, List.getElem?_map, List.getElem?_range hlt]
  simp only [Option.map_some, Option.some.injEq]
  by_cases r : Reach next root n
  ·have := hcl n r
   rw [List.getElem?_eq_getElem hlt2] at this
   simp only [Option.some.injEq] at this
   simp [this, r]
  have : s.1[n] ≠ true := fun e => r (H.sound n (by rw [List.getElem?_eq_getElem hlt2, e]))
  simp [r, this]
 rw [List.getElem?_eq_none (by rw [H.len]; omega), List.getElem?_eq_none (by simp; omega)]
theorem wl_loop {τ ρ : Type} (f : τ → Option (τ ⊕ ρ)) (abs : τ → List Bool × List Int) (Ok : τ → Prop) (W root : Nat) (next : Nat → List Int) (fin : τ → ρ) (hn : ∀ (i : Nat), i < W → ∀ m ∈ next i, 0 ≤ m ∧ m < W)
  (hstep : ∀ t, Ok t → WInv W root next (abs t) → (abs t).2 ≠ [] → ∃ (t' : τ) (e : Int) (rest nl : List Int), f t = some (.inl t') ∧ Ok t' ∧ e ∈ (abs t).2 ∧ (∀ x ∈ (abs t).2, x = e ∨ x ∈ rest) ∧ (∀ x ∈ rest, x ∈ (abs t).2) ∧ rest.length + 1 = (abs t).2.length ∧ (∀ m, m ∈ nl ↔ m ∈ next e.toNat) ∧ abs t' = nl.foldl vis ((abs t).1, rest))
  (hend : ∀ t, Ok t → (abs t).2 = [] → f t = some (.inr (fin t))) (t : τ) (h0 : Ok t) (h1 : WInv W root next (abs t)) : ∃ t', loopP f t = some (fin t') ∧ Ok t' ∧ (abs t').1 = reachL W root next := by
 obtain ⟨r, g1, t', g2, g3, g4⟩ := loopP_run (f := f) (fun t => Ok t ∧ WInv W root next (abs t)) (fun t => 2 * (W - (abs t).1.count true) + (abs t).2.length) (fun r => ∃ t', r = fin t' ∧ Ok t' ∧ (abs t').1 = reachL W root next) (by
  rintro t ⟨k1, k2⟩
  by_cases hd : (abs t).2 = []
  ·right
   exact ⟨_, hend t k1 hd, t, rfl, k1, k2.done hn hd⟩
  left
  obtain ⟨t', e, rest, nl, q1, q2, q3, q4, q5, q6, q7, q8⟩ := hstep t k1 k2 hd
  obtain ⟨p1, p2⟩ := k2.go hn q3 q4 q5 q6 q7
  exact ⟨t', q1, ⟨q2, by rw [q8]; exact p1⟩, by rw [q8]; exact p2⟩) t ⟨h0, h1⟩
 exact ⟨t', by rw [g1, g2], g3, g4⟩
theorem winv_start {W : Nat} {next : Nat → List Int} (hW : 0 < W) : WInv W 0 next ((List.replicate W false).set 0 true, [0]) := by
 have hc : ((List.replicate W false).set 0 true).count true = 1 := by
  rw [count_set (by simpa using hW) (by simp [hW])]
  simp [List.count_replicate]
 refine ⟨by simp, by rw [hc]; simp, by simp; omega, by simp [hW], fun n h => ?_, fun n h => ?_, by simp [hW]⟩
 ·simp only [List.getElem?_set, List.length_replicate] at h
  split at h
  ·rename_i e; subst e; exact .base
  simp [List.getElem?_replicate] at h
 simp only [List.getElem?_set, List.length_replicate] at h
 split at h
 ·rename_i e; subst e; exact .inl (by simp)
 simp [List.getElem?_replicate] at h
theorem vis_loop {ρ : Type} (r : List Int) (W : Nat) (hW : W ≤ 1000000) (hr : ∀ m ∈ r, 0 ≤ m ∧ m < W) (f : List Bool × List Int × Int → Option ((List Bool × List Int × Int) ⊕ ρ)) (fin : List Bool × List Int → ρ)
  (hf : ∀ (o : List Bool) (t : List Int) (k : Nat) (hk : k < r.length), o.length = W → t.length ≤ 1000000 → f (o, t, k) = some (.inl ((vis (o, t) r[k]).1, (vis (o, t) r[k]).2, ((k + 1 : Nat) : Int))))
  (he : ∀ o t, f (o, t, r.length) = some (.inr (fin (o, t)))) (o : List Bool) (t : List Int) (ho : o.length = W) (ht : t.length ≤ o.count true) : loopP f (o, t, 0) = some (fin (r.foldl vis (o, t))) := by
 have := loopP_fold r (fun (s : List Bool × List Int) k => (s.1, s.2, (k : Int))) (fun k s => s.1.length = W ∧ s.2.length ≤ s.1.count true) (fun s e => .inl (vis s e)) fin f (fun s k hk hI => by
  left
  obtain ⟨h1, h2⟩ := hI
  have hcw := List.count_le_length (a := true) (l := s.1)
  have hb := hr _ (List.getElem_mem hk)
  refine ⟨_, rfl, hf s.1 s.2 k hk h1 (by omega), by rw [vis_len]; exact h1, ?_⟩
  have := vis_count (s := s) (m := r[k]) (by omega)
  omega) (fun s _ => he s.1 s.2) (o, t) ⟨ho, ht⟩
 rw [foldE_inl] at this
 exact this
theorem nextI_ok (c : GCode) : ∀ (i : Nat), i < c.Words.length → ∀ m ∈ nextI c i, 0 ≤ m ∧ m < c.Words.length := fun i _ m h => nextI_bnd h
theorem vis_get {o : List Bool} {m : Int} (h0 : 0 ≤ m) (h : m < o.length) : getI o m = some (o[m.toNat]'(by omega)) := by
 have : m = ((m.toNat : Nat) : Int) := by omega
 conv => lhs; rw [this]
 exact getI_at (by omega)
theorem vis_eq {o : List Bool} {t : List Int} {m : Int} (h : m.toNat < o.length) : vis (o, t) m = if o[m.toNat] = true then (o, t) else (o.set m.toNat true, t ++ [m]) := by
 unfold vis
 simp only [List.getElem?_eq_getElem h, Option.some.injEq]
noncomputable def reachC (c : GCode) : List Bool := reachL c.Words.length 0 (nextI c)
theorem impl_ReachedWords_eq (c : GCode) (h : GCode.le 1048576 c) : impl_ReachedWords c = some (if codeB c = true then reachC c else []) := by
 unfold impl_ReachedWords
 rw [impl_CodeOk_eq c h]
 simp only [Option.bind_some]
 by_cases hc : codeB c = true
 ·obtain ⟨_, _, _, ⟨hw1, hw2⟩, _⟩ := codeB_facts hc
  have hm : c.Words.length ≤ 1048576 := by omega
  rw [mkI_len _ _ _ (by omega) (by omega)]
  have h0 : getI (List.replicate c.Words.length false) 0 = some false := by
   rw [getI_zero, List.getElem?_replicate, if_pos (by omega)]
  simp only [hc, Bool.not_true, Bool.false_eq_true, if_false, if_true, Option.bind_some, h0, bindS_def]
  obtain ⟨t', g1, g2, g3⟩ := wl_loop (impl_ReachedWords_l1 c) (fun t => t) (fun _ => True) c.Words.length 0 (nextI c) (fun t => t.1) (nextI_ok c) (fun t _ hI hne => by
   obtain ⟨o, t⟩ := t
   cases t with
   | nil => exact absurd rfl hne
   | cons e rest =>
    have heb := hI.bnd e (by simp)
    have hei : ((e.toNat : Nat) : Int) = e := by omega
    have hcnt := hI.cnt
    have hlen := hI.len
    have hcw := List.count_le_length (a := true) (l := o)
    simp only [List.length_cons] at hcnt hlen hcw
    have hsub : subI (e :: rest) 1 (((e :: rest).length : Nat) : Int) = some rest := by
     unfold subI
     rw [if_pos ⟨by omega, by simp; omega, by omega⟩]
     simp
    have hnx := impl_Next_eq c hm e.toNat (by omega)
    rw [hei] at hnx
    refine ⟨(nextI c e.toNat).foldl vis (o, rest), e, rest, nextI c e.toNat, ?_, trivial, by simp, by simp, fun x hx => List.mem_cons_of_mem _ hx, by simp, fun m => Iff.rfl, rfl⟩
    simp only [impl_ReachedWords_l1]
    have hpos : decide ((((e :: rest).length : Nat) : Int) > 0) = true := by simp only [List.length_cons, decide_eq_true_eq]; omega
    simp only [hpos, if_true, getI_zero, List.getElem?_cons_zero, Option.bind_some, hsub, hnx]
    exact vis_loop (nextI c e.toNat) c.Words.length (by omega) (nextI_ok c _ (by omega)) (impl_ReachedWords_l2 (nextI c e.toNat)) (fun s => .inl s) (fun o t k hk ho ht => by
     have hb := nextI_ok c _ (show e.toNat < c.Words.length by omega) _ (List.getElem_mem hk)
     have hkl : (nextI c e.toNat).length ≤ 1048576 := by
      unfold nextI
      split
      ·refine Nat.le_trans (List.length_filter_le _ _) ?_
       unfold rawNext; split <;> (try split) <;> (try split) <;> simp
      simp
     simp only [impl_ReachedWords_l2, ofNat_lt_true hk, if_true, getI_at hk, Option.bind_some, vis_get hb.1 (show (nextI c e.toNat)[k] < (o.length : Int) by rw [ho]; exact hb.2), bindS_def, w64_succ hk (show (nextI c e.toNat).length ≤ maxLen by show _ ≤ 9223372036854775807; omega), app1 (n := 8) (show t.length ≤ 1048576 by omega) (by omega)]
     rw [vis_eq (show ((nextI c e.toNat)[k]).toNat < o.length by omega)]
     cases o[((nextI c e.toNat)[k]).toNat] <;> rfl) (fun o t => by simp [impl_ReachedWords_l2]) o rest hI.len (by omega)) (fun t _ he => by
   obtain ⟨o, t⟩ := t
   have he' : t = [] := he
   subst he'
   simp [impl_ReachedWords_l1]) ((List.replicate c.Words.length false).set 0 true, [0]) trivial (winv_start (by omega))
  rw [g1]
  simp only [Option.bind_some]
  rw [g3]; rfl
 simp [Bool.eq_false_iff.2 hc]
end Go.OM
namespace Go.OM
theorem loopP_sim {α β ρ ρ' : Type} {f : α → Option (α ⊕ ρ)} {g : β → Option (β ⊕ ρ')} (I : α → β → Prop) (μ : α → Nat) (R : ρ → ρ' → Prop)
  (h : ∀ a b, I a b → (∃ a' b', f a = some (.inl a') ∧ g b = some (.inl b') ∧ I a' b' ∧ μ a' < μ a) ∨ ∃ r r', f a = some (.inr r) ∧ g b = some (.inr r') ∧ R r r') : ∀ a b, I a b → ∃ r r', loopP f a = some r ∧ loopP g b = some r' ∧ R r r' := by
 intro a
 generalize hn : μ a = n
 induction n using Nat.strongRecOn generalizing a with
 | _ n ih =>
  intro b hI
  rw [loopP_eq f, loopP_eq g]
  rcases h a b hI with ⟨a', b', h1, h2, h3, h4⟩ | ⟨r, r', h1, h2, h3⟩
  ·rw [h1, h2]; exact ih _ (by omega) a' rfl b' h3
  rw [h1, h2]; exact ⟨r, r', rfl, rfl, h3⟩
abbrev Tab := List (List Bool)
structure TabOk (W L : Nat) (t : Tab) : Prop where
 len : t.length = W
 row : ∀ r ∈ t, r.length = L
theorem TabOk.set {W L : Nat} {t : Tab} (h : TabOk W L t) (n : Nat) {r : List Bool} (hr : r.length = L) : TabOk W L (t.set n r) :=
 ⟨by simpa using h.len, fun x hx => by
  rcases List.mem_or_eq_of_mem_set hx with h1 | h1
  ·exact h.row x h1
  rw [h1]; exact hr⟩
theorem w64_nat {k n : Nat} (hk : k < n) (hn : n ≤ 1048576) : IntKind.wrap .i64 ((k : Int) + 1) = ((k + 1 : Nat) : Int) := w64_succ hk (show n ≤ maxLen by show _ ≤ 9223372036854775807; omega)
theorem fill_loop {ρ : Type} (L : Nat) (b : Bool) (f : List Bool × Int → Option ((List Bool × Int) ⊕ ρ)) (fin : List Bool → ρ)
  (hf : ∀ (r : List Bool) (k : Nat), r.length = L → k < L → f (r, k) = some (.inl (r.set k b, ((k + 1 : Nat) : Int)))) (he : ∀ r : List Bool, r.length = L → f (r, L) = some (.inr (fin r))) (r0 : List Bool) (h0 : r0.length = L) :
  loopP f (r0, 0) = some (fin (List.replicate L b)) := by
 obtain ⟨r, h1, h2⟩ := loopP_run (f := f) (fun s : List Bool × Int => ∃ k : Nat, s.2 = k ∧ k ≤ L ∧ s.1.length = L ∧ ∀ j, j < k → s.1[j]? = some b) (fun s => L - s.2.toNat) (fun r => r = fin (List.replicate L b)) (by
  rintro ⟨r, i⟩ ⟨k, rfl, hk, hl, hs⟩
  simp only at hl hs hk
  by_cases hlt : k < L
  ·left
   refine ⟨_, hf r k hl hlt, ⟨k + 1, rfl, by omega, by simpa using hl, fun j hj => ?_⟩, by simp only [Int.toNat_natCast]; omega⟩
   simp only [List.getElem?_set]
   by_cases e : k = j
   ·subst e; simp [hl, hlt]
   rw [if_neg e]; exact hs j (by omega)
  right
  have hkL : k = L := by omega
  subst hkL
  refine ⟨_, he r hl, ?_⟩
  congr 1
  apply List.ext_getElem?
  intro j
  by_cases hj : j < k
  ·rw [hs j hj, List.getElem?_replicate, if_pos hj]
  rw [List.getElem?_eq_none (by omega), List.getElem?_replicate, if_neg hj]) (r0, 0) ⟨0, rfl, by omega, h0, fun j h => by omega⟩
 rw [h1, h2]
theorem app1g {α : Type} {n : Nat} {s : List α} {e : α} (h : s.length ≤ 1048576) (hn : n ≤ 64) : appI n s [e] = some (s ++ [e]) := by
 unfold appI
 have h1 : (s.length + [e].length) * n ≤ (s.length + [e].length) * 64 := Nat.mul_le_mul_left _ hn
 rw [if_pos ⟨by simp only [List.length_cons, List.length_nil] at h1 ⊢; omega, by simp only [List.length_cons, List.length_nil]; omega⟩]
theorem rep_loop {α : Type} (W : Nat) (hW : W ≤ 1048576) (x : α) (f : List α × Int → Option ((List α × Int) ⊕ List α))
  (hf : ∀ (o : List α) (k : Nat), o.length ≤ 1048576 → k < W → f (o, k) = some (.inl (o ++ [x], ((k + 1 : Nat) : Int)))) (he : ∀ o, f (o, W) = some (.inr o)) : loopP f ([], 0) = some (List.replicate W x) := by
 obtain ⟨r, h1, h2⟩ := loopP_run (f := f) (fun s : List α × Int => ∃ k : Nat, s.2 = k ∧ k ≤ W ∧ s.1 = List.replicate k x) (fun s => W - s.2.toNat) (fun r => r = List.replicate W x) (by
  rintro ⟨o, i⟩ ⟨k, rfl, hk, ho⟩
  simp only at ho hk
  by_cases hlt : k < W
  ·left
   refine ⟨_, hf o k (by rw [ho]; simp; omega) hlt, ⟨k + 1, rfl, by omega, ?_⟩, by simp only [Int.toNat_natCast]; omega⟩
   simp only [ho, List.replicate_succ']
  right
  have hkL : k = W := by omega
  subst hkL
  exact ⟨_, he o, ho⟩) ([], 0) ⟨0, rfl, by omega, rfl⟩
 rw [h1, h2]
theorem impl_table_eq (W L : Nat) (hW : W ≤ 1048576) (hL : L ≤ 1048576) (b : Bool) : impl_table W L b = some (List.replicate W (List.replicate L b)) := by
 unfold impl_table
 rw [rep_loop W hW (List.replicate L b) (impl_table_l1 W L b) (fun o k ho hk => by
  simp only [impl_table_l1, ofNat_lt_true hk, if_true]
  rw [mkI_len _ _ _ (by omega) (by omega)]
  simp only [Option.bind_some]
  rw [fill_loop L b (impl_table_l2 b (List.replicate L false)) id (fun r k hr hk => by
   simp only [impl_table_l2, List.length_replicate, ofNat_lt_true hk, if_true, getI_at (show k < r.length by omega), Option.bind_some, bindS_def, Int.toNat_natCast, w64_nat hk hL]) (fun r hr => by simp [impl_table_l2]) _ (by simp)]
  simp only [Option.bind_some, id, app1g ho (show 24 ≤ 64 by omega), w64_nat hk hW]) (fun o => by simp [impl_table_l1])]
 rfl
theorem spec_table_eq (W L : Nat) (hW : W ≤ 1048576) (hL : L ≤ 1048576) (b : Bool) : spec_l14Table W L b = some (List.replicate W (List.replicate L b)) := by
 unfold spec_l14Table
 rw [rep_loop W hW (List.replicate L b) (spec_l14Table_l1 W L b) (fun o k ho hk => by
  simp only [spec_l14Table_l1, ofNat_lt_true hk, if_true]
  rw [mkI_len _ _ _ (by omega) (by omega)]
  simp only [Option.bind_some]
  rw [fill_loop L b (spec_l14Table_l2 L b) id (fun r k hr hk => by
   simp only [spec_l14Table_l2, ofNat_lt_true hk, if_true, getI_at (show k < r.length by omega), Option.bind_some, bindS_def, Int.toNat_natCast, w64_nat hk hL]) (fun r hr => by simp [spec_l14Table_l2]) _ (by simp)]
  simp only [Option.bind_some, id, app1g ho (show 24 ≤ 64 by omega), w64_nat hk hW]) (fun o => by simp [spec_l14Table_l1])]
 rfl
theorem tab_rep (W L : Nat) (b : Bool) : TabOk W L (List.replicate W (List.replicate L b)) := ⟨by simp, fun r hr => by rw [(List.mem_replicate.1 hr).2]; simp⟩
theorem rowU_loop {ρ : Type} (out : Tab) (n L : Nat) (hn : n < out.length) (row : List Bool) (hrow : out[n]? = some row) (hL : row.length = L) (u : Nat → Bool → Bool) (f : Tab × Bool × Int → Option ((Tab × Bool × Int) ⊕ ρ)) (fin : Tab → Bool → ρ)
  (hf : ∀ (r : List Bool) (m : Bool) (k : Nat) (hk : k < r.length), r.length = L → f (out.set n r, m, k) = some (.inl (if u k r[k] = r[k] then (out.set n r, m, ((k + 1 : Nat) : Int)) else (out.set n (r.set k (u k r[k])), true, ((k + 1 : Nat) : Int)))))
  (he : ∀ (r : List Bool) (m : Bool), r.length = L → f (out.set n r, m, L) = some (.inr (fin (out.set n r) m))) (more : Bool) :
  loopP f (out, more, 0) = some (fin (out.set n (row.mapIdx u)) (more || decide (row.mapIdx u ≠ row))) := by
 have hself : out = out.set n row := by
  apply List.ext_getElem?
  intro j
  rw [List.getElem?_set]
  by_cases e : n = j
  ·subst e; rw [if_pos rfl, if_pos hn]; exact hrow
  rw [if_neg e]
 obtain ⟨r, h1, h2⟩ := loopP_run (f := f) (fun s : Tab × Bool × Int => ∃ (k : Nat) (r : List Bool), s.2.2 = k ∧ k ≤ L ∧ r.length = L ∧ s.1 = out.set n r ∧ (∀ (j : Nat), r[j]? = if j < k then (row.mapIdx u)[j]? else row[j]?) ∧ (s.2.1 = true ↔ more = true ∨ ∃ j, j < k ∧ (row.mapIdx u)[j]? ≠ row[j]?)) (fun s => L - s.2.2.toNat) (fun x => x = fin (out.set n (row.mapIdx u)) (more || decide (row.mapIdx u ≠ row))) (by
  rintro ⟨o, m, i⟩ ⟨k, r, rfl, hk, hr, ho, hrj, hm⟩
  simp only at ho hm hk
  subst ho
  by_cases hlt : k < L
  ·left
   have hkr : k < r.length := by omega
   have hkrow : k < row.length := by omega
   have hrk : r[k] = row[k] := by
    have := hrj k
    rw [if_neg (by omega), List.getElem?_eq_getElem hkr, List.getElem?_eq_getElem hkrow] at this
    exact Option.some.inj this
   have hmk : (row.mapIdx u)[k]? = some (u k row[k]) := by rw [List.getElem?_mapIdx, List.getElem?_eq_getElem hkrow]; rfl
   have hrk2 : row[k]? = some row[k] := List.getElem?_eq_getElem hkrow
   refine ⟨_, hf r m k hkr hr, ?_, ?_⟩
   ·by_cases hu : u k r[k] = r[k]
    ·rw [if_pos hu]
     refine ⟨k + 1, r, rfl, by omega, hr, rfl, fun j => ?_, ?_⟩
     ·by_cases e : j = k
      ·subst e
       rw [hrj j, if_neg (by omega), if_pos (by omega), hmk, hrk2, ← hrk, hu]
      rw [hrj j]
      by_cases e2 : j < k
      ·rw [if_pos e2, if_pos (by omega)]
      rw [if_neg e2, if_neg (by omega)]
     simp only
     rw [hm]
     constructor
     ·rintro (h | ⟨j, h, h'⟩)
      ·exact .inl h
      exact .inr ⟨j, by omega, h'⟩
     rintro (h | ⟨j, h, h'⟩)
     ·exact .inl h
     refine .inr ⟨j, ?_, h'⟩
     rcases Nat.lt_or_ge j k with h3 | h3
     ·exact h3
     exfalso
     have : j = k := by omega
     subst this
     rw [hmk, hrk2, ← hrk, hu] at h'
     exact h' rfl
    rw [if_neg hu]
    refine ⟨k + 1, r.set k (u k r[k]), rfl, by omega, by simpa using hr, rfl, fun j => ?_, ?_⟩
    ·rw [List.getElem?_set]
     by_cases e : k = j
     ·subst e
      rw [if_pos rfl, if_pos hkr, if_pos (by omega), hmk, hrk]
     rw [if_neg e, hrj j]
     by_cases e2 : j < k
     ·rw [if_pos e2, if_pos (by omega)]
     rw [if_neg e2, if_neg (by omega)]
    simp only
    refine ⟨fun _ => .inr ⟨k, by omega, ?_⟩, fun _ => trivial⟩
    rw [hmk, hrk2, ← hrk]
    intro h
    exact hu (Option.some.inj h)
   split <;> (simp only [Int.toNat_natCast]; omega)
  right
  have hkL : k = L := by omega
  subst hkL
  have hrr : r = row.mapIdx u := by
   apply List.ext_getElem?
   intro j
   rw [hrj j]
   by_cases hj : j < k
   ·rw [if_pos hj]
   rw [if_neg hj, List.getElem?_eq_none (by omega), List.getElem?_eq_none (by simp; omega)]
  subst hrr
  refine ⟨_, he _ m hr, ?_⟩
  congr 1
  rw [Bool.eq_iff_iff, hm]
  simp only [Bool.or_eq_true, decide_eq_true_eq]
  constructor
  ·rintro (h | ⟨j, h, h'⟩)
   ·exact .inl h
   exact .inr fun e => h' (by rw [e])
  rintro (h | h)
  ·exact .inl h
  right
  refine Classical.byContradiction fun hn => h ?_
  apply List.ext_getElem?
  intro j
  refine Classical.byContradiction fun hj => hn ⟨j, ?_, hj⟩
  rcases Nat.lt_or_ge j k with h3 | h3
  ·exact h3
  exfalso
  exact hj (by rw [List.getElem?_eq_none (by simp; omega), List.getElem?_eq_none (by omega)])) (out, more, 0) ⟨0, row, rfl, by omega, hL, hself, fun j => by simp, by simp⟩
 rw [h1, h2]
def cntR (r : List Bool) : Nat := r.count true
def cntT (t : Tab) : Nat := (t.map cntR).sum
theorem cntT_le {W L : Nat} {t : Tab} (h : TabOk W L t) : cntT t ≤ W * L := by
 obtain ⟨h1, h2⟩ := h
 subst h1
 unfold cntT
 induction t with
 | nil => simp
 | cons r t ih =>
  have := ih (fun x hx => h2 x (by simp [hx]))
  have h3 : cntR r ≤ L := by rw [← h2 r (by simp)]; exact List.count_le_length
  simp only [List.map_cons, List.sum_cons, List.length_cons, Nat.add_mul, Nat.one_mul]
  omega
theorem cntT_set {t : Tab} {n : Nat} {row r : List Bool} (h : t[n]? = some row) : cntT (t.set n r) + cntR row = cntT t + cntR r := by
 unfold cntT
 induction t generalizing n with
 | nil => simp at h
 | cons x t ih =>
  cases n with
  | zero =>
   simp only [List.getElem?_cons_zero, Option.some.injEq] at h
   subst h
   simp only [List.set_cons_zero, List.map_cons, List.sum_cons]; omega
  | succ n =>
   simp only [List.getElem?_cons_succ] at h
   have := ih h
   simp only [List.set_cons_succ, List.map_cons, List.sum_cons]; omega
theorem cntR_up : ∀ (row : List Bool) (u : Nat → Bool → Bool), (∀ k, u k true = true) → cntR row ≤ cntR (row.mapIdx u) ∧ (row.mapIdx u ≠ row → cntR row < cntR (row.mapIdx u))
 | [], _, _ => ⟨by simp, fun h => absurd (by simp) h⟩
 | b :: row, u, hu => by
  have ih := cntR_up row (fun k => u (k + 1)) (fun k => hu _)
  have e : (b :: row).mapIdx u = u 0 b :: row.mapIdx (fun k => u (k + 1)) := by simp [List.mapIdx_cons]
  rw [e]
  unfold cntR at ih ⊢
  cases b with
  | true =>
   rw [hu 0]
   simp only [List.count_cons, beq_self_eq_true, if_true, ne_eq, List.cons.injEq, true_and]
   exact ⟨by omega, fun h => by have := ih.2 h; omega⟩
  | false =>
   cases hb : u 0 false with
   | false =>
    simp only [List.count_cons, Bool.false_eq_true, beq_iff_eq, if_false, Nat.add_zero, ne_eq, List.cons.injEq, true_and]
    exact ih
   | true =>
    simp only [List.count_cons, beq_self_eq_true, if_true, Bool.false_eq_true, beq_iff_eq, if_false]
    exact ⟨by omega, fun _ => by omega⟩
end Go.OM
namespace Go.OM
theorem placeB_iff {n : Nat} {v : Int} : placeB n v = true ↔ 0 ≤ v ∧ v < n := by unfold placeB; rw [inB_iff]; omega
theorem wordB_facts {n m : Nat} {x : GIns} (h : wordB n m x = true) : (1 ≤ x.Op ∧ x.Op ≤ 20) ∧ (((2 ≤ x.Op ∧ x.Op ≤ 7) ∨ (9 ≤ x.Op ∧ x.Op ≤ 12) ∨ x.Op = 14 ∨ x.Op = 15) → 0 ≤ x.B ∧ x.B < n) ∧ ((10 ≤ x.Op ∧ x.Op ≤ 12) → 0 ≤ x.C ∧ x.C < n) ∧
  (x.Op ≠ 18 → ((x.Op = 13 ∨ x.Op = 20) ∧ x.A = -1) ∨ (0 ≤ x.A ∧ x.A < n)) ∧ (x.Op = 13 → (∀ a ∈ x.Args, 0 ≤ a ∧ a < n) ∧ x.Args.length ≤ 3) := by
 unfold wordB at h
 simp only [Bool.and_eq_true] at h
 obtain ⟨h1, h2, h3, h4, h5, h6⟩ := h
 have h1' := inB_iff.1 h1
 refine ⟨h1', fun hb => ?_, fun hc => ?_, fun h18 => ?_, fun h13 => ?_⟩
 ·have : hasBB x.Op = true := by
   unfold hasBB
   simp only [Bool.or_eq_true, inB_iff, beq_iff_eq]
   omega
  unfold bB at h3
  rw [if_pos this] at h3
  exact placeB_iff.1 h3
 ·have : hasCB x.Op = true := by unfold hasCB; rw [inB_iff]; omega
  unfold cB at h4
  rw [if_pos this] at h4
  exact placeB_iff.1 h4
 ·unfold aB at h2
  by_cases ho : x.Op = 13 ∨ x.Op = 20
  ·have : (x.Op == 13 || x.Op == 20) = true := by simp only [Bool.or_eq_true, beq_iff_eq]; exact ho
   rw [if_pos this] at h2
   simp only [Bool.or_eq_true, beq_iff_eq] at h2
   rcases h2 with h2 | h2
   ·exact .inl ⟨ho, h2⟩
   exact .inr (placeB_iff.1 h2)
  have : ¬ (x.Op == 13 || x.Op == 20) = true := by simp only [Bool.or_eq_true, beq_iff_eq]; exact ho
  rw [if_neg this, if_neg (by simpa using h18)] at h2
  exact .inr (placeB_iff.1 h2)
 unfold restB at h6
 rw [if_neg (by simp [h13])] at h6
 simp only [Bool.and_eq_true, decide_eq_true_eq, List.all_eq_true] at h6
 exact ⟨fun a ha => placeB_iff.1 (h6.1 a ha), by omega⟩
theorem getI_in {α : Type} {l : List α} {v : Int} (h0 : 0 ≤ v) (h : v < l.length) : getI l v = some (l[v.toNat]'(by omega)) := by
 have : v = ((v.toNat : Nat) : Int) := by omega
 conv => lhs; rw [this]
 exact getI_at (by omega)
theorem impl_Writes_eq (x : GIns) : impl_Writes x = some (if inB x.Op 1 14 = true then x.A else -1) := by
 unfold impl_Writes; simp only [impl_in_eq, Option.bind_some, ite_some]
theorem spec_Writes_eq (x : GIns) : spec_Writes x = some (if inB x.Op 1 14 = true then x.A else -1) := by
 unfold spec_Writes; simp only [spec_in_eq, Option.bind_some, ite_some]
theorem app_nil {α : Type} {n : Nat} {l : List α} (h : l.length ≤ 1048576) (hn : n ≤ 64) : appI n [] l = some l := by
 unfold appI
 have h1 : (([] : List α).length + l.length) * n ≤ (([] : List α).length + l.length) * 64 := Nat.mul_le_mul_left _ hn
 rw [if_pos ⟨by simp only [List.length_nil] at h1 ⊢; omega, by simp only [List.length_nil]; omega⟩]
 simp
theorem spec_l14Reached_eq (c : GCode) (hc : codeB c = true) : spec_l14Reached c = some (reachC c) := by
 unfold spec_l14Reached
 obtain ⟨_, _, _, ⟨hw1, hw2⟩, _⟩ := codeB_facts hc
 have hm : c.Words.length ≤ 1048576 := by omega
 rw [mkI_len _ _ _ (by omega) (by omega)]
 have h0 : getI (List.replicate c.Words.length false) 0 = some false := by
  rw [getI_zero, List.getElem?_replicate, if_pos (by omega)]
 simp only [Option.bind_some, h0, bindS_def]
 obtain ⟨t', g1, g2, g3⟩ := wl_loop (spec_l14Reached_l1 c) (fun t => t) (fun _ => True) c.Words.length 0 (nextI c) (fun t => t.1) (nextI_ok c) (fun t _ hI hne => by
  obtain ⟨o, t⟩ := t
  have hne' : t ≠ [] := hne
  have hpos : 0 < t.length := List.length_pos_iff.2 hne'
  have hlt : t.length - 1 < t.length := by omega
  have hcnt := hI.cnt
  have hlen := hI.len
  have hcw := List.count_le_length (a := true) (l := o)
  simp only at hcnt hlen
  have hmem : t[t.length - 1] ∈ t := List.getElem_mem hlt
  have heb := hI.bnd t[t.length - 1] hmem
  have hei : ((t[t.length - 1].toNat : Nat) : Int) = t[t.length - 1] := by omega
  have hw : IntKind.wrap .i64 ((t.length : Int) - 1) = ((t.length - 1 : Nat) : Int) := by rw [w64 (by omega) (by omega)]; omega
  have hsub : subI t 0 ((t.length - 1 : Nat) : Int) = some (t.take (t.length - 1)) := by
   unfold subI
   rw [if_pos ⟨by omega, by omega, by omega⟩]
   simp
  have hnx := spec_Next_eq c hm t[t.length - 1].toNat (by omega)
  rw [hei] at hnx
  have hsb : ∀ m ∈ nextS c t[t.length - 1].toNat, 0 ≤ m ∧ m < c.Words.length := fun m hmm => nextI_bnd (mem_nextS.1 hmm)
  refine ⟨(nextS c t[t.length - 1].toNat).foldl vis (o, t.take (t.length - 1)), t[t.length - 1], t.take (t.length - 1), nextS c t[t.length - 1].toNat, ?_, trivial, hmem, fun x hx => ?_, fun x hx => List.mem_of_mem_take hx, by simp only [List.length_take]; omega, fun m => mem_nextS, rfl⟩
  ·simp only [spec_l14Reached_l1]
   have hp : decide ((t.length : Int) > 0) = true := by simp only [decide_eq_true_eq]; omega
   simp only [hp, if_true, hw, getI_at hlt, Option.bind_some, hsub, hnx]
   have hkl : (nextS c t[t.length - 1].toNat).length ≤ 1048576 := by
    have key : ∀ (q s : List Int), (q.foldl addL s).length ≤ s.length + q.length := by
     intro q
     induction q with
     | nil => intro s; simp
     | cons x q ih => intro s; rw [List.foldl_cons]; have := ih (addL s x); have := addL_len s x; simp only [List.length_cons]; omega
    have h1 := key (nextI c t[t.length - 1].toNat) []
    have h2 : (nextI c t[t.length - 1].toNat).length ≤ 1000 := by
     unfold nextI
     split
     ·refine Nat.le_trans (List.length_filter_le _ _) ?_
      unfold rawNext; split <;> (try split) <;> (try split) <;> simp
     simp
    unfold nextS
    simp only [List.length_nil] at h1
    omega
   exact vis_loop (nextS c t[t.length - 1].toNat) c.Words.length (by omega) hsb (spec_l14Reached_l2 (nextS c t[t.length - 1].toNat)) (fun s => .inl s) (fun o w k hk ho ht => by
    have hb := hsb _ (List.getElem_mem hk)
    simp only [spec_l14Reached_l2, ofNat_lt_true hk, if_true, getI_at hk, Option.bind_some, vis_get hb.1 (show (nextS c t[t.length - 1].toNat)[k] < (o.length : Int) by rw [ho]; exact hb.2), bindS_def, w64_nat hk hkl, app1 (n := 8) (show w.length ≤ 1048576 by omega) (by omega)]
    rw [vis_eq (show ((nextS c t[t.length - 1].toNat)[k]).toNat < o.length by omega)]
    cases o[((nextS c t[t.length - 1].toNat)[k]).toNat] <;> rfl) (fun o w => by simp [spec_l14Reached_l2]) o _ hI.len (by simp only [List.length_take]; omega)
  ·have hx' : x ∈ t := hx
   obtain ⟨j, hj, rfl⟩ := List.mem_iff_getElem.1 hx'
   by_cases e : j = t.length - 1
   ·subst e; exact .inl rfl
   right
   have hj2 : j < t.length - 1 := by omega
   have : (t.take (t.length - 1))[j]'(by simp only [List.length_take]; omega) = t[j] := by simp
   rw [← this]
   exact List.getElem_mem _) (fun t _ he => by
  obtain ⟨o, t⟩ := t
  have he' : t = [] := he
  subst he'
  simp [spec_l14Reached_l1]) ((List.replicate c.Words.length false).set 0 true, [0]) trivial (winv_start (by omega))
 rw [g1]
 simp only [Option.bind_some]
 rw [g3]; rfl
end Go.OM
namespace Go.OM
structure Dn (W L : Nat) (s s' : Tab × Bool) : Prop where
 ok : TabOk W L s'.1
 le : cntT s'.1 ≤ cntT s.1
 lt : s'.2 = true → s.2 = true ∨ cntT s'.1 < cntT s.1
 keep : s.2 = true → s'.2 = true
theorem Dn.refl {W L : Nat} {s : Tab × Bool} (h : TabOk W L s.1) : Dn W L s s := ⟨h, Nat.le_refl _, .inl, id⟩
theorem Dn.trans {W L : Nat} {s s' s2 : Tab × Bool} (h : Dn W L s s') (h2 : Dn W L s' s2) : Dn W L s s2 :=
 ⟨h2.ok, Nat.le_trans h2.le h.le, fun e => by
  rcases h2.lt e with e | e
  ·rcases h.lt e with e | e
   ·exact .inl e
   exact .inr (Nat.lt_of_le_of_lt h2.le e)
  exact .inr (Nat.lt_of_lt_of_le e h.le), fun e => h2.keep (h.keep e)⟩
theorem nextS_cases (c : GCode) (i : Nat) : nextS c i = nextI c i ∨ ∃ a, nextI c i = [a, a] ∧ nextS c i = [a] := by
 unfold nextS
 have hl : (nextI c i).length ≤ 2 := by
  unfold nextI
  split
  ·refine Nat.le_trans (List.length_filter_le _ _) ?_
   unfold rawNext; split <;> (try split) <;> (try split) <;> simp
  simp
 match h : nextI c i, hl with
 | [], _ => exact .inl rfl
 | [a], _ => left; simp [addL]
 | [a, b], _ =>
  by_cases e : a = b
  ·subst e
   exact .inr ⟨a, rfl, by simp [addL]⟩
  left
  have : ¬ b = a := fun h => e h.symm
  simp [addL, this]
 | _ :: _ :: _ :: _, hq => simp only [List.length_cons] at hq; omega
theorem reachC_len (c : GCode) : (reachC c).length = c.Words.length := by simp [reachC, reachL]
theorem getI_set_self {t : Tab} {n : Nat} {r : List Bool} (h : n < t.length) : getI (t.set n r) (n : Int) = some r := getI_set h
theorem nextI_len (c : GCode) (i : Nat) : (nextI c i).length ≤ 2 := by
 unfold nextI
 split
 ·refine Nat.le_trans (List.length_filter_le _ _) ?_
  unfold rawNext; split <;> (try split) <;> (try split) <;> simp
 simp
theorem nextS_len (c : GCode) (i : Nat) : (nextS c i).length ≤ 2 := by
 rcases nextS_cases c i with h | ⟨a, h1, h2⟩
 ·rw [h]; exact nextI_len c i
 rw [h2]; simp
end Go.OM
namespace Go.OM
abbrev Tab3 := List Tab
structure T3Ok (W L K : Nat) (t : Tab3) : Prop where
 len : t.length = W
 row : ∀ r ∈ t, TabOk L K r
def is3 (t : Tab3) (n j k : Nat) : Bool := ((t[n]?).bind fun a => (a[j]?).bind fun r => r[k]?).getD false
def set3 (t : Tab3) (n j k : Nat) : Tab3 := match t[n]? with
 | some a => (match a[j]? with
  | some r => t.set n (a.set j (r.set k true))
  | none => t)
 | none => t
def or1 (n j k : Nat) (b : Bool) (s : Tab3 × Bool) : Tab3 × Bool := if (b && !is3 s.1 n j k) = true then (set3 s.1 n j k, true) else s
def cnt3 (t : Tab3) : Nat := (t.map cntT).sum
theorem cnt3_le {W L K : Nat} {t : Tab3} (h : T3Ok W L K t) : cnt3 t ≤ W * (L * K) := by
 obtain ⟨h1, h2⟩ := h
 subst h1
 unfold cnt3
 induction t with
 | nil => simp
 | cons r t ih =>
  have := ih (fun x hx => h2 x (by simp [hx]))
  have h3 := cntT_le (h2 r (by simp))
  simp only [List.map_cons, List.sum_cons, List.length_cons, Nat.add_mul, Nat.one_mul]
  omega
theorem cnt3_set {t : Tab3} {n : Nat} {row r : Tab} (h : t[n]? = some row) : cnt3 (t.set n r) + cntT row = cnt3 t + cntT r := by
 unfold cnt3
 induction t generalizing n with
 | nil => simp at h
 | cons x t ih =>
  cases n with
  | zero =>
   simp only [List.getElem?_cons_zero, Option.some.injEq] at h
   subst h
   simp only [List.set_cons_zero, List.map_cons, List.sum_cons]; omega
  | succ n =>
   simp only [List.getElem?_cons_succ] at h
   have := ih h
   simp only [List.set_cons_succ, List.map_cons, List.sum_cons]; omega
theorem cntR_set1 {r : List Bool} {k : Nat} (h : r[k]? = some false) : cntR (r.set k true) = cntR r + 1 := by
 unfold cntR
 obtain ⟨hk, h2⟩ := List.getElem?_eq_some_iff.1 h
 exact count_set hk (by rw [h]; simp)
theorem at3 {W L K : Nat} {t : Tab3} (h : T3Ok W L K t) {n j k : Nat} (hn : n < W) (hj : j < L) (hk : k < K) : ∃ a r b, t[n]? = some a ∧ a[j]? = some r ∧ r[k]? = some b ∧ TabOk L K a ∧ r.length = K ∧ is3 t n j k = b ∧ set3 t n j k = t.set n (a.set j (r.set k true)) := by
 have hn' : n < t.length := by rw [h.len]; exact hn
 have ha := h.row _ (List.getElem_mem hn')
 have hj' : j < t[n].length := by rw [ha.len]; exact hj
 have hr := ha.row _ (List.getElem_mem hj')
 have hk' : k < (t[n][j]).length := by rw [hr]; exact hk
 have e1 : t[n]? = some t[n] := List.getElem?_eq_getElem hn'
 have e2 : (t[n])[j]? = some (t[n])[j] := List.getElem?_eq_getElem hj'
 have e3 : ((t[n])[j])[k]? = some ((t[n])[j])[k] := List.getElem?_eq_getElem hk'
 exact ⟨t[n], t[n][j], t[n][j][k], e1, e2, e3, ha, hr, by simp [is3, e1, e2, e3], by simp only [set3, e1, e2]⟩
theorem set3_ok {W L K : Nat} {t : Tab3} (h : T3Ok W L K t) (n j k : Nat) : T3Ok W L K (set3 t n j k) := by
 unfold set3
 split
 ·rename_i a ha
  split
  ·rename_i r hr
   have h1 := h.row a (List.mem_of_getElem? ha)
   have h2 := h1.row r (List.mem_of_getElem? hr)
   refine ⟨by simpa using h.len, fun x hx => ?_⟩
   rcases List.mem_or_eq_of_mem_set hx with h3 | h3
   ·exact h.row x h3
   rw [h3]; exact h1.set j (by simpa using h2)
  exact h
 exact h
theorem set3_mono {t : Tab3} {n j k n' j' k' : Nat} (h : is3 t n' j' k' = true) : is3 (set3 t n j k) n' j' k' = true := by
 unfold set3
 split
 ·rename_i a ha
  split
  ·rename_i r hr
   have hn := (List.getElem?_eq_some_iff.1 ha).1
   have hj := (List.getElem?_eq_some_iff.1 hr).1
   unfold is3 at h ⊢
   by_cases e : n = n'
   ·subst e
    rw [List.getElem?_set_self hn]
    rw [ha] at h
    simp only [Option.bind_some] at h ⊢
    by_cases e2 : j = j'
    ·subst e2
     rw [List.getElem?_set_self hj]
     rw [hr] at h
     simp only [Option.bind_some] at h ⊢
     by_cases e3 : k = k'
     ·subst e3
      have : k < r.length := by
       rcases Nat.lt_or_ge k r.length with h4 | h4
       ·exact h4
       rw [List.getElem?_eq_none h4] at h; simp at h
      rw [List.getElem?_set_self this]; rfl
     rw [List.getElem?_set_ne e3]; exact h
    rw [List.getElem?_set_ne e2]; exact h
   rw [List.getElem?_set_ne e]; exact h
  exact h
 exact h
theorem set3_self {W L K : Nat} {t : Tab3} (h : T3Ok W L K t) {n j k : Nat} (hn : n < W) (hj : j < L) (hk : k < K) : is3 (set3 t n j k) n j k = true := by
 obtain ⟨a, r, b, e1, e2, e3, h1, h2, h3, h4⟩ := at3 h hn hj hk
 have q1 := (List.getElem?_eq_some_iff.1 e1).1
 have q2 := (List.getElem?_eq_some_iff.1 e2).1
 have q3 := (List.getElem?_eq_some_iff.1 e3).1
 rw [h4]
 simp [is3, q1, q2, q3]
theorem set3_cnt {W L K : Nat} {t : Tab3} (h : T3Ok W L K t) {n j k : Nat} (hn : n < W) (hj : j < L) (hk : k < K) (hf : is3 t n j k = false) : cnt3 (set3 t n j k) = cnt3 t + 1 := by
 obtain ⟨a, r, b, e1, e2, e3, h1, h2, h3, h4⟩ := at3 h hn hj hk
 rw [h4]
 rw [hf] at h3
 subst h3
 have q1 := cnt3_set (r := a.set j (r.set k true)) e1
 have q2 := cntT_set (r := r.set k true) e2
 have q3 := cntR_set1 e3
 omega
structure Up (W L K : Nat) (s s' : Tab3 × Bool) : Prop where
 ok : T3Ok W L K s'.1
 le : cnt3 s.1 ≤ cnt3 s'.1
 lt : s'.2 = true → s.2 = true ∨ cnt3 s.1 < cnt3 s'.1
 mono : ∀ n j k, is3 s.1 n j k = true → is3 s'.1 n j k = true
theorem Up.refl {W L K : Nat} {s : Tab3 × Bool} (h : T3Ok W L K s.1) : Up W L K s s := ⟨h, Nat.le_refl _, .inl, fun _ _ _ h => h⟩
theorem Up.trans {W L K : Nat} {s s' s2 : Tab3 × Bool} (h : Up W L K s s') (h2 : Up W L K s' s2) : Up W L K s s2 :=
 ⟨h2.ok, Nat.le_trans h.le h2.le, fun e => by
  rcases h2.lt e with e | e
  ·rcases h.lt e with e | e
   ·exact .inl e
   exact .inr (Nat.lt_of_lt_of_le e h2.le)
  exact .inr (Nat.lt_of_le_of_lt h.le e), fun n j k e => h2.mono n j k (h.mono n j k e)⟩
theorem or1_up {W L K : Nat} {s : Tab3 × Bool} (h : T3Ok W L K s.1) {n j k : Nat} (hn : n < W) (hj : j < L) (hk : k < K) (b : Bool) : Up W L K s (or1 n j k b s) ∧ (b = true → is3 (or1 n j k b s).1 n j k = true) ∧ ((b = true → is3 s.1 n j k = true) → or1 n j k b s = s) := by
 unfold or1
 split
 ·rename_i hc
  simp only [Bool.and_eq_true, Bool.not_eq_true'] at hc
  have := set3_cnt h hn hj hk hc.2
  refine ⟨⟨set3_ok h _ _ _, by simp only; omega, fun _ => .inr (by simp only; omega), fun _ _ _ e => set3_mono e⟩, fun _ => set3_self h hn hj hk, fun e => ?_⟩
  rw [e hc.1] at hc
  cases hc.2
 rename_i hc
 refine ⟨.refl h, fun hb => ?_, fun _ => rfl⟩
 subst hb
 simpa using hc
theorem fold_up {W L K : Nat} (st : Nat → Tab3 × Bool → Tab3 × Bool) (G : Nat → Tab3 → Prop) (hG : ∀ i t t', G i t → (∀ n j k, is3 t n j k = true → is3 t' n j k = true) → G i t') : ∀ (l : List Nat) (s : Tab3 × Bool), T3Ok W L K s.1 →
  (∀ i ∈ l, ∀ s : Tab3 × Bool, T3Ok W L K s.1 → Up W L K s (st i s) ∧ G i (st i s).1 ∧ (G i s.1 → st i s = s)) →
  Up W L K s (l.foldl (fun s i => st i s) s) ∧ (∀ i ∈ l, G i (l.foldl (fun s i => st i s) s).1) ∧ ((∀ i ∈ l, G i s.1) → l.foldl (fun s i => st i s) s = s)
 | [], s, h, _ => ⟨.refl h, by simp, fun _ => rfl⟩
 | i :: l, s, h, hst => by
  obtain ⟨u1, g1, k1⟩ := hst i (by simp) s h
  obtain ⟨u2, g2, k2⟩ := fold_up st G hG l (st i s) u1.ok (fun i hi => hst i (by simp [hi]))
  simp only [List.foldl_cons]
  refine ⟨u1.trans u2, fun m hm => ?_, fun hall => ?_⟩
  ·rcases List.mem_cons.1 hm with e | hm
   ·rw [e]; exact hG _ _ _ g1 u2.mono
   exact g2 m hm
  rw [k1 (hall i (by simp))] at k2 ⊢
  exact k2 (fun m hm => hall m (by simp [hm]))
def updR (K n j : Nat) (row : List Bool) (s : Tab3 × Bool) : Tab3 × Bool := (List.range K).foldl (fun s k => or1 n j k (row.getD k false) s) s
def updT (L K n : Nat) (now : Tab) (s : Tab3 × Bool) : Tab3 × Bool := (List.range L).foldl (fun s j => updR K n j (now.getD j []) s) s
def holdR (K n j : Nat) (row : List Bool) (t : Tab3) : Prop := ∀ k, k < K → row.getD k false = true → is3 t n j k = true
def holdT (L K n : Nat) (now : Tab) (t : Tab3) : Prop := ∀ j, j < L → holdR K n j (now.getD j []) t
theorem updR_up {W L K : Nat} {n j : Nat} (hn : n < W) (hj : j < L) (row : List Bool) (s : Tab3 × Bool) (h : T3Ok W L K s.1) : Up W L K s (updR K n j row s) ∧ holdR K n j row (updR K n j row s).1 ∧ (holdR K n j row s.1 → updR K n j row s = s) := by
 obtain ⟨u, g, k⟩ := fold_up (W := W) (L := L) (K := K) (fun k s => or1 n j k (row.getD k false) s) (fun k t => row.getD k false = true → is3 t n j k = true) (fun i t t' g m e => m _ _ _ (g e)) (List.range K) s h (fun k hk s hs => by
  obtain ⟨a, b, c⟩ := or1_up hs hn hj (List.mem_range.1 hk) (row.getD k false)
  exact ⟨a, b, c⟩)
 exact ⟨u, fun k hk => g k (List.mem_range.2 hk), fun hh => k (fun i hi => hh i (List.mem_range.1 hi))⟩
theorem updT_up {W L K : Nat} {n : Nat} (hn : n < W) (now : Tab) (s : Tab3 × Bool) (h : T3Ok W L K s.1) : Up W L K s (updT L K n now s) ∧ holdT L K n now (updT L K n now s).1 ∧ (holdT L K n now s.1 → updT L K n now s = s) := by
 obtain ⟨u, g, k⟩ := fold_up (W := W) (L := L) (K := K) (fun j s => updR K n j (now.getD j []) s) (fun j t => holdR K n j (now.getD j []) t) (fun i t t' g m k hk e => m _ _ _ (g k hk e)) (List.range L) s h (fun j hj s hs => updR_up hn (List.mem_range.1 hj) _ s hs)
 exact ⟨u, fun j hj => g j (List.mem_range.2 hj), fun hh => k (fun i hi => hh i (List.mem_range.1 hi))⟩
theorem updT_idem {W L K : Nat} {n : Nat} (hn : n < W) (now : Tab) (s : Tab3 × Bool) (h : T3Ok W L K s.1) : updT L K n now (updT L K n now s) = updT L K n now s := by
 obtain ⟨u, g, _⟩ := updT_up (L := L) (K := K) hn now s h
 exact (updT_up hn now _ u.ok).2.2 g
theorem updL_up {W L K : Nat} (now : Tab) : ∀ (l : List Int) (s : Tab3 × Bool), (∀ n ∈ l, 0 ≤ n ∧ n < W) → T3Ok W L K s.1 → Up W L K s (l.foldl (fun s n => updT L K n.toNat now s) s)
 | [], s, _, h => .refl h
 | n :: l, s, hb, h => by
  obtain ⟨b0, b1⟩ := hb n (by simp)
  have u := (updT_up (L := L) (K := K) (n := n.toNat) (by omega) now s h).1
  exact u.trans (updL_up now l _ (fun m hm => hb m (by simp [hm])) u.ok)
theorem fold3_nextS (c : GCode) (i L K : Nat) (hi : i < c.Words.length) (now : Tab) (s : Tab3 × Bool) (h : T3Ok c.Words.length L K s.1) : (nextS c i).foldl (fun s n => updT L K n.toNat now s) s = (nextI c i).foldl (fun s n => updT L K n.toNat now s) s := by
 rcases nextS_cases c i with h1 | ⟨a, h1, h2⟩
 ·rw [h1]
 rw [h1, h2]
 have := nextI_ok c i hi a (by rw [h1]; simp)
 simp only [List.foldl_cons, List.foldl_nil]
 rw [updT_idem (by omega) now s h]
theorem getI_of {α : Type} {l : List α} {n : Nat} {x : α} (h : l[n]? = some x) : getI l (n : Int) = some x := by
 obtain ⟨h1, h2⟩ := List.getElem?_eq_some_iff.1 h
 rw [getI_at h1, h2]
theorem getI_D {l : List Bool} {k : Nat} (h : k < l.length) : getI l (k : Int) = some (l.getD k false) := by
 rw [getI_at h]; simp [List.getD_eq_getElem?_getD, List.getElem?_eq_getElem h]
theorem impl_row3 {W L K : Nat} (hK : K ≤ 1048576) {n j : Nat} (hn : n < W) (hj : j < L) (row : List Bool) (hr : row.length = K) (s : Tab3 × Bool) (h : T3Ok W L K s.1) :
  loopP (impl_HoldsAt_l6 n j row) (s.1, s.2, 0) = some (updR K n j row s) := by
 have := loopP_fold (List.range K) (fun (s : Tab3 × Bool) k => (s.1, s.2, (k : Int))) (fun k s => T3Ok W L K s.1) (fun s k => .inl (or1 n j k (row.getD k false) s)) id (impl_HoldsAt_l6 n j row) (fun s k hk hI => by
  left
  have hk' : k < K := by simpa using hk
  have hkr : k < row.length := by omega
  rw [List.getElem_range]
  refine ⟨_, rfl, ?_, (or1_up hI hn hj hk' _).1.ok⟩
  obtain ⟨a, r, b, e1, e2, e3, h1, h2, h3, h4⟩ := at3 hI hn hj hk'
  have hg : row.getD k false = row[k] := by simp [List.getD_eq_getElem?_getD, List.getElem?_eq_getElem hkr]
  simp only [impl_HoldsAt_l6, hr, ofNat_lt_true hk', if_true, getI_at hkr, getI_of e1, getI_of e2, getI_of e3, Option.bind_some, bindS_def, Int.toNat_natCast, w64_nat hk' hK]
  rw [← hg]
  unfold or1
  rw [h3, h4]
  cases row.getD k false <;> cases b <;> simp) (fun s _ => by simp [impl_HoldsAt_l6, hr]) s h
 rw [foldE_inl] at this
 exact this
theorem impl_tab3 {W L K : Nat} (hL : L ≤ 1048576) (hK : K ≤ 1048576) {n : Nat} (hn : n < W) (now : Tab) (hr : TabOk L K now) (s : Tab3 × Bool) (h : T3Ok W L K s.1) :
  loopP (impl_HoldsAt_l5 now n) (s.1, s.2, 0) = some (updT L K n now s) := by
 have := loopP_fold (List.range L) (fun (s : Tab3 × Bool) k => (s.1, s.2, (k : Int))) (fun k s => T3Ok W L K s.1) (fun s j => .inl (updR K n j (now.getD j []) s)) id (impl_HoldsAt_l5 now n) (fun s j hj hI => by
  left
  have hj' : j < L := by simpa using hj
  have hjr : j < now.length := by rw [hr.len]; exact hj'
  rw [List.getElem_range]
  refine ⟨_, rfl, ?_, (updR_up hn hj' _ s hI).1.ok⟩
  have hg : now.getD j [] = now[j] := by simp [List.getD_eq_getElem?_getD, List.getElem?_eq_getElem hjr]
  simp only [impl_HoldsAt_l5, hr.len, ofNat_lt_true hj', if_true, getI_at hjr, Option.bind_some]
  rw [impl_row3 hK hn hj' _ (hr.row _ (List.getElem_mem hjr)) s hI, hg]
  simp only [Option.bind_some, w64_nat hj' hL]) (fun s _ => by simp [impl_HoldsAt_l5, hr.len]) s h
 rw [foldE_inl] at this
 exact this
theorem impl_next3 {W L K : Nat} (hL : L ≤ 1048576) (hK : K ≤ 1048576) (nl : List Int) (hnl : nl.length ≤ 2) (hb : ∀ n ∈ nl, 0 ≤ n ∧ n < W) (now : Tab) (hr : TabOk L K now) (s : Tab3 × Bool) (h : T3Ok W L K s.1) :
  loopP (impl_HoldsAt_l4 now nl) (s.1, s.2, 0) = some (nl.foldl (fun s n => updT L K n.toNat now s) s) := by
 have := loopP_fold nl (fun (s : Tab3 × Bool) k => (s.1, s.2, (k : Int))) (fun k s => T3Ok W L K s.1) (fun s n => .inl (updT L K n.toNat now s)) id (impl_HoldsAt_l4 now nl) (fun s k hk hI => by
  left
  obtain ⟨b0, b1⟩ := hb _ (List.getElem_mem hk)
  have hn : nl[k].toNat < W := by omega
  refine ⟨_, rfl, ?_, (updT_up hn _ s hI).1.ok⟩
  have hne : ((nl[k].toNat : Nat) : Int) = nl[k] := by omega
  have e := impl_tab3 hL hK hn now hr s hI
  rw [hne] at e
  simp only [impl_HoldsAt_l4, ofNat_lt_true hk, if_true, getI_at hk, Option.bind_some]
  rw [e]
  simp only [Option.bind_some, w64_nat hk (show nl.length ≤ 1048576 by omega)]) (fun s _ => by simp [impl_HoldsAt_l4]) s h
 rw [foldE_inl] at this
 exact this
end Go.OM
namespace Go.OM
def setAll {ρ : Type} (v : ρ) (l : List Int) (t : List ρ) : List ρ := l.foldl (fun t a => t.set a.toNat v) t
theorem setAll_len {ρ : Type} (v : ρ) : ∀ (l : List Int) (t : List ρ), (setAll v l t).length = t.length
 | [], _ => rfl
 | a :: l, t => by unfold setAll; rw [List.foldl_cons]; exact (setAll_len v l _).trans (by simp)
theorem setAll_map {ρ β : Type} (f : ρ → β) (v : ρ) : ∀ (l : List Int) (t : List ρ), (setAll v l t).map f = setAll (f v) l (t.map f)
 | [], _ => rfl
 | a :: l, t => by
  unfold setAll
  rw [List.foldl_cons, List.foldl_cons, ← List.map_set]
  exact setAll_map f v l _
theorem setAll_set {ρ : Type} (v : ρ) (n : Nat) : ∀ (l : List Int) (t : List ρ), setAll v l (t.set n v) = (setAll v l t).set n v
 | [], _ => rfl
 | a :: l, t => by
  unfold setAll
  rw [List.foldl_cons, List.foldl_cons]
  have : (t.set n v).set a.toNat v = (t.set a.toNat v).set n v := by
   by_cases e : n = a.toNat
   ·subst e; rfl
   rw [List.set_comm _ _ e]
  rw [this]
  exact setAll_set v n l _
def heldA {ρ : Type} (non own : ρ) (x : GIns) (now : List ρ) : List ρ :=
 if x.Op = 6 ∨ x.Op = 7 then now.set x.A.toNat own
 else if x.Op = 2 then (match now[x.B.toNat]? with | some r => now.set x.A.toNat r | none => now)
 else if x.Op = 3 ∨ x.Op = 14 then (match now[x.B.toNat]? with | some r => (now.set x.B.toNat non).set x.A.toNat r | none => now)
 else if x.Op = 13 then (if 0 ≤ x.A then (setAll non x.Args now).set x.A.toNat non else setAll non x.Args now)
 else if x.Op ≤ 14 ∨ x.Op = 17 then now.set x.A.toNat non
 else now
theorem heldA_len {ρ : Type} (non own : ρ) (x : GIns) (now : List ρ) : (heldA non own x now).length = now.length := by
 unfold heldA
 split
 ·simp
 split
 ·split <;> simp
 split
 ·split <;> simp
 split
 ·split
  ·rw [List.length_set, setAll_len]
  exact setAll_len _ _ _
 split <;> simp
theorem heldA_map {ρ β : Type} (f : ρ → β) (non own : ρ) (x : GIns) (now : List ρ) : (heldA non own x now).map f = heldA (f non) (f own) x (now.map f) := by
 unfold heldA
 split
 ·rw [List.map_set]
 split
 ·rw [List.getElem?_map]
  cases now[x.B.toNat]? with
  | none => rfl
  | some r => simp only [Option.map_some, List.map_set]
 split
 ·rw [List.getElem?_map]
  cases now[x.B.toNat]? with
  | none => rfl
  | some r => simp only [Option.map_some, List.map_set]
 split
 ·split
  ·rw [List.map_set, setAll_map]
  rw [setAll_map]
 split
 ·rw [List.map_set]
 rfl
def setAt {α : Type} (vals r : List α) (k : Nat) : List α := match vals[k]? with | some v => r.set k v | none => r
theorem setAt_some {α : Type} {vals r : List α} {k : Nat} {v : α} (h : vals[k]? = some v) : setAt vals r k = r.set k v := by unfold setAt; rw [h]
theorem fold_set {α : Type} (vals : List α) : ∀ (k : Nat) (r : List α), k ≤ vals.length → r.length = vals.length → (List.range k).foldl (setAt vals) r = vals.take k ++ r.drop k
 | 0, r, _, _ => by simp
 | k + 1, r, hk, hr => by
  rw [List.range_succ, List.foldl_append, fold_set vals k r (by omega) hr, List.foldl_cons, List.foldl_nil, setAt_some (List.getElem?_eq_getElem (show k < vals.length by omega))]
  rw [List.set_append_right _ _ (by simp; omega)]
  have h1 : k - (vals.take k).length = 0 := by simp; omega
  rw [h1, List.drop_eq_getElem_cons (show k < r.length by omega), List.set_cons_zero, List.take_succ_eq_append_getElem (show k < vals.length by omega), List.append_assoc, List.singleton_append]
theorem copy_fold {α : Type} : ∀ (l s : List α), l.foldl (fun s x => s ++ [x]) s = s ++ l
 | [], s => by simp
 | x :: l, s => by rw [List.foldl_cons, copy_fold l]; simp
def ownR (loans : List GLoan) (i : Int) : List Bool := loans.map fun l => l.At == i
def noR (loans : List GLoan) : List Bool := List.replicate loans.length false
theorem held1_eq (l : Int) (loans : List GLoan) (t : Tab) (hK : loans.length ≤ 1048576) (hl : l < t.length) : impl_held_1 l loans t = some (loans, if 0 ≤ l then t.set l.toNat (noR loans) else t) := by
 unfold impl_held_1
 rw [mkI_len _ _ _ (by omega) (by omega)]
 by_cases h : 0 ≤ l
 ·rw [if_pos (by simpa using h), if_pos h]
  simp only [Option.bind_some, getI_in h hl, bindS_def]; rfl
 rw [if_neg (by simpa using h), if_neg h]
theorem held_l1 (now : Tab) (hn : now.length ≤ 1000) (hr : ∀ r ∈ now, r.length ≤ 1048576) : loopP (impl_held_l1 now) (0, []) = some now := by
 have := loopP_fold now (fun (s : Tab) k => ((k : Int), s)) (fun k s => s.length = k) (fun s x => .inl (s ++ [x])) id (impl_held_l1 now) (fun s k hk hI => by
  left
  refine ⟨_, rfl, ?_, by simp [hI]⟩
  simp only [impl_held_l1, ofNat_lt_true hk, if_true, getI_at hk, Option.bind_some, app_nil (n := 1) (hr _ (List.getElem_mem hk)) (by omega), app1g (n := 24) (show s.length ≤ 1048576 by omega) (by omega), w64_nat hk (by omega)]) (fun s _ => by simp [impl_held_l1]) [] rfl
 rw [foldE_inl, copy_fold] at this
 exact this
theorem held_l2 (x : GIns) (i : Int) (loans : List GLoan) (hK : loans.length ≤ 1048576) (t : Tab) (hA : 0 ≤ x.A ∧ x.A < t.length) : loopP (impl_held_l2 x i loans) (0, t.set x.A.toNat (noR loans)) = some (t.set x.A.toNat (ownR loans i)) := by
 have hl : x.A.toNat < t.length := by omega
 have := loopP_fold (List.range loans.length) (fun (r : List Bool) k => ((k : Int), t.set x.A.toNat r)) (fun k r => r.length = loans.length) (fun r k => .inl (setAt (ownR loans i) r k)) (fun r => t.set x.A.toNat r) (impl_held_l2 x i loans) (fun r k hk hI => by
  left
  have hk' : k < loans.length := by simpa using hk
  have hg : getI (t.set x.A.toNat r) x.A = some r := by
   rw [getI_in hA.1 (by simpa using hA.2)]; simp
  have ho : (ownR loans i)[k]? = some (loans[k].At == i) := by unfold ownR; rw [List.getElem?_map, List.getElem?_eq_getElem hk']; rfl
  rw [List.getElem_range, setAt_some ho]
  refine ⟨_, rfl, ?_, by simpa using hI⟩
  simp only [impl_held_l2, ofNat_lt_true hk', if_true, getI_at hk', Option.bind_some, hg, getI_at (show k < r.length by omega), bindS_def, Int.toNat_natCast, List.set_set, w64_nat hk' hK]) (fun r _ => by simp [impl_held_l2]) (noR loans) (by simp [noR])
 rw [foldE_inl] at this
 have h2 : ((List.range loans.length).foldl (setAt (ownR loans i)) (noR loans)) = ownR loans i := by
  have h3 := fold_set (ownR loans i) loans.length (noR loans) (by simp [ownR]) (by simp [ownR, noR])
  rw [h3]
  have h4 : (ownR loans i).length = loans.length := by simp [ownR]
  have h5 : (noR loans).length = loans.length := by simp [noR]
  rw [List.take_of_length_le (by omega), List.drop_of_length_le (by omega)]; simp
 rw [h2] at this
 exact this
theorem held_l3 (x : GIns) (loans : List GLoan) (hK : loans.length ≤ 1048576) (n : Nat) (ha : ∀ a ∈ x.Args, 0 ≤ a ∧ a < n) (hl : x.Args.length ≤ 3) (t : Tab) (ht : t.length = n) : loopP (impl_held_l3 x) (0, loans, t) = some (setAll (noR loans) x.Args t) := by
 have := loopP_fold x.Args (fun (s : Tab) k => ((k : Int), loans, s)) (fun k s => s.length = n) (fun s a => .inl (s.set a.toNat (noR loans))) id (impl_held_l3 x) (fun s k hk hI => by
  left
  obtain ⟨a0, a1⟩ := ha _ (List.getElem_mem hk)
  refine ⟨_, rfl, ?_, by simpa using hI⟩
  simp only [impl_held_l3, ofNat_lt_true hk, if_true, getI_at hk, Option.bind_some, held1_eq _ loans s hK (show x.Args[k] < (s.length : Int) by rw [hI]; exact a1), if_pos a0, w64_nat hk (by omega)]) (fun s _ => by simp [impl_held_l3]) t ht
 rw [foldE_inl] at this
 exact this
theorem op_or {x : GIns} (a b : Int) : (if (x.Op == a) = true then some (x.Op == a) else some (x.Op == b)) = some (decide (x.Op = a ∨ x.Op = b)) := by
 by_cases h : x.Op = a
 ·simp [h]
 rw [if_neg (by simpa using h)]
 congr 1
 by_cases h2 : x.Op = b <;> simp [h, h2]
theorem impl_held_eq (x : GIns) (i : Int) (loans : List GLoan) (hK : loans.length ≤ 1048576) (n m : Nat) (hx : wordB n m x = true) (hn : n ≤ 1000) (now : Tab) (h : TabOk n loans.length now) : impl_held x i loans now = some (heldA (noR loans) (ownR loans i) x now) := by
 obtain ⟨hop, hB, _, hA, h13⟩ := wordB_facts hx
 have hlen := h.len
 unfold impl_held
 rw [held_l1 now (by omega) (fun r hr => by rw [h.row r hr]; exact hK)]
 simp only [Option.bind_some, op_or]
 unfold heldA
 by_cases h6 : x.Op = 6 ∨ x.Op = 7
 ·have a := hA (by omega)
  have a : 0 ≤ x.A ∧ x.A < n := by omega
  rw [if_pos h6]
  simp only [decide_eq_true h6, if_true, held1_eq x.A loans now hK (by omega), if_pos a.1, Option.bind_some, held_l2 x i loans hK now (by omega)]
 rw [if_neg h6]
 simp only [decide_eq_false h6, Bool.false_eq_true, if_false]
 by_cases h2 : x.Op = 2
 ·have a := hA (by omega)
  have a : 0 ≤ x.A ∧ x.A < n := by omega
  obtain ⟨b0, b1⟩ := hB (by omega)
  have hb : x.B.toNat < now.length := by omega
  rw [if_pos h2]
  have e : (x.Op == 2) = true := by simp [h2]
  simp only [e, if_true, getI_in b0 (show x.B < (now.length : Int) by omega), getI_in a.1 (show x.A < (now.length : Int) by omega), Option.bind_some, app_nil (n := 1) (show (now[x.B.toNat]).length ≤ 1048576 by rw [h.row _ (List.getElem_mem hb)]; exact hK) (by omega), bindS_def, List.getElem?_eq_getElem hb]
 rw [if_neg h2]
 have e2 : (x.Op == 2) = false := by simp [h2]
 simp only [e2, Bool.false_eq_true, if_false]
 by_cases h3 : x.Op = 3 ∨ x.Op = 14
 ·have a := hA (by omega)
  have a : 0 ≤ x.A ∧ x.A < n := by omega
  obtain ⟨b0, b1⟩ := hB (by omega)
  have hb : x.B.toNat < now.length := by omega
  rw [if_pos h3]
  simp only [decide_eq_true h3, if_true, held1_eq x.B loans now hK (by omega), if_pos b0, getI_in b0 (show x.B < (now.length : Int) by omega), getI_in a.1 (show x.A < ((now.set x.B.toNat (noR loans)).length : Int) by simp; omega), Option.bind_some, app_nil (n := 1) (show (now[x.B.toNat]).length ≤ 1048576 by rw [h.row _ (List.getElem_mem hb)]; exact hK) (by omega), bindS_def, List.getElem?_eq_getElem hb]
 rw [if_neg h3]
 simp only [decide_eq_false h3, Bool.false_eq_true, if_false]
 by_cases hc : x.Op = 13
 ·obtain ⟨h7, h8⟩ := h13 hc
  have a : x.A < n := by have := hA (by omega); omega
  have e : (x.Op == 13) = true := by simp [hc]
  rw [if_pos hc]
  simp only [e, if_true, held1_eq x.A loans now hK (by omega), Option.bind_some]
  by_cases a0 : 0 ≤ x.A
  ·rw [if_pos a0, if_pos a0, held_l3 x loans hK n h7 h8 _ (by simp; omega), setAll_set]; rfl
  rw [if_neg a0, if_neg a0, held_l3 x loans hK n h7 h8 _ hlen]; rfl
 rw [if_neg hc]
 have ec : (x.Op == 13) = false := by simp [hc]
 simp only [ec, Bool.false_eq_true, if_false]
 by_cases h17 : x.Op = 17
 ·have a := hA (by omega)
  have a : 0 ≤ x.A ∧ x.A < n := by omega
  have e : (x.Op == 17) = true := by simp [h17]
  rw [if_pos (show x.Op ≤ 14 ∨ x.Op = 17 from .inr h17)]
  simp only [e, if_true, held1_eq x.A loans now hK (by omega), Option.bind_some, if_pos a.1]
 have e17 : (x.Op == 17) = false := by simp [h17]
 simp only [e17, Bool.false_eq_true, if_false, impl_Writes_eq, Option.bind_some]
 by_cases hw : x.Op ≤ 14
 ·have a := hA (by omega)
  have a : 0 ≤ x.A ∧ x.A < n := by omega
  rw [if_pos (show x.Op ≤ 14 ∨ x.Op = 17 from .inl hw), if_pos (inB_iff.2 (by omega)), held1_eq x.A loans now hK (by omega), if_pos a.1]; rfl
 rw [if_neg (show ¬ (x.Op ≤ 14 ∨ x.Op = 17) by omega), if_neg (fun h => hw (inB_iff.1 h).2), held1_eq _ loans now hK (by omega), if_neg (by omega)]; rfl
theorem beh_l1 (l : List Row) (hn : l.length ≤ 1000) : loopP (spec_l15Behind_l1 l) ([], 0) = some l := by
 have := loopP_fold l (fun (s : List Row) k => (s, (k : Int))) (fun k s => s.length = k) (fun s x => .inl (s ++ [x])) id (spec_l15Behind_l1 l) (fun s k hk hI => by
  left
  refine ⟨_, rfl, ?_, by simp [hI]⟩
  simp only [spec_l15Behind_l1, ofNat_lt_true hk, if_true, getI_at hk, Option.bind_some, app1g (n := 24) (show s.length ≤ 1048576 by omega) (by omega), w64_nat hk (by omega)]) (fun s _ => by simp [spec_l15Behind_l1]) [] rfl
 rw [foldE_inl, copy_fold] at this
 exact this
theorem beh_l2 (i : Int) (loans : List GLoan) (hK : loans.length ≤ 1048576) : loopP (spec_l15Behind_l2 loans i) (List.replicate loans.length false, 0) = some (ownR loans i) := by
 have := loopP_fold (List.range loans.length) (fun (r : List Bool) k => (r, (k : Int))) (fun k r => r.length = loans.length) (fun r k => .inl (setAt (ownR loans i) r k)) (fun r => r) (spec_l15Behind_l2 loans i) (fun r k hk hI => by
  left
  have hk' : k < loans.length := by simpa using hk
  have ho : (ownR loans i)[k]? = some (loans[k].At == i) := by unfold ownR; rw [List.getElem?_map, List.getElem?_eq_getElem hk']; rfl
  rw [List.getElem_range, setAt_some ho]
  refine ⟨_, rfl, ?_, by simpa using hI⟩
  simp only [spec_l15Behind_l2, ofNat_lt_true hk', if_true, getI_at hk', Option.bind_some, getI_at (show k < r.length by omega), bindS_def, Int.toNat_natCast, w64_nat hk' hK]) (fun r _ => by simp [spec_l15Behind_l2]) (List.replicate loans.length false) (by simp)
 rw [foldE_inl] at this
 have h2 : ((List.range loans.length).foldl (setAt (ownR loans i)) (List.replicate loans.length false)) = ownR loans i := by
  have h3 := fold_set (ownR loans i) loans.length (List.replicate loans.length false) (by simp [ownR]) (by simp [ownR])
  rw [h3]
  have h4 : (ownR loans i).length = loans.length := by simp [ownR]
  rw [List.take_of_length_le (by omega), List.drop_of_length_le (by simp)]; simp
 rw [h2] at this
 exact this
theorem beh_l3 (x : GIns) (nr : List Bool) (n : Nat) (ha : ∀ a ∈ x.Args, 0 ≤ a ∧ a < n) (hl : x.Args.length ≤ 3) (t : List Row) (ht : t.length = n) : loopP (spec_l15Behind_l3 x nr) (t, 0) = some (.inl (setAll (Row.row nr) x.Args t)) := by
 have := loopP_fold x.Args (fun (s : List Row) k => (s, (k : Int))) (fun k s => s.length = n) (fun s a => .inl (s.set a.toNat (Row.row nr))) (fun s => (.inl s : List Row ⊕ List Row)) (spec_l15Behind_l3 x nr) (fun s k hk hI => by
  left
  obtain ⟨a0, a1⟩ := ha _ (List.getElem_mem hk)
  refine ⟨_, rfl, ?_, by simpa using hI⟩
  simp only [spec_l15Behind_l3, ofNat_lt_true hk, if_true, getI_at hk, Option.bind_some, getI_in a0 (show x.Args[k] < (s.length : Int) by rw [hI]; exact a1), bindS_def, w64_nat hk (by omega)]) (fun s _ => by simp [spec_l15Behind_l3]) t ht
 rw [foldE_inl] at this
 exact this
theorem spec_l15Behind_eq (x : GIns) (i : Int) (loans : List GLoan) (hK : loans.length ≤ 1048576) (n m : Nat) (hx : wordB n m x = true) (hn : n ≤ 1000) (now : List Row) (hlen : now.length = n) : spec_l15Behind loans x i now = some (heldA (.row (noR loans)) (.row (ownR loans i)) x now) := by
 obtain ⟨hop, hB, _, hA, h13⟩ := wordB_facts hx
 unfold spec_l15Behind
 rw [beh_l1 now (by omega), mkI_len _ _ _ (by omega) (by omega)]
 simp only [Option.bind_some, op_or, spec_Writes_eq]
 unfold heldA
 by_cases h6 : x.Op = 6 ∨ x.Op = 7
 ·have a := hA (by omega)
  have a : 0 ≤ x.A ∧ x.A < n := by omega
  rw [if_pos h6]
  simp only [decide_eq_true h6, if_true, beh_l2 i loans hK, getI_in a.1 (show x.A < (now.length : Int) by omega), Option.bind_some, bindS_def]
 rw [if_neg h6]
 simp only [decide_eq_false h6, Bool.false_eq_true, if_false]
 by_cases h2 : x.Op = 2
 ·have a := hA (by omega)
  have a : 0 ≤ x.A ∧ x.A < n := by omega
  obtain ⟨b0, b1⟩ := hB (by omega)
  have hb : x.B.toNat < now.length := by omega
  rw [if_pos h2]
  have e : (x.Op == 2) = true := by simp [h2]
  simp only [e, if_true, getI_in b0 (show x.B < (now.length : Int) by omega), getI_in a.1 (show x.A < (now.length : Int) by omega), Option.bind_some, bindS_def, List.getElem?_eq_getElem hb]
 rw [if_neg h2]
 have e2 : (x.Op == 2) = false := by simp [h2]
 simp only [e2, Bool.false_eq_true, if_false]
 by_cases h3 : x.Op = 3 ∨ x.Op = 14
 ·have a := hA (by omega)
  have a : 0 ≤ x.A ∧ x.A < n := by omega
  obtain ⟨b0, b1⟩ := hB (by omega)
  have hb : x.B.toNat < now.length := by omega
  rw [if_pos h3]
  simp only [decide_eq_true h3, if_true, getI_in b0 (show x.B < (now.length : Int) by omega), getI_in a.1 (show x.A < ((now.set x.B.toNat (Row.row (List.replicate loans.length false))).length : Int) by simp; omega), Option.bind_some, bindS_def, List.getElem?_eq_getElem hb]; rfl
 rw [if_neg h3]
 simp only [decide_eq_false h3, Bool.false_eq_true, if_false]
 by_cases hc : x.Op = 13
 ·obtain ⟨h7, h8⟩ := h13 hc
  have a : x.A < n := by have := hA (by omega); omega
  have e : (x.Op == 13) = true := by simp [hc]
  rw [if_pos hc]
  simp only [e, if_true, beh_l3 x _ n h7 h8 now hlen, Option.bind_some, if_pos (inB_iff.2 (show 1 ≤ x.Op ∧ x.Op ≤ 14 by omega))]
  by_cases a0 : 0 ≤ x.A
  ·rw [if_pos (by simpa using a0), if_pos a0]
   simp only [getI_in a0 (show x.A < ((setAll (Row.row (List.replicate loans.length false)) x.Args now).length : Int) by rw [setAll_len]; omega), Option.bind_some, bindS_def]; rfl
  rw [if_neg (by simpa using a0), if_neg a0]; rfl
 rw [if_neg hc]
 have ec : (x.Op == 13) = false := by simp [hc]
 simp only [ec, Bool.false_eq_true, if_false]
 by_cases h17 : x.Op = 17
 ·have a := hA (by omega)
  have a : 0 ≤ x.A ∧ x.A < n := by omega
  have e : (x.Op == 17) = true := by simp [h17]
  rw [if_pos (show x.Op ≤ 14 ∨ x.Op = 17 from .inr h17)]
  simp only [e, if_true, getI_in a.1 (show x.A < (now.length : Int) by omega), Option.bind_some, bindS_def]
  have hni : ¬ inB x.Op 1 14 = true := fun h => by have := (inB_iff.1 h).2; omega
  simp only [if_neg hni]
  rw [if_neg (by simp)]; rfl
 have e17 : (x.Op == 17) = false := by simp [h17]
 simp only [e17, Bool.false_eq_true, if_false, Option.bind_some]
 by_cases hw : x.Op ≤ 14
 ·have a := hA (by omega)
  have a : 0 ≤ x.A ∧ x.A < n := by omega
  rw [if_pos (show x.Op ≤ 14 ∨ x.Op = 17 from .inl hw), if_pos (inB_iff.2 (by omega)), if_pos (by simpa using a.1)]
  simp only [getI_in a.1 (show x.A < (now.length : Int) by omega), Option.bind_some, bindS_def]; rfl
 rw [if_neg (show ¬ (x.Op ≤ 14 ∨ x.Op = 17) by omega), if_neg (fun h => hw (inB_iff.1 h).2), if_neg (by simp)]
end Go.OM
namespace Go.OM
theorem flat_len {α : Type} (L : Nat) : ∀ (l : List (List α)), (∀ r ∈ l, r.length = L) → l.flatten.length = l.length * L
 | [], _ => by simp
 | r :: l, h => by
  rw [List.flatten_cons, List.length_append, flat_len L l fun x hx => h x (by simp [hx]), h r (by simp), List.length_cons, Nat.succ_mul]; omega
theorem take_flat {W L K : Nat} {t : Tab3} (h : T3Ok W L K t) {i : Nat} (hi : i ≤ W) : (t.take i).flatten.length = i * L := by
 rw [flat_len L _ fun r hr => (h.row r (List.mem_of_mem_take hr)).len, List.length_take, h.len, Nat.min_eq_left hi]
theorem rowsAt_val {W L K : Nat} {ts t' : Tab3} (h : T3Ok W L K ts) (h' : T3Ok W L K t') {i : Nat} {a : Tab} (hi : ts[i]? = some a) (hk : t'[i]? = some a) : (rowsAt ts i).map (rowV t') = a := by
 have hiW : i < W := by have := (List.getElem?_eq_some_iff.1 hi).1; rw [h.len] at this; exact this
 have ha : a.length = L := (h.row a (List.mem_of_getElem? hi)).len
 apply List.ext_getElem?
 intro j
 simp only [rowsAt, Int.toNat_natCast, hi, Option.getD_some, List.getElem?_map]
 by_cases hj : j < a.length
 ·rw [List.getElem?_range' hj]
  have e := row_at hk (List.getElem?_eq_getElem hj)
  unfold rowNo at e
  rw [take_flat h' (by omega)] at e
  simp only [Option.map_some, Nat.one_mul, rowV, take_flat h (show i ≤ W by omega), e, Option.getD_some, List.getElem?_eq_getElem hj]
 rw [List.getElem?_eq_none (l := a) (by omega), List.getElem?_eq_none (by simp; omega)]; rfl
theorem foldl_keep {β : Type} (i : Nat) (st : β → Tab3 × Bool → Tab3 × Bool) (h : ∀ b s, (st b s).1[i]? = s.1[i]?) : ∀ (l : List β) (s : Tab3 × Bool), (l.foldl (fun s b => st b s) s).1[i]? = s.1[i]?
 | [], s => rfl
 | b :: l, s => by rw [List.foldl_cons, foldl_keep i st h l, h]
theorem or1_keep {n i : Nat} (hne : n ≠ i) (j k : Nat) (b : Bool) (s : Tab3 × Bool) : (or1 n j k b s).1[i]? = s.1[i]? := by
 unfold or1
 split
 ·unfold set3
  split
  ·split
   ·simp only [List.getElem?_set_ne hne]
   rfl
  rfl
 rfl
theorem updR_keep {n i : Nat} (hne : n ≠ i) (K j : Nat) (row : List Bool) (s : Tab3 × Bool) : (updR K n j row s).1[i]? = s.1[i]? := foldl_keep i (fun k s => or1 n j k (row.getD k false) s) (fun k s => or1_keep hne j k _ s) _ s
theorem updT_keep {n i : Nat} (hne : n ≠ i) (L K : Nat) (now : Tab) (s : Tab3 × Bool) : (updT L K n now s).1[i]? = s.1[i]? := foldl_keep i (fun j s => updR K n j (now.getD j []) s) (fun j s => updR_keep hne K j _ s) _ s
theorem is3_now {t : Tab3} {n : Nat} {now : Tab} (h : t[n]? = some now) (j k : Nat) : is3 t n j k = (now.getD j []).getD k false := by
 unfold is3
 rw [h]
 simp only [Option.bind_some, List.getD_eq_getElem?_getD]
 cases now[j]? <;> simp
theorem updR_self {W L K : Nat} {n j : Nat} (hn : n < W) (hj : j < L) {now : Tab} {s : Tab3 × Bool} (h : T3Ok W L K s.1) (hs : s.1[n]? = some now) : updR K n j (now.getD j []) s = s :=
 (updR_up hn hj _ s h).2.2 fun k hk e => by rw [is3_now hs, e]
theorem updT_self {W L K : Nat} {n : Nat} (hn : n < W) {now : Tab} {s : Tab3 × Bool} (h : T3Ok W L K s.1) (hs : s.1[n]? = some now) : updT L K n now s = s :=
 (updT_up hn now s h).2.2 fun j hj k hk e => by rw [is3_now hs, e]
structure Beh (W L K i : Nat) (t0 : Option Tab) (behind : List Row) (now : Tab) : Prop where
 len : behind.length = L
 ok : TabOk L K now
 val : ∀ t' : Tab3, T3Ok W L K t' → t'[i]? = t0 → behind.map (rowV t') = now
def Far (i : Nat) (t0 : Option Tab) (now : Tab) (n : Nat) : Prop := n ≠ i ∨ t0 = some now
theorem m6_loop (loans : List GLoan) {W L i : Nat} {t0 : Option Tab} {behind : List Row} {now : Tab} (hB : Beh W L loans.length i t0 behind now) (hK : loans.length ≤ 1048576) {n j : Nat} (hn : n < W) (hj : j < L) (nl : List Int) (q : Nat) (hq : q < nl.length) (hqn : nl[q] = n) (hf : Far i t0 now n) (s : Tab3 × Bool) (h : T3Ok W L loans.length s.1) (h0 : s.1[i]? = t0) :
  loopP (holdsM6 loans behind nl q j) (s.1, s.2, 0) = some (updR loans.length n j (now.getD j []) s) := by
 have hjb : j < behind.length := by rw [hB.len]; exact hj
 have hjr : j < now.length := by rw [hB.ok.len]; exact hj
 have hjg : now.getD j [] = now[j] := by simp [List.getD_eq_getElem?_getD, List.getElem?_eq_getElem hjr]
 have hrow : (now.getD j []).length = loans.length := by rw [hjg]; exact hB.ok.row _ (List.getElem_mem hjr)
 have := loopP_fold (List.range loans.length) (fun (s : Tab3 × Bool) k => (s.1, s.2, (k : Int))) (fun k s => T3Ok W L loans.length s.1 ∧ s.1[i]? = t0) (fun s k => .inl (or1 n j k ((now.getD j []).getD k false) s)) id (holdsM6 loans behind nl q j) (fun s k hk hI => by
  left
  obtain ⟨hI, hI0⟩ := hI
  have hk' : k < loans.length := by simpa using hk
  have hkr : k < (now.getD j []).length := by omega
  rw [List.getElem_range]
  refine ⟨_, rfl, ?_, (or1_up hI hn hj hk' _).1.ok, ?_⟩
  ·obtain ⟨a, r, b, e1, e2, e3, h1, h2, h3, h4⟩ := at3 hI hn hj hk'
   have hv : rowV s.1 behind[j] = now.getD j [] := by
    have := hB.val s.1 hI hI0
    have h5 := congrArg (fun l => l[j]?) this
    simp only [List.getElem?_map, List.getElem?_eq_getElem hjb, List.getElem?_eq_getElem hjr, Option.map_some, Option.some.injEq] at h5
    rw [h5, hjg]
   have hg : getI (rowV s.1 behind[j]) (k : Int) = some ((now.getD j []).getD k false) := by rw [hv]; exact getI_D hkr
   simp only [holdsM6, ofNat_lt_true hk', if_true, getI_at hjb, hg, getI_at hq, hqn, getI_of e1, getI_of e2, getI_of e3, Option.bind_some, Int.toNat_natCast, w64_nat hk' hK]
   unfold or1
   rw [h3, h4]
   cases (now.getD j []).getD k false <;> cases b <;> simp
  rcases hf with hf | hf
  ·rw [or1_keep hf]; exact hI0
  by_cases e : n = i
  ·subst e
   rw [(or1_up hI hn hj hk' _).2.2 fun e => by rw [is3_now (hI0.trans hf), e]]
   exact hI0
  rw [or1_keep e]; exact hI0) (fun s _ => by simp [holdsM6]) s ⟨h, h0⟩
 rw [foldE_inl] at this
 exact this
theorem updR_stay {W L K i : Nat} {t0 : Option Tab} {now : Tab} {n j : Nat} (hn : n < W) (hj : j < L) (hf : Far i t0 now n) {s : Tab3 × Bool} (h : T3Ok W L K s.1) (h0 : s.1[i]? = t0) : (updR K n j (now.getD j []) s).1[i]? = t0 := by
 by_cases e : n = i
 ·subst e
  rcases hf with hf | hf
  ·exact absurd rfl hf
  rw [updR_self hn hj h (h0.trans hf)]; exact h0
 rw [updR_keep e]; exact h0
theorem updT_stay {W L K i : Nat} {t0 : Option Tab} {now : Tab} {n : Nat} (hn : n < W) (hf : Far i t0 now n) {s : Tab3 × Bool} (h : T3Ok W L K s.1) (h0 : s.1[i]? = t0) : (updT L K n now s).1[i]? = t0 := by
 by_cases e : n = i
 ·subst e
  rcases hf with hf | hf
  ·exact absurd rfl hf
  rw [updT_self hn h (h0.trans hf)]; exact h0
 rw [updT_keep e]; exact h0
theorem m5_loop (c : GCode) (loans : List GLoan) {W i : Nat} {t0 : Option Tab} {behind : List Row} {now : Tab} (hB : Beh W c.Locals.length loans.length i t0 behind now) (hL : c.Locals.length ≤ 1048576) (hK : loans.length ≤ 1048576) {n : Nat} (hn : n < W) (nl : List Int) (q : Nat) (hq : q < nl.length) (hqn : nl[q] = n) (hf : Far i t0 now n) (s : Tab3 × Bool) (h : T3Ok W c.Locals.length loans.length s.1) (h0 : s.1[i]? = t0) :
  loopP (holdsM5 c loans behind nl q) (s.1, s.2, 0) = some (updT c.Locals.length loans.length n now s) := by
 have := loopP_fold (List.range c.Locals.length) (fun (s : Tab3 × Bool) k => (s.1, s.2, (k : Int))) (fun k s => T3Ok W c.Locals.length loans.length s.1 ∧ s.1[i]? = t0) (fun s j => .inl (updR loans.length n j (now.getD j []) s)) id (holdsM5 c loans behind nl q) (fun s j hj hI => by
  left
  obtain ⟨hI, hI0⟩ := hI
  have hj' : j < c.Locals.length := by simpa using hj
  rw [List.getElem_range]
  refine ⟨_, rfl, ?_, (updR_up hn hj' _ s hI).1.ok, updR_stay hn hj' hf hI hI0⟩
  simp only [holdsM5, ofNat_lt_true hj', if_true]
  rw [m6_loop loans hB hK hn hj' nl q hq hqn hf s hI hI0]
  simp only [Option.bind_some, w64_nat hj' hL]) (fun s _ => by simp [holdsM5]) s ⟨h, h0⟩
 rw [foldE_inl] at this
 exact this
theorem m4_loop (c : GCode) (loans : List GLoan) {W i : Nat} {t0 : Option Tab} {behind : List Row} {now : Tab} (hB : Beh W c.Locals.length loans.length i t0 behind now) (hL : c.Locals.length ≤ 1048576) (hK : loans.length ≤ 1048576) (nl : List Int) (hnl : nl.length ≤ 2) (hb : ∀ n ∈ nl, 0 ≤ n ∧ n < W) (hf : ∀ n ∈ nl, Far i t0 now n.toNat) (s : Tab3 × Bool) (h : T3Ok W c.Locals.length loans.length s.1) (h0 : s.1[i]? = t0) :
  loopP (holdsM4 c loans behind nl) (s.1, s.2, 0) = some (nl.foldl (fun s n => updT c.Locals.length loans.length n.toNat now s) s) := by
 have := loopP_fold nl (fun (s : Tab3 × Bool) k => (s.1, s.2, (k : Int))) (fun k s => T3Ok W c.Locals.length loans.length s.1 ∧ s.1[i]? = t0) (fun s n => .inl (updT c.Locals.length loans.length n.toNat now s)) id (holdsM4 c loans behind nl) (fun s k hk hI => by
  left
  obtain ⟨hI, hI0⟩ := hI
  obtain ⟨b0, b1⟩ := hb _ (List.getElem_mem hk)
  have hn : nl[k].toNat < W := by omega
  refine ⟨_, rfl, ?_, (updT_up hn _ s hI).1.ok, updT_stay hn (hf _ (List.getElem_mem hk)) hI hI0⟩
  have hne : nl[k] = ((nl[k].toNat : Nat) : Int) := by omega
  simp only [holdsM4, ofNat_lt_true hk, if_true]
  rw [m5_loop c loans hB hL hK hn nl k hk hne (hf _ (List.getElem_mem hk)) s hI hI0]
  simp only [Option.bind_some, w64_nat hk (show nl.length ≤ 1048576 by omega)]) (fun s _ => by simp [holdsM4]) s ⟨h, h0⟩
 rw [foldE_inl] at this
 exact this
theorem heldA_ok {L K : Nat} (loans : List GLoan) (i : Int) (x : GIns) (t : Tab) (hK : loans.length = K) (h : TabOk L K t) : TabOk L K (heldA (noR loans) (ownR loans i) x t) := by
 have hn : (noR loans).length = K := by simp [noR, hK]
 have ho : (ownR loans i).length = K := by simp [ownR, hK]
 refine ⟨(heldA_len _ _ _ _).trans h.len, ?_⟩
 have hS : ∀ (l : List Int) (t : Tab), (∀ r ∈ t, r.length = K) → ∀ r ∈ setAll (noR loans) l t, r.length = K := by
  intro l
  induction l with
  | nil => intro t ht; exact ht
  | cons a l ih =>
   intro t ht
   unfold setAll
   rw [List.foldl_cons]
   refine ih _ fun r hr => ?_
   rcases List.mem_or_eq_of_mem_set hr with h1 | h1
   ·exact ht r h1
   rw [h1]; exact hn
 have h1 : ∀ (t : Tab) (k : Nat) (v : List Bool), (∀ r ∈ t, r.length = K) → v.length = K → ∀ r ∈ t.set k v, r.length = K := fun t k v ht hv r hr => by
  rcases List.mem_or_eq_of_mem_set hr with h1 | h1
  ·exact ht r h1
  rw [h1]; exact hv
 unfold heldA
 split
 ·exact h1 _ _ _ h.row ho
 split
 ·split
  ·rename_i r hr
   exact h1 _ _ _ h.row (h.row r (List.mem_of_getElem? hr))
  exact h.row
 split
 ·split
  ·rename_i r hr
   exact h1 _ _ _ (h1 _ _ _ h.row hn) (h.row r (List.mem_of_getElem? hr))
  exact h.row
 split
 ·split
  ·exact h1 _ _ _ (hS _ _ h.row) hn
  exact hS _ _ h.row
 split
 ·exact h1 _ _ _ h.row hn
 exact h.row
def st3 (c : GCode) (loans : List GLoan) (reach : List Bool) (s : Tab3 × Bool) (i : Nat) : Tab3 × Bool := if reach[i]? = some true then (match c.Words[i]?, s.1[i]? with
 | some x, some t => (nextI c i).foldl (fun s n => updT c.Locals.length loans.length n.toNat (heldA (noR loans) (ownR loans i) x t) s) s
 | _, _ => s) else s
theorem st3_up {c : GCode} {loans : List GLoan} {reach : List Bool} {s : Tab3 × Bool} (h : T3Ok c.Words.length c.Locals.length loans.length s.1) {i : Nat} (hi : i < c.Words.length) : Up c.Words.length c.Locals.length loans.length s (st3 c loans reach s i) := by
 unfold st3
 split
 ·split
  ·exact updL_up _ _ s (nextI_ok c i hi) h
  exact .refl h
 exact .refl h
theorem jump_self {c : GCode} (hc : codeB c = true) {i : Nat} (hi : i < c.Words.length) (hm : (i : Int) ∈ nextI c i) (non own : List Bool) (t : Tab) : heldA non own c.Words[i] t = t := by
 have hop : c.Words[i].Op = 18 ∨ c.Words[i].Op = 19 := by
  unfold nextI at hm
  rw [List.getElem?_eq_getElem hi] at hm
  simp only [List.mem_filter] at hm
  have h1 := hm.1
  unfold rawNext at h1
  split at h1
  ·simp at h1
  split at h1
  ·rename_i h; exact .inl (by simpa using h)
  split at h1
  ·rename_i h; exact .inr (by simpa using h)
  simp at h1; omega
 unfold heldA
 rw [if_neg (by omega), if_neg (by omega), if_neg (by omega), if_neg (by omega), if_neg (show ¬ (c.Words[i].Op ≤ 14 ∨ c.Words[i].Op = 17) by omega)]
theorem impl_sweep3 (c : GCode) (hc : codeB c = true) (loans : List GLoan) (hK : loans.length ≤ 1000) (t : Tab3) (h : T3Ok c.Words.length c.Locals.length loans.length t) :
  loopP (impl_HoldsAt_l3 c loans (reachC c)) (t, false, 0) = some (.inl ((List.range c.Words.length).foldl (st3 c loans (reachC c)) (t, false))) := by
 obtain ⟨_, hl, _, ⟨hw1, hw2⟩, _, _, hwd⟩ := codeB_facts hc
 have := loopP_fold (List.range c.Words.length) (fun (s : Tab3 × Bool) k => (s.1, s.2, (k : Int))) (fun k s => T3Ok c.Words.length c.Locals.length loans.length s.1) (fun s i => .inl (st3 c loans (reachC c) s i)) (fun s => (Sum.inl s : (Tab3 × Bool) ⊕ Tab3)) (impl_HoldsAt_l3 c loans (reachC c)) (fun s k hk hI => by
  left
  have hk' : k < c.Words.length := by simpa using hk
  have hkr : k < (reachC c).length := by rw [reachC_len]; exact hk'
  have hkt : k < s.1.length := by rw [hI.len]; exact hk'
  rw [List.getElem_range]
  refine ⟨_, rfl, ?_, (st3_up hI hk').ok⟩
  simp only [impl_HoldsAt_l3, ofNat_lt_true hk', if_true, getI_at hk', getI_at hkr, getI_at hkt, Option.bind_some]
  have e : (if (!(reachC c)[k]) = true then some (s.1, s.2) else (impl_held c.Words[k] k loans s.1[k]).bind fun r54 => (impl_Next c k).bind fun r56 => loopP (impl_HoldsAt_l4 r54 r56) (s.1, s.2, 0)) = some (st3 c loans (reachC c) s k) := by
   unfold st3
   rw [List.getElem?_eq_getElem hkr, List.getElem?_eq_getElem hk', List.getElem?_eq_getElem hkt]
   cases hrk : (reachC c)[k]
   ·simp
   have hrl := hI.row _ (List.getElem_mem hkt)
   rw [impl_held_eq c.Words[k] k loans (by omega) _ _ (hwd _ (List.getElem_mem hk')) (by omega) s.1[k] hrl, impl_Next_eq c (by omega) k hk']
   simp only [Option.bind_some, Bool.not_true, Bool.false_eq_true, if_false, if_true]
   exact impl_next3 (by omega) (by omega) _ (nextI_len c k) (nextI_ok c k hk') _ (heldA_ok loans k _ _ rfl hrl) s hI
  rw [e]
  simp only [Option.bind_some, w64_nat hk' (by omega)]) (fun s _ => by simp [impl_HoldsAt_l3]) (t, false) h
 rw [foldE_inl] at this
 exact this
theorem spec_sweep3 (c : GCode) (hc : codeB c = true) (loans : List GLoan) (hK : loans.length ≤ 1000) (t : Tab3) (h : T3Ok c.Words.length c.Locals.length loans.length t) :
  loopP (holdsM3 c loans (reachC c)) (t, false, 0) = some ((List.range c.Words.length).foldl (st3 c loans (reachC c)) (t, false)) := by
 obtain ⟨_, hl, _, ⟨hw1, hw2⟩, _, _, hwd⟩ := codeB_facts hc
 have := loopP_fold (List.range c.Words.length) (fun (s : Tab3 × Bool) k => (s.1, s.2, (k : Int))) (fun k s => T3Ok c.Words.length c.Locals.length loans.length s.1) (fun s i => .inl (st3 c loans (reachC c) s i)) (fun s => s) (holdsM3 c loans (reachC c)) (fun s k hk hI => by
  left
  have hk' : k < c.Words.length := by simpa using hk
  have hkr : k < (reachC c).length := by rw [reachC_len]; exact hk'
  have hkt : k < s.1.length := by rw [hI.len]; exact hk'
  rw [List.getElem_range]
  refine ⟨_, rfl, ?_, (st3_up hI hk').ok⟩
  have hst : s.1[k]? = some s.1[k] := List.getElem?_eq_getElem hkt
  have hrl := hI.row _ (List.getElem_mem hkt)
  simp only [holdsM3, ofNat_lt_true hk', if_true, getI_at hk', getI_at hkr, getI_at hkt, Option.bind_some]
  unfold st3
  rw [List.getElem?_eq_getElem hkr, List.getElem?_eq_getElem hk', hst]
  cases hrk : (reachC c)[k]
  ·simp [w64_nat hk' (show c.Words.length ≤ 1048576 by omega)]
  have hrlen : (rowsAt s.1 k).length = c.Locals.length := by
   have := congrArg List.length (rowsAt_val hI hI hst hst)
   rw [List.length_map] at this
   rw [this]; exact hrl.len
  rw [spec_l15Behind_eq c.Words[k] k loans (by omega) _ _ (hwd _ (List.getElem_mem hk')) (by omega) _ hrlen, spec_Next_eq c (by omega) k hk']
  simp only [Option.bind_some, Bool.not_true, Bool.false_eq_true, if_false, if_true]
  have hB : Beh c.Words.length c.Locals.length loans.length k (some s.1[k]) (heldA (.row (noR loans)) (.row (ownR loans k)) c.Words[k] (rowsAt s.1 k)) (heldA (noR loans) (ownR loans k) c.Words[k] s.1[k]) :=
   ⟨(heldA_len _ _ _ _).trans hrlen, heldA_ok loans k _ _ rfl hrl, fun t' ht' h0' => by rw [heldA_map, rowsAt_val hI ht' hst h0']; rfl⟩
  have hm := m4_loop c loans hB (by omega) (by omega) (nextS c k) (nextS_len c k) (fun n hn => nextI_ok c k hk' n (mem_nextS.1 hn)) (fun n hn => by
   have hnI := mem_nextS.1 hn
   have hb := nextI_ok c k hk' n hnI
   by_cases e : n.toNat = k
   ·right
    have : n = (k : Int) := by omega
    subst this
    rw [jump_self hc hk' hnI]
   exact .inl e) s hI hst
  rw [hm, fold3_nextS c k _ _ hk' _ s hI]
  simp only [Option.bind_some, w64_nat hk' (show c.Words.length ≤ 1048576 by omega)]) (fun s _ => by simp [holdsM3]) (t, false) h
 rw [foldE_inl] at this
 exact this
end Go.OM
namespace Go.OM
def addLoan (c : GCode) (s : List GLoan) (i : Nat) : List GLoan := match c.Words[i]? with
 | some x => if x.Op = 6 ∨ x.Op = 7 then s ++ [⟨i, x.B, x.Op == 7⟩] else s
 | none => s
def loansC (c : GCode) : List GLoan := (List.range c.Words.length).foldl (addLoan c) []
theorem addLoan_len (c : GCode) (s : List GLoan) (i : Nat) : (addLoan c s i).length ≤ s.length + 1 := by
 unfold addLoan
 split
 ·split <;> simp
 omega
theorem loans_loop (c : GCode) (hw : c.Words.length ≤ 1000) (f : List GLoan × Int → Option ((List GLoan × Int) ⊕ List GLoan))
  (hf : ∀ (s : List GLoan) (k : Nat) (hk : k < c.Words.length), s.length ≤ k → f (s, k) = some (.inl (addLoan c s k, ((k + 1 : Nat) : Int)))) (he : ∀ s, f (s, c.Words.length) = some (.inr s)) : loopP f ([], 0) = some (loansC c) := by
 have := loopP_fold (List.range c.Words.length) (fun (s : List GLoan) k => (s, (k : Int))) (fun k s => s.length ≤ k) (fun s k => .inl (addLoan c s k)) id f (fun s k hk hI => by
  left
  have hk' : k < c.Words.length := by simpa using hk
  rw [List.getElem_range]
  refine ⟨_, rfl, hf s k hk' hI, ?_⟩
  have := addLoan_len c s k
  omega) (fun s _ => by simpa using he s) [] (by simp)
 rw [foldE_inl] at this
 exact this
theorem loan_step (c : GCode) (hw : c.Words.length ≤ 1000) (s : List GLoan) (k : Nat) (hk : k < c.Words.length) (hs : s.length ≤ k) :
  (Option.bind (if (c.Words[k].Op == 6) = true then some true else some (c.Words[k].Op == 7)) fun v => if v = true then (appI 24 s [(⟨k, c.Words[k].B, c.Words[k].Op == 7⟩ : GLoan)]).bind fun l24 => some (Sum.inl (l24, ((k + 1 : Nat) : Int))) else some (Sum.inl (s, ((k + 1 : Nat) : Int)))) = (some (.inl (addLoan c s k, ((k + 1 : Nat) : Int))) : Option ((List GLoan × Int) ⊕ List GLoan)) := by
 unfold addLoan
 rw [List.getElem?_eq_getElem hk]
 by_cases h6 : c.Words[k].Op = 6
 ·simp [h6, app1g (n := 24) (s := s) (e := (⟨(k : Int), c.Words[k].B, false⟩ : GLoan)) (show s.length ≤ 1048576 by omega) (by omega)]
 by_cases h7 : c.Words[k].Op = 7
 ·simp [h7, app1g (n := 24) (s := s) (e := (⟨(k : Int), c.Words[k].B, true⟩ : GLoan)) (show s.length ≤ 1048576 by omega) (by omega)]
 simp [h6, h7]
theorem impl_LoansOf_eq (c : GCode) (h : GCode.le 1048576 c) (hc : codeB c = true) : impl_LoansOf c = some (loansC c) := by
 obtain ⟨_, hl, _, ⟨hw1, hw2⟩, _, _, hwd⟩ := codeB_facts hc
 unfold impl_LoansOf
 rw [impl_CodeOk_eq c h]
 simp only [Option.bind_some, hc, Bool.not_true, Bool.false_eq_true, if_false]
 rw [loans_loop c (by omega) (impl_LoansOf_l1 c) (fun s k hk hs => by
  simp only [impl_LoansOf_l1, ofNat_lt_true hk, if_true, getI_at hk, Option.bind_some, w64_nat hk (show c.Words.length ≤ 1048576 by omega)]
  exact loan_step c (by omega) s k hk hs) (fun s => by simp [impl_LoansOf_l1])]
 rfl
theorem spec_LoansOf_eq (c : GCode) (h : GCode.le 1048576 c) (hc : codeB c = true) : spec_LoansOf c = some (loansC c) := by
 obtain ⟨_, hl, _, ⟨hw1, hw2⟩, _, _, hwd⟩ := codeB_facts hc
 unfold spec_LoansOf
 rw [spec_CodeOk_eq c h]
 simp only [Option.bind_some, hc, Bool.not_true, Bool.false_eq_true, if_false]
 rw [loans_loop c (by omega) (spec_LoansOf_l1 c) (fun s k hk hs => by
  simp only [spec_LoansOf_l1, ofNat_lt_true hk, if_true, getI_at hk, Option.bind_some, w64_nat hk (show c.Words.length ≤ 1048576 by omega)]
  exact loan_step c (by omega) s k hk hs) (fun s => by simp [spec_LoansOf_l1])]
 rfl
theorem loansC_len (c : GCode) : (loansC c).length ≤ c.Words.length := by
 unfold loansC
 have : ∀ (l : List Nat) (s : List GLoan), (l.foldl (addLoan c) s).length ≤ s.length + l.length := by
  intro l
  induction l with
  | nil => intro s; simp
  | cons a l ih => intro s; rw [List.foldl_cons]; have := ih (addLoan c s a); have := addLoan_len c s a; simp only [List.length_cons]; omega
 have := this (List.range c.Words.length) []
 simpa using this
def start3 (W L K : Nat) : Tab3 := List.replicate W (List.replicate L (List.replicate K false))
theorem start3_ok (W L K : Nat) : T3Ok W L K (start3 W L K) := ⟨by simp [start3], fun r hr => by rw [(List.mem_replicate.1 hr).2]; exact tab_rep L K false⟩
theorem rep3_loop (W L K : Nat) (hW : W ≤ 1000) (f : Tab3 × Int → Option ((Tab3 × Int) ⊕ Tab3)) (hf : ∀ (s : Tab3) (k : Nat), k < W → s.length = k → f (s, k) = some (.inl (s ++ [List.replicate L (List.replicate K false)], ((k + 1 : Nat) : Int)))) (he : ∀ s, f (s, W) = some (.inr s)) : loopP f ([], 0) = some (start3 W L K) := by
 have := loopP_fold (List.range W) (fun (s : Tab3) k => (s, (k : Int))) (fun k s => s.length = k) (fun s k => .inl (s ++ [List.replicate L (List.replicate K false)])) id f (fun s k hk hI => by
  left
  exact ⟨_, rfl, hf s k (by simpa using hk) hI, by simp [hI]⟩) (fun s _ => by simpa using he s) [] rfl
 rw [foldE_inl] at this
 have key : ∀ (l : List Nat) (s : Tab3), l.foldl (fun s _ => s ++ [List.replicate L (List.replicate K false)]) s = s ++ List.replicate l.length (List.replicate L (List.replicate K false)) := by
  intro l
  induction l with
  | nil => intro s; simp
  | cons a l ih => intro s; rw [List.foldl_cons, ih]; simp [List.replicate_succ]
 rw [key] at this
 simpa [start3] using this
theorem st3F_up {c : GCode} {loans : List GLoan} {reach : List Bool} : ∀ (l : List Nat) (s : Tab3 × Bool), (∀ i ∈ l, i < c.Words.length) → T3Ok c.Words.length c.Locals.length loans.length s.1 → Up c.Words.length c.Locals.length loans.length s (l.foldl (st3 c loans reach) s)
 | [], s, _, h => .refl h
 | n :: l, s, hb, h => by
  rw [List.foldl_cons]
  have h1 := st3_up (loans := loans) (reach := reach) h (hb n (by simp))
  exact h1.trans (st3F_up l _ (fun i hi => hb i (by simp [hi])) h1.ok)
theorem holds_main (c : GCode) (hc : codeB c = true) : ∃ T : Tab3, loopP (impl_HoldsAt_l2 c (loansC c) (reachC c)) (start3 c.Words.length c.Locals.length (loansC c).length, true) = some T ∧
  loopP (holdsM2 c (loansC c) (reachC c)) (start3 c.Words.length c.Locals.length (loansC c).length, true, 0) = some T ∧ T3Ok c.Words.length c.Locals.length (loansC c).length T := by
 obtain ⟨_, hl, _, ⟨hw1, hw2⟩, _⟩ := codeB_facts hc
 have hK := loansC_len c
 generalize hLo : loansC c = loans at *
 have hWL : c.Words.length * c.Locals.length ≤ 400 * 200 := Nat.mul_le_mul hw2 hl
 have hWLK : c.Words.length * (c.Locals.length * loans.length) ≤ 400 * (200 * 400) := Nat.mul_le_mul hw2 (Nat.mul_le_mul hl (by omega))
 have hWLK1 : c.Words.length * c.Locals.length * (loans.length + 1) = c.Words.length * (c.Locals.length * loans.length) + c.Words.length * c.Locals.length := by rw [Nat.mul_succ, Nat.mul_assoc]
 obtain ⟨T, T', h1, h2, h3, h4⟩ := loopP_sim (f := impl_HoldsAt_l2 c loans (reachC c)) (g := holdsM2 c loans (reachC c)) (fun (a : Tab3 × Bool) (b : Tab3 × Bool × Int) => ∃ r : Nat, b = (a.1, a.2, (r : Int)) ∧ T3Ok c.Words.length c.Locals.length loans.length a.1 ∧ (a.2 = true → r ≤ cnt3 a.1))
  (fun a => 2 * (c.Words.length * (c.Locals.length * loans.length) - cnt3 a.1) + if a.2 = true then 1 else 0) (fun r r' => r = r' ∧ T3Ok c.Words.length c.Locals.length loans.length r) (by
  rintro ⟨t, m⟩ b ⟨r, rfl, hok, hcr⟩
  simp only at hok hcr ⊢
  cases m with
  | false =>
   right
   exact ⟨t, t, by simp [impl_HoldsAt_l2], by simp [holdsM2], rfl, hok⟩
  | true =>
   left
   have hcr := hcr rfl
   have hcnt := cnt3_le hok
   have D := st3F_up (loans := loans) (reach := reachC c) (List.range c.Words.length) (t, false) (fun i hi => List.mem_range.1 hi) hok
   have d1 := D.le
   have d2 := D.lt
   have d3 := cnt3_le D.ok
   simp only [Bool.false_eq_true, false_or] at d1 d2
   generalize hsw : (List.range c.Words.length).foldl (st3 c loans (reachC c)) (t, false) = sw at *
   refine ⟨(sw.1, sw.2), (sw.1, sw.2, ((r + 1 : Nat) : Int)), ?_, ?_, ⟨r + 1, rfl, D.ok, fun h => ?_⟩, ?_⟩
   ·simp only [impl_HoldsAt_l2, if_true]
    rw [impl_sweep3 c hc loans (by omega) t hok, hsw]
   ·simp only [holdsM2, if_true]
    have hb : IntKind.wrap .i64 ((IntKind.wrap .i64 ((c.Words.length : Int) * (c.Locals.length : Int))) * (IntKind.wrap .i64 ((loans.length : Int) + 1))) = ((c.Words.length * c.Locals.length * (loans.length + 1) : Nat) : Int) := by
     rw [← Int.natCast_mul, w64 (n := ((c.Words.length * c.Locals.length : Nat) : Int)) (by omega) (by omega), w64 (n := (loans.length : Int) + 1) (by omega) (by omega), show ((loans.length : Int) + 1) = ((loans.length + 1 : Nat) : Int) by omega, ← Int.natCast_mul, w64 (by omega) (by omega)]
    rw [hb]
    have hle : decide ((r : Int) ≤ ((c.Words.length * c.Locals.length * (loans.length + 1) : Nat) : Int)) = true := by
     simp only [decide_eq_true_eq]
     omega
    simp only [hle, if_true]
    rw [spec_sweep3 c hc loans (by omega) t hok, hsw]
    simp only [Option.bind_some]
    rw [w64 (by omega) (by omega)]
    rfl
   ·have := d2 h
    simp only
    omega
   cases hf : sw.2 with
   | true =>
    have := d2 hf
    simp only [if_true]; omega
   | false => simp only [Bool.false_eq_true, if_false, if_true]; omega) (start3 c.Words.length c.Locals.length loans.length, true) (start3 c.Words.length c.Locals.length loans.length, true, 0) ⟨0, rfl, start3_ok _ _ _, fun _ => Nat.zero_le _⟩
 subst h3
 exact ⟨T, h1, h2, h4⟩
theorem holdsAt_main (c : GCode) (h : GCode.le 1048576 c) (hc : codeB c = true) : ∃ T : Tab3, impl_HoldsAt c = some T ∧ spec_l15Holds c (loansC c) (reachC c) = some T ∧ T3Ok c.Words.length c.Locals.length (loansC c).length T := by
 obtain ⟨T, h1, h2, h3⟩ := holds_main c hc
 obtain ⟨_, hl, _, ⟨hw1, hw2⟩, _⟩ := codeB_facts hc
 have hK := loansC_len c
 refine ⟨T, ?_, ?_, h3⟩
 ·unfold impl_HoldsAt
  rw [impl_CodeOk_eq c h]
  simp only [Option.bind_some, hc, Bool.not_true, Bool.false_eq_true, if_false, impl_LoansOf_eq c h hc]
  rw [rep3_loop c.Words.length c.Locals.length (loansC c).length (by omega) (impl_HoldsAt_l1 c (loansC c)) (fun s k hk hs => by
   simp only [impl_HoldsAt_l1, ofNat_lt_true hk, if_true]
   rw [impl_table_eq _ _ (by omega) (by omega)]
   simp only [Option.bind_some, app1g (n := 24) (show s.length ≤ 1048576 by omega) (by omega), w64_nat hk (show c.Words.length ≤ 1048576 by omega)]) (fun s => by simp [impl_HoldsAt_l1]), impl_ReachedWords_eq c h, if_pos hc]
  simp only [Option.bind_some]
  rw [h1]
  rfl
 unfold spec_l15Holds
 rw [rep3_loop c.Words.length c.Locals.length (loansC c).length (by omega) (holdsM1 c (loansC c)) (fun s k hk hs => by
  simp only [holdsM1, ofNat_lt_true hk, if_true]
  rw [spec_table_eq _ _ (by omega) (by omega)]
  simp only [Option.bind_some, app1g (n := 24) (show s.length ≤ 1048576 by omega) (by omega), w64_nat hk (show c.Words.length ≤ 1048576 by omega)]) (fun s => by simp [holdsM1])]
 simp only [Option.bind_some]
 exact h2
end Go.OM
namespace Go.OM
def rawReads (x : GIns) : List Int := if (2 ≤ x.Op ∧ x.Op ≤ 7) ∨ x.Op = 9 ∨ x.Op = 14 then [x.B] else if 10 ≤ x.Op ∧ x.Op ≤ 12 then [x.B, x.C] else if x.Op = 13 then x.Args else if x.Op = 15 then [x.A, x.B] else if x.Op = 16 ∨ x.Op = 19 ∨ (x.Op = 20 ∧ x.A ≠ -1) then [x.A] else []
def readsL (x : GIns) : List Int := (rawReads x).foldl addL []
theorem hasInt_eq (l : List Int) (n : Int) (hl : l.length ≤ 1048576) : impl_hasInt l n = some (l.contains n) := by
 unfold impl_hasInt
 rw [loopP_any l (fun e => e == n) (impl_hasInt_l1 l n) (fun k hk => by
  simp only [impl_hasInt_l1, ofNat_lt_true hk, if_true, getI_at hk, Option.bind_some, w64_nat hk hl]
  cases l[k] == n <;> rfl) (by simp [impl_hasInt_l1])]
 have : (l.any fun e => e == n) = l.contains n := by
  induction l with
  | nil => rfl
  | cons x l ih =>
   rw [List.any_cons, List.contains_cons, ih (by simp at hl; omega)]
   congr 1
   rw [Bool.eq_iff_iff, beq_iff_eq, beq_iff_eq]
   exact eq_comm
 rw [this]
 cases l.contains n <;> rfl
theorem foldAdd_len (q : List Int) : ∀ (s : List Int), (q.foldl addL s).length ≤ s.length + q.length := by
 induction q with
 | nil => intro s; simp
 | cons x q ih => intro s; rw [List.foldl_cons]; have := ih (addL s x); have := addL_len s x; simp only [List.length_cons]; omega
theorem reads_loop {ρ : Type} (l : List Int) (hl : l.length ≤ 1000000) (f : List Int × Int → Option ((List Int × Int) ⊕ ρ)) (fin : List Int → ρ)
  (hf : ∀ (s : List Int) (k : Nat) (hk : k < l.length), s.length ≤ k → f (s, k) = some (.inl (addL s l[k], ((k + 1 : Nat) : Int)))) (he : ∀ s, f (s, l.length) = some (.inr (fin s))) : loopP f ([], 0) = some (fin (l.foldl addL [])) := by
 have := loopP_fold l (fun (s : List Int) k => (s, (k : Int))) (fun k s => s.length ≤ k) (fun s e => .inl (addL s e)) fin f (fun s k hk hI => .inl ⟨_, rfl, hf s k hk hI, by have := addL_len s l[k]; omega⟩) (fun s _ => he s) [] (by simp)
 rw [foldE_inl] at this
 exact this
theorem rawReads_len (x : GIns) (hx : x.Args.length ≤ 1000) : (rawReads x).length ≤ 1000 := by
 unfold rawReads
 split
 ·simp
 split
 ·simp
 split
 ·exact hx
 split
 ·simp
 split <;> simp
theorem impl_Reads_eq (x : GIns) (hx : x.Args.length ≤ 1000) : impl_Reads x = some (readsL x) := by
 unfold impl_Reads
 have e : (Option.bind (
   (impl_in x.Op 2 7).bind fun r7 =>
   if r7 = true then
    some true
   else
    if (x.Op == 9) = true then
     some true
    else
     some (x.Op == 14)) fun v13 =>
  if v13 = true then
   some [x.B]
  else
   (impl_in x.Op 10 12).bind fun r16 =>
   if r16 = true then
    some [x.B, x.C]
   else
    if (x.Op == 13) = true then
     some x.Args
    else
     if (x.Op == 15) = true then
      some [x.A, x.B]
     else
      Option.bind (
       if (x.Op == 16) = true then
        some true
       else
        if (x.Op == 19) = true then
         some true
        else
         if (x.Op == 20) = true then
          some (x.A != (-1))
         else
          some false) fun v32 =>
      if v32 = true then
       some [x.A]
      else
       some []) = some (rawReads x) := by
  simp only [impl_in_eq, Option.bind_some, ite_some]
  congr 1
  unfold rawReads
  by_cases h1 : (2 ≤ x.Op ∧ x.Op ≤ 7) ∨ x.Op = 9 ∨ x.Op = 14
  ·rw [if_pos h1, if_pos]
   rcases h1 with h | h | h
   ·rw [if_pos (inB_iff.2 h)]
   ·simp [h]
   simp [h]
  rw [if_neg h1, if_neg]
  ·by_cases h2 : 10 ≤ x.Op ∧ x.Op ≤ 12
   ·rw [if_pos h2, if_pos (inB_iff.2 h2)]
   rw [if_neg h2, if_neg (fun h => h2 (inB_iff.1 h))]
   by_cases h3 : x.Op = 13
   ·simp [h3]
   by_cases h4 : x.Op = 15
   ·simp [h4]
   by_cases h5 : x.Op = 16
   ·simp [h5]
   by_cases h6 : x.Op = 19
   ·simp [h6]
   by_cases h7 : x.Op = 20
   ·simp [h7]
   simp [h3, h4, h5, h6, h7]
  rw [not_or, not_or] at h1
  rw [if_neg (fun h => h1.1 (inB_iff.1 h)), if_neg (by simpa using h1.2.1)]
  simpa using h1.2.2
 rw [e]
 simp only [Option.bind_some]
 rw [reads_loop (rawReads x) (by have := rawReads_len x hx; omega) (impl_Reads_l1 (rawReads x)) id (fun s k hk hs => by
  have hl := rawReads_len x hx
  simp only [impl_Reads_l1, ofNat_lt_true hk, if_true, getI_at hk, Option.bind_some, hasInt_eq s _ (by omega), app1g (n := 8) (show s.length ≤ 1048576 by omega) (by omega), w64_nat hk (by omega)]
  unfold addL
  cases s.contains (rawReads x)[k] <;> rfl) (fun s => by simp [impl_Reads_l1])]
 rfl
theorem spec_Reads_eq (x : GIns) (hx : x.Args.length ≤ 1000) : spec_Reads x = some (readsL x) := by
 unfold spec_Reads readsL
 have hn : ([] : List Int).length ≤ 1048576 := by simp
 have hn1 : ∀ a, (addL [] a).length ≤ 1048576 := fun a => by have := addL_len [] a; simp at this; omega
 have hl13 : x.Op = 13 → loopP (spec_Reads_l1 x) ([], 0) = some (x.Args.foldl addL []) := fun _ => reads_loop x.Args (by omega) (spec_Reads_l1 x) id (fun s k hk hs => by
  simp only [spec_Reads_l1, ofNat_lt_true hk, if_true, getI_at hk, Option.bind_some, spec_l11Add_eq s _ (by omega), w64_nat hk (by omega)]) (fun s => by simp [spec_Reads_l1])
 simp only [spec_l11Add_eq _ _ hn, spec_l11HasB_eq, spec_l11HasC_eq, Option.bind_some, spec_l11Add_eq _ _ (hn1 _)]
 unfold rawReads
 by_cases h15 : x.Op = 15
 ·simp [h15]
 by_cases h16 : x.Op = 16
 ·simp [h16]
 by_cases h19 : x.Op = 19
 ·simp [h19]
 by_cases h20 : x.Op = 20
 ·by_cases ha : x.A = -1
  ·simp [h20, ha]
  simp [h20, ha]
 by_cases h13 : x.Op = 13
 ·rw [hl13 h13]; simp [h13]
 have e1 : (x.Op == 15) = false := by simpa using h15
 have e2 : (x.Op == 16) = false := by simpa using h16
 have e3 : (x.Op == 19) = false := by simpa using h19
 have e4 : (x.Op == 20) = false := by simpa using h20
 have e5 : (x.Op == 13) = false := by simpa using h13
 simp only [e1, e2, e3, e4, e5, Bool.false_eq_true, if_false, Option.bind_some, h15, h16, h19, h20, h13, false_or, false_and]
 by_cases hb : (2 ≤ x.Op ∧ x.Op ≤ 7) ∨ x.Op = 9 ∨ x.Op = 14
 ·have hB : hasBB x.Op = true := by
   unfold hasBB
   simp only [Bool.or_eq_true, inB_iff, beq_iff_eq]; omega
  have hC : hasCB x.Op = false := by unfold hasCB; rw [inB_false]; omega
  rw [if_pos hb, hB, hC]; simp
 rw [if_neg hb]
 by_cases hc : 10 ≤ x.Op ∧ x.Op ≤ 12
 ·have hB : hasBB x.Op = true := by
   unfold hasBB
   simp only [Bool.or_eq_true, inB_iff, beq_iff_eq]; omega
  have hC : hasCB x.Op = true := by unfold hasCB; rw [inB_iff]; omega
  rw [if_pos hc, hB, hC]; simp
 have hB : hasBB x.Op = false := by
  rw [Bool.eq_false_iff]
  unfold hasBB
  simp only [Bool.or_eq_true, inB_iff, beq_iff_eq, ne_eq]; omega
 rw [if_neg hc, hB]; simp
theorem reads_bnd {n m : Nat} {x : GIns} (h : wordB n m x = true) : ∀ e ∈ readsL x, 0 ≤ e ∧ e < n := by
 intro e he
 unfold readsL at he
 rw [mem_foldl_addL] at he
 rcases he with he | he
 ·cases he
 obtain ⟨h0, hB, hC, hA, h13⟩ := wordB_facts h
 unfold rawReads at he
 split at he
 ·simp only [List.mem_singleton] at he; subst he; exact hB (by omega)
 split at he
 ·simp only [List.mem_cons, List.mem_nil_iff, or_false] at he
  rcases he with rfl | rfl
  ·exact hB (by omega)
  exact hC (by omega)
 split at he
 ·rename_i h; exact (h13 h).1 e he
 split at he
 ·rename_i h
  simp only [List.mem_cons, List.mem_nil_iff, or_false] at he
  rcases he with rfl | rfl
  ·rcases hA (by omega) with ⟨h5, _⟩ | h5
   ·omega
   exact h5
  exact hB (by omega)
 split at he
 ·rename_i h
  simp only [List.mem_singleton] at he
  subst he
  rcases hA (by omega) with ⟨h5, h6⟩ | h5
  ·omega
  exact h5
 cases he
theorem word_args {n m : Nat} {x : GIns} (h : wordB n m x = true) : x.Args.length ≤ 1000 := by
 unfold wordB restB at h
 simp only [Bool.and_eq_true] at h
 have h6 := h.2.2.2.2.2
 split at h6
 ·simp only [Bool.and_eq_true, beq_iff_eq] at h6; omega
 simp only [Bool.and_eq_true, decide_eq_true_eq] at h6; omega
end Go.OM
namespace Go.OM
def atT (t : Tab) (n k : Nat) : Bool := ((t[n]?).bind fun r => r[k]?).getD false
def wrB (x : GIns) : Int := if inB x.Op 1 14 = true then x.A else -1
def orS (i : Nat) (W : Nat → Bool) (s : Tab × Bool) : Tab × Bool := match s.1[i]? with
 | some row => (s.1.set i (row.mapIdx fun k b => b || W k), s.2 || decide (row.mapIdx (fun k b => b || W k) ≠ row))
 | none => s
structure Ri (W L : Nat) (s s' : Tab × Bool) : Prop where
 ok : TabOk W L s'.1
 le : cntT s.1 ≤ cntT s'.1
 lt : s'.2 = true → s.2 = true ∨ cntT s.1 < cntT s'.1
theorem Ri.refl {W L : Nat} {s : Tab × Bool} (h : TabOk W L s.1) : Ri W L s s := ⟨h, Nat.le_refl _, .inl⟩
theorem Ri.trans {W L : Nat} {s s' s2 : Tab × Bool} (h : Ri W L s s') (h2 : Ri W L s' s2) : Ri W L s s2 :=
 ⟨h2.ok, Nat.le_trans h.le h2.le, fun e => by
  rcases h2.lt e with e | e
  ·rcases h.lt e with e | e
   ·exact .inl e
   exact .inr (Nat.lt_of_lt_of_le e h2.le)
  exact .inr (Nat.lt_of_le_of_lt h.le e)⟩
theorem orS_ri {W L : Nat} {s : Tab × Bool} (h : TabOk W L s.1) (i : Nat) (V : Nat → Bool) : Ri W L s (orS i V s) := by
 unfold orS
 split
 ·rename_i row hr
  have hrl := h.row row (List.mem_of_getElem? hr)
  have hd := cntR_up row (fun k b => b || V k) (fun k => rfl)
  have hs := cntT_set (r := row.mapIdx fun k b => b || V k) hr
  refine ⟨h.set _ (by simpa using hrl), by simp only; omega, fun e => ?_⟩
  simp only [Bool.or_eq_true, decide_eq_true_eq] at e
  rcases e with e | e
  ·exact .inl e
  right
  have := hd.2 e
  simp only; omega
 exact .refl h
theorem mapIdx_or2 (row : List Bool) (V U : Nat → Bool) : (row.mapIdx fun k b => b || V k).mapIdx (fun k b => b || U k) = row.mapIdx fun k b => b || (V k || U k) := by
 apply List.ext_getElem?
 intro j
 simp only [List.getElem?_mapIdx]
 cases row[j]? with
 | none => rfl
 | some b => simp [Bool.or_assoc]
theorem mapIdx_or_self (row : List Bool) (V : Nat → Bool) (h : ∀ k, row[k]? = some false → V k = false) : (row.mapIdx fun k b => b || V k) = row := by
 apply List.ext_getElem?
 intro j
 simp only [List.getElem?_mapIdx]
 cases e : row[j]? with
 | none => rfl
 | some b =>
  cases b with
  | true => rfl
  | false => simp [h j e]
theorem mapIdx_or_eq {row : List Bool} {V : Nat → Bool} (h : (row.mapIdx fun k b => b || V k) = row) : ∀ k, row[k]? = some false → V k = false := fun k hk => by
 have := congrArg (fun l => l[k]?) h
 simp only [List.getElem?_mapIdx, hk, Option.map_some, Bool.false_or, Option.some.injEq] at this
 exact this
theorem orS_orS (i : Nat) (V U : Nat → Bool) (s : Tab × Bool) : orS i U (orS i V s) = orS i (fun k => V k || U k) s := by
 unfold orS
 cases h : s.1[i]? with
 | none => simp only [h]
 | some row =>
  have hi := (List.getElem?_eq_some_iff.1 h).1
  simp only [List.getElem?_set_self hi, mapIdx_or2, List.set_set, Prod.mk.injEq, true_and]
  rw [Bool.eq_iff_iff]
  simp only [Bool.or_eq_true, decide_eq_true_eq]
  constructor
  ·rintro ((h1 | h1) | h1)
   ·exact .inl h1
   ·right
    intro h2
    have := mapIdx_or_eq h2
    exact h1 (mapIdx_or_self row V fun k hk => by have := this k hk; simp only [Bool.or_eq_false_iff] at this; exact this.1)
   right
   intro h2
   have h3 := mapIdx_or_eq h2
   have h4 := mapIdx_or_self row V fun k hk => by have := h3 k hk; simp only [Bool.or_eq_false_iff] at this; exact this.1
   exact h1 (by rw [h2, h4])
  rintro (h1 | h1)
  ·exact .inl (.inl h1)
  by_cases h4 : (row.mapIdx fun k b => b || V k) = row
  ·right; rw [h4]; exact h1
  exact .inl (.inr h4)
theorem orS_none (i : Nat) (s : Tab × Bool) : orS i (fun _ => false) s = s := by
 unfold orS
 cases h : s.1[i]? with
 | none => rfl
 | some row =>
  have e : (row.mapIdx fun k b => b || false) = row := mapIdx_or_self row _ fun _ _ => rfl
  have hs : s.1.set i row = s.1 := by
   apply List.ext_getElem?
   intro j
   rw [List.getElem?_set]
   by_cases hj : i = j
   ·subst hj; rw [if_pos rfl, if_pos (List.getElem?_eq_some_iff.1 h).1, h]
   rw [if_neg hj]
  simp only [e, hs]
  simp
theorem orS_keep {i n : Nat} (h : i ≠ n) (V : Nat → Bool) (s : Tab × Bool) : (orS i V s).1[n]? = s.1[n]? := by
 unfold orS
 split
 ·simp only [List.getElem?_set_ne h]
 rfl
theorem orS_congr {i : Nat} {V U : Nat → Bool} (h : ∀ k, V k = U k) (s : Tab × Bool) : orS i V s = orS i U s := by rw [show V = U from funext h]
def nxW (x : GIns) (t : Tab) (i : Nat) (n : Int) (k : Nat) : Bool := !(n == (i : Int)) && (!((k : Int) == wrB x) && atT t n.toNat k)
def liveW (c : GCode) (t : Tab) (i : Nat) (x : GIns) (k : Nat) : Bool := (nextI c i).any (fun n => nxW x t i n k) || (readsL x).contains (k : Int)
def liveS (c : GCode) (s : Tab × Bool) (i : Nat) : Tab × Bool := match c.Words[i]? with
 | some x => orS i (liveW c s.1 i x) s
 | none => s
theorem liveS_ri {c : GCode} {W L : Nat} {s : Tab × Bool} (h : TabOk W L s.1) (i : Nat) : Ri W L s (liveS c s i) := by
 unfold liveS
 split
 ·exact orS_ri h i _
 exact .refl h
theorem liveF_ri {c : GCode} {W L : Nat} : ∀ (l : List Nat) {s : Tab × Bool}, TabOk W L s.1 → Ri W L s (l.foldl (liveS c) s)
 | [], s, h => .refl h
 | n :: l, s, h => by
  rw [List.foldl_cons]
  have h1 := liveS_ri (c := c) h n
  exact h1.trans (liveF_ri l h1.ok)
theorem at_get {W L : Nat} {t : Tab} (h : TabOk W L t) {n : Int} (h0 : 0 ≤ n) (h1 : n < W) {k : Nat} (hk : k < L) : ∃ r b, getI t n = some r ∧ getI r (k : Int) = some b ∧ atT t n.toNat k = b ∧ t[n.toNat]? = some r ∧ r.length = L := by
 have hn : n.toNat < t.length := by rw [h.len]; omega
 have hrl := h.row _ (List.getElem_mem hn)
 have hkr : k < (t[n.toNat]).length := by omega
 refine ⟨t[n.toNat], (t[n.toNat])[k], getI_in h0 (by rw [h.len]; exact h1), getI_at hkr, ?_, List.getElem?_eq_getElem hn, hrl⟩
 simp [atT, List.getElem?_eq_getElem hn, List.getElem?_eq_getElem hkr]
theorem foldl_or {α : Type} (p : α → Bool) : ∀ (l : List α) (b : Bool), l.foldl (fun b x => if b = true then true else p x) b = (b || l.any p)
 | [], b => by simp
 | x :: l, b => by
  rw [List.foldl_cons, foldl_or p l, List.any_cons]
  cases b <;> simp
theorem live4_loop (c : GCode) (x : GIns) {W L : Nat} (t : Tab) (h : TabOk W L t) {k : Nat} (hk : k < L) (nl : List Int) (hnl : nl.length ≤ 2) (hb : ∀ n ∈ nl, 0 ≤ n ∧ n < W) (b : Bool) : loopP (impl_LiveAt_l4 x t k nl) (b, 0) = some (b || nl.any fun n => !((k : Int) == wrB x) && atT t n.toNat k) := by
 have := loopP_fold nl (fun (s : Bool) k => (s, (k : Int))) (fun _ _ => True) (fun b n => .inl (if b = true then true else (!((k : Int) == wrB x) && atT t n.toNat k))) (fun b => b) (impl_LiveAt_l4 x t k nl) (fun b q hq _ => by
  left
  obtain ⟨b0, b1⟩ := hb _ (List.getElem_mem hq)
  obtain ⟨r, v, e1, e2, e3, _, _⟩ := at_get h b0 b1 hk
  refine ⟨_, rfl, ?_, trivial⟩
  simp only [impl_LiveAt_l4, ofNat_lt_true hq, if_true, getI_at hq, Option.bind_some, impl_Writes_eq, e1, e2, e3, w64_nat hq (by omega)]
  cases b with
  | true => simp
  | false =>
   simp only [Bool.false_eq_true, if_false]
   have hw : ((if inB x.Op 1 14 = true then x.A else -1) != (k : Int)) = !((k : Int) == wrB x) := by
    unfold wrB
    rw [bne]
    congr 1
    rw [Bool.eq_iff_iff, beq_iff_eq, beq_iff_eq]
    exact eq_comm
   rw [hw]
   cases ((k : Int) == wrB x) <;> simp) (fun b _ => by simp [impl_LiveAt_l4]) b trivial
 rw [foldE_inl, foldl_or] at this
 exact this
theorem set_at {t : Tab} {i n k : Nat} (hi : i < t.length) {r : List Bool} : atT (t.set i r) n k = if n = i then (r[k]?).getD false else atT t n k := by
 unfold atT
 by_cases h : n = i
 ·subst h; rw [if_pos rfl, List.getElem?_set_self hi]; rfl
 rw [if_neg h, List.getElem?_set_ne (Ne.symm h)]
theorem impl_live_row (c : GCode) (hc : codeB c = true) (s : Tab × Bool) (h : TabOk c.Words.length c.Locals.length s.1) (i : Nat) (hi : i < c.Words.length) : loopP (impl_LiveAt_l3 c i c.Words[i]) (s.1, s.2, 0) = some (liveS c s i) := by
 obtain ⟨_, hl, _, ⟨hw1, hw2⟩, _, _, hwd⟩ := codeB_facts hc
 have hx := hwd _ (List.getElem_mem hi)
 have hil : i < s.1.length := by rw [h.len]; exact hi
 have hrow : s.1[i]? = some s.1[i] := List.getElem?_eq_getElem hil
 have hrl := h.row _ (List.getElem_mem hil)
 have hrd : (readsL c.Words[i]).length ≤ 1048576 := by
  have := rawReads_len c.Words[i] (word_args hx)
  have := foldAdd_len (rawReads c.Words[i]) []
  unfold readsL; simp at *; omega
 rw [rowU_loop s.1 i c.Locals.length hil _ hrow hrl (fun k b => b || liveW c s.1 i c.Words[i] k) (impl_LiveAt_l3 c i c.Words[i]) (fun o m => (o, m)) (fun r m k hk hr => by
  have hkL : k < c.Locals.length := by omega
  have hok : TabOk c.Words.length c.Locals.length (s.1.set i r) := h.set i hr
  have hg : getI (s.1.set i r) (i : Int) = some r := getI_set_self hil
  simp only [impl_LiveAt_l3, ofNat_lt_true hkL, if_true, impl_Reads_eq _ (word_args hx), Option.bind_some, hasInt_eq _ _ hrd, impl_Next_eq c (by omega) i hi, live4_loop c _ _ hok hkL _ (nextI_len c i) (nextI_ok c i hi), hg, getI_at hk, bindS_def, Int.toNat_natCast, List.set_set, w64_nat hkL (show c.Locals.length ≤ 1048576 by omega)]
  cases hrk : r[k] with
  | true => simp
  | false =>
   have e : ((readsL c.Words[i]).contains (k : Int) || (nextI c i).any fun n => !((k : Int) == wrB c.Words[i]) && atT (s.1.set i r) n.toNat k) = liveW c s.1 i c.Words[i] k := by
    unfold liveW
    rw [Bool.or_comm]
    congr 1
    rw [Bool.eq_iff_iff]
    simp only [List.any_eq_true]
    constructor
    ·rintro ⟨n, hn, hv⟩
     refine ⟨n, hn, ?_⟩
     have hb := nextI_ok c i hi n hn
     rw [set_at hil] at hv
     unfold nxW
     by_cases e : n.toNat = i
     ·rw [if_pos e, List.getElem?_eq_getElem hk, hrk] at hv; simp at hv
     rw [if_neg e] at hv
     have : (n == (i : Int)) = false := by simp; omega
     rw [this]; simpa using hv
    rintro ⟨n, hn, hv⟩
    refine ⟨n, hn, ?_⟩
    have hb := nextI_ok c i hi n hn
    unfold nxW at hv
    simp only [Bool.and_eq_true, Bool.not_eq_true', beq_eq_false_iff_ne] at hv
    rw [set_at hil, if_neg (by omega)]
    simp only [Bool.and_eq_true, Bool.not_eq_true', beq_eq_false_iff_ne]
    exact ⟨hv.2.1, hv.2.2⟩
   rw [e]
   cases liveW c s.1 i c.Words[i] k <;> simp) (fun r m hr => by simp [impl_LiveAt_l3]) s.2]
 unfold liveS orS
 rw [List.getElem?_eq_getElem hi]
 simp only [hrow]
theorem spec_live4 (c : GCode) (hl : c.Locals.length ≤ 1000) {W : Nat} (s : Tab × Bool) (h : TabOk W c.Locals.length s.1) (x : GIns) (i : Nat) (hi : i < W) (nl : List Int) (q : Nat) (hq : q < nl.length) (h0 : 0 ≤ nl[q]) (h1 : nl[q] < W) : loopP (spec_l14Live_l4 c i (wrB x) nl q) (s.1, s.2, 0) = some (orS i (nxW x s.1 i nl[q]) s) := by
 have hil : i < s.1.length := by rw [h.len]; exact hi
 have hrow : s.1[i]? = some s.1[i] := List.getElem?_eq_getElem hil
 have hrl := h.row _ (List.getElem_mem hil)
 rw [rowU_loop s.1 i c.Locals.length hil _ hrow hrl (fun k b => b || nxW x s.1 i nl[q] k) (spec_l14Live_l4 c i (wrB x) nl q) (fun o m => (o, m)) (fun r m k hk hr => by
  have hkL : k < c.Locals.length := by omega
  have hok : TabOk W c.Locals.length (s.1.set i r) := h.set i hr
  have hg : getI (s.1.set i r) (i : Int) = some r := getI_set_self hil
  obtain ⟨r', v, e1, e2, e3, _, _⟩ := at_get hok h0 h1 hkL
  simp only [spec_l14Live_l4, ofNat_lt_true hkL, if_true, getI_at hq, Option.bind_some, e1, e2, hg, getI_at hk, bindS_def, Int.toNat_natCast, List.set_set, w64_nat hkL (show c.Locals.length ≤ 1048576 by omega)]
  rw [set_at hil] at e3
  unfold nxW
  by_cases e : nl[q].toNat = i
  ·have h5 : (nl[q] == (i : Int)) = true := by simp; omega
   rw [if_pos e, List.getElem?_eq_getElem hk] at e3
   simp only [Option.getD_some] at e3
   rw [h5, ← e3]
   cases hrk : r[k] <;> simp [bne]
  have h5 : (nl[q] == (i : Int)) = false := by simp; omega
  rw [if_neg e] at e3
  rw [h5, e3]
  cases v <;> cases hrk : r[k] <;> cases hw : ((k : Int) == wrB x) <;> simp [bne, hw]) (fun r m hr => by simp [spec_l14Live_l4]) s.2]
 unfold orS
 simp only [hrow]
theorem nxW_keep {x : GIns} {t t' : Tab} {i : Nat} {n : Int} (h0 : 0 ≤ n) (h : n ≠ i → t'[n.toNat]? = t[n.toNat]?) (k : Nat) : nxW x t' i n k = nxW x t i n k := by
 unfold nxW
 by_cases e : n = i
 ·have : (n == (i : Int)) = true := by simp [e]
  rw [this]; rfl
 unfold atT; rw [h e]
theorem live_next_fold (x : GIns) (i : Nat) : ∀ (nl : List Int) (s : Tab × Bool), (∀ n ∈ nl, 0 ≤ n) → nl.foldl (fun s n => orS i (nxW x s.1 i n) s) s = orS i (fun k => nl.any fun n => nxW x s.1 i n k) s
 | [], s, _ => (orS_none i s).symm
 | n :: nl, s, h => by
  rw [List.foldl_cons, live_next_fold x i nl _ (fun m hm => h m (by simp [hm])), orS_orS]
  refine orS_congr (fun k => ?_) s
  rw [List.any_cons]
  congr 1
  have : ∀ m ∈ nl, nxW x (orS i (nxW x s.1 i n) s).1 i m k = nxW x s.1 i m k := fun m hm => nxW_keep (h m (by simp [hm])) (fun e => orS_keep (by have := h m (by simp [hm]); omega) _ s) k
  clear h
  induction nl with
  | nil => rfl
  | cons a nl ih => rw [List.any_cons, List.any_cons, this a (by simp), ih fun m hm => this m (by simp [hm])]
theorem spec_live3 (c : GCode) (hl : c.Locals.length ≤ 1000) {W : Nat} (s : Tab × Bool) (h : TabOk W c.Locals.length s.1) (x : GIns) (i : Nat) (hi : i < W) (nl : List Int) (hnl : nl.length ≤ 2) (hb : ∀ n ∈ nl, 0 ≤ n ∧ n < W) : loopP (spec_l14Live_l3 c i (wrB x) nl) (s.1, s.2, 0) = some (orS i (fun k => nl.any fun n => nxW x s.1 i n k) s) := by
 have := loopP_fold nl (fun (s : Tab × Bool) k => (s.1, s.2, (k : Int))) (fun _ s => TabOk W c.Locals.length s.1) (fun s n => .inl (orS i (nxW x s.1 i n) s)) id (spec_l14Live_l3 c i (wrB x) nl) (fun s q hq hI => by
  left
  obtain ⟨b0, b1⟩ := hb _ (List.getElem_mem hq)
  refine ⟨_, rfl, ?_, (orS_ri hI i _).ok⟩
  simp only [spec_l14Live_l3, ofNat_lt_true hq, if_true, spec_live4 c hl s hI x i hi nl q hq b0 b1, Option.bind_some, w64_nat hq (show nl.length ≤ 1048576 by omega)]) (fun s _ => by simp [spec_l14Live_l3]) s h
 rw [foldE_inl, live_next_fold x i nl s (fun n hn => (hb n hn).1)] at this
 exact this
theorem set_or (r : List Bool) (e : Nat) (he : e < r.length) : (r.mapIdx fun k b => b || ((k : Int) == (e : Int))) = r.set e true := by
  apply List.ext_getElem?
  intro j
  rw [List.getElem?_mapIdx, List.getElem?_set]
  by_cases h : e = j
  · subst h; rw [if_pos rfl, if_pos he, List.getElem?_eq_getElem he]; simp
  rw [if_neg h]
  cases r[j]? with
  | none => rfl
  | some b => have : ((j : Int) == (e : Int)) = false := by simp; omega
              simp [this]
theorem reads_any : ∀ (l : List Int) (k : Nat), (l.any fun e => (k : Int) == e) = l.contains (k : Int)
 | [], k => rfl
 | e :: l, k => by rw [List.any_cons, List.contains_cons, reads_any l k]
theorem live_read_fold (i : Nat) : ∀ (l : List Int) (s : Tab × Bool), l.foldl (fun s e => orS i (fun k => (k : Int) == e) s) s = orS i (fun k => l.any fun e => (k : Int) == e) s
 | [], s => (orS_none i s).symm
 | e :: l, s => by
  rw [List.foldl_cons, live_read_fold i l, orS_orS]
  exact orS_congr (fun k => by rw [List.any_cons]) s
theorem spec_live5 {W L : Nat} (s : Tab × Bool) (h : TabOk W L s.1) (i : Nat) (hi : i < W) (l : List Int) (hll : l.length ≤ 1048576) (hb : ∀ e ∈ l, 0 ≤ e ∧ e < L) : loopP (spec_l14Live_l5 i l) (s.1, s.2, 0) = some (orS i (fun k => l.contains (k : Int)) s) := by
 have := loopP_fold l (fun (s : Tab × Bool) k => (s.1, s.2, (k : Int))) (fun _ s => TabOk W L s.1) (fun s e => .inl (orS i (fun k => (k : Int) == e) s)) id (spec_l14Live_l5 i l) (fun s q hq hI => by
  left
  obtain ⟨b0, b1⟩ := hb _ (List.getElem_mem hq)
  refine ⟨_, rfl, ?_, (orS_ri hI i _).ok⟩
  have hil : i < s.1.length := by rw [hI.len]; exact hi
  have hrow : s.1[i]? = some s.1[i] := List.getElem?_eq_getElem hil
  have hrl := hI.row _ (List.getElem_mem hil)
  obtain ⟨e, he⟩ : ∃ e : Nat, l[q] = (e : Int) := ⟨l[q].toNat, by omega⟩
  have hel : e < (s.1[i]).length := by omega
  unfold orS
  simp only [hrow]
  rw [he, set_or _ e hel]
  simp only [spec_l14Live_l5, ofNat_lt_true hq, if_true, getI_at hil, getI_at hq, he, getI_at hel, Option.bind_some, bindS_def, Int.toNat_natCast, w64_nat hq hll]
  have hs : s.1.set i s.1[i] = s.1 := by simp
  cases hv : (s.1[i])[e] with
  | true =>
   have : (s.1[i]).set e true = s.1[i] := by
    apply List.ext_getElem?
    intro j
    rw [List.getElem?_set]
    by_cases h : e = j
    ·subst h; rw [if_pos rfl, if_pos hel, List.getElem?_eq_getElem hel, hv]
    rw [if_neg h]
   simp [this]
  | false =>
   have : (s.1[i]).set e true ≠ s.1[i] := fun h => by
    have := congrArg (fun l => l[e]?) h
    simp only [List.getElem?_set_self hel, List.getElem?_eq_getElem hel, hv] at this
    cases this
   simp [this]) (fun s _ => by simp [spec_l14Live_l5]) s h
 rw [foldE_inl, live_read_fold] at this
 rw [show (fun k => l.contains ((k : Nat) : Int)) = fun k : Nat => l.any fun e => (k : Int) == e from funext fun k => (reads_any l k).symm]
 exact this
theorem spec_live_row (c : GCode) (hc : codeB c = true) (s : Tab × Bool) (h : TabOk c.Words.length c.Locals.length s.1) (i : Nat) (hi : i < c.Words.length) :
  ((loopP (spec_l14Live_l3 c i (wrB c.Words[i]) (nextS c i)) (s.1, s.2, 0)).bind fun v => loopP (spec_l14Live_l5 i (readsL c.Words[i])) (v.1, v.2, 0)) = some (liveS c s i) := by
 obtain ⟨_, hl, _, ⟨hw1, hw2⟩, _, _, hwd⟩ := codeB_facts hc
 have hx := hwd _ (List.getElem_mem hi)
 have hrd : (readsL c.Words[i]).length ≤ 1048576 := by
  have := rawReads_len c.Words[i] (word_args hx)
  have := foldAdd_len (rawReads c.Words[i]) []
  unfold readsL; simp at *; omega
 rw [spec_live3 c (by omega) s h c.Words[i] i hi _ (nextS_len c i) (fun n hn => nextI_ok c i hi n (mem_nextS.1 hn))]
 simp only [Option.bind_some]
 rw [spec_live5 _ (orS_ri h i _).ok i hi _ hrd (reads_bnd hx), orS_orS]
 unfold liveS
 rw [List.getElem?_eq_getElem hi]
 congr 1
 refine orS_congr (fun k => ?_) s
 unfold liveW
 congr 1
 rw [Bool.eq_iff_iff]
 simp only [List.any_eq_true]
 exact ⟨fun ⟨n, hn, h⟩ => ⟨n, mem_nextS.1 hn, h⟩, fun ⟨n, hn, h⟩ => ⟨n, mem_nextS.2 hn, h⟩⟩
def liveO (c : GCode) (t : Tab) : Tab × Bool := (List.range c.Words.length).reverse.foldl (liveS c) (t, false)
theorem down_loop {ρ : Type} (c : GCode) (hw : c.Words.length ≤ 1000) (t : Tab) (h : TabOk c.Words.length c.Locals.length t) (f : Tab × Bool × Int → Option ((Tab × Bool × Int) ⊕ ρ)) (fin : Tab × Bool → ρ)
  (hf : ∀ (s : Tab × Bool) (i : Nat), i < c.Words.length → TabOk c.Words.length c.Locals.length s.1 → f (s.1, s.2, (i : Int)) = some (.inl ((liveS c s i).1, (liveS c s i).2, (i : Int) - 1))) (he : ∀ s : Tab × Bool, f (s.1, s.2, -1) = some (.inr (fin s))) :
  loopP f (t, false, (c.Words.length : Int) - 1) = some (fin (liveO c t)) := by
 have := loopP_fold (List.range c.Words.length).reverse (fun (s : Tab × Bool) k => (s.1, s.2, (c.Words.length : Int) - 1 - (k : Int))) (fun k s => TabOk c.Words.length c.Locals.length s.1) (fun s i => .inl (liveS c s i)) fin f (fun s k hk hI => by
  left
  have hk' : k < c.Words.length := by simpa using hk
  have hi : c.Words.length - 1 - k < c.Words.length := by omega
  have e : (List.range c.Words.length).reverse[k] = c.Words.length - 1 - k := by simp [List.getElem_reverse]
  rw [e]
  refine ⟨_, rfl, ?_, (liveS_ri hI _).ok⟩
  have h5 := hf s _ hi hI
  have e1 : ((c.Words.length - 1 - k : Nat) : Int) = (c.Words.length : Int) - 1 - (k : Int) := by omega
  rw [e1] at h5
  rw [h5]
  have e2 : (c.Words.length : Int) - 1 - (k : Int) - 1 = (c.Words.length : Int) - 1 - ((k + 1 : Nat) : Int) := by omega
  rw [e2]) (fun s _ => by
   have e : (c.Words.length : Int) - 1 - (((List.range c.Words.length).reverse.length : Nat) : Int) = -1 := by simp; omega
   rw [e]; exact he s) (t, false) h
 rw [foldE_inl] at this
 have e : (c.Words.length : Int) - 1 - ((0 : Nat) : Int) = (c.Words.length : Int) - 1 := by omega
 rw [e] at this
 exact this
theorem impl_live_sweep (c : GCode) (hc : codeB c = true) (t : Tab) (h : TabOk c.Words.length c.Locals.length t) : loopP (impl_LiveAt_l2 c) (t, false, (c.Words.length : Int) - 1) = some (.inl (liveO c t)) := by
 obtain ⟨_, hl, _, ⟨hw1, hw2⟩, _, _, hwd⟩ := codeB_facts hc
 refine down_loop c (by omega) t h (impl_LiveAt_l2 c) (fun s => .inl s) (fun s i hi hI => ?_) (fun s => by simp [impl_LiveAt_l2])
 have hge : decide ((i : Int) ≥ 0) = true := by simp
 simp only [impl_LiveAt_l2, hge, if_true, getI_at hi, Option.bind_some, impl_live_row c hc s hI i hi]
 rw [w64 (by omega) (by omega)]
theorem spec_live_sweep (c : GCode) (hc : codeB c = true) (t : Tab) (h : TabOk c.Words.length c.Locals.length t) : loopP (spec_l14Live_l2 c) (t, false, (c.Words.length : Int) - 1) = some (liveO c t) := by
 obtain ⟨_, hl, _, ⟨hw1, hw2⟩, _, _, hwd⟩ := codeB_facts hc
 refine down_loop c (by omega) t h (spec_l14Live_l2 c) id (fun s i hi hI => ?_) (fun s => by simp [spec_l14Live_l2])
 have hge : decide ((i : Int) ≥ 0) = true := by simp
 have hx := hwd _ (List.getElem_mem hi)
 have hr := spec_live_row c hc s hI i hi
 simp only [spec_l14Live_l2, hge, if_true, getI_at hi, Option.bind_some, spec_Writes_eq, spec_Next_eq c (show c.Words.length ≤ 1048576 by omega) i hi, spec_Reads_eq _ (word_args hx)]
 have e : (loopP (spec_l14Live_l3 c i (if inB c.Words[i].Op 1 14 = true then c.Words[i].A else -1) (nextS c i)) (s.1, s.2, 0)).bind (fun x => loopP (spec_l14Live_l5 i (readsL c.Words[i])) (x.1, x.2, 0)) = some (liveS c s i) := hr
 rw [e]
 simp only [Option.bind_some]
 rw [w64 (by omega) (by omega)]
theorem live_main (c : GCode) (h : GCode.le 1048576 c) (hc : codeB c = true) : ∃ T : Tab, impl_LiveAt c = some T ∧ spec_l14Live c = some T ∧ TabOk c.Words.length c.Locals.length T := by
 obtain ⟨_, hl, _, ⟨hw1, hw2⟩, _⟩ := codeB_facts hc
 have hWL : c.Words.length * c.Locals.length ≤ 400 * 200 := Nat.mul_le_mul hw2 hl
 have hW1 : IntKind.wrap .i64 ((c.Words.length : Int) - 1) = (c.Words.length : Int) - 1 := w64 (by omega) (by omega)
 obtain ⟨T, T', h1, h2, h3, h4⟩ := loopP_sim (f := impl_LiveAt_l1 c) (g := spec_l14Live_l1 c) (fun (a : Tab × Bool) (b : Tab × Bool × Int) => ∃ r : Nat, b = (a.1, a.2, (r : Int)) ∧ TabOk c.Words.length c.Locals.length a.1 ∧ (a.2 = true → r ≤ cntT a.1))
  (fun a => 2 * (c.Words.length * c.Locals.length - cntT a.1) + if a.2 = true then 1 else 0) (fun r r' => r = r' ∧ TabOk c.Words.length c.Locals.length r) (by
  rintro ⟨t, m⟩ b ⟨r, rfl, hok, hcr⟩
  simp only at hok hcr ⊢
  cases m with
  | false =>
   right
   exact ⟨t, t, by simp [impl_LiveAt_l1], by simp [spec_l14Live_l1], rfl, hok⟩
  | true =>
   left
   have hcr := hcr rfl
   have hcnt := cntT_le hok
   have D : Ri c.Words.length c.Locals.length (t, false) (liveO c t) := liveF_ri _ hok
   have d1 := D.le
   have d2 := D.lt
   have d3 := cntT_le D.ok
   simp only [Bool.false_eq_true, false_or] at d1 d2
   refine ⟨((liveO c t).1, (liveO c t).2), ((liveO c t).1, (liveO c t).2, ((r + 1 : Nat) : Int)), ?_, ?_, ⟨r + 1, rfl, D.ok, fun h => ?_⟩, ?_⟩
   ·simp only [impl_LiveAt_l1, if_true, hW1]
    rw [impl_live_sweep c hc t hok]
   ·simp only [spec_l14Live_l1, if_true, hW1]
    have hb : IntKind.wrap .i64 ((IntKind.wrap .i64 ((c.Words.length : Int) * (c.Locals.length : Int))) + 1) = ((c.Words.length * c.Locals.length + 1 : Nat) : Int) := by
     rw [← Int.natCast_mul, w64 (n := ((c.Words.length * c.Locals.length : Nat) : Int)) (by omega) (by omega), w64 (by omega) (by omega)]; omega
    rw [hb]
    have hle : decide ((r : Int) ≤ ((c.Words.length * c.Locals.length + 1 : Nat) : Int)) = true := by
     simp only [decide_eq_true_eq]; omega
    simp only [Option.bind_some, hle, if_true]
    rw [spec_live_sweep c hc t hok]
    simp only [Option.bind_some]
    rw [w64 (by omega) (by omega)]
    rfl
   ·have := d2 h
    simp only
    omega
   cases hf : (liveO c t).2 with
   | true =>
    have := d2 hf
    simp only [if_true]; omega
   | false => simp only [Bool.false_eq_true, if_false, if_true]; omega) (List.replicate c.Words.length (List.replicate c.Locals.length false), true) (List.replicate c.Words.length (List.replicate c.Locals.length false), true, 0) ⟨0, rfl, tab_rep _ _ _, fun _ => Nat.zero_le _⟩
 subst h3
 refine ⟨T, ?_, ?_, h4⟩
 ·unfold impl_LiveAt
  rw [impl_CodeOk_eq c h, impl_table_eq _ _ (by omega) (by omega)]
  simp only [Option.bind_some, hc, Bool.not_true, Bool.false_eq_true, if_false, h1]
 unfold spec_l14Live
 rw [spec_table_eq _ _ (by omega) (by omega)]
 simp only [Option.bind_some, h2]
end Go.OM
namespace Go.OM
theorem mapIdx_loop {ρ : Type} (u : Nat → Bool → Bool) (K : Nat) (f : List Bool × Int → Option ((List Bool × Int) ⊕ ρ)) (fin : List Bool → ρ)
  (hf : ∀ (r : List Bool) (k : Nat) (hk : k < r.length), r.length = K → f (r, k) = some (.inl (r.set k (u k r[k]), ((k + 1 : Nat) : Int)))) (he : ∀ r : List Bool, r.length = K → f (r, K) = some (.inr (fin r))) (r0 : List Bool) (h0 : r0.length = K) : loopP f (r0, 0) = some (fin (r0.mapIdx u)) := by
 have := loopP_fold (List.range K) (fun (r : List Bool) k => (r, (k : Int))) (fun k r => r = (r0.mapIdx u).take k ++ r0.drop k) (fun r k => .inl (setAt (r0.mapIdx u) r k)) fin f (fun r k hk hI => by
  left
  have hk' : k < K := by simpa using hk
  have hr : r.length = K := by rw [hI]; simp; omega
  have hrk : r[k]'(by omega) = r0[k]'(by omega) := by
   have h1 : r[k]? = r0[k]? := by
    rw [hI, List.getElem?_append_right (by simp; omega), List.getElem?_drop]
    congr 1
    simp; omega
   rw [List.getElem?_eq_getElem (by omega), List.getElem?_eq_getElem (by omega)] at h1
   exact Option.some.inj h1
  have hm : (r0.mapIdx u)[k]? = some (u k (r0[k]'(by omega))) := by rw [List.getElem?_mapIdx, List.getElem?_eq_getElem (by omega)]; rfl
  rw [List.getElem_range, setAt_some hm]
  refine ⟨_, rfl, by rw [hf r k (by omega) hr, hrk], ?_⟩
  apply List.ext_getElem?
  intro m
  rw [List.getElem?_set]
  by_cases e : k = m
  ·subst e
   rw [if_pos rfl, if_pos (by omega), List.getElem?_append_left (by simp; omega), List.getElem?_take, if_pos (by omega), hm]
  rw [if_neg e]
  conv => lhs; rw [hI]
  by_cases e2 : m < k
  ·rw [List.getElem?_append_left (by simp; omega), List.getElem?_append_left (by simp; omega), List.getElem?_take, List.getElem?_take, if_pos e2, if_pos (by omega)]
  ·rw [List.getElem?_append_right (by simp; omega), List.getElem?_append_right (by simp; omega), List.getElem?_drop, List.getElem?_drop]
   congr 1
   simp; omega) (fun r hI => by
  have hr : r.length = K := by rw [hI]; simp; omega
  simpa using he r hr) r0 (by simp)
 rw [foldE_inl] at this
 have h3 := fold_set (r0.mapIdx u) K r0 (by simp; omega) (by simp)
 rw [h3] at this
 rw [List.take_of_length_le (by simp; omega), List.drop_of_length_le (by omega), List.append_nil] at this
 exact this
def frcU (h : List Bool) (b : Bool) (k : Nat) (v : Bool) : Bool := v || (h.getD k false && b)
def frc (K : Nat) (holds : Tab) (live : List Bool) : List Bool := (List.range holds.length).foldl (fun out j => out.mapIdx (frcU (holds.getD j []) (live.getD j false))) (List.replicate K false)
theorem frc_len (K : Nat) (holds : Tab) (live : List Bool) : (frc K holds live).length = K := by
 unfold frc
 have : ∀ (l : List Nat) (o : List Bool), (l.foldl (fun out j => out.mapIdx (frcU (holds.getD j []) (live.getD j false))) o).length = o.length := by
  intro l
  induction l with
  | nil => intro o; rfl
  | cons a l ih => intro o; rw [List.foldl_cons, ih]; simp
 rw [this]; simp
theorem getD_at {α : Type} {l : List α} {j : Nat} {d : α} (h : j < l.length) : l.getD j d = l[j] := by simp [List.getD_eq_getElem?_getD, List.getElem?_eq_getElem h]
theorem force_loop {L K : Nat} (hL : L ≤ 1000) (holds : Tab) (hh : TabOk L K holds) (live : List Bool) (f : List Bool × Int → Option ((List Bool × Int) ⊕ List Bool))
  (hf : ∀ (o : List Bool) (j : Nat) (hj : j < L), o.length = K → f (o, j) = some (.inl (o.mapIdx (frcU (holds.getD j []) (live.getD j false)), ((j + 1 : Nat) : Int)))) (he : ∀ o, f (o, L) = some (.inr o)) : loopP f (List.replicate K false, 0) = some (frc K holds live) := by
 have := loopP_fold (List.range holds.length) (fun (r : List Bool) k => (r, (k : Int))) (fun _ r => r.length = K) (fun out j => .inl (out.mapIdx (frcU (holds.getD j []) (live.getD j false)))) id f (fun r k hk hI => by
  left
  rw [List.getElem_range]
  exact ⟨_, rfl, hf r k (by simpa [hh.len] using hk) hI, by simpa using hI⟩) (fun r _ => by simpa [hh.len] using he r) (List.replicate K false) (by simp)
 rw [foldE_inl] at this
 exact this
theorem impl_inForce_eq {L K : Nat} (hL : L ≤ 1000) (hK : K ≤ 1048576) (holds : Tab) (hh : TabOk L K holds) (live : List Bool) (hl : live.length = L) : impl_inForce holds live (K : Int) = some (frc K holds live) := by
 unfold impl_inForce
 rw [mkI_len _ _ _ (by omega) (by omega)]
 simp only [Option.bind_some]
 rw [force_loop hL holds hh live (impl_inForce_l1 holds live) (fun o j hj ho => by
  have hjh : j < holds.length := by rw [hh.len]; exact hj
  have hjl : j < live.length := by omega
  have hr := hh.row _ (List.getElem_mem hjh)
  simp only [impl_inForce_l1, hh.len, ofNat_lt_true hj, if_true, getI_at hjh, Option.bind_some]
  rw [mapIdx_loop (frcU (holds.getD j []) (live.getD j false)) K (impl_inForce_l2 live j holds[j]) id (fun r k hk hrk => by
   have hkh : k < (holds[j]).length := by omega
   simp only [impl_inForce_l2, ofNat_lt_true hkh, if_true, getI_at hkh, getI_at hk, getI_at hjl, Option.bind_some, bindS_def, Int.toNat_natCast, w64_nat hkh (by omega)]
   unfold frcU
   rw [getD_at hjh, getD_at hkh, getD_at hjl]
   cases r[k] <;> cases (holds[j])[k] <;> cases live[j] <;> rfl) (fun r hrk => by simp [impl_inForce_l2, hr]) o ho]
  simp only [Option.bind_some, id, w64_nat hj (show L ≤ 1048576 by omega)]) (fun o => by simp [impl_inForce_l1, hh.len])]
 rfl
theorem spec_l15Force_eq {L K : Nat} (hL : L ≤ 1000) (hK : K ≤ 1048576) (holds : Tab) (hh : TabOk L K holds) (live : List Bool) (hl : live.length = L) : spec_l15Force holds live (K : Int) = some (frc K holds live) := by
 unfold spec_l15Force
 rw [mkI_len _ _ _ (by omega) (by omega)]
 simp only [Option.bind_some]
 rw [force_loop hL holds hh live (spec_l15Force_l1 holds live (K : Int)) (fun o j hj ho => by
  have hjh : j < holds.length := by rw [hh.len]; exact hj
  have hjl : j < live.length := by omega
  have hr := hh.row _ (List.getElem_mem hjh)
  simp only [spec_l15Force_l1, hh.len, ofNat_lt_true hj, if_true]
  have hin : loopP (spec_l15Force_l2 holds live (K : Int) j) (o, 0) = some (o.mapIdx (frcU (holds.getD j []) (live.getD j false))) := by
   cases hv : live[j] with
   | false =>
    have e : o.mapIdx (frcU (holds.getD j []) (live.getD j false)) = o := by
     rw [getD_at hjl, hv]
     exact mapIdx_or_self o _ fun k _ => by simp
    rw [e, loopP_eq]
    have e2 : spec_l15Force_l2 holds live (K : Int) j (o, 0) = some (.inr o) := by
     simp only [spec_l15Force_l2, getI_at hjl, hv, Option.bind_some]
     cases decide ((0 : Int) < (K : Int)) <;> simp
    rw [e2]; rfl
   | true =>
    rw [mapIdx_loop (frcU (holds.getD j []) (live.getD j false)) K (spec_l15Force_l2 holds live (K : Int) j) id (fun r k hk hrk => by
     have hkh : k < (holds[j]).length := by omega
     have hkK : k < K := by omega
     simp only [spec_l15Force_l2, ofNat_lt_true hkK, if_true, getI_at hjl, hv, getI_at hk, getI_at hjh, getI_at hkh, Option.bind_some, bindS_def, Int.toNat_natCast, w64_nat hkK (by omega)]
     unfold frcU
     rw [getD_at hjh, getD_at hkh, getD_at hjl, hv]
     cases r[k] <;> cases (holds[j])[k] <;> rfl) (fun r hrk => by simp [spec_l15Force_l2]) o ho]
    rfl
  rw [hin]
  simp only [Option.bind_some, w64_nat hj (show L ≤ 1048576 by omega)]) (fun o => by simp [spec_l15Force_l1, hh.len])]
 rfl
def takesB (x : GIns) (m : Bool) : Int := if m = true then (if x.Op = 3 ∨ x.Op = 7 then x.B else if x.Op = 14 ∨ x.Op = 15 ∨ x.Op = 17 then x.A else -1) else (if x.Op = 4 ∨ x.Op = 5 ∨ x.Op = 6 then x.B else -1)
theorem op3 {x : GIns} (a : Int) {P : Prop} [Decidable P] : (if (x.Op == a) = true then some true else some (decide P)) = some (decide (x.Op = a ∨ P)) := by
 by_cases h : x.Op = a <;> simp [h]
theorem op3' {x : GIns} (a : Int) {P : Prop} [Decidable P] : (if (x.Op == a) = true then some (x.Op == a) else some (decide P)) = some (decide (x.Op = a ∨ P)) := by
 by_cases h : x.Op = a <;> simp [h]
theorem op2' {x : GIns} (a b : Int) : (if (x.Op == a) = true then some true else some (x.Op == b)) = some (decide (x.Op = a ∨ x.Op = b)) := by
 by_cases h : x.Op = a
 ·simp [h]
 by_cases h3 : x.Op = b <;> simp [h, h3]
theorem impl_Takes_eq (x : GIns) (m : Bool) : impl_Takes x m = some (takesB x m) := by
 unfold impl_Takes takesB
 cases m with
 | true =>
  simp only [Bool.not_true, Bool.false_eq_true, if_false, Option.bind_some, if_true, op2', op3]
  by_cases h : x.Op = 3 ∨ x.Op = 7
  ·simp [h]
  by_cases h2 : x.Op = 14 ∨ x.Op = 15 ∨ x.Op = 17 <;> simp [h, h2]
 | false =>
  simp only [Bool.not_false, if_true, op2', op3, Option.bind_some, Bool.false_eq_true, if_false]
  by_cases h : x.Op = 4 ∨ x.Op = 5 ∨ x.Op = 6 <;> simp [h]
theorem spec_Takes_eq (x : GIns) (m : Bool) : spec_Takes x m = some (takesB x m) := by
 unfold spec_Takes takesB
 cases m with
 | true =>
  simp only [if_true, op_or, op3', Option.bind_some]
  by_cases h : x.Op = 3 ∨ x.Op = 7
  ·simp [h]
  by_cases h2 : x.Op = 14 ∨ x.Op = 15 ∨ x.Op = 17 <;> simp [h, h2]
 | false =>
  simp only [Bool.false_eq_true, if_false, op_or, op3', Option.bind_some]
  by_cases h : x.Op = 4 ∨ x.Op = 5 ∨ x.Op = 6 <;> simp [h]
def lentK (loans : List GLoan) (x : GIns) (force : List Bool) (k : Nat) : Bool := force.getD k false && (match loans[k]? with
 | some l => (l.Of == takesB x true) || (l.Mut && (l.Of == takesB x false))
 | none => false)
noncomputable def lentI (c : GCode) (loans : List GLoan) (T : Tab3) (V : Tab) (i : Nat) : Bool := ((reachC c)[i]?).getD false && (match c.Words[i]? with
 | some x => (List.range loans.length).any (lentK loans x (frc loans.length (T.getD i []) (V.getD i [])))
 | none => false)
noncomputable def lentR (c : GCode) (loans : List GLoan) (T : Tab3) (V : Tab) : Int := match (List.range c.Words.length).findSome? (fun i => if lentI c loans T V i = true then some (i : Int) else none) with
 | some r => r
 | none => -1
theorem find_if {α ρ : Type} (p : α → Bool) (r : ρ) : ∀ (l : List α), l.findSome? (fun x => if p x = true then some r else none) = if l.any p = true then some r else none
 | [] => rfl
 | x :: l => by
  rw [List.findSome?_cons, find_if p r l, List.any_cons]
  cases p x <;> simp
theorem loans_scan {ρ : Type} (loans : List GLoan) (x : GIns) (force : List Bool) (r : ρ) (f : Int → Option (Int ⊕ (Unit ⊕ ρ))) (hf : ∀ k, k < loans.length → f (k : Int) = some (if lentK loans x force k = true then .inr (.inr r) else .inl ((k + 1 : Nat) : Int))) (he : f loans.length = some (.inr (.inl ()))) :
  loopP f 0 = some (if (List.range loans.length).any (lentK loans x force) = true then .inr r else .inl ()) := by
 rw [loopP_find (List.range loans.length) (fun k => if lentK loans x force k = true then some r else none) f (fun k hk => by
  rw [hf k (by simpa using hk), List.getElem_range]
  cases lentK loans x force k <;> rfl) (by simpa using he), find_if]
 cases (List.range loans.length).any (lentK loans x force) <;> rfl
theorem words_scan (c : GCode) (loans : List GLoan) (T : Tab3) (V : Tab) (f : Int → Option (Int ⊕ (Unit ⊕ Int))) (hf : ∀ i, i < c.Words.length → f (i : Int) = some (if lentI c loans T V i = true then .inr (.inr (i : Int)) else .inl ((i + 1 : Nat) : Int))) (he : f c.Words.length = some (.inr (.inl ()))) :
  (loopP f 0).bind (fun j => match j with | Sum.inr z => some z | Sum.inl () => some (-1)) = some (lentR c loans T V) := by
 rw [loopP_find (List.range c.Words.length) (fun i => if lentI c loans T V i = true then some (i : Int) else none) f (fun k hk => by
  rw [hf k (by simpa using hk), List.getElem_range]
  cases lentI c loans T V k <;> rfl) (by simpa using he)]
 unfold lentR
 cases (List.range c.Words.length).findSome? (fun i => if lentI c loans T V i = true then some (i : Int) else none) <;> rfl
theorem lent_main (c : GCode) (h : GCode.le 1048576 c) (hc : codeB c = true) : ∃ r, impl_Lent c = some r ∧ spec_Lent c = some r := by
 obtain ⟨T, t1, t2, t3⟩ := holdsAt_main c h hc
 obtain ⟨V, v1, v2, v3⟩ := live_main c h hc
 obtain ⟨_, hl, _, ⟨hw1, hw2⟩, _⟩ := codeB_facts hc
 have hK := loansC_len c
 refine ⟨lentR c (loansC c) T V, ?_, ?_⟩
 ·unfold impl_Lent
  rw [impl_CodeOk_eq c h]
  simp only [Option.bind_some, hc, Bool.not_true, Bool.false_eq_true, if_false, t1, v1, impl_LoansOf_eq c h hc, impl_ReachedWords_eq c h, if_true]
  refine words_scan c (loansC c) T V (impl_Lent_l1 c T V (loansC c) (reachC c)) (fun i hi => ?_) (by simp [impl_Lent_l1])
  have hir : i < (reachC c).length := by rw [reachC_len]; exact hi
  have hT : i < T.length := by rw [t3.len]; exact hi
  have hV : i < V.length := by rw [v3.len]; exact hi
  simp only [impl_Lent_l1, ofNat_lt_true hi, if_true, getI_at hi, getI_at hir, getI_at hT, getI_at hV, Option.bind_some, impl_inForce_eq (show c.Locals.length ≤ 1000 by omega) (show (loansC c).length ≤ 1048576 by omega) T[i] (t3.row _ (List.getElem_mem hT)) V[i] (v3.row _ (List.getElem_mem hV)), w64_nat hi (show c.Words.length ≤ 1048576 by omega)]
  unfold lentI
  rw [List.getElem?_eq_getElem hir, List.getElem?_eq_getElem hi, getD_at hT, getD_at hV]
  cases (reachC c)[i] with
  | false => simp
  | true =>
   simp only [Bool.not_true, Bool.false_eq_true, if_false, Option.getD_some, Bool.true_and]
   rw [loans_scan (loansC c) c.Words[i] (frc (loansC c).length T[i] V[i]) (Sum.inr (Sum.inr (i : Int)) : Int ⊕ (Unit ⊕ Int)) (impl_Lent_l2 (loansC c) i c.Words[i] (frc (loansC c).length T[i] V[i])) (fun k hk => by
    have hkf : k < (frc (loansC c).length T[i] V[i]).length := by rw [frc_len]; exact hk
    simp only [impl_Lent_l2, ofNat_lt_true hk, if_true, getI_at hk, getI_at hkf, Option.bind_some, impl_Takes_eq, w64_nat hk (show (loansC c).length ≤ 1048576 by omega)]
    unfold lentK
    rw [getD_at hkf, List.getElem?_eq_getElem hk]
    cases (frc (loansC c).length T[i] V[i])[k] with
    | false => simp
    | true =>
     simp only [if_true, Bool.true_and]
     cases ((loansC c)[k].Of == takesB c.Words[i] true) with
     | true => simp
     | false =>
      simp only [Bool.false_eq_true, if_false, Bool.false_or]
      cases (loansC c)[k].Mut with
      | false => simp
      | true => cases ((loansC c)[k].Of == takesB c.Words[i] false) <;> simp) (by simp [impl_Lent_l2])]
   simp only [Option.bind_some]
   cases (List.range (loansC c).length).any (lentK (loansC c) c.Words[i] (frc (loansC c).length T[i] V[i])) <;> rfl
 unfold spec_Lent
 rw [spec_CodeOk_eq c h]
 simp only [Option.bind_some, hc, Bool.not_true, Bool.false_eq_true, if_false, t2, v2, spec_LoansOf_eq c h hc, spec_l14Reached_eq c hc]
 refine words_scan c (loansC c) T V (spec_Lent_l1 c (loansC c) (reachC c) T V) (fun i hi => ?_) (by simp [spec_Lent_l1])
 have hir : i < (reachC c).length := by rw [reachC_len]; exact hi
 have hT : i < T.length := by rw [t3.len]; exact hi
 have hV : i < V.length := by rw [v3.len]; exact hi
 simp only [spec_Lent_l1, ofNat_lt_true hi, if_true, getI_at hi, getI_at hir, getI_at hT, getI_at hV, Option.bind_some, spec_l15Force_eq (show c.Locals.length ≤ 1000 by omega) (show (loansC c).length ≤ 1048576 by omega) T[i] (t3.row _ (List.getElem_mem hT)) V[i] (v3.row _ (List.getElem_mem hV)), w64_nat hi (show c.Words.length ≤ 1048576 by omega)]
 unfold lentI
 rw [List.getElem?_eq_getElem hir, List.getElem?_eq_getElem hi, getD_at hT, getD_at hV]
 cases (reachC c)[i] with
 | false => simp
 | true =>
  simp only [Bool.not_true, Bool.false_eq_true, if_false, Option.getD_some, Bool.true_and]
  rw [loans_scan (loansC c) c.Words[i] (frc (loansC c).length T[i] V[i]) (Sum.inr (Sum.inr (i : Int)) : Int ⊕ (Unit ⊕ Int)) (spec_Lent_l2 c (loansC c) i (frc (loansC c).length T[i] V[i])) (fun k hk => by
   have hkf : k < (frc (loansC c).length T[i] V[i]).length := by rw [frc_len]; exact hk
   simp only [spec_Lent_l2, ofNat_lt_true hk, if_true, getI_at hi, getI_at hk, getI_at hkf, Option.bind_some, spec_Takes_eq, w64_nat hk (show (loansC c).length ≤ 1048576 by omega)]
   unfold lentK
   rw [getD_at hkf, List.getElem?_eq_getElem hk]
   cases (frc (loansC c).length T[i] V[i])[k] with
   | false => simp
   | true =>
    simp only [if_true, Bool.true_and]
    cases ((loansC c)[k].Of == takesB c.Words[i] true) with
    | true => simp
    | false =>
     simp only [Bool.false_eq_true, if_false, Bool.false_or]
     cases (loansC c)[k].Mut with
     | false => simp
     | true => cases ((loansC c)[k].Of == takesB c.Words[i] false) <;> simp) (by simp [spec_Lent_l2])]
  simp only [Option.bind_some]
  cases (List.range (loansC c).length).any (lentK (loansC c) c.Words[i] (frc (loansC c).length T[i] V[i])) <;> rfl
theorem law_Lent (c : GCode) (hw : GCode.le maxLen c) : laws_FnExactLent c = some true := by
 unfold laws_FnExactLent
 obtain ⟨r, h1, h2, h3⟩ := laws_szCode_p c hw 1048576 (by omega) (by omega)
 rw [h1]
 simp only [Option.bind_some]
 by_cases hr : r < 0
 ·simp [hr]
 have hp := h3 (by omega)
 have hv : ∃ v, spec_Lent c = some v ∧ impl_Lent c = some v := by
  by_cases hc : codeB c = true
  ·obtain ⟨v, v1, v2⟩ := lent_main c hp hc
   exact ⟨v, v2, v1⟩
  refine ⟨-1, ?_, ?_⟩
  ·unfold spec_Lent
   rw [spec_CodeOk_eq c hp]
   simp [Bool.eq_false_iff.2 hc]
  unfold impl_Lent
  rw [impl_CodeOk_eq c hp]
  simp [Bool.eq_false_iff.2 hc]
 obtain ⟨v, hv1, hv2⟩ := hv
 simp [hr, laws_toCode_p c hp, hv1, hv2, laws_eqCode_p c c hp hp]
end Go.OM
