import Derived.Test.YtchcogjfmbfccaaDoorTB
import Derived.KernelRfl
set_option linter.unusedVariables false
set_option linter.unusedSimpArgs false
set_option maxHeartbeats 1000000
namespace Go.Proofs.T
open Go.OM
theorem res6 : Tryd.f6.results.toList = [.tmp 4] := rfl
theorem ent6 : Enters E.P 6 := enters_of Tryd.func6 (by simp [Tryd.f6]) rfl
theorem laws_FnExactFoldable_ok (aP1 : GProgram) (aK2 : Int) {r0 : Bool} (h : laws_FnExactFoldable aP1 aK2 = some r0) : Ok E 6 [.val (GProgram.enc false aP1), .val (vi aK2)] [vb r0] [] := by
  refine ok_of_body (fn := Tryd.f6) Tryd.func6 rfl (by simp [Tryd.f6]) fun C hN hP => ?_
  have hPB : ∀ l, pinK [] l = true → pinB C.pin l = true := pinB_of (by rw [hP]; rfl)
  have hN' : C.N = 31 := hN
  clear hN
  unfold laws_FnExactFoldable at h
  refine SWp.seqR rfl (hPB _ rfl) fun K hK => ?_
  iterate 2 (refine wps_cons rfl fun K hK => ?_; simp [hN']; refine hK _ ?_; clear hK)
  refine wps_nil (hK _ ?_); clear hK
  refine SWp.seqR rfl (hPB _ rfl) fun K hK => ?_
  refine wps_cons rfl fun K hK => ?_; simp [hN']; refine hK _ ?_; clear hK
  refine wps_nil (hK _ ?_); clear hK
  refine SWp.seqR rfl (hPB _ rfl) fun K hK => ?_
  iterate 2 (refine wps_cons rfl fun K hK => ?_; simp [hN']; refine hK _ ?_; clear hK)
  obtain ⟨r3, hc4, h⟩ := bind_some h
  refine wps_call [(.take, .tmp 9), (.take, .tmp 10)] rfl rfl ent22 (laws_szProgram_ok _ _ hc4) fun K hK => ?_; simp [hN']; refine hK _ ?_; clear hK
  refine wps_cons rfl fun K hK => ?_; simp [hN']; refine hK _ ?_; clear hK
  refine wps_nil (hK _ ?_); clear hK
  refine SWp.seq ?_
  refine SWp.seqR rfl (hPB _ rfl) fun K hK => ?_
  iterate 2 (refine wps_cons rfl fun K hK => ?_; simp [hN']; refine hK _ ?_; clear hK)
  refine wps_nil (hK _ ?_); clear hK
  rcases ite_or h with ⟨hb5, h⟩ | ⟨hb6, h⟩
  · refine SWp.condT' (b := decide (r3 < 0)) (by simp) hb5 ?_
    refine SWp.seqR rfl (hPB _ rfl) fun K hK => ?_
    refine wps_cons rfl fun K hK => ?_; simp [hN']; refine hK _ ?_; clear hK
    refine wps_nil (hK _ ?_); clear hK
    cases h
    refine SWp.ret ?_
    simp [thenS, inBlockS, res6]
  · refine SWp.condF' (b := decide (r3 < 0)) (by simp) hb6 ?_
    refine SWp.skip ?_
    show SWp E C _ _ _
    refine SWp.seqR rfl (hPB _ rfl) fun K hK => ?_
    refine wps_cons rfl fun K hK => ?_; simp [hN']; refine hK _ ?_; clear hK
    obtain ⟨r7, hc8, h⟩ := bind_some h
    refine wps_call [(.take, .tmp 14)] rfl rfl ent24 (laws_toProgram_ok _ hc8) fun K hK => ?_; simp [hN']; refine hK _ ?_; clear hK
    refine wps_cons rfl fun K hK => ?_; simp [hN']; refine hK _ ?_; clear hK
    obtain ⟨r9, hc10, h⟩ := bind_some h
    refine wps_call [(.bor, .tmp 15), (.take, .tmp 16)] rfl rfl ent27 (spec_Foldable_ok _ _ hc10) fun K hK => ?_; simp [hN']; refine hK _ ?_; clear hK
    refine wps_cons rfl fun K hK => ?_; simp [hN']; refine hK _ ?_; clear hK
    refine wps_nil (hK _ ?_); clear hK
    refine SWp.seqR rfl (hPB _ rfl) fun K hK => ?_
    refine wps_cons rfl fun K hK => ?_; simp [hN']; refine hK _ ?_; clear hK
    obtain ⟨r11, hc12, h⟩ := bind_some h
    refine wps_call [(.take, .tmp 18)] rfl rfl ent24 (laws_toProgram_ok _ hc12) fun K hK => ?_; simp [hN']; refine hK _ ?_; clear hK
    iterate 2 (refine wps_cons rfl fun K hK => ?_; simp [hN']; refine hK _ ?_; clear hK)
    refine wps_nil (hK _ ?_); clear hK
    refine SWp.seqR rfl (hPB _ rfl) fun K hK => ?_
    iterate 2 (refine wps_cons rfl fun K hK => ?_; simp [hN']; refine hK _ ?_; clear hK)
    obtain ⟨r13, hc14, h⟩ := bind_some h
    refine wps_call [(.bor, .tmp 20), (.take, .tmp 21)] rfl rfl ent28 (impl_Foldable_ok _ _ hc14) fun K hK => ?_; simp [hN']; refine hK _ ?_; clear hK
    refine wps_cons rfl fun K hK => ?_; simp [hN']; refine hK _ ?_; clear hK
    refine wps_nil (hK _ ?_); clear hK
    refine SWp.seq ?_
    refine SWp.seqR rfl (hPB _ rfl) fun K hK => ?_
    iterate 3 (refine wps_cons rfl fun K hK => ?_; simp [hN']; refine hK _ ?_; clear hK)
    refine wps_nil (hK _ ?_); clear hK
    rcases ite_or h with ⟨hb15, h⟩ | ⟨hb16, h⟩
    · refine SWp.condT' (b := !(r13 == r9)) (by simp) hb15 ?_
      refine SWp.seqR rfl (hPB _ rfl) fun K hK => ?_
      refine wps_cons rfl fun K hK => ?_; simp [hN']; refine hK _ ?_; clear hK
      refine wps_nil (hK _ ?_); clear hK
      cases h
      refine SWp.ret ?_
      simp [thenS, inBlockS, res6]
    · refine SWp.condF' (b := !(r13 == r9)) (by simp) hb16 ?_
      refine SWp.skip ?_
      show SWp E C _ _ _
      refine SWp.seq ?_
      refine SWp.seq ?_
      obtain ⟨r18, hc19, h⟩ := bind_some h
      refine SWp.drawT rfl (hPB _ rfl) [(26, .al (.box 7) 0 [] (some 2)), (27, .t (GProgram.enc false aP1)), (28, .t (GProgram.enc true r18))] [[], [], [1], [0, 1, 2], [0, 1, 2, 3]] (by simp) (by simp) (by simp [look]) rfl rfl rfl ?_ fun K hK => ?_
      · refine ⟨?_, ?_, ?_, trivial⟩
        all_goals (intro τ hbx hb hd hf K hK; try simp [vsAt] at hd; simp [vsAt] at hf; first | (refine wps_cons rfl fun K' hK' => ?_; simp [hN', hbx, hb, hd, hf]; exact hK' _ (wps_nil (hK _ (by simp [vsAt, hbx])))) | (refine wps_call [(.take, .tmp 27)] rfl rfl ent24 (laws_toProgram_ok _ hc19) fun K' hK' => ?_; simp [hN', hbx, hb, hd, hf]; exact hK' _ (wps_nil (hK _ (by simp [vsAt, hbx])))))
      obtain ⟨r20, hc21, h⟩ := bind_some h
      refine wps_call [(.bor, .tmp 26), (.bor, .tmp 28)] rfl rfl ent26 (laws_eqProgram_ok _ _ hc21) fun K hK => ?_; simp [hN']; refine hK _ ?_; clear hK
      refine wps_cons rfl fun K hK => ?_; simp [hN']; refine hK _ ?_; clear hK
      refine wps_nil (hK _ ?_); clear hK
      show SWp E C _ _ _
      rcases ite_or h with ⟨hb22, h⟩ | ⟨hb23, h⟩
      · refine SWp.condT' (b := !r20) (by simp) hb22 ?_
        refine SWp.seqR rfl (hPB _ rfl) fun K hK => ?_
        refine wps_cons rfl fun K hK => ?_; simp [hN']; refine hK _ ?_; clear hK
        refine wps_nil (hK _ ?_); clear hK
        cases h
        refine SWp.ret ?_
        simp [thenS, inBlockS, res6]
      · refine SWp.condF' (b := !r20) (by simp) hb23 ?_
        refine SWp.skip ?_
        show SWp E C _ _ _
        refine SWp.seqR rfl (hPB _ rfl) fun K hK => ?_
        refine wps_cons rfl fun K hK => ?_; simp [hN']; refine hK _ ?_; clear hK
        refine wps_nil (hK _ ?_); clear hK
        cases h
        refine SWp.ret ?_
        simp [thenS, inBlockS, res6]
end Go.Proofs.T
set_option linter.unusedVariables false
set_option linter.unusedSimpArgs false
namespace Go.OM
/-! ### Plain words on loops over rows -/
theorem w64 {n : Int} (h1 : -9223372036854775808 ≤ n) (h2 : n ≤ 9223372036854775807) : IntKind.wrap .i64 n = n := wrap64 h1 h2
theorem w64_succ {k n : Nat} (hk : k < n) (hn : n ≤ maxLen) : IntKind.wrap .i64 ((k : Int) + 1) = ((k + 1 : Nat) : Int) := by
  have hn' : n ≤ 9223372036854775807 := hn
  rw [w64 (by omega) (by omega)]; omega
@[simp] theorem getI_nat {α : Type} (l : List α) (k : Nat) : getI l (k : Int) = l[k]? := by simp [getI]
theorem getI_at {α : Type} {l : List α} {k : Nat} (hk : k < l.length) : getI l (k : Int) = some l[k] := by simp [hk]
theorem getI_zero {α : Type} (l : List α) : getI l 0 = l[0]? := by simp [getI]
theorem sEq_iff (x y : ByteArray) : sEq x y = decide (x = y) := by
  unfold sEq
  have hxy : x.toList = y.toList ↔ x = y := by
    constructor
    · intro h
      have hx : ∀ z : ByteArray, z.toList = z.data.toList := by
        intro z
        have loop : ∀ (n i : Nat) (r : List UInt8), z.size - i = n → ByteArray.toList.loop z i r = r.reverse ++ z.data.toList.drop i := by
          intro n
          induction n with
          | zero =>
            intro i r hn
            unfold ByteArray.toList.loop
            rw [if_neg (by omega), List.drop_eq_nil_of_le (by have : z.data.toList.length = z.size := Array.length_toList
                                                              omega)]
            simp
          | succ n ih =>
            intro i r hn
            unfold ByteArray.toList.loop
            rw [if_pos (by omega), ih (i + 1) _ (by omega)]
            have hlt : i < z.data.toList.length := by have : z.data.toList.length = z.size := Array.length_toList
                                                      omega
            rw [List.drop_eq_getElem_cons hlt]
            have hz : i < z.size := by omega
            simp [ByteArray.get!, Array.getElem!_eq_getD, Array.getD, hz]
        unfold ByteArray.toList
        rw [loop _ 0 [] rfl]; simp
      rw [hx, hx] at h
      cases x; cases y
      simp only [ByteArray.mk.injEq]
      exact Array.toList_inj.1 h
    · intro h; rw [h]
  by_cases h : x = y
  · simp [h]
  · have : ¬ (x.toList = y.toList) := fun e => h (hxy.1 e)
    simp [h, this]
theorem ofNat_lt_true {k n : Nat} (h : k < n) : decide ((k : Int) < (n : Int)) = true := by simpa using h
theorem len_not_lt (n : Nat) : decide ((n : Int) < (n : Int)) = false := by simp
/-- Sizes of a row. -/
theorem szS_gen {α : Type} (ok : α → Prop) (a : List α) (f : Int × Int → Option ((Int × Int) ⊕ (Int ⊕ Int))) (B : Int)
    (hf : ∀ (m : Int) (k : Nat) (h0 : 0 ≤ m) (h1 : m ≤ B) (hk : k < a.length), ∃ r, r ≤ m ∧ (0 ≤ r → ok a[k]) ∧ f (m, k) = some (if r < 0 then .inr (.inr (-1)) else .inl (r, ((k + 1 : Nat) : Int))))
    (he : ∀ m, f (m, a.length) = some (.inr (.inl m))) (n : Int) (h0 : 0 ≤ n) (h1 : n ≤ B) :
    ∃ j, loopP f (n, 0) = some j ∧ (j = .inr (-1) ∨ ∃ m, j = .inl m ∧ 0 ≤ m ∧ m ≤ n ∧ ∀ x ∈ a, ok x) := by
  refine loopP_run (f := f) (fun s : Int × Int => ∃ k : Nat, s.2 = k ∧ k ≤ a.length ∧ 0 ≤ s.1 ∧ s.1 ≤ n ∧ ∀ (j : Nat) (h : j < a.length), j < k → ok a[j]) (fun s => a.length - s.2.toNat) _ ?_ (n, 0) ⟨0, rfl, by omega, h0, by simp, fun j _ h => by omega⟩
  rintro ⟨m, i⟩ ⟨k, hi, hk, h2, h3, h4⟩
  simp only at hi h2 h3
  subst hi
  by_cases hlt : k < a.length
  · obtain ⟨r, r1, r2, r3⟩ := hf m k h2 (by omega) hlt
    rw [r3]
    by_cases hr : r < 0
    · right
      rw [if_pos hr]
      exact ⟨_, rfl, .inl rfl⟩
    · left
      rw [if_neg hr]
      refine ⟨_, rfl, ⟨k + 1, rfl, by omega, by simp only; omega, by simp only; omega, fun j h hj => ?_⟩, ?_⟩
      · by_cases e : j = k
        · subst e; exact r2 (by omega)
        · exact h4 j h (by omega)
      · simp only [Int.toNat_natCast]; omega
  · right
    have hke : k = a.length := by omega
    subst hke
    rw [he]
    refine ⟨_, rfl, .inr ⟨m, rfl, h2, h3, fun x hx => ?_⟩⟩
    obtain ⟨j, hj, rfl⟩ := List.mem_iff_getElem.1 hx
    exact h4 j hj hj
/-- Rows copied. -/
theorem toS_gen {α : Type} (a : List α) (z : α) (f : List α × Int → Option ((List α × Int) ⊕ List α))
    (hf : ∀ (out : List α) (k : Nat) (hk : k < a.length), out.length = a.length → f (out, k) = some (.inl (out.set k a[k], ((k + 1 : Nat) : Int))))
    (he : ∀ out, f (out, a.length) = some (.inr out)) : loopP f (List.replicate a.length z, 0) = some a := by
  obtain ⟨r, h1, h2⟩ := loopP_run (fun s : List α × Int => ∃ k : Nat, s.2 = k ∧ k ≤ a.length ∧ s.1.length = a.length ∧ ∀ j, j < k → s.1[j]? = a[j]?) (fun s => a.length - s.2.toNat) (fun r => r = a) (f := f) (by
    rintro ⟨out, i⟩ ⟨k, hi, hk, h2, h3⟩
    simp only at hi h2 h3
    subst hi
    by_cases hlt : k < a.length
    · left
      rw [hf out k hlt h2]
      refine ⟨_, rfl, ⟨k + 1, rfl, by omega, by simpa using h2, fun j hj => ?_⟩, by simp only [Int.toNat_natCast]; omega⟩
      simp only [List.getElem?_set]
      by_cases e : k = j
      · subst e; simp [h2, hlt]
      · rw [if_neg e]; exact h3 j (by omega)
    · right
      have hke : k = a.length := by omega
      subst hke
      rw [he]
      refine ⟨_, rfl, ?_⟩
      apply List.ext_getElem?
      intro j
      by_cases hj : j < a.length
      · exact h3 j hj
      · rw [List.getElem?_eq_none (by omega), List.getElem?_eq_none (by omega)]) (List.replicate a.length z, 0) ⟨0, rfl, by omega, by simp, fun j h => by omega⟩
  rw [h1, h2]
/-- Rows held against each other. -/
theorem eqS_gen {α : Type} (a b : List α) (p : α → α → Bool) (hp : ∀ x ∈ a, ∀ y, y ∈ b → (p x y = true ↔ x = y)) (hlen : a.length = b.length) (f : Int → Option (Int ⊕ (Unit ⊕ Bool)))
    (hf : ∀ (k : Nat) (hk : k < a.length) (hk2 : k < b.length), f k = some (if p a[k] b[k] = true then .inl ((k + 1 : Nat) : Int) else .inr (.inr false)))
    (he : f a.length = some (.inr (.inl ()))) : (a = b → loopP f 0 = some (.inl ())) ∧ (a ≠ b → loopP f 0 = some (.inr false)) := by
  obtain ⟨r, h1, h2⟩ := loopP_run (fun i : Int => ∃ k : Nat, i = k ∧ k ≤ a.length ∧ ∀ j, j < k → a[j]? = b[j]?) (fun i => a.length - i.toNat) (fun r => (r = .inl () ∧ a = b) ∨ (r = .inr false ∧ a ≠ b)) (f := f) (by
    rintro i ⟨k, rfl, hk, h3⟩
    by_cases hlt : k < a.length
    · have hlt2 : k < b.length := by omega
      rw [hf k hlt hlt2]
      by_cases hpk : p a[k] b[k] = true
      · left
        rw [if_pos hpk]
        refine ⟨_, rfl, ⟨k + 1, rfl, by omega, fun j hj => ?_⟩, by simp only [Int.toNat_natCast]; omega⟩
        by_cases e : j = k
        · subst e
          rw [List.getElem?_eq_getElem hlt, List.getElem?_eq_getElem hlt2, (hp _ (List.getElem_mem hlt) _ (List.getElem_mem hlt2)).1 hpk]
        · exact h3 j (by omega)
      · right
        rw [if_neg hpk]
        refine ⟨_, rfl, .inr ⟨rfl, fun e => hpk ?_⟩⟩
        subst e
        exact (hp _ (List.getElem_mem hlt) _ (List.getElem_mem hlt)).2 rfl
    · right
      have hke : k = a.length := by omega
      subst hke
      rw [he]
      refine ⟨_, rfl, .inl ⟨rfl, ?_⟩⟩
      apply List.ext_getElem?
      intro j
      by_cases hj : j < a.length
      · exact h3 j hj
      · rw [List.getElem?_eq_none (by omega), List.getElem?_eq_none (by omega)]) 0 ⟨0, rfl, by omega, fun j h => by omega⟩
  rcases h2 with ⟨e, hab⟩ | ⟨e, hab⟩
  · exact ⟨fun _ => by rw [h1, e], fun h => absurd hab h⟩
  · exact ⟨fun h => absurd h hab, fun _ => by rw [h1, e]⟩
theorem mkI_len {α : Type} (b : Int) (n : Nat) (z : α) (h1 : b * n ≤ 140737488355328) (h2 : (n : Int) ≤ 140737488355328) : mkI b (n : Int) z = some (List.replicate n z) := by
  unfold mkI
  rw [if_pos ⟨by omega, h1, h2⟩]
  simp
theorem bindS_def {α β : Type} (x : α) (f : α → β) : bindS x f = f x := rfl
end Go.OM
set_option linter.unusedVariables false
set_option linter.unusedSimpArgs false
namespace Go.OM
/-! ### Loops, marks -/
theorem loopP_inr {α ρ : Type} {f : α → Option (α ⊕ ρ)} {a : α} {r : ρ} (h : f a = some (.inr r)) : loopP f a = some r := by rw [loopP_eq, h]; rfl
theorem loopP_inl {α ρ : Type} {f : α → Option (α ⊕ ρ)} {a b : α} (h : f a = some (.inl b)) : loopP f a = loopP f b := by rw [loopP_eq, h]; rfl
/-- A loop over a row that looks for something. -/
theorem loopP_find {α ρ : Type} (l : List α) (q : α → Option ρ) (f : Int → Option (Int ⊕ (Unit ⊕ ρ)))
    (hf : ∀ (k : Nat) (h : k < l.length), f k = some (match q l[k] with | none => .inl ((k + 1 : Nat) : Int) | some r => .inr (.inr r)))
    (he : f l.length = some (.inr (.inl ()))) : loopP f 0 = some (match l.findSome? q with | some r => .inr r | none => .inl ()) := by
  have key : ∀ (n k : Nat), n = l.length - k → k ≤ l.length → loopP f k = some (match (l.drop k).findSome? q with | some r => .inr r | none => .inl ()) := by
    intro n
    induction n with
    | zero =>
      intro k hn hk
      have : k = l.length := by omega
      subst this
      rw [loopP_inr he, List.drop_length]; rfl
    | succ n ih =>
      intro k hn hk
      have hlt : k < l.length := by omega
      rw [List.drop_eq_getElem_cons hlt, List.findSome?_cons]
      cases hq : q l[k] with
      | none =>
        have h1 := hf k hlt
        rw [hq] at h1
        rw [loopP_inl h1]
        exact ih (k + 1) (by omega) (by omega)
      | some r =>
        have h1 := hf k hlt
        rw [hq] at h1
        rw [loopP_inr h1]
  have := key l.length 0 (by omega) (by omega)
  simpa using this
theorem find_all {α : Type} (l : List α) (p : α → Bool) (b : Bool) : l.findSome? (fun x => if p x = true then none else some b) = if l.all p = true then none else some b := by
  induction l with
  | nil => rfl
  | cons x l ih =>
    rw [List.findSome?_cons, List.all_cons]
    cases hp : p x <;> simp [ih]
theorem find_any {α : Type} (l : List α) (p : α → Bool) (b : Bool) : l.findSome? (fun x => if p x = true then some b else none) = if l.any p = true then some b else none := by
  induction l with
  | nil => rfl
  | cons x l ih =>
    rw [List.findSome?_cons, List.any_cons]
    cases hp : p x <;> simp [ih]
/-- A loop that goes over a row and asks all of them. -/
theorem loopP_all {α : Type} (l : List α) (p : α → Bool) (f : Int → Option (Int ⊕ (Unit ⊕ Bool)))
    (hf : ∀ (k : Nat) (h : k < l.length), f k = some (if p l[k] = true then .inl ((k + 1 : Nat) : Int) else .inr (.inr false)))
    (he : f l.length = some (.inr (.inl ()))) : loopP f 0 = some (if l.all p = true then .inl () else .inr false) := by
  rw [loopP_find l (fun x => if p x = true then none else some false) f (fun k h => by rw [hf k h]; cases p l[k] <;> rfl) he, find_all]
  cases l.all p <;> rfl
theorem loopP_any {α : Type} (l : List α) (p : α → Bool) (f : Int → Option (Int ⊕ (Unit ⊕ Bool)))
    (hf : ∀ (k : Nat) (h : k < l.length), f k = some (if p l[k] = true then .inr (.inr true) else .inl ((k + 1 : Nat) : Int)))
    (he : f l.length = some (.inr (.inl ()))) : loopP f 0 = some (if l.any p = true then .inr true else .inl ()) := by
  rw [loopP_find l (fun x => if p x = true then some true else none) f (fun k h => by rw [hf k h]; cases p l[k] <;> rfl) he, find_any]
  cases l.any p <;> rfl
/-- A loop over a row that carries something, and may stop. -/
def foldE {α σ ρ : Type} (g : σ → α → σ ⊕ ρ) (fin : σ → ρ) : List α → σ → ρ
  | [], s => fin s
  | x :: l, s => match g s x with
    | .inl s' => foldE g fin l s'
    | .inr r => r
theorem loopP_fold {α σ τ ρ : Type} (l : List α) (mk : σ → Nat → τ) (I : Nat → σ → Prop) (g : σ → α → σ ⊕ ρ) (fin : σ → ρ) (f : τ → Option (τ ⊕ ρ))
    (hf : ∀ (s : σ) (k : Nat) (h : k < l.length), I k s → (∃ s', g s l[k] = .inl s' ∧ f (mk s k) = some (.inl (mk s' (k + 1))) ∧ I (k + 1) s') ∨ ∃ r, g s l[k] = .inr r ∧ f (mk s k) = some (.inr r))
    (he : ∀ s, I l.length s → f (mk s l.length) = some (.inr (fin s))) (s : σ) (h0 : I 0 s) : loopP f (mk s 0) = some (foldE g fin l s) := by
  have key : ∀ (n k : Nat) (s : σ), n = l.length - k → k ≤ l.length → I k s → loopP f (mk s k) = some (foldE g fin (l.drop k) s) := by
    intro n
    induction n with
    | zero =>
      intro k s hn hk hI
      have : k = l.length := by omega
      subst this
      rw [loopP_inr (he s hI), List.drop_length]; rfl
    | succ n ih =>
      intro k s hn hk hI
      have hlt : k < l.length := by omega
      rw [List.drop_eq_getElem_cons hlt]
      rcases hf s k hlt hI with ⟨s', h1, h2, h3⟩ | ⟨r, h1, h2⟩
      · rw [loopP_inl h2, ih (k + 1) s' (by omega) (by omega) h3]
        simp only [foldE, h1]
      · rw [loopP_inr h2]
        simp only [foldE, h1]
  have := key l.length 0 s (by omega) (by omega) h0
  simpa using this
/-- Marks set into a row. -/
theorem markS_gen {α : Type} (ok : α → Prop) (M : α → Int → Int → Prop) (W : Nat) (B : Int) (f : List α × Int × Int → Option ((List α × Int × Int) ⊕ (List α × Int)))
    (hf : ∀ (out : List α) (k : Int) (i : Nat) (hi : i < out.length), out.length ≤ 1048576 → 0 ≤ k → k + W ≤ B → ok out[i] → ∃ k' x', k ≤ k' ∧ k' ≤ k + W ∧ M x' k k' ∧ f (out, k, i) = some (.inl (out.set i x', k', ((i + 1 : Nat) : Int))))
    (he : ∀ out k, f (out, k, (out.length : Int)) = some (.inr (out, k)))
    (a : List α) (ha : a.length ≤ 1048576) (hok : ∀ x ∈ a, ok x) (k : Int) (h0 : 0 ≤ k) (h1 : k + W * 1048576 ≤ B) :
    ∃ k' a', loopP f (a, k, 0) = some (a', k') ∧ k ≤ k' ∧ k' ≤ k + W * 1048576 ∧ a'.length = a.length ∧ ∃ ks : Nat → Int, ks 0 = k ∧ ks a.length = k' ∧ ∀ (j : Nat) (hj : j < a'.length), M a'[j] (ks j) (ks (j + 1)) ∧ 0 ≤ ks j ∧ ks j ≤ ks (j + 1) ∧ ks j ≤ B := by
  have hWm : ∀ j : Nat, j ≤ a.length → (W : Int) * j ≤ W * 1048576 := fun j hj => Int.mul_le_mul_of_nonneg_left (by omega) (by omega)
  have hWs : ∀ j : Nat, j < a.length → (W : Int) * j + W ≤ W * 1048576 := fun j hj => by
    have : (W : Int) * j + W = W * ((j + 1 : Nat) : Int) := by rw [Int.natCast_succ, Int.mul_add, Int.mul_one]
    rw [this]
    exact Int.mul_le_mul_of_nonneg_left (by omega) (by omega)
  obtain ⟨r, g1, g2⟩ := loopP_run (f := f) (fun s : List α × Int × Int => ∃ j : Nat, s.2.2 = j ∧ j ≤ a.length ∧ s.1.length = a.length ∧ (∀ l, j ≤ l → s.1[l]? = a[l]?) ∧ k ≤ s.2.1 ∧ s.2.1 ≤ k + W * j ∧ ∃ ks : Nat → Int, ks 0 = k ∧ ks j = s.2.1 ∧ ∀ (l : Nat), l < j → ∃ x, s.1[l]? = some x ∧ M x (ks l) (ks (l + 1)) ∧ 0 ≤ ks l ∧ ks l ≤ ks (l + 1) ∧ ks l ≤ B) (fun s => a.length - s.2.2.toNat)
    (fun r => k ≤ r.2 ∧ r.2 ≤ k + W * 1048576 ∧ r.1.length = a.length ∧ ∃ ks : Nat → Int, ks 0 = k ∧ ks a.length = r.2 ∧ ∀ (j : Nat) (hj : j < r.1.length), M r.1[j] (ks j) (ks (j + 1)) ∧ 0 ≤ ks j ∧ ks j ≤ ks (j + 1) ∧ ks j ≤ B) (by
    rintro ⟨out, m, i⟩ ⟨j, hi, hj, hl, hsame, hm1, hm2, ks, e0, e1, e2⟩
    simp only at hi hl hsame hm1 hm2 e1 e2
    subst hi
    have hWj := hWm j hj
    by_cases hlt : j < a.length
    · left
      have hlt2 : j < out.length := by omega
      have hWsj := hWs j hlt
      have hoj : out[j] = a[j] := by
        have := hsame j (Nat.le_refl _)
        rw [List.getElem?_eq_getElem hlt2, List.getElem?_eq_getElem hlt] at this
        exact Option.some.inj this
      obtain ⟨k', x', q1, q2, q3, q4⟩ := hf out m j hlt2 (by omega) (by omega) (by omega) (hoj ▸ hok _ (List.getElem_mem hlt))
      refine ⟨(out.set j x', k', ((j + 1 : Nat) : Int)), q4, ⟨j + 1, rfl, by omega, by simpa using hl, fun l hl' => ?_, by simp only; omega, ?_, fun l => if l ≤ j then ks l else k', by simp [e0], by simp only [show ¬ (j + 1 ≤ j) by omega, if_false], fun l hl' => ?_⟩, by simp only [Int.toNat_natCast]; omega⟩
      · simp only
        rw [List.getElem?_set_ne (by omega)]
        exact hsame l (by omega)
      · simp only
        have : (W : Int) * ((j + 1 : Nat) : Int) = W * j + W := by rw [Int.natCast_succ, Int.mul_add, Int.mul_one]
        omega
      · by_cases hlj : l = j
        · subst hlj
          refine ⟨x', by simp [hlt2], ?_⟩
          simp only [Nat.le_refl, if_true, show ¬ (l + 1 ≤ l) by omega, if_false, e1]
          exact ⟨q3, by omega, q1, by omega⟩
        · obtain ⟨x, p1, p2⟩ := e2 l (by omega)
          refine ⟨x, by rw [List.getElem?_set_ne (by omega)]; exact p1, ?_⟩
          simp only [show l ≤ j by omega, show l + 1 ≤ j by omega, if_true]
          exact p2
    · right
      have hja : j = a.length := by omega
      subst hja
      refine ⟨(out, m), by rw [← hl]; exact he out m, hm1, by simp only; omega, hl, ks, e0, e1, fun j hj => ?_⟩
      obtain ⟨x, p1, p2⟩ := e2 j (by simp only at hj; omega)
      simp only at hj
      rw [List.getElem?_eq_getElem hj] at p1
      injection p1 with p1
      subst p1
      exact p2) (a, k, 0) ⟨0, rfl, by omega, rfl, fun _ _ => rfl, by simp, by simp, fun _ => k, rfl, rfl, fun l h => by omega⟩
  obtain ⟨a', k'⟩ := r
  exact ⟨k', a', g1, g2⟩
theorem heldS_gen {α : Type} (a : List α) (M : α → Int → Int → Prop) (B : Int) (ks : Nat → Int) (g : Int × Int → Option ((Int × Int) ⊕ (Int ⊕ Int)))
    (hk : ∀ (j : Nat) (hj : j < a.length), M a[j] (ks j) (ks (j + 1)) ∧ 0 ≤ ks j ∧ ks j ≤ ks (j + 1) ∧ ks j ≤ B)
    (hg : ∀ (j : Nat) (hj : j < a.length) (k k' : Int), M a[j] k k' → 0 ≤ k → k ≤ k' → k ≤ B → g (k, j) = some (.inl (k', ((j + 1 : Nat) : Int))))
    (he : ∀ k, g (k, (a.length : Int)) = some (.inr (.inl k))) : loopP g (ks 0, 0) = some (.inl (ks a.length)) := by
  have key : ∀ (n k : Nat), n = a.length - k → k ≤ a.length → loopP g (ks k, (k : Int)) = some (.inl (ks a.length)) := by
    intro n
    induction n with
    | zero =>
      intro k hn hk'
      have : k = a.length := by omega
      subst this
      exact loopP_inr (he _)
    | succ n ih =>
      intro k hn hk'
      have hlt : k < a.length := by omega
      obtain ⟨q1, q2, q3, q4⟩ := hk k hlt
      rw [loopP_inl (hg k hlt _ _ q1 q2 q3 q4)]
      exact ih (k + 1) (by omega) (by omega)
  exact key a.length 0 (by omega) (by omega)
theorem getI_set {α : Type} {l : List α} {k : Nat} {x : α} (hk : k < l.length) : getI (l.set k x) (k : Int) = some x := by simp [hk]
theorem sCat_ok' {x y : ByteArray} (h : x.size + y.size ≤ 9223372036854775807) : sCat x y = some (x ++ y) := by unfold sCat; rw [if_pos h]
theorem bytesOf_size' (l : List Int) : (bytesOf l).size = l.length := by simp [bytesOf, ByteArray.size]
/-- Figures laid ahead of a text. -/
theorem text_loop (f : Int × ByteArray → Option ((Int × ByteArray) ⊕ ByteArray))
    (hf : ∀ (k : Int) (o : ByteArray), 0 < k → ∃ x : Int, f (k, o) = (sCat (bytesOf [x]) o).bind fun t => some (.inl (IntKind.wrap .i64 (Int.tdiv k 10), t)))
    (he : ∀ (k : Int) (o : ByteArray), k ≤ 0 → f (k, o) = some (.inr o)) (k : Int) (h0 : 0 ≤ k) (h1 : k ≤ 9223372036854775807) :
    ∃ z, loopP f (k, ⟨#[]⟩) = some z ∧ z.size ≤ 64 := by
  obtain ⟨r, g1, g2⟩ := loopP_run (f := f) (fun s : Int × ByteArray => 0 ≤ s.1 ∧ ∃ d : Nat, d ≤ 64 ∧ s.1 < 2 ^ d ∧ s.2.size + d ≤ 64) (fun s => s.1.toNat) (fun z => z.size ≤ 64) (by
    rintro ⟨k, o⟩ ⟨g0, d, gd, g1, g2⟩
    simp only at g0 g1 g2
    by_cases hk : 0 < k
    · left
      obtain ⟨x, hx⟩ := hf k o hk
      have hd : d ≠ 0 := by rintro rfl; simp at g1; omega
      have hs : (bytesOf [x]).size = 1 := by rw [bytesOf_size']; rfl
      have hdiv : Int.tdiv k 10 = k / 10 := Int.tdiv_eq_ediv_of_nonneg g0
      have hkb : k ≤ 9223372036854775807 ∨ 9223372036854775807 < k := by omega
      have hw : IntKind.wrap .i64 (Int.tdiv k 10) = k / 10 := by
        rw [hdiv]
        have h64 : (2 : Int) ^ d ≤ 2 ^ 64 := by
          have := Nat.pow_le_pow_right (show 0 < 2 by omega) gd
          exact_mod_cast this
        exact w64 (by omega) (by simp at h64; omega)
      refine ⟨(k / 10, bytesOf [x] ++ o), ?_, ⟨by simp only; omega, d - 1, by omega, ?_, ?_⟩, by simp only; omega⟩
      · rw [hx, sCat_ok' (by omega), Option.bind_some, hw]
      · simp only
        have e : (2 : Int) ^ d = 2 ^ (d - 1) * 2 := by rw [← Int.pow_succ]; congr 1; omega
        omega
      · simp only [ByteArray.size_append, hs]; omega
    · right
      exact ⟨o, he k o (by omega), by omega⟩) (k, ⟨#[]⟩) ⟨h0, 64, Nat.le_refl _, by simp; omega, by show 0 + 64 ≤ 64; omega⟩
  exact ⟨r, g1, g2⟩
end Go.OM
set_option linter.unusedVariables false
set_option linter.unusedSimpArgs false
set_option maxHeartbeats 1000000
namespace Go.OM
def GIns.le (n : Nat) (a : GIns) : Prop := (a.Name.size ≤ n) ∧ (a.Args.length ≤ n)
theorem GIns.ext' (a b : GIns) : a = b ↔ a.Op = b.Op ∧ a.A = b.A ∧ a.B = b.B ∧ a.C = b.C ∧ a.Num = b.Num ∧ a.Name = b.Name ∧ a.Args = b.Args := by cases a; cases b; simp
def GCode.le (n : Nat) (a : GCode) : Prop := (a.Name.size ≤ n) ∧ (a.Locals.length ≤ n) ∧ (a.Words.length ≤ n ∧ ∀ x ∈ a.Words, GIns.le n x)
theorem GCode.ext' (a b : GCode) : a = b ↔ a.Name = b.Name ∧ a.Params = b.Params ∧ a.Locals = b.Locals ∧ a.Words = b.Words := by cases a; cases b; simp
def GBlock.le (n : Nat) (a : GBlock) : Prop := (a.Next.length ≤ n)
theorem GBlock.ext' (a b : GBlock) : a = b ↔ a.From = b.From ∧ a.To = b.To ∧ a.Next = b.Next := by cases a; cases b; simp
def GMeasure.le (n : Nat) (a : GMeasure) : Prop := True
theorem GMeasure.ext' (a b : GMeasure) : a = b ↔ a.Fns = b.Fns ∧ a.Nodes = b.Nodes ∧ a.Steps = b.Steps ∧ a.Values = b.Values ∧ a.Blocks = b.Blocks ∧ a.Lets = b.Lets ∧ a.News = b.News ∧ a.Lends = b.Lends ∧ a.Deep = b.Deep := by cases a; cases b; simp
def GNode.le (n : Nat) (a : GNode) : Prop := (a.Name.size ≤ n) ∧ (a.Kids.length ≤ n)
theorem GNode.ext' (a b : GNode) : a = b ↔ a.Kind = b.Kind ∧ a.Num = b.Num ∧ a.Name = b.Name ∧ a.Kids = b.Kids := by cases a; cases b; simp
def GParam.le (n : Nat) (a : GParam) : Prop := (a.Name.size ≤ n)
theorem GParam.ext' (a b : GParam) : a = b ↔ a.Name = b.Name ∧ a.Typ = b.Typ := by cases a; cases b; simp
def GFn.le (n : Nat) (a : GFn) : Prop := (a.Name.size ≤ n) ∧ (a.Params.length ≤ n ∧ ∀ x ∈ a.Params, GParam.le n x)
theorem GFn.ext' (a b : GFn) : a = b ↔ a.Name = b.Name ∧ a.Params = b.Params ∧ a.Res = b.Res ∧ a.Body = b.Body ∧ a.Ret = b.Ret := by cases a; cases b; simp
def GProgram.le (n : Nat) (a : GProgram) : Prop := (a.Nodes.length ≤ n ∧ ∀ x ∈ a.Nodes, GNode.le n x) ∧ (a.Fns.length ≤ n ∧ ∀ x ∈ a.Fns, GFn.le n x)
theorem GProgram.ext' (a b : GProgram) : a = b ↔ a.Nodes = b.Nodes ∧ a.Fns = b.Fns := by cases a; cases b; simp
theorem laws_toMeasure_p (a : GMeasure) (h : GMeasure.le 1048576 a) : laws_toMeasure a = some a := by
  unfold laws_toMeasure
  rfl
theorem laws_szIntS_p (a : List Int) (hw : a.length ≤ maxLen) (n : Int) (h0 : 0 ≤ n) (h1 : n ≤ 1048576) : ∃ r, laws_szIntS a n = some r ∧ r ≤ n ∧ (0 ≤ r → a.length ≤ 1048576) := by
  have hw' : a.length ≤ 9223372036854775807 := hw
  unfold laws_szIntS
  rw [w64 (by omega) (by omega)]
  split
  · exact ⟨_, rfl, by omega, fun h => by omega⟩
  · rename_i h; simp only [decide_eq_true_eq] at h; exact ⟨_, rfl, by omega, fun h => by omega⟩
theorem laws_toIntS_p (a : List Int) (h : a.length ≤ 1048576) : laws_toIntS a = some a := by
  have hl : a.length ≤ 1048576 := h
  unfold laws_toIntS
  rw [mkI_len _ _ _ (by omega) (by omega)]
  simp only [Option.bind_some]
  rw [toS_gen a _ (laws_toIntS_l1 a) (fun out k hk ho => ?_) (fun out => by simp [laws_toIntS_l1])]
  · rfl
  · simp only [laws_toIntS_l1, ofNat_lt_true hk, if_true, getI_at hk, Option.bind_some, getI_at (show k < out.length by omega), bindS_def, Int.toNat_natCast, w64_succ hk (show a.length ≤ maxLen by show _ ≤ 9223372036854775807; omega)]
theorem laws_eqIntS_p (a b : List Int) (ha : a.length ≤ 1048576) (hb : b.length ≤ 1048576) : laws_eqIntS a b = some (decide (a = b)) := by
  have hl : a.length ≤ 1048576 := ha
  unfold laws_eqIntS
  by_cases hlen : a.length = b.length
  · have hlen' : ((a.length : Int) != (b.length : Int)) = false := by simp [hlen]
    simp only [hlen', Bool.false_eq_true, if_false]
    have key := eqS_gen a b (fun x y => !(x != y)) (fun x _ y _ => by simp) hlen (laws_eqIntS_l1 a b) (fun k hk hk2 => ?_) (by simp [laws_eqIntS_l1])
    · by_cases e : a = b
      · rw [key.1 e]; simp [e]
      · rw [key.2 e]; simp [e]
    simp only [laws_eqIntS_l1, ofNat_lt_true hk, if_true, getI_at hk, getI_at hk2, Option.bind_some, w64_succ hk (show a.length ≤ maxLen by show _ ≤ 9223372036854775807; omega)]
    try (by_cases e : a[k] = b[k] <;> simp [e])
  · have hlen' : ((a.length : Int) != (b.length : Int)) = true := by simp; omega
    have hne : a ≠ b := fun e => hlen (by rw [e])
    simp [hlen', hne]
theorem laws_szIns_p (a : GIns) (hw : GIns.le maxLen a) (n : Int) (h0 : 0 ≤ n) (h1 : n ≤ 1048576) : ∃ r, laws_szIns a n = some r ∧ r ≤ n ∧ (0 ≤ r → GIns.le 1048576 a) := by
  obtain ⟨hw0, hw1⟩ := hw
  unfold laws_szIns
  have hs0 : a.Name.size ≤ 9223372036854775807 := hw0
  simp only [w64 (n := n - (a.Name.size : Int)) (by omega) (by omega)]
  by_cases hn0 : (n - (a.Name.size : Int)) < 0
  · simp only [hn0, decide_true, if_true]; exact ⟨_, rfl, by omega, fun h => by omega⟩
  simp only [hn0, decide_false, Bool.false_eq_true, if_false]
  obtain ⟨r1, q1a, q1b, q1c⟩ := laws_szIntS_p a.Args hw1 (n - (a.Name.size : Int)) (by omega) (by omega)
  simp only [q1a, Option.bind_some]
  by_cases hn1 : r1 < 0
  · simp only [hn1, decide_true, if_true]; exact ⟨_, rfl, by omega, fun h => by omega⟩
  simp only [hn1, decide_false, Bool.false_eq_true, if_false]
  exact ⟨_, rfl, by omega, fun _ => ⟨by omega, q1c (by omega)⟩⟩
theorem laws_toIns_p (a : GIns) (h : GIns.le 1048576 a) : laws_toIns a = some a := by
  obtain ⟨h0, h1⟩ := h
  unfold laws_toIns
  simp only [laws_toIntS_p a.Args h1, Option.bind_some]
theorem laws_eqIns_p (a b : GIns) (ha : GIns.le 1048576 a) (hb : GIns.le 1048576 b) : laws_eqIns a b = some (decide (a = b)) := by
  obtain ⟨ha0, ha1⟩ := ha
  obtain ⟨hb0, hb1⟩ := hb
  unfold laws_eqIns
  simp only [sEq_iff, Option.bind_some, laws_eqIntS_p a.Args b.Args ha1 hb1]
  rw [show decide (a = b) = decide (a.Op = b.Op ∧ a.A = b.A ∧ a.B = b.B ∧ a.C = b.C ∧ a.Num = b.Num ∧ a.Name = b.Name ∧ a.Args = b.Args) from by simp only [GIns.ext' a b]]

  by_cases e0 : a.Op = b.Op
  case neg => simp [e0]
  by_cases e1 : a.A = b.A
  case neg => simp [e1, e0]
  by_cases e2 : a.B = b.B
  case neg => simp [e2, e0, e1]
  by_cases e3 : a.C = b.C
  case neg => simp [e3, e0, e1, e2]
  by_cases e4 : a.Num = b.Num
  case neg => simp [e4, e0, e1, e2, e3]
  by_cases e5 : a.Name = b.Name
  case neg => simp [e5, e0, e1, e2, e3, e4]
  by_cases e6 : a.Args = b.Args
  case neg => simp [e6, e0, e1, e2, e3, e4, e5]
  simp [e0, e1, e2, e3, e4, e5, e6]
theorem laws_szInsS_p (a : List GIns) (hw : a.length ≤ maxLen ∧ ∀ x ∈ a, GIns.le maxLen x) (n : Int) (h0 : 0 ≤ n) (h1 : n ≤ 1048576) : ∃ r, laws_szInsS a n = some r ∧ r ≤ n ∧ (0 ≤ r → a.length ≤ 1048576 ∧ ∀ x ∈ a, GIns.le 1048576 x) := by
  have hw' : a.length ≤ 9223372036854775807 := hw.1
  unfold laws_szInsS
  rw [w64 (by omega) (by omega)]
  split
  · exact ⟨_, rfl, by omega, fun h => by omega⟩
  · rename_i h
    simp only [decide_eq_true_eq] at h
    have hf : ∀ (m : Int) (k : Nat) (g0 : 0 ≤ m) (g1 : m ≤ 1048576) (hk : k < a.length), ∃ r, r ≤ m ∧ (0 ≤ r → (fun x : GIns => GIns.le 1048576 x) a[k]) ∧ laws_szInsS_l1 a (m, k) = some (if r < 0 then .inr (.inr (-1)) else .inl (r, ((k + 1 : Nat) : Int))) := by
      intro m k g0 g1 hk
      obtain ⟨r, r1, r2, r3⟩ := laws_szIns_p a[k] (hw.2 _ (List.getElem_mem hk)) m g0 g1
      refine ⟨r, r2, r3, ?_⟩
      simp only [laws_szInsS_l1, ofNat_lt_true hk, if_true, getI_at hk, Option.bind_some, r1, w64_succ hk hw.1]
      by_cases hr : r < 0 <;> simp [hr]
    obtain ⟨j, hj, hj2⟩ := szS_gen _ a (laws_szInsS_l1 a) 1048576 hf (fun m => by simp [laws_szInsS_l1]) (n - a.length) (by omega) (by omega)
    rcases hj2 with rfl | ⟨m, rfl, q1, q2, q3⟩
    · exact ⟨-1, by rw [hj]; rfl, by omega, fun h => by omega⟩
    · exact ⟨m, by rw [hj]; rfl, by omega, fun _ => ⟨by omega, q3⟩⟩
theorem laws_toInsS_p (a : List GIns) (h : a.length ≤ 1048576 ∧ ∀ x ∈ a, GIns.le 1048576 x) : laws_toInsS a = some a := by
  have hl : a.length ≤ 1048576 := h.1
  unfold laws_toInsS
  rw [mkI_len _ _ _ (by omega) (by omega)]
  simp only [Option.bind_some]
  rw [toS_gen a _ (laws_toInsS_l1 a) (fun out k hk ho => ?_) (fun out => by simp [laws_toInsS_l1])]
  · rfl
  · simp only [laws_toInsS_l1, ofNat_lt_true hk, if_true, getI_at hk, Option.bind_some, laws_toIns_p a[k] (h.2 _ (List.getElem_mem hk)), getI_at (show k < out.length by omega), bindS_def, Int.toNat_natCast, w64_succ hk (show a.length ≤ maxLen by show _ ≤ 9223372036854775807; omega)]
theorem laws_eqInsS_p (a b : List GIns) (ha : a.length ≤ 1048576 ∧ ∀ x ∈ a, GIns.le 1048576 x) (hb : b.length ≤ 1048576 ∧ ∀ x ∈ b, GIns.le 1048576 x) : laws_eqInsS a b = some (decide (a = b)) := by
  have hl : a.length ≤ 1048576 := ha.1
  unfold laws_eqInsS
  by_cases hlen : a.length = b.length
  · have hlen' : ((a.length : Int) != (b.length : Int)) = false := by simp [hlen]
    simp only [hlen', Bool.false_eq_true, if_false]
    have key := eqS_gen a b (fun x y => decide (x = y)) (fun x _ y _ => by simp) hlen (laws_eqInsS_l1 a b) (fun k hk hk2 => ?_) (by simp [laws_eqInsS_l1])
    · by_cases e : a = b
      · rw [key.1 e]; simp [e]
      · rw [key.2 e]; simp [e]
    simp only [laws_eqInsS_l1, ofNat_lt_true hk, if_true, getI_at hk, getI_at hk2, Option.bind_some, laws_eqIns_p a[k] b[k] (ha.2 _ (List.getElem_mem hk)) (hb.2 _ (List.getElem_mem hk2)), w64_succ hk (show a.length ≤ maxLen by show _ ≤ 9223372036854775807; omega)]
    try (by_cases e : a[k] = b[k] <;> simp [e])
  · have hlen' : ((a.length : Int) != (b.length : Int)) = true := by simp; omega
    have hne : a ≠ b := fun e => hlen (by rw [e])
    simp [hlen', hne]
theorem laws_szCode_p (a : GCode) (hw : GCode.le maxLen a) (n : Int) (h0 : 0 ≤ n) (h1 : n ≤ 1048576) : ∃ r, laws_szCode a n = some r ∧ r ≤ n ∧ (0 ≤ r → GCode.le 1048576 a) := by
  obtain ⟨hw0, hw1, hw2⟩ := hw
  unfold laws_szCode
  have hs0 : a.Name.size ≤ 9223372036854775807 := hw0
  simp only [w64 (n := n - (a.Name.size : Int)) (by omega) (by omega)]
  by_cases hn0 : (n - (a.Name.size : Int)) < 0
  · simp only [hn0, decide_true, if_true]; exact ⟨_, rfl, by omega, fun h => by omega⟩
  simp only [hn0, decide_false, Bool.false_eq_true, if_false]
  obtain ⟨r1, q1a, q1b, q1c⟩ := laws_szIntS_p a.Locals hw1 (n - (a.Name.size : Int)) (by omega) (by omega)
  simp only [q1a, Option.bind_some]
  by_cases hn1 : r1 < 0
  · simp only [hn1, decide_true, if_true]; exact ⟨_, rfl, by omega, fun h => by omega⟩
  simp only [hn1, decide_false, Bool.false_eq_true, if_false]
  obtain ⟨r2, q2a, q2b, q2c⟩ := laws_szInsS_p a.Words hw2 r1 (by omega) (by omega)
  simp only [q2a, Option.bind_some]
  by_cases hn2 : r2 < 0
  · simp only [hn2, decide_true, if_true]; exact ⟨_, rfl, by omega, fun h => by omega⟩
  simp only [hn2, decide_false, Bool.false_eq_true, if_false]
  exact ⟨_, rfl, by omega, fun _ => ⟨by omega, q1c (by omega), q2c (by omega)⟩⟩
theorem laws_toCode_p (a : GCode) (h : GCode.le 1048576 a) : laws_toCode a = some a := by
  obtain ⟨h0, h1, h2⟩ := h
  unfold laws_toCode
  simp only [laws_toIntS_p a.Locals h1, laws_toInsS_p a.Words h2, Option.bind_some]
theorem laws_eqCode_p (a b : GCode) (ha : GCode.le 1048576 a) (hb : GCode.le 1048576 b) : laws_eqCode a b = some (decide (a = b)) := by
  obtain ⟨ha0, ha1, ha2⟩ := ha
  obtain ⟨hb0, hb1, hb2⟩ := hb
  unfold laws_eqCode
  simp only [sEq_iff, Option.bind_some, laws_eqIntS_p a.Locals b.Locals ha1 hb1, laws_eqInsS_p a.Words b.Words ha2 hb2]
  rw [show decide (a = b) = decide (a.Name = b.Name ∧ a.Params = b.Params ∧ a.Locals = b.Locals ∧ a.Words = b.Words) from by simp only [GCode.ext' a b]]
  by_cases e0 : a.Name = b.Name <;> by_cases e1 : a.Params = b.Params <;> by_cases e2 : a.Locals = b.Locals <;> by_cases e3 : a.Words = b.Words <;> simp [e0, e1, e2, e3]
theorem laws_eqBoolS_p (a b : List Bool) (ha : a.length ≤ 1048576) (hb : b.length ≤ 1048576) : laws_eqBoolS a b = some (decide (a = b)) := by
  have hl : a.length ≤ 1048576 := ha
  unfold laws_eqBoolS
  by_cases hlen : a.length = b.length
  · have hlen' : ((a.length : Int) != (b.length : Int)) = false := by simp [hlen]
    simp only [hlen', Bool.false_eq_true, if_false]
    have key := eqS_gen a b (fun x y => !(x != y)) (fun x _ y _ => by simp) hlen (laws_eqBoolS_l1 a b) (fun k hk hk2 => ?_) (by simp [laws_eqBoolS_l1])
    · by_cases e : a = b
      · rw [key.1 e]; simp [e]
      · rw [key.2 e]; simp [e]
    simp only [laws_eqBoolS_l1, ofNat_lt_true hk, if_true, getI_at hk, getI_at hk2, Option.bind_some, w64_succ hk (show a.length ≤ maxLen by show _ ≤ 9223372036854775807; omega)]
    try (by_cases e : a[k] = b[k] <;> simp [e])
  · have hlen' : ((a.length : Int) != (b.length : Int)) = true := by simp; omega
    have hne : a ≠ b := fun e => hlen (by rw [e])
    simp [hlen', hne]
theorem laws_szNode_p (a : GNode) (hw : GNode.le maxLen a) (n : Int) (h0 : 0 ≤ n) (h1 : n ≤ 1048576) : ∃ r, laws_szNode a n = some r ∧ r ≤ n ∧ (0 ≤ r → GNode.le 1048576 a) := by
  obtain ⟨hw0, hw1⟩ := hw
  unfold laws_szNode
  have hs0 : a.Name.size ≤ 9223372036854775807 := hw0
  simp only [w64 (n := n - (a.Name.size : Int)) (by omega) (by omega)]
  by_cases hn0 : (n - (a.Name.size : Int)) < 0
  · simp only [hn0, decide_true, if_true]; exact ⟨_, rfl, by omega, fun h => by omega⟩
  simp only [hn0, decide_false, Bool.false_eq_true, if_false]
  obtain ⟨r1, q1a, q1b, q1c⟩ := laws_szIntS_p a.Kids hw1 (n - (a.Name.size : Int)) (by omega) (by omega)
  simp only [q1a, Option.bind_some]
  by_cases hn1 : r1 < 0
  · simp only [hn1, decide_true, if_true]; exact ⟨_, rfl, by omega, fun h => by omega⟩
  simp only [hn1, decide_false, Bool.false_eq_true, if_false]
  exact ⟨_, rfl, by omega, fun _ => ⟨by omega, q1c (by omega)⟩⟩
theorem laws_toNode_p (a : GNode) (h : GNode.le 1048576 a) : laws_toNode a = some a := by
  obtain ⟨h0, h1⟩ := h
  unfold laws_toNode
  simp only [laws_toIntS_p a.Kids h1, Option.bind_some]
theorem laws_eqNode_p (a b : GNode) (ha : GNode.le 1048576 a) (hb : GNode.le 1048576 b) : laws_eqNode a b = some (decide (a = b)) := by
  obtain ⟨ha0, ha1⟩ := ha
  obtain ⟨hb0, hb1⟩ := hb
  unfold laws_eqNode
  simp only [sEq_iff, Option.bind_some, laws_eqIntS_p a.Kids b.Kids ha1 hb1]
  rw [show decide (a = b) = decide (a.Kind = b.Kind ∧ a.Num = b.Num ∧ a.Name = b.Name ∧ a.Kids = b.Kids) from by simp only [GNode.ext' a b]]
  by_cases e0 : a.Kind = b.Kind <;> by_cases e1 : a.Num = b.Num <;> by_cases e2 : a.Name = b.Name <;> by_cases e3 : a.Kids = b.Kids <;> simp [e0, e1, e2, e3]
theorem laws_szNodeS_p (a : List GNode) (hw : a.length ≤ maxLen ∧ ∀ x ∈ a, GNode.le maxLen x) (n : Int) (h0 : 0 ≤ n) (h1 : n ≤ 1048576) : ∃ r, laws_szNodeS a n = some r ∧ r ≤ n ∧ (0 ≤ r → a.length ≤ 1048576 ∧ ∀ x ∈ a, GNode.le 1048576 x) := by
  have hw' : a.length ≤ 9223372036854775807 := hw.1
  unfold laws_szNodeS
  rw [w64 (by omega) (by omega)]
  split
  · exact ⟨_, rfl, by omega, fun h => by omega⟩
  · rename_i h
    simp only [decide_eq_true_eq] at h
    have hf : ∀ (m : Int) (k : Nat) (g0 : 0 ≤ m) (g1 : m ≤ 1048576) (hk : k < a.length), ∃ r, r ≤ m ∧ (0 ≤ r → (fun x : GNode => GNode.le 1048576 x) a[k]) ∧ laws_szNodeS_l1 a (m, k) = some (if r < 0 then .inr (.inr (-1)) else .inl (r, ((k + 1 : Nat) : Int))) := by
      intro m k g0 g1 hk
      obtain ⟨r, r1, r2, r3⟩ := laws_szNode_p a[k] (hw.2 _ (List.getElem_mem hk)) m g0 g1
      refine ⟨r, r2, r3, ?_⟩
      simp only [laws_szNodeS_l1, ofNat_lt_true hk, if_true, getI_at hk, Option.bind_some, r1, w64_succ hk hw.1]
      by_cases hr : r < 0 <;> simp [hr]
    obtain ⟨j, hj, hj2⟩ := szS_gen _ a (laws_szNodeS_l1 a) 1048576 hf (fun m => by simp [laws_szNodeS_l1]) (n - a.length) (by omega) (by omega)
    rcases hj2 with rfl | ⟨m, rfl, q1, q2, q3⟩
    · exact ⟨-1, by rw [hj]; rfl, by omega, fun h => by omega⟩
    · exact ⟨m, by rw [hj]; rfl, by omega, fun _ => ⟨by omega, q3⟩⟩
theorem laws_toNodeS_p (a : List GNode) (h : a.length ≤ 1048576 ∧ ∀ x ∈ a, GNode.le 1048576 x) : laws_toNodeS a = some a := by
  have hl : a.length ≤ 1048576 := h.1
  unfold laws_toNodeS
  rw [mkI_len _ _ _ (by omega) (by omega)]
  simp only [Option.bind_some]
  rw [toS_gen a _ (laws_toNodeS_l1 a) (fun out k hk ho => ?_) (fun out => by simp [laws_toNodeS_l1])]
  · rfl
  · simp only [laws_toNodeS_l1, ofNat_lt_true hk, if_true, getI_at hk, Option.bind_some, laws_toNode_p a[k] (h.2 _ (List.getElem_mem hk)), getI_at (show k < out.length by omega), bindS_def, Int.toNat_natCast, w64_succ hk (show a.length ≤ maxLen by show _ ≤ 9223372036854775807; omega)]
theorem laws_eqNodeS_p (a b : List GNode) (ha : a.length ≤ 1048576 ∧ ∀ x ∈ a, GNode.le 1048576 x) (hb : b.length ≤ 1048576 ∧ ∀ x ∈ b, GNode.le 1048576 x) : laws_eqNodeS a b = some (decide (a = b)) := by
  have hl : a.length ≤ 1048576 := ha.1
  unfold laws_eqNodeS
  by_cases hlen : a.length = b.length
  · have hlen' : ((a.length : Int) != (b.length : Int)) = false := by simp [hlen]
    simp only [hlen', Bool.false_eq_true, if_false]
    have key := eqS_gen a b (fun x y => decide (x = y)) (fun x _ y _ => by simp) hlen (laws_eqNodeS_l1 a b) (fun k hk hk2 => ?_) (by simp [laws_eqNodeS_l1])
    · by_cases e : a = b
      · rw [key.1 e]; simp [e]
      · rw [key.2 e]; simp [e]
    simp only [laws_eqNodeS_l1, ofNat_lt_true hk, if_true, getI_at hk, getI_at hk2, Option.bind_some, laws_eqNode_p a[k] b[k] (ha.2 _ (List.getElem_mem hk)) (hb.2 _ (List.getElem_mem hk2)), w64_succ hk (show a.length ≤ maxLen by show _ ≤ 9223372036854775807; omega)]
    try (by_cases e : a[k] = b[k] <;> simp [e])
  · have hlen' : ((a.length : Int) != (b.length : Int)) = true := by simp; omega
    have hne : a ≠ b := fun e => hlen (by rw [e])
    simp [hlen', hne]
theorem laws_szParam_p (a : GParam) (hw : GParam.le maxLen a) (n : Int) (h0 : 0 ≤ n) (h1 : n ≤ 1048576) : ∃ r, laws_szParam a n = some r ∧ r ≤ n ∧ (0 ≤ r → GParam.le 1048576 a) := by
  have hw0 := hw; unfold GParam.le at hw0
  unfold laws_szParam
  have hs0 : a.Name.size ≤ 9223372036854775807 := hw0
  simp only [w64 (n := n - (a.Name.size : Int)) (by omega) (by omega)]
  by_cases hn0 : (n - (a.Name.size : Int)) < 0
  · simp only [hn0, decide_true, if_true]; exact ⟨_, rfl, by omega, fun h => by omega⟩
  simp only [hn0, decide_false, Bool.false_eq_true, if_false]
  exact ⟨_, rfl, by omega, fun _ => (by unfold GParam.le; first | omega | exact trivial)⟩
theorem laws_toParam_p (a : GParam) (h : GParam.le 1048576 a) : laws_toParam a = some a := by
  have h0 := h; unfold GParam.le at h0
  unfold laws_toParam
  rfl
theorem laws_eqParam_p (a b : GParam) (ha : GParam.le 1048576 a) (hb : GParam.le 1048576 b) : laws_eqParam a b = some (decide (a = b)) := by
  have ha0 := ha; have hb0 := hb; unfold GParam.le at ha0 hb0
  unfold laws_eqParam
  simp only [sEq_iff, Option.bind_some]
  rw [show decide (a = b) = decide (a.Name = b.Name ∧ a.Typ = b.Typ) from by simp only [GParam.ext' a b]]
  by_cases e0 : a.Name = b.Name <;> by_cases e1 : a.Typ = b.Typ <;> simp [e0, e1]
theorem laws_szParamS_p (a : List GParam) (hw : a.length ≤ maxLen ∧ ∀ x ∈ a, GParam.le maxLen x) (n : Int) (h0 : 0 ≤ n) (h1 : n ≤ 1048576) : ∃ r, laws_szParamS a n = some r ∧ r ≤ n ∧ (0 ≤ r → a.length ≤ 1048576 ∧ ∀ x ∈ a, GParam.le 1048576 x) := by
  have hw' : a.length ≤ 9223372036854775807 := hw.1
  unfold laws_szParamS
  rw [w64 (by omega) (by omega)]
  split
  · exact ⟨_, rfl, by omega, fun h => by omega⟩
  · rename_i h
    simp only [decide_eq_true_eq] at h
    have hf : ∀ (m : Int) (k : Nat) (g0 : 0 ≤ m) (g1 : m ≤ 1048576) (hk : k < a.length), ∃ r, r ≤ m ∧ (0 ≤ r → (fun x : GParam => GParam.le 1048576 x) a[k]) ∧ laws_szParamS_l1 a (m, k) = some (if r < 0 then .inr (.inr (-1)) else .inl (r, ((k + 1 : Nat) : Int))) := by
      intro m k g0 g1 hk
      obtain ⟨r, r1, r2, r3⟩ := laws_szParam_p a[k] (hw.2 _ (List.getElem_mem hk)) m g0 g1
      refine ⟨r, r2, r3, ?_⟩
      simp only [laws_szParamS_l1, ofNat_lt_true hk, if_true, getI_at hk, Option.bind_some, r1, w64_succ hk hw.1]
      by_cases hr : r < 0 <;> simp [hr]
    obtain ⟨j, hj, hj2⟩ := szS_gen _ a (laws_szParamS_l1 a) 1048576 hf (fun m => by simp [laws_szParamS_l1]) (n - a.length) (by omega) (by omega)
    rcases hj2 with rfl | ⟨m, rfl, q1, q2, q3⟩
    · exact ⟨-1, by rw [hj]; rfl, by omega, fun h => by omega⟩
    · exact ⟨m, by rw [hj]; rfl, by omega, fun _ => ⟨by omega, q3⟩⟩
theorem laws_toParamS_p (a : List GParam) (h : a.length ≤ 1048576 ∧ ∀ x ∈ a, GParam.le 1048576 x) : laws_toParamS a = some a := by
  have hl : a.length ≤ 1048576 := h.1
  unfold laws_toParamS
  rw [mkI_len _ _ _ (by omega) (by omega)]
  simp only [Option.bind_some]
  rw [toS_gen a _ (laws_toParamS_l1 a) (fun out k hk ho => ?_) (fun out => by simp [laws_toParamS_l1])]
  · rfl
  · simp only [laws_toParamS_l1, ofNat_lt_true hk, if_true, getI_at hk, Option.bind_some, laws_toParam_p a[k] (h.2 _ (List.getElem_mem hk)), getI_at (show k < out.length by omega), bindS_def, Int.toNat_natCast, w64_succ hk (show a.length ≤ maxLen by show _ ≤ 9223372036854775807; omega)]
theorem laws_eqParamS_p (a b : List GParam) (ha : a.length ≤ 1048576 ∧ ∀ x ∈ a, GParam.le 1048576 x) (hb : b.length ≤ 1048576 ∧ ∀ x ∈ b, GParam.le 1048576 x) : laws_eqParamS a b = some (decide (a = b)) := by
  have hl : a.length ≤ 1048576 := ha.1
  unfold laws_eqParamS
  by_cases hlen : a.length = b.length
  · have hlen' : ((a.length : Int) != (b.length : Int)) = false := by simp [hlen]
    simp only [hlen', Bool.false_eq_true, if_false]
    have key := eqS_gen a b (fun x y => decide (x = y)) (fun x _ y _ => by simp) hlen (laws_eqParamS_l1 a b) (fun k hk hk2 => ?_) (by simp [laws_eqParamS_l1])
    · by_cases e : a = b
      · rw [key.1 e]; simp [e]
      · rw [key.2 e]; simp [e]
    simp only [laws_eqParamS_l1, ofNat_lt_true hk, if_true, getI_at hk, getI_at hk2, Option.bind_some, laws_eqParam_p a[k] b[k] (ha.2 _ (List.getElem_mem hk)) (hb.2 _ (List.getElem_mem hk2)), w64_succ hk (show a.length ≤ maxLen by show _ ≤ 9223372036854775807; omega)]
    try (by_cases e : a[k] = b[k] <;> simp [e])
  · have hlen' : ((a.length : Int) != (b.length : Int)) = true := by simp; omega
    have hne : a ≠ b := fun e => hlen (by rw [e])
    simp [hlen', hne]
theorem laws_szFn_p (a : GFn) (hw : GFn.le maxLen a) (n : Int) (h0 : 0 ≤ n) (h1 : n ≤ 1048576) : ∃ r, laws_szFn a n = some r ∧ r ≤ n ∧ (0 ≤ r → GFn.le 1048576 a) := by
  obtain ⟨hw0, hw1⟩ := hw
  unfold laws_szFn
  have hs0 : a.Name.size ≤ 9223372036854775807 := hw0
  simp only [w64 (n := n - (a.Name.size : Int)) (by omega) (by omega)]
  by_cases hn0 : (n - (a.Name.size : Int)) < 0
  · simp only [hn0, decide_true, if_true]; exact ⟨_, rfl, by omega, fun h => by omega⟩
  simp only [hn0, decide_false, Bool.false_eq_true, if_false]
  obtain ⟨r1, q1a, q1b, q1c⟩ := laws_szParamS_p a.Params hw1 (n - (a.Name.size : Int)) (by omega) (by omega)
  simp only [q1a, Option.bind_some]
  by_cases hn1 : r1 < 0
  · simp only [hn1, decide_true, if_true]; exact ⟨_, rfl, by omega, fun h => by omega⟩
  simp only [hn1, decide_false, Bool.false_eq_true, if_false]
  exact ⟨_, rfl, by omega, fun _ => ⟨by omega, q1c (by omega)⟩⟩
theorem laws_toFn_p (a : GFn) (h : GFn.le 1048576 a) : laws_toFn a = some a := by
  obtain ⟨h0, h1⟩ := h
  unfold laws_toFn
  simp only [laws_toParamS_p a.Params h1, Option.bind_some]
theorem laws_eqFn_p (a b : GFn) (ha : GFn.le 1048576 a) (hb : GFn.le 1048576 b) : laws_eqFn a b = some (decide (a = b)) := by
  obtain ⟨ha0, ha1⟩ := ha
  obtain ⟨hb0, hb1⟩ := hb
  unfold laws_eqFn
  simp only [sEq_iff, Option.bind_some, laws_eqParamS_p a.Params b.Params ha1 hb1]
  rw [show decide (a = b) = decide (a.Name = b.Name ∧ a.Params = b.Params ∧ a.Res = b.Res ∧ a.Body = b.Body ∧ a.Ret = b.Ret) from by simp only [GFn.ext' a b]]
  by_cases e0 : a.Name = b.Name <;> by_cases e1 : a.Params = b.Params <;> by_cases e2 : a.Res = b.Res <;> by_cases e3 : a.Body = b.Body <;> by_cases e4 : a.Ret = b.Ret <;> simp [e0, e1, e2, e3, e4]
theorem laws_szFnS_p (a : List GFn) (hw : a.length ≤ maxLen ∧ ∀ x ∈ a, GFn.le maxLen x) (n : Int) (h0 : 0 ≤ n) (h1 : n ≤ 1048576) : ∃ r, laws_szFnS a n = some r ∧ r ≤ n ∧ (0 ≤ r → a.length ≤ 1048576 ∧ ∀ x ∈ a, GFn.le 1048576 x) := by
  have hw' : a.length ≤ 9223372036854775807 := hw.1
  unfold laws_szFnS
  rw [w64 (by omega) (by omega)]
  split
  · exact ⟨_, rfl, by omega, fun h => by omega⟩
  · rename_i h
    simp only [decide_eq_true_eq] at h
    have hf : ∀ (m : Int) (k : Nat) (g0 : 0 ≤ m) (g1 : m ≤ 1048576) (hk : k < a.length), ∃ r, r ≤ m ∧ (0 ≤ r → (fun x : GFn => GFn.le 1048576 x) a[k]) ∧ laws_szFnS_l1 a (m, k) = some (if r < 0 then .inr (.inr (-1)) else .inl (r, ((k + 1 : Nat) : Int))) := by
      intro m k g0 g1 hk
      obtain ⟨r, r1, r2, r3⟩ := laws_szFn_p a[k] (hw.2 _ (List.getElem_mem hk)) m g0 g1
      refine ⟨r, r2, r3, ?_⟩
      simp only [laws_szFnS_l1, ofNat_lt_true hk, if_true, getI_at hk, Option.bind_some, r1, w64_succ hk hw.1]
      by_cases hr : r < 0 <;> simp [hr]
    obtain ⟨j, hj, hj2⟩ := szS_gen _ a (laws_szFnS_l1 a) 1048576 hf (fun m => by simp [laws_szFnS_l1]) (n - a.length) (by omega) (by omega)
    rcases hj2 with rfl | ⟨m, rfl, q1, q2, q3⟩
    · exact ⟨-1, by rw [hj]; rfl, by omega, fun h => by omega⟩
    · exact ⟨m, by rw [hj]; rfl, by omega, fun _ => ⟨by omega, q3⟩⟩
theorem laws_toFnS_p (a : List GFn) (h : a.length ≤ 1048576 ∧ ∀ x ∈ a, GFn.le 1048576 x) : laws_toFnS a = some a := by
  have hl : a.length ≤ 1048576 := h.1
  unfold laws_toFnS
  rw [mkI_len _ _ _ (by omega) (by omega)]
  simp only [Option.bind_some]
  rw [toS_gen a _ (laws_toFnS_l1 a) (fun out k hk ho => ?_) (fun out => by simp [laws_toFnS_l1])]
  · rfl
  · simp only [laws_toFnS_l1, ofNat_lt_true hk, if_true, getI_at hk, Option.bind_some, laws_toFn_p a[k] (h.2 _ (List.getElem_mem hk)), getI_at (show k < out.length by omega), bindS_def, Int.toNat_natCast, w64_succ hk (show a.length ≤ maxLen by show _ ≤ 9223372036854775807; omega)]
theorem laws_eqFnS_p (a b : List GFn) (ha : a.length ≤ 1048576 ∧ ∀ x ∈ a, GFn.le 1048576 x) (hb : b.length ≤ 1048576 ∧ ∀ x ∈ b, GFn.le 1048576 x) : laws_eqFnS a b = some (decide (a = b)) := by
  have hl : a.length ≤ 1048576 := ha.1
  unfold laws_eqFnS
  by_cases hlen : a.length = b.length
  · have hlen' : ((a.length : Int) != (b.length : Int)) = false := by simp [hlen]
    simp only [hlen', Bool.false_eq_true, if_false]
    have key := eqS_gen a b (fun x y => decide (x = y)) (fun x _ y _ => by simp) hlen (laws_eqFnS_l1 a b) (fun k hk hk2 => ?_) (by simp [laws_eqFnS_l1])
    · by_cases e : a = b
      · rw [key.1 e]; simp [e]
      · rw [key.2 e]; simp [e]
    simp only [laws_eqFnS_l1, ofNat_lt_true hk, if_true, getI_at hk, getI_at hk2, Option.bind_some, laws_eqFn_p a[k] b[k] (ha.2 _ (List.getElem_mem hk)) (hb.2 _ (List.getElem_mem hk2)), w64_succ hk (show a.length ≤ maxLen by show _ ≤ 9223372036854775807; omega)]
    try (by_cases e : a[k] = b[k] <;> simp [e])
  · have hlen' : ((a.length : Int) != (b.length : Int)) = true := by simp; omega
    have hne : a ≠ b := fun e => hlen (by rw [e])
    simp [hlen', hne]
theorem laws_szProgram_p (a : GProgram) (hw : GProgram.le maxLen a) (n : Int) (h0 : 0 ≤ n) (h1 : n ≤ 1048576) : ∃ r, laws_szProgram a n = some r ∧ r ≤ n ∧ (0 ≤ r → GProgram.le 1048576 a) := by
  obtain ⟨hw0, hw1⟩ := hw
  unfold laws_szProgram
  obtain ⟨r0, q0a, q0b, q0c⟩ := laws_szNodeS_p a.Nodes hw0 n (by omega) (by omega)
  simp only [q0a, Option.bind_some]
  by_cases hn0 : r0 < 0
  · simp only [hn0, decide_true, if_true]; exact ⟨_, rfl, by omega, fun h => by omega⟩
  simp only [hn0, decide_false, Bool.false_eq_true, if_false]
  obtain ⟨r1, q1a, q1b, q1c⟩ := laws_szFnS_p a.Fns hw1 r0 (by omega) (by omega)
  simp only [q1a, Option.bind_some]
  by_cases hn1 : r1 < 0
  · simp only [hn1, decide_true, if_true]; exact ⟨_, rfl, by omega, fun h => by omega⟩
  simp only [hn1, decide_false, Bool.false_eq_true, if_false]
  exact ⟨_, rfl, by omega, fun _ => ⟨q0c (by omega), q1c (by omega)⟩⟩
theorem laws_toProgram_p (a : GProgram) (h : GProgram.le 1048576 a) : laws_toProgram a = some a := by
  obtain ⟨h0, h1⟩ := h
  unfold laws_toProgram
  simp only [laws_toNodeS_p a.Nodes h0, laws_toFnS_p a.Fns h1, Option.bind_some]
theorem laws_eqProgram_p (a b : GProgram) (ha : GProgram.le 1048576 a) (hb : GProgram.le 1048576 b) : laws_eqProgram a b = some (decide (a = b)) := by
  obtain ⟨ha0, ha1⟩ := ha
  obtain ⟨hb0, hb1⟩ := hb
  unfold laws_eqProgram
  simp only [sEq_iff, Option.bind_some, laws_eqNodeS_p a.Nodes b.Nodes ha0 hb0, laws_eqFnS_p a.Fns b.Fns ha1 hb1]
  rw [show decide (a = b) = decide (a.Nodes = b.Nodes ∧ a.Fns = b.Fns) from by simp only [GProgram.ext' a b]]
  by_cases e0 : a.Nodes = b.Nodes <;> by_cases e1 : a.Fns = b.Fns <;> simp [e0, e1]
theorem laws_eqBlock_p (a b : GBlock) (ha : GBlock.le 1048576 a) (hb : GBlock.le 1048576 b) : laws_eqBlock a b = some (decide (a = b)) := by
  have ha0 := ha; have hb0 := hb; unfold GBlock.le at ha0 hb0
  unfold laws_eqBlock
  simp only [sEq_iff, Option.bind_some, laws_eqIntS_p a.Next b.Next ha0 hb0]
  rw [show decide (a = b) = decide (a.From = b.From ∧ a.To = b.To ∧ a.Next = b.Next) from by simp only [GBlock.ext' a b]]
  by_cases e0 : a.From = b.From <;> by_cases e1 : a.To = b.To <;> by_cases e2 : a.Next = b.Next <;> simp [e0, e1, e2]
theorem laws_eqBlockS_p (a b : List GBlock) (ha : a.length ≤ 1048576 ∧ ∀ x ∈ a, GBlock.le 1048576 x) (hb : b.length ≤ 1048576 ∧ ∀ x ∈ b, GBlock.le 1048576 x) : laws_eqBlockS a b = some (decide (a = b)) := by
  have hl : a.length ≤ 1048576 := ha.1
  unfold laws_eqBlockS
  by_cases hlen : a.length = b.length
  · have hlen' : ((a.length : Int) != (b.length : Int)) = false := by simp [hlen]
    simp only [hlen', Bool.false_eq_true, if_false]
    have key := eqS_gen a b (fun x y => decide (x = y)) (fun x _ y _ => by simp) hlen (laws_eqBlockS_l1 a b) (fun k hk hk2 => ?_) (by simp [laws_eqBlockS_l1])
    · by_cases e : a = b
      · rw [key.1 e]; simp [e]
      · rw [key.2 e]; simp [e]
    simp only [laws_eqBlockS_l1, ofNat_lt_true hk, if_true, getI_at hk, getI_at hk2, Option.bind_some, laws_eqBlock_p a[k] b[k] (ha.2 _ (List.getElem_mem hk)) (hb.2 _ (List.getElem_mem hk2)), w64_succ hk (show a.length ≤ maxLen by show _ ≤ 9223372036854775807; omega)]
    try (by_cases e : a[k] = b[k] <;> simp [e])
  · have hlen' : ((a.length : Int) != (b.length : Int)) = true := by simp; omega
    have hne : a ≠ b := fun e => hlen (by rw [e])
    simp [hlen', hne]
theorem laws_eqBoolSS_p (a b : List (List Bool)) (ha : a.length ≤ 1048576 ∧ ∀ x ∈ a, x.length ≤ 1048576) (hb : b.length ≤ 1048576 ∧ ∀ x ∈ b, x.length ≤ 1048576) : laws_eqBoolSS a b = some (decide (a = b)) := by
  have hl : a.length ≤ 1048576 := ha.1
  unfold laws_eqBoolSS
  by_cases hlen : a.length = b.length
  · have hlen' : ((a.length : Int) != (b.length : Int)) = false := by simp [hlen]
    simp only [hlen', Bool.false_eq_true, if_false]
    have key := eqS_gen a b (fun x y => decide (x = y)) (fun x _ y _ => by simp) hlen (laws_eqBoolSS_l1 a b) (fun k hk hk2 => ?_) (by simp [laws_eqBoolSS_l1])
    · by_cases e : a = b
      · rw [key.1 e]; simp [e]
      · rw [key.2 e]; simp [e]
    simp only [laws_eqBoolSS_l1, ofNat_lt_true hk, if_true, getI_at hk, getI_at hk2, Option.bind_some, laws_eqBoolS_p a[k] b[k] (ha.2 _ (List.getElem_mem hk)) (hb.2 _ (List.getElem_mem hk2)), w64_succ hk (show a.length ≤ maxLen by show _ ≤ 9223372036854775807; omega)]
    try (by_cases e : a[k] = b[k] <;> simp [e])
  · have hlen' : ((a.length : Int) != (b.length : Int)) = true := by simp; omega
    have hne : a ≠ b := fun e => hlen (by rw [e])
    simp [hlen', hne]
theorem laws_markText_p (k : Int) (h0 : 0 ≤ k) (h1 : k ≤ 9223372036854775807) : ∃ z, laws_markText k = some z := by
  unfold laws_markText
  by_cases hk : k ≤ 0
  · simp [hk]
  · simp only [hk, decide_false, Bool.false_eq_true, if_false]
    obtain ⟨z, h2, h3⟩ := text_loop laws_markText_l1 (fun k o hk => ⟨IntKind.wrap .u8 (IntKind.wrap .i64 (48 + (Int.tmod k 10))), by simp only [laws_markText_l1, gt_iff_lt, hk, decide_true, if_true]⟩) (fun k o hk => by simp only [laws_markText_l1, gt_iff_lt, show ¬ 0 < k by omega, decide_false, Bool.false_eq_true, if_false]) k h0 h1
    rw [h2]
    have hs : (⟨#[109]⟩ : ByteArray).size = 1 := rfl
    simp only [Option.bind_some]
    rw [sCat_ok' (by rw [hs]; omega)]
    exact ⟨_, rfl⟩
theorem laws_markIntS_p (a : List Int) (ha : a.length ≤ 1048576) (k : Int) (h0 : 0 ≤ k) (h1 : k + 1048576 ≤ 4611686018427387904) : ∃ k' a', laws_markIntS a k = some (k', a') ∧ k ≤ k' ∧ k' ≤ k + 1048576 ∧ laws_heldIntS a' k = some k' := by
  have hlen : a.length ≤ 1048576 := ha
  have hM : ∃ k' a', loopP laws_markIntS_l1 (a, k, 0) = some (a', k') ∧ k ≤ k' ∧ k' ≤ k + 1 * 1048576 ∧ a'.length = a.length ∧ ∃ ks : Nat → Int, ks 0 = k ∧ ks a.length = k' ∧ ∀ (j : Nat) (hj : j < a'.length), (fun (x : Int) (k k' : Int) => x = k ∧ k' = (k + 1)) a'[j] (ks j) (ks (j + 1)) ∧ 0 ≤ ks j ∧ ks j ≤ ks (j + 1) ∧ ks j ≤ 4611686018427387904 := by
    refine markS_gen (fun x : Int => True) (fun (x : Int) (k k' : Int) => x = k ∧ k' = (k + 1)) 1 4611686018427387904 laws_markIntS_l1 (fun out k i hi hlen h0 h1 hok => ?_) (fun out k => by simp [laws_markIntS_l1]) a hlen (fun x hx => trivial) k h0 (by omega)
    refine ⟨(k + 1), k, by omega, by omega, ?_, ?_⟩
    · simp []
    · simp (disch := omega) only [laws_markIntS_l1, ofNat_lt_true hi, if_true, getI_at, getI_set, Option.bind_some, bindS_def, Int.toNat_natCast, List.length_set, List.set_set, w64, Int.natCast_add, Int.natCast_one]
  obtain ⟨k', a', h2, h3, h4, h5, ks, e0, e1, h6⟩ := hM
  refine ⟨k', a', by unfold laws_markIntS; rw [h2]; rfl, h3, by omega, ?_⟩
  have hg : loopP (laws_heldIntS_l1 a') (ks 0, 0) = some (.inl (ks a'.length)) := by
    refine heldS_gen a' (fun (x : Int) (k k' : Int) => x = k ∧ k' = (k + 1)) 4611686018427387904 ks (laws_heldIntS_l1 a') h6 (fun j hj k k' hm h0 hk h1 => ?_) (fun k => by simp [laws_heldIntS_l1])
    have hjl : a'.length ≤ 1048576 := by omega
    obtain ⟨y0, yk⟩ := hm
    subst yk
    have hw1 : IntKind.wrap .i64 ((j : Int) + 1) = (j : Int) + 1 := w64 (by omega) (by omega)
    simp only [laws_heldIntS_l1, ofNat_lt_true hj, getI_at hj, hw1, if_true, Option.bind_some]
    simp (disch := omega) [w64, sEq_iff, y0]
  unfold laws_heldIntS
  rw [e0, h5, e1] at hg
  rw [hg]
  rfl
theorem laws_markInsS_p (a : List GIns) (ha : a.length ≤ 1048576 ∧ ∀ x ∈ a, GIns.le 1048576 x) (k : Int) (h0 : 0 ≤ k) (h1 : k + 1099517919232 ≤ 4611686018427387904) : ∃ k' a', laws_markInsS a k = some (k', a') ∧ k ≤ k' ∧ k' ≤ k + 1099517919232 := by
  have hlen : a.length ≤ 1048576 := ha.1
  have hM : ∃ k' a', loopP laws_markInsS_l1 (a, k, 0) = some (a', k') ∧ k ≤ k' ∧ k' ≤ k + 1048582 * 1048576 ∧ a'.length = a.length ∧ ∃ ks : Nat → Int, ks 0 = k ∧ ks a.length = k' ∧ ∀ (j : Nat) (hj : j < a'.length), (fun (x : GIns) (k k' : Int) => True) a'[j] (ks j) (ks (j + 1)) ∧ 0 ≤ ks j ∧ ks j ≤ ks (j + 1) ∧ ks j ≤ 4611686018427387904 := by
    refine markS_gen (fun x : GIns => GIns.le 1048576 x) (fun (x : GIns) (k k' : Int) => True) 1048582 4611686018427387904 laws_markInsS_l1 (fun out k i hi hlen h0 h1 hok => ?_) (fun out k => by simp [laws_markInsS_l1]) a hlen (fun x hx => ha.2 x hx) k h0 (by omega)
    obtain ⟨hok_Name, hok_Args⟩ := hok
    obtain ⟨z5, hz5⟩ := laws_markText_p (((((k + 1) + 1) + 1) + 1) + 1) (by omega) (by omega)
    obtain ⟨q6, b6, mm6, l6, u6, hh6⟩ := laws_markIntS_p out[i].Args hok_Args ((((((k + 1) + 1) + 1) + 1) + 1) + 1) (by omega) (by omega)
    refine ⟨q6, (⟨k, (k + 1), ((k + 1) + 1), (((k + 1) + 1) + 1), ((((k + 1) + 1) + 1) + 1), z5, b6⟩ : GIns), by omega, by omega, trivial, ?_⟩
    · simp (disch := omega) only [laws_markInsS_l1, ofNat_lt_true hi, if_true, getI_at, getI_set, Option.bind_some, bindS_def, Int.toNat_natCast, List.length_set, List.set_set, w64, hz5, mm6, Int.natCast_add, Int.natCast_one]
  obtain ⟨k', a', h2, h3, h4, h5, ks, e0, e1, h6⟩ := hM
  refine ⟨k', a', by unfold laws_markInsS; rw [h2]; rfl, h3, by omega⟩
theorem laws_markCode_p (a : GCode) (ha : GCode.le 1048576 a) (k : Int) (h0 : 0 ≤ k) (h1 : k + 1099518967810 ≤ 4611686018427387904) : ∃ k' a', laws_markCode a k = some (k', a') ∧ k ≤ k' ∧ k' ≤ k + 1099518967810 := by
  obtain ⟨ha_Name, ha_Locals, ha_Words⟩ := ha
  obtain ⟨k0, b0, m0, l0, u0, e0⟩ := laws_markIntS_p a.Locals ha_Locals k (by omega) (by omega)
  obtain ⟨k1, b1, m1, l1, u1⟩ := laws_markInsS_p a.Words ha_Words k0 (by omega) (by omega)
  refine ⟨k1, ⟨a.Name, a.Params, b0, b1⟩, ?_, by omega, by omega⟩
  · unfold laws_markCode; simp [m0, m1]
theorem laws_markBoolS_p (a : List Bool) (ha : a.length ≤ 1048576) (k : Int) (h0 : 0 ≤ k) (h1 : k + 1048576 ≤ 4611686018427387904) : ∃ k' a', laws_markBoolS a k = some (k', a') ∧ k ≤ k' ∧ k' ≤ k + 1048576 ∧ laws_heldBoolS a' k = some k' := by
  have hlen : a.length ≤ 1048576 := ha
  have hM : ∃ k' a', loopP laws_markBoolS_l1 (a, k, 0) = some (a', k') ∧ k ≤ k' ∧ k' ≤ k + 1 * 1048576 ∧ a'.length = a.length ∧ ∃ ks : Nat → Int, ks 0 = k ∧ ks a.length = k' ∧ ∀ (j : Nat) (hj : j < a'.length), (fun (x : Bool) (k k' : Int) => x = ((Int.tmod k 3) == 0) ∧ k' = (k + 1)) a'[j] (ks j) (ks (j + 1)) ∧ 0 ≤ ks j ∧ ks j ≤ ks (j + 1) ∧ ks j ≤ 4611686018427387904 := by
    refine markS_gen (fun x : Bool => True) (fun (x : Bool) (k k' : Int) => x = ((Int.tmod k 3) == 0) ∧ k' = (k + 1)) 1 4611686018427387904 laws_markBoolS_l1 (fun out k i hi hlen h0 h1 hok => ?_) (fun out k => by simp [laws_markBoolS_l1]) a hlen (fun x hx => trivial) k h0 (by omega)
    refine ⟨(k + 1), ((Int.tmod k 3) == 0), by omega, by omega, ?_, ?_⟩
    · simp []
    · simp (disch := omega) only [laws_markBoolS_l1, ofNat_lt_true hi, if_true, getI_at, getI_set, Option.bind_some, bindS_def, Int.toNat_natCast, List.length_set, List.set_set, w64, Int.natCast_add, Int.natCast_one]
  obtain ⟨k', a', h2, h3, h4, h5, ks, e0, e1, h6⟩ := hM
  refine ⟨k', a', by unfold laws_markBoolS; rw [h2]; rfl, h3, by omega, ?_⟩
  have hg : loopP (laws_heldBoolS_l1 a') (ks 0, 0) = some (.inl (ks a'.length)) := by
    refine heldS_gen a' (fun (x : Bool) (k k' : Int) => x = ((Int.tmod k 3) == 0) ∧ k' = (k + 1)) 4611686018427387904 ks (laws_heldBoolS_l1 a') h6 (fun j hj k k' hm h0 hk h1 => ?_) (fun k => by simp [laws_heldBoolS_l1])
    have hjl : a'.length ≤ 1048576 := by omega
    obtain ⟨y0, yk⟩ := hm
    subst yk
    have hw1 : IntKind.wrap .i64 ((j : Int) + 1) = (j : Int) + 1 := w64 (by omega) (by omega)
    simp only [laws_heldBoolS_l1, ofNat_lt_true hj, getI_at hj, hw1, if_true, Option.bind_some]
    simp (disch := omega) [w64, sEq_iff, y0]
  unfold laws_heldBoolS
  rw [e0, h5, e1] at hg
  rw [hg]
  rfl
theorem laws_markBlockS_p (a : List GBlock) (ha : a.length ≤ 1048576 ∧ ∀ x ∈ a, GBlock.le 1048576 x) (k : Int) (h0 : 0 ≤ k) (h1 : k + 1099513724928 ≤ 4611686018427387904) : ∃ k' a', laws_markBlockS a k = some (k', a') ∧ k ≤ k' ∧ k' ≤ k + 1099513724928 ∧ laws_heldBlockS a' k = some k' := by
  have hlen : a.length ≤ 1048576 := ha.1
  have hM : ∃ k' a', loopP laws_markBlockS_l1 (a, k, 0) = some (a', k') ∧ k ≤ k' ∧ k' ≤ k + 1048578 * 1048576 ∧ a'.length = a.length ∧ ∃ ks : Nat → Int, ks 0 = k ∧ ks a.length = k' ∧ ∀ (j : Nat) (hj : j < a'.length), (fun (x : GBlock) (k k' : Int) => x.From = k ∧ x.To = (k + 1) ∧ ∃ q2, laws_heldIntS x.Next ((k + 1) + 1) = some q2 ∧ ((k + 1) + 1) ≤ q2 ∧ k' = q2) a'[j] (ks j) (ks (j + 1)) ∧ 0 ≤ ks j ∧ ks j ≤ ks (j + 1) ∧ ks j ≤ 4611686018427387904 := by
    refine markS_gen (fun x : GBlock => GBlock.le 1048576 x) (fun (x : GBlock) (k k' : Int) => x.From = k ∧ x.To = (k + 1) ∧ ∃ q2, laws_heldIntS x.Next ((k + 1) + 1) = some q2 ∧ ((k + 1) + 1) ≤ q2 ∧ k' = q2) 1048578 4611686018427387904 laws_markBlockS_l1 (fun out k i hi hlen h0 h1 hok => ?_) (fun out k => by simp [laws_markBlockS_l1]) a hlen (fun x hx => ha.2 x hx) k h0 (by omega)
    have hok_Next := hok; simp only [GBlock.le] at hok_Next
    obtain ⟨q2, b2, mm2, l2, u2, hh2⟩ := laws_markIntS_p out[i].Next hok_Next ((k + 1) + 1) (by omega) (by omega)
    refine ⟨q2, (⟨k, (k + 1), b2⟩ : GBlock), by omega, by omega, ?_, ?_⟩
    · simp [hh2]; try omega
    · simp (disch := omega) only [laws_markBlockS_l1, ofNat_lt_true hi, if_true, getI_at, getI_set, Option.bind_some, bindS_def, Int.toNat_natCast, List.length_set, List.set_set, w64, mm2, Int.natCast_add, Int.natCast_one]
  obtain ⟨k', a', h2, h3, h4, h5, ks, e0, e1, h6⟩ := hM
  refine ⟨k', a', by unfold laws_markBlockS; rw [h2]; rfl, h3, by omega, ?_⟩
  have hg : loopP (laws_heldBlockS_l1 a') (ks 0, 0) = some (.inl (ks a'.length)) := by
    refine heldS_gen a' (fun (x : GBlock) (k k' : Int) => x.From = k ∧ x.To = (k + 1) ∧ ∃ q2, laws_heldIntS x.Next ((k + 1) + 1) = some q2 ∧ ((k + 1) + 1) ≤ q2 ∧ k' = q2) 4611686018427387904 ks (laws_heldBlockS_l1 a') h6 (fun j hj k k' hm h0 hk h1 => ?_) (fun k => by simp [laws_heldBlockS_l1])
    have hjl : a'.length ≤ 1048576 := by omega
    obtain ⟨y0, ⟨y1, ⟨q2, y2, yy2, yk⟩⟩⟩ := hm
    subst yk
    have hw1 : IntKind.wrap .i64 ((j : Int) + 1) = (j : Int) + 1 := w64 (by omega) (by omega)
    simp only [laws_heldBlockS_l1, ofNat_lt_true hj, getI_at hj, hw1, if_true, Option.bind_some]
    simp (disch := omega) [w64, sEq_iff, y0, y1, y2, show ¬ k' < 0 by omega, show 0 ≤ k' by omega]
  unfold laws_heldBlockS
  rw [e0, h5, e1] at hg
  rw [hg]
  rfl
theorem laws_markBoolSS_p (a : List (List Bool)) (ha : a.length ≤ 1048576 ∧ ∀ x ∈ a, x.length ≤ 1048576) (k : Int) (h0 : 0 ≤ k) (h1 : k + 1099511627776 ≤ 4611686018427387904) : ∃ k' a', laws_markBoolSS a k = some (k', a') ∧ k ≤ k' ∧ k' ≤ k + 1099511627776 ∧ laws_heldBoolSS a' k = some k' := by
  have hlen : a.length ≤ 1048576 := ha.1
  have hM : ∃ k' a', loopP laws_markBoolSS_l1 (a, k, 0) = some (a', k') ∧ k ≤ k' ∧ k' ≤ k + 1048576 * 1048576 ∧ a'.length = a.length ∧ ∃ ks : Nat → Int, ks 0 = k ∧ ks a.length = k' ∧ ∀ (j : Nat) (hj : j < a'.length), (fun (x : List Bool) (k k' : Int) => ∃ q0, laws_heldBoolS x k = some q0 ∧ k ≤ q0 ∧ k' = q0) a'[j] (ks j) (ks (j + 1)) ∧ 0 ≤ ks j ∧ ks j ≤ ks (j + 1) ∧ ks j ≤ 4611686018427387904 := by
    refine markS_gen (fun x : List Bool => x.length ≤ 1048576) (fun (x : List Bool) (k k' : Int) => ∃ q0, laws_heldBoolS x k = some q0 ∧ k ≤ q0 ∧ k' = q0) 1048576 4611686018427387904 laws_markBoolSS_l1 (fun out k i hi hlen h0 h1 hok => ?_) (fun out k => by simp [laws_markBoolSS_l1]) a hlen (fun x hx => ha.2 x hx) k h0 (by omega)
    obtain ⟨q0, b0, mm0, l0, u0, hh0⟩ := laws_markBoolS_p out[i] hok k (by omega) (by omega)
    refine ⟨q0, b0, by omega, by omega, ?_, ?_⟩
    · simp [hh0]; try omega
    · simp (disch := omega) only [laws_markBoolSS_l1, ofNat_lt_true hi, if_true, getI_at, getI_set, Option.bind_some, bindS_def, Int.toNat_natCast, List.length_set, List.set_set, w64, mm0, Int.natCast_add, Int.natCast_one]
  obtain ⟨k', a', h2, h3, h4, h5, ks, e0, e1, h6⟩ := hM
  refine ⟨k', a', by unfold laws_markBoolSS; rw [h2]; rfl, h3, by omega, ?_⟩
  have hg : loopP (laws_heldBoolSS_l1 a') (ks 0, 0) = some (.inl (ks a'.length)) := by
    refine heldS_gen a' (fun (x : List Bool) (k k' : Int) => ∃ q0, laws_heldBoolS x k = some q0 ∧ k ≤ q0 ∧ k' = q0) 4611686018427387904 ks (laws_heldBoolSS_l1 a') h6 (fun j hj k k' hm h0 hk h1 => ?_) (fun k => by simp [laws_heldBoolSS_l1])
    have hjl : a'.length ≤ 1048576 := by omega
    obtain ⟨q0, y0, yy0, yk⟩ := hm
    subst yk
    have hw1 : IntKind.wrap .i64 ((j : Int) + 1) = (j : Int) + 1 := w64 (by omega) (by omega)
    simp only [laws_heldBoolSS_l1, ofNat_lt_true hj, getI_at hj, hw1, if_true, Option.bind_some]
    simp (disch := omega) [w64, sEq_iff, y0, show ¬ k' < 0 by omega, show 0 ≤ k' by omega]
  unfold laws_heldBoolSS
  rw [e0, h5, e1] at hg
  rw [hg]
  rfl
end Go.OM
set_option linter.unusedVariables false
set_option linter.unusedSimpArgs false
namespace Go.OM
/-! ### Numbers in bounds, names, words, codes -/
theorem ite_some {α : Type} {c : Prop} [Decidable c] (a b : α) : (if c then some a else some b) = some (if c then a else b) := by split <;> rfl
theorem ite_bool (c : Prop) [Decidable c] (b : Bool) : (if c then true else b) = (decide c || b) := by by_cases h : c <;> simp [h]
theorem ite_bool2 (c : Prop) [Decidable c] (b : Bool) : (if c then b else false) = (decide c && b) := by by_cases h : c <;> simp [h]
def inB (x a b : Int) : Bool := decide (a ≤ x) && decide (x ≤ b)
theorem inB_iff {x a b : Int} : inB x a b = true ↔ a ≤ x ∧ x ≤ b := by simp [inB]
theorem inB_false {x a b : Int} : inB x a b = false ↔ ¬ (a ≤ x ∧ x ≤ b) := by rw [← inB_iff]; simp
theorem impl_in_eq (x a b : Int) : impl_in x a b = some (inB x a b) := by
  unfold impl_in inB
  by_cases h : a ≤ x <;> simp [h]
theorem spec_in_eq (x a b : Int) : spec_l01In x a b = some (inB x a b) := by
  unfold spec_l01In inB
  by_cases h : a ≤ x <;> simp [h]
def bI (z : ByteArray) : List Int := z.data.toList.map fun x => ((x.toNat : Nat) : Int)
theorem bI_length (z : ByteArray) : (bI z).length = z.size := by rw [bI, List.length_map]; exact Array.length_toList
theorem sAt_bI {z : ByteArray} {k : Nat} (h : k < (bI z).length) : sAt z k = some (bI z)[k] := by
  have h1 : k < z.size := by rw [← bI_length]; exact h
  unfold sAt
  rw [if_pos ⟨by omega, by omega⟩]
  simp only [byteAt, Int.toNat_natCast, bI]
  have e : z.data.toList.length = z.size := Array.length_toList
  have h2 : k < z.data.toList.length := by omega
  rw [List.getD_eq_getElem?_getD, List.getElem?_eq_getElem h2]
  simp only [Option.getD_some, List.getElem_map]
theorem sEq_comm' (x y : ByteArray) : sEq x y = sEq y x := by rw [sEq_iff, sEq_iff]; exact decide_eq_decide.2 eq_comm
/-! names -/
def letterB (b : Int) : Bool := inB b 97 122
def figureB (b : Int) : Bool := inB b 48 57
theorem impl_isLetter_eq (b : Int) : impl_isLetter b = some (letterB b) := by
  unfold impl_isLetter letterB inB
  by_cases h : 97 ≤ b <;> simp [h]
theorem impl_isFigure_eq (b : Int) : impl_isFigure b = some (figureB b) := by
  unfold impl_isFigure figureB inB
  by_cases h : 48 ≤ b <;> simp [h]
theorem spec_l03Letter_eq (b : Int) : spec_l03Letter b = some (letterB b) := by
  unfold spec_l03Letter letterB inB
  by_cases h : 97 ≤ b <;> simp [h]
theorem spec_l03Figure_eq (b : Int) : spec_l03Figure b = some (figureB b) := by
  unfold spec_l03Figure figureB inB
  by_cases h : 48 ≤ b <;> simp [h]
def keys : List ByteArray := [⟨#[102, 110]⟩, ⟨#[108, 101, 116]⟩, ⟨#[105, 102]⟩, ⟨#[101, 108, 115, 101]⟩, ⟨#[119, 104, 105, 108, 101]⟩, ⟨#[112, 114, 105, 110, 116]⟩, ⟨#[100, 111]⟩, ⟨#[110, 101, 119]⟩, ⟨#[99, 108, 111, 110, 101]⟩, ⟨#[109, 117, 116]⟩, ⟨#[105, 110, 112, 117, 116]⟩, ⟨#[105, 110, 116]⟩, ⟨#[98, 111, 120]⟩, ⟨#[114, 101, 116]⟩]
def keyB (s : ByteArray) : Bool := keys.any fun w => sEq w s
theorem keys_split : strings_Split (⟨#[102, 110, 32, 108, 101, 116, 32, 105, 102, 32, 101, 108, 115, 101, 32, 119, 104, 105, 108, 101, 32, 112, 114, 105, 110, 116, 32, 100, 111, 32, 110, 101, 119, 32, 99, 108, 111, 110, 101, 32, 109, 117, 116, 32, 105, 110, 112, 117, 116, 32, 105, 110, 116, 32, 98, 111, 120, 32, 114, 101, 116]⟩ : ByteArray) (⟨#[32]⟩ : ByteArray) = some keys := by kernel_rfl
theorem any_loop (l : List ByteArray) (s : ByteArray) (hl : l.length ≤ 1048576) (f : Int → Option (Int ⊕ (Unit ⊕ Bool)))
    (hf : ∀ i, f i = if (decide (i < (l.length : Int))) = true then (getI l i).bind fun e => if (sEq e s) = true then some (Sum.inr (Sum.inr true)) else some (Sum.inl (IntKind.wrap .i64 (i + 1))) else some (Sum.inr (Sum.inl ()))) :
    loopP f 0 = some (if (l.any fun w => sEq w s) = true then .inr true else .inl ()) := by
  refine loopP_any l (fun w => sEq w s) f (fun k hk => ?_) (by rw [hf]; simp)
  rw [hf]
  simp only [ofNat_lt_true hk, if_true, getI_at hk, Option.bind_some, w64_succ hk (show l.length ≤ maxLen by show _ ≤ 9223372036854775807; omega), ite_some]
theorem spec_KeyWord_eq (s : ByteArray) : spec_KeyWord s = some (keyB s) := by
  unfold spec_KeyWord spec_l03Keys
  simp only [Option.bind_some]
  have h := any_loop keys s (by decide) (spec_KeyWord_l1 s keys) (fun i => by simp only [spec_KeyWord_l1])
  unfold keys at h
  rw [h]
  unfold keyB keys
  simp only [Option.bind_some]
  split <;> rename_i h2 <;> split at h2 <;> simp_all
theorem impl_KeyWord_eq (s : ByteArray) : impl_KeyWord s = some (keyB s) := by
  unfold impl_KeyWord impl_oneOf
  rw [keys_split]
  simp only [Option.bind_some]
  rw [any_loop keys s (by decide) (impl_oneOf_l1 s keys) (fun i => by simp only [impl_oneOf_l1])]
  unfold keyB
  simp only [Option.bind_some]
  cases keys.any fun w => sEq w s <;> rfl
def charB (b : Int) : Bool := letterB b || figureB b
def nameB (s : ByteArray) : Bool := inB s.size 1 8 && (letterB ((bI s).getD 0 0) && ((bI s).all charB && !keyB s))
theorem name_loop (s : ByteArray) (hs : s.size ≤ 8) (f : Int → Option (Int ⊕ (Unit ⊕ Bool)))
    (hf : ∀ (k : Nat) (h : k < (bI s).length), f k = some (if charB (bI s)[k] = true then .inl (IntKind.wrap .i64 ((k : Int) + 1)) else .inr (.inr false)))
    (he : f s.size = some (.inr (.inl ()))) : loopP f 0 = some (if (bI s).all charB = true then .inl () else .inr false) := by
  refine loopP_all (bI s) charB f (fun k hk => ?_) (by rw [bI_length]; exact he)
  rw [hf k hk, w64_succ hk (show (bI s).length ≤ maxLen by rw [bI_length]; show _ ≤ 9223372036854775807; omega)]
theorem bI_zero {s : ByteArray} (h : 1 ≤ s.size) : sAt s 0 = some ((bI s).getD 0 0) := by
  have h1 : 0 < (bI s).length := by rw [bI_length]; omega
  have := sAt_bI h1
  rw [show ((0 : Nat) : Int) = 0 from rfl] at this
  rw [this, List.getD_eq_getElem?_getD, List.getElem?_eq_getElem h1]; rfl
theorem impl_NameOk_eq (s : ByteArray) : impl_NameOk s = some (nameB s) := by
  unfold impl_NameOk nameB
  simp only [impl_in_eq, Option.bind_some]
  by_cases hi : inB s.size 1 8 = true
  · have hi' := inB_iff.1 hi
    rw [bI_zero (by omega), name_loop s (by omega) (impl_NameOk_l1 s) (fun k hk => ?_) (by simp [impl_NameOk_l1])]
    · simp only [hi, impl_isLetter_eq, impl_KeyWord_eq, Option.bind_some, Bool.not_true, Bool.false_eq_true, if_false, Bool.true_and]
      cases letterB ((bI s).getD 0 0) <;> cases (bI s).all charB <;> cases keyB s <;> rfl
    · have hk2 : k < s.size := by rw [← bI_length]; exact hk
      simp only [impl_NameOk_l1, ofNat_lt_true hk2, if_true, sAt_bI hk, impl_isLetter_eq, impl_isFigure_eq, Option.bind_some]
      rw [show charB (bI s)[k] = (letterB (bI s)[k] || figureB (bI s)[k]) from rfl]
      cases letterB (bI s)[k] <;> cases figureB (bI s)[k] <;> rfl
  · simp [Bool.eq_false_iff.2 hi]
theorem spec_NameOk_eq (s : ByteArray) : spec_NameOk s = some (nameB s) := by
  unfold spec_NameOk nameB
  simp only [spec_in_eq, Option.bind_some]
  by_cases hi : inB s.size 1 8 = true
  · have hi' := inB_iff.1 hi
    rw [bI_zero (by omega), name_loop s (by omega) (spec_NameOk_l1 s) (fun k hk => ?_) (by simp [spec_NameOk_l1])]
    · simp only [hi, spec_l03Letter_eq, spec_KeyWord_eq, Option.bind_some, Bool.not_true, Bool.false_eq_true, if_false, Bool.true_and]
      cases letterB ((bI s).getD 0 0) <;> cases (bI s).all charB <;> cases keyB s <;> rfl
    · have hk2 : k < s.size := by rw [← bI_length]; exact hk
      simp only [spec_NameOk_l1, ofNat_lt_true hk2, if_true, sAt_bI hk, spec_l03Letter_eq, spec_l03Figure_eq, Option.bind_some]
      rw [show charB (bI s)[k] = (letterB (bI s)[k] || figureB (bI s)[k]) from rfl]
      cases letterB (bI s)[k] <;> cases figureB (bI s)[k] <;> rfl
  · simp [Bool.eq_false_iff.2 hi]
end Go.OM
set_option linter.unusedVariables false
set_option linter.unusedSimpArgs false
namespace Go.OM
/-! ### Words and codes -/
def hasBB (op : Int) : Bool := inB op 2 7 || (inB op 9 12 || (op == 14 || op == 15))
def hasCB (op : Int) : Bool := inB op 10 12
def hasAB (op : Int) : Bool := inB op 1 17 || (op == 19 || op == 20)
theorem impl_hasA_eq (op : Int) : impl_hasA op = some (hasAB op) := by
  unfold impl_hasA hasAB
  simp only [impl_in_eq, Option.bind_some]
  cases inB op 1 17 <;> cases op == 19 <;> rfl
theorem impl_hasB_eq (op : Int) : impl_hasB op = some (hasBB op) := by
  unfold impl_hasB hasBB
  simp only [impl_in_eq, Option.bind_some]
  cases inB op 2 7 <;> cases inB op 9 12 <;> cases op == 14 <;> rfl
theorem spec_l11HasB_eq (op : Int) : spec_l11HasB op = some (hasBB op) := by
  unfold spec_l11HasB hasBB
  simp only [spec_in_eq, Option.bind_some]
  cases inB op 2 7 <;> cases inB op 9 12 <;> cases op == 14 <;> rfl
theorem impl_hasC_eq (op : Int) : impl_hasC op = some (hasCB op) := by simp only [impl_hasC, impl_in_eq, Option.bind_some, hasCB]
theorem spec_l11HasC_eq (op : Int) : spec_l11HasC op = some (hasCB op) := by simp only [spec_l11HasC, spec_in_eq, Option.bind_some, hasCB]
def placeB (n : Nat) (v : Int) : Bool := inB v 0 ((n : Int) - 1)
theorem w64_pred {n : Nat} (h : n ≤ 1048576) : IntKind.wrap .i64 ((n : Int) - 1) = (n : Int) - 1 := w64 (by omega) (by omega)
theorem impl_isPlace_eq (c : GCode) (hc : c.Locals.length ≤ 1048576) (v : Int) (b : Bool) : impl_isPlace c v b = some (if b = true then placeB c.Locals.length v else v == 0) := by
  unfold impl_isPlace
  simp only [impl_in_eq, Option.bind_some, w64_pred hc, placeB, ite_some]
theorem spec_l11Place_eq (c : GCode) (hc : c.Locals.length ≤ 1048576) (v : Int) : spec_l11Place c v = some (placeB c.Locals.length v) := by
  unfold spec_l11Place
  simp only [spec_in_eq, Option.bind_some, w64_pred hc, placeB]
def aB (n : Nat) (x : GIns) : Bool := if (x.Op == 13 || x.Op == 20) = true then (x.A == -1 || placeB n x.A) else if (x.Op == 18) = true then x.A == 0 else placeB n x.A
def bB (n : Nat) (x : GIns) : Bool := if hasBB x.Op = true then placeB n x.B else x.B == 0
def cB (n : Nat) (x : GIns) : Bool := if hasCB x.Op = true then placeB n x.C else x.C == 0
def numB (m : Nat) (x : GIns) : Bool := if (x.Op == 1) = true then inB x.Num 0 1000000000 else if (x.Op == 18 || x.Op == 19) = true then inB x.Num 0 ((m : Int) - 1) else x.Num == 0
def restB (n : Nat) (x : GIns) : Bool := if (x.Op != 13) = true then sEq x.Name ⟨#[]⟩ && ((x.Args.length : Int) == 0) else x.Args.all (placeB n) && (nameB x.Name && decide ((x.Args.length : Int) ≤ 3))
def wordB (n m : Nat) (x : GIns) : Bool := inB x.Op 1 20 && (aB n x && (bB n x && (cB n x && (numB m x && restB n x))))
theorem args_loop (c : GCode) (x : GIns) (n : Nat) (hx : x.Args.length ≤ 1048576) (f : Int → Option (Int ⊕ (Unit ⊕ Bool)))
    (hf : ∀ (k : Nat) (h : k < x.Args.length), f k = some (if placeB n x.Args[k] = true then .inl (IntKind.wrap .i64 ((k : Int) + 1)) else .inr (.inr false)))
    (he : f x.Args.length = some (.inr (.inl ()))) : loopP f 0 = some (if x.Args.all (placeB n) = true then .inl () else .inr false) := by
  refine loopP_all x.Args (placeB n) f (fun k hk => ?_) he
  rw [hf k hk, w64_succ hk (show x.Args.length ≤ maxLen by show _ ≤ 9223372036854775807; omega)]
theorem inB_zero (x : Int) : inB x 0 0 = (x == 0) := by
  rw [Bool.eq_iff_iff, inB_iff, beq_iff_eq]
  omega
theorem aB_eq {n : Nat} {x : GIns} (h0 : inB x.Op 1 20 = true) : ((if (x.Op == 13) = true then x.A == -1 else if (x.Op == 20) = true then x.A == -1 else false) || (if hasAB x.Op = true then placeB n x.A else x.A == 0)) = aB n x := by
  have h1 := inB_iff.1 h0
  have hA : hasAB x.Op = !(x.Op == 18) := by
    unfold hasAB
    by_cases h18 : x.Op = 18
    · simp [h18, inB]
    · by_cases h17 : x.Op ≤ 17
      · have : inB x.Op 1 17 = true := inB_iff.2 ⟨h1.1, h17⟩
        simp [this, h18]
      · have h3 : x.Op = 19 ∨ x.Op = 20 := by omega
        rcases h3 with h3 | h3 <;> simp [h3]
  unfold aB
  rw [hA]
  by_cases h13 : x.Op = 13
  · simp [h13]
  · by_cases h20 : x.Op = 20
    · simp [h20]
    · by_cases h18 : x.Op = 18
      · simp [h18]
      · simp [h13, h20, h18]
theorem numB_eq (m : Nat) (x : GIns) : inB x.Num 0 (if (x.Op == 1) = true then 1000000000 else if (if (x.Op == 18) = true then x.Op == 18 else x.Op == 19) = true then (m : Int) - 1 else 0) = numB m x := by
  unfold numB
  cases x.Op == 1
  · cases x.Op == 18
    · cases x.Op == 19 <;> simp [inB_zero]
    · simp
  · simp
theorem impl_WordOk_eq (c : GCode) (x : GIns) (hc : c.Locals.length ≤ 1048576) (hm : c.Words.length ≤ 1048576) (hx : x.Args.length ≤ 1048576) : impl_WordOk c x = some (wordB c.Locals.length c.Words.length x) := by
  unfold impl_WordOk
  rw [args_loop c x c.Locals.length hx (impl_WordOk_l1 c x) (fun k hk => by
    simp only [impl_WordOk_l1, ofNat_lt_true hk, if_true, getI_at hk, Option.bind_some, impl_isPlace_eq c hc]
    cases placeB c.Locals.length x.Args[k] <;> rfl) (by simp [impl_WordOk_l1])]
  simp only [impl_in_eq, impl_hasA_eq, impl_hasB_eq, impl_hasC_eq, impl_isPlace_eq c hc, impl_NameOk_eq, Option.bind_some, w64_pred hm, ite_some, numB_eq]
  unfold wordB
  by_cases h0 : inB x.Op 1 20 = true
  · rw [← aB_eq h0]
    simp only [h0, Bool.not_true, Bool.false_eq_true, if_false, Bool.true_and]
    generalize (if (x.Op == 13) = true then x.A == -1 else if (x.Op == 20) = true then x.A == -1 else false) = N
    generalize (if hasAB x.Op = true then placeB c.Locals.length x.A else x.A == 0) = P
    have hQ : (if hasBB x.Op = true then placeB c.Locals.length x.B else x.B == 0) = bB c.Locals.length x := rfl
    have hR : (if hasCB x.Op = true then placeB c.Locals.length x.C else x.C == 0) = cB c.Locals.length x := rfl
    rw [hQ, hR]
    unfold restB
    generalize bB c.Locals.length x = Q
    generalize cB c.Locals.length x = R
    generalize numB c.Words.length x = U
    generalize (x.Op != 13) = o
    generalize sEq x.Name ⟨#[]⟩ = e
    generalize ((x.Args.length : Int) == 0) = l0
    generalize x.Args.all (placeB c.Locals.length) = al
    generalize nameB x.Name = nm
    generalize decide ((x.Args.length : Int) ≤ 3) = l3
    cases N <;> cases P <;> cases Q <;> cases R <;> cases U <;> cases o <;> cases al <;> cases nm <;> cases e <;> rfl
  · simp [Bool.eq_false_iff.2 h0]
theorem spec_l11A_eq (c : GCode) (x : GIns) (hc : c.Locals.length ≤ 1048576) : spec_l11A c x = some (aB c.Locals.length x) := by
  unfold spec_l11A aB
  simp only [spec_l11Place_eq c hc, Option.bind_some, ite_some]
  cases x.Op == 13 <;> cases x.Op == 20 <;> cases x.A == -1 <;> cases x.Op == 18 <;> rfl
theorem spec_WordOk_eq (c : GCode) (x : GIns) (hc : c.Locals.length ≤ 1048576) (hm : c.Words.length ≤ 1048576) (hx : x.Args.length ≤ 1048576) : spec_WordOk c x = some (wordB c.Locals.length c.Words.length x) := by
  unfold spec_WordOk
  rw [args_loop c x c.Locals.length hx (spec_WordOk_l1 c x) (fun k hk => by
    simp only [spec_WordOk_l1, ofNat_lt_true hk, if_true, getI_at hk, Option.bind_some, spec_l11Place_eq c hc]
    cases placeB c.Locals.length x.Args[k] <;> rfl) (by simp [spec_WordOk_l1])]
  simp only [spec_in_eq, spec_l11A_eq c x hc, spec_l11HasB_eq, spec_l11HasC_eq, spec_l11Place_eq c hc, spec_NameOk_eq, Option.bind_some, w64_pred hm]
  unfold wordB bB cB numB restB
  have e1 : (x.B != 0) = !(x.B == 0) := rfl
  have e2 : (x.C != 0) = !(x.C == 0) := rfl
  have e3 : (x.Num != 0) = !(x.Num == 0) := rfl
  rw [e1, e2, e3]
  generalize inB x.Op 1 20 = O
  generalize aB c.Locals.length x = A
  generalize hasBB x.Op = hb
  generalize hasCB x.Op = hcc
  generalize placeB c.Locals.length x.B = pB
  generalize placeB c.Locals.length x.C = pC
  generalize (x.B == 0) = zB
  generalize (x.C == 0) = zC
  generalize (x.Num == 0) = zN
  generalize inB x.Num 0 1000000000 = n1
  generalize inB x.Num 0 ((c.Words.length : Int) - 1) = n2
  generalize (x.Op == 1) = o1
  generalize (x.Op == 18) = o18
  generalize (x.Op == 19) = o19
  generalize (x.Op != 13) = o
  generalize sEq x.Name ⟨#[]⟩ = e
  generalize ((x.Args.length : Int) == 0) = l0
  generalize x.Args.all (placeB c.Locals.length) = al
  generalize nameB x.Name = nm
  generalize decide ((x.Args.length : Int) ≤ 3) = l3
  have rest : (if o = true then (Option.bind (if e = true then some l0 else some false) fun v85 => some v85) else match (if al = true then (Sum.inl () : Unit ⊕ Bool) else Sum.inr false) with | Sum.inr z => some z | Sum.inl () => Option.bind (if nm = true then some l3 else some false) fun v109 => some v109) = some (if o = true then e && l0 else al && (nm && l3)) := by
    cases o <;> cases e <;> cases al <;> cases nm <;> rfl
  cases O
  · rfl
  cases A
  · rfl
  cases hb <;> cases pB <;> cases zB <;> cases hcc <;> cases pC <;> cases zC <;> first | rfl | (cases o1 <;> cases o18 <;> cases o19 <;> cases n1 <;> cases n2 <;> cases zN <;> first | rfl | exact rest)
/-- Is a code right? -/
def codeB (c : GCode) : Bool := nameB c.Name && (decide (c.Locals.length ≤ 200) && (inB c.Params 0 c.Locals.length && (inB c.Words.length 1 400 && ((match c.Words[c.Words.length - 1]? with | some x => x.Op == 20 | none => false) && (c.Locals.all (fun t => inB t 1 4) && c.Words.all (wordB c.Locals.length c.Words.length))))))
theorem codes_eq (c : GCode) (h : GCode.le 1048576 c) (g : Option Bool)
    (hg : g = Option.bind (
    (some (nameB c.Name)).bind fun r4 =>
    if (!r4) = true then
      some true
    else
      if (decide ((c.Locals.length : Int) > 200)) = true then
        some true
      else
        (some (inB c.Params 0 (c.Locals.length : Int))).bind fun r10 =>
        if (!r10) = true then
          some true
        else
          (some (inB (c.Words.length : Int) 1 400)).bind fun r14 =>
          if (!r14) = true then
            some true
          else
            (getI c.Words (IntKind.wrap .i64 ((c.Words.length : Int) - 1))).bind fun e18 =>
            some (e18.Op != 20)) fun v19 =>
  if v19 = true then
    some false
  else
    Option.bind (some (if (c.Locals.all fun t => inB t 1 4) = true then (Sum.inl () : Unit ⊕ Bool) else Sum.inr false)) fun j24 =>
    match j24 with
    | Sum.inr z => some z
    | Sum.inl () =>
      Option.bind (some (if c.Words.all (wordB c.Locals.length c.Words.length) = true then (Sum.inl () : Unit ⊕ Bool) else Sum.inr false)) fun j40 =>
      match j40 with
      | Sum.inr z => some z
      | Sum.inl () =>
        some true) : g = some (codeB c) := by
  subst hg
  obtain ⟨h1, h2, h3⟩ := h
  rw [w64_pred h3.1]
  unfold codeB
  have hd : decide ((c.Locals.length : Int) > 200) = !decide (c.Locals.length ≤ 200) := by
    by_cases e : c.Locals.length ≤ 200
    · simp [e]; omega
    · simp [e]; omega
  rw [hd]
  cases nameB c.Name
  · rfl
  cases decide (c.Locals.length ≤ 200)
  · rfl
  cases inB c.Params 0 (c.Locals.length : Int)
  · rfl
  cases hw : inB (c.Words.length : Int) 1 400
  · rfl
  · have hw' := inB_iff.1 hw
    have hlt : c.Words.length - 1 < c.Words.length := by omega
    rw [show (c.Words.length : Int) - 1 = ((c.Words.length - 1 : Nat) : Int) by omega, getI_at hlt, List.getElem?_eq_getElem hlt]
    simp only [Option.bind_some, Bool.not_true, Bool.false_eq_true, if_false, Bool.true_and, bne]
    cases c.Words[c.Words.length - 1].Op == 20
    · rfl
    cases c.Locals.all fun t => inB t 1 4
    · rfl
    cases c.Words.all (wordB c.Locals.length c.Words.length) <;> rfl
theorem impl_CodeOk_eq (c : GCode) (h : GCode.le 1048576 c) : impl_CodeOk c = some (codeB c) := by
  have h' := h
  obtain ⟨h1, h2, h3⟩ := h
  refine codes_eq c h' _ ?_
  unfold impl_CodeOk
  rw [loopP_all c.Locals (fun t => inB t 1 4) (impl_CodeOk_l1 c) (fun k hk => by
      simp only [impl_CodeOk_l1, ofNat_lt_true hk, if_true, getI_at hk, Option.bind_some, impl_in_eq, w64_succ hk (show c.Locals.length ≤ maxLen by show _ ≤ 9223372036854775807; omega)]
      cases inB c.Locals[k] 1 4 <;> rfl) (by simp [impl_CodeOk_l1]),
    loopP_all c.Words (wordB c.Locals.length c.Words.length) (impl_CodeOk_l2 c) (fun k hk => by
      simp only [impl_CodeOk_l2, ofNat_lt_true hk, if_true, getI_at hk, Option.bind_some, impl_WordOk_eq c c.Words[k] h2 h3.1 (h3.2 _ (List.getElem_mem hk)).2, w64_succ hk (show c.Words.length ≤ maxLen by show _ ≤ 9223372036854775807; omega)]
      cases wordB c.Locals.length c.Words.length c.Words[k] <;> rfl) (by simp [impl_CodeOk_l2])]
  simp only [impl_NameOk_eq, impl_in_eq]
  rfl
theorem spec_CodeOk_eq (c : GCode) (h : GCode.le 1048576 c) : spec_CodeOk c = some (codeB c) := by
  have h' := h
  obtain ⟨h1, h2, h3⟩ := h
  refine codes_eq c h' _ ?_
  unfold spec_CodeOk
  rw [loopP_all c.Locals (fun t => inB t 1 4) (spec_CodeOk_l1 c) (fun k hk => by
      simp only [spec_CodeOk_l1, ofNat_lt_true hk, if_true, getI_at hk, Option.bind_some, spec_in_eq, w64_succ hk (show c.Locals.length ≤ maxLen by show _ ≤ 9223372036854775807; omega)]
      cases inB c.Locals[k] 1 4 <;> rfl) (by simp [spec_CodeOk_l1]),
    loopP_all c.Words (wordB c.Locals.length c.Words.length) (spec_CodeOk_l2 c) (fun k hk => by
      simp only [spec_CodeOk_l2, ofNat_lt_true hk, if_true, getI_at hk, Option.bind_some, spec_WordOk_eq c c.Words[k] h2 h3.1 (h3.2 _ (List.getElem_mem hk)).2, w64_succ hk (show c.Words.length ≤ maxLen by show _ ≤ 9223372036854775807; omega)]
      cases wordB c.Locals.length c.Words.length c.Words[k] <;> rfl) (by simp [spec_CodeOk_l2])]
  simp only [spec_NameOk_eq, spec_in_eq]
  rfl
end Go.OM
set_option linter.unusedVariables false
set_option linter.unusedSimpArgs false
namespace Go.OM
/-! ### What comes behind a word; what is reached -/
theorem codeB_facts {c : GCode} (h : codeB c = true) : nameB c.Name = true ∧ c.Locals.length ≤ 200 ∧ (0 ≤ c.Params ∧ c.Params ≤ c.Locals.length) ∧ (1 ≤ c.Words.length ∧ c.Words.length ≤ 400) ∧ (∃ x, c.Words[c.Words.length - 1]? = some x ∧ x.Op = 20) ∧ (∀ t ∈ c.Locals, 1 ≤ t ∧ t ≤ 4) ∧ ∀ x ∈ c.Words, wordB c.Locals.length c.Words.length x = true := by
  unfold codeB at h
  simp only [Bool.and_eq_true, decide_eq_true_eq, inB_iff, List.all_eq_true] at h
  obtain ⟨h1, h2, h3, h4, h5, h6, h7⟩ := h
  refine ⟨h1, h2, h3, ⟨by omega, by omega⟩, ?_, h6, h7⟩
  split at h5
  · rename_i x hx
    exact ⟨x, hx, by simpa using h5⟩
  · cases h5
theorem wordB_num {n m : Nat} {x : GIns} (h : wordB n m x = true) (hop : x.Op = 18 ∨ x.Op = 19) : 0 ≤ x.Num ∧ x.Num < m := by
  unfold wordB at h
  simp only [Bool.and_eq_true] at h
  have h5 := h.2.2.2.2.1
  unfold numB at h5
  rcases hop with e | e
  · simp [e, inB] at h5; omega
  · simp [e, inB] at h5; omega
theorem foldE_inl {α σ ρ : Type} (h : σ → α → σ) (fin : σ → ρ) : ∀ (l : List α) (s : σ), foldE (fun s x => (.inl (h s x) : σ ⊕ ρ)) fin l s = fin (l.foldl h s)
  | [], s => rfl
  | x :: l, s => by simp only [foldE, List.foldl_cons]; exact foldE_inl h fin l _
theorem foldl_filter {α : Type} (p : α → Bool) : ∀ (l s : List α), l.foldl (fun s e => if p e = true then s ++ [e] else s) s = s ++ l.filter p
  | [], s => by simp
  | x :: l, s => by
    rw [List.foldl_cons, foldl_filter p l, List.filter_cons]
    cases p x <;> simp
theorem app1 {n : Nat} {s : List Int} {e : Int} (h : s.length ≤ 1048576) (hn : n ≤ 64) : appI n s [e] = some (s ++ [e]) := by
  unfold appI
  have h1 : (s.length + [e].length) * n ≤ (s.length + [e].length) * 64 := Nat.mul_le_mul_left _ hn
  rw [if_pos ⟨by simp only [List.length_cons, List.length_nil] at h1 ⊢; omega, by simp only [List.length_cons, List.length_nil]; omega⟩]
def addL (out : List Int) (n : Int) : List Int := if out.contains n = true then out else out ++ [n]
theorem addL_len (out : List Int) (n : Int) : (addL out n).length ≤ out.length + 1 := by
  unfold addL; split <;> simp
theorem spec_l11Add_eq (out : List Int) (n : Int) (h : out.length ≤ 1048576) : spec_l11Add out n = some (addL out n) := by
  unfold spec_l11Add addL
  rw [loopP_find out (fun e => if (e == n) = true then some out else none) (spec_l11Add_l1 out n) (fun k hk => by
    simp only [spec_l11Add_l1, ofNat_lt_true hk, if_true, getI_at hk, Option.bind_some, w64_succ hk (show out.length ≤ maxLen by show _ ≤ 9223372036854775807; omega)]
    cases out[k] == n <;> rfl) (by simp [spec_l11Add_l1])]
  have key : ∀ l : List Int, l.findSome? (fun e => if (e == n) = true then some out else none) = if l.contains n = true then some out else none := by
    intro l
    induction l with
    | nil => rfl
    | cons x l ih =>
      rw [List.findSome?_cons, List.contains_cons]
      by_cases hx : x = n
      · simp [hx]
      · have h1 : (x == n) = false := by simpa using hx
        have h2 : (n == x) = false := by simpa using fun e => hx e.symm
        rw [h1, h2, Bool.false_or, ← ih]
        rfl
  rw [key]
  cases out.contains n
  · simp only [Bool.false_eq_true, if_false, Option.bind_some, app1 (n := 8) h (by omega)]
  · rfl
def bndB (m : Nat) (e : Int) : Bool := inB e 0 ((m : Int) - 1)
theorem impl_Next_loop (c : GCode) (hm : c.Words.length ≤ 1048576) (l : List Int) (hl : l.length ≤ 1000) : loopP (impl_Next_l1 c l) ([], 0) = some (l.filter (bndB c.Words.length)) := by
  have := loopP_fold l (fun (s : List Int) k => (s, (k : Int))) (fun k s => s.length ≤ k) (fun s e => .inl (if bndB c.Words.length e = true then s ++ [e] else s)) id (impl_Next_l1 c l) (fun s k hk hI => by
    left
    simp only [impl_Next_l1, ofNat_lt_true hk, if_true, getI_at hk, Option.bind_some, impl_in_eq, w64_pred hm, w64_succ hk (show l.length ≤ maxLen by show _ ≤ 9223372036854775807; omega)]
    unfold bndB
    cases hb : inB l[k] 0 ((c.Words.length : Int) - 1)
    · exact ⟨s, by simp, rfl, by omega⟩
    · exact ⟨s ++ [l[k]], by simp, by rw [if_pos rfl, app1 (by omega) (by omega)]; rfl, by simp; omega⟩) (fun s _ => by simp [impl_Next_l1]) [] (by simp)
  rw [foldE_inl, foldl_filter] at this
  simpa using this
theorem spec_Next_loop (c : GCode) (hm : c.Words.length ≤ 1048576) (l : List Int) (hl : l.length ≤ 1000) : loopP (spec_Next_l1 c l) ([], 0) = some ((l.filter (bndB c.Words.length)).foldl addL []) := by
  have := loopP_fold l (fun (s : List Int) k => (s, (k : Int))) (fun k s => s.length ≤ k) (fun s e => .inl (if bndB c.Words.length e = true then addL s e else s)) id (spec_Next_l1 c l) (fun s k hk hI => by
    left
    simp only [spec_Next_l1, ofNat_lt_true hk, if_true, getI_at hk, Option.bind_some, spec_in_eq, w64_pred hm, w64_succ hk (show l.length ≤ maxLen by show _ ≤ 9223372036854775807; omega), spec_l11Add_eq s l[k] (by omega)]
    unfold bndB
    cases hb : inB l[k] 0 ((c.Words.length : Int) - 1)
    · exact ⟨s, by simp, rfl, by omega⟩
    · exact ⟨addL s l[k], by simp, rfl, by have := addL_len s l[k]; omega⟩) (fun s _ => by simp [spec_Next_l1]) [] (by simp)
  rw [foldE_inl] at this
  have key : ∀ (l s : List Int), l.foldl (fun s e => if bndB c.Words.length e = true then addL s e else s) s = (l.filter (bndB c.Words.length)).foldl addL s := by
    intro l
    induction l with
    | nil => intro s; rfl
    | cons x l ih =>
      intro s
      rw [List.foldl_cons, ih, List.filter_cons]
      cases bndB c.Words.length x <;> rfl
  rw [key] at this
  simpa using this
/-- The words that may come behind one. -/
def rawNext (x : GIns) (i : Nat) : List Int := if x.Op = 20 then [] else if x.Op = 18 then [x.Num] else if x.Op = 19 then [((i + 1 : Nat) : Int), x.Num] else [((i + 1 : Nat) : Int)]
def nextI (c : GCode) (i : Nat) : List Int := match c.Words[i]? with
  | some x => (rawNext x i).filter (bndB c.Words.length)
  | none => []
def nextS (c : GCode) (i : Nat) : List Int := (nextI c i).foldl addL []
theorem impl_Next_eq (c : GCode) (hm : c.Words.length ≤ 1048576) (i : Nat) (hi : i < c.Words.length) : impl_Next c i = some (nextI c i) := by
  unfold impl_Next nextI
  have hin : inB (i : Int) 0 ((c.Words.length : Int) - 1) = true := inB_iff.2 ⟨by omega, by omega⟩
  have hw : IntKind.wrap .i64 ((i : Int) + 1) = ((i + 1 : Nat) : Int) := w64_succ hi (show c.Words.length ≤ maxLen by show _ ≤ 9223372036854775807; omega)
  simp only [impl_in_eq, w64_pred hm, Option.bind_some, hin, Bool.not_true, Bool.false_eq_true, if_false, getI_at hi, List.getElem?_eq_getElem hi, hw]
  have e : (if (c.Words[i].Op == 20) = true then some [] else if (c.Words[i].Op == 18) = true then some [c.Words[i].Num] else if (c.Words[i].Op == 19) = true then (appI 8 [((i + 1 : Nat) : Int)] [c.Words[i].Num]).bind fun l17 => some l17 else some [((i + 1 : Nat) : Int)]) = some (rawNext c.Words[i] i) := by
    unfold rawNext
    rw [app1 (by simp) (by omega)]
    by_cases h1 : c.Words[i].Op = 20
    · simp [h1]
    · by_cases h2 : c.Words[i].Op = 18
      · simp [h2]
      · by_cases h3 : c.Words[i].Op = 19
        · simp [h3]
        · simp [h1, h2, h3]
  rw [e]
  have hl : (rawNext c.Words[i] i).length ≤ 1000 := by unfold rawNext; split <;> (try split) <;> (try split) <;> simp
  simp only [Option.bind_some, impl_Next_loop c hm _ hl]
theorem spec_Next_eq (c : GCode) (hm : c.Words.length ≤ 1048576) (i : Nat) (hi : i < c.Words.length) : spec_Next c i = some (nextS c i) := by
  unfold spec_Next nextS nextI
  have hin : inB (i : Int) 0 ((c.Words.length : Int) - 1) = true := inB_iff.2 ⟨by omega, by omega⟩
  have hw : IntKind.wrap .i64 ((i : Int) + 1) = ((i + 1 : Nat) : Int) := w64_succ hi (show c.Words.length ≤ maxLen by show _ ≤ 9223372036854775807; omega)
  simp only [spec_in_eq, w64_pred hm, Option.bind_some, hin, Bool.not_true, Bool.false_eq_true, if_false, getI_at hi, List.getElem?_eq_getElem hi, hw]
  have e : (if (c.Words[i].Op == 20) = true then some [] else if (c.Words[i].Op == 18) = true then some [c.Words[i].Num] else if (c.Words[i].Op == 19) = true then some [((i + 1 : Nat) : Int), c.Words[i].Num] else some [((i + 1 : Nat) : Int)]) = some (rawNext c.Words[i] i) := by
    unfold rawNext
    by_cases h1 : c.Words[i].Op = 20
    · simp [h1]
    · by_cases h2 : c.Words[i].Op = 18
      · simp [h2]
      · by_cases h3 : c.Words[i].Op = 19
        · simp [h3]
        · simp [h1, h2, h3]
  rw [e]
  have hl : (rawNext c.Words[i] i).length ≤ 1000 := by unfold rawNext; split <;> (try split) <;> (try split) <;> simp
  simp only [Option.bind_some, spec_Next_loop c hm _ hl]
theorem mem_addL {out : List Int} {n m : Int} : m ∈ addL out n ↔ m ∈ out ∨ m = n := by
  unfold addL
  by_cases h : out.contains n = true
  · rw [if_pos h]
    have := List.contains_iff_mem.1 h
    constructor
    · exact .inl
    · rintro (h | rfl)
      · exact h
      · exact this
  · rw [if_neg h]; simp
theorem mem_foldl_addL (m : Int) : ∀ (l s : List Int), m ∈ l.foldl addL s ↔ m ∈ s ∨ m ∈ l
  | [], s => by simp
  | x :: l, s => by rw [List.foldl_cons, mem_foldl_addL m l, mem_addL, List.mem_cons, or_assoc]
theorem mem_nextS {c : GCode} {i : Nat} {m : Int} : m ∈ nextS c i ↔ m ∈ nextI c i := by unfold nextS; rw [mem_foldl_addL]; simp
theorem nextI_bnd {c : GCode} {i : Nat} {m : Int} (h : m ∈ nextI c i) : 0 ≤ m ∧ m < c.Words.length := by
  unfold nextI at h
  split at h
  · have := (List.mem_filter.1 h).2
    have := inB_iff.1 this
    omega
  · simp at h
end Go.OM
set_option linter.unusedVariables false
set_option linter.unusedSimpArgs false
namespace Go.OM
/-! ### Places reached, by a list of what is to do -/
inductive Reach (next : Nat → List Int) (root : Nat) : Nat → Prop
  | base : Reach next root root
  | step {i : Nat} {m : Int} : Reach next root i → m ∈ next i → Reach next root m.toNat
theorem Reach.congr {next next' : Nat → List Int} {root : Nat} (h : ∀ i m, m ∈ next i ↔ m ∈ next' i) {n : Nat} : Reach next root n ↔ Reach next' root n := by
  constructor
  · intro r
    induction r with
    | base => exact .base
    | step _ hm ih => exact .step ih ((h _ _).1 hm)
  · intro r
    induction r with
    | base => exact .base
    | step _ hm ih => exact .step ih ((h _ _).2 hm)
def vis (s : List Bool × List Int) (m : Int) : List Bool × List Int := if s.1[m.toNat]? = some true then s else (s.1.set m.toNat true, s.2 ++ [m])
theorem count_set {l : List Bool} {k : Nat} (hk : k < l.length) (h : l[k]? ≠ some true) : (l.set k true).count true = l.count true + 1 := by
  induction l generalizing k with
  | nil => simp at hk
  | cons x l ih =>
    cases k with
    | zero =>
      simp only [List.getElem?_cons_zero, ne_eq, Option.some.injEq] at h
      have : x = false := by cases x <;> simp_all
      subst this
      simp [List.set_cons_zero]
    | succ k =>
      simp only [List.length_cons] at hk
      simp only [List.getElem?_cons_succ] at h
      rw [List.set_cons_succ, List.count_cons, List.count_cons, ih (by omega) h]
      omega
theorem vis_len (s : List Bool × List Int) (m : Int) : (vis s m).1.length = s.1.length := by unfold vis; split <;> simp
theorem vis_count {s : List Bool × List Int} {m : Int} (h : m.toNat < s.1.length) : (vis s m).2.length + s.1.count true = s.2.length + (vis s m).1.count true := by
  unfold vis
  split
  · rfl
  · rename_i hn
    simp only [List.length_append, List.length_cons, List.length_nil]
    rw [count_set h hn]; omega
theorem vis_mono {s : List Bool × List Int} {m : Int} {n : Nat} (h : s.1[n]? = some true) : (vis s m).1[n]? = some true := by
  unfold vis
  split
  · exact h
  · simp only [List.getElem?_set]
    split
    · rename_i e
      subst e
      have := (List.getElem?_eq_some_iff.1 h).1
      simp [this]
    · exact h
theorem vis_self {s : List Bool × List Int} {m : Int} (h : m.toNat < s.1.length) : (vis s m).1[m.toNat]? = some true := by
  unfold vis
  split
  · rename_i e; exact e
  · simp [h]
theorem vis_new {s : List Bool × List Int} {m : Int} {n : Nat} (h : (vis s m).1[n]? = some true) : s.1[n]? = some true ∨ (n = m.toNat ∧ m ∈ (vis s m).2) := by
  unfold vis at h ⊢
  split at h
  · exact .inl h
  · rename_i hn
    rw [if_neg hn]
    simp only [List.getElem?_set] at h
    split at h
    · rename_i e; exact .inr ⟨e.symm, by simp⟩
    · exact .inl h
theorem vis_todo {s : List Bool × List Int} {m x : Int} (h : x ∈ (vis s m).2) : x ∈ s.2 ∨ x = m := by
  unfold vis at h
  split at h
  · exact .inl h
  · simpa using h
theorem vis_sub {s : List Bool × List Int} {m x : Int} (h : x ∈ s.2) : x ∈ (vis s m).2 := by
  unfold vis
  split
  · exact h
  · simp [h]
/-- What a row of visits does. -/
structure VisL (W : Nat) (s s' : List Bool × List Int) (nl : List Int) : Prop where
  len : s'.1.length = s.1.length
  count : s'.2.length + s.1.count true = s.2.length + s'.1.count true
  cle : s.1.count true ≤ s'.1.count true
  mono : ∀ n : Nat, s.1[n]? = some true → s'.1[n]? = some true
  all : ∀ m ∈ nl, s'.1[m.toNat]? = some true
  new : ∀ n : Nat, s'.1[n]? = some true → s.1[n]? = some true ∨ ∃ m ∈ nl, n = m.toNat ∧ m ∈ s'.2
  todo : ∀ x ∈ s'.2, x ∈ s.2 ∨ x ∈ nl
  sub : ∀ x ∈ s.2, x ∈ s'.2
theorem visL : ∀ (nl : List Int) (s : List Bool × List Int), (∀ m ∈ nl, m.toNat < s.1.length) → VisL 0 s (nl.foldl vis s) nl
  | [], s, _ => ⟨rfl, rfl, Nat.le_refl _, fun _ h => h, by simp, fun _ h => .inl h, fun _ h => .inl h, fun _ h => h⟩
  | m :: nl, s, h => by
    have h1 : m.toNat < s.1.length := h m (by simp)
    have ih := visL nl (vis s m) (fun x hx => by rw [vis_len]; exact h x (by simp [hx]))
    have hc := vis_count h1
    have hcl : s.1.count true ≤ (vis s m).1.count true := by
      unfold vis
      split
      · exact Nat.le_refl _
      · rename_i hn; rw [count_set h1 hn]; omega
    rw [List.foldl_cons]
    refine ⟨ih.len.trans (vis_len s m), ?_, Nat.le_trans hcl ih.cle, fun n hn => ih.mono n (vis_mono hn), fun x hx => ?_, fun n hn => ?_, fun x hx => ?_, fun x hx => ih.sub x (vis_sub hx)⟩
    · have := ih.count; omega
    · rcases List.mem_cons.1 hx with rfl | hx
      · exact ih.mono _ (vis_self h1)
      · exact ih.all x hx
    · rcases ih.new n hn with h2 | ⟨x, h2, h3, h4⟩
      · rcases vis_new h2 with h3 | ⟨h3, h4⟩
        · exact .inl h3
        · exact .inr ⟨m, by simp, h3, ih.sub _ h4⟩
      · exact .inr ⟨x, by simp [h2], h3, h4⟩
    · rcases ih.todo x hx with h2 | h2
      · rcases vis_todo h2 with h3 | h3
        · exact .inl h3
        · exact .inr (by simp [h3])
      · exact .inr (by simp [h2])
theorem vis_app (a : List Int) (h : List Bool) (b : List Int) (m : Int) : vis (h, a ++ b) m = ((vis (h, b) m).1, a ++ (vis (h, b) m).2) := by
  unfold vis
  simp only
  split <;> simp
theorem foldl_vis_app : ∀ (nl : List Int) (a : List Int) (h : List Bool) (b : List Int), nl.foldl vis (h, a ++ b) = ((nl.foldl vis (h, b)).1, a ++ (nl.foldl vis (h, b)).2)
  | [], _, _, _ => rfl
  | m :: nl, a, h, b => by
    rw [List.foldl_cons, List.foldl_cons, vis_app, foldl_vis_app nl a]
/-- The list of what is to do. -/
structure WInv (W root : Nat) (next : Nat → List Int) (s : List Bool × List Int) : Prop where
  len : s.1.length = W
  cnt : s.2.length ≤ s.1.count true
  bnd : ∀ x ∈ s.2, 0 ≤ x ∧ x < W
  rt : s.1[root]? = some true
  sound : ∀ n : Nat, s.1[n]? = some true → Reach next root n
  closed : ∀ n : Nat, s.1[n]? = some true → (n : Int) ∈ s.2 ∨ ∀ m ∈ next n, s.1[m.toNat]? = some true
  tdo : ∀ x ∈ s.2, s.1[x.toNat]? = some true
theorem WInv.go {W root : Nat} {next : Nat → List Int} {s : List Bool × List Int} (H : WInv W root next s) (hn : ∀ (i : Nat), i < W → ∀ m ∈ next i, 0 ≤ m ∧ m < W) {e : Int} {rest nl : List Int} (he : e ∈ s.2)
    (h1 : ∀ x ∈ s.2, x = e ∨ x ∈ rest) (h2 : ∀ x ∈ rest, x ∈ s.2) (h3 : rest.length + 1 = s.2.length) (h4 : ∀ m, m ∈ nl ↔ m ∈ next e.toNat) :
    WInv W root next (nl.foldl vis (s.1, rest)) ∧ 2 * (W - (nl.foldl vis (s.1, rest)).1.count true) + (nl.foldl vis (s.1, rest)).2.length < 2 * (W - s.1.count true) + s.2.length := by
  have heb := H.bnd e he
  have hb : ∀ m ∈ nl, 0 ≤ m ∧ m < W := fun m hm => hn e.toNat (by omega) m ((h4 m).1 hm)
  have V := visL nl (s.1, rest) (fun m hm => by have := hb m hm; have := H.len; simp only; omega)
  have c1 := V.count
  have c2 := V.cle
  have c3 := H.cnt
  have c4 : (nl.foldl vis (s.1, rest)).1.count true ≤ W := by
    have := List.count_le_length (a := true) (l := (nl.foldl vis (s.1, rest)).1)
    have := V.len
    have := H.len
    simp only at *; omega
  simp only at c1 c2
  refine ⟨⟨V.len.trans H.len, by omega, fun x hx => ?_, V.mono _ H.rt, fun n hn' => ?_, fun n hn' => ?_, fun x hx => ?_⟩, by omega⟩
  · rcases V.todo x hx with h | h
    · exact H.bnd x (h2 x h)
    · exact hb x h
  · rcases V.new n hn' with h | ⟨m, h, rfl, _⟩
    · exact H.sound n h
    · exact .step (H.sound _ (H.tdo e he)) ((h4 m).1 h)
  · rcases V.new n hn' with h | ⟨m, h, h5, h6⟩
    · rcases H.closed n h with h5 | h5
      · rcases h1 _ h5 with h6 | h6
        · right
          intro m hm
          have : e.toNat = n := by omega
          exact V.all m ((h4 m).2 (this ▸ hm))
        · exact .inl (V.sub _ h6)
      · exact .inr fun m hm => V.mono _ (h5 m hm)
    · left
      have := hb m h
      have e1 : (n : Int) = m := by omega
      rw [e1]; exact h6
  · rcases V.todo x hx with h | h
    · exact V.mono _ (H.tdo x (h2 x h))
    · exact V.all x h
open Classical in
noncomputable def reachL (W root : Nat) (next : Nat → List Int) : List Bool := (List.range W).map fun n => decide (Reach next root n)
theorem WInv.done {W root : Nat} {next : Nat → List Int} {s : List Bool × List Int} (H : WInv W root next s) (hn : ∀ (i : Nat), i < W → ∀ m ∈ next i, 0 ≤ m ∧ m < W) (h : s.2 = []) : s.1 = reachL W root next := by
  have hcl : ∀ n : Nat, Reach next root n → s.1[n]? = some true := by
    intro n r
    induction r with
    | base => exact H.rt
    | step _ hm ih =>
      rcases H.closed _ ih with h5 | h5
      · rw [h] at h5; cases h5
      · exact h5 _ hm
  apply List.ext_getElem?
  intro n
  unfold reachL
  by_cases hlt : n < W
  · have hlt2 : n < s.1.length := by rw [H.len]; exact hlt
    rw [List.getElem?_eq_getElem hlt2, List.getElem?_map, List.getElem?_range hlt]
    simp only [Option.map_some, Option.some.injEq]
    by_cases r : Reach next root n
    · have := hcl n r
      rw [List.getElem?_eq_getElem hlt2] at this
      simp only [Option.some.injEq] at this
      simp [this, r]
    · have : s.1[n] ≠ true := fun e => r (H.sound n (by rw [List.getElem?_eq_getElem hlt2, e]))
      simp [r, this]
  · rw [List.getElem?_eq_none (by rw [H.len]; omega), List.getElem?_eq_none (by simp; omega)]
theorem wl_loop {τ ρ : Type} (f : τ → Option (τ ⊕ ρ)) (abs : τ → List Bool × List Int) (Ok : τ → Prop) (W root : Nat) (next : Nat → List Int) (fin : τ → ρ) (hn : ∀ (i : Nat), i < W → ∀ m ∈ next i, 0 ≤ m ∧ m < W)
    (hstep : ∀ t, Ok t → WInv W root next (abs t) → (abs t).2 ≠ [] → ∃ (t' : τ) (e : Int) (rest nl : List Int), f t = some (.inl t') ∧ Ok t' ∧ e ∈ (abs t).2 ∧ (∀ x ∈ (abs t).2, x = e ∨ x ∈ rest) ∧ (∀ x ∈ rest, x ∈ (abs t).2) ∧ rest.length + 1 = (abs t).2.length ∧ (∀ m, m ∈ nl ↔ m ∈ next e.toNat) ∧ abs t' = nl.foldl vis ((abs t).1, rest))
    (hend : ∀ t, Ok t → (abs t).2 = [] → f t = some (.inr (fin t))) (t : τ) (h0 : Ok t) (h1 : WInv W root next (abs t)) : ∃ t', loopP f t = some (fin t') ∧ Ok t' ∧ (abs t').1 = reachL W root next := by
  obtain ⟨r, g1, t', g2, g3, g4⟩ := loopP_run (f := f) (fun t => Ok t ∧ WInv W root next (abs t)) (fun t => 2 * (W - (abs t).1.count true) + (abs t).2.length) (fun r => ∃ t', r = fin t' ∧ Ok t' ∧ (abs t').1 = reachL W root next) (by
    rintro t ⟨k1, k2⟩
    by_cases hd : (abs t).2 = []
    · right
      exact ⟨_, hend t k1 hd, t, rfl, k1, k2.done hn hd⟩
    · left
      obtain ⟨t', e, rest, nl, q1, q2, q3, q4, q5, q6, q7, q8⟩ := hstep t k1 k2 hd
      obtain ⟨p1, p2⟩ := k2.go hn q3 q4 q5 q6 q7
      exact ⟨t', q1, ⟨q2, by rw [q8]; exact p1⟩, by rw [q8]; exact p2⟩) t ⟨h0, h1⟩
  exact ⟨t', by rw [g1, g2], g3, g4⟩
theorem winv_start {W : Nat} {next : Nat → List Int} (hW : 0 < W) : WInv W 0 next ((List.replicate W false).set 0 true, [0]) := by
  have hc : ((List.replicate W false).set 0 true).count true = 1 := by
    rw [count_set (by simpa using hW) (by simp [hW])]
    simp [List.count_replicate]
  refine ⟨by simp, by rw [hc]; simp, by simp; omega, by simp [hW], fun n h => ?_, fun n h => ?_, by simp [hW]⟩
  · simp only [List.getElem?_set, List.length_replicate] at h
    split at h
    · rename_i e; subst e; exact .base
    · simp [List.getElem?_replicate] at h
  · simp only [List.getElem?_set, List.length_replicate] at h
    split at h
    · rename_i e; subst e; exact .inl (by simp)
    · simp [List.getElem?_replicate] at h
/-- Visits in a loop. -/
theorem vis_loop {ρ : Type} (r : List Int) (W : Nat) (hW : W ≤ 1000000) (hr : ∀ m ∈ r, 0 ≤ m ∧ m < W) (f : List Bool × List Int × Int → Option ((List Bool × List Int × Int) ⊕ ρ)) (fin : List Bool × List Int → ρ)
    (hf : ∀ (o : List Bool) (t : List Int) (k : Nat) (hk : k < r.length), o.length = W → t.length ≤ 1000000 → f (o, t, k) = some (.inl ((vis (o, t) r[k]).1, (vis (o, t) r[k]).2, ((k + 1 : Nat) : Int))))
    (he : ∀ o t, f (o, t, r.length) = some (.inr (fin (o, t)))) (o : List Bool) (t : List Int) (ho : o.length = W) (ht : t.length ≤ o.count true) : loopP f (o, t, 0) = some (fin (r.foldl vis (o, t))) := by
  have := loopP_fold r (fun (s : List Bool × List Int) k => (s.1, s.2, (k : Int))) (fun k s => s.1.length = W ∧ s.2.length ≤ s.1.count true) (fun s e => .inl (vis s e)) fin f (fun s k hk hI => by
    left
    obtain ⟨h1, h2⟩ := hI
    have hcw := List.count_le_length (a := true) (l := s.1)
    have hb := hr _ (List.getElem_mem hk)
    refine ⟨_, rfl, hf s.1 s.2 k hk h1 (by omega), by rw [vis_len]; exact h1, ?_⟩
    have := vis_count (s := s) (m := r[k]) (by omega)
    omega) (fun s _ => he s.1 s.2) (o, t) ⟨ho, ht⟩
  rw [foldE_inl] at this
  exact this
theorem nextI_ok (c : GCode) : ∀ (i : Nat), i < c.Words.length → ∀ m ∈ nextI c i, 0 ≤ m ∧ m < c.Words.length := fun i _ m h => nextI_bnd h
theorem vis_get {o : List Bool} {m : Int} (h0 : 0 ≤ m) (h : m < o.length) : getI o m = some (o[m.toNat]'(by omega)) := by
  have : m = ((m.toNat : Nat) : Int) := by omega
  conv => lhs; rw [this]
  exact getI_at (by omega)
theorem vis_eq {o : List Bool} {t : List Int} {m : Int} (h : m.toNat < o.length) : vis (o, t) m = if o[m.toNat] = true then (o, t) else (o.set m.toNat true, t ++ [m]) := by
  unfold vis
  simp only [List.getElem?_eq_getElem h, Option.some.injEq]
noncomputable def reachC (c : GCode) : List Bool := reachL c.Words.length 0 (nextI c)
theorem impl_ReachedWords_eq (c : GCode) (h : GCode.le 1048576 c) : impl_ReachedWords c = some (if codeB c = true then reachC c else []) := by
  unfold impl_ReachedWords
  rw [impl_CodeOk_eq c h]
  simp only [Option.bind_some]
  by_cases hc : codeB c = true
  · obtain ⟨_, _, _, ⟨hw1, hw2⟩, _⟩ := codeB_facts hc
    have hm : c.Words.length ≤ 1048576 := by omega
    rw [mkI_len _ _ _ (by omega) (by omega)]
    have h0 : getI (List.replicate c.Words.length false) 0 = some false := by
      rw [getI_zero, List.getElem?_replicate, if_pos (by omega)]
    simp only [hc, Bool.not_true, Bool.false_eq_true, if_false, if_true, Option.bind_some, h0, bindS_def]
    obtain ⟨t', g1, g2, g3⟩ := wl_loop (impl_ReachedWords_l1 c) (fun t => t) (fun _ => True) c.Words.length 0 (nextI c) (fun t => t.1) (nextI_ok c) (fun t _ hI hne => by
      obtain ⟨o, t⟩ := t
      cases t with
      | nil => exact absurd rfl hne
      | cons e rest =>
        have heb := hI.bnd e (by simp)
        have hei : ((e.toNat : Nat) : Int) = e := by omega
        have hcnt := hI.cnt
        have hlen := hI.len
        have hcw := List.count_le_length (a := true) (l := o)
        simp only [List.length_cons] at hcnt hlen hcw
        have hsub : subI (e :: rest) 1 (((e :: rest).length : Nat) : Int) = some rest := by
          unfold subI
          rw [if_pos ⟨by omega, by simp; omega, by omega⟩]
          simp
        have hnx := impl_Next_eq c hm e.toNat (by omega)
        rw [hei] at hnx
        refine ⟨(nextI c e.toNat).foldl vis (o, rest), e, rest, nextI c e.toNat, ?_, trivial, by simp, by simp, fun x hx => List.mem_cons_of_mem _ hx, by simp, fun m => Iff.rfl, rfl⟩
        simp only [impl_ReachedWords_l1]
        have hpos : decide ((((e :: rest).length : Nat) : Int) > 0) = true := by simp only [List.length_cons, decide_eq_true_eq]; omega
        simp only [hpos, if_true, getI_zero, List.getElem?_cons_zero, Option.bind_some, hsub, hnx]
        exact vis_loop (nextI c e.toNat) c.Words.length (by omega) (nextI_ok c _ (by omega)) (impl_ReachedWords_l2 (nextI c e.toNat)) (fun s => .inl s) (fun o t k hk ho ht => by
          have hb := nextI_ok c _ (show e.toNat < c.Words.length by omega) _ (List.getElem_mem hk)
          have hkl : (nextI c e.toNat).length ≤ 1048576 := by
            unfold nextI
            split
            · refine Nat.le_trans (List.length_filter_le _ _) ?_
              unfold rawNext; split <;> (try split) <;> (try split) <;> simp
            · simp
          simp only [impl_ReachedWords_l2, ofNat_lt_true hk, if_true, getI_at hk, Option.bind_some, vis_get hb.1 (show (nextI c e.toNat)[k] < (o.length : Int) by rw [ho]; exact hb.2), bindS_def, w64_succ hk (show (nextI c e.toNat).length ≤ maxLen by show _ ≤ 9223372036854775807; omega), app1 (n := 8) (show t.length ≤ 1048576 by omega) (by omega)]
          rw [vis_eq (show ((nextI c e.toNat)[k]).toNat < o.length by omega)]
          cases o[((nextI c e.toNat)[k]).toNat] <;> rfl) (fun o t => by simp [impl_ReachedWords_l2]) o rest hI.len (by omega)) (fun t _ he => by
      obtain ⟨o, t⟩ := t
      have he' : t = [] := he
      subst he'
      simp [impl_ReachedWords_l1]) ((List.replicate c.Words.length false).set 0 true, [0]) trivial (winv_start (by omega))
    rw [g1]
    simp only [Option.bind_some]
    rw [g3]; rfl
  · simp [Bool.eq_false_iff.2 hc]
theorem spec_ReachedWords_eq (c : GCode) (h : GCode.le 1048576 c) : spec_ReachedWords c = some (if codeB c = true then reachC c else []) := by
  unfold spec_ReachedWords
  rw [spec_CodeOk_eq c h]
  simp only [Option.bind_some]
  by_cases hc : codeB c = true
  · obtain ⟨_, _, _, ⟨hw1, hw2⟩, _⟩ := codeB_facts hc
    have hm : c.Words.length ≤ 1048576 := by omega
    rw [mkI_len _ _ _ (by omega) (by omega)]
    have h0 : getI (List.replicate c.Words.length false) 0 = some false := by
      rw [getI_zero, List.getElem?_replicate, if_pos (by omega)]
    simp only [hc, Bool.not_true, Bool.false_eq_true, if_false, if_true, Option.bind_some, h0, bindS_def]
    obtain ⟨t', g1, g2, g3⟩ := wl_loop (spec_ReachedWords_l1 c) (fun t => (t.1, t.2.1.drop t.2.2.toNat)) (fun t => ∃ i : Nat, t.2.2 = i ∧ i ≤ t.2.1.length ∧ t.2.1.length ≤ t.1.count true) c.Words.length 0 (nextI c) (fun t => t.1) (nextI_ok c) (fun t hO hI hne => by
      obtain ⟨o, l, i⟩ := t
      obtain ⟨i, rfl, hi, hlc⟩ := hO
      simp only [Int.toNat_natCast] at hI hne hi hlc ⊢
      have hil : i < l.length := by
        rcases Nat.lt_or_ge i l.length with h | h
        · exact h
        · exact absurd (List.drop_eq_nil_of_le h) hne
      have hdr := List.drop_eq_getElem_cons hil
      have hmem : l[i] ∈ l.drop i := by rw [hdr]; exact List.mem_cons_self
      have hcov : ∀ x ∈ l.drop i, x = l[i] ∨ x ∈ l.drop (i + 1) := by rw [hdr]; intro x hx; exact List.mem_cons.1 hx
      have hsubs : ∀ x ∈ l.drop (i + 1), x ∈ l.drop i := by rw [hdr]; intro x hx; exact List.mem_cons_of_mem _ hx
      have hdl : (l.drop (i + 1)).length + 1 = (l.drop i).length := by rw [List.length_drop, List.length_drop]; omega
      have heb := hI.bnd l[i] hmem
      have hei : ((l[i].toNat : Nat) : Int) = l[i] := by omega
      have hlen := hI.len
      have hcw := List.count_le_length (a := true) (l := o)
      simp only at hlen
      have hnx := spec_Next_eq c hm l[i].toNat (by omega)
      rw [hei] at hnx
      have hsb : ∀ m ∈ nextS c l[i].toNat, 0 ≤ m ∧ m < c.Words.length := fun m hmm => nextI_bnd (mem_nextS.1 hmm)
      have V := visL (nextS c l[i].toNat) (o, l) (fun m hmm => by have := hsb m hmm; simp only; omega)
      have hsp : l = l.take (i + 1) ++ l.drop (i + 1) := (List.take_append_drop _ _).symm
      have hfa := foldl_vis_app (nextS c l[i].toNat) (l.take (i + 1)) o (l.drop (i + 1))
      rw [List.take_append_drop] at hfa
      refine ⟨(((nextS c l[i].toNat).foldl vis (o, l)).1, ((nextS c l[i].toNat).foldl vis (o, l)).2, ((i + 1 : Nat) : Int)), l[i], l.drop (i + 1), nextS c l[i].toNat, ?_, ⟨i + 1, rfl, ?_, ?_⟩, hmem, hcov, hsubs, hdl, fun m => mem_nextS, ?_⟩
      · simp only [spec_ReachedWords_l1, ofNat_lt_true hil, if_true, getI_at hil, Option.bind_some, hnx]
        have hkl : (nextS c l[i].toNat).length ≤ 1048576 := by
          have key : ∀ (q s : List Int), (q.foldl addL s).length ≤ s.length + q.length := by
            intro q
            induction q with
            | nil => intro s; simp
            | cons x q ih => intro s; rw [List.foldl_cons]; have := ih (addL s x); have := addL_len s x; simp only [List.length_cons]; omega
          have h1 := key (nextI c l[i].toNat) []
          have h2 : (nextI c l[i].toNat).length ≤ 1000 := by
            unfold nextI
            split
            · refine Nat.le_trans (List.length_filter_le _ _) ?_
              unfold rawNext; split <;> (try split) <;> (try split) <;> simp
            · simp
          unfold nextS
          simp only [List.length_nil] at h1
          omega
        rw [vis_loop (nextS c l[i].toNat) c.Words.length (by omega) hsb (spec_ReachedWords_l2 (nextS c l[i].toNat)) (fun s => s) (fun o t k hk ho ht => by
          have hb := hsb _ (List.getElem_mem hk)
          simp only [spec_ReachedWords_l2, ofNat_lt_true hk, if_true, getI_at hk, Option.bind_some, vis_get hb.1 (show (nextS c l[i].toNat)[k] < (o.length : Int) by rw [ho]; exact hb.2), bindS_def, w64_succ hk (show (nextS c l[i].toNat).length ≤ maxLen by show _ ≤ 9223372036854775807; omega), app1 (n := 8) (show t.length ≤ 1048576 by omega) (by omega)]
          rw [vis_eq (show ((nextS c l[i].toNat)[k]).toNat < o.length by omega)]
          cases o[((nextS c l[i].toNat)[k]).toNat] <;> rfl) (fun o t => by simp [spec_ReachedWords_l2]) o l hI.len hlc]
        simp only [Option.bind_some, w64_succ hil (show l.length ≤ maxLen by show _ ≤ 9223372036854775807; omega)]
      · rw [hfa]; simp; omega
      · have q1 := V.count
        have q2 := V.cle
        simp only at q1 q2 ⊢
        omega
      · simp only [Int.toNat_natCast]
        rw [hfa]
        simp only
        congr 1
        rw [List.drop_append_of_le_length (by simp; omega), List.drop_of_length_le (by simp; omega)]; simp) (fun t hO he => by
      obtain ⟨o, l, i⟩ := t
      obtain ⟨i, rfl, hi, hlc⟩ := hO
      simp only [Int.toNat_natCast] at he hi
      have hil : i = l.length := by
        have := congrArg List.length he
        simp at this; omega
      subst hil
      simp [spec_ReachedWords_l1]) ((List.replicate c.Words.length false).set 0 true, [0], 0) ⟨0, rfl, by simp, by
        have := (winv_start (W := c.Words.length) (next := nextI c) (by omega)).cnt
        exact this⟩ (winv_start (by omega))
    rw [g1]
    simp only [Option.bind_some]
    simp only at g3
    rw [g3]; rfl
  · simp [Bool.eq_false_iff.2 hc]
theorem law_ReachedWords (c : GCode) (hw : GCode.le maxLen c) : laws_FnExactReachedWords c = some true := by
  unfold laws_FnExactReachedWords
  obtain ⟨r, h1, h2, h3⟩ := laws_szCode_p c hw 1048576 (by omega) (by omega)
  rw [h1]
  simp only [Option.bind_some]
  by_cases hr : r < 0
  · simp [hr]
  · have hp := h3 (by omega)
    have hv1 := spec_ReachedWords_eq c hp
    have hv2 := impl_ReachedWords_eq c hp
    have hok : (if codeB c = true then reachC c else []).length ≤ 1048576 := by
      split
      · simp only [reachC, reachL, List.length_map, List.length_range]; exact hp.2.2.1
      · simp
    generalize (if codeB c = true then reachC c else []) = v at *
    obtain ⟨k1, c1, m1, m2, m3⟩ := laws_markCode_p c hp 1 (by omega) (by omega)
    obtain ⟨k2, v2, n1, n2, n3, n4⟩ := laws_markBoolS_p v hok 1 (by omega) (by omega)
    simp [hr, laws_toCode_p c hp, hv1, hv2, laws_eqBoolS_p v v hok hok, laws_eqCode_p c c hp hp, m1, n1, n4, show ¬ k1 < 0 by omega, show ¬ k2 < 0 by omega]
end Go.OM
set_option linter.unusedVariables false
set_option linter.unusedSimpArgs false
namespace Go.OM
/-! ### Tables of flags -/
theorem loopP_sim {α β ρ ρ' : Type} {f : α → Option (α ⊕ ρ)} {g : β → Option (β ⊕ ρ')} (I : α → β → Prop) (μ : α → Nat) (R : ρ → ρ' → Prop)
    (h : ∀ a b, I a b → (∃ a' b', f a = some (.inl a') ∧ g b = some (.inl b') ∧ I a' b' ∧ μ a' < μ a) ∨ ∃ r r', f a = some (.inr r) ∧ g b = some (.inr r') ∧ R r r') : ∀ a b, I a b → ∃ r r', loopP f a = some r ∧ loopP g b = some r' ∧ R r r' := by
  intro a
  generalize hn : μ a = n
  induction n using Nat.strongRecOn generalizing a with
  | _ n ih =>
    intro b hI
    rw [loopP_eq f, loopP_eq g]
    rcases h a b hI with ⟨a', b', h1, h2, h3, h4⟩ | ⟨r, r', h1, h2, h3⟩
    · rw [h1, h2]; exact ih _ (by omega) a' rfl b' h3
    · rw [h1, h2]; exact ⟨r, r', rfl, rfl, h3⟩
abbrev Tab := List (List Bool)
structure TabOk (W L : Nat) (t : Tab) : Prop where
  len : t.length = W
  row : ∀ r ∈ t, r.length = L
theorem TabOk.set {W L : Nat} {t : Tab} (h : TabOk W L t) (n : Nat) {r : List Bool} (hr : r.length = L) : TabOk W L (t.set n r) :=
  ⟨by simpa using h.len, fun x hx => by
    rcases List.mem_or_eq_of_mem_set hx with h1 | h1
    · exact h.row x h1
    · rw [h1]; exact hr⟩
theorem w64_nat {k n : Nat} (hk : k < n) (hn : n ≤ 1048576) : IntKind.wrap .i64 ((k : Int) + 1) = ((k + 1 : Nat) : Int) := w64_succ hk (show n ≤ maxLen by show _ ≤ 9223372036854775807; omega)
/-- A row filled. -/
theorem fill_loop {ρ : Type} (L : Nat) (b : Bool) (f : List Bool × Int → Option ((List Bool × Int) ⊕ ρ)) (fin : List Bool → ρ)
    (hf : ∀ (r : List Bool) (k : Nat), r.length = L → k < L → f (r, k) = some (.inl (r.set k b, ((k + 1 : Nat) : Int)))) (he : ∀ r : List Bool, r.length = L → f (r, L) = some (.inr (fin r))) (r0 : List Bool) (h0 : r0.length = L) :
    loopP f (r0, 0) = some (fin (List.replicate L b)) := by
  obtain ⟨r, h1, h2⟩ := loopP_run (f := f) (fun s : List Bool × Int => ∃ k : Nat, s.2 = k ∧ k ≤ L ∧ s.1.length = L ∧ ∀ j, j < k → s.1[j]? = some b) (fun s => L - s.2.toNat) (fun r => r = fin (List.replicate L b)) (by
    rintro ⟨r, i⟩ ⟨k, rfl, hk, hl, hs⟩
    simp only at hl hs hk
    by_cases hlt : k < L
    · left
      refine ⟨_, hf r k hl hlt, ⟨k + 1, rfl, by omega, by simpa using hl, fun j hj => ?_⟩, by simp only [Int.toNat_natCast]; omega⟩
      simp only [List.getElem?_set]
      by_cases e : k = j
      · subst e; simp [hl, hlt]
      · rw [if_neg e]; exact hs j (by omega)
    · right
      have hkL : k = L := by omega
      subst hkL
      refine ⟨_, he r hl, ?_⟩
      congr 1
      apply List.ext_getElem?
      intro j
      by_cases hj : j < k
      · rw [hs j hj, List.getElem?_replicate, if_pos hj]
      · rw [List.getElem?_eq_none (by omega), List.getElem?_replicate, if_neg hj]) (r0, 0) ⟨0, rfl, by omega, h0, fun j h => by omega⟩
  rw [h1, h2]
theorem app1g {α : Type} {n : Nat} {s : List α} {e : α} (h : s.length ≤ 1048576) (hn : n ≤ 64) : appI n s [e] = some (s ++ [e]) := by
  unfold appI
  have h1 : (s.length + [e].length) * n ≤ (s.length + [e].length) * 64 := Nat.mul_le_mul_left _ hn
  rw [if_pos ⟨by simp only [List.length_cons, List.length_nil] at h1 ⊢; omega, by simp only [List.length_cons, List.length_nil]; omega⟩]
theorem rep_loop {α : Type} (W : Nat) (hW : W ≤ 1048576) (x : α) (f : List α × Int → Option ((List α × Int) ⊕ List α))
    (hf : ∀ (o : List α) (k : Nat), o.length ≤ 1048576 → k < W → f (o, k) = some (.inl (o ++ [x], ((k + 1 : Nat) : Int)))) (he : ∀ o, f (o, W) = some (.inr o)) : loopP f ([], 0) = some (List.replicate W x) := by
  obtain ⟨r, h1, h2⟩ := loopP_run (f := f) (fun s : List α × Int => ∃ k : Nat, s.2 = k ∧ k ≤ W ∧ s.1 = List.replicate k x) (fun s => W - s.2.toNat) (fun r => r = List.replicate W x) (by
    rintro ⟨o, i⟩ ⟨k, rfl, hk, ho⟩
    simp only at ho hk
    by_cases hlt : k < W
    · left
      refine ⟨_, hf o k (by rw [ho]; simp; omega) hlt, ⟨k + 1, rfl, by omega, ?_⟩, by simp only [Int.toNat_natCast]; omega⟩
      simp only [ho, List.replicate_succ']
    · right
      have hkL : k = W := by omega
      subst hkL
      exact ⟨_, he o, ho⟩) ([], 0) ⟨0, rfl, by omega, rfl⟩
  rw [h1, h2]
theorem impl_table_eq (W L : Nat) (hW : W ≤ 1048576) (hL : L ≤ 1048576) (b : Bool) : impl_table W L b = some (List.replicate W (List.replicate L b)) := by
  unfold impl_table
  rw [rep_loop W hW (List.replicate L b) (impl_table_l1 W L b) (fun o k ho hk => by
    simp only [impl_table_l1, ofNat_lt_true hk, if_true]
    rw [mkI_len _ _ _ (by omega) (by omega)]
    simp only [Option.bind_some]
    rw [fill_loop L b (impl_table_l2 b (List.replicate L false)) id (fun r k hr hk => by
      simp only [impl_table_l2, List.length_replicate, ofNat_lt_true hk, if_true, getI_at (show k < r.length by omega), Option.bind_some, bindS_def, Int.toNat_natCast, w64_nat hk hL]) (fun r hr => by simp [impl_table_l2]) _ (by simp)]
    simp only [Option.bind_some, id, app1g ho (show 24 ≤ 64 by omega), w64_nat hk hW]) (fun o => by simp [impl_table_l1])]
  rfl
theorem spec_table_eq (W L : Nat) (hW : W ≤ 1048576) (hL : L ≤ 1048576) (b : Bool) : spec_l14Table W L b = some (List.replicate W (List.replicate L b)) := by
  unfold spec_l14Table
  rw [rep_loop W hW (List.replicate L b) (spec_l14Table_l1 W L b) (fun o k ho hk => by
    simp only [spec_l14Table_l1, ofNat_lt_true hk, if_true]
    rw [mkI_len _ _ _ (by omega) (by omega)]
    simp only [Option.bind_some]
    rw [fill_loop L b (spec_l14Table_l2 L b) id (fun r k hr hk => by
      simp only [spec_l14Table_l2, ofNat_lt_true hk, if_true, getI_at (show k < r.length by omega), Option.bind_some, bindS_def, Int.toNat_natCast, w64_nat hk hL]) (fun r hr => by simp [spec_l14Table_l2]) _ (by simp)]
    simp only [Option.bind_some, id, app1g ho (show 24 ≤ 64 by omega), w64_nat hk hW]) (fun o => by simp [spec_l14Table_l1])]
  rfl
theorem tab_rep (W L : Nat) (b : Bool) : TabOk W L (List.replicate W (List.replicate L b)) := ⟨by simp, fun r hr => by rw [(List.mem_replicate.1 hr).2]; simp⟩
/-- A row's flags turned, one by one; what changes is told. -/
theorem rowU_loop {ρ : Type} (out : Tab) (n L : Nat) (hn : n < out.length) (row : List Bool) (hrow : out[n]? = some row) (hL : row.length = L) (u : Nat → Bool → Bool) (f : Tab × Bool × Int → Option ((Tab × Bool × Int) ⊕ ρ)) (fin : Tab → Bool → ρ)
    (hf : ∀ (r : List Bool) (m : Bool) (k : Nat) (hk : k < r.length), r.length = L → f (out.set n r, m, k) = some (.inl (if u k r[k] = r[k] then (out.set n r, m, ((k + 1 : Nat) : Int)) else (out.set n (r.set k (u k r[k])), true, ((k + 1 : Nat) : Int)))))
    (he : ∀ (r : List Bool) (m : Bool), r.length = L → f (out.set n r, m, L) = some (.inr (fin (out.set n r) m))) (more : Bool) :
    loopP f (out, more, 0) = some (fin (out.set n (row.mapIdx u)) (more || decide (row.mapIdx u ≠ row))) := by
  have hself : out = out.set n row := by
    apply List.ext_getElem?
    intro j
    rw [List.getElem?_set]
    by_cases e : n = j
    · subst e; rw [if_pos rfl, if_pos hn]; exact hrow
    · rw [if_neg e]
  obtain ⟨r, h1, h2⟩ := loopP_run (f := f) (fun s : Tab × Bool × Int => ∃ (k : Nat) (r : List Bool), s.2.2 = k ∧ k ≤ L ∧ r.length = L ∧ s.1 = out.set n r ∧ (∀ (j : Nat), r[j]? = if j < k then (row.mapIdx u)[j]? else row[j]?) ∧ (s.2.1 = true ↔ more = true ∨ ∃ j, j < k ∧ (row.mapIdx u)[j]? ≠ row[j]?)) (fun s => L - s.2.2.toNat) (fun x => x = fin (out.set n (row.mapIdx u)) (more || decide (row.mapIdx u ≠ row))) (by
    rintro ⟨o, m, i⟩ ⟨k, r, rfl, hk, hr, ho, hrj, hm⟩
    simp only at ho hm hk
    subst ho
    by_cases hlt : k < L
    · left
      have hkr : k < r.length := by omega
      have hkrow : k < row.length := by omega
      have hrk : r[k] = row[k] := by
        have := hrj k
        rw [if_neg (by omega), List.getElem?_eq_getElem hkr, List.getElem?_eq_getElem hkrow] at this
        exact Option.some.inj this
      have hmk : (row.mapIdx u)[k]? = some (u k row[k]) := by rw [List.getElem?_mapIdx, List.getElem?_eq_getElem hkrow]; rfl
      have hrk2 : row[k]? = some row[k] := List.getElem?_eq_getElem hkrow
      refine ⟨_, hf r m k hkr hr, ?_, ?_⟩
      · by_cases hu : u k r[k] = r[k]
        · rw [if_pos hu]
          refine ⟨k + 1, r, rfl, by omega, hr, rfl, fun j => ?_, ?_⟩
          · by_cases e : j = k
            · subst e
              rw [hrj j, if_neg (by omega), if_pos (by omega), hmk, hrk2, ← hrk, hu]
            · rw [hrj j]
              by_cases e2 : j < k
              · rw [if_pos e2, if_pos (by omega)]
              · rw [if_neg e2, if_neg (by omega)]
          · simp only
            rw [hm]
            constructor
            · rintro (h | ⟨j, h, h'⟩)
              · exact .inl h
              · exact .inr ⟨j, by omega, h'⟩
            · rintro (h | ⟨j, h, h'⟩)
              · exact .inl h
              · refine .inr ⟨j, ?_, h'⟩
                rcases Nat.lt_or_ge j k with h3 | h3
                · exact h3
                · exfalso
                  have : j = k := by omega
                  subst this
                  rw [hmk, hrk2, ← hrk, hu] at h'
                  exact h' rfl
        · rw [if_neg hu]
          refine ⟨k + 1, r.set k (u k r[k]), rfl, by omega, by simpa using hr, rfl, fun j => ?_, ?_⟩
          · rw [List.getElem?_set]
            by_cases e : k = j
            · subst e
              rw [if_pos rfl, if_pos hkr, if_pos (by omega), hmk, hrk]
            · rw [if_neg e, hrj j]
              by_cases e2 : j < k
              · rw [if_pos e2, if_pos (by omega)]
              · rw [if_neg e2, if_neg (by omega)]
          · simp only
            refine ⟨fun _ => .inr ⟨k, by omega, ?_⟩, fun _ => trivial⟩
            rw [hmk, hrk2, ← hrk]
            intro h
            exact hu (Option.some.inj h)
      · split <;> (simp only [Int.toNat_natCast]; omega)
    · right
      have hkL : k = L := by omega
      subst hkL
      have hrr : r = row.mapIdx u := by
        apply List.ext_getElem?
        intro j
        rw [hrj j]
        by_cases hj : j < k
        · rw [if_pos hj]
        · rw [if_neg hj, List.getElem?_eq_none (by omega), List.getElem?_eq_none (by simp; omega)]
      subst hrr
      refine ⟨_, he _ m hr, ?_⟩
      congr 1
      rw [Bool.eq_iff_iff, hm]
      simp only [Bool.or_eq_true, decide_eq_true_eq]
      constructor
      · rintro (h | ⟨j, h, h'⟩)
        · exact .inl h
        · exact .inr fun e => h' (by rw [e])
      · rintro (h | h)
        · exact .inl h
        · right
          refine Classical.byContradiction fun hn => h ?_
          apply List.ext_getElem?
          intro j
          refine Classical.byContradiction fun hj => hn ⟨j, ?_, hj⟩
          rcases Nat.lt_or_ge j k with h3 | h3
          · exact h3
          · exfalso
            exact hj (by rw [List.getElem?_eq_none (by simp; omega), List.getElem?_eq_none (by omega)])) (out, more, 0) ⟨0, row, rfl, by omega, hL, hself, fun j => by simp, by simp⟩
  rw [h1, h2]
/-! counting -/
def cntR (r : List Bool) : Nat := r.count true
def cntT (t : Tab) : Nat := (t.map cntR).sum
theorem cntT_le {W L : Nat} {t : Tab} (h : TabOk W L t) : cntT t ≤ W * L := by
  obtain ⟨h1, h2⟩ := h
  subst h1
  unfold cntT
  induction t with
  | nil => simp
  | cons r t ih =>
    have := ih (fun x hx => h2 x (by simp [hx]))
    have h3 : cntR r ≤ L := by rw [← h2 r (by simp)]; exact List.count_le_length
    simp only [List.map_cons, List.sum_cons, List.length_cons, Nat.add_mul, Nat.one_mul]
    omega
theorem cntT_set {t : Tab} {n : Nat} {row r : List Bool} (h : t[n]? = some row) : cntT (t.set n r) + cntR row = cntT t + cntR r := by
  unfold cntT
  induction t generalizing n with
  | nil => simp at h
  | cons x t ih =>
    cases n with
    | zero =>
      simp only [List.getElem?_cons_zero, Option.some.injEq] at h
      subst h
      simp only [List.set_cons_zero, List.map_cons, List.sum_cons]; omega
    | succ n =>
      simp only [List.getElem?_cons_succ] at h
      have := ih h
      simp only [List.set_cons_succ, List.map_cons, List.sum_cons]; omega
/-- A row whose flags only go down. -/
theorem cntR_down : ∀ (row : List Bool) (u : Nat → Bool → Bool), (∀ k, u k false = false) → cntR (row.mapIdx u) ≤ cntR row ∧ (row.mapIdx u ≠ row → cntR (row.mapIdx u) < cntR row)
  | [], _, _ => ⟨by simp, fun h => absurd (by simp) h⟩
  | b :: row, u, hu => by
    have ih := cntR_down row (fun k => u (k + 1)) (fun k => hu _)
    have e : (b :: row).mapIdx u = u 0 b :: row.mapIdx (fun k => u (k + 1)) := by simp [List.mapIdx_cons]
    rw [e]
    unfold cntR at ih ⊢
    cases b with
    | false =>
      rw [hu 0]
      simp only [List.count_cons, Bool.false_eq_true, beq_iff_eq, if_false, Nat.add_zero, ne_eq, List.cons.injEq, true_and]
      exact ih
    | true =>
      cases hb : u 0 true with
      | true =>
        simp only [List.count_cons, beq_self_eq_true, if_true, ne_eq, List.cons.injEq, true_and]
        exact ⟨by omega, fun h => by have := ih.2 h; omega⟩
      | false =>
        simp only [List.count_cons, beq_self_eq_true, if_true, Bool.false_eq_true, beq_iff_eq, if_false]
        exact ⟨by omega, fun _ => by omega⟩
theorem cntR_up : ∀ (row : List Bool) (u : Nat → Bool → Bool), (∀ k, u k true = true) → cntR row ≤ cntR (row.mapIdx u) ∧ (row.mapIdx u ≠ row → cntR row < cntR (row.mapIdx u))
  | [], _, _ => ⟨by simp, fun h => absurd (by simp) h⟩
  | b :: row, u, hu => by
    have ih := cntR_up row (fun k => u (k + 1)) (fun k => hu _)
    have e : (b :: row).mapIdx u = u 0 b :: row.mapIdx (fun k => u (k + 1)) := by simp [List.mapIdx_cons]
    rw [e]
    unfold cntR at ih ⊢
    cases b with
    | true =>
      rw [hu 0]
      simp only [List.count_cons, beq_self_eq_true, if_true, ne_eq, List.cons.injEq, true_and]
      exact ⟨by omega, fun h => by have := ih.2 h; omega⟩
    | false =>
      cases hb : u 0 false with
      | false =>
        simp only [List.count_cons, Bool.false_eq_true, beq_iff_eq, if_false, Nat.add_zero, ne_eq, List.cons.injEq, true_and]
        exact ih
      | true =>
        simp only [List.count_cons, beq_self_eq_true, if_true, Bool.false_eq_true, beq_iff_eq, if_false]
        exact ⟨by omega, fun _ => by omega⟩
end Go.OM
set_option linter.unusedVariables false
set_option linter.unusedSimpArgs false
namespace Go.OM
/-! ### What has something for certain -/
theorem placeB_iff {n : Nat} {v : Int} : placeB n v = true ↔ 0 ≤ v ∧ v < n := by unfold placeB; rw [inB_iff]; omega
theorem wordB_facts {n m : Nat} {x : GIns} (h : wordB n m x = true) : (1 ≤ x.Op ∧ x.Op ≤ 20) ∧ (((2 ≤ x.Op ∧ x.Op ≤ 7) ∨ (9 ≤ x.Op ∧ x.Op ≤ 12) ∨ x.Op = 14 ∨ x.Op = 15) → 0 ≤ x.B ∧ x.B < n) ∧ ((10 ≤ x.Op ∧ x.Op ≤ 12) → 0 ≤ x.C ∧ x.C < n) ∧
    (x.Op ≠ 18 → ((x.Op = 13 ∨ x.Op = 20) ∧ x.A = -1) ∨ (0 ≤ x.A ∧ x.A < n)) ∧ (x.Op = 13 → (∀ a ∈ x.Args, 0 ≤ a ∧ a < n) ∧ x.Args.length ≤ 3) := by
  unfold wordB at h
  simp only [Bool.and_eq_true] at h
  obtain ⟨h1, h2, h3, h4, h5, h6⟩ := h
  have h1' := inB_iff.1 h1
  refine ⟨h1', fun hb => ?_, fun hc => ?_, fun h18 => ?_, fun h13 => ?_⟩
  · have : hasBB x.Op = true := by
      unfold hasBB
      simp only [Bool.or_eq_true, inB_iff, beq_iff_eq]
      omega
    unfold bB at h3
    rw [if_pos this] at h3
    exact placeB_iff.1 h3
  · have : hasCB x.Op = true := by unfold hasCB; rw [inB_iff]; omega
    unfold cB at h4
    rw [if_pos this] at h4
    exact placeB_iff.1 h4
  · unfold aB at h2
    by_cases ho : x.Op = 13 ∨ x.Op = 20
    · have : (x.Op == 13 || x.Op == 20) = true := by simp only [Bool.or_eq_true, beq_iff_eq]; exact ho
      rw [if_pos this] at h2
      simp only [Bool.or_eq_true, beq_iff_eq] at h2
      rcases h2 with h2 | h2
      · exact .inl ⟨ho, h2⟩
      · exact .inr (placeB_iff.1 h2)
    · have : ¬ (x.Op == 13 || x.Op == 20) = true := by simp only [Bool.or_eq_true, beq_iff_eq]; exact ho
      rw [if_neg this, if_neg (by simpa using h18)] at h2
      exact .inr (placeB_iff.1 h2)
  · unfold restB at h6
    rw [if_neg (by simp [h13])] at h6
    simp only [Bool.and_eq_true, decide_eq_true_eq, List.all_eq_true] at h6
    exact ⟨fun a ha => placeB_iff.1 (h6.1 a ha), by omega⟩
def clrL (row : List Bool) (l : List Int) : List Bool := l.foldl (fun r a => r.set a.toNat false) row
theorem clrL_len : ∀ (l : List Int) (row : List Bool), (clrL row l).length = row.length
  | [], _ => rfl
  | a :: l, row => by unfold clrL; rw [List.foldl_cons]; exact (clrL_len l _).trans (by simp)
def behA (x : GIns) (row : List Bool) : List Bool := if x.Op = 3 ∨ x.Op = 14 then row.set x.B.toNat false else if x.Op = 13 then clrL row x.Args else if x.Op = 17 then row.set x.A.toNat false else row
def behB (x : GIns) (row : List Bool) : List Bool := if (1 ≤ x.Op ∧ x.Op ≤ 14) ∧ 0 ≤ x.A then (behA x row).set x.A.toNat true else behA x row
theorem behA_len (x : GIns) (row : List Bool) : (behA x row).length = row.length := by
  unfold behA
  split
  · simp
  · split
    · exact clrL_len _ _
    · split <;> simp
theorem behB_len (x : GIns) (row : List Bool) : (behB x row).length = row.length := by
  unfold behB
  split
  · rw [List.length_set]; exact behA_len _ _
  · exact behA_len _ _
theorem getI_in {α : Type} {l : List α} {v : Int} (h0 : 0 ≤ v) (h : v < l.length) : getI l v = some (l[v.toNat]'(by omega)) := by
  have : v = ((v.toNat : Nat) : Int) := by omega
  conv => lhs; rw [this]
  exact getI_at (by omega)
theorem clr_loop (x : GIns) (n : Nat) (ha : ∀ a ∈ x.Args, 0 ≤ a ∧ a < n) (hl : x.Args.length ≤ 3) (f : List Bool × Int → Option ((List Bool × Int) ⊕ List Bool))
    (hf : ∀ (r : List Bool) (k : Nat) (hk : k < x.Args.length), r.length = n → f (r, k) = some (.inl (r.set (x.Args[k]).toNat false, ((k + 1 : Nat) : Int)))) (he : ∀ r, f (r, x.Args.length) = some (.inr r)) (row : List Bool) (hr : row.length = n) : loopP f (row, 0) = some (clrL row x.Args) := by
  have := loopP_fold x.Args (fun (s : List Bool) k => (s, (k : Int))) (fun k s => s.length = n) (fun s a => .inl (s.set a.toNat false)) id f (fun s k hk hI => .inl ⟨_, rfl, hf s k hk hI, by simpa using hI⟩) (fun s _ => he s) row hr
  rw [foldE_inl] at this
  exact this
theorem impl_Writes_eq (x : GIns) : impl_Writes x = some (if inB x.Op 1 14 = true then x.A else -1) := by
  unfold impl_Writes; simp only [impl_in_eq, Option.bind_some, ite_some]
theorem spec_Writes_eq (x : GIns) : spec_Writes x = some (if inB x.Op 1 14 = true then x.A else -1) := by
  unfold spec_Writes; simp only [spec_in_eq, Option.bind_some, ite_some]
theorem app_nil {α : Type} {n : Nat} {l : List α} (h : l.length ≤ 1048576) (hn : n ≤ 64) : appI n [] l = some l := by
  unfold appI
  have h1 : (([] : List α).length + l.length) * n ≤ (([] : List α).length + l.length) * 64 := Nat.mul_le_mul_left _ hn
  rw [if_pos ⟨by simp only [List.length_nil] at h1 ⊢; omega, by simp only [List.length_nil]; omega⟩]
  simp
theorem beh_case (x : GIns) (n m : Nat) (row : List Bool) (hx : wordB n m x = true) (hr : row.length = n) (l13 : Option (List Bool)) (h13 : x.Op = 13 → l13 = some (clrL row x.Args)) :
    (Option.bind (if (x.Op == 3) = true then some (x.Op == 3) else some (x.Op == 14)) fun v12 => if v12 = true then (getI row x.B).bind fun e15 => some (List.set row x.B.toNat false) else if (x.Op == 13) = true then l13 else if (x.Op == 17) = true then (getI row x.A).bind fun e32 => some (List.set row x.A.toNat false) else some row) = some (behA x row) := by
  obtain ⟨_, hB, _, hA, _⟩ := wordB_facts hx
  unfold behA
  by_cases h3 : x.Op = 3 ∨ x.Op = 14
  · obtain ⟨b0, b1⟩ := hB (by omega)
    have e : (if (x.Op == 3) = true then some (x.Op == 3) else some (x.Op == 14)) = some true := by
      rcases h3 with h | h <;> simp [h]
    rw [e, if_pos h3]
    simp only [Option.bind_some, if_true, getI_in b0 (by rw [hr]; exact b1)]
  · have e : (if (x.Op == 3) = true then some (x.Op == 3) else some (x.Op == 14)) = some false := by
      rw [not_or] at h3
      simp [h3.1, h3.2]
    rw [e, if_neg h3]
    simp only [Option.bind_some, Bool.false_eq_true, if_false]
    by_cases h : x.Op = 13
    · simp only [h, beq_self_eq_true, if_true]; exact h13 h
    · rw [if_neg (by simpa using h), if_neg h]
      by_cases h17 : x.Op = 17
      · rcases hA (by omega) with ⟨h5, _⟩ | ⟨a0, a1⟩
        · omega
        · simp only [h17, beq_self_eq_true, if_true, getI_in a0 (show x.A < (row.length : Int) by rw [hr]; exact a1), Option.bind_some]
      · rw [if_neg (by simpa using h17), if_neg h17]
theorem beh_write (x : GIns) (n m : Nat) (hx : wordB n m x = true) (g : Int → List Bool → Option (List Bool)) (hg : ∀ o, o.length = n → 0 ≤ x.A → x.A < n → g x.A o = some (o.set x.A.toNat true)) (o : List Bool) (ho : o.length = n) (w : Int) (hw : w = if inB x.Op 1 14 = true then x.A else -1) :
    (if (decide (w ≥ 0)) = true then g w o else some o) = some (if (1 ≤ x.Op ∧ x.Op ≤ 14) ∧ 0 ≤ x.A then o.set x.A.toNat true else o) := by
  obtain ⟨_, _, _, hA, _⟩ := wordB_facts hx
  by_cases hi : inB x.Op 1 14 = true
  · have hi' := inB_iff.1 hi
    rw [if_pos hi] at hw
    subst hw
    by_cases ha : 0 ≤ x.A
    · rcases hA (by omega) with ⟨_, h5⟩ | ⟨a0, a1⟩
      · omega
      · rw [if_pos (by simpa using ha), if_pos ⟨hi', ha⟩]
        exact hg o ho a0 a1
    · rw [if_neg (by simpa using ha), if_neg (fun h => ha h.2)]
  · have hi' : ¬ (1 ≤ x.Op ∧ x.Op ≤ 14) := fun h => hi (inB_iff.2 h)
    rw [if_neg hi] at hw
    subst hw
    rw [if_neg (by simp), if_neg (fun h => hi' h.1)]
theorem impl_behind_eq (x : GIns) (n m : Nat) (row : List Bool) (hx : wordB n m x = true) (hr : row.length = n) (hn : n ≤ 1048576) : impl_behind x row = some (behB x row) := by
  unfold impl_behind
  rw [app_nil (by omega) (by omega)]
  simp only [Option.bind_some, bindS_def]
  rw [beh_case x n m row hx hr _ (fun h13 => by
    obtain ⟨_, _, _, _, h5⟩ := wordB_facts hx
    obtain ⟨h6, h7⟩ := h5 h13
    exact clr_loop x n h6 h7 (impl_behind_l1 x) (fun r k hk hrl => by
      obtain ⟨a0, a1⟩ := h6 _ (List.getElem_mem hk)
      simp only [impl_behind_l1, ofNat_lt_true hk, if_true, getI_at hk, Option.bind_some, getI_in a0 (show x.Args[k] < (r.length : Int) by rw [hrl]; exact a1), bindS_def, w64_nat hk (by omega)]) (fun r => by simp [impl_behind_l1]) row hr)]
  simp only [Option.bind_some, impl_Writes_eq]
  exact beh_write x n m hx (fun w o => (getI o w).bind fun e39 => some (List.set o w.toNat true)) (fun o ho a0 a1 => by rw [getI_in a0 (by rw [ho]; exact a1)]; rfl) (behA x row) ((behA_len x row).trans hr) _ rfl
theorem spec_behind_eq (x : GIns) (n m : Nat) (row : List Bool) (hx : wordB n m x = true) (hr : row.length = n) (hn : n ≤ 1048576) : spec_l14Behind x row = some (behB x row) := by
  unfold spec_l14Behind
  rw [app_nil (by omega) (by omega)]
  simp only [Option.bind_some, bindS_def]
  rw [beh_case x n m row hx hr _ (fun h13 => by
    obtain ⟨_, _, _, _, h5⟩ := wordB_facts hx
    obtain ⟨h6, h7⟩ := h5 h13
    exact clr_loop x n h6 h7 (spec_l14Behind_l1 x) (fun r k hk hrl => by
      obtain ⟨a0, a1⟩ := h6 _ (List.getElem_mem hk)
      simp only [spec_l14Behind_l1, ofNat_lt_true hk, if_true, getI_at hk, Option.bind_some, getI_in a0 (show x.Args[k] < (r.length : Int) by rw [hrl]; exact a1), bindS_def, w64_nat hk (by omega)]) (fun r => by simp [spec_l14Behind_l1]) row hr)]
  simp only [Option.bind_some, spec_Writes_eq]
  exact beh_write x n m hx (fun w o => (getI o w).bind fun e39 => some (List.set o w.toNat true)) (fun o ho a0 a1 => by rw [getI_in a0 (by rw [ho]; exact a1)]; rfl) (behA x row) ((behA_len x row).trans hr) _ rfl
/-! reached, the last first -/
theorem spec_l14Reached_eq (c : GCode) (hc : codeB c = true) : spec_l14Reached c = some (reachC c) := by
  unfold spec_l14Reached
  obtain ⟨_, _, _, ⟨hw1, hw2⟩, _⟩ := codeB_facts hc
  have hm : c.Words.length ≤ 1048576 := by omega
  rw [mkI_len _ _ _ (by omega) (by omega)]
  have h0 : getI (List.replicate c.Words.length false) 0 = some false := by
    rw [getI_zero, List.getElem?_replicate, if_pos (by omega)]
  simp only [Option.bind_some, h0, bindS_def]
  obtain ⟨t', g1, g2, g3⟩ := wl_loop (spec_l14Reached_l1 c) (fun t => t) (fun _ => True) c.Words.length 0 (nextI c) (fun t => t.1) (nextI_ok c) (fun t _ hI hne => by
    obtain ⟨o, t⟩ := t
    have hne' : t ≠ [] := hne
    have hpos : 0 < t.length := List.length_pos_iff.2 hne'
    have hlt : t.length - 1 < t.length := by omega
    have hcnt := hI.cnt
    have hlen := hI.len
    have hcw := List.count_le_length (a := true) (l := o)
    simp only at hcnt hlen
    have hmem : t[t.length - 1] ∈ t := List.getElem_mem hlt
    have heb := hI.bnd t[t.length - 1] hmem
    have hei : ((t[t.length - 1].toNat : Nat) : Int) = t[t.length - 1] := by omega
    have hw : IntKind.wrap .i64 ((t.length : Int) - 1) = ((t.length - 1 : Nat) : Int) := by rw [w64 (by omega) (by omega)]; omega
    have hsub : subI t 0 ((t.length - 1 : Nat) : Int) = some (t.take (t.length - 1)) := by
      unfold subI
      rw [if_pos ⟨by omega, by omega, by omega⟩]
      simp
    have hnx := spec_Next_eq c hm t[t.length - 1].toNat (by omega)
    rw [hei] at hnx
    have hsb : ∀ m ∈ nextS c t[t.length - 1].toNat, 0 ≤ m ∧ m < c.Words.length := fun m hmm => nextI_bnd (mem_nextS.1 hmm)
    refine ⟨(nextS c t[t.length - 1].toNat).foldl vis (o, t.take (t.length - 1)), t[t.length - 1], t.take (t.length - 1), nextS c t[t.length - 1].toNat, ?_, trivial, hmem, fun x hx => ?_, fun x hx => List.mem_of_mem_take hx, by simp only [List.length_take]; omega, fun m => mem_nextS, rfl⟩
    · simp only [spec_l14Reached_l1]
      have hp : decide ((t.length : Int) > 0) = true := by simp only [decide_eq_true_eq]; omega
      simp only [hp, if_true, hw, getI_at hlt, Option.bind_some, hsub, hnx]
      have hkl : (nextS c t[t.length - 1].toNat).length ≤ 1048576 := by
        have key : ∀ (q s : List Int), (q.foldl addL s).length ≤ s.length + q.length := by
          intro q
          induction q with
          | nil => intro s; simp
          | cons x q ih => intro s; rw [List.foldl_cons]; have := ih (addL s x); have := addL_len s x; simp only [List.length_cons]; omega
        have h1 := key (nextI c t[t.length - 1].toNat) []
        have h2 : (nextI c t[t.length - 1].toNat).length ≤ 1000 := by
          unfold nextI
          split
          · refine Nat.le_trans (List.length_filter_le _ _) ?_
            unfold rawNext; split <;> (try split) <;> (try split) <;> simp
          · simp
        unfold nextS
        simp only [List.length_nil] at h1
        omega
      exact vis_loop (nextS c t[t.length - 1].toNat) c.Words.length (by omega) hsb (spec_l14Reached_l2 (nextS c t[t.length - 1].toNat)) (fun s => .inl s) (fun o w k hk ho ht => by
        have hb := hsb _ (List.getElem_mem hk)
        simp only [spec_l14Reached_l2, ofNat_lt_true hk, if_true, getI_at hk, Option.bind_some, vis_get hb.1 (show (nextS c t[t.length - 1].toNat)[k] < (o.length : Int) by rw [ho]; exact hb.2), bindS_def, w64_nat hk hkl, app1 (n := 8) (show w.length ≤ 1048576 by omega) (by omega)]
        rw [vis_eq (show ((nextS c t[t.length - 1].toNat)[k]).toNat < o.length by omega)]
        cases o[((nextS c t[t.length - 1].toNat)[k]).toNat] <;> rfl) (fun o w => by simp [spec_l14Reached_l2]) o _ hI.len (by simp only [List.length_take]; omega)
    · have hx' : x ∈ t := hx
      obtain ⟨j, hj, rfl⟩ := List.mem_iff_getElem.1 hx'
      by_cases e : j = t.length - 1
      · subst e; exact .inl rfl
      · right
        have hj2 : j < t.length - 1 := by omega
        have : (t.take (t.length - 1))[j]'(by simp only [List.length_take]; omega) = t[j] := by simp
        rw [← this]
        exact List.getElem_mem _) (fun t _ he => by
    obtain ⟨o, t⟩ := t
    have he' : t = [] := he
    subst he'
    simp [spec_l14Reached_l1]) ((List.replicate c.Words.length false).set 0 true, [0]) trivial (winv_start (by omega))
  rw [g1]
  simp only [Option.bind_some]
  rw [g3]; rfl
end Go.OM
set_option linter.unusedVariables false
set_option linter.unusedSimpArgs false
namespace Go.OM
/-! ### HasAt -/
def andU (beh : List Bool) : Nat → Bool → Bool := fun k b => b && beh.getD k false
def stepT (beh : List Bool) (s : Tab × Bool) (n : Int) : Tab × Bool := match s.1[n.toNat]? with
  | some row => (s.1.set n.toNat (row.mapIdx (andU beh)), s.2 || decide (row.mapIdx (andU beh) ≠ row))
  | none => s
/-- What a step does to a table: it stays one, its flags go down, and when it says so they do. -/
structure Dn (W L : Nat) (s s' : Tab × Bool) : Prop where
  ok : TabOk W L s'.1
  le : cntT s'.1 ≤ cntT s.1
  lt : s'.2 = true → s.2 = true ∨ cntT s'.1 < cntT s.1
  keep : s.2 = true → s'.2 = true
theorem Dn.refl {W L : Nat} {s : Tab × Bool} (h : TabOk W L s.1) : Dn W L s s := ⟨h, Nat.le_refl _, .inl, id⟩
theorem Dn.trans {W L : Nat} {s s' s2 : Tab × Bool} (h : Dn W L s s') (h2 : Dn W L s' s2) : Dn W L s s2 :=
  ⟨h2.ok, Nat.le_trans h2.le h.le, fun e => by
    rcases h2.lt e with e | e
    · rcases h.lt e with e | e
      · exact .inl e
      · exact .inr (Nat.lt_of_le_of_lt h2.le e)
    · exact .inr (Nat.lt_of_lt_of_le e h.le), fun e => h2.keep (h.keep e)⟩
theorem stepT_dn {W L : Nat} {s : Tab × Bool} (h : TabOk W L s.1) (beh : List Bool) (n : Int) : Dn W L s (stepT beh s n) := by
  unfold stepT
  split
  · rename_i row hr
    have hrl := h.row row (List.mem_of_getElem? hr)
    have hd := cntR_down row (andU beh) (fun k => rfl)
    have hs := cntT_set (r := row.mapIdx (andU beh)) hr
    refine ⟨h.set _ (by simpa using hrl), by simp only; omega, fun e => ?_, fun e => by simp [e]⟩
    simp only [Bool.or_eq_true, decide_eq_true_eq] at e
    rcases e with e | e
    · exact .inl e
    · right
      have := hd.2 e
      simp only; omega
  · exact .refl h
theorem foldT_dn {W L : Nat} (beh : List Bool) : ∀ (l : List Int) {s : Tab × Bool}, TabOk W L s.1 → Dn W L s (l.foldl (stepT beh) s)
  | [], s, h => .refl h
  | n :: l, s, h => by
    rw [List.foldl_cons]
    have h1 := stepT_dn h beh n
    exact h1.trans (foldT_dn beh l h1.ok)
theorem stepT_idem (beh : List Bool) (s : Tab × Bool) (n : Int) : stepT beh (stepT beh s n) n = stepT beh s n := by
  unfold stepT
  cases h : s.1[n.toNat]? with
  | none => simp only [h]
  | some row =>
    have hlt := (List.getElem?_eq_some_iff.1 h).1
    have e : (row.mapIdx (andU beh)).mapIdx (andU beh) = row.mapIdx (andU beh) := by
      apply List.ext_getElem?
      intro j
      simp only [List.getElem?_mapIdx]
      cases row[j]? with
      | none => rfl
      | some b => simp [andU]
    simp only [List.getElem?_set, hlt, if_true]
    rw [e]
    simp
theorem nextS_cases (c : GCode) (i : Nat) : nextS c i = nextI c i ∨ ∃ a, nextI c i = [a, a] ∧ nextS c i = [a] := by
  unfold nextS
  have hl : (nextI c i).length ≤ 2 := by
    unfold nextI
    split
    · refine Nat.le_trans (List.length_filter_le _ _) ?_
      unfold rawNext; split <;> (try split) <;> (try split) <;> simp
    · simp
  match h : nextI c i, hl with
  | [], _ => exact .inl rfl
  | [a], _ => left; simp [addL]
  | [a, b], _ =>
    by_cases e : a = b
    · subst e
      exact .inr ⟨a, rfl, by simp [addL]⟩
    · left
      have : ¬ b = a := fun h => e h.symm
      simp [addL, this]
  | _ :: _ :: _ :: _, hq => simp only [List.length_cons] at hq; omega
theorem fold_nextS (c : GCode) (i : Nat) (beh : List Bool) (s : Tab × Bool) : (nextS c i).foldl (stepT beh) s = (nextI c i).foldl (stepT beh) s := by
  rcases nextS_cases c i with h | ⟨a, h1, h2⟩
  · rw [h]
  · rw [h1, h2]
    simp only [List.foldl_cons, List.foldl_nil, stepT_idem]
def sweepStep (c : GCode) (reach : List Bool) (s : Tab × Bool) (i : Nat) : Tab × Bool := if reach[i]? = some true then match c.Words[i]?, s.1[i]? with
  | some x, some row => (nextI c i).foldl (stepT (behB x row)) s
  | _, _ => s
  else s
def sweep (c : GCode) (reach : List Bool) (t : Tab) : Tab × Bool := (List.range c.Words.length).foldl (sweepStep c reach) (t, false)
theorem sweepStep_dn {c : GCode} {reach : List Bool} {W L : Nat} {s : Tab × Bool} (h : TabOk W L s.1) (i : Nat) : Dn W L s (sweepStep c reach s i) := by
  unfold sweepStep
  split
  · split
    · exact foldT_dn _ _ h
    · exact .refl h
  · exact .refl h
theorem sweepF_dn {c : GCode} {reach : List Bool} {W L : Nat} : ∀ (l : List Nat) {s : Tab × Bool}, TabOk W L s.1 → Dn W L s (l.foldl (sweepStep c reach) s)
  | [], s, h => .refl h
  | n :: l, s, h => by
    rw [List.foldl_cons]
    have h1 := sweepStep_dn (c := c) (reach := reach) h n
    exact h1.trans (sweepF_dn l h1.ok)
/-- Rows of words that are not reached stay. -/
theorem stepT_keep {s : Tab × Bool} (beh : List Bool) {n : Int} {j : Nat} (h : n.toNat ≠ j) : (stepT beh s n).1[j]? = s.1[j]? := by
  unfold stepT
  split
  · simp only [List.getElem?_set_ne h]
  · rfl
theorem foldT_keep (beh : List Bool) {j : Nat} : ∀ (l : List Int) {s : Tab × Bool}, (∀ n ∈ l, n.toNat ≠ j) → (l.foldl (stepT beh) s).1[j]? = s.1[j]?
  | [], s, h => rfl
  | n :: l, s, h => by
    rw [List.foldl_cons, foldT_keep beh l (fun m hm => h m (by simp [hm])), stepT_keep beh (h n (by simp))]
theorem reachC_get {c : GCode} {n : Nat} (h : n < c.Words.length) : (reachC c)[n]? = some true ↔ Reach (nextI c) 0 n := by
  unfold reachC reachL
  rw [List.getElem?_map, List.getElem?_range h]
  simp
theorem reachC_len (c : GCode) : (reachC c).length = c.Words.length := by simp [reachC, reachL]
theorem sweepStep_keep {c : GCode} {s : Tab × Bool} (i j : Nat) (hj : j < c.Words.length) (hr : ¬ (reachC c)[j]? = some true) : (sweepStep c (reachC c) s i).1[j]? = s.1[j]? := by
  unfold sweepStep
  split
  · rename_i hi
    have hil : i < c.Words.length := by
      have := (List.getElem?_eq_some_iff.1 hi).1
      rwa [reachC_len] at this
    have hri := (reachC_get hil).1 hi
    split
    · refine foldT_keep _ _ (fun n hn e => hr ?_)
      rw [reachC_get hj, ← e]
      exact .step hri hn
    · rfl
  · rfl
theorem sweepF_keep {c : GCode} (j : Nat) (hj : j < c.Words.length) (hr : ¬ (reachC c)[j]? = some true) : ∀ (l : List Nat) {s : Tab × Bool}, (l.foldl (sweepStep c (reachC c)) s).1[j]? = s.1[j]?
  | [], s => rfl
  | n :: l, s => by rw [List.foldl_cons, sweepF_keep j hj hr l, sweepStep_keep n j hj hr]
/-! the loops -/
theorem getI_set_self {t : Tab} {n : Nat} {r : List Bool} (h : n < t.length) : getI (t.set n r) (n : Int) = some r := getI_set h
theorem impl_step (L : Nat) (hL : L ≤ 1048576) (beh : List Bool) (hb : beh.length = L) {W : Nat} (out : Tab) (h : TabOk W L out) (n : Int) (h0 : 0 ≤ n) (h1 : n < W) (more : Bool) :
    loopP (impl_HasAt_l5 beh n) (out, more, 0) = some (stepT beh (out, more) n) := by
  have hn : n.toNat < out.length := by rw [h.len]; omega
  have hne : ((n.toNat : Nat) : Int) = n := by omega
  have hrow : out[n.toNat]? = some out[n.toNat] := List.getElem?_eq_getElem hn
  have hl := h.row _ (List.getElem_mem hn)
  rw [rowU_loop out n.toNat L hn _ hrow hl (andU beh) (impl_HasAt_l5 beh n) (fun o m => (o, m)) (fun r m k hk hr => by
    have hkb : k < beh.length := by omega
    have hg : getI (out.set n.toNat r) n = some r := by
      have := getI_set_self (r := r) hn
      rwa [hne] at this
    simp only [impl_HasAt_l5, ofNat_lt_true hkb, if_true, getI_at hkb, getI_at hk, hg, Option.bind_some, bindS_def, Int.toNat_natCast, w64_nat hkb (by omega), List.set_set]
    have hu : andU beh k r[k] = (r[k] && beh[k]) := by simp [andU, List.getD_eq_getElem?_getD, List.getElem?_eq_getElem hkb]
    rw [hu]
    cases hbk : beh[k] <;> cases hrk : r[k] <;> simp) (fun r m hr => by simp [impl_HasAt_l5, hb]) more]
  unfold stepT
  simp only [hrow]
theorem spec_step (c : GCode) (hL : c.Locals.length ≤ 1048576) (beh : List Bool) (hb : beh.length = c.Locals.length) {W : Nat} (out : Tab) (h : TabOk W c.Locals.length out) (nl : List Int) (q : Nat) (hq : q < nl.length) (h0 : 0 ≤ nl[q]) (h1 : nl[q] < W) (more : Bool) :
    loopP (spec_l14Has_l5 c beh nl q) (out, more, 0) = some (stepT beh (out, more) nl[q]) := by
  have hn : nl[q].toNat < out.length := by rw [h.len]; omega
  have hne : ((nl[q].toNat : Nat) : Int) = nl[q] := by omega
  have hrow : out[nl[q].toNat]? = some out[nl[q].toNat] := List.getElem?_eq_getElem hn
  have hl := h.row _ (List.getElem_mem hn)
  rw [rowU_loop out nl[q].toNat c.Locals.length hn _ hrow hl (andU beh) (spec_l14Has_l5 c beh nl q) (fun o m => (o, m)) (fun r m k hk hr => by
    have hkb : k < beh.length := by omega
    have hkc : k < c.Locals.length := by omega
    have hg : getI (out.set nl[q].toNat r) nl[q] = some r := by
      have := getI_set_self (r := r) hn
      rwa [hne] at this
    simp only [spec_l14Has_l5, ofNat_lt_true hkc, if_true, getI_at hkb, getI_at hk, getI_at hq, hg, Option.bind_some, bindS_def, Int.toNat_natCast, w64_nat hkc (by omega), List.set_set]
    have hu : andU beh k r[k] = (r[k] && beh[k]) := by simp [andU, List.getD_eq_getElem?_getD, List.getElem?_eq_getElem hkb]
    rw [hu]
    cases hbk : beh[k] <;> cases hrk : r[k] <;> simp) (fun r m hr => by simp [spec_l14Has_l5]) more]
  unfold stepT
  simp only [hrow]
theorem nextI_len (c : GCode) (i : Nat) : (nextI c i).length ≤ 2 := by
  unfold nextI
  split
  · refine Nat.le_trans (List.length_filter_le _ _) ?_
    unfold rawNext; split <;> (try split) <;> (try split) <;> simp
  · simp
theorem nextS_len (c : GCode) (i : Nat) : (nextS c i).length ≤ 2 := by
  rcases nextS_cases c i with h | ⟨a, h1, h2⟩
  · rw [h]; exact nextI_len c i
  · rw [h2]; simp
theorem impl_targets (W L : Nat) (hL : L ≤ 1048576) (beh : List Bool) (hb : beh.length = L) (nl : List Int) (hnl : nl.length ≤ 2) (hnb : ∀ n ∈ nl, 0 ≤ n ∧ n < W) (s : Tab × Bool) (h : TabOk W L s.1) :
    loopP (impl_HasAt_l4 beh nl) (s.1, s.2, 0) = some (nl.foldl (stepT beh) s) := by
  have := loopP_fold nl (fun (s : Tab × Bool) k => (s.1, s.2, (k : Int))) (fun k s => TabOk W L s.1) (fun s n => .inl (stepT beh s n)) id (impl_HasAt_l4 beh nl) (fun s k hk hI => by
    left
    obtain ⟨b0, b1⟩ := hnb _ (List.getElem_mem hk)
    refine ⟨_, rfl, ?_, (stepT_dn hI beh _).ok⟩
    simp only [impl_HasAt_l4, ofNat_lt_true hk, if_true, getI_at hk, Option.bind_some]
    rw [impl_step L hL beh hb s.1 hI nl[k] b0 b1 s.2]
    simp only [Option.bind_some, w64_nat hk (by omega)]) (fun s _ => by simp [impl_HasAt_l4]) s h
  rw [foldE_inl] at this
  exact this
theorem spec_targets (c : GCode) (W : Nat) (hL : c.Locals.length ≤ 1048576) (beh : List Bool) (hb : beh.length = c.Locals.length) (nl : List Int) (hnl : nl.length ≤ 2) (hnb : ∀ n ∈ nl, 0 ≤ n ∧ n < W) (s : Tab × Bool) (h : TabOk W c.Locals.length s.1) :
    loopP (spec_l14Has_l4 c beh nl) (s.1, s.2, 0) = some (nl.foldl (stepT beh) s) := by
  have := loopP_fold nl (fun (s : Tab × Bool) k => (s.1, s.2, (k : Int))) (fun k s => TabOk W c.Locals.length s.1) (fun s n => .inl (stepT beh s n)) id (spec_l14Has_l4 c beh nl) (fun s k hk hI => by
    left
    obtain ⟨b0, b1⟩ := hnb _ (List.getElem_mem hk)
    refine ⟨_, rfl, ?_, (stepT_dn hI beh _).ok⟩
    simp only [spec_l14Has_l4, ofNat_lt_true hk, if_true, Option.bind_some]
    rw [spec_step c hL beh hb s.1 hI nl k hk b0 b1 s.2]
    simp only [Option.bind_some, w64_nat hk (by omega)]) (fun s _ => by simp [spec_l14Has_l4]) s h
  rw [foldE_inl] at this
  exact this
theorem impl_sweep (c : GCode) (hc : codeB c = true) (t : Tab) (h : TabOk c.Words.length c.Locals.length t) : loopP (impl_HasAt_l3 c (reachC c)) (t, false, 0) = some (.inl (sweep c (reachC c) t)) := by
  obtain ⟨_, hl, _, ⟨hw1, hw2⟩, _, _, hwd⟩ := codeB_facts hc
  have := loopP_fold (List.range c.Words.length) (fun (s : Tab × Bool) k => (s.1, s.2, (k : Int))) (fun k s => TabOk c.Words.length c.Locals.length s.1) (fun s i => .inl (sweepStep c (reachC c) s i)) (fun s => (Sum.inl s : (Tab × Bool) ⊕ Tab)) (impl_HasAt_l3 c (reachC c)) (fun s k hk hI => by
    left
    have hk' : k < c.Words.length := by simpa using hk
    have hkr : k < (reachC c).length := by rw [reachC_len]; exact hk'
    have hkt : k < s.1.length := by rw [hI.len]; exact hk'
    refine ⟨_, rfl, ?_, (sweepStep_dn hI _).ok⟩
    simp only [impl_HasAt_l3, ofNat_lt_true hk', if_true, getI_at hk', getI_at hkr, getI_at hkt, Option.bind_some, List.getElem_range]
    have e : (if (!(reachC c)[k]) = true then some (s.1, s.2) else (impl_behind c.Words[k] s.1[k]).bind fun r54 => (impl_Next c k).bind fun r56 => loopP (impl_HasAt_l4 r54 r56) (s.1, s.2, 0)) = some (sweepStep c (reachC c) s k) := by
      unfold sweepStep
      rw [List.getElem?_eq_getElem hkr, List.getElem?_eq_getElem hk', List.getElem?_eq_getElem hkt]
      cases hrk : (reachC c)[k]
      · simp
      · have hrl := hI.row _ (List.getElem_mem hkt)
        rw [impl_behind_eq c.Words[k] _ _ s.1[k] (hwd _ (List.getElem_mem hk')) hrl (by omega), impl_Next_eq c (by omega) k hk']
        simp only [Option.bind_some, Bool.not_true, Bool.false_eq_true, if_false, if_true]
        exact impl_targets c.Words.length c.Locals.length (by omega) _ ((behB_len _ _).trans hrl) _ (nextI_len c k) (nextI_ok c k hk') s hI
    rw [e]
    simp only [Option.bind_some, w64_nat hk' (by omega)]) (fun s _ => by simp [impl_HasAt_l3]) (t, false) h
  rw [foldE_inl] at this
  exact this
theorem spec_sweep (c : GCode) (hc : codeB c = true) (t : Tab) (h : TabOk c.Words.length c.Locals.length t) : loopP (spec_l14Has_l3 c (reachC c)) (t, false, 0) = some (sweep c (reachC c) t) := by
  obtain ⟨_, hl, _, ⟨hw1, hw2⟩, _, _, hwd⟩ := codeB_facts hc
  have := loopP_fold (List.range c.Words.length) (fun (s : Tab × Bool) k => (s.1, s.2, (k : Int))) (fun k s => TabOk c.Words.length c.Locals.length s.1) (fun s i => .inl (sweepStep c (reachC c) s i)) (fun s => s) (spec_l14Has_l3 c (reachC c)) (fun s k hk hI => by
    left
    have hk' : k < c.Words.length := by simpa using hk
    have hkr : k < (reachC c).length := by rw [reachC_len]; exact hk'
    have hkt : k < s.1.length := by rw [hI.len]; exact hk'
    refine ⟨_, rfl, ?_, (sweepStep_dn hI _).ok⟩
    simp only [spec_l14Has_l3, ofNat_lt_true hk', if_true, getI_at hk', getI_at hkr, getI_at hkt, Option.bind_some, List.getElem_range]
    have e : (if (!(reachC c)[k]) = true then some (s.1, s.2) else (spec_l14Behind c.Words[k] s.1[k]).bind fun r54 => (spec_Next c k).bind fun r56 => loopP (spec_l14Has_l4 c r54 r56) (s.1, s.2, 0)) = some (sweepStep c (reachC c) s k) := by
      unfold sweepStep
      rw [List.getElem?_eq_getElem hkr, List.getElem?_eq_getElem hk', List.getElem?_eq_getElem hkt]
      cases hrk : (reachC c)[k]
      · simp
      · have hrl := hI.row _ (List.getElem_mem hkt)
        rw [spec_behind_eq c.Words[k] _ _ s.1[k] (hwd _ (List.getElem_mem hk')) hrl (by omega), spec_Next_eq c (by omega) k hk']
        simp only [Option.bind_some, Bool.not_true, Bool.false_eq_true, if_false, if_true]
        rw [← fold_nextS]
        exact spec_targets c c.Words.length (by omega) _ ((behB_len _ _).trans hrl) _ (nextS_len c k) (fun n hn => nextI_ok c k hk' n (mem_nextS.1 hn)) s hI
    rw [e]
    simp only [Option.bind_some, w64_nat hk' (by omega)]) (fun s _ => by simp [spec_l14Has_l3]) (t, false) h
  rw [foldE_inl] at this
  exact this
/-- The table ahead of all. -/
def hasStart (c : GCode) : Tab := (List.replicate c.Words.length (List.replicate c.Locals.length true)).set 0 ((List.range c.Locals.length).map fun l : Nat => decide ((l : Int) < c.Params))
theorem hasStart_ok (c : GCode) : TabOk c.Words.length c.Locals.length (hasStart c) := (tab_rep _ _ _).set 0 (by simp)
theorem set0_get {t : Tab} {r : List Bool} (h : 0 < t.length) : getI (t.set 0 r) 0 = some r := by
  rw [getI_zero]; simp [h]
theorem impl_start (c : GCode) (hc : codeB c = true) : loopP (impl_HasAt_l1 c) (List.replicate c.Words.length (List.replicate c.Locals.length true), 0) = some (hasStart c) := by
  obtain ⟨_, hl, _, ⟨hw1, hw2⟩, _⟩ := codeB_facts hc
  have hT : 0 < (List.replicate c.Words.length (List.replicate c.Locals.length true)).length := by simp; omega
  obtain ⟨r, h1, h2⟩ := loopP_run (f := impl_HasAt_l1 c) (fun s : Tab × Int => ∃ (k : Nat) (r : List Bool), s.2 = k ∧ k ≤ c.Locals.length ∧ r.length = c.Locals.length ∧ s.1 = (List.replicate c.Words.length (List.replicate c.Locals.length true)).set 0 r ∧ ∀ j, j < k → r[j]? = some (decide ((j : Int) < c.Params))) (fun s => c.Locals.length - s.2.toNat) (fun x => x = hasStart c) (by
    rintro ⟨o, i⟩ ⟨k, r, rfl, hk, hr, ho, hrj⟩
    simp only at ho hk
    subst ho
    by_cases hlt : k < c.Locals.length
    · left
      have hkr : k < r.length := by omega
      refine ⟨((List.replicate c.Words.length (List.replicate c.Locals.length true)).set 0 (r.set k (decide ((k : Int) < c.Params))), ((k + 1 : Nat) : Int)), ?_, ⟨k + 1, r.set k (decide ((k : Int) < c.Params)), rfl, by omega, by simpa using hr, rfl, fun j hj => ?_⟩, by simp only [Int.toNat_natCast]; omega⟩
      · simp only [impl_HasAt_l1, ofNat_lt_true hlt, if_true, set0_get hT, getI_at hkr, Option.bind_some, bindS_def, Int.toNat_natCast, w64_nat hlt (by omega), List.set_set]
      · rw [List.getElem?_set]
        by_cases e : k = j
        · subst e; rw [if_pos rfl, if_pos hkr]
        · rw [if_neg e]; exact hrj j (by omega)
    · right
      have hkL : k = c.Locals.length := by omega
      refine ⟨_, by simp only [impl_HasAt_l1]; rw [if_neg (by simp; omega)], ?_⟩
      unfold hasStart
      congr 1
      apply List.ext_getElem?
      intro j
      by_cases hj : j < k
      · rw [hrj j hj, List.getElem?_map, List.getElem?_range (by omega)]; rfl
      · rw [List.getElem?_eq_none (by omega), List.getElem?_eq_none (by simp; omega)]) (List.replicate c.Words.length (List.replicate c.Locals.length true), 0) ⟨0, List.replicate c.Locals.length true, rfl, by omega, by simp, by
      apply List.ext_getElem?
      intro j
      rw [List.getElem?_set]
      by_cases e : 0 = j
      · subst e; rw [if_pos rfl, if_pos hT, List.getElem?_replicate, if_pos (by omega)]
      · rw [if_neg e], fun j h => by omega⟩
  rw [h1, h2]
theorem spec_start (c : GCode) (hc : codeB c = true) : loopP (spec_l14Has_l1 c) (List.replicate c.Words.length (List.replicate c.Locals.length true), c.Params) = some (hasStart c) := by
  obtain ⟨_, hl, ⟨hp0, hp1⟩, ⟨hw1, hw2⟩, _⟩ := codeB_facts hc
  have hT : 0 < (List.replicate c.Words.length (List.replicate c.Locals.length true)).length := by simp; omega
  obtain ⟨r, h1, h2⟩ := loopP_run (f := spec_l14Has_l1 c) (fun s : Tab × Int => ∃ (k : Nat) (r : List Bool), s.2 = k ∧ k ≤ c.Locals.length ∧ c.Params ≤ k ∧ r.length = c.Locals.length ∧ s.1 = (List.replicate c.Words.length (List.replicate c.Locals.length true)).set 0 r ∧ ∀ j, j < c.Locals.length → r[j]? = some (decide ((j : Int) < c.Params ∨ k ≤ j))) (fun s => c.Locals.length - s.2.toNat) (fun x => x = hasStart c) (by
    rintro ⟨o, i⟩ ⟨k, r, rfl, hk, hkp, hr, ho, hrj⟩
    simp only at ho hk hkp
    subst ho
    by_cases hlt : k < c.Locals.length
    · left
      have hkr : k < r.length := by omega
      refine ⟨((List.replicate c.Words.length (List.replicate c.Locals.length true)).set 0 (r.set k false), ((k + 1 : Nat) : Int)), ?_, ⟨k + 1, r.set k false, rfl, by omega, by omega, by simpa using hr, rfl, fun j hj => ?_⟩, by simp only [Int.toNat_natCast]; omega⟩
      · simp only [spec_l14Has_l1, ofNat_lt_true hlt, if_true, set0_get hT, getI_at hkr, Option.bind_some, bindS_def, Int.toNat_natCast, w64_nat hlt (by omega), List.set_set]
      · rw [List.getElem?_set]
        by_cases e : k = j
        · subst e
          rw [if_pos rfl, if_pos hkr]
          have : ¬ ((k : Int) < c.Params ∨ k + 1 ≤ k) := by omega
          simp [this]
        · rw [if_neg e, hrj j hj]
          congr 1
          apply decide_eq_decide.2
          omega
    · right
      have hkL : k = c.Locals.length := by omega
      refine ⟨_, by simp only [spec_l14Has_l1]; rw [if_neg (by simp; omega)], ?_⟩
      unfold hasStart
      congr 1
      apply List.ext_getElem?
      intro j
      by_cases hj : j < c.Locals.length
      · rw [hrj j hj, List.getElem?_map, List.getElem?_range (by omega)]
        simp only [Option.map_some, Option.some.injEq]
        apply decide_eq_decide.2
        omega
      · rw [List.getElem?_eq_none (by omega), List.getElem?_eq_none (by simp; omega)]) (List.replicate c.Words.length (List.replicate c.Locals.length true), c.Params) ⟨c.Params.toNat, List.replicate c.Locals.length true, by simp only; omega, by omega, by omega, by simp, by
      apply List.ext_getElem?
      intro j
      rw [List.getElem?_set]
      by_cases e : 0 = j
      · subst e; rw [if_pos rfl, if_pos hT, List.getElem?_replicate, if_pos (by omega)]
      · rw [if_neg e], fun j h => by
      rw [List.getElem?_replicate, if_pos h]
      rw [decide_eq_true (show ((j : Int) < c.Params ∨ c.Params.toNat ≤ j) by omega)]⟩
  rw [h1, h2]
/-- **The table that both come to.** -/
theorem has_main (c : GCode) (h : GCode.le 1048576 c) (hc : codeB c = true) : ∃ T : Tab, loopP (impl_HasAt_l2 c (reachC c)) (hasStart c, true) = some T ∧ loopP (spec_l14Has_l2 c (reachC c)) (hasStart c, true, 0) = some T ∧ TabOk c.Words.length c.Locals.length T ∧
    ∀ j, j < c.Words.length → ¬ (reachC c)[j]? = some true → T[j]? = some (List.replicate c.Locals.length true) := by
  obtain ⟨_, hl, _, ⟨hw1, hw2⟩, _⟩ := codeB_facts hc
  have hWL : c.Words.length * c.Locals.length ≤ 400 * 200 := Nat.mul_le_mul hw2 hl
  obtain ⟨T, T', h1, h2, h3, h4, h5⟩ := loopP_sim (f := impl_HasAt_l2 c (reachC c)) (g := spec_l14Has_l2 c (reachC c)) (fun (a : Tab × Bool) (b : Tab × Bool × Int) => ∃ r : Nat, b = (a.1, a.2, (r : Int)) ∧ TabOk c.Words.length c.Locals.length a.1 ∧ cntT a.1 + r ≤ c.Words.length * c.Locals.length + (if a.2 = true then 0 else 1) ∧ ∀ j, j < c.Words.length → ¬ (reachC c)[j]? = some true → a.1[j]? = some (List.replicate c.Locals.length true))
    (fun a => 2 * cntT a.1 + if a.2 = true then 1 else 0) (fun r r' => r = r' ∧ TabOk c.Words.length c.Locals.length r ∧ ∀ j, j < c.Words.length → ¬ (reachC c)[j]? = some true → r[j]? = some (List.replicate c.Locals.length true)) (by
    rintro ⟨t, m⟩ b ⟨r, rfl, hok, hcr, hk⟩
    simp only at hok hcr hk ⊢
    cases m with
    | false =>
      right
      exact ⟨t, t, by simp [impl_HasAt_l2], by simp [spec_l14Has_l2], rfl, hok, hk⟩
    | true =>
      left
      have D : Dn c.Words.length c.Locals.length (t, false) (sweep c (reachC c) t) := sweepF_dn _ hok
      have d1 := D.le
      have d2 := D.lt
      simp only [Bool.false_eq_true, false_or] at d1 d2
      refine ⟨((sweep c (reachC c) t).1, (sweep c (reachC c) t).2), ((sweep c (reachC c) t).1, (sweep c (reachC c) t).2, ((r + 1 : Nat) : Int)), ?_, ?_, ⟨r + 1, rfl, D.ok, ?_, fun j hj hr => ?_⟩, ?_⟩
      · simp only [impl_HasAt_l2, if_true]
        rw [impl_sweep c hc t hok]
      · simp only [spec_l14Has_l2, if_true]
        have hb : IntKind.wrap .i64 ((IntKind.wrap .i64 ((c.Words.length : Int) * (c.Locals.length : Int))) + 1) = ((c.Words.length * c.Locals.length + 1 : Nat) : Int) := by
          rw [← Int.natCast_mul, w64 (n := ((c.Words.length * c.Locals.length : Nat) : Int)) (by omega) (by omega), w64 (by omega) (by omega)]; omega
        rw [hb]
        have hle : decide ((r : Int) ≤ ((c.Words.length * c.Locals.length + 1 : Nat) : Int)) = true := by
          simp only [decide_eq_true_eq]
          simp only [if_true] at hcr
          omega
        simp only [Option.bind_some, hle, if_true]
        rw [spec_sweep c hc t hok]
        simp only [Option.bind_some]
        rw [w64 (by omega) (by simp only [if_true] at hcr; omega)]
        rfl
      · simp only [if_true] at hcr
        cases hf : (sweep c (reachC c) t).2 with
        | true =>
          have := d2 hf
          simp only [if_true]; omega
        | false => simp only [Bool.false_eq_true, if_false]; omega
      · exact (sweepF_keep j hj hr _).trans (hk j hj hr)
      · cases hf : (sweep c (reachC c) t).2 with
        | true =>
          have := d2 hf
          simp only [if_true]; omega
        | false => simp only [Bool.false_eq_true, if_false, if_true]; omega) (hasStart c, true) (hasStart c, true, 0) ⟨0, rfl, hasStart_ok c, by have := cntT_le (hasStart_ok c); simp only [if_true]; omega, fun j hj hr => by
      unfold hasStart
      have h0 : j ≠ 0 := by
        rintro rfl
        exact hr ((reachC_get hj).2 .base)
      rw [List.getElem?_set_ne (by omega), List.getElem?_replicate, if_pos hj]⟩
  subst h3
  exact ⟨T, h1, h2, h4, h5⟩
theorem hasAt_main (c : GCode) (h : GCode.le 1048576 c) (hc : codeB c = true) : ∃ T : Tab, impl_HasAt c = some T ∧ spec_l14Has c (reachC c) = some T ∧ TabOk c.Words.length c.Locals.length T ∧
    ∀ j, j < c.Words.length → ¬ (reachC c)[j]? = some true → T[j]? = some (List.replicate c.Locals.length true) := by
  obtain ⟨T, h1, h2, h3, h4⟩ := has_main c h hc
  obtain ⟨_, hl, _, ⟨hw1, hw2⟩, _⟩ := codeB_facts hc
  refine ⟨T, ?_, ?_, h3, h4⟩
  · unfold impl_HasAt
    rw [impl_CodeOk_eq c h, impl_table_eq _ _ (by omega) (by omega)]
    simp only [Option.bind_some, hc, Bool.not_true, Bool.false_eq_true, if_false]
    rw [impl_start c hc, impl_ReachedWords_eq c h, if_pos hc]
    simp only [Option.bind_some]
    rw [h1]
    rfl
  · unfold spec_l14Has
    rw [spec_table_eq _ _ (by omega) (by omega)]
    simp only [Option.bind_some]
    rw [spec_start c hc]
    simp only [Option.bind_some]
    rw [h2]
    rfl
theorem law_HasAt (c : GCode) (hw : GCode.le maxLen c) : laws_FnExactHasAt c = some true := by
  unfold laws_FnExactHasAt
  obtain ⟨r, h1, h2, h3⟩ := laws_szCode_p c hw 1048576 (by omega) (by omega)
  rw [h1]
  simp only [Option.bind_some]
  by_cases hr : r < 0
  · simp [hr]
  · have hp := h3 (by omega)
    have hv : ∃ v : Tab, spec_HasAt c = some v ∧ impl_HasAt c = some v ∧ (v.length ≤ 1048576 ∧ ∀ x ∈ v, x.length ≤ 1048576) := by
      by_cases hc : codeB c = true
      · obtain ⟨T, t1, t2, t3, _⟩ := hasAt_main c hp hc
        refine ⟨T, ?_, t1, by rw [t3.len]; exact hp.2.2.1, fun x hx => by rw [t3.row x hx]; exact hp.2.1⟩
        unfold spec_HasAt
        rw [spec_CodeOk_eq c hp]
        simp only [Option.bind_some, hc, Bool.not_true, Bool.false_eq_true, if_false, spec_l14Reached_eq c hc, t2]
      · refine ⟨[], ?_, ?_, by simp⟩
        · unfold spec_HasAt
          rw [spec_CodeOk_eq c hp]
          simp [Bool.eq_false_iff.2 hc]
        · unfold impl_HasAt
          rw [impl_CodeOk_eq c hp]
          simp [Bool.eq_false_iff.2 hc]
    obtain ⟨v, hv1, hv2, hok⟩ := hv
    obtain ⟨k1, c1, m1, m2, m3⟩ := laws_markCode_p c hp 1 (by omega) (by omega)
    obtain ⟨k2, v2, n1, n2, n3, n4⟩ := laws_markBoolSS_p v hok 1 (by omega) (by omega)
    simp [hr, laws_toCode_p c hp, hv1, hv2, laws_eqBoolSS_p v v hok hok, laws_eqCode_p c c hp hp, m1, n1, n4, show ¬ k1 < 0 by omega, show ¬ k2 < 0 by omega]
end Go.OM
set_option linter.unusedVariables false
set_option linter.unusedSimpArgs false
namespace Go.OM
/-! ### What words read; Moves -/
def rawReads (x : GIns) : List Int := if (2 ≤ x.Op ∧ x.Op ≤ 7) ∨ x.Op = 9 ∨ x.Op = 14 then [x.B] else if 10 ≤ x.Op ∧ x.Op ≤ 12 then [x.B, x.C] else if x.Op = 13 then x.Args else if x.Op = 15 then [x.A, x.B] else if x.Op = 16 ∨ x.Op = 19 ∨ (x.Op = 20 ∧ x.A ≠ -1) then [x.A] else []
def readsL (x : GIns) : List Int := (rawReads x).foldl addL []
theorem hasInt_eq (l : List Int) (n : Int) (hl : l.length ≤ 1048576) : impl_hasInt l n = some (l.contains n) := by
  unfold impl_hasInt
  rw [loopP_any l (fun e => e == n) (impl_hasInt_l1 l n) (fun k hk => by
    simp only [impl_hasInt_l1, ofNat_lt_true hk, if_true, getI_at hk, Option.bind_some, w64_nat hk hl]
    cases l[k] == n <;> rfl) (by simp [impl_hasInt_l1])]
  have : (l.any fun e => e == n) = l.contains n := by
    induction l with
    | nil => rfl
    | cons x l ih =>
      rw [List.any_cons, List.contains_cons, ih (by simp at hl; omega)]
      congr 1
      rw [Bool.eq_iff_iff, beq_iff_eq, beq_iff_eq]
      exact eq_comm
  rw [this]
  cases l.contains n <;> rfl
theorem foldAdd_len (q : List Int) : ∀ (s : List Int), (q.foldl addL s).length ≤ s.length + q.length := by
  induction q with
  | nil => intro s; simp
  | cons x q ih => intro s; rw [List.foldl_cons]; have := ih (addL s x); have := addL_len s x; simp only [List.length_cons]; omega
theorem reads_loop {ρ : Type} (l : List Int) (hl : l.length ≤ 1000000) (f : List Int × Int → Option ((List Int × Int) ⊕ ρ)) (fin : List Int → ρ)
    (hf : ∀ (s : List Int) (k : Nat) (hk : k < l.length), s.length ≤ k → f (s, k) = some (.inl (addL s l[k], ((k + 1 : Nat) : Int)))) (he : ∀ s, f (s, l.length) = some (.inr (fin s))) : loopP f ([], 0) = some (fin (l.foldl addL [])) := by
  have := loopP_fold l (fun (s : List Int) k => (s, (k : Int))) (fun k s => s.length ≤ k) (fun s e => .inl (addL s e)) fin f (fun s k hk hI => .inl ⟨_, rfl, hf s k hk hI, by have := addL_len s l[k]; omega⟩) (fun s _ => he s) [] (by simp)
  rw [foldE_inl] at this
  exact this
theorem rawReads_len (x : GIns) (hx : x.Args.length ≤ 1000) : (rawReads x).length ≤ 1000 := by
  unfold rawReads
  split
  · simp
  · split
    · simp
    · split
      · exact hx
      · split
        · simp
        · split <;> simp
theorem impl_Reads_eq (x : GIns) (hx : x.Args.length ≤ 1000) : impl_Reads x = some (readsL x) := by
  unfold impl_Reads
  have e : (Option.bind (
      (impl_in x.Op 2 7).bind fun r7 =>
      if r7 = true then
        some true
      else
        if (x.Op == 9) = true then
          some true
        else
          some (x.Op == 14)) fun v13 =>
    if v13 = true then
      some [x.B]
    else
      (impl_in x.Op 10 12).bind fun r16 =>
      if r16 = true then
        some [x.B, x.C]
      else
        if (x.Op == 13) = true then
          some x.Args
        else
          if (x.Op == 15) = true then
            some [x.A, x.B]
          else
            Option.bind (
              if (x.Op == 16) = true then
                some true
              else
                if (x.Op == 19) = true then
                  some true
                else
                  if (x.Op == 20) = true then
                    some (x.A != (-1))
                  else
                    some false) fun v32 =>
            if v32 = true then
              some [x.A]
            else
              some []) = some (rawReads x) := by
    simp only [impl_in_eq, Option.bind_some, ite_some]
    congr 1
    unfold rawReads
    by_cases h1 : (2 ≤ x.Op ∧ x.Op ≤ 7) ∨ x.Op = 9 ∨ x.Op = 14
    · rw [if_pos h1, if_pos]
      rcases h1 with h | h | h
      · rw [if_pos (inB_iff.2 h)]
      · simp [h]
      · simp [h]
    · rw [if_neg h1, if_neg]
      · by_cases h2 : 10 ≤ x.Op ∧ x.Op ≤ 12
        · rw [if_pos h2, if_pos (inB_iff.2 h2)]
        · rw [if_neg h2, if_neg (fun h => h2 (inB_iff.1 h))]
          by_cases h3 : x.Op = 13
          · simp [h3]
          · by_cases h4 : x.Op = 15
            · simp [h4]
            · by_cases h5 : x.Op = 16
              · simp [h5]
              · by_cases h6 : x.Op = 19
                · simp [h6]
                · by_cases h7 : x.Op = 20
                  · simp [h7]
                  · simp [h3, h4, h5, h6, h7]
      · rw [not_or, not_or] at h1
        rw [if_neg (fun h => h1.1 (inB_iff.1 h)), if_neg (by simpa using h1.2.1)]
        simpa using h1.2.2
  rw [e]
  simp only [Option.bind_some]
  rw [reads_loop (rawReads x) (by have := rawReads_len x hx; omega) (impl_Reads_l1 (rawReads x)) id (fun s k hk hs => by
    have hl := rawReads_len x hx
    simp only [impl_Reads_l1, ofNat_lt_true hk, if_true, getI_at hk, Option.bind_some, hasInt_eq s _ (by omega), app1g (n := 8) (show s.length ≤ 1048576 by omega) (by omega), w64_nat hk (by omega)]
    unfold addL
    cases s.contains (rawReads x)[k] <;> rfl) (fun s => by simp [impl_Reads_l1])]
  rfl
theorem spec_Reads_eq (x : GIns) (hx : x.Args.length ≤ 1000) : spec_Reads x = some (readsL x) := by
  unfold spec_Reads readsL
  have hn : ([] : List Int).length ≤ 1048576 := by simp
  have hn1 : ∀ a, (addL [] a).length ≤ 1048576 := fun a => by have := addL_len [] a; simp at this; omega
  have hl13 : x.Op = 13 → loopP (spec_Reads_l1 x) ([], 0) = some (x.Args.foldl addL []) := fun _ => reads_loop x.Args (by omega) (spec_Reads_l1 x) id (fun s k hk hs => by
    simp only [spec_Reads_l1, ofNat_lt_true hk, if_true, getI_at hk, Option.bind_some, spec_l11Add_eq s _ (by omega), w64_nat hk (by omega)]) (fun s => by simp [spec_Reads_l1])
  simp only [spec_l11Add_eq _ _ hn, spec_l11HasB_eq, spec_l11HasC_eq, Option.bind_some, spec_l11Add_eq _ _ (hn1 _)]
  unfold rawReads
  by_cases h15 : x.Op = 15
  · simp [h15]
  by_cases h16 : x.Op = 16
  · simp [h16]
  by_cases h19 : x.Op = 19
  · simp [h19]
  by_cases h20 : x.Op = 20
  · by_cases ha : x.A = -1
    · simp [h20, ha]
    · simp [h20, ha]
  by_cases h13 : x.Op = 13
  · rw [hl13 h13]; simp [h13]
  have e1 : (x.Op == 15) = false := by simpa using h15
  have e2 : (x.Op == 16) = false := by simpa using h16
  have e3 : (x.Op == 19) = false := by simpa using h19
  have e4 : (x.Op == 20) = false := by simpa using h20
  have e5 : (x.Op == 13) = false := by simpa using h13
  simp only [e1, e2, e3, e4, e5, Bool.false_eq_true, if_false, Option.bind_some, h15, h16, h19, h20, h13, false_or, false_and]
  by_cases hb : (2 ≤ x.Op ∧ x.Op ≤ 7) ∨ x.Op = 9 ∨ x.Op = 14
  · have hB : hasBB x.Op = true := by
      unfold hasBB
      simp only [Bool.or_eq_true, inB_iff, beq_iff_eq]; omega
    have hC : hasCB x.Op = false := by unfold hasCB; rw [inB_false]; omega
    rw [if_pos hb, hB, hC]; simp
  · rw [if_neg hb]
    by_cases hc : 10 ≤ x.Op ∧ x.Op ≤ 12
    · have hB : hasBB x.Op = true := by
        unfold hasBB
        simp only [Bool.or_eq_true, inB_iff, beq_iff_eq]; omega
      have hC : hasCB x.Op = true := by unfold hasCB; rw [inB_iff]; omega
      rw [if_pos hc, hB, hC]; simp
    · have hB : hasBB x.Op = false := by
        rw [Bool.eq_false_iff]
        unfold hasBB
        simp only [Bool.or_eq_true, inB_iff, beq_iff_eq, ne_eq]; omega
      rw [if_neg hc, hB]; simp
theorem reads_bnd {n m : Nat} {x : GIns} (h : wordB n m x = true) : ∀ e ∈ readsL x, 0 ≤ e ∧ e < n := by
  intro e he
  unfold readsL at he
  rw [mem_foldl_addL] at he
  rcases he with he | he
  · cases he
  obtain ⟨h0, hB, hC, hA, h13⟩ := wordB_facts h
  unfold rawReads at he
  split at he
  · simp only [List.mem_singleton] at he; subst he; exact hB (by omega)
  · split at he
    · simp only [List.mem_cons, List.mem_nil_iff, or_false] at he
      rcases he with rfl | rfl
      · exact hB (by omega)
      · exact hC (by omega)
    · split at he
      · rename_i h; exact (h13 h).1 e he
      · split at he
        · rename_i h
          simp only [List.mem_cons, List.mem_nil_iff, or_false] at he
          rcases he with rfl | rfl
          · rcases hA (by omega) with ⟨h5, _⟩ | h5
            · omega
            · exact h5
          · exact hB (by omega)
        · split at he
          · rename_i h
            simp only [List.mem_singleton] at he
            subst he
            rcases hA (by omega) with ⟨h5, h6⟩ | h5
            · omega
            · exact h5
          · cases he
theorem word_args {n m : Nat} {x : GIns} (h : wordB n m x = true) : x.Args.length ≤ 1000 := by
  unfold wordB restB at h
  simp only [Bool.and_eq_true] at h
  have h6 := h.2.2.2.2.2
  split at h6
  · simp only [Bool.and_eq_true, beq_iff_eq] at h6; omega
  · simp only [Bool.and_eq_true, decide_eq_true_eq] at h6; omega
def badAt (row : List Bool) (l : List Int) : Bool := l.any fun e => !(row.getD e.toNat true)
theorem find_range {ρ : Type} (n : Nat) (q : Nat → Option ρ) (f : Int → Option (Int ⊕ (Unit ⊕ ρ)))
    (hf : ∀ (k : Nat), k < n → f k = some (match q k with | none => .inl ((k + 1 : Nat) : Int) | some r => .inr (.inr r)))
    (he : f n = some (.inr (.inl ()))) : loopP f 0 = some (match (List.range n).findSome? q with | some r => .inr r | none => .inl ()) :=
  loopP_find (List.range n) q f (fun k hk => by
    have hk' : k < n := by simpa using hk
    rw [hf k hk', List.getElem_range]
    all_goals (cases q k <;> rfl)) (by rw [List.length_range]; exact he)
theorem bad_find {ρ : Type} (row : List Bool) (l : List Int) (r : ρ) : l.findSome? (fun e => if (!(row.getD e.toNat true)) = true then some r else none) = if badAt row l = true then some r else none := by
  unfold badAt
  induction l with
  | nil => rfl
  | cons x l ih =>
    rw [List.findSome?_cons, List.any_cons]
    cases hp : row.getD x.toNat true
    · simp
    · simp only [Bool.not_true, Bool.false_eq_true, if_false, Bool.false_or]
      exact ih
def movesQ (c : GCode) (T : Tab) (i : Nat) : Option Int := match c.Words[i]?, T[i]? with
  | some x, some row => if badAt row (readsL x) = true then some (i : Int) else none
  | _, _ => none
def movesB (c : GCode) (T : Tab) : Int := ((List.range c.Words.length).findSome? (movesQ c T)).getD (-1)
theorem getI_in' {l : List Bool} {v : Int} (h0 : 0 ≤ v) (h : v < l.length) : getI l v = some (l.getD v.toNat true) := by
  rw [getI_in h0 h, List.getD_eq_getElem?_getD, List.getElem?_eq_getElem (by omega)]; rfl
theorem impl_Moves_eq (c : GCode) (h : GCode.le 1048576 c) (hc : codeB c = true) (T : Tab) (hT : impl_HasAt c = some T) (hok : TabOk c.Words.length c.Locals.length T) : impl_Moves c = some (movesB c T) := by
  obtain ⟨_, hl, _, ⟨hw1, hw2⟩, _, _, hwd⟩ := codeB_facts hc
  unfold impl_Moves
  rw [hT]
  simp only [Option.bind_some]
  rw [find_range c.Words.length (movesQ c T) (impl_Moves_l1 c T) (fun k hk => by
    have hkt : k < T.length := by rw [hok.len]; exact hk
    have hwk := hwd _ (List.getElem_mem hk)
    have hrl := hok.row _ (List.getElem_mem hkt)
    have hrb := reads_bnd hwk
    simp only [impl_Moves_l1, hok.len, ofNat_lt_true hk, if_true, getI_at hk, Option.bind_some, impl_Reads_eq _ (word_args hwk)]
    have hlen : (readsL c.Words[k]).length ≤ 1048576 := by
      have := foldAdd_len (rawReads c.Words[k]) []
      have := rawReads_len c.Words[k] (word_args hwk)
      unfold readsL; simp at *; omega
    rw [loopP_find (readsL c.Words[k]) (fun e => if (!(T[k].getD e.toNat true)) = true then some (Sum.inr (Sum.inr (k : Int)) : Int ⊕ (Unit ⊕ Int)) else none) (impl_Moves_l2 T k (readsL c.Words[k])) (fun q hq => by
      obtain ⟨b0, b1⟩ := hrb _ (List.getElem_mem hq)
      simp only [impl_Moves_l2, ofNat_lt_true hq, if_true, getI_at hq, getI_at hkt, Option.bind_some, getI_in' b0 (show (readsL c.Words[k])[q] < (T[k].length : Int) by rw [hrl]; exact b1), w64_nat hq hlen]
      cases T[k].getD (readsL c.Words[k])[q].toNat true <;> rfl) (by simp [impl_Moves_l2]), bad_find]
    unfold movesQ
    rw [List.getElem?_eq_getElem hk, List.getElem?_eq_getElem hkt]
    simp only
    cases badAt T[k] (readsL c.Words[k])
    · simp only [Bool.false_eq_true, if_false, Option.bind_some, w64_nat hk (show c.Words.length ≤ 1048576 by omega)]
    · simp only [if_true, Option.bind_some]) (by simp only [impl_Moves_l1, hok.len]; simp)]
  unfold movesB
  cases (List.range c.Words.length).findSome? (movesQ c T) <;> rfl
theorem spec_Moves_eq (c : GCode) (h : GCode.le 1048576 c) (hc : codeB c = true) (T : Tab) (hT : spec_l14Has c (reachC c) = some T) (hok : TabOk c.Words.length c.Locals.length T)
    (hk : ∀ j, j < c.Words.length → ¬ (reachC c)[j]? = some true → T[j]? = some (List.replicate c.Locals.length true)) : spec_Moves c = some (movesB c T) := by
  obtain ⟨_, hl, _, ⟨hw1, hw2⟩, _, _, hwd⟩ := codeB_facts hc
  unfold spec_Moves
  rw [spec_CodeOk_eq c h]
  simp only [Option.bind_some, hc, Bool.not_true, Bool.false_eq_true, if_false, spec_l14Reached_eq c hc, hT]
  rw [find_range c.Words.length (movesQ c T) (spec_Moves_l1 c (reachC c) T) (fun k hkw => by
    have hkt : k < T.length := by rw [hok.len]; exact hkw
    have hkr : k < (reachC c).length := by rw [reachC_len]; exact hkw
    have hwk := hwd _ (List.getElem_mem hkw)
    have hrl := hok.row _ (List.getElem_mem hkt)
    have hrb := reads_bnd hwk
    simp only [spec_Moves_l1, ofNat_lt_true hkw, if_true, getI_at hkw, Option.bind_some, spec_Reads_eq _ (word_args hwk)]
    have hlen : (readsL c.Words[k]).length ≤ 1048576 := by
      have := foldAdd_len (rawReads c.Words[k]) []
      have := rawReads_len c.Words[k] (word_args hwk)
      unfold readsL; simp at *; omega
    have hin : loopP (spec_Moves_l2 (reachC c) T k (readsL c.Words[k])) 0 = some (match (if badAt T[k] (readsL c.Words[k]) = true then some (Sum.inr (Sum.inr (k : Int)) : Int ⊕ (Unit ⊕ Int)) else none) with | some r => .inr r | none => .inl ()) := by
      cases hrk : (reachC c)[k] with
      | true =>
        rw [loopP_find (readsL c.Words[k]) (fun e => if (!(T[k].getD e.toNat true)) = true then some (Sum.inr (Sum.inr (k : Int)) : Int ⊕ (Unit ⊕ Int)) else none) (spec_Moves_l2 (reachC c) T k (readsL c.Words[k])) (fun q hq => by
          obtain ⟨b0, b1⟩ := hrb _ (List.getElem_mem hq)
          simp only [spec_Moves_l2, ofNat_lt_true hq, if_true, getI_at hq, getI_at hkt, getI_at hkr, hrk, Option.bind_some, getI_in' b0 (show (readsL c.Words[k])[q] < (T[k].length : Int) by rw [hrl]; exact b1), w64_nat hq hlen]
          cases T[k].getD (readsL c.Words[k])[q].toNat true <;> rfl) (by simp [spec_Moves_l2]), bad_find]
        cases badAt T[k] (readsL c.Words[k]) <;> rfl
      | false =>
        have hrow := hk k hkw (by rw [List.getElem?_eq_getElem hkr, hrk]; simp)
        rw [List.getElem?_eq_getElem hkt] at hrow
        have hrow' := Option.some.inj hrow
        have hb : badAt T[k] (readsL c.Words[k]) = false := by
          unfold badAt
          rw [List.any_eq_false]
          intro e he
          rw [hrow', List.getD_eq_getElem?_getD, List.getElem?_replicate]
          split <;> simp
        rw [hb]
        apply loopP_inr
        simp only [spec_Moves_l2, getI_at hkr, hrk, Option.bind_some]
        split <;> simp
    rw [hin]
    unfold movesQ
    rw [List.getElem?_eq_getElem hkw, List.getElem?_eq_getElem hkt]
    simp only
    cases badAt T[k] (readsL c.Words[k])
    · simp only [Bool.false_eq_true, if_false, Option.bind_some, w64_nat hkw (show c.Words.length ≤ 1048576 by omega)]
    · simp only [if_true, Option.bind_some]) (by simp [spec_Moves_l1])]
  unfold movesB
  cases (List.range c.Words.length).findSome? (movesQ c T) <;> rfl
theorem law_Moves (c : GCode) (hw : GCode.le maxLen c) : laws_FnExactMoves c = some true := by
  unfold laws_FnExactMoves
  obtain ⟨r, h1, h2, h3⟩ := laws_szCode_p c hw 1048576 (by omega) (by omega)
  rw [h1]
  simp only [Option.bind_some]
  by_cases hr : r < 0
  · simp [hr]
  · have hp := h3 (by omega)
    have hv : ∃ v : Int, spec_Moves c = some v ∧ impl_Moves c = some v := by
      by_cases hc : codeB c = true
      · obtain ⟨T, t1, t2, t3, t4⟩ := hasAt_main c hp hc
        exact ⟨_, spec_Moves_eq c hp hc T t2 t3 t4, impl_Moves_eq c hp hc T t1 t3⟩
      · refine ⟨-1, ?_, ?_⟩
        · unfold spec_Moves
          rw [spec_CodeOk_eq c hp]
          simp [Bool.eq_false_iff.2 hc]
        · unfold impl_Moves impl_HasAt
          rw [impl_CodeOk_eq c hp]
          simp only [Option.bind_some, Bool.eq_false_iff.2 hc, Bool.not_false, if_true]
          rw [loopP_inr (r := .inl ()) (by simp [impl_Moves_l1])]
          rfl
    obtain ⟨v, hv1, hv2⟩ := hv
    simp [hr, laws_toCode_p c hp, hv1, hv2, laws_eqCode_p c c hp hp]
end Go.OM
set_option linter.unusedVariables false
set_option linter.unusedSimpArgs false
namespace Go.OM
/-! ### Nodes: right ones, and how deep they are -/
def valueB (k : Int) : Bool := inB k 1 12
def stepKB (k : Int) : Bool := inB k 13 19
theorem impl_isValue_eq (k : Int) : impl_isValue k = some (valueB k) := by simp only [impl_isValue, impl_in_eq, Option.bind_some, valueB]
theorem impl_isStep_eq (k : Int) : impl_isStep k = some (stepKB k) := by simp only [impl_isStep, impl_in_eq, Option.bind_some, stepKB]
theorem spec_l04Value_eq (k : Int) : spec_l04Value k = some (valueB k) := by simp only [spec_l04Value, spec_in_eq, Option.bind_some, valueB]
theorem spec_l04Statement_eq (k : Int) : spec_l04Statement k = some (stepKB k) := by simp only [spec_l04Statement, spec_in_eq, Option.bind_some, stepKB]
def shapeB (k : Int) : Int × Int := if k = 8 ∨ k = 13 ∨ k = 14 ∨ k = 15 ∨ k = 18 ∨ k = 19 then (1, 1) else if k = 9 ∨ k = 10 ∨ k = 11 ∨ k = 17 then (2, 2) else if k = 16 then (3, 3) else if k = 12 then (0, 3) else if k = 20 then (0, 12) else (0, 0)
theorem impl_shape_eq (k : Int) : impl_shape k = some (shapeB k) := by
  unfold impl_shape shapeB
  by_cases h8 : k = 8
  · simp [h8]
  by_cases h13 : k = 13
  · simp [h13]
  by_cases h14 : k = 14
  · simp [h14]
  by_cases h15 : k = 15
  · simp [h15]
  by_cases h18 : k = 18
  · simp [h18]
  by_cases h19 : k = 19
  · simp [h19]
  by_cases h9 : k = 9
  · simp [h9]
  by_cases h10 : k = 10
  · simp [h10]
  by_cases h11 : k = 11
  · simp [h11]
  by_cases h17 : k = 17
  · simp [h17]
  by_cases h16 : k = 16
  · simp [h16]
  by_cases h12 : k = 12
  · simp [h12]
  by_cases h20 : k = 20
  · simp [h20]
  simp [h8, h13, h14, h15, h18, h19, h9, h10, h11, h17, h16, h12, h20]
theorem spec_l04Kids_eq (k : Int) : spec_l04Kids k = some (shapeB k) := by
  unfold spec_l04Kids shapeB
  by_cases h8 : k = 8
  · simp [h8]
  by_cases h13 : k = 13
  · simp [h13]
  by_cases h14 : k = 14
  · simp [h14]
  by_cases h15 : k = 15
  · simp [h15]
  by_cases h18 : k = 18
  · simp [h18]
  by_cases h19 : k = 19
  · simp [h19]
  by_cases h9 : k = 9
  · simp [h9]
  by_cases h10 : k = 10
  · simp [h10]
  by_cases h11 : k = 11
  · simp [h11]
  by_cases h17 : k = 17
  · simp [h17]
  by_cases h16 : k = 16
  · simp [h16]
  by_cases h12 : k = 12
  · simp [h12]
  by_cases h20 : k = 20
  · simp [h20]
  simp [h8, h13, h14, h15, h18, h19, h9, h10, h11, h17, h16, h12, h20]
def fitsB (kind i kid : Int) : Bool := if kind = 20 then stepKB kid else if (kind = 16 ∨ kind = 17) ∧ 0 < i then kid == 20 else if kind = 19 then kid == 12 else valueB kid
theorem impl_kidFits_eq (kind i kid : Int) : impl_kidFits kind i kid = some (fitsB kind i kid) := by
  unfold impl_kidFits fitsB
  simp only [impl_isStep_eq, impl_isValue_eq, Option.bind_some, gt_iff_lt]
  by_cases h20 : kind = 20
  · simp [h20]
  by_cases h16 : kind = 16
  · by_cases hi : 0 < i <;> simp [h16, hi]
  by_cases h17 : kind = 17
  · by_cases hi : 0 < i <;> simp [h17, hi]
  by_cases h19 : kind = 19
  · simp [h19]
  simp [h20, h16, h17, h19]
theorem spec_l04Fits_eq (kind i kid : Int) : spec_l04Fits kind i kid = some (fitsB kind i kid) := by
  unfold spec_l04Fits fitsB
  simp only [spec_l04Statement_eq, spec_l04Value_eq, Option.bind_some, gt_iff_lt]
  by_cases h20 : kind = 20
  · simp [h20]
  by_cases h16 : kind = 16
  · by_cases hi : 0 < i <;> simp [h16, hi]
  by_cases h17 : kind = 17
  · by_cases hi : 0 < i <;> simp [h17, hi]
  by_cases h19 : kind = 19
  · simp [h19]
  simp [h20, h16, h17, h19]
def namedB (k : Int) : Bool := inB k 2 6 || inB k 12 15
theorem impl_hasName_eq (k : Int) : impl_hasName k = some (namedB k) := by
  unfold impl_hasName namedB
  simp only [impl_in_eq, Option.bind_some]
  cases inB k 2 6 <;> rfl
theorem spec_l04Named_eq (k : Int) : spec_l04Named k = some (namedB k) := by
  unfold spec_l04Named namedB
  by_cases h : inB k 2 6 = true
  · have h' := inB_iff.1 h
    rw [h]
    have : k = 2 ∨ k = 3 ∨ k = 4 ∨ k = 5 ∨ k = 6 := by omega
    rcases this with e | e | e | e | e <;> simp [e]
  · by_cases h2 : inB k 12 15 = true
    · have h' := inB_iff.1 h2
      rw [h2]
      have : k = 12 ∨ k = 13 ∨ k = 14 ∨ k = 15 := by omega
      rcases this with e | e | e | e <;> simp [e]
    · have h' := inB_false.1 (Bool.eq_false_iff.2 h)
      have h2' := inB_false.1 (Bool.eq_false_iff.2 h2)
      have n2 : ¬ k = 2 := by omega
      have n3 : ¬ k = 3 := by omega
      have n4 : ¬ k = 4 := by omega
      have n5 : ¬ k = 5 := by omega
      have n6 : ¬ k = 6 := by omega
      have n12 : ¬ k = 12 := by omega
      have n13 : ¬ k = 13 := by omega
      have n14 : ¬ k = 14 := by omega
      have n15 : ¬ k = 15 := by omega
      simp [Bool.eq_false_iff.2 h, Bool.eq_false_iff.2 h2, n2, n3, n4, n5, n6, n12, n13, n14, n15]
def kidB (nodes : List GNode) (k : Nat) (x : GNode) (i : Nat) : Bool := match x.Kids[i]? with
  | none => false
  | some kid => inB kid 0 ((k : Int) - 1) && (!((x.Kids.take i).contains kid) && (match nodes[kid.toNat]? with | some y => fitsB x.Kind i y.Kind | none => false))
theorem kidB_at {nodes : List GNode} {k : Nat} {x : GNode} {i : Nat} (h : i < x.Kids.length) : kidB nodes k x i = (inB x.Kids[i] 0 ((k : Int) - 1) && (!((x.Kids.take i).contains x.Kids[i]) && (match nodes[(x.Kids[i]).toNat]? with | some y => fitsB x.Kind i y.Kind | none => false))) := by
  unfold kidB; rw [List.getElem?_eq_getElem h]
def kidsB (nodes : List GNode) (k : Nat) (x : GNode) : Bool := (List.range x.Kids.length).all (kidB nodes k x)
def numNB (x : GNode) : Bool := if x.Kind = 1 then inB x.Num 0 1000000000 else x.Num == 0
def nameNB (x : GNode) : Bool := if namedB x.Kind = true then nameB x.Name else sEq x.Name ⟨#[]⟩
/-- Is a node right? -/
def nodeB (nodes : List GNode) (k : Nat) : Bool := match nodes[k]? with
  | none => false
  | some x => inB x.Kind 1 20 && (inB x.Kids.length (shapeB x.Kind).1 (shapeB x.Kind).2 && (kidsB nodes k x && (numNB x && nameNB x)))
theorem range_all {ρ : Type} (n : Nat) (hn : n ≤ 1048576) (p : Nat → Bool) (b : ρ) (f : Int → Option (Int ⊕ (Unit ⊕ ρ)))
    (hf : ∀ (k : Nat), k < n → f k = some (if p k = true then .inl (IntKind.wrap .i64 ((k : Int) + 1)) else .inr (.inr b)))
    (he : f n = some (.inr (.inl ()))) : loopP f 0 = some (if (List.range n).all p = true then .inl () else .inr b) := by
  rw [find_range n (fun k => if p k = true then none else some b) f (fun k hk => by
    rw [hf k hk, w64_nat hk hn]
    cases p k <;> rfl) he]
  have key : ∀ l : List Nat, l.findSome? (fun k => if p k = true then none else some b) = if l.all p = true then none else some b := by
    intro l
    induction l with
    | nil => rfl
    | cons x l ih =>
      rw [List.findSome?_cons, List.all_cons]
      cases hp : p x
      · simp
      · simp only [if_true, Bool.true_and]; exact ih
  rw [key]
  cases (List.range n).all p <;> rfl
theorem shape_hi (k : Int) : (shapeB k).2 ≤ 12 := by
  unfold shapeB
  repeat' split
  all_goals simp
theorem nameB_empty : nameB ⟨#[]⟩ = false := by
  unfold nameB
  have : inB ((⟨#[]⟩ : ByteArray).size : Int) 1 8 = false := rfl
  rw [this]; rfl
theorem impl_NodeOk_eq (nodes : List GNode) (hn : nodes.length ≤ 1048576) (k : Int) : impl_NodeOk nodes k = some (decide (0 ≤ k) && nodeB nodes k.toNat) := by
  unfold impl_NodeOk
  simp only [impl_in_eq, Option.bind_some, w64_pred hn]
  by_cases hi : inB k 0 ((nodes.length : Int) - 1) = true
  · have hi' := inB_iff.1 hi
    have hk : k.toNat < nodes.length := by omega
    have hkk : k = ((k.toNat : Nat) : Int) := by omega
    rw [decide_eq_true hi'.1, Bool.true_and]
    generalize k.toNat = m at *
    subst hkk
    unfold nodeB
    rw [List.getElem?_eq_getElem hk, getI_at hk]
    simp only [hi, Bool.not_true, Bool.false_eq_true, if_false, Option.bind_some, impl_shape_eq]
    generalize nodes[m] = x
    cases h1 : inB x.Kind 1 20
    · rfl
    cases h2 : inB x.Kids.length (shapeB x.Kind).1 (shapeB x.Kind).2
    · rfl
    have h2' := inB_iff.1 h2
    have hs := shape_hi x.Kind
    have hkl : x.Kids.length ≤ 1048576 := by omega
    have hw : IntKind.wrap .i64 ((m : Int) - 1) = (m : Int) - 1 := w64 (by omega) (by omega)
    rw [range_all x.Kids.length hkl (kidB nodes m x) false (impl_NodeOk_l1 nodes m x) (fun i hi => by
      have hsub : subI x.Kids 0 (i : Int) = some (x.Kids.take i) := by
        unfold subI; rw [if_pos ⟨by omega, by omega, by omega⟩]; simp
      simp only [impl_NodeOk_l1, ofNat_lt_true hi, if_true, getI_at hi, Option.bind_some, impl_in_eq, hw, hsub, hasInt_eq (x.Kids.take i) _ (by simp; omega), impl_kidFits_eq]
      rw [kidB_at hi]
      cases h3 : inB x.Kids[i] 0 ((m : Int) - 1)
      · rfl
      have h3' := inB_iff.1 h3
      cases h4 : (x.Kids.take i).contains x.Kids[i]
      · have hlt : x.Kids[i].toNat < nodes.length := by omega
        rw [getI_in h3'.1 (by omega), List.getElem?_eq_getElem hlt]
        simp only [Bool.not_true, Bool.false_eq_true, if_false, Option.bind_some, Bool.not_false, Bool.true_and]
        cases fitsB x.Kind i nodes[x.Kids[i].toNat].Kind <;> rfl
      · rfl) (by simp [impl_NodeOk_l1])]
    have hkk : (List.range x.Kids.length).all (kidB nodes m x) = kidsB nodes m x := rfl
    rw [hkk]
    cases kidsB nodes m x
    · rfl
    unfold numNB nameNB
    simp only [impl_hasName_eq, impl_NameOk_eq, Option.bind_some, Bool.not_true, Bool.false_eq_true, if_false, if_true]
    by_cases hkd : x.Kind = 1
    · have e : (x.Kind == 1) = true := by simpa using hkd
      rw [if_pos hkd, if_pos e]
      cases inB x.Num 0 1000000000
      · rfl
      cases namedB x.Kind <;> rfl
    · have e : ¬ (x.Kind == 1) = true := by simpa using hkd
      have e2 : (x.Num != 0) = !(x.Num == 0) := rfl
      rw [if_neg hkd, if_neg e, e2]
      cases x.Num == 0
      · rfl
      cases namedB x.Kind <;> rfl
  · simp only [Bool.eq_false_iff.2 hi, Bool.not_false, if_true]
    have hi' := inB_false.1 (Bool.eq_false_iff.2 hi)
    congr 1
    by_cases h0 : 0 ≤ k
    · unfold nodeB
      rw [List.getElem?_eq_none (by omega)]; simp
    · simp [h0]
theorem spec_NodeOk_eq (nodes : List GNode) (hn : nodes.length ≤ 1048576) (k : Int) : spec_NodeOk nodes k = some (decide (0 ≤ k) && nodeB nodes k.toNat) := by
  unfold spec_NodeOk
  simp only [spec_in_eq, Option.bind_some, w64_pred hn]
  by_cases hi : inB k 0 ((nodes.length : Int) - 1) = true
  · have hi' := inB_iff.1 hi
    have hk : k.toNat < nodes.length := by omega
    have hkk : k = ((k.toNat : Nat) : Int) := by omega
    rw [decide_eq_true hi'.1, Bool.true_and]
    generalize k.toNat = m at *
    subst hkk
    unfold nodeB
    rw [List.getElem?_eq_getElem hk, getI_at hk]
    simp only [hi, Bool.not_true, Bool.false_eq_true, if_false, Option.bind_some, spec_l04Kids_eq]
    generalize nodes[m] = x
    cases h1 : inB x.Kind 1 20
    · rfl
    simp only [Bool.not_true, Bool.false_eq_true, if_false, Bool.true_and]
    cases h2 : inB x.Kids.length (shapeB x.Kind).1 (shapeB x.Kind).2
    · rfl
    have h2' := inB_iff.1 h2
    have hs := shape_hi x.Kind
    have hkl : x.Kids.length ≤ 1048576 := by omega
    have hw : IntKind.wrap .i64 ((m : Int) - 1) = (m : Int) - 1 := w64 (by omega) (by omega)
    rw [range_all x.Kids.length hkl (kidB nodes m x) false (spec_NodeOk_l1 nodes m x) (fun i hi => by
      simp only [spec_NodeOk_l1, ofNat_lt_true hi, if_true, getI_at hi, Option.bind_some, spec_in_eq, hw, spec_l04Fits_eq]
      rw [range_all i (by omega) (fun j => !(x.Kids[i] == (x.Kids[j]?).getD 0)) (.inr (.inr false)) (spec_NodeOk_l2 x i) (fun j hj => by
        have hjl : j < x.Kids.length := by omega
        simp only [spec_NodeOk_l2, ofNat_lt_true hj, if_true, getI_at hi, getI_at hjl, Option.bind_some, List.getElem?_eq_getElem hjl, Option.getD_some]
        cases x.Kids[i] == x.Kids[j] <;> rfl) (by simp [spec_NodeOk_l2])]
      have hall : (List.range i).all (fun j => !(x.Kids[i] == (x.Kids[j]?).getD 0)) = !((x.Kids.take i).contains x.Kids[i]) := by
        rw [Bool.eq_iff_iff]
        simp only [List.all_eq_true, List.mem_range, Bool.not_eq_true', List.contains_eq_mem, decide_eq_false_iff_not, beq_eq_false_iff_ne, ne_eq]
        constructor
        · intro h hm
          obtain ⟨j, hj, e⟩ := List.mem_iff_getElem.1 hm
          simp only [List.length_take] at hj
          rw [List.getElem_take] at e
          refine h j (by omega) ?_
          rw [List.getElem?_eq_getElem (by omega)]
          exact e.symm
        · intro h j hj e
          rw [List.getElem?_eq_getElem (show j < x.Kids.length by omega)] at e
          refine h ?_
          rw [e]
          refine List.mem_iff_getElem.2 ⟨j, by simp only [List.length_take]; omega, ?_⟩
          rw [List.getElem_take]; rfl
      rw [hall]
      rw [kidB_at hi]
      cases h3 : inB x.Kids[i] 0 ((m : Int) - 1)
      · rfl
      have h3' := inB_iff.1 h3
      have hlt : x.Kids[i].toNat < nodes.length := by omega
      rw [getI_in h3'.1 (by omega), List.getElem?_eq_getElem hlt]
      simp only [Bool.not_true, Bool.false_eq_true, if_false, Option.bind_some, Bool.true_and]
      cases fitsB x.Kind i nodes[x.Kids[i].toNat].Kind <;> cases (x.Kids.take i).contains x.Kids[i] <;> rfl) (by simp [spec_NodeOk_l1])]
    have hkk : (List.range x.Kids.length).all (kidB nodes m x) = kidsB nodes m x := rfl
    rw [hkk]
    unfold numNB nameNB
    simp only [spec_l04Named_eq, spec_NameOk_eq, Option.bind_some, Bool.not_true, Bool.false_eq_true, if_false, if_true]
    have hname : (if (!(namedB x.Kind == (!(sEq x.Name (⟨#[]⟩ : ByteArray))))) = true then some true else if (!(sEq x.Name (⟨#[]⟩ : ByteArray))) = true then some (!(nameB x.Name)) else some false) = some (!(if namedB x.Kind = true then nameB x.Name else sEq x.Name ⟨#[]⟩)) := by
      cases he : sEq x.Name ⟨#[]⟩ with
      | true =>
        have : x.Name = ⟨#[]⟩ := by rw [sEq_iff] at he; simpa using he
        cases namedB x.Kind
        · rfl
        · rw [this, nameB_empty]; rfl
      | false =>
        cases namedB x.Kind <;> rfl
    rw [hname]
    have hnum : (if (!(inB x.Num 0 1000000000)) = true then some true else if (x.Kind != 1) = true then some (x.Num != 0) else some false) = some (!(if x.Kind = 1 then inB x.Num 0 1000000000 else x.Num == 0)) := by
      have e2 : (x.Num != 0) = !(x.Num == 0) := rfl
      by_cases hkd : x.Kind = 1
      · have e : (x.Kind != 1) = false := by simp [hkd]
        rw [if_pos hkd, e]
        cases inB x.Num 0 1000000000 <;> rfl
      · have e : (x.Kind != 1) = true := by simpa using hkd
        rw [if_neg hkd, e, e2]
        cases hz : x.Num == 0 with
        | true =>
          have : x.Num = 0 := by simpa using hz
          rw [this]; rfl
        | false => cases inB x.Num 0 1000000000 <;> rfl
    rw [hnum]
    generalize (if x.Kind = 1 then inB x.Num 0 1000000000 else x.Num == 0) = u
    generalize (if namedB x.Kind = true then nameB x.Name else sEq x.Name ⟨#[]⟩) = v
    cases u <;> cases v <;> cases kidsB nodes m x <;> rfl
  · simp only [Bool.eq_false_iff.2 hi, Bool.not_false, if_true, Option.bind_some]
    have hi' := inB_false.1 (Bool.eq_false_iff.2 hi)
    congr 1
    by_cases h0 : 0 ≤ k
    · unfold nodeB
      rw [List.getElem?_eq_none (by omega)]; simp
    · simp [h0]
end Go.OM
set_option linter.unusedVariables false
set_option linter.unusedSimpArgs false
namespace Go.OM
/-! ### Depths -/
def mx (a b : Int) : Int := if b > a then b else a
def dstep (nodes : List GNode) (out : List Int) (i : Nat) : Int := match nodes[i]? with
  | some x => x.Kids.foldl (fun d kid => mx d (out.getD kid.toNat 0 + 1)) 1
  | none => 1
def deeps (nodes : List GNode) : Nat → List Int
  | 0 => []
  | n + 1 => deeps nodes n ++ [dstep nodes (deeps nodes n) n]
def okU (nodes : List GNode) : Nat → Bool
  | 0 => true
  | n + 1 => okU nodes n && (nodeB nodes n && decide (dstep nodes (deeps nodes n) n ≤ 10))
def dval (nodes : List GNode) (k : Nat) : Int := dstep nodes (deeps nodes k) k
theorem deeps_len (nodes : List GNode) : ∀ n, (deeps nodes n).length = n
  | 0 => rfl
  | n + 1 => by simp [deeps, deeps_len nodes n]
theorem deeps_get (nodes : List GNode) : ∀ (n j : Nat), j < n → (deeps nodes n)[j]? = some (dval nodes j)
  | 0, j, h => by omega
  | n + 1, j, h => by
    simp only [deeps]
    rcases Nat.lt_or_ge j n with h1 | h1
    · rw [List.getElem?_append_left (by rw [deeps_len]; exact h1)]
      exact deeps_get nodes n j h1
    · have : j = n := by omega
      subst this
      rw [List.getElem?_append_right (by rw [deeps_len]; omega), deeps_len]
      simp [dval]
theorem okU_mono {nodes : List GNode} : ∀ {n m : Nat}, m ≤ n → okU nodes n = true → okU nodes m = true
  | 0, m, h, h1 => by have : m = 0 := by omega
                      subst this; rfl
  | n + 1, m, h, h1 => by
    by_cases e : m = n + 1
    · subst e; exact h1
    · simp only [okU, Bool.and_eq_true] at h1
      exact okU_mono (by omega) h1.1
theorem okU_at {nodes : List GNode} {n j : Nat} (h : okU nodes n = true) (hj : j < n) : nodeB nodes j = true ∧ dval nodes j ≤ 10 := by
  have := okU_mono (show j + 1 ≤ n by omega) h
  simp only [okU, Bool.and_eq_true, decide_eq_true_eq] at this
  exact this.2
theorem okU_len {nodes : List GNode} {n : Nat} (h : okU nodes n = true) : n ≤ nodes.length := by
  cases n with
  | zero => omega
  | succ n =>
    have := (okU_at h (Nat.lt_succ_self n)).1
    unfold nodeB at this
    split at this
    · cases this
    · rename_i x hx
      exact (List.getElem?_eq_some_iff.1 hx).1
theorem mx_ge (l : List Int) (g : Int → Int) : ∀ d, d ≤ l.foldl (fun d kid => mx d (g kid)) d ∧ ∀ kid ∈ l, g kid ≤ l.foldl (fun d kid => mx d (g kid)) d := by
  induction l with
  | nil => intro d; simp
  | cons x l ih =>
    intro d
    rw [List.foldl_cons]
    obtain ⟨h1, h2⟩ := ih (mx d (g x))
    have h3 : d ≤ mx d (g x) ∧ g x ≤ mx d (g x) := by unfold mx; split <;> omega
    refine ⟨by omega, fun kid hk => ?_⟩
    rcases List.mem_cons.1 hk with rfl | hk
    · omega
    · exact h2 kid hk
theorem mx_le (l : List Int) (g : Int → Int) (B : Int) (hg : ∀ kid ∈ l, g kid ≤ B) : ∀ d, d ≤ B → l.foldl (fun d kid => mx d (g kid)) d ≤ B := by
  induction l with
  | nil => intro d h; exact h
  | cons x l ih =>
    intro d h
    rw [List.foldl_cons]
    refine ih (fun kid hk => hg kid (by simp [hk])) _ ?_
    have := hg x (by simp)
    unfold mx; split <;> omega
theorem dval_pos (nodes : List GNode) (k : Nat) : 1 ≤ dval nodes k := by
  unfold dval dstep
  split
  · exact (mx_ge _ _ 1).1
  · omega
theorem nodeB_get {nodes : List GNode} {k : Nat} (h : nodeB nodes k = true) : ∃ (hk : k < nodes.length), inB nodes[k].Kind 1 20 = true ∧ inB nodes[k].Kids.length (shapeB nodes[k].Kind).1 (shapeB nodes[k].Kind).2 = true ∧ (∀ (i : Nat) (hi : i < nodes[k].Kids.length), (0 ≤ nodes[k].Kids[i] ∧ nodes[k].Kids[i] < k) ∧ ¬ nodes[k].Kids[i] ∈ nodes[k].Kids.take i ∧ ∃ y, nodes[(nodes[k].Kids[i]).toNat]? = some y ∧ fitsB nodes[k].Kind i y.Kind = true) ∧ numNB nodes[k] = true ∧ nameNB nodes[k] = true := by
  unfold nodeB at h
  split at h
  · cases h
  · rename_i x hx
    obtain ⟨hk, hxe⟩ := List.getElem?_eq_some_iff.1 hx
    subst hxe
    simp only [Bool.and_eq_true] at h
    obtain ⟨h1, h2, h3, h4, h5⟩ := h
    refine ⟨hk, h1, h2, fun i hi => ?_, h4, h5⟩
    have := List.all_eq_true.1 h3 i (List.mem_range.2 hi)
    rw [kidB_at hi] at this
    simp only [Bool.and_eq_true, inB_iff, Bool.not_eq_true', List.contains_eq_mem, decide_eq_false_iff_not] at this
    obtain ⟨g1, g2, g3⟩ := this
    refine ⟨⟨g1.1, by omega⟩, g2, ?_⟩
    split at g3
    · rename_i y hy; exact ⟨y, hy, g3⟩
    · cases g3
theorem nodeB_kids {nodes : List GNode} {k : Nat} (h : nodeB nodes k = true) {x : GNode} (hx : nodes[k]? = some x) : ∀ kid ∈ x.Kids, 0 ≤ kid ∧ kid < k := by
  obtain ⟨hk, _, _, h3, _⟩ := nodeB_get h
  obtain ⟨_, hxe⟩ := List.getElem?_eq_some_iff.1 hx
  subst hxe
  intro kid hm
  obtain ⟨i, hi, rfl⟩ := List.mem_iff_getElem.1 hm
  exact (h3 i hi).1
theorem nodeB_kidlen {nodes : List GNode} {k : Nat} (h : nodeB nodes k = true) {x : GNode} (hx : nodes[k]? = some x) : x.Kids.length ≤ 12 := by
  obtain ⟨hk, _, h2, _⟩ := nodeB_get h
  obtain ⟨_, hxe⟩ := List.getElem?_eq_some_iff.1 hx
  subst hxe
  have := inB_iff.1 h2
  have := shape_hi nodes[k].Kind
  omega
/-- A kid is less deep. -/
theorem dval_kid {nodes : List GNode} {k : Nat} (h : nodeB nodes k = true) {x : GNode} (hx : nodes[k]? = some x) {kid : Int} (hm : kid ∈ x.Kids) : dval nodes kid.toNat < dval nodes k := by
  have hb := nodeB_kids h hx kid hm
  have : dval nodes k = x.Kids.foldl (fun d kid => mx d ((deeps nodes k).getD kid.toNat 0 + 1)) 1 := by unfold dval dstep; rw [hx]
  rw [this]
  have h2 := (mx_ge x.Kids (fun kid => (deeps nodes k).getD kid.toNat 0 + 1) 1).2 kid hm
  have h3 : (deeps nodes k).getD kid.toNat 0 = dval nodes kid.toNat := by
    rw [List.getD_eq_getElem?_getD, deeps_get nodes k kid.toNat (by omega)]; rfl
  rw [h3] at h2
  omega
theorem impl_dloop (nodes : List GNode) (k : Nat) (x : GNode) (hx : nodes[k]? = some x) (hok : okU nodes k = true) (hn : nodeB nodes k = true) : loopP (impl_depths_l2 (deeps nodes k) x) (1, 0) = some (dval nodes k) := by
  have hkl := nodeB_kidlen hn hx
  have hkb := nodeB_kids hn hx
  have hg : ∀ kid ∈ x.Kids, (deeps nodes k).getD kid.toNat 0 = dval nodes kid.toNat := fun kid hm => by
    have := hkb kid hm
    rw [List.getD_eq_getElem?_getD, deeps_get nodes k kid.toNat (by omega)]; rfl
  have := loopP_fold x.Kids (fun (d : Int) j => (d, (j : Int))) (fun j d => True) (fun d kid => .inl (mx d ((deeps nodes k).getD kid.toNat 0 + 1))) id (impl_depths_l2 (deeps nodes k) x) (fun d j hj _ => by
    left
    have hm := List.getElem_mem hj
    have hb := hkb _ hm
    have hd := okU_at hok (show x.Kids[j].toNat < k by omega)
    have hp := dval_pos nodes x.Kids[j].toNat
    refine ⟨_, rfl, ?_, trivial⟩
    have hlt : x.Kids[j].toNat < (deeps nodes k).length := by rw [deeps_len]; omega
    have hge : (deeps nodes k)[x.Kids[j].toNat] = dval nodes x.Kids[j].toNat := by
      have := deeps_get nodes k x.Kids[j].toNat (by omega)
      rw [List.getElem?_eq_getElem hlt] at this
      exact Option.some.inj this
    simp only [impl_depths_l2, ofNat_lt_true hj, if_true, getI_at hj, Option.bind_some]
    rw [getI_in hb.1 (by rw [deeps_len]; omega), hge]
    simp only [Option.bind_some, w64 (n := dval nodes x.Kids[j].toNat + 1) (by omega) (by omega), w64_nat hj (by omega), hg _ hm]
    rfl) (fun d _ => by simp [impl_depths_l2]) 1 trivial
  rw [foldE_inl] at this
  unfold dval dstep
  rw [hx]
  exact this
theorem impl_depths_eq (nodes : List GNode) (hn : nodes.length ≤ 1048576) (k : Int) : impl_depths nodes k = some (if 0 ≤ k ∧ k < nodes.length ∧ okU nodes (k.toNat + 1) = true then (deeps nodes (k.toNat + 1), true) else ([], false)) := by
  unfold impl_depths
  simp only [impl_in_eq, Option.bind_some, w64_pred hn]
  by_cases hi : inB k 0 ((nodes.length : Int) - 1) = true
  · have hi' := inB_iff.1 hi
    have hkk : k = ((k.toNat : Nat) : Int) := by omega
    have hk : k.toNat < nodes.length := by omega
    generalize k.toNat = m at *
    subst hkk
    simp only [hi, Bool.not_true, Bool.false_eq_true, if_false]
    obtain ⟨r, h1, h2⟩ := loopP_run (f := impl_depths_l1 nodes m) (fun s : List Int × Int => ∃ i : Nat, s.2 = i ∧ i ≤ m + 1 ∧ s.1 = deeps nodes i ∧ okU nodes i = true) (fun s => m + 1 - s.2.toNat) (fun r => r = if okU nodes (m + 1) = true then Sum.inl (deeps nodes (m + 1)) else Sum.inr ([], false)) (by
      rintro ⟨out, i⟩ ⟨i, rfl, hle, ho, hok⟩
      simp only at ho hle
      subst ho
      by_cases hlt : i ≤ m
      · have hd : decide ((i : Int) ≤ (m : Int)) = true := by simp only [decide_eq_true_eq]; omega
        have hil : i < nodes.length := by omega
        simp only [impl_depths_l1, hd, if_true, impl_NodeOk_eq nodes hn, Option.bind_some, Int.toNat_natCast]
        have h0 : decide ((0 : Int) ≤ (i : Int)) = true := by simp
        rw [h0, Bool.true_and]
        cases hnb : nodeB nodes i with
        | false =>
          right
          refine ⟨.inr ([], false), by simp, ?_⟩
          have : okU nodes (m + 1) = false := by
            rw [Bool.eq_false_iff]
            intro h
            rw [(okU_at h (show i < m + 1 by omega)).1] at hnb
            cases hnb
          rw [this]; rfl
        | true =>
          simp only [Bool.not_true, Bool.false_eq_true, if_false, getI_at hil, Option.bind_some]
          rw [impl_dloop nodes i _ (List.getElem?_eq_getElem hil) hok hnb]
          simp only [Option.bind_some]
          by_cases hd10 : dval nodes i > 10
          · right
            rw [if_pos (by simpa using hd10)]
            refine ⟨.inr ([], false), rfl, ?_⟩
            have : okU nodes (m + 1) = false := by
              rw [Bool.eq_false_iff]
              intro h
              have := (okU_at h (show i < m + 1 by omega)).2
              omega
            rw [this]; rfl
          · left
            rw [if_neg (by simpa using hd10), app1 (by rw [deeps_len]; omega) (by omega)]
            refine ⟨(deeps nodes (i + 1), ((i + 1 : Nat) : Int)), ?_, ⟨i + 1, rfl, by omega, rfl, ?_⟩, by simp only [Int.toNat_natCast]; omega⟩
            · simp only [Option.bind_some, w64_nat hil hn]
              rfl
            · simp only [okU, hok, hnb, Bool.true_and, decide_eq_true_eq]
              show dval nodes i ≤ 10
              omega
      · right
        have : i = m + 1 := by omega
        subst this
        have hd : decide (((m + 1 : Nat) : Int) ≤ (m : Int)) = false := by simp only [decide_eq_false_iff_not]; omega
        refine ⟨.inl (deeps nodes (m + 1)), by simp only [impl_depths_l1, hd, Bool.false_eq_true, if_false], ?_⟩
        rw [hok]; rfl) ([], 0) ⟨0, rfl, by omega, rfl, rfl⟩
    rw [h1, h2]
    by_cases hok : okU nodes (m + 1) = true
    · rw [if_pos hok, if_pos (show 0 ≤ (m : Int) ∧ (m : Int) < nodes.length ∧ okU nodes (m + 1) = true from ⟨by omega, by omega, hok⟩)]; rfl
    · rw [if_neg hok, if_neg (show ¬ (0 ≤ (m : Int) ∧ (m : Int) < nodes.length ∧ okU nodes (m + 1) = true) from fun h => hok h.2.2)]; rfl
  · have hi' := inB_false.1 (Bool.eq_false_iff.2 hi)
    simp only [Bool.eq_false_iff.2 hi, Bool.not_false, if_true]
    rw [if_neg (show ¬ (0 ≤ k ∧ k < nodes.length ∧ okU nodes (k.toNat + 1) = true) from fun h => hi' ⟨h.1, by omega⟩)]
/-- How deep a node is; 0 where it, or one ahead of it, is not right. -/
def deepB (nodes : List GNode) (k : Int) : Int := if 0 ≤ k ∧ k < nodes.length ∧ okU nodes (k.toNat + 1) = true then dval nodes k.toNat else 0
theorem impl_DeepOf_eq (nodes : List GNode) (hn : nodes.length ≤ 1048576) (k : Int) : impl_DeepOf nodes k = some (deepB nodes k) := by
  unfold impl_DeepOf deepB
  rw [impl_depths_eq nodes hn]
  by_cases h : 0 ≤ k ∧ k < nodes.length ∧ okU nodes (k.toNat + 1) = true
  · rw [if_pos h, if_pos h]
    have hlt : k.toNat < (deeps nodes (k.toNat + 1)).length := by rw [deeps_len]; omega
    simp only [Option.bind_some, Bool.not_true, Bool.false_eq_true, if_false]
    rw [getI_in h.1 (by rw [deeps_len]; omega)]
    have := deeps_get nodes (k.toNat + 1) k.toNat (by omega)
    rw [List.getElem?_eq_getElem hlt] at this
    simp only [Option.bind_some]
    exact this
  · rw [if_neg h, if_neg h]; rfl
/-- The reference's list. -/
def sdeeps (nodes : List GNode) (n : Nat) : List Int := (List.range n).map fun j => if okU nodes (j + 1) = true then dval nodes j else 0
theorem sdeeps_len (nodes : List GNode) (n : Nat) : (sdeeps nodes n).length = n := by simp [sdeeps]
theorem sdeeps_get (nodes : List GNode) {n j : Nat} (h : j < n) : (sdeeps nodes n)[j]? = some (if okU nodes (j + 1) = true then dval nodes j else 0) := by
  unfold sdeeps
  rw [List.getElem?_map, List.getElem?_range h]; rfl
theorem sdeeps_ok {nodes : List GNode} {n : Nat} (h : okU nodes n = true) : sdeeps nodes n = deeps nodes n := by
  apply List.ext_getElem?
  intro j
  by_cases hj : j < n
  · rw [sdeeps_get nodes hj, deeps_get nodes n j hj, if_pos (okU_mono (by omega) h)]
  · rw [List.getElem?_eq_none (by rw [sdeeps_len]; omega), List.getElem?_eq_none (by rw [deeps_len]; omega)]
theorem spec_dloop (nodes : List GNode) (k : Nat) (hk : k < nodes.length) (hok : okU nodes k = true) (hn : nodeB nodes k = true) : loopP (spec_l04Deeps_l2 nodes (deeps nodes k) k) (1, 0) = some (dval nodes k) := by
  have hx : nodes[k]? = some nodes[k] := List.getElem?_eq_getElem hk
  generalize hgx : nodes[k] = x at *
  have hkl := nodeB_kidlen hn hx
  have hkb := nodeB_kids hn hx
  have hg : ∀ kid ∈ x.Kids, (deeps nodes k).getD kid.toNat 0 = dval nodes kid.toNat := fun kid hm => by
    have := hkb kid hm
    rw [List.getD_eq_getElem?_getD, deeps_get nodes k kid.toNat (by omega)]; rfl
  have hgk : getI nodes (k : Int) = some x := by rw [getI_at hk, hgx]
  have := loopP_fold x.Kids (fun (d : Int) j => (d, (j : Int))) (fun j d => 0 < d) (fun d kid => .inl (mx d ((deeps nodes k).getD kid.toNat 0 + 1))) id (spec_l04Deeps_l2 nodes (deeps nodes k) k) (fun d j hj hpos => by
    left
    have hm := List.getElem_mem hj
    have hb := hkb _ hm
    have hd := okU_at hok (show x.Kids[j].toNat < k by omega)
    have hp := dval_pos nodes x.Kids[j].toNat
    refine ⟨_, rfl, ?_, by unfold mx; split <;> omega⟩
    have hlt : x.Kids[j].toNat < (deeps nodes k).length := by rw [deeps_len]; omega
    have hge : (deeps nodes k)[x.Kids[j].toNat] = dval nodes x.Kids[j].toNat := by
      have := deeps_get nodes k x.Kids[j].toNat (by omega)
      rw [List.getElem?_eq_getElem hlt] at this
      exact Option.some.inj this
    have hp0 : decide (d > 0) = true := by simpa using hpos
    have hgi : getI (deeps nodes k) x.Kids[j] = some (dval nodes x.Kids[j].toNat) := by rw [getI_in hb.1 (by rw [deeps_len]; omega), hge]
    simp only [spec_l04Deeps_l2, hp0, if_true, hgk, Option.bind_some, ofNat_lt_true hj, getI_at hj, hgi, w64 (n := dval nodes x.Kids[j].toNat + 1) (by omega) (by omega), w64_nat hj (by omega), hg _ hm]
    unfold mx
    by_cases hgt : dval nodes x.Kids[j].toNat + 1 > d
    · rw [if_pos (by simpa using hgt), if_pos hgt]
    · rw [if_neg (by simpa using hgt), if_neg hgt]) (fun d hd => by
    have hp0 : decide (d > 0) = true := by simpa using hd
    simp [spec_l04Deeps_l2, hp0, hgk]) 1 (by omega)
  rw [foldE_inl] at this
  unfold dval dstep
  rw [hx]
  exact this
theorem spec_Deeps_eq (nodes : List GNode) (hn : nodes.length ≤ 1048576) (k : Nat) (hk : k < nodes.length) : spec_l04Deeps nodes k = some (sdeeps nodes (k + 1)) := by
  unfold spec_l04Deeps
  obtain ⟨r, h1, h2⟩ := loopP_run (f := spec_l04Deeps_l1 nodes k) (fun s : List Int × Int => ∃ i : Nat, s.2 = i ∧ i ≤ k + 1 ∧ s.1 = sdeeps nodes i) (fun s => k + 1 - s.2.toNat) (fun r => r = sdeeps nodes (k + 1)) (by
    rintro ⟨out, i⟩ ⟨i, rfl, hle, ho⟩
    simp only at ho hle
    subst ho
    by_cases hlt : i ≤ k
    · left
      have hd : decide ((i : Int) ≤ (k : Int)) = true := by simp only [decide_eq_true_eq]; omega
      have hil : i < nodes.length := by omega
      have hd2 : decide ((i : Int) < (nodes.length : Int)) = true := by simp only [decide_eq_true_eq]; omega
      have h0 : decide ((0 : Int) ≤ (i : Int)) = true := by simp
      refine ⟨(sdeeps nodes (i + 1), ((i + 1 : Nat) : Int)), ?_, ⟨i + 1, rfl, by omega, rfl⟩, by simp only [Int.toNat_natCast]; omega⟩
      simp only [spec_l04Deeps_l1, hd, hd2, if_true, spec_NodeOk_eq nodes hn, Option.bind_some, Int.toNat_natCast, h0, Bool.true_and]
      -- is it right so far?
      have hflag : (if (!(nodeB nodes i)) = true then some true else if (decide ((i : Int) > 0)) = true then (getI (sdeeps nodes i) (IntKind.wrap .i64 ((i : Int) - 1))).bind fun e32 => some (e32 == 0) else some false) = some (!(nodeB nodes i && okU nodes i)) := by
        cases hnb : nodeB nodes i with
        | false => rfl
        | true =>
          simp only [Bool.not_true, Bool.false_eq_true, if_false, Bool.true_and]
          by_cases hz : i = 0
          · subst hz; rfl
          · have hp : decide ((i : Int) > 0) = true := by simp only [decide_eq_true_eq]; omega
            have hw : IntKind.wrap .i64 ((i : Int) - 1) = ((i - 1 : Nat) : Int) := by rw [w64 (by omega) (by omega)]; omega
            rw [if_pos hp, hw, getI_nat, sdeeps_get nodes (show i - 1 < i by omega), show i - 1 + 1 = i by omega]
            simp only [Option.bind_some]
            cases hok : okU nodes i with
            | true =>
              have := dval_pos nodes (i - 1)
              have hne : ¬ dval nodes (i - 1) = 0 := by omega
              simp [hne]
            | false => simp
      rw [hflag]
      simp only [Option.bind_some]
      have hfin : (Option.bind (if (!(nodeB nodes i && okU nodes i)) = true then some 0 else some (1 : Int)) fun deep36 => Option.bind (loopP (spec_l04Deeps_l2 nodes (sdeeps nodes i) i) (deep36, 0)) fun deep62 => Option.bind (if (decide (deep62 > 10)) = true then some 0 else some deep62) fun deep68 => (appI 8 (sdeeps nodes i) [deep68]).bind fun l69 => some l69) = some (sdeeps nodes (i + 1)) := by
        have hsucc : sdeeps nodes (i + 1) = sdeeps nodes i ++ [if okU nodes (i + 1) = true then dval nodes i else 0] := by
          unfold sdeeps; rw [List.range_succ, List.map_append]; rfl
        have happ : ∀ z : Int, appI 8 (sdeeps nodes i) [z] = some (sdeeps nodes i ++ [z]) := fun z => app1 (by rw [sdeeps_len]; omega) (by omega)
        cases hb : (nodeB nodes i && okU nodes i) with
        | true =>
          simp only [Bool.and_eq_true] at hb
          simp only [Bool.not_true, Bool.false_eq_true, if_false, Option.bind_some]
          rw [sdeeps_ok hb.2, spec_dloop nodes i hil hb.2 hb.1, ← sdeeps_ok hb.2]
          simp only [Option.bind_some]
          rw [hsucc]
          by_cases hd10 : dval nodes i > 10
          · have hf : okU nodes (i + 1) = false := by
              rw [Bool.eq_false_iff]
              intro h
              have := (okU_at h (Nat.lt_succ_self i)).2
              omega
            rw [if_pos (by simpa using hd10), hf]
            simp only [Option.bind_some, happ, Bool.false_eq_true, if_false]
          · have hf : okU nodes (i + 1) = true := by
              simp only [okU, hb.1, hb.2, Bool.true_and, decide_eq_true_eq]
              show dval nodes i ≤ 10
              omega
            rw [if_neg (by simpa using hd10), hf]
            simp only [Option.bind_some, happ, if_true]
        | false =>
          have hf : okU nodes (i + 1) = false := by
            rw [Bool.eq_false_iff]
            intro h
            simp only [okU, Bool.and_eq_true] at h
            rw [h.1, h.2.1] at hb
            cases hb
          simp only [Bool.not_false, if_true, Option.bind_some]
          rw [loopP_inr (r := (0 : Int)) (by simp [spec_l04Deeps_l2])]
          simp only [Option.bind_some]
          rw [hsucc, hf]
          simp [happ]
      have := congrArg (fun z => Option.bind z fun out70 : List Int => (some (Sum.inl (out70, IntKind.wrap .i64 ((i : Int) + 1))) : Option ((List Int × Int) ⊕ List Int))) hfin
      simp only [Option.bind_some, w64_nat hil hn] at this
      rw [w64_nat hil hn]
      exact this
    · right
      have : i = k + 1 := by omega
      subst this
      have hd : decide (((k + 1 : Nat) : Int) ≤ (k : Int)) = false := by simp only [decide_eq_false_iff_not]; omega
      exact ⟨_, by simp only [spec_l04Deeps_l1, hd, Bool.false_eq_true, if_false, Option.bind_some], rfl⟩) ([], 0) ⟨0, rfl, by omega, rfl⟩
  rw [h1, h2]
  rfl
theorem spec_DeepOf_eq (nodes : List GNode) (hn : nodes.length ≤ 1048576) (k : Int) : spec_DeepOf nodes k = some (deepB nodes k) := by
  unfold spec_DeepOf deepB
  simp only [spec_in_eq, Option.bind_some, w64_pred hn]
  by_cases hi : inB k 0 ((nodes.length : Int) - 1) = true
  · have hi' := inB_iff.1 hi
    have hkk : k = ((k.toNat : Nat) : Int) := by omega
    have hk : k.toNat < nodes.length := by omega
    generalize k.toNat = m at *
    subst hkk
    simp only [hi, Bool.not_true, Bool.false_eq_true, if_false]
    rw [spec_Deeps_eq nodes hn m hk]
    simp only [Option.bind_some, getI_nat]
    rw [sdeeps_get nodes (Nat.lt_succ_self m)]
    by_cases hok : okU nodes (m + 1) = true
    · rw [if_pos hok, if_pos (show 0 ≤ (m : Int) ∧ (m : Int) < nodes.length ∧ okU nodes (m + 1) = true from ⟨by omega, by omega, hok⟩)]; rfl
    · rw [if_neg hok, if_neg (show ¬ (0 ≤ (m : Int) ∧ (m : Int) < nodes.length ∧ okU nodes (m + 1) = true) from fun h => hok h.2.2)]; rfl
  · have hi' := inB_false.1 (Bool.eq_false_iff.2 hi)
    simp only [Bool.eq_false_iff.2 hi, Bool.not_false, if_true]
    rw [if_neg (show ¬ (0 ≤ k ∧ k < nodes.length ∧ okU nodes (k.toNat + 1) = true) from fun h => hi' ⟨h.1, by omega⟩)]
end Go.OM
set_option linter.unusedVariables false
set_option linter.unusedSimpArgs false
namespace Go.OM
/-! ### ConstOf, Foldable -/
theorem const_both (p : GProgram) : ∀ (f k : Nat), okU p.Nodes (k + 1) = true → dval p.Nodes k ≤ f → ∃ (n : Int) (b : Bool), impl_constOf_rec f p k = some (n, b) ∧ spec_l26Const_rec f p.Nodes k = some (n, b) ∧ 0 ≤ n ∧ n ≤ 1000000000 ∧ (b = true → ∃ x, p.Nodes[k]? = some x ∧ (x.Kind = 1 ∨ (9 ≤ x.Kind ∧ x.Kind ≤ 11)))
  | 0, k, hok, hd => by have := dval_pos p.Nodes k; omega
  | f + 1, k, hok, hd => by
    obtain ⟨hnb, _⟩ := okU_at hok (Nat.lt_succ_self k)
    obtain ⟨hk, h1, h2, h3, h4, h5⟩ := nodeB_get hnb
    have hx : p.Nodes[k]? = some p.Nodes[k] := List.getElem?_eq_getElem hk
    have hg : getI p.Nodes (k : Int) = some p.Nodes[k] := getI_at hk
    show ∃ (n : Int) (b : Bool), impl_constOf_b (impl_constOf_rec f) p k = some (n, b) ∧ spec_l26Const_b (spec_l26Const_rec f) p.Nodes k = some (n, b) ∧ _
    have hkid := fun kid hm => dval_kid (kid := kid) hnb hx hm
    have hkb := nodeB_kids hnb hx
    generalize hxe : p.Nodes[k] = x at *
    unfold impl_constOf_b spec_l26Const_b
    rw [hg]
    simp only [Option.bind_some]
    by_cases hk1 : x.Kind = 1
    · have e : (x.Kind == 1) = true := by simpa using hk1
      refine ⟨x.Num, true, by rw [if_pos e], by rw [if_pos e], ?_⟩
      unfold numNB at h4
      rw [if_pos hk1] at h4
      have := inB_iff.1 h4
      exact ⟨this.1, this.2, fun _ => ⟨x, hx, .inl hk1⟩⟩
    · have e : ¬ (x.Kind == 1) = true := by simpa using hk1
      rw [if_neg e, if_neg e]
      simp only [impl_in_eq, Option.bind_some]
      by_cases hr : 9 ≤ x.Kind ∧ x.Kind ≤ 11
      · have hin : inB x.Kind 9 11 = true := inB_iff.2 hr
        have hsh : shapeB x.Kind = (2, 2) := by
          have : x.Kind = 9 ∨ x.Kind = 10 ∨ x.Kind = 11 := by omega
          rcases this with h | h | h <;> rw [h] <;> rfl
        rw [hsh] at h2
        have hlen := inB_iff.1 h2
        have hl2 : x.Kids.length = 2 := by omega
        have h0l : 0 < x.Kids.length := by omega
        have h1l : 1 < x.Kids.length := by omega
        have m0 := List.getElem_mem h0l
        have m1 := List.getElem_mem h1l
        have b0 := hkb _ m0
        have b1 := hkb _ m1
        have d0 := hkid _ m0
        have d1 := hkid _ m1
        have c0 : ((x.Kids[0].toNat : Nat) : Int) = x.Kids[0] := by omega
        have c1 : ((x.Kids[1].toNat : Nat) : Int) = x.Kids[1] := by omega
        obtain ⟨n0, t0, i0, s0, l0, u0, _⟩ := const_both p f x.Kids[0].toNat (okU_mono (by omega) hok) (by omega)
        obtain ⟨n1, t1, i1, s1, l1, u1, _⟩ := const_both p f x.Kids[1].toNat (okU_mono (by omega) hok) (by omega)
        rw [c0] at i0 s0
        rw [c1] at i1 s1
        have g0 : getI x.Kids 0 = some x.Kids[0] := by rw [getI_zero, List.getElem?_eq_getElem h0l]
        have g1 : getI x.Kids 1 = some x.Kids[1] := getI_at (k := 1) h1l
        have hsel : (if (x.Kind == 9) = true then some (x.Kind == 9) else if (x.Kind == 10) = true then some (x.Kind == 10) else some (x.Kind == 11)) = some true := by
          have : x.Kind = 9 ∨ x.Kind = 10 ∨ x.Kind = 11 := by omega
          rcases this with h | h | h <;> rw [h] <;> rfl
        rw [hsel]
        simp only [hin, Bool.not_true, Bool.false_eq_true, if_false, g0, g1, Option.bind_some, i0, i1, s0, s1, if_true]
        have hw : IntKind.wrap .i64 (n0 + n1) = n0 + n1 := w64 (by omega) (by omega)
        have hx' : ∃ y, p.Nodes[k]? = some y ∧ (y.Kind = 1 ∨ (9 ≤ y.Kind ∧ y.Kind ≤ 11)) := ⟨x, hx, .inr hr⟩
        cases t0 with
        | false => exact ⟨0, false, rfl, rfl, by omega, by omega, fun h => by cases h⟩
        | true =>
          cases t1 with
          | false => exact ⟨0, false, rfl, rfl, by omega, by omega, fun h => by cases h⟩
          | true =>
            simp only [Bool.not_true, Bool.false_eq_true, if_false, Option.bind_some, hw]
            by_cases h9 : x.Kind = 9
            · have e9 : (x.Kind == 9) = true := by simpa using h9
              rw [if_pos e9, if_pos e9]
              simp only [Option.bind_some]
              by_cases hbig : n0 + n1 > 1000000000
              · rw [if_pos (by simpa using hbig)]
                exact ⟨0, false, rfl, rfl, by omega, by omega, fun h => by cases h⟩
              · rw [if_neg (by simpa using hbig)]
                exact ⟨n0 + n1, true, rfl, rfl, by omega, by omega, fun _ => hx'⟩
            · have e9 : ¬ (x.Kind == 9) = true := by simpa using h9
              rw [if_neg e9, if_neg e9]
              unfold impl_bit
              by_cases h10 : x.Kind = 10
              · have e10 : (x.Kind == 10) = true := by simpa using h10
                simp only [e10, if_true]
                by_cases hlt : n0 < n1
                · have el : decide (n0 < n1) = true := by simpa using hlt
                  exact ⟨1, true, by simp [el], by simp [el], by omega, by omega, fun _ => hx'⟩
                · have el : decide (n0 < n1) = false := by simpa using hlt
                  exact ⟨0, true, by simp [el], by simp [el], by omega, by omega, fun _ => hx'⟩
              · have h11 : x.Kind = 11 := by omega
                have e10 : (x.Kind == 10) = false := by simpa using h10
                have e11 : (x.Kind == 11) = true := by simpa using h11
                simp only [e10, e11, Bool.false_eq_true, if_false, if_true]
                by_cases heq : n0 = n1
                · have el : (n0 == n1) = true := by simpa using heq
                  exact ⟨1, true, by simp [el], by simp [el], by omega, by omega, fun _ => hx'⟩
                · have el : (n0 == n1) = false := by simpa using heq
                  exact ⟨0, true, by simp [el], by simp [el], by omega, by omega, fun _ => hx'⟩
      · have hin : inB x.Kind 9 11 = false := inB_false.2 hr
        have n9 : (x.Kind == 9) = false := by simp; omega
        have n10 : (x.Kind == 10) = false := by simp; omega
        have n11 : (x.Kind == 11) = false := by simp; omega
        exact ⟨0, false, by simp [hin], by simp [n9, n10, n11], by omega, by omega, fun h => by cases h⟩
theorem recFuel_eq : recFuel = 1048576 := rfl
theorem constOf_main (p : GProgram) (k : Nat) (hok : okU p.Nodes (k + 1) = true) : ∃ (n : Int) (b : Bool), impl_constOf p k = some (n, b) ∧ spec_l26Const p.Nodes k = some (n, b) ∧ 0 ≤ n ∧ n ≤ 1000000000 ∧ (b = true → ∃ x, p.Nodes[k]? = some x ∧ (x.Kind = 1 ∨ (9 ≤ x.Kind ∧ x.Kind ≤ 11))) :=
  const_both p recFuel k hok (by
    have := (okU_at hok (Nat.lt_succ_self k)).2
    rw [recFuel_eq]; omega)
theorem deepB_zero {nodes : List GNode} {k : Int} (h : deepB nodes k ≠ 0) : 0 ≤ k ∧ k < nodes.length ∧ okU nodes (k.toNat + 1) = true := by
  unfold deepB at h
  split at h
  · assumption
  · exact absurd rfl h
theorem ConstOf_main (p : GProgram) (hn : p.Nodes.length ≤ 1048576) (k : Int) : ∃ (n : Int) (b : Bool), impl_ConstOf p k = some (n, b) ∧ spec_ConstOf p k = some (n, b) ∧ (b = true → 0 ≤ k ∧ k < p.Nodes.length ∧ ∃ x, p.Nodes[k.toNat]? = some x ∧ (x.Kind = 1 ∨ (9 ≤ x.Kind ∧ x.Kind ≤ 11))) := by
  unfold impl_ConstOf spec_ConstOf
  rw [impl_DeepOf_eq _ hn, spec_DeepOf_eq _ hn]
  simp only [Option.bind_some]
  by_cases hz : deepB p.Nodes k = 0
  · exact ⟨0, false, by rw [hz]; rfl, by rw [hz]; rfl, fun h => by cases h⟩
  · obtain ⟨h0, h1, h2⟩ := deepB_zero hz
    have e : ¬ (deepB p.Nodes k == 0) = true := by simpa using hz
    obtain ⟨n, b, g1, g2, _, _, g3⟩ := constOf_main p k.toNat h2
    have hk : ((k.toNat : Nat) : Int) = k := by omega
    rw [hk] at g1 g2
    refine ⟨n, b, ?_, ?_, fun hb => ⟨h0, h1, g3 hb⟩⟩
    · rw [if_neg e, g1]; rfl
    · rw [if_neg e, g2]; rfl
theorem law_ConstOf (p : GProgram) (k : Int) (hw : GProgram.le maxLen p) : laws_FnExactConstOf p k = some true := by
  unfold laws_FnExactConstOf
  obtain ⟨r, h1, h2, h3⟩ := laws_szProgram_p p hw 1048576 (by omega) (by omega)
  rw [h1]
  simp only [Option.bind_some]
  by_cases hr : r < 0
  · simp [hr]
  · have hp := h3 (by omega)
    obtain ⟨n, b, v1, v2, _⟩ := ConstOf_main p hp.1.1 k
    simp [hr, laws_toProgram_p p hp, v1, v2, laws_eqProgram_p p p hp hp]
theorem Foldable_main (p : GProgram) (hn : p.Nodes.length ≤ 1048576) (k : Int) : ∃ b : Bool, impl_Foldable p k = some b ∧ spec_Foldable p k = some b := by
  obtain ⟨n, b, v1, v2, v3⟩ := ConstOf_main p hn k
  unfold impl_Foldable spec_Foldable
  rw [v1, v2]
  simp only [Option.bind_some]
  cases b with
  | false => exact ⟨false, rfl, rfl⟩
  | true =>
    obtain ⟨h0, h1, x, hx, hkd⟩ := v3 rfl
    have hlt : k.toNat < p.Nodes.length := by omega
    rw [List.getElem?_eq_getElem hlt] at hx
    have hx' := Option.some.inj hx
    rw [getI_in h0 h1, hx']
    simp only [if_true, Option.bind_some, impl_in_eq]
    rcases hkd with hkd | hkd
    · exact ⟨false, by simp [hkd, inB], by simp [hkd]⟩
    · have : inB x.Kind 9 11 = true := inB_iff.2 hkd
      exact ⟨true, by simp [this], by simp; omega⟩
theorem law_Foldable (p : GProgram) (k : Int) (hw : GProgram.le maxLen p) : laws_FnExactFoldable p k = some true := by
  unfold laws_FnExactFoldable
  obtain ⟨r, h1, h2, h3⟩ := laws_szProgram_p p hw 1048576 (by omega) (by omega)
  rw [h1]
  simp only [Option.bind_some]
  by_cases hr : r < 0
  · simp [hr]
  · have hp := h3 (by omega)
    obtain ⟨b, v1, v2⟩ := Foldable_main p hp.1.1 k
    simp [hr, laws_toProgram_p p hp, v1, v2, laws_eqProgram_p p p hp hp]
end Go.OM
