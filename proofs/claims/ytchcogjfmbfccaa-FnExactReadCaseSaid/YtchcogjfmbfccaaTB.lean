import Derived.Test.YtchcogjfmbfccaaTA
set_option linter.unusedVariables false
set_option linter.unusedSimpArgs false
namespace Go.OM
/-- What reading a number answers. -/
def RV (t : ByteArray) (p : Nat) (r : Int × Int × Bool) : Prop := r = (0, 0, false) ∨ ∃ n nx : Nat, r = ((n : Int), (nx : Int), true) ∧ n ≤ 1000000000 ∧ p < nx ∧ nx ≤ t.size ∧ varL n = ((bs t).take nx).drop p
theorem shl_at (c j : Nat) (hj : j < 5) (hc : c < 256) : shlI .i64 (Int.tmod (IntKind.wrap .i64 (c : Int)) 128) (IntKind.wrap .i64 (7 * (j : Int))) = some ((c % 128 * 128 ^ j : Nat) : Int) := by
  rw [w64 (n := (c : Int)) (by omega) (by omega), w64 (n := 7 * (j : Int)) (by omega) (by omega), show Int.tmod (c : Int) 128 = ((c % 128 : Nat) : Int) by rw [Int.tmod_eq_emod_of_nonneg (by omega)]; omega]
  unfold shlI
  rw [if_neg (by omega)]
  have h1 : c % 128 < 128 := by omega
  have : j = 0 ∨ j = 1 ∨ j = 2 ∨ j = 3 ∨ j = 4 := by omega
  rcases this with rfl | rfl | rfl | rfl | rfl <;> simp [IntKind.bits] <;> rw [w64 (by omega) (by omega)]
theorem pow_cases (j : Nat) (hj : j < 5) : 128 ^ j ≤ 268435456 ∧ 0 < 128 ^ j := by
  have : j = 0 ∨ j = 1 ∨ j = 2 ∨ j = 3 ∨ j = 4 := by omega
  rcases this with rfl | rfl | rfl | rfl | rfl <;> simp
theorem readVar_eq (t : ByteArray) (ht : t.size ≤ 1048576) (p : Nat) (hp : p ≤ t.size) : ∃ r, spec_ReadVar t p = some r ∧ impl_ReadVar t p = some r ∧ RV t p r := by
  obtain ⟨r, r', h1, h2, h3, h4⟩ := loopP_sim (f := impl_ReadVar_l1 t p) (g := spec_ReadVar_l1 t p) (fun (a : Int × Int) (b : Int × Int × Int) => ∃ j : Nat, a.2 = j ∧ j ≤ 5 ∧ p + j ≤ t.size ∧ b.1 = a.1 ∧ b.2.1 = ((128 ^ j : Nat) : Int) ∧ b.2.2 = ((p + j : Nat) : Int) ∧ a.1 = ((dig (((bs t).drop p).take j) : Nat) : Int) ∧ ∀ x ∈ ((bs t).drop p).take j, 128 ≤ x ∧ x < 256) (fun a => 5 - a.2.toNat) (fun r r' => r = r' ∧ ∀ z, r = .inr z → RV t p z) (by
    rintro ⟨n, k⟩ ⟨n', sc, i⟩ ⟨j, hk, hj, hpj, hn', hsc, hi, hn, hx⟩
    simp only at hk hn' hsc hi hn
    subst hk hn' hsc hi
    by_cases hgo : j < 5 ∧ p + j < t.size
    · obtain ⟨hj5, hlt⟩ := hgo
      have hb : p + j < (bs t).length := by rw [bs_length]; exact hlt
      have hw1 : IntKind.wrap .i64 ((p : Int) + (j : Int)) = ((p + j : Nat) : Int) := by rw [w64 (by omega) (by omega)]; omega
      have hw2 : IntKind.wrap .i64 ((p : Int) + 5) = (p : Int) + 5 := w64 (by omega) (by omega)
      have hw3 : IntKind.wrap .i64 (((p + j : Nat) : Int) + 1) = ((p + j + 1 : Nat) : Int) := by rw [w64 (by omega) (by omega)]; omega
      have hw4 : IntKind.wrap .i64 ((j : Int) + 1) = ((j + 1 : Nat) : Int) := by rw [w64 (by omega) (by omega)]; omega
      have hat := sAt_bs hb
      generalize hc : (bs t)[p + j] = c at hat
      have hc256 : c < 256 := by rw [← hc]; exact bs_lt t _ (List.getElem_mem hb)
      have htk : ((bs t).drop p).take (j + 1) = ((bs t).drop p).take j ++ [c] := by
        rw [List.take_add_one, List.getElem?_drop, List.getElem?_eq_getElem hb, hc]; rfl
      have htl : (((bs t).drop p).take j).length = j := by
        rw [List.length_take, List.length_drop]; omega
      have hdl := dig_lt (((bs t).drop p).take j)
      rw [htl] at hdl
      obtain ⟨hpw1, hpw2⟩ := pow_cases j hj5
      have hsh := shl_at c j hj5 hc256
      have hmul : c % 128 * 128 ^ j ≤ 127 * 268435456 := Nat.mul_le_mul (by omega) hpw1
      have hdg : dig (((bs t).drop p).take (j + 1)) = dig (((bs t).drop p).take j) + c % 128 * 128 ^ j := by rw [htk, dig_app, htl]
      have hwc : IntKind.wrap .i64 (c : Int) = (c : Int) := w64 (by omega) (by omega)
      rw [hwc] at hsh
      have htm : Int.tmod (c : Int) 128 = ((c % 128 : Nat) : Int) := by rw [Int.tmod_eq_emod_of_nonneg (by omega)]; omega
      have hwm : IntKind.wrap .i64 (((c % 128 : Nat) : Int) * ((128 ^ j : Nat) : Int)) = ((c % 128 * 128 ^ j : Nat) : Int) := by
        rw [← Int.natCast_mul, w64 (by omega) (by omega)]
      have hwn : IntKind.wrap .i64 (n' + ((c % 128 * 128 ^ j : Nat) : Int)) = ((dig (((bs t).drop p).take (j + 1)) : Nat) : Int) := by
        rw [hdg, hn, w64 (by omega) (by omega)]; omega
      have hws : IntKind.wrap .i64 (((128 ^ j : Nat) : Int) * 128) = ((128 ^ (j + 1) : Nat) : Int) := by
        rw [Nat.pow_succ, w64 (by omega) (by omega)]; omega
      have hg1 : decide ((j : Int) < 5) = true := by simp; omega
      have hg2 : decide (((p + j : Nat) : Int) < (t.size : Int)) = true := by simp; omega
      have hg3 : decide (((p + j : Nat) : Int) < (p : Int) + 5) = true := by simp; omega
      generalize hN : dig (((bs t).drop p).take (j + 1)) = N at hdg hwn
      by_cases h128 : c < 128
      · right
        have hd1 : decide ((c : Int) < 128) = true := by simp; omega
        by_cases hbig : N > 1000000000
        · have hbig' : decide ((N : Int) > 1000000000) = true := by simp; omega
          refine ⟨.inr (0, 0, false), .inr (0, 0, false), ?_, ?_, rfl, fun z hz => ?_⟩
          · simp only [impl_ReadVar_l1, hg1, hw1, hg2, if_true, Option.bind_some, hat, hwc, hsh, hd1, hwn, hbig']
            by_cases hz : (c : Int) == 0
            · rw [if_pos hz]; by_cases hjz : (j : Int) > 0 <;> simp [hjz]
            · rw [if_neg hz]; simp
          · simp only [spec_ReadVar_l1, hg2, hw2, hg3, if_true, Option.bind_some, hat, hd1, hwc, htm, hwm, hwn, hbig']
          · injection hz with hz; exact .inl hz.symm
        · have hbig' : decide ((N : Int) > 1000000000) = false := by simp; omega
          obtain ⟨z, hz1, hz2⟩ := var_bs N (by omega)
          obtain ⟨y, hy1, hy2⟩ := sSub_bs (z := t) (a := p) (b := p + j + 1) (by omega) (by omega)
          have hy3 : bs y = ((bs t).drop p).take j ++ [c] := by
            rw [hy2, ← htk, List.drop_take, show p + j + 1 - p = j + 1 by omega]
          by_cases hcan : ((bs t).drop p).take j = [] ∨ 0 < c
          · have hv : varL N = ((bs t).drop p).take j ++ [c] := by
              rw [← hN, htk]; exact (varL_dig _ c hx h128 hcan).1
            have hs : sEq z y = true := by rw [sEq_bs, hz2, hy3, hv]; simp
            refine ⟨.inr ((N : Int), ((p + j + 1 : Nat) : Int), true), .inr ((N : Int), ((p + j + 1 : Nat) : Int), true), ?_, ?_, rfl, fun z hz => ?_⟩
            · simp only [impl_ReadVar_l1, hg1, hw1, hg2, if_true, Option.bind_some, hat, hwc, hsh, hd1, hwn, hbig', hw3]
              by_cases hz : (c : Int) == 0
              · have hc0 : c = 0 := by simpa using hz
                have hj0 : j = 0 := by
                  rcases hcan with h | h
                  · rw [h] at htl; simpa using htl.symm
                  · omega
                subst hj0
                rw [if_pos hz]; simp
              · rw [if_neg hz]; simp
            · simp only [spec_ReadVar_l1, hg2, hw2, hg3, if_true, Option.bind_some, hat, hd1, hwc, htm, hwm, hwn, hbig', hz1, hw3, hy1, hs]
              simp
            · injection hz with hz
              exact .inr ⟨N, p + j + 1, hz.symm, by omega, by omega, by omega, by rw [hv, ← htk, List.drop_take, show p + j + 1 - p = j + 1 by omega]⟩
          · have hc0 : c = 0 := by
              by_cases h : 0 < c
              · exact absurd (.inr h) hcan
              · omega
            have hne : ((bs t).drop p).take j ≠ [] := fun e => hcan (.inl e)
            have hj0 : j ≠ 0 := by intro e; subst e; simp at hne
            have hs : sEq z y = false := by
              subst hc0
              rw [sEq_bs, hz2, hy3, ← hN, htk]
              simp only [decide_eq_false_iff_not]
              intro e
              have e1 := congrArg List.length e
              have e2 := varL_dig0 _ hne
              simp only [List.length_append, List.length_cons, List.length_nil] at e1
              omega
            refine ⟨.inr (0, 0, false), .inr (0, 0, false), ?_, ?_, rfl, fun z hz => ?_⟩
            · simp only [impl_ReadVar_l1, hg1, hw1, hg2, if_true, Option.bind_some, hat, hwc, hsh, hd1, hwn, hbig', hw3]
              have hjz : decide ((j : Int) > 0) = true := by simp; omega
              have hz : ((c : Int) == 0) = true := by simp; omega
              rw [if_pos hz, hjz]; simp
            · simp only [spec_ReadVar_l1, hg2, hw2, hg3, if_true, Option.bind_some, hat, hd1, hwc, htm, hwm, hwn, hbig', hz1, hw3, hy1, hs]
              simp
            · injection hz with hz; exact .inl hz.symm
      · left
        have hd1 : decide ((c : Int) < 128) = false := by simp; omega
        refine ⟨((N : Int), ((j + 1 : Nat) : Int)), ((N : Int), ((128 ^ (j + 1) : Nat) : Int), ((p + j + 1 : Nat) : Int)), ?_, ?_, ⟨j + 1, rfl, by omega, by omega, rfl, rfl, rfl, by simp only [hN], ?_⟩, by simp only [Int.toNat_natCast]; omega⟩
        · simp only [impl_ReadVar_l1, hg1, hw1, hg2, if_true, Option.bind_some, hat, hwc, hsh, hd1, hwn, hw4]
          simp
        · simp only [spec_ReadVar_l1, hg2, hw2, hg3, if_true, Option.bind_some, hat, hd1, hwc, htm, hwm, hwn, hws, hw3]
          simp
        · rw [htk]
          intro x hx'
          rcases List.mem_append.1 hx' with h | h
          · exact hx x h
          · simp at h; omega
    · right
      refine ⟨.inl (), .inl (), ?_, ?_, rfl, fun z hz => by cases hz⟩
      · simp only [impl_ReadVar_l1]
        by_cases h5 : j < 5
        · have hw1 : IntKind.wrap .i64 ((p : Int) + (j : Int)) = ((p + j : Nat) : Int) := by rw [w64 (by omega) (by omega)]; omega
          have hg1 : decide ((j : Int) < 5) = true := by simp; omega
          have hg2 : decide (((p + j : Nat) : Int) < (t.size : Int)) = false := by simp; omega
          simp only [hg1, hw1, hg2, if_true, Option.bind_some]; simp
        · have hg1 : decide ((j : Int) < 5) = false := by simp; omega
          simp only [hg1, Option.bind_some]; simp
      · simp only [spec_ReadVar_l1]
        have hw2 : IntKind.wrap .i64 ((p : Int) + 5) = (p : Int) + 5 := w64 (by omega) (by omega)
        by_cases hs : p + j < t.size
        · have hg2 : decide (((p + j : Nat) : Int) < (t.size : Int)) = true := by simp; omega
          have hg3 : decide (((p + j : Nat) : Int) < (p : Int) + 5) = false := by simp; omega
          simp only [hg2, hw2, hg3, if_true, Option.bind_some]; simp
        · have hg2 : decide (((p + j : Nat) : Int) < (t.size : Int)) = false := by simp; omega
          simp only [hg2, Option.bind_some]; simp) (0, 0) (0, 1, (p : Int)) ⟨0, rfl, by omega, by omega, rfl, rfl, rfl, by simp [dig], by simp⟩
  subst h3
  have hin : (decide ((0 : Int) ≤ (p : Int)) && decide ((p : Int) ≤ (t.size : Int))) = true := by simp; omega
  unfold spec_ReadVar impl_ReadVar
  rw [impl_in_eq, in_eq, hin, h1, h2]
  simp only [Option.bind_some, Bool.not_true, Bool.false_eq_true, if_false]
  cases r with
  | inl u => exact ⟨_, rfl, rfl, .inl rfl⟩
  | inr z => exact ⟨z, rfl, rfl, h4 z rfl⟩
end Go.OM
set_option linter.unusedVariables false
set_option linter.unusedSimpArgs false
namespace Go.OM
theorem loopP_sim2 {α β ρ ρ' : Type} {f : α → Option (α ⊕ ρ)} {g : β → Option (β ⊕ ρ')} (I : α → β → Prop) (μ : α → Nat) (R : ρ → ρ' → Prop)
    (h : ∀ a b, I a b → (∃ a' b', f a = some (.inl a') ∧ g b = some (.inl b') ∧ I a' b' ∧ μ a' < μ a) ∨ ∃ r r', f a = some (.inr r) ∧ loopP g b = some r' ∧ R r r') : ∀ a b, I a b → ∃ r r', loopP f a = some r ∧ loopP g b = some r' ∧ R r r' := by
  intro a
  generalize hn : μ a = n
  induction n using Nat.strongRecOn generalizing a with
  | _ n ih =>
    intro b hI
    rcases h a b hI with ⟨a', b', h1, h2, h3, h4⟩ | ⟨r, r', h1, h2, h3⟩
    · rw [loopP_eq f, loopP_eq g, h1, h2]; exact ih _ (by omega) a' rfl b' h3
    · rw [loopP_eq f, h1]; exact ⟨r, r', rfl, h2, h3⟩
theorem loopP_out {α ρ : Type} {f : α → Option (α ⊕ ρ)} {a : α} {r : ρ} (h : f a = some (.inr r)) : loopP f a = some r := by rw [loopP_eq, h]; rfl
theorem loopP_in {α ρ : Type} {f : α → Option (α ⊕ ρ)} {a b : α} {r : ρ} (h : f a = some (.inl b)) (h2 : loopP f b = some r) : loopP f a = some r := by rw [loopP_eq, h]; exact h2
theorem cat_slices {l : List Nat} {a b c : Nat} (h1 : a ≤ b) (h2 : b ≤ c) (h3 : c ≤ l.length) : (l.take b).drop a ++ (l.take c).drop b = (l.take c).drop a := by
  have e1 : l.take b = (l.take c).take b := by rw [List.take_take, Nat.min_eq_left h2]
  rw [e1]
  generalize l.take c = m
  rw [← List.take_append_drop (b - a) (m.drop a), List.drop_drop, List.drop_take, show a + (b - a) = b by omega]
def numsL (l : List Int) : List Nat := varL l.length ++ l.flatMap fun x => varL x.toNat
/-- Numbers that may be written. -/
def NumOk (l : List Int) : Prop := l.length ≤ 100 ∧ ∀ x ∈ l, 0 ≤ x ∧ x ≤ 1000000000
theorem num_ok (t : ByteArray) (ht : t.size ≤ 1048576) (p : Nat) (hp : p ≤ t.size) (b : Bool) : ∃ (n : Int) (q : Nat) (b' : Bool), impl_fields_num (⟨t, (p : Int), b⟩ : Gfields) = some (n, (⟨t, (q : Int), b'⟩ : Gfields)) ∧ q ≤ t.size ∧ (b = true → b' = true) := by
  obtain ⟨r, h1, h2, h3⟩ := readVar_eq t ht p hp
  unfold impl_fields_num
  rcases h3 with rfl | ⟨n, nx, rfl, g1, g2, g3, g4⟩
  · exact ⟨0, p, true, by simp only [h2, Option.bind_some]; rfl, hp, fun _ => rfl⟩
  · exact ⟨n, nx, b, by simp only [h2, Option.bind_some]; rfl, g3, id⟩
theorem numbers_bad (t : ByteArray) (ht : t.size ≤ 1048576) (p : Nat) (hp : p ≤ t.size) : ∃ (l : List Int) (q : Nat), impl_fields_numbers (⟨t, (p : Int), true⟩ : Gfields) = some (l, (⟨t, (q : Int), true⟩ : Gfields)) ∧ q ≤ t.size := by
  obtain ⟨n, q, b', h1, h2, h3⟩ := num_ok t ht p hp true
  have hb := h3 rfl
  subst hb
  unfold impl_fields_numbers
  rw [h1]
  simp only [Option.bind_some]
  have hl : loopP (impl_fields_numbers_l1 n) (([] : List Int), (0 : Int), (⟨t, (q : Int), true⟩ : Gfields)) = some ([], (⟨t, (q : Int), true⟩ : Gfields)) := by
    rw [loopP_eq]
    simp only [impl_fields_numbers_l1, Bool.not_true]
    by_cases h : (0 : Int) < n
    · simp [h, loopK]
    · simp [h, loopK]
  refine ⟨[], q, ?_, h2⟩
  by_cases hn : n > 100
  · simp [hn, hl]
  · simp [hn, hl]
/-- The two ways to read numbers. -/
def NR (t : ByteArray) (p : Nat) (s : List Int × Int) (i : List Int × Gfields) : Prop :=
  ∃ q : Nat, q ≤ t.size ∧ ((s.2 = -1 ∧ i.2 = ⟨t, (q : Int), true⟩) ∨ (s.2 = q ∧ i = (s.1, ⟨t, (q : Int), false⟩) ∧ p ≤ q ∧ NumOk s.1 ∧ numsL s.1 = ((bs t).take q).drop p))
theorem numbers_eq (t : ByteArray) (ht : t.size ≤ 1048576) (p : Nat) (hp : p ≤ t.size) : ∃ s i, spec_l27Read t p = some s ∧ impl_fields_numbers (⟨t, (p : Int), false⟩ : Gfields) = some i ∧ NR t p s i := by
  obtain ⟨r, h1, h2, h3⟩ := readVar_eq t ht p hp
  unfold spec_l27Read impl_fields_numbers impl_fields_num
  rcases h3 with rfl | ⟨n, nx, rfl, g1, g2, g3, g4⟩
  · simp only [h1, h2, Option.bind_some, Bool.not_false, if_true]
    have hl : loopP (impl_fields_numbers_l1 0) (([] : List Int), (0 : Int), (⟨t, (p : Int), true⟩ : Gfields)) = some ([], (⟨t, (p : Int), true⟩ : Gfields)) := by
      rw [loopP_eq]
      simp [impl_fields_numbers_l1, loopK]
    simp [hl]
    exact ⟨p, hp, .inl ⟨rfl, rfl⟩⟩
  · simp only [h1, h2, Option.bind_some, Bool.not_true, Bool.false_eq_true, if_false]
    by_cases hn : (n : Int) > 100
    · have hl : loopP (impl_fields_numbers_l1 (n : Int)) (([] : List Int), (0 : Int), (⟨t, (nx : Int), true⟩ : Gfields)) = some ([], (⟨t, (nx : Int), true⟩ : Gfields)) := by
        rw [loopP_eq]
        have : decide ((0 : Int) < (n : Int)) = true := by simp; omega
        simp [impl_fields_numbers_l1, loopK, this]
      have hd : decide ((n : Int) > 100) = true := by simp; omega
      simp only [hd, if_true, hl, Option.bind_some]
      exact ⟨_, _, rfl, rfl, nx, g3, .inl ⟨rfl, rfl⟩⟩
    · have hd : decide ((n : Int) > 100) = false := by simp; omega
      have hn' : n ≤ 100 := by omega
      simp only [hd, Bool.false_eq_true, if_false, Option.bind_some]
      obtain ⟨r, r', q1, q2, q3⟩ := loopP_sim2 (f := spec_l27Read_l1 t (n : Int)) (g := impl_fields_numbers_l1 (n : Int)) (fun (a : Int × List Int × Int) (b : List Int × Int × Gfields) => (∃ j q : Nat, a.2.2 = j ∧ b.2.1 = j ∧ j ≤ n ∧ q ≤ t.size ∧ nx ≤ q ∧ a.1 = q ∧ b.1 = a.2.1 ∧ b.2.2 = ⟨t, (q : Int), false⟩ ∧ a.2.1.length = j ∧ (∀ x ∈ a.2.1, 0 ≤ x ∧ x ≤ 1000000000) ∧ (a.2.1.flatMap fun x => varL x.toNat) = ((bs t).take q).drop nx)) (fun a => 101 - a.2.2.toNat)
        (fun r r' => (∃ (q : Nat) (l : List Int), q ≤ t.size ∧ r = .inr (l, -1) ∧ r'.2 = ⟨t, (q : Int), true⟩) ∨ (∃ (q : Nat) (l : List Int), q ≤ t.size ∧ nx ≤ q ∧ r = .inl ((q : Int), l) ∧ r' = (l, ⟨t, (q : Int), false⟩) ∧ l.length = n ∧ (∀ x ∈ l, 0 ≤ x ∧ x ≤ 1000000000) ∧ (l.flatMap fun x => varL x.toNat) = ((bs t).take q).drop nx)) (by
        rintro ⟨a, out, i⟩ ⟨out', k, f⟩ ⟨j, q, hi, hk, hj, hq, hnq, ha, ho, hf, hlen, hal, hfl⟩
        simp only at hi hk ha ho hf hlen hal hfl
        subst hi hk ha ho hf
        by_cases hlt : j < n
        · have hd : decide ((j : Int) < (n : Int)) = true := by simp; omega
          obtain ⟨r, h1, h2, h3⟩ := readVar_eq t ht q hq
          have happ : ∀ x : Int, appI 8 out' [x] = some (out' ++ [x]) := fun x => appI_ok (by simp; omega) (by simp; omega)
          have hw4 : IntKind.wrap .i64 ((j : Int) + 1) = ((j + 1 : Nat) : Int) := by rw [w64 (by omega) (by omega)]; omega
          rcases h3 with rfl | ⟨m, mx, rfl, e1, e2, e3, e4⟩
          · right
            refine ⟨.inr (out', -1), (out' ++ [0], ⟨t, (q : Int), true⟩), ?_, ?_, .inl ⟨q, out', hq, rfl, rfl⟩⟩
            · simp only [spec_l27Read_l1, hd, if_true, h1, Option.bind_some, Bool.not_false]
            · refine loopP_in (b := (out' ++ [0], ((j + 1 : Nat) : Int), ⟨t, (q : Int), true⟩)) ?_ (loopP_out ?_)
              · simp only [impl_fields_numbers_l1, impl_fields_num, hd, if_true, h2, Option.bind_some, Bool.not_true, Bool.not_false, Bool.false_eq_true, if_false, happ, hw4]
              · simp only [impl_fields_numbers_l1, Bool.not_true]
                by_cases hz : decide (((j + 1 : Nat) : Int) < (n : Int)) = true
                · rw [if_pos hz]; simp
                · rw [if_neg hz]; simp
          · left
            refine ⟨((mx : Int), out' ++ [(m : Int)], ((j + 1 : Nat) : Int)), (out' ++ [(m : Int)], ((j + 1 : Nat) : Int), ⟨t, (mx : Int), false⟩), ?_, ?_, ⟨j + 1, mx, rfl, rfl, by omega, e3, by omega, rfl, rfl, rfl, by simp [hlen], ?_, ?_⟩, by simp only [Int.toNat_natCast]; omega⟩
            · simp only [spec_l27Read_l1, hd, if_true, h1, Option.bind_some, Bool.not_true, Bool.false_eq_true, if_false, happ, hw4]
            · simp only [impl_fields_numbers_l1, impl_fields_num, hd, if_true, h2, Option.bind_some, Bool.not_true, Bool.not_false, Bool.false_eq_true, if_false, happ, hw4]
            · intro x hx
              simp only [List.mem_append, List.mem_singleton] at hx
              rcases hx with hx | rfl
              · exact hal x hx
              · omega
            · simp only [List.flatMap_append, hfl, List.flatMap_cons, List.flatMap_nil, List.append_nil, Int.toNat_natCast, e4]
              exact cat_slices hnq (by omega) (by rw [bs_length]; exact e3)
        · right
          have hd : decide ((j : Int) < (n : Int)) = false := by simp; omega
          have hjn : j = n := by omega
          refine ⟨.inl ((q : Int), out'), (out', ⟨t, (q : Int), false⟩), ?_, ?_, .inr ⟨q, out', hq, hnq, rfl, rfl, by omega, hal, hfl⟩⟩
          · simp only [spec_l27Read_l1, hd, Bool.false_eq_true, if_false]
          · refine loopP_out ?_
            simp only [impl_fields_numbers_l1, hd, Bool.false_eq_true, if_false, Option.bind_some]) ((nx : Int), [], 0) ([], 0, ⟨t, (nx : Int), false⟩) ⟨0, nx, rfl, rfl, by omega, g3, Nat.le_refl _, rfl, rfl, rfl, rfl, by simp, by simp [List.drop_eq_nil_of_le]⟩
      rw [q1, q2]
      simp only [Option.bind_some]
      rcases q3 with ⟨q, l, e1, rfl, e2⟩ | ⟨q, l, e1, e2, rfl, rfl, e3, e4, e5⟩
      · exact ⟨_, _, rfl, rfl, q, e1, .inl ⟨rfl, e2⟩⟩
      · refine ⟨_, _, rfl, rfl, q, e1, .inr ⟨rfl, rfl, by omega, ⟨(show l.length ≤ 100 by omega), e4⟩, ?_⟩⟩
        simp only [numsL, e3, e5, g4]
        exact cat_slices (by omega) e2 (by rw [bs_length]; exact e1)
end Go.OM
set_option linter.unusedVariables false
set_option linter.unusedSimpArgs false
namespace Go.OM
theorem varL_size (n : Nat) (h : n ≤ 1000000000) (z : ByteArray) (hz : bs z = varL n) : z.size ≤ 1000000001 := by
  rw [← bs_length, hz]
  have := varL_len n; omega
theorem nums_bs (l : List Int) (h : NumOk l) : ∃ z, spec_l27Nums l = some (z, true) ∧ bs z = numsL l ∧ z.size ≤ 101 * 1000000001 := by
  obtain ⟨hl, hx⟩ := h
  obtain ⟨z0, g1, g2⟩ := var_bs l.length (by omega)
  have hz0 := varL_size _ (by omega) z0 g2
  obtain ⟨r, h1, h2⟩ := loopP_run (f := spec_l27Nums_l1 l) (fun s : ByteArray × Int => ∃ k : Nat, s.2 = k ∧ k ≤ l.length ∧ s.1.size ≤ (k + 1) * 1000000001 ∧ bs s.1 = varL l.length ++ (l.take k).flatMap fun x => varL x.toNat) (fun s => l.length - s.2.toNat) (fun r => ∃ z, r = .inl z ∧ bs z = numsL l ∧ z.size ≤ 101 * 1000000001) (by
    rintro ⟨s, i⟩ ⟨k, hi, hk, hs, hb⟩
    simp only at hi hs hb
    subst hi
    by_cases hlt : k < l.length
    · left
      obtain ⟨e1, e2⟩ := hx l[k] (List.getElem_mem hlt)
      obtain ⟨m, hm⟩ := Int.eq_ofNat_of_zero_le e1
      obtain ⟨z, f1, f2⟩ := var_bs m (by omega)
      have hz := varL_size _ (by omega) z f2
      have hin : (decide ((0 : Int) ≤ l[k]) && decide (l[k] ≤ 1000000000)) = true := by simp; omega
      refine ⟨(s ++ z, ((k + 1 : Nat) : Int)), ?_, ⟨k + 1, rfl, by omega, by simp only [ByteArray.size_append]; omega, ?_⟩, by simp only [Int.toNat_natCast]; omega⟩
      · simp only [spec_l27Nums_l1, ofNat_lt_true hlt, if_true, getI_at hlt, Option.bind_some, in_eq, hin, Bool.not_true, Bool.false_eq_true, if_false]
        rw [hm, f1]
        simp only [Option.bind_some]
        rw [sCat_ok (by omega)]
        simp only [Option.bind_some, w64_succ hlt (show l.length ≤ maxLen by show _ ≤ 9223372036854775807; omega)]
      · simp only [bs_append, hb, f2]
        rw [List.take_add_one, List.getElem?_eq_getElem hlt, List.flatMap_append]
        simp [hm]
    · right
      have hke : k = l.length := by omega
      subst hke
      refine ⟨.inl s, by simp [spec_l27Nums_l1], s, rfl, ?_, Nat.le_trans hs (Nat.mul_le_mul_right _ (by omega))⟩
      rw [hb, List.take_length]; rfl) (z0, 0) ⟨0, rfl, by omega, by simp only; omega, by simp [g2]⟩
  obtain ⟨z, rfl, h3, h4⟩ := h2
  unfold spec_l27Nums
  have hd : decide ((l.length : Int) > 100) = false := by simp; omega
  rw [hd, g1]
  simp only [Bool.false_eq_true, if_false, Option.bind_some]
  rw [h1]
  exact ⟨z, rfl, h3, h4⟩
theorem caseText_bs (c : GCase) (h1 : NumOk c.Input) (h2 : NumOk c.Want) (e : Nat) (he : c.End = e) (hel : e ≤ 1000000000) : ∃ z, spec_CaseText c = some z ∧ bs z = numsL c.Input ++ numsL c.Want ++ varL e := by
  obtain ⟨a, a1, a2, a3⟩ := nums_bs _ h1
  obtain ⟨b, b1, b2, b3⟩ := nums_bs _ h2
  obtain ⟨z, z1, z2⟩ := var_bs e hel
  have hz := varL_size _ hel z z2
  have hin : (decide ((0 : Int) ≤ (e : Int)) && decide ((e : Int) ≤ 1000000000)) = true := by simp; omega
  unfold spec_CaseText
  simp only [a1, b1, Option.bind_some, Bool.not_true, Bool.false_eq_true, if_false, he, in_eq, hin, z1]
  rw [sCat_ok (by omega)]
  simp only [Option.bind_some]
  rw [sCat_ok (by simp only [ByteArray.size_append]; omega)]
  exact ⟨_, rfl, by simp only [bs_append, a2, b2, z2]⟩
theorem readCase_eq (t : ByteArray) (ht : t.size ≤ 1048576) : ∃ c b, spec_ReadCase t = some (c, b) ∧ impl_ReadCase t = some (c, b) ∧ c.Input.length ≤ 100 ∧ c.Want.length ≤ 100 := by
  obtain ⟨s1, i1, a1, a2, q1, hq1, a3⟩ := numbers_eq t ht 0 (by omega)
  have a1' : spec_l27Read t 0 = some s1 := a1
  have a2' : impl_fields_numbers (⟨t, 0, false⟩ : Gfields) = some i1 := a2
  unfold spec_ReadCase impl_ReadCase
  rw [a1', a2']
  simp only [Option.bind_some]
  have bad : ∀ (q : Nat), q ≤ t.size → ∀ l : List Int, ∃ l2 : List Int, ∃ e : Int, ∃ q2 : Nat, impl_fields_numbers (⟨t, (q : Int), true⟩ : Gfields) = some (l2, ⟨t, (q2 : Int), true⟩) ∧ ∃ q3 : Nat, impl_fields_num (⟨t, (q2 : Int), true⟩ : Gfields) = some (e, ⟨t, (q3 : Int), true⟩) := by
    intro q hq l
    obtain ⟨l2, q2, e1, e2⟩ := numbers_bad t ht q hq
    obtain ⟨n, q3, b, e3, e4, e5⟩ := num_ok t ht q2 e2 true
    have := e5 rfl
    subst this
    exact ⟨l2, n, q2, e1, q3, e3⟩
  rcases a3 with ⟨x1, x2⟩ | ⟨x1, rfl, x3, x4, x5⟩
  · obtain ⟨l2, e, q2, y1, q3, y2⟩ := bad q1 hq1 []
    refine ⟨⟨[], [], 0⟩, false, ?_, ?_, by simp, by simp⟩
    · rw [x1]; simp
    · rw [x2, y1]; simp [y2, impl_fields_done]
  · obtain ⟨s2, i2, b1, b2, q2, hq2, b3⟩ := numbers_eq t ht q1 hq1
    have hnn : decide (s1.2 < 0) = false := by rw [x1]; simp
    simp only [hnn, Bool.false_eq_true, if_false]
    rw [x1, b1, b2]
    simp only [Option.bind_some]
    rcases b3 with ⟨u1, u2⟩ | ⟨u1, rfl, u3, u4, u5⟩
    · obtain ⟨n, q3, b, e3, e4, e5⟩ := num_ok t ht q2 hq2 true
      have := e5 rfl
      subst this
      refine ⟨⟨[], [], 0⟩, false, ?_, ?_, by simp, by simp⟩
      · rw [u1]; simp
      · rw [u2]; simp [e3, impl_fields_done]
    · have hnn2 : decide (s2.2 < 0) = false := by rw [u1]; simp
      simp only [hnn2, Bool.false_eq_true, if_false]
      rw [u1]
      obtain ⟨r, c1, c2, c3⟩ := readVar_eq t ht q2 hq2
      rw [c1]
      simp only [impl_fields_num, c2, Option.bind_some]
      rcases c3 with rfl | ⟨n, nx, rfl, v1, v2, v3, v4⟩
      · exact ⟨⟨[], [], 0⟩, false, by simp, by simp [impl_fields_done], by simp, by simp⟩
      · simp only [Bool.not_true, Bool.false_eq_true, if_false, impl_fields_done, Bool.not_false, if_true, Option.bind_some]
        by_cases hlast : nx = t.size
        · subst hlast
          obtain ⟨z, z1, z2⟩ := caseText_bs ⟨s1.1, s2.1, (n : Int)⟩ x4 u4 n rfl v1
          have hzt : z = t := by
            apply bs_inj
            rw [z2]
            simp only [x5, u5, v4]
            rw [cat_slices (by omega) u3 (by rw [bs_length]; exact hq2), cat_slices (by omega) (by omega) (by rw [bs_length]; exact v3)]
            rw [← bs_length, List.take_length, List.drop_zero]
          subst hzt
          refine ⟨⟨s1.1, s2.1, (n : Int)⟩, true, ?_, ?_, x4.1, u4.1⟩
          · simp [z1, sEq_iff]
          · simp
        · refine ⟨⟨[], [], 0⟩, false, ?_, ?_, by simp, by simp⟩
          · have : ((nx : Int) != (t.size : Int)) = true := by simp; omega
            simp [this]
          · have : ((nx : Int) == (t.size : Int)) = false := by simp; omega
            simp [this]
end Go.OM
set_option linter.unusedVariables false
set_option linter.unusedSimpArgs false
namespace Go.OM
/-! ### Marks -/
def marks (k n : Nat) : List Int := (List.range' k n).map fun i : Nat => (i : Int)
theorem marks_len (k n : Nat) : (marks k n).length = n := by simp [marks]
theorem markIntS_eq (a : List Int) (k : Nat) (h : k + a.length ≤ 1000000000000) : laws_markIntS a k = some (((k + a.length : Nat) : Int), marks k a.length) := by
  obtain ⟨r, h1, h2⟩ := loopP_run (f := laws_markIntS_l1) (fun s : List Int × Int × Int => ∃ j : Nat, s.2.2 = j ∧ j ≤ a.length ∧ s.2.1 = ((k + j : Nat) : Int) ∧ s.1 = marks k j ++ a.drop j) (fun s => a.length - s.2.2.toNat) (fun r => r = (marks k a.length, ((k + a.length : Nat) : Int))) (by
    rintro ⟨b, m, i⟩ ⟨j, hi, hj, hm, hb⟩
    simp only at hi hm hb
    subst hi hm
    have hbl : b.length = a.length := by rw [hb, List.length_append, marks_len, List.length_drop]; omega
    by_cases hlt : j < a.length
    · left
      have hd : decide ((j : Int) < (b.length : Int)) = true := by simp; omega
      have hw1 : IntKind.wrap .i64 (((k + j : Nat) : Int) + 1) = ((k + (j + 1) : Nat) : Int) := by rw [w64 (by omega) (by omega)]; omega
      have hw2 : IntKind.wrap .i64 ((j : Int) + 1) = ((j + 1 : Nat) : Int) := by rw [w64 (by omega) (by omega)]; omega
      refine ⟨(b.set j ((k + j : Nat) : Int), ((k + (j + 1) : Nat) : Int), ((j + 1 : Nat) : Int)), ?_, ⟨j + 1, rfl, by omega, rfl, ?_⟩, by simp only [Int.toNat_natCast]; omega⟩
      · simp only [laws_markIntS_l1, hd, if_true, getI_at (l := b) (k := j) (by omega), Option.bind_some, bindS_eq, hw1, hw2, Int.toNat_natCast]
      · simp only
        rw [hb, List.drop_eq_getElem_cons hlt, List.set_append_right _ _ (by rw [marks_len]; omega), marks_len, Nat.sub_self, List.set_cons_zero]
        have : marks k (j + 1) = marks k j ++ [((k + j : Nat) : Int)] := by simp [marks, List.range'_1_concat]
        rw [this]; simp
    · right
      have hja : j = a.length := by omega
      subst hja
      have hd : decide ((a.length : Int) < (b.length : Int)) = false := by simp; omega
      refine ⟨(b, ((k + a.length : Nat) : Int)), by simp only [laws_markIntS_l1, hd, Bool.false_eq_true, if_false], ?_⟩
      rw [hb]; simp) (a, (k : Int), 0) ⟨0, rfl, by omega, by simp, by simp [marks]⟩
  unfold laws_markIntS
  rw [h1, h2]
  rfl
theorem heldIntS_eq (n k : Nat) (h : k + n ≤ 1000000000000) : laws_heldIntS (marks k n) k = some ((k + n : Nat) : Int) := by
  obtain ⟨r, h1, h2⟩ := loopP_run (f := laws_heldIntS_l1 (marks k n)) (fun s : Int × Int => ∃ j : Nat, s.2 = j ∧ j ≤ n ∧ s.1 = ((k + j : Nat) : Int)) (fun s => n - s.2.toNat) (fun r => r = .inl ((k + n : Nat) : Int)) (by
    rintro ⟨m, i⟩ ⟨j, hi, hj, hm⟩
    simp only at hi hm
    subst hi hm
    have hbl := marks_len k n
    by_cases hlt : j < n
    · left
      have hd : decide ((j : Int) < ((marks k n).length : Int)) = true := by simp; omega
      have hw1 : IntKind.wrap .i64 (((k + j : Nat) : Int) + 1) = ((k + (j + 1) : Nat) : Int) := by rw [w64 (by omega) (by omega)]; omega
      have hw2 : IntKind.wrap .i64 ((j : Int) + 1) = ((j + 1 : Nat) : Int) := by rw [w64 (by omega) (by omega)]; omega
      have hg : getI (marks k n) (j : Int) = some ((k + j : Nat) : Int) := by
        rw [getI_at (by omega)]; simp [marks]
      have hne : (((k + j : Nat) : Int) != ((k + j : Nat) : Int)) = false := by simp
      refine ⟨(((k + (j + 1) : Nat) : Int), ((j + 1 : Nat) : Int)), ?_, ⟨j + 1, rfl, by omega, rfl⟩, by simp only [Int.toNat_natCast]; omega⟩
      simp only [laws_heldIntS_l1, hd, if_true, hg, Option.bind_some, hne, Bool.false_eq_true, if_false, hw1, hw2]
    · right
      have hja : j = n := by omega
      subst hja
      have hd : decide ((j : Int) < ((marks k j).length : Int)) = false := by simp; omega
      exact ⟨.inl ((k + j : Nat) : Int), by simp only [laws_heldIntS_l1, hd, Bool.false_eq_true, if_false], rfl⟩) ((k : Int), 0) ⟨0, rfl, by omega, by simp⟩
  unfold laws_heldIntS
  rw [h1, h2]
  rfl
theorem markCase_eq (c : GCase) (k : Nat) (h : k + c.Input.length + c.Want.length ≤ 1000000000000) : ∃ q, laws_markCase c k = some (((k + c.Input.length + c.Want.length : Nat) : Int), q) ∧ laws_heldCase q k = some ((k + c.Input.length + c.Want.length : Nat) : Int) := by
  refine ⟨⟨marks k c.Input.length, marks (k + c.Input.length) c.Want.length, c.End⟩, ?_, ?_⟩
  · unfold laws_markCase
    rw [markIntS_eq _ _ (by omega)]
    simp only [Option.bind_some]
    rw [markIntS_eq _ _ (by omega)]
    rfl
  · unfold laws_heldCase
    simp only
    rw [heldIntS_eq _ _ (by omega)]
    simp only [Option.bind_some]
    have hd : decide (((k + c.Input.length : Nat) : Int) < 0) = false := by simp; omega
    rw [hd]
    simp only [Bool.false_eq_true, if_false]
    rw [heldIntS_eq _ _ (by omega)]
    have hd : decide (((k + c.Input.length + c.Want.length : Nat) : Int) < 0) = false := by simp; omega
    simp only [Option.bind_some, hd, Bool.false_eq_true, if_false]
theorem law_ReadCase (t : ByteArray) (hw : t.size ≤ maxLen) : laws_FnExactReadCase t = some true := by
  unfold laws_FnExactReadCase
  by_cases ht : (t.size : Int) > 1048576
  · simp [ht]
  · have hd : decide ((t.size : Int) > 1048576) = false := by simp; omega
    obtain ⟨c, b, h1, h2, h3, h4⟩ := readCase_eq t (by omega)
    have hle : GCase.le 1048576 c := ⟨by omega, by omega⟩
    obtain ⟨q, m1, m2⟩ := markCase_eq c 1 (by omega)
    have m1' : laws_markCase c 1 = some (((1 + c.Input.length + c.Want.length : Nat) : Int), q) := m1
    have m2' : laws_heldCase q 1 = some ((1 + c.Input.length + c.Want.length : Nat) : Int) := m2
    have hneg : decide (((1 + c.Input.length + c.Want.length : Nat) : Int) < 0) = false := by simp; omega
    have hne : (((1 + c.Input.length + c.Want.length : Nat) : Int) != ((1 + c.Input.length + c.Want.length : Nat) : Int)) = false := by simp
    have hq : laws_eqCase c c = some true := by rw [laws_eqCase_p c c hle hle]; simp
    have hbb : (!(b == b)) = false := by simp
    rw [hd, h1, h2]
    simp only [Bool.false_eq_true, if_false, Option.bind_some, hq, Bool.not_true, hbb, m1', m2', hneg, hne, if_true]
end Go.OM
