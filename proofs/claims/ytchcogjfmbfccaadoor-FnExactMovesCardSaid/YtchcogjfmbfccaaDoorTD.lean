import Derived.Test.YtchcogjfmbfccaaDoorTC
set_option linter.unusedVariables false
set_option linter.unusedSimpArgs false
namespace Go.OM
/-! ### Places reached, by a list of what is to do -/
inductive Reach (next : Nat → List Int) (root : Nat) : Nat → Prop
  | base : Reach next root root
  | step {i : Nat} {m : Int} : Reach next root i → m ∈ next i → Reach next root m.toNat
theorem Reach.congr {next next' : Nat → List Int} {root : Nat} (h : ∀ i m, m ∈ next i ↔ m ∈ next' i) {n : Nat} : Reach next root n ↔ Reach next' root n := by
  constructor
  · intro r
    induction r with
    | base => exact .base
    | step _ hm ih => exact .step ih ((h _ _).1 hm)
  · intro r
    induction r with
    | base => exact .base
    | step _ hm ih => exact .step ih ((h _ _).2 hm)
def vis (s : List Bool × List Int) (m : Int) : List Bool × List Int := if s.1[m.toNat]? = some true then s else (s.1.set m.toNat true, s.2 ++ [m])
theorem count_set {l : List Bool} {k : Nat} (hk : k < l.length) (h : l[k]? ≠ some true) : (l.set k true).count true = l.count true + 1 := by
  induction l generalizing k with
  | nil => simp at hk
  | cons x l ih =>
    cases k with
    | zero =>
      simp only [List.getElem?_cons_zero, ne_eq, Option.some.injEq] at h
      have : x = false := by cases x <;> simp_all
      subst this
      simp [List.set_cons_zero]
    | succ k =>
      simp only [List.length_cons] at hk
      simp only [List.getElem?_cons_succ] at h
      rw [List.set_cons_succ, List.count_cons, List.count_cons, ih (by omega) h]
      omega
theorem vis_len (s : List Bool × List Int) (m : Int) : (vis s m).1.length = s.1.length := by unfold vis; split <;> simp
theorem vis_count {s : List Bool × List Int} {m : Int} (h : m.toNat < s.1.length) : (vis s m).2.length + s.1.count true = s.2.length + (vis s m).1.count true := by
  unfold vis
  split
  · rfl
  · rename_i hn
    simp only [List.length_append, List.length_cons, List.length_nil]
    rw [count_set h hn]; omega
theorem vis_mono {s : List Bool × List Int} {m : Int} {n : Nat} (h : s.1[n]? = some true) : (vis s m).1[n]? = some true := by
  unfold vis
  split
  · exact h
  · simp only [List.getElem?_set]
    split
    · rename_i e
      subst e
      have := (List.getElem?_eq_some_iff.1 h).1
      simp [this]
    · exact h
theorem vis_self {s : List Bool × List Int} {m : Int} (h : m.toNat < s.1.length) : (vis s m).1[m.toNat]? = some true := by
  unfold vis
  split
  · rename_i e; exact e
  · simp [h]
theorem vis_new {s : List Bool × List Int} {m : Int} {n : Nat} (h : (vis s m).1[n]? = some true) : s.1[n]? = some true ∨ (n = m.toNat ∧ m ∈ (vis s m).2) := by
  unfold vis at h ⊢
  split at h
  · exact .inl h
  · rename_i hn
    rw [if_neg hn]
    simp only [List.getElem?_set] at h
    split at h
    · rename_i e; exact .inr ⟨e.symm, by simp⟩
    · exact .inl h
theorem vis_todo {s : List Bool × List Int} {m x : Int} (h : x ∈ (vis s m).2) : x ∈ s.2 ∨ x = m := by
  unfold vis at h
  split at h
  · exact .inl h
  · simpa using h
theorem vis_sub {s : List Bool × List Int} {m x : Int} (h : x ∈ s.2) : x ∈ (vis s m).2 := by
  unfold vis
  split
  · exact h
  · simp [h]
/-- What a row of visits does. -/
structure VisL (W : Nat) (s s' : List Bool × List Int) (nl : List Int) : Prop where
  len : s'.1.length = s.1.length
  count : s'.2.length + s.1.count true = s.2.length + s'.1.count true
  cle : s.1.count true ≤ s'.1.count true
  mono : ∀ n : Nat, s.1[n]? = some true → s'.1[n]? = some true
  all : ∀ m ∈ nl, s'.1[m.toNat]? = some true
  new : ∀ n : Nat, s'.1[n]? = some true → s.1[n]? = some true ∨ ∃ m ∈ nl, n = m.toNat ∧ m ∈ s'.2
  todo : ∀ x ∈ s'.2, x ∈ s.2 ∨ x ∈ nl
  sub : ∀ x ∈ s.2, x ∈ s'.2
theorem visL : ∀ (nl : List Int) (s : List Bool × List Int), (∀ m ∈ nl, m.toNat < s.1.length) → VisL 0 s (nl.foldl vis s) nl
  | [], s, _ => ⟨rfl, rfl, Nat.le_refl _, fun _ h => h, by simp, fun _ h => .inl h, fun _ h => .inl h, fun _ h => h⟩
  | m :: nl, s, h => by
    have h1 : m.toNat < s.1.length := h m (by simp)
    have ih := visL nl (vis s m) (fun x hx => by rw [vis_len]; exact h x (by simp [hx]))
    have hc := vis_count h1
    have hcl : s.1.count true ≤ (vis s m).1.count true := by
      unfold vis
      split
      · exact Nat.le_refl _
      · rename_i hn; rw [count_set h1 hn]; omega
    rw [List.foldl_cons]
    refine ⟨ih.len.trans (vis_len s m), ?_, Nat.le_trans hcl ih.cle, fun n hn => ih.mono n (vis_mono hn), fun x hx => ?_, fun n hn => ?_, fun x hx => ?_, fun x hx => ih.sub x (vis_sub hx)⟩
    · have := ih.count; omega
    · rcases List.mem_cons.1 hx with rfl | hx
      · exact ih.mono _ (vis_self h1)
      · exact ih.all x hx
    · rcases ih.new n hn with h2 | ⟨x, h2, h3, h4⟩
      · rcases vis_new h2 with h3 | ⟨h3, h4⟩
        · exact .inl h3
        · exact .inr ⟨m, by simp, h3, ih.sub _ h4⟩
      · exact .inr ⟨x, by simp [h2], h3, h4⟩
    · rcases ih.todo x hx with h2 | h2
      · rcases vis_todo h2 with h3 | h3
        · exact .inl h3
        · exact .inr (by simp [h3])
      · exact .inr (by simp [h2])
theorem vis_app (a : List Int) (h : List Bool) (b : List Int) (m : Int) : vis (h, a ++ b) m = ((vis (h, b) m).1, a ++ (vis (h, b) m).2) := by
  unfold vis
  simp only
  split <;> simp
theorem foldl_vis_app : ∀ (nl : List Int) (a : List Int) (h : List Bool) (b : List Int), nl.foldl vis (h, a ++ b) = ((nl.foldl vis (h, b)).1, a ++ (nl.foldl vis (h, b)).2)
  | [], _, _, _ => rfl
  | m :: nl, a, h, b => by
    rw [List.foldl_cons, List.foldl_cons, vis_app, foldl_vis_app nl a]
/-- The list of what is to do. -/
structure WInv (W root : Nat) (next : Nat → List Int) (s : List Bool × List Int) : Prop where
  len : s.1.length = W
  cnt : s.2.length ≤ s.1.count true
  bnd : ∀ x ∈ s.2, 0 ≤ x ∧ x < W
  rt : s.1[root]? = some true
  sound : ∀ n : Nat, s.1[n]? = some true → Reach next root n
  closed : ∀ n : Nat, s.1[n]? = some true → (n : Int) ∈ s.2 ∨ ∀ m ∈ next n, s.1[m.toNat]? = some true
  tdo : ∀ x ∈ s.2, s.1[x.toNat]? = some true
theorem WInv.go {W root : Nat} {next : Nat → List Int} {s : List Bool × List Int} (H : WInv W root next s) (hn : ∀ (i : Nat), i < W → ∀ m ∈ next i, 0 ≤ m ∧ m < W) {e : Int} {rest nl : List Int} (he : e ∈ s.2)
    (h1 : ∀ x ∈ s.2, x = e ∨ x ∈ rest) (h2 : ∀ x ∈ rest, x ∈ s.2) (h3 : rest.length + 1 = s.2.length) (h4 : ∀ m, m ∈ nl ↔ m ∈ next e.toNat) :
    WInv W root next (nl.foldl vis (s.1, rest)) ∧ 2 * (W - (nl.foldl vis (s.1, rest)).1.count true) + (nl.foldl vis (s.1, rest)).2.length < 2 * (W - s.1.count true) + s.2.length := by
  have heb := H.bnd e he
  have hb : ∀ m ∈ nl, 0 ≤ m ∧ m < W := fun m hm => hn e.toNat (by omega) m ((h4 m).1 hm)
  have V := visL nl (s.1, rest) (fun m hm => by have := hb m hm; have := H.len; simp only; omega)
  have c1 := V.count
  have c2 := V.cle
  have c3 := H.cnt
  have c4 : (nl.foldl vis (s.1, rest)).1.count true ≤ W := by
    have := List.count_le_length (a := true) (l := (nl.foldl vis (s.1, rest)).1)
    have := V.len
    have := H.len
    simp only at *; omega
  simp only at c1 c2
  refine ⟨⟨V.len.trans H.len, by omega, fun x hx => ?_, V.mono _ H.rt, fun n hn' => ?_, fun n hn' => ?_, fun x hx => ?_⟩, by omega⟩
  · rcases V.todo x hx with h | h
    · exact H.bnd x (h2 x h)
    · exact hb x h
  · rcases V.new n hn' with h | ⟨m, h, rfl, _⟩
    · exact H.sound n h
    · exact .step (H.sound _ (H.tdo e he)) ((h4 m).1 h)
  · rcases V.new n hn' with h | ⟨m, h, h5, h6⟩
    · rcases H.closed n h with h5 | h5
      · rcases h1 _ h5 with h6 | h6
        · right
          intro m hm
          have : e.toNat = n := by omega
          exact V.all m ((h4 m).2 (this ▸ hm))
        · exact .inl (V.sub _ h6)
      · exact .inr fun m hm => V.mono _ (h5 m hm)
    · left
      have := hb m h
      have e1 : (n : Int) = m := by omega
      rw [e1]; exact h6
  · rcases V.todo x hx with h | h
    · exact V.mono _ (H.tdo x (h2 x h))
    · exact V.all x h
open Classical in
noncomputable def reachL (W root : Nat) (next : Nat → List Int) : List Bool := (List.range W).map fun n => decide (Reach next root n)
theorem WInv.done {W root : Nat} {next : Nat → List Int} {s : List Bool × List Int} (H : WInv W root next s) (hn : ∀ (i : Nat), i < W → ∀ m ∈ next i, 0 ≤ m ∧ m < W) (h : s.2 = []) : s.1 = reachL W root next := by
  have hcl : ∀ n : Nat, Reach next root n → s.1[n]? = some true := by
    intro n r
    induction r with
    | base => exact H.rt
    | step _ hm ih =>
      rcases H.closed _ ih with h5 | h5
      · rw [h] at h5; cases h5
      · exact h5 _ hm
  apply List.ext_getElem?
  intro n
  unfold reachL
  by_cases hlt : n < W
  · have hlt2 : n < s.1.length := by rw [H.len]; exact hlt
    rw [List.getElem?_eq_getElem hlt2, List.getElem?_map, List.getElem?_range hlt]
    simp only [Option.map_some, Option.some.injEq]
    by_cases r : Reach next root n
    · have := hcl n r
      rw [List.getElem?_eq_getElem hlt2] at this
      simp only [Option.some.injEq] at this
      simp [this, r]
    · have : s.1[n] ≠ true := fun e => r (H.sound n (by rw [List.getElem?_eq_getElem hlt2, e]))
      simp [r, this]
  · rw [List.getElem?_eq_none (by rw [H.len]; omega), List.getElem?_eq_none (by simp; omega)]
theorem wl_loop {τ ρ : Type} (f : τ → Option (τ ⊕ ρ)) (abs : τ → List Bool × List Int) (Ok : τ → Prop) (W root : Nat) (next : Nat → List Int) (fin : τ → ρ) (hn : ∀ (i : Nat), i < W → ∀ m ∈ next i, 0 ≤ m ∧ m < W)
    (hstep : ∀ t, Ok t → WInv W root next (abs t) → (abs t).2 ≠ [] → ∃ (t' : τ) (e : Int) (rest nl : List Int), f t = some (.inl t') ∧ Ok t' ∧ e ∈ (abs t).2 ∧ (∀ x ∈ (abs t).2, x = e ∨ x ∈ rest) ∧ (∀ x ∈ rest, x ∈ (abs t).2) ∧ rest.length + 1 = (abs t).2.length ∧ (∀ m, m ∈ nl ↔ m ∈ next e.toNat) ∧ abs t' = nl.foldl vis ((abs t).1, rest))
    (hend : ∀ t, Ok t → (abs t).2 = [] → f t = some (.inr (fin t))) (t : τ) (h0 : Ok t) (h1 : WInv W root next (abs t)) : ∃ t', loopP f t = some (fin t') ∧ Ok t' ∧ (abs t').1 = reachL W root next := by
  obtain ⟨r, g1, t', g2, g3, g4⟩ := loopP_run (f := f) (fun t => Ok t ∧ WInv W root next (abs t)) (fun t => 2 * (W - (abs t).1.count true) + (abs t).2.length) (fun r => ∃ t', r = fin t' ∧ Ok t' ∧ (abs t').1 = reachL W root next) (by
    rintro t ⟨k1, k2⟩
    by_cases hd : (abs t).2 = []
    · right
      exact ⟨_, hend t k1 hd, t, rfl, k1, k2.done hn hd⟩
    · left
      obtain ⟨t', e, rest, nl, q1, q2, q3, q4, q5, q6, q7, q8⟩ := hstep t k1 k2 hd
      obtain ⟨p1, p2⟩ := k2.go hn q3 q4 q5 q6 q7
      exact ⟨t', q1, ⟨q2, by rw [q8]; exact p1⟩, by rw [q8]; exact p2⟩) t ⟨h0, h1⟩
  exact ⟨t', by rw [g1, g2], g3, g4⟩
theorem winv_start {W : Nat} {next : Nat → List Int} (hW : 0 < W) : WInv W 0 next ((List.replicate W false).set 0 true, [0]) := by
  have hc : ((List.replicate W false).set 0 true).count true = 1 := by
    rw [count_set (by simpa using hW) (by simp [hW])]
    simp [List.count_replicate]
  refine ⟨by simp, by rw [hc]; simp, by simp; omega, by simp [hW], fun n h => ?_, fun n h => ?_, by simp [hW]⟩
  · simp only [List.getElem?_set, List.length_replicate] at h
    split at h
    · rename_i e; subst e; exact .base
    · simp [List.getElem?_replicate] at h
  · simp only [List.getElem?_set, List.length_replicate] at h
    split at h
    · rename_i e; subst e; exact .inl (by simp)
    · simp [List.getElem?_replicate] at h
/-- Visits in a loop. -/
theorem vis_loop {ρ : Type} (r : List Int) (W : Nat) (hW : W ≤ 1000000) (hr : ∀ m ∈ r, 0 ≤ m ∧ m < W) (f : List Bool × List Int × Int → Option ((List Bool × List Int × Int) ⊕ ρ)) (fin : List Bool × List Int → ρ)
    (hf : ∀ (o : List Bool) (t : List Int) (k : Nat) (hk : k < r.length), o.length = W → t.length ≤ 1000000 → f (o, t, k) = some (.inl ((vis (o, t) r[k]).1, (vis (o, t) r[k]).2, ((k + 1 : Nat) : Int))))
    (he : ∀ o t, f (o, t, r.length) = some (.inr (fin (o, t)))) (o : List Bool) (t : List Int) (ho : o.length = W) (ht : t.length ≤ o.count true) : loopP f (o, t, 0) = some (fin (r.foldl vis (o, t))) := by
  have := loopP_fold r (fun (s : List Bool × List Int) k => (s.1, s.2, (k : Int))) (fun k s => s.1.length = W ∧ s.2.length ≤ s.1.count true) (fun s e => .inl (vis s e)) fin f (fun s k hk hI => by
    left
    obtain ⟨h1, h2⟩ := hI
    have hcw := List.count_le_length (a := true) (l := s.1)
    have hb := hr _ (List.getElem_mem hk)
    refine ⟨_, rfl, hf s.1 s.2 k hk h1 (by omega), by rw [vis_len]; exact h1, ?_⟩
    have := vis_count (s := s) (m := r[k]) (by omega)
    omega) (fun s _ => he s.1 s.2) (o, t) ⟨ho, ht⟩
  rw [foldE_inl] at this
  exact this
theorem nextI_ok (c : GCode) : ∀ (i : Nat), i < c.Words.length → ∀ m ∈ nextI c i, 0 ≤ m ∧ m < c.Words.length := fun i _ m h => nextI_bnd h
theorem vis_get {o : List Bool} {m : Int} (h0 : 0 ≤ m) (h : m < o.length) : getI o m = some (o[m.toNat]'(by omega)) := by
  have : m = ((m.toNat : Nat) : Int) := by omega
  conv => lhs; rw [this]
  exact getI_at (by omega)
theorem vis_eq {o : List Bool} {t : List Int} {m : Int} (h : m.toNat < o.length) : vis (o, t) m = if o[m.toNat] = true then (o, t) else (o.set m.toNat true, t ++ [m]) := by
  unfold vis
  simp only [List.getElem?_eq_getElem h, Option.some.injEq]
noncomputable def reachC (c : GCode) : List Bool := reachL c.Words.length 0 (nextI c)
theorem impl_ReachedWords_eq (c : GCode) (h : GCode.le 1048576 c) : impl_ReachedWords c = some (if codeB c = true then reachC c else []) := by
  unfold impl_ReachedWords
  rw [impl_CodeOk_eq c h]
  simp only [Option.bind_some]
  by_cases hc : codeB c = true
  · obtain ⟨_, _, _, ⟨hw1, hw2⟩, _⟩ := codeB_facts hc
    have hm : c.Words.length ≤ 1048576 := by omega
    rw [mkI_len _ _ _ (by omega) (by omega)]
    have h0 : getI (List.replicate c.Words.length false) 0 = some false := by
      rw [getI_zero, List.getElem?_replicate, if_pos (by omega)]
    simp only [hc, Bool.not_true, Bool.false_eq_true, if_false, if_true, Option.bind_some, h0, bindS_def]
    obtain ⟨t', g1, g2, g3⟩ := wl_loop (impl_ReachedWords_l1 c) (fun t => t) (fun _ => True) c.Words.length 0 (nextI c) (fun t => t.1) (nextI_ok c) (fun t _ hI hne => by
      obtain ⟨o, t⟩ := t
      cases t with
      | nil => exact absurd rfl hne
      | cons e rest =>
        have heb := hI.bnd e (by simp)
        have hei : ((e.toNat : Nat) : Int) = e := by omega
        have hcnt := hI.cnt
        have hlen := hI.len
        have hcw := List.count_le_length (a := true) (l := o)
        simp only [List.length_cons] at hcnt hlen hcw
        have hsub : subI (e :: rest) 1 (((e :: rest).length : Nat) : Int) = some rest := by
          unfold subI
          rw [if_pos ⟨by omega, by simp; omega, by omega⟩]
          simp
        have hnx := impl_Next_eq c hm e.toNat (by omega)
        rw [hei] at hnx
        refine ⟨(nextI c e.toNat).foldl vis (o, rest), e, rest, nextI c e.toNat, ?_, trivial, by simp, by simp, fun x hx => List.mem_cons_of_mem _ hx, by simp, fun m => Iff.rfl, rfl⟩
        simp only [impl_ReachedWords_l1]
        have hpos : decide ((((e :: rest).length : Nat) : Int) > 0) = true := by simp only [List.length_cons, decide_eq_true_eq]; omega
        simp only [hpos, if_true, getI_zero, List.getElem?_cons_zero, Option.bind_some, hsub, hnx]
        exact vis_loop (nextI c e.toNat) c.Words.length (by omega) (nextI_ok c _ (by omega)) (impl_ReachedWords_l2 (nextI c e.toNat)) (fun s => .inl s) (fun o t k hk ho ht => by
          have hb := nextI_ok c _ (show e.toNat < c.Words.length by omega) _ (List.getElem_mem hk)
          have hkl : (nextI c e.toNat).length ≤ 1048576 := by
            unfold nextI
            split
            · refine Nat.le_trans (List.length_filter_le _ _) ?_
              unfold rawNext; split <;> (try split) <;> (try split) <;> simp
            · simp
          simp only [impl_ReachedWords_l2, ofNat_lt_true hk, if_true, getI_at hk, Option.bind_some, vis_get hb.1 (show (nextI c e.toNat)[k] < (o.length : Int) by rw [ho]; exact hb.2), bindS_def, w64_succ hk (show (nextI c e.toNat).length ≤ maxLen by show _ ≤ 9223372036854775807; omega), app1 (n := 8) (show t.length ≤ 1048576 by omega) (by omega)]
          rw [vis_eq (show ((nextI c e.toNat)[k]).toNat < o.length by omega)]
          cases o[((nextI c e.toNat)[k]).toNat] <;> rfl) (fun o t => by simp [impl_ReachedWords_l2]) o rest hI.len (by omega)) (fun t _ he => by
      obtain ⟨o, t⟩ := t
      have he' : t = [] := he
      subst he'
      simp [impl_ReachedWords_l1]) ((List.replicate c.Words.length false).set 0 true, [0]) trivial (winv_start (by omega))
    rw [g1]
    simp only [Option.bind_some]
    rw [g3]; rfl
  · simp [Bool.eq_false_iff.2 hc]
theorem spec_ReachedWords_eq (c : GCode) (h : GCode.le 1048576 c) : spec_ReachedWords c = some (if codeB c = true then reachC c else []) := by
  unfold spec_ReachedWords
  rw [spec_CodeOk_eq c h]
  simp only [Option.bind_some]
  by_cases hc : codeB c = true
  · obtain ⟨_, _, _, ⟨hw1, hw2⟩, _⟩ := codeB_facts hc
    have hm : c.Words.length ≤ 1048576 := by omega
    rw [mkI_len _ _ _ (by omega) (by omega)]
    have h0 : getI (List.replicate c.Words.length false) 0 = some false := by
      rw [getI_zero, List.getElem?_replicate, if_pos (by omega)]
    simp only [hc, Bool.not_true, Bool.false_eq_true, if_false, if_true, Option.bind_some, h0, bindS_def]
    obtain ⟨t', g1, g2, g3⟩ := wl_loop (spec_ReachedWords_l1 c) (fun t => (t.1, t.2.1.drop t.2.2.toNat)) (fun t => ∃ i : Nat, t.2.2 = i ∧ i ≤ t.2.1.length ∧ t.2.1.length ≤ t.1.count true) c.Words.length 0 (nextI c) (fun t => t.1) (nextI_ok c) (fun t hO hI hne => by
      obtain ⟨o, l, i⟩ := t
      obtain ⟨i, rfl, hi, hlc⟩ := hO
      simp only [Int.toNat_natCast] at hI hne hi hlc ⊢
      have hil : i < l.length := by
        rcases Nat.lt_or_ge i l.length with h | h
        · exact h
        · exact absurd (List.drop_eq_nil_of_le h) hne
      have hdr := List.drop_eq_getElem_cons hil
      have hmem : l[i] ∈ l.drop i := by rw [hdr]; exact List.mem_cons_self
      have hcov : ∀ x ∈ l.drop i, x = l[i] ∨ x ∈ l.drop (i + 1) := by rw [hdr]; intro x hx; exact List.mem_cons.1 hx
      have hsubs : ∀ x ∈ l.drop (i + 1), x ∈ l.drop i := by rw [hdr]; intro x hx; exact List.mem_cons_of_mem _ hx
      have hdl : (l.drop (i + 1)).length + 1 = (l.drop i).length := by rw [List.length_drop, List.length_drop]; omega
      have heb := hI.bnd l[i] hmem
      have hei : ((l[i].toNat : Nat) : Int) = l[i] := by omega
      have hlen := hI.len
      have hcw := List.count_le_length (a := true) (l := o)
      simp only at hlen
      have hnx := spec_Next_eq c hm l[i].toNat (by omega)
      rw [hei] at hnx
      have hsb : ∀ m ∈ nextS c l[i].toNat, 0 ≤ m ∧ m < c.Words.length := fun m hmm => nextI_bnd (mem_nextS.1 hmm)
      have V := visL (nextS c l[i].toNat) (o, l) (fun m hmm => by have := hsb m hmm; simp only; omega)
      have hsp : l = l.take (i + 1) ++ l.drop (i + 1) := (List.take_append_drop _ _).symm
      have hfa := foldl_vis_app (nextS c l[i].toNat) (l.take (i + 1)) o (l.drop (i + 1))
      rw [List.take_append_drop] at hfa
      refine ⟨(((nextS c l[i].toNat).foldl vis (o, l)).1, ((nextS c l[i].toNat).foldl vis (o, l)).2, ((i + 1 : Nat) : Int)), l[i], l.drop (i + 1), nextS c l[i].toNat, ?_, ⟨i + 1, rfl, ?_, ?_⟩, hmem, hcov, hsubs, hdl, fun m => mem_nextS, ?_⟩
      · simp only [spec_ReachedWords_l1, ofNat_lt_true hil, if_true, getI_at hil, Option.bind_some, hnx]
        have hkl : (nextS c l[i].toNat).length ≤ 1048576 := by
          have key : ∀ (q s : List Int), (q.foldl addL s).length ≤ s.length + q.length := by
            intro q
            induction q with
            | nil => intro s; simp
            | cons x q ih => intro s; rw [List.foldl_cons]; have := ih (addL s x); have := addL_len s x; simp only [List.length_cons]; omega
          have h1 := key (nextI c l[i].toNat) []
          have h2 : (nextI c l[i].toNat).length ≤ 1000 := by
            unfold nextI
            split
            · refine Nat.le_trans (List.length_filter_le _ _) ?_
              unfold rawNext; split <;> (try split) <;> (try split) <;> simp
            · simp
          unfold nextS
          simp only [List.length_nil] at h1
          omega
        rw [vis_loop (nextS c l[i].toNat) c.Words.length (by omega) hsb (spec_ReachedWords_l2 (nextS c l[i].toNat)) (fun s => s) (fun o t k hk ho ht => by
          have hb := hsb _ (List.getElem_mem hk)
          simp only [spec_ReachedWords_l2, ofNat_lt_true hk, if_true, getI_at hk, Option.bind_some, vis_get hb.1 (show (nextS c l[i].toNat)[k] < (o.length : Int) by rw [ho]; exact hb.2), bindS_def, w64_succ hk (show (nextS c l[i].toNat).length ≤ maxLen by show _ ≤ 9223372036854775807; omega), app1 (n := 8) (show t.length ≤ 1048576 by omega) (by omega)]
          rw [vis_eq (show ((nextS c l[i].toNat)[k]).toNat < o.length by omega)]
          cases o[((nextS c l[i].toNat)[k]).toNat] <;> rfl) (fun o t => by simp [spec_ReachedWords_l2]) o l hI.len hlc]
        simp only [Option.bind_some, w64_succ hil (show l.length ≤ maxLen by show _ ≤ 9223372036854775807; omega)]
      · rw [hfa]; simp; omega
      · have q1 := V.count
        have q2 := V.cle
        simp only at q1 q2 ⊢
        omega
      · simp only [Int.toNat_natCast]
        rw [hfa]
        simp only
        congr 1
        rw [List.drop_append_of_le_length (by simp; omega), List.drop_of_length_le (by simp; omega)]; simp) (fun t hO he => by
      obtain ⟨o, l, i⟩ := t
      obtain ⟨i, rfl, hi, hlc⟩ := hO
      simp only [Int.toNat_natCast] at he hi
      have hil : i = l.length := by
        have := congrArg List.length he
        simp at this; omega
      subst hil
      simp [spec_ReachedWords_l1]) ((List.replicate c.Words.length false).set 0 true, [0], 0) ⟨0, rfl, by simp, by
        have := (winv_start (W := c.Words.length) (next := nextI c) (by omega)).cnt
        exact this⟩ (winv_start (by omega))
    rw [g1]
    simp only [Option.bind_some]
    simp only at g3
    rw [g3]; rfl
  · simp [Bool.eq_false_iff.2 hc]
theorem law_ReachedWords (c : GCode) (hw : GCode.le maxLen c) : laws_FnExactReachedWords c = some true := by
  unfold laws_FnExactReachedWords
  obtain ⟨r, h1, h2, h3⟩ := laws_szCode_p c hw 1048576 (by omega) (by omega)
  rw [h1]
  simp only [Option.bind_some]
  by_cases hr : r < 0
  · simp [hr]
  · have hp := h3 (by omega)
    have hv1 := spec_ReachedWords_eq c hp
    have hv2 := impl_ReachedWords_eq c hp
    have hok : (if codeB c = true then reachC c else []).length ≤ 1048576 := by
      split
      · simp only [reachC, reachL, List.length_map, List.length_range]; exact hp.2.2.1
      · simp
    generalize (if codeB c = true then reachC c else []) = v at *
    obtain ⟨k1, c1, m1, m2, m3⟩ := laws_markCode_p c hp 1 (by omega) (by omega)
    obtain ⟨k2, v2, n1, n2, n3, n4⟩ := laws_markBoolS_p v hok 1 (by omega) (by omega)
    simp [hr, laws_toCode_p c hp, hv1, hv2, laws_eqBoolS_p v v hok hok, laws_eqCode_p c c hp hp, m1, n1, n4, show ¬ k1 < 0 by omega, show ¬ k2 < 0 by omega]
end Go.OM
set_option linter.unusedVariables false
set_option linter.unusedSimpArgs false
namespace Go.OM
/-! ### Tables of flags -/
theorem loopP_sim {α β ρ ρ' : Type} {f : α → Option (α ⊕ ρ)} {g : β → Option (β ⊕ ρ')} (I : α → β → Prop) (μ : α → Nat) (R : ρ → ρ' → Prop)
    (h : ∀ a b, I a b → (∃ a' b', f a = some (.inl a') ∧ g b = some (.inl b') ∧ I a' b' ∧ μ a' < μ a) ∨ ∃ r r', f a = some (.inr r) ∧ g b = some (.inr r') ∧ R r r') : ∀ a b, I a b → ∃ r r', loopP f a = some r ∧ loopP g b = some r' ∧ R r r' := by
  intro a
  generalize hn : μ a = n
  induction n using Nat.strongRecOn generalizing a with
  | _ n ih =>
    intro b hI
    rw [loopP_eq f, loopP_eq g]
    rcases h a b hI with ⟨a', b', h1, h2, h3, h4⟩ | ⟨r, r', h1, h2, h3⟩
    · rw [h1, h2]; exact ih _ (by omega) a' rfl b' h3
    · rw [h1, h2]; exact ⟨r, r', rfl, rfl, h3⟩
abbrev Tab := List (List Bool)
structure TabOk (W L : Nat) (t : Tab) : Prop where
  len : t.length = W
  row : ∀ r ∈ t, r.length = L
theorem TabOk.set {W L : Nat} {t : Tab} (h : TabOk W L t) (n : Nat) {r : List Bool} (hr : r.length = L) : TabOk W L (t.set n r) :=
  ⟨by simpa using h.len, fun x hx => by
    rcases List.mem_or_eq_of_mem_set hx with h1 | h1
    · exact h.row x h1
    · rw [h1]; exact hr⟩
theorem w64_nat {k n : Nat} (hk : k < n) (hn : n ≤ 1048576) : IntKind.wrap .i64 ((k : Int) + 1) = ((k + 1 : Nat) : Int) := w64_succ hk (show n ≤ maxLen by show _ ≤ 9223372036854775807; omega)
/-- A row filled. -/
theorem fill_loop {ρ : Type} (L : Nat) (b : Bool) (f : List Bool × Int → Option ((List Bool × Int) ⊕ ρ)) (fin : List Bool → ρ)
    (hf : ∀ (r : List Bool) (k : Nat), r.length = L → k < L → f (r, k) = some (.inl (r.set k b, ((k + 1 : Nat) : Int)))) (he : ∀ r : List Bool, r.length = L → f (r, L) = some (.inr (fin r))) (r0 : List Bool) (h0 : r0.length = L) :
    loopP f (r0, 0) = some (fin (List.replicate L b)) := by
  obtain ⟨r, h1, h2⟩ := loopP_run (f := f) (fun s : List Bool × Int => ∃ k : Nat, s.2 = k ∧ k ≤ L ∧ s.1.length = L ∧ ∀ j, j < k → s.1[j]? = some b) (fun s => L - s.2.toNat) (fun r => r = fin (List.replicate L b)) (by
    rintro ⟨r, i⟩ ⟨k, rfl, hk, hl, hs⟩
    simp only at hl hs hk
    by_cases hlt : k < L
    · left
      refine ⟨_, hf r k hl hlt, ⟨k + 1, rfl, by omega, by simpa using hl, fun j hj => ?_⟩, by simp only [Int.toNat_natCast]; omega⟩
      simp only [List.getElem?_set]
      by_cases e : k = j
      · subst e; simp [hl, hlt]
      · rw [if_neg e]; exact hs j (by omega)
    · right
      have hkL : k = L := by omega
      subst hkL
      refine ⟨_, he r hl, ?_⟩
      congr 1
      apply List.ext_getElem?
      intro j
      by_cases hj : j < k
      · rw [hs j hj, List.getElem?_replicate, if_pos hj]
      · rw [List.getElem?_eq_none (by omega), List.getElem?_replicate, if_neg hj]) (r0, 0) ⟨0, rfl, by omega, h0, fun j h => by omega⟩
  rw [h1, h2]
theorem app1g {α : Type} {n : Nat} {s : List α} {e : α} (h : s.length ≤ 1048576) (hn : n ≤ 64) : appI n s [e] = some (s ++ [e]) := by
  unfold appI
  have h1 : (s.length + [e].length) * n ≤ (s.length + [e].length) * 64 := Nat.mul_le_mul_left _ hn
  rw [if_pos ⟨by simp only [List.length_cons, List.length_nil] at h1 ⊢; omega, by simp only [List.length_cons, List.length_nil]; omega⟩]
theorem rep_loop {α : Type} (W : Nat) (hW : W ≤ 1048576) (x : α) (f : List α × Int → Option ((List α × Int) ⊕ List α))
    (hf : ∀ (o : List α) (k : Nat), o.length ≤ 1048576 → k < W → f (o, k) = some (.inl (o ++ [x], ((k + 1 : Nat) : Int)))) (he : ∀ o, f (o, W) = some (.inr o)) : loopP f ([], 0) = some (List.replicate W x) := by
  obtain ⟨r, h1, h2⟩ := loopP_run (f := f) (fun s : List α × Int => ∃ k : Nat, s.2 = k ∧ k ≤ W ∧ s.1 = List.replicate k x) (fun s => W - s.2.toNat) (fun r => r = List.replicate W x) (by
    rintro ⟨o, i⟩ ⟨k, rfl, hk, ho⟩
    simp only at ho hk
    by_cases hlt : k < W
    · left
      refine ⟨_, hf o k (by rw [ho]; simp; omega) hlt, ⟨k + 1, rfl, by omega, ?_⟩, by simp only [Int.toNat_natCast]; omega⟩
      simp only [ho, List.replicate_succ']
    · right
      have hkL : k = W := by omega
      subst hkL
      exact ⟨_, he o, ho⟩) ([], 0) ⟨0, rfl, by omega, rfl⟩
  rw [h1, h2]
theorem impl_table_eq (W L : Nat) (hW : W ≤ 1048576) (hL : L ≤ 1048576) (b : Bool) : impl_table W L b = some (List.replicate W (List.replicate L b)) := by
  unfold impl_table
  rw [rep_loop W hW (List.replicate L b) (impl_table_l1 W L b) (fun o k ho hk => by
    simp only [impl_table_l1, ofNat_lt_true hk, if_true]
    rw [mkI_len _ _ _ (by omega) (by omega)]
    simp only [Option.bind_some]
    rw [fill_loop L b (impl_table_l2 b (List.replicate L false)) id (fun r k hr hk => by
      simp only [impl_table_l2, List.length_replicate, ofNat_lt_true hk, if_true, getI_at (show k < r.length by omega), Option.bind_some, bindS_def, Int.toNat_natCast, w64_nat hk hL]) (fun r hr => by simp [impl_table_l2]) _ (by simp)]
    simp only [Option.bind_some, id, app1g ho (show 24 ≤ 64 by omega), w64_nat hk hW]) (fun o => by simp [impl_table_l1])]
  rfl
theorem spec_table_eq (W L : Nat) (hW : W ≤ 1048576) (hL : L ≤ 1048576) (b : Bool) : spec_l14Table W L b = some (List.replicate W (List.replicate L b)) := by
  unfold spec_l14Table
  rw [rep_loop W hW (List.replicate L b) (spec_l14Table_l1 W L b) (fun o k ho hk => by
    simp only [spec_l14Table_l1, ofNat_lt_true hk, if_true]
    rw [mkI_len _ _ _ (by omega) (by omega)]
    simp only [Option.bind_some]
    rw [fill_loop L b (spec_l14Table_l2 L b) id (fun r k hr hk => by
      simp only [spec_l14Table_l2, ofNat_lt_true hk, if_true, getI_at (show k < r.length by omega), Option.bind_some, bindS_def, Int.toNat_natCast, w64_nat hk hL]) (fun r hr => by simp [spec_l14Table_l2]) _ (by simp)]
    simp only [Option.bind_some, id, app1g ho (show 24 ≤ 64 by omega), w64_nat hk hW]) (fun o => by simp [spec_l14Table_l1])]
  rfl
theorem tab_rep (W L : Nat) (b : Bool) : TabOk W L (List.replicate W (List.replicate L b)) := ⟨by simp, fun r hr => by rw [(List.mem_replicate.1 hr).2]; simp⟩
/-- A row's flags turned, one by one; what changes is told. -/
theorem rowU_loop {ρ : Type} (out : Tab) (n L : Nat) (hn : n < out.length) (row : List Bool) (hrow : out[n]? = some row) (hL : row.length = L) (u : Nat → Bool → Bool) (f : Tab × Bool × Int → Option ((Tab × Bool × Int) ⊕ ρ)) (fin : Tab → Bool → ρ)
    (hf : ∀ (r : List Bool) (m : Bool) (k : Nat) (hk : k < r.length), r.length = L → f (out.set n r, m, k) = some (.inl (if u k r[k] = r[k] then (out.set n r, m, ((k + 1 : Nat) : Int)) else (out.set n (r.set k (u k r[k])), true, ((k + 1 : Nat) : Int)))))
    (he : ∀ (r : List Bool) (m : Bool), r.length = L → f (out.set n r, m, L) = some (.inr (fin (out.set n r) m))) (more : Bool) :
    loopP f (out, more, 0) = some (fin (out.set n (row.mapIdx u)) (more || decide (row.mapIdx u ≠ row))) := by
  have hself : out = out.set n row := by
    apply List.ext_getElem?
    intro j
    rw [List.getElem?_set]
    by_cases e : n = j
    · subst e; rw [if_pos rfl, if_pos hn]; exact hrow
    · rw [if_neg e]
  obtain ⟨r, h1, h2⟩ := loopP_run (f := f) (fun s : Tab × Bool × Int => ∃ (k : Nat) (r : List Bool), s.2.2 = k ∧ k ≤ L ∧ r.length = L ∧ s.1 = out.set n r ∧ (∀ (j : Nat), r[j]? = if j < k then (row.mapIdx u)[j]? else row[j]?) ∧ (s.2.1 = true ↔ more = true ∨ ∃ j, j < k ∧ (row.mapIdx u)[j]? ≠ row[j]?)) (fun s => L - s.2.2.toNat) (fun x => x = fin (out.set n (row.mapIdx u)) (more || decide (row.mapIdx u ≠ row))) (by
    rintro ⟨o, m, i⟩ ⟨k, r, rfl, hk, hr, ho, hrj, hm⟩
    simp only at ho hm hk
    subst ho
    by_cases hlt : k < L
    · left
      have hkr : k < r.length := by omega
      have hkrow : k < row.length := by omega
      have hrk : r[k] = row[k] := by
        have := hrj k
        rw [if_neg (by omega), List.getElem?_eq_getElem hkr, List.getElem?_eq_getElem hkrow] at this
        exact Option.some.inj this
      have hmk : (row.mapIdx u)[k]? = some (u k row[k]) := by rw [List.getElem?_mapIdx, List.getElem?_eq_getElem hkrow]; rfl
      have hrk2 : row[k]? = some row[k] := List.getElem?_eq_getElem hkrow
      refine ⟨_, hf r m k hkr hr, ?_, ?_⟩
      · by_cases hu : u k r[k] = r[k]
        · rw [if_pos hu]
          refine ⟨k + 1, r, rfl, by omega, hr, rfl, fun j => ?_, ?_⟩
          · by_cases e : j = k
            · subst e
              rw [hrj j, if_neg (by omega), if_pos (by omega), hmk, hrk2, ← hrk, hu]
            · rw [hrj j]
              by_cases e2 : j < k
              · rw [if_pos e2, if_pos (by omega)]
              · rw [if_neg e2, if_neg (by omega)]
          · simp only
            rw [hm]
            constructor
            · rintro (h | ⟨j, h, h'⟩)
              · exact .inl h
              · exact .inr ⟨j, by omega, h'⟩
            · rintro (h | ⟨j, h, h'⟩)
              · exact .inl h
              · refine .inr ⟨j, ?_, h'⟩
                rcases Nat.lt_or_ge j k with h3 | h3
                · exact h3
                · exfalso
                  have : j = k := by omega
                  subst this
                  rw [hmk, hrk2, ← hrk, hu] at h'
                  exact h' rfl
        · rw [if_neg hu]
          refine ⟨k + 1, r.set k (u k r[k]), rfl, by omega, by simpa using hr, rfl, fun j => ?_, ?_⟩
          · rw [List.getElem?_set]
            by_cases e : k = j
            · subst e
              rw [if_pos rfl, if_pos hkr, if_pos (by omega), hmk, hrk]
            · rw [if_neg e, hrj j]
              by_cases e2 : j < k
              · rw [if_pos e2, if_pos (by omega)]
              · rw [if_neg e2, if_neg (by omega)]
          · simp only
            refine ⟨fun _ => .inr ⟨k, by omega, ?_⟩, fun _ => trivial⟩
            rw [hmk, hrk2, ← hrk]
            intro h
            exact hu (Option.some.inj h)
      · split <;> (simp only [Int.toNat_natCast]; omega)
    · right
      have hkL : k = L := by omega
      subst hkL
      have hrr : r = row.mapIdx u := by
        apply List.ext_getElem?
        intro j
        rw [hrj j]
        by_cases hj : j < k
        · rw [if_pos hj]
        · rw [if_neg hj, List.getElem?_eq_none (by omega), List.getElem?_eq_none (by simp; omega)]
      subst hrr
      refine ⟨_, he _ m hr, ?_⟩
      congr 1
      rw [Bool.eq_iff_iff, hm]
      simp only [Bool.or_eq_true, decide_eq_true_eq]
      constructor
      · rintro (h | ⟨j, h, h'⟩)
        · exact .inl h
        · exact .inr fun e => h' (by rw [e])
      · rintro (h | h)
        · exact .inl h
        · right
          refine Classical.byContradiction fun hn => h ?_
          apply List.ext_getElem?
          intro j
          refine Classical.byContradiction fun hj => hn ⟨j, ?_, hj⟩
          rcases Nat.lt_or_ge j k with h3 | h3
          · exact h3
          · exfalso
            exact hj (by rw [List.getElem?_eq_none (by simp; omega), List.getElem?_eq_none (by omega)])) (out, more, 0) ⟨0, row, rfl, by omega, hL, hself, fun j => by simp, by simp⟩
  rw [h1, h2]
/-! counting -/
def cntR (r : List Bool) : Nat := r.count true
def cntT (t : Tab) : Nat := (t.map cntR).sum
theorem cntT_le {W L : Nat} {t : Tab} (h : TabOk W L t) : cntT t ≤ W * L := by
  obtain ⟨h1, h2⟩ := h
  subst h1
  unfold cntT
  induction t with
  | nil => simp
  | cons r t ih =>
    have := ih (fun x hx => h2 x (by simp [hx]))
    have h3 : cntR r ≤ L := by rw [← h2 r (by simp)]; exact List.count_le_length
    simp only [List.map_cons, List.sum_cons, List.length_cons, Nat.add_mul, Nat.one_mul]
    omega
theorem cntT_set {t : Tab} {n : Nat} {row r : List Bool} (h : t[n]? = some row) : cntT (t.set n r) + cntR row = cntT t + cntR r := by
  unfold cntT
  induction t generalizing n with
  | nil => simp at h
  | cons x t ih =>
    cases n with
    | zero =>
      simp only [List.getElem?_cons_zero, Option.some.injEq] at h
      subst h
      simp only [List.set_cons_zero, List.map_cons, List.sum_cons]; omega
    | succ n =>
      simp only [List.getElem?_cons_succ] at h
      have := ih h
      simp only [List.set_cons_succ, List.map_cons, List.sum_cons]; omega
/-- A row whose flags only go down. -/
theorem cntR_down : ∀ (row : List Bool) (u : Nat → Bool → Bool), (∀ k, u k false = false) → cntR (row.mapIdx u) ≤ cntR row ∧ (row.mapIdx u ≠ row → cntR (row.mapIdx u) < cntR row)
  | [], _, _ => ⟨by simp, fun h => absurd (by simp) h⟩
  | b :: row, u, hu => by
    have ih := cntR_down row (fun k => u (k + 1)) (fun k => hu _)
    have e : (b :: row).mapIdx u = u 0 b :: row.mapIdx (fun k => u (k + 1)) := by simp [List.mapIdx_cons]
    rw [e]
    unfold cntR at ih ⊢
    cases b with
    | false =>
      rw [hu 0]
      simp only [List.count_cons, Bool.false_eq_true, beq_iff_eq, if_false, Nat.add_zero, ne_eq, List.cons.injEq, true_and]
      exact ih
    | true =>
      cases hb : u 0 true with
      | true =>
        simp only [List.count_cons, beq_self_eq_true, if_true, ne_eq, List.cons.injEq, true_and]
        exact ⟨by omega, fun h => by have := ih.2 h; omega⟩
      | false =>
        simp only [List.count_cons, beq_self_eq_true, if_true, Bool.false_eq_true, beq_iff_eq, if_false]
        exact ⟨by omega, fun _ => by omega⟩
theorem cntR_up : ∀ (row : List Bool) (u : Nat → Bool → Bool), (∀ k, u k true = true) → cntR row ≤ cntR (row.mapIdx u) ∧ (row.mapIdx u ≠ row → cntR row < cntR (row.mapIdx u))
  | [], _, _ => ⟨by simp, fun h => absurd (by simp) h⟩
  | b :: row, u, hu => by
    have ih := cntR_up row (fun k => u (k + 1)) (fun k => hu _)
    have e : (b :: row).mapIdx u = u 0 b :: row.mapIdx (fun k => u (k + 1)) := by simp [List.mapIdx_cons]
    rw [e]
    unfold cntR at ih ⊢
    cases b with
    | true =>
      rw [hu 0]
      simp only [List.count_cons, beq_self_eq_true, if_true, ne_eq, List.cons.injEq, true_and]
      exact ⟨by omega, fun h => by have := ih.2 h; omega⟩
    | false =>
      cases hb : u 0 false with
      | false =>
        simp only [List.count_cons, Bool.false_eq_true, beq_iff_eq, if_false, Nat.add_zero, ne_eq, List.cons.injEq, true_and]
        exact ih
      | true =>
        simp only [List.count_cons, beq_self_eq_true, if_true, Bool.false_eq_true, beq_iff_eq, if_false]
        exact ⟨by omega, fun _ => by omega⟩
end Go.OM
set_option linter.unusedVariables false
set_option linter.unusedSimpArgs false
namespace Go.OM
/-! ### What has something for certain -/
theorem placeB_iff {n : Nat} {v : Int} : placeB n v = true ↔ 0 ≤ v ∧ v < n := by unfold placeB; rw [inB_iff]; omega
theorem wordB_facts {n m : Nat} {x : GIns} (h : wordB n m x = true) : (1 ≤ x.Op ∧ x.Op ≤ 20) ∧ (((2 ≤ x.Op ∧ x.Op ≤ 7) ∨ (9 ≤ x.Op ∧ x.Op ≤ 12) ∨ x.Op = 14 ∨ x.Op = 15) → 0 ≤ x.B ∧ x.B < n) ∧ ((10 ≤ x.Op ∧ x.Op ≤ 12) → 0 ≤ x.C ∧ x.C < n) ∧
    (x.Op ≠ 18 → ((x.Op = 13 ∨ x.Op = 20) ∧ x.A = -1) ∨ (0 ≤ x.A ∧ x.A < n)) ∧ (x.Op = 13 → (∀ a ∈ x.Args, 0 ≤ a ∧ a < n) ∧ x.Args.length ≤ 3) := by
  unfold wordB at h
  simp only [Bool.and_eq_true] at h
  obtain ⟨h1, h2, h3, h4, h5, h6⟩ := h
  have h1' := inB_iff.1 h1
  refine ⟨h1', fun hb => ?_, fun hc => ?_, fun h18 => ?_, fun h13 => ?_⟩
  · have : hasBB x.Op = true := by
      unfold hasBB
      simp only [Bool.or_eq_true, inB_iff, beq_iff_eq]
      omega
    unfold bB at h3
    rw [if_pos this] at h3
    exact placeB_iff.1 h3
  · have : hasCB x.Op = true := by unfold hasCB; rw [inB_iff]; omega
    unfold cB at h4
    rw [if_pos this] at h4
    exact placeB_iff.1 h4
  · unfold aB at h2
    by_cases ho : x.Op = 13 ∨ x.Op = 20
    · have : (x.Op == 13 || x.Op == 20) = true := by simp only [Bool.or_eq_true, beq_iff_eq]; exact ho
      rw [if_pos this] at h2
      simp only [Bool.or_eq_true, beq_iff_eq] at h2
      rcases h2 with h2 | h2
      · exact .inl ⟨ho, h2⟩
      · exact .inr (placeB_iff.1 h2)
    · have : ¬ (x.Op == 13 || x.Op == 20) = true := by simp only [Bool.or_eq_true, beq_iff_eq]; exact ho
      rw [if_neg this, if_neg (by simpa using h18)] at h2
      exact .inr (placeB_iff.1 h2)
  · unfold restB at h6
    rw [if_neg (by simp [h13])] at h6
    simp only [Bool.and_eq_true, decide_eq_true_eq, List.all_eq_true] at h6
    exact ⟨fun a ha => placeB_iff.1 (h6.1 a ha), by omega⟩
def clrL (row : List Bool) (l : List Int) : List Bool := l.foldl (fun r a => r.set a.toNat false) row
theorem clrL_len : ∀ (l : List Int) (row : List Bool), (clrL row l).length = row.length
  | [], _ => rfl
  | a :: l, row => by unfold clrL; rw [List.foldl_cons]; exact (clrL_len l _).trans (by simp)
def behA (x : GIns) (row : List Bool) : List Bool := if x.Op = 3 ∨ x.Op = 14 then row.set x.B.toNat false else if x.Op = 13 then clrL row x.Args else if x.Op = 17 then row.set x.A.toNat false else row
def behB (x : GIns) (row : List Bool) : List Bool := if (1 ≤ x.Op ∧ x.Op ≤ 14) ∧ 0 ≤ x.A then (behA x row).set x.A.toNat true else behA x row
theorem behA_len (x : GIns) (row : List Bool) : (behA x row).length = row.length := by
  unfold behA
  split
  · simp
  · split
    · exact clrL_len _ _
    · split <;> simp
theorem behB_len (x : GIns) (row : List Bool) : (behB x row).length = row.length := by
  unfold behB
  split
  · rw [List.length_set]; exact behA_len _ _
  · exact behA_len _ _
theorem getI_in {α : Type} {l : List α} {v : Int} (h0 : 0 ≤ v) (h : v < l.length) : getI l v = some (l[v.toNat]'(by omega)) := by
  have : v = ((v.toNat : Nat) : Int) := by omega
  conv => lhs; rw [this]
  exact getI_at (by omega)
theorem clr_loop (x : GIns) (n : Nat) (ha : ∀ a ∈ x.Args, 0 ≤ a ∧ a < n) (hl : x.Args.length ≤ 3) (f : List Bool × Int → Option ((List Bool × Int) ⊕ List Bool))
    (hf : ∀ (r : List Bool) (k : Nat) (hk : k < x.Args.length), r.length = n → f (r, k) = some (.inl (r.set (x.Args[k]).toNat false, ((k + 1 : Nat) : Int)))) (he : ∀ r, f (r, x.Args.length) = some (.inr r)) (row : List Bool) (hr : row.length = n) : loopP f (row, 0) = some (clrL row x.Args) := by
  have := loopP_fold x.Args (fun (s : List Bool) k => (s, (k : Int))) (fun k s => s.length = n) (fun s a => .inl (s.set a.toNat false)) id f (fun s k hk hI => .inl ⟨_, rfl, hf s k hk hI, by simpa using hI⟩) (fun s _ => he s) row hr
  rw [foldE_inl] at this
  exact this
theorem impl_Writes_eq (x : GIns) : impl_Writes x = some (if inB x.Op 1 14 = true then x.A else -1) := by
  unfold impl_Writes; simp only [impl_in_eq, Option.bind_some, ite_some]
theorem spec_Writes_eq (x : GIns) : spec_Writes x = some (if inB x.Op 1 14 = true then x.A else -1) := by
  unfold spec_Writes; simp only [spec_in_eq, Option.bind_some, ite_some]
theorem app_nil {α : Type} {n : Nat} {l : List α} (h : l.length ≤ 1048576) (hn : n ≤ 64) : appI n [] l = some l := by
  unfold appI
  have h1 : (([] : List α).length + l.length) * n ≤ (([] : List α).length + l.length) * 64 := Nat.mul_le_mul_left _ hn
  rw [if_pos ⟨by simp only [List.length_nil] at h1 ⊢; omega, by simp only [List.length_nil]; omega⟩]
  simp
theorem beh_case (x : GIns) (n m : Nat) (row : List Bool) (hx : wordB n m x = true) (hr : row.length = n) (l13 : Option (List Bool)) (h13 : x.Op = 13 → l13 = some (clrL row x.Args)) :
    (Option.bind (if (x.Op == 3) = true then some (x.Op == 3) else some (x.Op == 14)) fun v12 => if v12 = true then (getI row x.B).bind fun e15 => some (List.set row x.B.toNat false) else if (x.Op == 13) = true then l13 else if (x.Op == 17) = true then (getI row x.A).bind fun e32 => some (List.set row x.A.toNat false) else some row) = some (behA x row) := by
  obtain ⟨_, hB, _, hA, _⟩ := wordB_facts hx
  unfold behA
  by_cases h3 : x.Op = 3 ∨ x.Op = 14
  · obtain ⟨b0, b1⟩ := hB (by omega)
    have e : (if (x.Op == 3) = true then some (x.Op == 3) else some (x.Op == 14)) = some true := by
      rcases h3 with h | h <;> simp [h]
    rw [e, if_pos h3]
    simp only [Option.bind_some, if_true, getI_in b0 (by rw [hr]; exact b1)]
  · have e : (if (x.Op == 3) = true then some (x.Op == 3) else some (x.Op == 14)) = some false := by
      rw [not_or] at h3
      simp [h3.1, h3.2]
    rw [e, if_neg h3]
    simp only [Option.bind_some, Bool.false_eq_true, if_false]
    by_cases h : x.Op = 13
    · simp only [h, beq_self_eq_true, if_true]; exact h13 h
    · rw [if_neg (by simpa using h), if_neg h]
      by_cases h17 : x.Op = 17
      · rcases hA (by omega) with ⟨h5, _⟩ | ⟨a0, a1⟩
        · omega
        · simp only [h17, beq_self_eq_true, if_true, getI_in a0 (show x.A < (row.length : Int) by rw [hr]; exact a1), Option.bind_some]
      · rw [if_neg (by simpa using h17), if_neg h17]
theorem beh_write (x : GIns) (n m : Nat) (hx : wordB n m x = true) (g : Int → List Bool → Option (List Bool)) (hg : ∀ o, o.length = n → 0 ≤ x.A → x.A < n → g x.A o = some (o.set x.A.toNat true)) (o : List Bool) (ho : o.length = n) (w : Int) (hw : w = if inB x.Op 1 14 = true then x.A else -1) :
    (if (decide (w ≥ 0)) = true then g w o else some o) = some (if (1 ≤ x.Op ∧ x.Op ≤ 14) ∧ 0 ≤ x.A then o.set x.A.toNat true else o) := by
  obtain ⟨_, _, _, hA, _⟩ := wordB_facts hx
  by_cases hi : inB x.Op 1 14 = true
  · have hi' := inB_iff.1 hi
    rw [if_pos hi] at hw
    subst hw
    by_cases ha : 0 ≤ x.A
    · rcases hA (by omega) with ⟨_, h5⟩ | ⟨a0, a1⟩
      · omega
      · rw [if_pos (by simpa using ha), if_pos ⟨hi', ha⟩]
        exact hg o ho a0 a1
    · rw [if_neg (by simpa using ha), if_neg (fun h => ha h.2)]
  · have hi' : ¬ (1 ≤ x.Op ∧ x.Op ≤ 14) := fun h => hi (inB_iff.2 h)
    rw [if_neg hi] at hw
    subst hw
    rw [if_neg (by simp), if_neg (fun h => hi' h.1)]
theorem impl_behind_eq (x : GIns) (n m : Nat) (row : List Bool) (hx : wordB n m x = true) (hr : row.length = n) (hn : n ≤ 1048576) : impl_behind x row = some (behB x row) := by
  unfold impl_behind
  rw [app_nil (by omega) (by omega)]
  simp only [Option.bind_some, bindS_def]
  rw [beh_case x n m row hx hr _ (fun h13 => by
    obtain ⟨_, _, _, _, h5⟩ := wordB_facts hx
    obtain ⟨h6, h7⟩ := h5 h13
    exact clr_loop x n h6 h7 (impl_behind_l1 x) (fun r k hk hrl => by
      obtain ⟨a0, a1⟩ := h6 _ (List.getElem_mem hk)
      simp only [impl_behind_l1, ofNat_lt_true hk, if_true, getI_at hk, Option.bind_some, getI_in a0 (show x.Args[k] < (r.length : Int) by rw [hrl]; exact a1), bindS_def, w64_nat hk (by omega)]) (fun r => by simp [impl_behind_l1]) row hr)]
  simp only [Option.bind_some, impl_Writes_eq]
  exact beh_write x n m hx (fun w o => (getI o w).bind fun e39 => some (List.set o w.toNat true)) (fun o ho a0 a1 => by rw [getI_in a0 (by rw [ho]; exact a1)]; rfl) (behA x row) ((behA_len x row).trans hr) _ rfl
theorem spec_behind_eq (x : GIns) (n m : Nat) (row : List Bool) (hx : wordB n m x = true) (hr : row.length = n) (hn : n ≤ 1048576) : spec_l14Behind x row = some (behB x row) := by
  unfold spec_l14Behind
  rw [app_nil (by omega) (by omega)]
  simp only [Option.bind_some, bindS_def]
  rw [beh_case x n m row hx hr _ (fun h13 => by
    obtain ⟨_, _, _, _, h5⟩ := wordB_facts hx
    obtain ⟨h6, h7⟩ := h5 h13
    exact clr_loop x n h6 h7 (spec_l14Behind_l1 x) (fun r k hk hrl => by
      obtain ⟨a0, a1⟩ := h6 _ (List.getElem_mem hk)
      simp only [spec_l14Behind_l1, ofNat_lt_true hk, if_true, getI_at hk, Option.bind_some, getI_in a0 (show x.Args[k] < (r.length : Int) by rw [hrl]; exact a1), bindS_def, w64_nat hk (by omega)]) (fun r => by simp [spec_l14Behind_l1]) row hr)]
  simp only [Option.bind_some, spec_Writes_eq]
  exact beh_write x n m hx (fun w o => (getI o w).bind fun e39 => some (List.set o w.toNat true)) (fun o ho a0 a1 => by rw [getI_in a0 (by rw [ho]; exact a1)]; rfl) (behA x row) ((behA_len x row).trans hr) _ rfl
/-! reached, the last first -/
theorem spec_l14Reached_eq (c : GCode) (hc : codeB c = true) : spec_l14Reached c = some (reachC c) := by
  unfold spec_l14Reached
  obtain ⟨_, _, _, ⟨hw1, hw2⟩, _⟩ := codeB_facts hc
  have hm : c.Words.length ≤ 1048576 := by omega
  rw [mkI_len _ _ _ (by omega) (by omega)]
  have h0 : getI (List.replicate c.Words.length false) 0 = some false := by
    rw [getI_zero, List.getElem?_replicate, if_pos (by omega)]
  simp only [Option.bind_some, h0, bindS_def]
  obtain ⟨t', g1, g2, g3⟩ := wl_loop (spec_l14Reached_l1 c) (fun t => t) (fun _ => True) c.Words.length 0 (nextI c) (fun t => t.1) (nextI_ok c) (fun t _ hI hne => by
    obtain ⟨o, t⟩ := t
    have hne' : t ≠ [] := hne
    have hpos : 0 < t.length := List.length_pos_iff.2 hne'
    have hlt : t.length - 1 < t.length := by omega
    have hcnt := hI.cnt
    have hlen := hI.len
    have hcw := List.count_le_length (a := true) (l := o)
    simp only at hcnt hlen
    have hmem : t[t.length - 1] ∈ t := List.getElem_mem hlt
    have heb := hI.bnd t[t.length - 1] hmem
    have hei : ((t[t.length - 1].toNat : Nat) : Int) = t[t.length - 1] := by omega
    have hw : IntKind.wrap .i64 ((t.length : Int) - 1) = ((t.length - 1 : Nat) : Int) := by rw [w64 (by omega) (by omega)]; omega
    have hsub : subI t 0 ((t.length - 1 : Nat) : Int) = some (t.take (t.length - 1)) := by
      unfold subI
      rw [if_pos ⟨by omega, by omega, by omega⟩]
      simp
    have hnx := spec_Next_eq c hm t[t.length - 1].toNat (by omega)
    rw [hei] at hnx
    have hsb : ∀ m ∈ nextS c t[t.length - 1].toNat, 0 ≤ m ∧ m < c.Words.length := fun m hmm => nextI_bnd (mem_nextS.1 hmm)
    refine ⟨(nextS c t[t.length - 1].toNat).foldl vis (o, t.take (t.length - 1)), t[t.length - 1], t.take (t.length - 1), nextS c t[t.length - 1].toNat, ?_, trivial, hmem, fun x hx => ?_, fun x hx => List.mem_of_mem_take hx, by simp only [List.length_take]; omega, fun m => mem_nextS, rfl⟩
    · simp only [spec_l14Reached_l1]
      have hp : decide ((t.length : Int) > 0) = true := by simp only [decide_eq_true_eq]; omega
      simp only [hp, if_true, hw, getI_at hlt, Option.bind_some, hsub, hnx]
      have hkl : (nextS c t[t.length - 1].toNat).length ≤ 1048576 := by
        have key : ∀ (q s : List Int), (q.foldl addL s).length ≤ s.length + q.length := by
          intro q
          induction q with
          | nil => intro s; simp
          | cons x q ih => intro s; rw [List.foldl_cons]; have := ih (addL s x); have := addL_len s x; simp only [List.length_cons]; omega
        have h1 := key (nextI c t[t.length - 1].toNat) []
        have h2 : (nextI c t[t.length - 1].toNat).length ≤ 1000 := by
          unfold nextI
          split
          · refine Nat.le_trans (List.length_filter_le _ _) ?_
            unfold rawNext; split <;> (try split) <;> (try split) <;> simp
          · simp
        unfold nextS
        simp only [List.length_nil] at h1
        omega
      exact vis_loop (nextS c t[t.length - 1].toNat) c.Words.length (by omega) hsb (spec_l14Reached_l2 (nextS c t[t.length - 1].toNat)) (fun s => .inl s) (fun o w k hk ho ht => by
        have hb := hsb _ (List.getElem_mem hk)
        simp only [spec_l14Reached_l2, ofNat_lt_true hk, if_true, getI_at hk, Option.bind_some, vis_get hb.1 (show (nextS c t[t.length - 1].toNat)[k] < (o.length : Int) by rw [ho]; exact hb.2), bindS_def, w64_nat hk hkl, app1 (n := 8) (show w.length ≤ 1048576 by omega) (by omega)]
        rw [vis_eq (show ((nextS c t[t.length - 1].toNat)[k]).toNat < o.length by omega)]
        cases o[((nextS c t[t.length - 1].toNat)[k]).toNat] <;> rfl) (fun o w => by simp [spec_l14Reached_l2]) o _ hI.len (by simp only [List.length_take]; omega)
    · have hx' : x ∈ t := hx
      obtain ⟨j, hj, rfl⟩ := List.mem_iff_getElem.1 hx'
      by_cases e : j = t.length - 1
      · subst e; exact .inl rfl
      · right
        have hj2 : j < t.length - 1 := by omega
        have : (t.take (t.length - 1))[j]'(by simp only [List.length_take]; omega) = t[j] := by simp
        rw [← this]
        exact List.getElem_mem _) (fun t _ he => by
    obtain ⟨o, t⟩ := t
    have he' : t = [] := he
    subst he'
    simp [spec_l14Reached_l1]) ((List.replicate c.Words.length false).set 0 true, [0]) trivial (winv_start (by omega))
  rw [g1]
  simp only [Option.bind_some]
  rw [g3]; rfl
end Go.OM
set_option linter.unusedVariables false
set_option linter.unusedSimpArgs false
namespace Go.OM
/-! ### HasAt -/
def andU (beh : List Bool) : Nat → Bool → Bool := fun k b => b && beh.getD k false
def stepT (beh : List Bool) (s : Tab × Bool) (n : Int) : Tab × Bool := match s.1[n.toNat]? with
  | some row => (s.1.set n.toNat (row.mapIdx (andU beh)), s.2 || decide (row.mapIdx (andU beh) ≠ row))
  | none => s
/-- What a step does to a table: it stays one, its flags go down, and when it says so they do. -/
structure Dn (W L : Nat) (s s' : Tab × Bool) : Prop where
  ok : TabOk W L s'.1
  le : cntT s'.1 ≤ cntT s.1
  lt : s'.2 = true → s.2 = true ∨ cntT s'.1 < cntT s.1
  keep : s.2 = true → s'.2 = true
theorem Dn.refl {W L : Nat} {s : Tab × Bool} (h : TabOk W L s.1) : Dn W L s s := ⟨h, Nat.le_refl _, .inl, id⟩
theorem Dn.trans {W L : Nat} {s s' s2 : Tab × Bool} (h : Dn W L s s') (h2 : Dn W L s' s2) : Dn W L s s2 :=
  ⟨h2.ok, Nat.le_trans h2.le h.le, fun e => by
    rcases h2.lt e with e | e
    · rcases h.lt e with e | e
      · exact .inl e
      · exact .inr (Nat.lt_of_le_of_lt h2.le e)
    · exact .inr (Nat.lt_of_lt_of_le e h.le), fun e => h2.keep (h.keep e)⟩
theorem stepT_dn {W L : Nat} {s : Tab × Bool} (h : TabOk W L s.1) (beh : List Bool) (n : Int) : Dn W L s (stepT beh s n) := by
  unfold stepT
  split
  · rename_i row hr
    have hrl := h.row row (List.mem_of_getElem? hr)
    have hd := cntR_down row (andU beh) (fun k => rfl)
    have hs := cntT_set (r := row.mapIdx (andU beh)) hr
    refine ⟨h.set _ (by simpa using hrl), by simp only; omega, fun e => ?_, fun e => by simp [e]⟩
    simp only [Bool.or_eq_true, decide_eq_true_eq] at e
    rcases e with e | e
    · exact .inl e
    · right
      have := hd.2 e
      simp only; omega
  · exact .refl h
theorem foldT_dn {W L : Nat} (beh : List Bool) : ∀ (l : List Int) {s : Tab × Bool}, TabOk W L s.1 → Dn W L s (l.foldl (stepT beh) s)
  | [], s, h => .refl h
  | n :: l, s, h => by
    rw [List.foldl_cons]
    have h1 := stepT_dn h beh n
    exact h1.trans (foldT_dn beh l h1.ok)
theorem stepT_idem (beh : List Bool) (s : Tab × Bool) (n : Int) : stepT beh (stepT beh s n) n = stepT beh s n := by
  unfold stepT
  cases h : s.1[n.toNat]? with
  | none => simp only [h]
  | some row =>
    have hlt := (List.getElem?_eq_some_iff.1 h).1
    have e : (row.mapIdx (andU beh)).mapIdx (andU beh) = row.mapIdx (andU beh) := by
      apply List.ext_getElem?
      intro j
      simp only [List.getElem?_mapIdx]
      cases row[j]? with
      | none => rfl
      | some b => simp [andU]
    simp only [List.getElem?_set, hlt, if_true]
    rw [e]
    simp
theorem nextS_cases (c : GCode) (i : Nat) : nextS c i = nextI c i ∨ ∃ a, nextI c i = [a, a] ∧ nextS c i = [a] := by
  unfold nextS
  have hl : (nextI c i).length ≤ 2 := by
    unfold nextI
    split
    · refine Nat.le_trans (List.length_filter_le _ _) ?_
      unfold rawNext; split <;> (try split) <;> (try split) <;> simp
    · simp
  match h : nextI c i, hl with
  | [], _ => exact .inl rfl
  | [a], _ => left; simp [addL]
  | [a, b], _ =>
    by_cases e : a = b
    · subst e
      exact .inr ⟨a, rfl, by simp [addL]⟩
    · left
      have : ¬ b = a := fun h => e h.symm
      simp [addL, this]
  | _ :: _ :: _ :: _, hq => simp only [List.length_cons] at hq; omega
theorem fold_nextS (c : GCode) (i : Nat) (beh : List Bool) (s : Tab × Bool) : (nextS c i).foldl (stepT beh) s = (nextI c i).foldl (stepT beh) s := by
  rcases nextS_cases c i with h | ⟨a, h1, h2⟩
  · rw [h]
  · rw [h1, h2]
    simp only [List.foldl_cons, List.foldl_nil, stepT_idem]
def sweepStep (c : GCode) (reach : List Bool) (s : Tab × Bool) (i : Nat) : Tab × Bool := if reach[i]? = some true then match c.Words[i]?, s.1[i]? with
  | some x, some row => (nextI c i).foldl (stepT (behB x row)) s
  | _, _ => s
  else s
def sweep (c : GCode) (reach : List Bool) (t : Tab) : Tab × Bool := (List.range c.Words.length).foldl (sweepStep c reach) (t, false)
theorem sweepStep_dn {c : GCode} {reach : List Bool} {W L : Nat} {s : Tab × Bool} (h : TabOk W L s.1) (i : Nat) : Dn W L s (sweepStep c reach s i) := by
  unfold sweepStep
  split
  · split
    · exact foldT_dn _ _ h
    · exact .refl h
  · exact .refl h
theorem sweepF_dn {c : GCode} {reach : List Bool} {W L : Nat} : ∀ (l : List Nat) {s : Tab × Bool}, TabOk W L s.1 → Dn W L s (l.foldl (sweepStep c reach) s)
  | [], s, h => .refl h
  | n :: l, s, h => by
    rw [List.foldl_cons]
    have h1 := sweepStep_dn (c := c) (reach := reach) h n
    exact h1.trans (sweepF_dn l h1.ok)
/-- Rows of words that are not reached stay. -/
theorem stepT_keep {s : Tab × Bool} (beh : List Bool) {n : Int} {j : Nat} (h : n.toNat ≠ j) : (stepT beh s n).1[j]? = s.1[j]? := by
  unfold stepT
  split
  · simp only [List.getElem?_set_ne h]
  · rfl
theorem foldT_keep (beh : List Bool) {j : Nat} : ∀ (l : List Int) {s : Tab × Bool}, (∀ n ∈ l, n.toNat ≠ j) → (l.foldl (stepT beh) s).1[j]? = s.1[j]?
  | [], s, h => rfl
  | n :: l, s, h => by
    rw [List.foldl_cons, foldT_keep beh l (fun m hm => h m (by simp [hm])), stepT_keep beh (h n (by simp))]
theorem reachC_get {c : GCode} {n : Nat} (h : n < c.Words.length) : (reachC c)[n]? = some true ↔ Reach (nextI c) 0 n := by
  unfold reachC reachL
  rw [List.getElem?_map, List.getElem?_range h]
  simp
theorem reachC_len (c : GCode) : (reachC c).length = c.Words.length := by simp [reachC, reachL]
theorem sweepStep_keep {c : GCode} {s : Tab × Bool} (i j : Nat) (hj : j < c.Words.length) (hr : ¬ (reachC c)[j]? = some true) : (sweepStep c (reachC c) s i).1[j]? = s.1[j]? := by
  unfold sweepStep
  split
  · rename_i hi
    have hil : i < c.Words.length := by
      have := (List.getElem?_eq_some_iff.1 hi).1
      rwa [reachC_len] at this
    have hri := (reachC_get hil).1 hi
    split
    · refine foldT_keep _ _ (fun n hn e => hr ?_)
      rw [reachC_get hj, ← e]
      exact .step hri hn
    · rfl
  · rfl
theorem sweepF_keep {c : GCode} (j : Nat) (hj : j < c.Words.length) (hr : ¬ (reachC c)[j]? = some true) : ∀ (l : List Nat) {s : Tab × Bool}, (l.foldl (sweepStep c (reachC c)) s).1[j]? = s.1[j]?
  | [], s => rfl
  | n :: l, s => by rw [List.foldl_cons, sweepF_keep j hj hr l, sweepStep_keep n j hj hr]
/-! the loops -/
theorem getI_set_self {t : Tab} {n : Nat} {r : List Bool} (h : n < t.length) : getI (t.set n r) (n : Int) = some r := getI_set h
theorem impl_step (L : Nat) (hL : L ≤ 1048576) (beh : List Bool) (hb : beh.length = L) {W : Nat} (out : Tab) (h : TabOk W L out) (n : Int) (h0 : 0 ≤ n) (h1 : n < W) (more : Bool) :
    loopP (impl_HasAt_l5 beh n) (out, more, 0) = some (stepT beh (out, more) n) := by
  have hn : n.toNat < out.length := by rw [h.len]; omega
  have hne : ((n.toNat : Nat) : Int) = n := by omega
  have hrow : out[n.toNat]? = some out[n.toNat] := List.getElem?_eq_getElem hn
  have hl := h.row _ (List.getElem_mem hn)
  rw [rowU_loop out n.toNat L hn _ hrow hl (andU beh) (impl_HasAt_l5 beh n) (fun o m => (o, m)) (fun r m k hk hr => by
    have hkb : k < beh.length := by omega
    have hg : getI (out.set n.toNat r) n = some r := by
      have := getI_set_self (r := r) hn
      rwa [hne] at this
    simp only [impl_HasAt_l5, ofNat_lt_true hkb, if_true, getI_at hkb, getI_at hk, hg, Option.bind_some, bindS_def, Int.toNat_natCast, w64_nat hkb (by omega), List.set_set]
    have hu : andU beh k r[k] = (r[k] && beh[k]) := by simp [andU, List.getD_eq_getElem?_getD, List.getElem?_eq_getElem hkb]
    rw [hu]
    cases hbk : beh[k] <;> cases hrk : r[k] <;> simp) (fun r m hr => by simp [impl_HasAt_l5, hb]) more]
  unfold stepT
  simp only [hrow]
theorem spec_step (c : GCode) (hL : c.Locals.length ≤ 1048576) (beh : List Bool) (hb : beh.length = c.Locals.length) {W : Nat} (out : Tab) (h : TabOk W c.Locals.length out) (nl : List Int) (q : Nat) (hq : q < nl.length) (h0 : 0 ≤ nl[q]) (h1 : nl[q] < W) (more : Bool) :
    loopP (spec_l14Has_l5 c beh nl q) (out, more, 0) = some (stepT beh (out, more) nl[q]) := by
  have hn : nl[q].toNat < out.length := by rw [h.len]; omega
  have hne : ((nl[q].toNat : Nat) : Int) = nl[q] := by omega
  have hrow : out[nl[q].toNat]? = some out[nl[q].toNat] := List.getElem?_eq_getElem hn
  have hl := h.row _ (List.getElem_mem hn)
  rw [rowU_loop out nl[q].toNat c.Locals.length hn _ hrow hl (andU beh) (spec_l14Has_l5 c beh nl q) (fun o m => (o, m)) (fun r m k hk hr => by
    have hkb : k < beh.length := by omega
    have hkc : k < c.Locals.length := by omega
    have hg : getI (out.set nl[q].toNat r) nl[q] = some r := by
      have := getI_set_self (r := r) hn
      rwa [hne] at this
    simp only [spec_l14Has_l5, ofNat_lt_true hkc, if_true, getI_at hkb, getI_at hk, getI_at hq, hg, Option.bind_some, bindS_def, Int.toNat_natCast, w64_nat hkc (by omega), List.set_set]
    have hu : andU beh k r[k] = (r[k] && beh[k]) := by simp [andU, List.getD_eq_getElem?_getD, List.getElem?_eq_getElem hkb]
    rw [hu]
    cases hbk : beh[k] <;> cases hrk : r[k] <;> simp) (fun r m hr => by simp [spec_l14Has_l5]) more]
  unfold stepT
  simp only [hrow]
theorem nextI_len (c : GCode) (i : Nat) : (nextI c i).length ≤ 2 := by
  unfold nextI
  split
  · refine Nat.le_trans (List.length_filter_le _ _) ?_
    unfold rawNext; split <;> (try split) <;> (try split) <;> simp
  · simp
theorem nextS_len (c : GCode) (i : Nat) : (nextS c i).length ≤ 2 := by
  rcases nextS_cases c i with h | ⟨a, h1, h2⟩
  · rw [h]; exact nextI_len c i
  · rw [h2]; simp
theorem impl_targets (W L : Nat) (hL : L ≤ 1048576) (beh : List Bool) (hb : beh.length = L) (nl : List Int) (hnl : nl.length ≤ 2) (hnb : ∀ n ∈ nl, 0 ≤ n ∧ n < W) (s : Tab × Bool) (h : TabOk W L s.1) :
    loopP (impl_HasAt_l4 beh nl) (s.1, s.2, 0) = some (nl.foldl (stepT beh) s) := by
  have := loopP_fold nl (fun (s : Tab × Bool) k => (s.1, s.2, (k : Int))) (fun k s => TabOk W L s.1) (fun s n => .inl (stepT beh s n)) id (impl_HasAt_l4 beh nl) (fun s k hk hI => by
    left
    obtain ⟨b0, b1⟩ := hnb _ (List.getElem_mem hk)
    refine ⟨_, rfl, ?_, (stepT_dn hI beh _).ok⟩
    simp only [impl_HasAt_l4, ofNat_lt_true hk, if_true, getI_at hk, Option.bind_some]
    rw [impl_step L hL beh hb s.1 hI nl[k] b0 b1 s.2]
    simp only [Option.bind_some, w64_nat hk (by omega)]) (fun s _ => by simp [impl_HasAt_l4]) s h
  rw [foldE_inl] at this
  exact this
theorem spec_targets (c : GCode) (W : Nat) (hL : c.Locals.length ≤ 1048576) (beh : List Bool) (hb : beh.length = c.Locals.length) (nl : List Int) (hnl : nl.length ≤ 2) (hnb : ∀ n ∈ nl, 0 ≤ n ∧ n < W) (s : Tab × Bool) (h : TabOk W c.Locals.length s.1) :
    loopP (spec_l14Has_l4 c beh nl) (s.1, s.2, 0) = some (nl.foldl (stepT beh) s) := by
  have := loopP_fold nl (fun (s : Tab × Bool) k => (s.1, s.2, (k : Int))) (fun k s => TabOk W c.Locals.length s.1) (fun s n => .inl (stepT beh s n)) id (spec_l14Has_l4 c beh nl) (fun s k hk hI => by
    left
    obtain ⟨b0, b1⟩ := hnb _ (List.getElem_mem hk)
    refine ⟨_, rfl, ?_, (stepT_dn hI beh _).ok⟩
    simp only [spec_l14Has_l4, ofNat_lt_true hk, if_true, Option.bind_some]
    rw [spec_step c hL beh hb s.1 hI nl k hk b0 b1 s.2]
    simp only [Option.bind_some, w64_nat hk (by omega)]) (fun s _ => by simp [spec_l14Has_l4]) s h
  rw [foldE_inl] at this
  exact this
theorem impl_sweep (c : GCode) (hc : codeB c = true) (t : Tab) (h : TabOk c.Words.length c.Locals.length t) : loopP (impl_HasAt_l3 c (reachC c)) (t, false, 0) = some (.inl (sweep c (reachC c) t)) := by
  obtain ⟨_, hl, _, ⟨hw1, hw2⟩, _, _, hwd⟩ := codeB_facts hc
  have := loopP_fold (List.range c.Words.length) (fun (s : Tab × Bool) k => (s.1, s.2, (k : Int))) (fun k s => TabOk c.Words.length c.Locals.length s.1) (fun s i => .inl (sweepStep c (reachC c) s i)) (fun s => (Sum.inl s : (Tab × Bool) ⊕ Tab)) (impl_HasAt_l3 c (reachC c)) (fun s k hk hI => by
    left
    have hk' : k < c.Words.length := by simpa using hk
    have hkr : k < (reachC c).length := by rw [reachC_len]; exact hk'
    have hkt : k < s.1.length := by rw [hI.len]; exact hk'
    refine ⟨_, rfl, ?_, (sweepStep_dn hI _).ok⟩
    simp only [impl_HasAt_l3, ofNat_lt_true hk', if_true, getI_at hk', getI_at hkr, getI_at hkt, Option.bind_some, List.getElem_range]
    have e : (if (!(reachC c)[k]) = true then some (s.1, s.2) else (impl_behind c.Words[k] s.1[k]).bind fun r54 => (impl_Next c k).bind fun r56 => loopP (impl_HasAt_l4 r54 r56) (s.1, s.2, 0)) = some (sweepStep c (reachC c) s k) := by
      unfold sweepStep
      rw [List.getElem?_eq_getElem hkr, List.getElem?_eq_getElem hk', List.getElem?_eq_getElem hkt]
      cases hrk : (reachC c)[k]
      · simp
      · have hrl := hI.row _ (List.getElem_mem hkt)
        rw [impl_behind_eq c.Words[k] _ _ s.1[k] (hwd _ (List.getElem_mem hk')) hrl (by omega), impl_Next_eq c (by omega) k hk']
        simp only [Option.bind_some, Bool.not_true, Bool.false_eq_true, if_false, if_true]
        exact impl_targets c.Words.length c.Locals.length (by omega) _ ((behB_len _ _).trans hrl) _ (nextI_len c k) (nextI_ok c k hk') s hI
    rw [e]
    simp only [Option.bind_some, w64_nat hk' (by omega)]) (fun s _ => by simp [impl_HasAt_l3]) (t, false) h
  rw [foldE_inl] at this
  exact this
theorem spec_sweep (c : GCode) (hc : codeB c = true) (t : Tab) (h : TabOk c.Words.length c.Locals.length t) : loopP (spec_l14Has_l3 c (reachC c)) (t, false, 0) = some (sweep c (reachC c) t) := by
  obtain ⟨_, hl, _, ⟨hw1, hw2⟩, _, _, hwd⟩ := codeB_facts hc
  have := loopP_fold (List.range c.Words.length) (fun (s : Tab × Bool) k => (s.1, s.2, (k : Int))) (fun k s => TabOk c.Words.length c.Locals.length s.1) (fun s i => .inl (sweepStep c (reachC c) s i)) (fun s => s) (spec_l14Has_l3 c (reachC c)) (fun s k hk hI => by
    left
    have hk' : k < c.Words.length := by simpa using hk
    have hkr : k < (reachC c).length := by rw [reachC_len]; exact hk'
    have hkt : k < s.1.length := by rw [hI.len]; exact hk'
    refine ⟨_, rfl, ?_, (sweepStep_dn hI _).ok⟩
    simp only [spec_l14Has_l3, ofNat_lt_true hk', if_true, getI_at hk', getI_at hkr, getI_at hkt, Option.bind_some, List.getElem_range]
    have e : (if (!(reachC c)[k]) = true then some (s.1, s.2) else (spec_l14Behind c.Words[k] s.1[k]).bind fun r54 => (spec_Next c k).bind fun r56 => loopP (spec_l14Has_l4 c r54 r56) (s.1, s.2, 0)) = some (sweepStep c (reachC c) s k) := by
      unfold sweepStep
      rw [List.getElem?_eq_getElem hkr, List.getElem?_eq_getElem hk', List.getElem?_eq_getElem hkt]
      cases hrk : (reachC c)[k]
      · simp
      · have hrl := hI.row _ (List.getElem_mem hkt)
        rw [spec_behind_eq c.Words[k] _ _ s.1[k] (hwd _ (List.getElem_mem hk')) hrl (by omega), spec_Next_eq c (by omega) k hk']
        simp only [Option.bind_some, Bool.not_true, Bool.false_eq_true, if_false, if_true]
        rw [← fold_nextS]
        exact spec_targets c c.Words.length (by omega) _ ((behB_len _ _).trans hrl) _ (nextS_len c k) (fun n hn => nextI_ok c k hk' n (mem_nextS.1 hn)) s hI
    rw [e]
    simp only [Option.bind_some, w64_nat hk' (by omega)]) (fun s _ => by simp [spec_l14Has_l3]) (t, false) h
  rw [foldE_inl] at this
  exact this
/-- The table ahead of all. -/
def hasStart (c : GCode) : Tab := (List.replicate c.Words.length (List.replicate c.Locals.length true)).set 0 ((List.range c.Locals.length).map fun l : Nat => decide ((l : Int) < c.Params))
theorem hasStart_ok (c : GCode) : TabOk c.Words.length c.Locals.length (hasStart c) := (tab_rep _ _ _).set 0 (by simp)
theorem set0_get {t : Tab} {r : List Bool} (h : 0 < t.length) : getI (t.set 0 r) 0 = some r := by
  rw [getI_zero]; simp [h]
theorem impl_start (c : GCode) (hc : codeB c = true) : loopP (impl_HasAt_l1 c) (List.replicate c.Words.length (List.replicate c.Locals.length true), 0) = some (hasStart c) := by
  obtain ⟨_, hl, _, ⟨hw1, hw2⟩, _⟩ := codeB_facts hc
  have hT : 0 < (List.replicate c.Words.length (List.replicate c.Locals.length true)).length := by simp; omega
  obtain ⟨r, h1, h2⟩ := loopP_run (f := impl_HasAt_l1 c) (fun s : Tab × Int => ∃ (k : Nat) (r : List Bool), s.2 = k ∧ k ≤ c.Locals.length ∧ r.length = c.Locals.length ∧ s.1 = (List.replicate c.Words.length (List.replicate c.Locals.length true)).set 0 r ∧ ∀ j, j < k → r[j]? = some (decide ((j : Int) < c.Params))) (fun s => c.Locals.length - s.2.toNat) (fun x => x = hasStart c) (by
    rintro ⟨o, i⟩ ⟨k, r, rfl, hk, hr, ho, hrj⟩
    simp only at ho hk
    subst ho
    by_cases hlt : k < c.Locals.length
    · left
      have hkr : k < r.length := by omega
      refine ⟨((List.replicate c.Words.length (List.replicate c.Locals.length true)).set 0 (r.set k (decide ((k : Int) < c.Params))), ((k + 1 : Nat) : Int)), ?_, ⟨k + 1, r.set k (decide ((k : Int) < c.Params)), rfl, by omega, by simpa using hr, rfl, fun j hj => ?_⟩, by simp only [Int.toNat_natCast]; omega⟩
      · simp only [impl_HasAt_l1, ofNat_lt_true hlt, if_true, set0_get hT, getI_at hkr, Option.bind_some, bindS_def, Int.toNat_natCast, w64_nat hlt (by omega), List.set_set]
      · rw [List.getElem?_set]
        by_cases e : k = j
        · subst e; rw [if_pos rfl, if_pos hkr]
        · rw [if_neg e]; exact hrj j (by omega)
    · right
      have hkL : k = c.Locals.length := by omega
      refine ⟨_, by simp only [impl_HasAt_l1]; rw [if_neg (by simp; omega)], ?_⟩
      unfold hasStart
      congr 1
      apply List.ext_getElem?
      intro j
      by_cases hj : j < k
      · rw [hrj j hj, List.getElem?_map, List.getElem?_range (by omega)]; rfl
      · rw [List.getElem?_eq_none (by omega), List.getElem?_eq_none (by simp; omega)]) (List.replicate c.Words.length (List.replicate c.Locals.length true), 0) ⟨0, List.replicate c.Locals.length true, rfl, by omega, by simp, by
      apply List.ext_getElem?
      intro j
      rw [List.getElem?_set]
      by_cases e : 0 = j
      · subst e; rw [if_pos rfl, if_pos hT, List.getElem?_replicate, if_pos (by omega)]
      · rw [if_neg e], fun j h => by omega⟩
  rw [h1, h2]
theorem spec_start (c : GCode) (hc : codeB c = true) : loopP (spec_l14Has_l1 c) (List.replicate c.Words.length (List.replicate c.Locals.length true), c.Params) = some (hasStart c) := by
  obtain ⟨_, hl, ⟨hp0, hp1⟩, ⟨hw1, hw2⟩, _⟩ := codeB_facts hc
  have hT : 0 < (List.replicate c.Words.length (List.replicate c.Locals.length true)).length := by simp; omega
  obtain ⟨r, h1, h2⟩ := loopP_run (f := spec_l14Has_l1 c) (fun s : Tab × Int => ∃ (k : Nat) (r : List Bool), s.2 = k ∧ k ≤ c.Locals.length ∧ c.Params ≤ k ∧ r.length = c.Locals.length ∧ s.1 = (List.replicate c.Words.length (List.replicate c.Locals.length true)).set 0 r ∧ ∀ j, j < c.Locals.length → r[j]? = some (decide ((j : Int) < c.Params ∨ k ≤ j))) (fun s => c.Locals.length - s.2.toNat) (fun x => x = hasStart c) (by
    rintro ⟨o, i⟩ ⟨k, r, rfl, hk, hkp, hr, ho, hrj⟩
    simp only at ho hk hkp
    subst ho
    by_cases hlt : k < c.Locals.length
    · left
      have hkr : k < r.length := by omega
      refine ⟨((List.replicate c.Words.length (List.replicate c.Locals.length true)).set 0 (r.set k false), ((k + 1 : Nat) : Int)), ?_, ⟨k + 1, r.set k false, rfl, by omega, by omega, by simpa using hr, rfl, fun j hj => ?_⟩, by simp only [Int.toNat_natCast]; omega⟩
      · simp only [spec_l14Has_l1, ofNat_lt_true hlt, if_true, set0_get hT, getI_at hkr, Option.bind_some, bindS_def, Int.toNat_natCast, w64_nat hlt (by omega), List.set_set]
      · rw [List.getElem?_set]
        by_cases e : k = j
        · subst e
          rw [if_pos rfl, if_pos hkr]
          have : ¬ ((k : Int) < c.Params ∨ k + 1 ≤ k) := by omega
          simp [this]
        · rw [if_neg e, hrj j hj]
          congr 1
          apply decide_eq_decide.2
          omega
    · right
      have hkL : k = c.Locals.length := by omega
      refine ⟨_, by simp only [spec_l14Has_l1]; rw [if_neg (by simp; omega)], ?_⟩
      unfold hasStart
      congr 1
      apply List.ext_getElem?
      intro j
      by_cases hj : j < c.Locals.length
      · rw [hrj j hj, List.getElem?_map, List.getElem?_range (by omega)]
        simp only [Option.map_some, Option.some.injEq]
        apply decide_eq_decide.2
        omega
      · rw [List.getElem?_eq_none (by omega), List.getElem?_eq_none (by simp; omega)]) (List.replicate c.Words.length (List.replicate c.Locals.length true), c.Params) ⟨c.Params.toNat, List.replicate c.Locals.length true, by simp only; omega, by omega, by omega, by simp, by
      apply List.ext_getElem?
      intro j
      rw [List.getElem?_set]
      by_cases e : 0 = j
      · subst e; rw [if_pos rfl, if_pos hT, List.getElem?_replicate, if_pos (by omega)]
      · rw [if_neg e], fun j h => by
      rw [List.getElem?_replicate, if_pos h]
      rw [decide_eq_true (show ((j : Int) < c.Params ∨ c.Params.toNat ≤ j) by omega)]⟩
  rw [h1, h2]
/-- **The table that both come to.** -/
theorem has_main (c : GCode) (h : GCode.le 1048576 c) (hc : codeB c = true) : ∃ T : Tab, loopP (impl_HasAt_l2 c (reachC c)) (hasStart c, true) = some T ∧ loopP (spec_l14Has_l2 c (reachC c)) (hasStart c, true, 0) = some T ∧ TabOk c.Words.length c.Locals.length T ∧
    ∀ j, j < c.Words.length → ¬ (reachC c)[j]? = some true → T[j]? = some (List.replicate c.Locals.length true) := by
  obtain ⟨_, hl, _, ⟨hw1, hw2⟩, _⟩ := codeB_facts hc
  have hWL : c.Words.length * c.Locals.length ≤ 400 * 200 := Nat.mul_le_mul hw2 hl
  obtain ⟨T, T', h1, h2, h3, h4, h5⟩ := loopP_sim (f := impl_HasAt_l2 c (reachC c)) (g := spec_l14Has_l2 c (reachC c)) (fun (a : Tab × Bool) (b : Tab × Bool × Int) => ∃ r : Nat, b = (a.1, a.2, (r : Int)) ∧ TabOk c.Words.length c.Locals.length a.1 ∧ cntT a.1 + r ≤ c.Words.length * c.Locals.length + (if a.2 = true then 0 else 1) ∧ ∀ j, j < c.Words.length → ¬ (reachC c)[j]? = some true → a.1[j]? = some (List.replicate c.Locals.length true))
    (fun a => 2 * cntT a.1 + if a.2 = true then 1 else 0) (fun r r' => r = r' ∧ TabOk c.Words.length c.Locals.length r ∧ ∀ j, j < c.Words.length → ¬ (reachC c)[j]? = some true → r[j]? = some (List.replicate c.Locals.length true)) (by
    rintro ⟨t, m⟩ b ⟨r, rfl, hok, hcr, hk⟩
    simp only at hok hcr hk ⊢
    cases m with
    | false =>
      right
      exact ⟨t, t, by simp [impl_HasAt_l2], by simp [spec_l14Has_l2], rfl, hok, hk⟩
    | true =>
      left
      have D : Dn c.Words.length c.Locals.length (t, false) (sweep c (reachC c) t) := sweepF_dn _ hok
      have d1 := D.le
      have d2 := D.lt
      simp only [Bool.false_eq_true, false_or] at d1 d2
      refine ⟨((sweep c (reachC c) t).1, (sweep c (reachC c) t).2), ((sweep c (reachC c) t).1, (sweep c (reachC c) t).2, ((r + 1 : Nat) : Int)), ?_, ?_, ⟨r + 1, rfl, D.ok, ?_, fun j hj hr => ?_⟩, ?_⟩
      · simp only [impl_HasAt_l2, if_true]
        rw [impl_sweep c hc t hok]
      · simp only [spec_l14Has_l2, if_true]
        have hb : IntKind.wrap .i64 ((IntKind.wrap .i64 ((c.Words.length : Int) * (c.Locals.length : Int))) + 1) = ((c.Words.length * c.Locals.length + 1 : Nat) : Int) := by
          rw [← Int.natCast_mul, w64 (n := ((c.Words.length * c.Locals.length : Nat) : Int)) (by omega) (by omega), w64 (by omega) (by omega)]; omega
        rw [hb]
        have hle : decide ((r : Int) ≤ ((c.Words.length * c.Locals.length + 1 : Nat) : Int)) = true := by
          simp only [decide_eq_true_eq]
          simp only [if_true] at hcr
          omega
        simp only [Option.bind_some, hle, if_true]
        rw [spec_sweep c hc t hok]
        simp only [Option.bind_some]
        rw [w64 (by omega) (by simp only [if_true] at hcr; omega)]
        rfl
      · simp only [if_true] at hcr
        cases hf : (sweep c (reachC c) t).2 with
        | true =>
          have := d2 hf
          simp only [if_true]; omega
        | false => simp only [Bool.false_eq_true, if_false]; omega
      · exact (sweepF_keep j hj hr _).trans (hk j hj hr)
      · cases hf : (sweep c (reachC c) t).2 with
        | true =>
          have := d2 hf
          simp only [if_true]; omega
        | false => simp only [Bool.false_eq_true, if_false, if_true]; omega) (hasStart c, true) (hasStart c, true, 0) ⟨0, rfl, hasStart_ok c, by have := cntT_le (hasStart_ok c); simp only [if_true]; omega, fun j hj hr => by
      unfold hasStart
      have h0 : j ≠ 0 := by
        rintro rfl
        exact hr ((reachC_get hj).2 .base)
      rw [List.getElem?_set_ne (by omega), List.getElem?_replicate, if_pos hj]⟩
  subst h3
  exact ⟨T, h1, h2, h4, h5⟩
theorem hasAt_main (c : GCode) (h : GCode.le 1048576 c) (hc : codeB c = true) : ∃ T : Tab, impl_HasAt c = some T ∧ spec_l14Has c (reachC c) = some T ∧ TabOk c.Words.length c.Locals.length T ∧
    ∀ j, j < c.Words.length → ¬ (reachC c)[j]? = some true → T[j]? = some (List.replicate c.Locals.length true) := by
  obtain ⟨T, h1, h2, h3, h4⟩ := has_main c h hc
  obtain ⟨_, hl, _, ⟨hw1, hw2⟩, _⟩ := codeB_facts hc
  refine ⟨T, ?_, ?_, h3, h4⟩
  · unfold impl_HasAt
    rw [impl_CodeOk_eq c h, impl_table_eq _ _ (by omega) (by omega)]
    simp only [Option.bind_some, hc, Bool.not_true, Bool.false_eq_true, if_false]
    rw [impl_start c hc, impl_ReachedWords_eq c h, if_pos hc]
    simp only [Option.bind_some]
    rw [h1]
    rfl
  · unfold spec_l14Has
    rw [spec_table_eq _ _ (by omega) (by omega)]
    simp only [Option.bind_some]
    rw [spec_start c hc]
    simp only [Option.bind_some]
    rw [h2]
    rfl
theorem law_HasAt (c : GCode) (hw : GCode.le maxLen c) : laws_FnExactHasAt c = some true := by
  unfold laws_FnExactHasAt
  obtain ⟨r, h1, h2, h3⟩ := laws_szCode_p c hw 1048576 (by omega) (by omega)
  rw [h1]
  simp only [Option.bind_some]
  by_cases hr : r < 0
  · simp [hr]
  · have hp := h3 (by omega)
    have hv : ∃ v : Tab, spec_HasAt c = some v ∧ impl_HasAt c = some v ∧ (v.length ≤ 1048576 ∧ ∀ x ∈ v, x.length ≤ 1048576) := by
      by_cases hc : codeB c = true
      · obtain ⟨T, t1, t2, t3, _⟩ := hasAt_main c hp hc
        refine ⟨T, ?_, t1, by rw [t3.len]; exact hp.2.2.1, fun x hx => by rw [t3.row x hx]; exact hp.2.1⟩
        unfold spec_HasAt
        rw [spec_CodeOk_eq c hp]
        simp only [Option.bind_some, hc, Bool.not_true, Bool.false_eq_true, if_false, spec_l14Reached_eq c hc, t2]
      · refine ⟨[], ?_, ?_, by simp⟩
        · unfold spec_HasAt
          rw [spec_CodeOk_eq c hp]
          simp [Bool.eq_false_iff.2 hc]
        · unfold impl_HasAt
          rw [impl_CodeOk_eq c hp]
          simp [Bool.eq_false_iff.2 hc]
    obtain ⟨v, hv1, hv2, hok⟩ := hv
    obtain ⟨k1, c1, m1, m2, m3⟩ := laws_markCode_p c hp 1 (by omega) (by omega)
    obtain ⟨k2, v2, n1, n2, n3, n4⟩ := laws_markBoolSS_p v hok 1 (by omega) (by omega)
    simp [hr, laws_toCode_p c hp, hv1, hv2, laws_eqBoolSS_p v v hok hok, laws_eqCode_p c c hp hp, m1, n1, n4, show ¬ k1 < 0 by omega, show ¬ k2 < 0 by omega]
end Go.OM
set_option linter.unusedVariables false
set_option linter.unusedSimpArgs false
namespace Go.OM
/-! ### What words read; Moves -/
def rawReads (x : GIns) : List Int := if (2 ≤ x.Op ∧ x.Op ≤ 7) ∨ x.Op = 9 ∨ x.Op = 14 then [x.B] else if 10 ≤ x.Op ∧ x.Op ≤ 12 then [x.B, x.C] else if x.Op = 13 then x.Args else if x.Op = 15 then [x.A, x.B] else if x.Op = 16 ∨ x.Op = 19 ∨ (x.Op = 20 ∧ x.A ≠ -1) then [x.A] else []
def readsL (x : GIns) : List Int := (rawReads x).foldl addL []
theorem hasInt_eq (l : List Int) (n : Int) (hl : l.length ≤ 1048576) : impl_hasInt l n = some (l.contains n) := by
  unfold impl_hasInt
  rw [loopP_any l (fun e => e == n) (impl_hasInt_l1 l n) (fun k hk => by
    simp only [impl_hasInt_l1, ofNat_lt_true hk, if_true, getI_at hk, Option.bind_some, w64_nat hk hl]
    cases l[k] == n <;> rfl) (by simp [impl_hasInt_l1])]
  have : (l.any fun e => e == n) = l.contains n := by
    induction l with
    | nil => rfl
    | cons x l ih =>
      rw [List.any_cons, List.contains_cons, ih (by simp at hl; omega)]
      congr 1
      rw [Bool.eq_iff_iff, beq_iff_eq, beq_iff_eq]
      exact eq_comm
  rw [this]
  cases l.contains n <;> rfl
theorem foldAdd_len (q : List Int) : ∀ (s : List Int), (q.foldl addL s).length ≤ s.length + q.length := by
  induction q with
  | nil => intro s; simp
  | cons x q ih => intro s; rw [List.foldl_cons]; have := ih (addL s x); have := addL_len s x; simp only [List.length_cons]; omega
theorem reads_loop {ρ : Type} (l : List Int) (hl : l.length ≤ 1000000) (f : List Int × Int → Option ((List Int × Int) ⊕ ρ)) (fin : List Int → ρ)
    (hf : ∀ (s : List Int) (k : Nat) (hk : k < l.length), s.length ≤ k → f (s, k) = some (.inl (addL s l[k], ((k + 1 : Nat) : Int)))) (he : ∀ s, f (s, l.length) = some (.inr (fin s))) : loopP f ([], 0) = some (fin (l.foldl addL [])) := by
  have := loopP_fold l (fun (s : List Int) k => (s, (k : Int))) (fun k s => s.length ≤ k) (fun s e => .inl (addL s e)) fin f (fun s k hk hI => .inl ⟨_, rfl, hf s k hk hI, by have := addL_len s l[k]; omega⟩) (fun s _ => he s) [] (by simp)
  rw [foldE_inl] at this
  exact this
theorem rawReads_len (x : GIns) (hx : x.Args.length ≤ 1000) : (rawReads x).length ≤ 1000 := by
  unfold rawReads
  split
  · simp
  · split
    · simp
    · split
      · exact hx
      · split
        · simp
        · split <;> simp
theorem impl_Reads_eq (x : GIns) (hx : x.Args.length ≤ 1000) : impl_Reads x = some (readsL x) := by
  unfold impl_Reads
  have e : (Option.bind (
      (impl_in x.Op 2 7).bind fun r7 =>
      if r7 = true then
        some true
      else
        if (x.Op == 9) = true then
          some true
        else
          some (x.Op == 14)) fun v13 =>
    if v13 = true then
      some [x.B]
    else
      (impl_in x.Op 10 12).bind fun r16 =>
      if r16 = true then
        some [x.B, x.C]
      else
        if (x.Op == 13) = true then
          some x.Args
        else
          if (x.Op == 15) = true then
            some [x.A, x.B]
          else
            Option.bind (
              if (x.Op == 16) = true then
                some true
              else
                if (x.Op == 19) = true then
                  some true
                else
                  if (x.Op == 20) = true then
                    some (x.A != (-1))
                  else
                    some false) fun v32 =>
            if v32 = true then
              some [x.A]
            else
              some []) = some (rawReads x) := by
    simp only [impl_in_eq, Option.bind_some, ite_some]
    congr 1
    unfold rawReads
    by_cases h1 : (2 ≤ x.Op ∧ x.Op ≤ 7) ∨ x.Op = 9 ∨ x.Op = 14
    · rw [if_pos h1, if_pos]
      rcases h1 with h | h | h
      · rw [if_pos (inB_iff.2 h)]
      · simp [h]
      · simp [h]
    · rw [if_neg h1, if_neg]
      · by_cases h2 : 10 ≤ x.Op ∧ x.Op ≤ 12
        · rw [if_pos h2, if_pos (inB_iff.2 h2)]
        · rw [if_neg h2, if_neg (fun h => h2 (inB_iff.1 h))]
          by_cases h3 : x.Op = 13
          · simp [h3]
          · by_cases h4 : x.Op = 15
            · simp [h4]
            · by_cases h5 : x.Op = 16
              · simp [h5]
              · by_cases h6 : x.Op = 19
                · simp [h6]
                · by_cases h7 : x.Op = 20
                  · simp [h7]
                  · simp [h3, h4, h5, h6, h7]
      · rw [not_or, not_or] at h1
        rw [if_neg (fun h => h1.1 (inB_iff.1 h)), if_neg (by simpa using h1.2.1)]
        simpa using h1.2.2
  rw [e]
  simp only [Option.bind_some]
  rw [reads_loop (rawReads x) (by have := rawReads_len x hx; omega) (impl_Reads_l1 (rawReads x)) id (fun s k hk hs => by
    have hl := rawReads_len x hx
    simp only [impl_Reads_l1, ofNat_lt_true hk, if_true, getI_at hk, Option.bind_some, hasInt_eq s _ (by omega), app1g (n := 8) (show s.length ≤ 1048576 by omega) (by omega), w64_nat hk (by omega)]
    unfold addL
    cases s.contains (rawReads x)[k] <;> rfl) (fun s => by simp [impl_Reads_l1])]
  rfl
theorem spec_Reads_eq (x : GIns) (hx : x.Args.length ≤ 1000) : spec_Reads x = some (readsL x) := by
  unfold spec_Reads readsL
  have hn : ([] : List Int).length ≤ 1048576 := by simp
  have hn1 : ∀ a, (addL [] a).length ≤ 1048576 := fun a => by have := addL_len [] a; simp at this; omega
  have hl13 : x.Op = 13 → loopP (spec_Reads_l1 x) ([], 0) = some (x.Args.foldl addL []) := fun _ => reads_loop x.Args (by omega) (spec_Reads_l1 x) id (fun s k hk hs => by
    simp only [spec_Reads_l1, ofNat_lt_true hk, if_true, getI_at hk, Option.bind_some, spec_l11Add_eq s _ (by omega), w64_nat hk (by omega)]) (fun s => by simp [spec_Reads_l1])
  simp only [spec_l11Add_eq _ _ hn, spec_l11HasB_eq, spec_l11HasC_eq, Option.bind_some, spec_l11Add_eq _ _ (hn1 _)]
  unfold rawReads
  by_cases h15 : x.Op = 15
  · simp [h15]
  by_cases h16 : x.Op = 16
  · simp [h16]
  by_cases h19 : x.Op = 19
  · simp [h19]
  by_cases h20 : x.Op = 20
  · by_cases ha : x.A = -1
    · simp [h20, ha]
    · simp [h20, ha]
  by_cases h13 : x.Op = 13
  · rw [hl13 h13]; simp [h13]
  have e1 : (x.Op == 15) = false := by simpa using h15
  have e2 : (x.Op == 16) = false := by simpa using h16
  have e3 : (x.Op == 19) = false := by simpa using h19
  have e4 : (x.Op == 20) = false := by simpa using h20
  have e5 : (x.Op == 13) = false := by simpa using h13
  simp only [e1, e2, e3, e4, e5, Bool.false_eq_true, if_false, Option.bind_some, h15, h16, h19, h20, h13, false_or, false_and]
  by_cases hb : (2 ≤ x.Op ∧ x.Op ≤ 7) ∨ x.Op = 9 ∨ x.Op = 14
  · have hB : hasBB x.Op = true := by
      unfold hasBB
      simp only [Bool.or_eq_true, inB_iff, beq_iff_eq]; omega
    have hC : hasCB x.Op = false := by unfold hasCB; rw [inB_false]; omega
    rw [if_pos hb, hB, hC]; simp
  · rw [if_neg hb]
    by_cases hc : 10 ≤ x.Op ∧ x.Op ≤ 12
    · have hB : hasBB x.Op = true := by
        unfold hasBB
        simp only [Bool.or_eq_true, inB_iff, beq_iff_eq]; omega
      have hC : hasCB x.Op = true := by unfold hasCB; rw [inB_iff]; omega
      rw [if_pos hc, hB, hC]; simp
    · have hB : hasBB x.Op = false := by
        rw [Bool.eq_false_iff]
        unfold hasBB
        simp only [Bool.or_eq_true, inB_iff, beq_iff_eq, ne_eq]; omega
      rw [if_neg hc, hB]; simp
theorem reads_bnd {n m : Nat} {x : GIns} (h : wordB n m x = true) : ∀ e ∈ readsL x, 0 ≤ e ∧ e < n := by
  intro e he
  unfold readsL at he
  rw [mem_foldl_addL] at he
  rcases he with he | he
  · cases he
  obtain ⟨h0, hB, hC, hA, h13⟩ := wordB_facts h
  unfold rawReads at he
  split at he
  · simp only [List.mem_singleton] at he; subst he; exact hB (by omega)
  · split at he
    · simp only [List.mem_cons, List.mem_nil_iff, or_false] at he
      rcases he with rfl | rfl
      · exact hB (by omega)
      · exact hC (by omega)
    · split at he
      · rename_i h; exact (h13 h).1 e he
      · split at he
        · rename_i h
          simp only [List.mem_cons, List.mem_nil_iff, or_false] at he
          rcases he with rfl | rfl
          · rcases hA (by omega) with ⟨h5, _⟩ | h5
            · omega
            · exact h5
          · exact hB (by omega)
        · split at he
          · rename_i h
            simp only [List.mem_singleton] at he
            subst he
            rcases hA (by omega) with ⟨h5, h6⟩ | h5
            · omega
            · exact h5
          · cases he
theorem word_args {n m : Nat} {x : GIns} (h : wordB n m x = true) : x.Args.length ≤ 1000 := by
  unfold wordB restB at h
  simp only [Bool.and_eq_true] at h
  have h6 := h.2.2.2.2.2
  split at h6
  · simp only [Bool.and_eq_true, beq_iff_eq] at h6; omega
  · simp only [Bool.and_eq_true, decide_eq_true_eq] at h6; omega
def badAt (row : List Bool) (l : List Int) : Bool := l.any fun e => !(row.getD e.toNat true)
theorem find_range {ρ : Type} (n : Nat) (q : Nat → Option ρ) (f : Int → Option (Int ⊕ (Unit ⊕ ρ)))
    (hf : ∀ (k : Nat), k < n → f k = some (match q k with | none => .inl ((k + 1 : Nat) : Int) | some r => .inr (.inr r)))
    (he : f n = some (.inr (.inl ()))) : loopP f 0 = some (match (List.range n).findSome? q with | some r => .inr r | none => .inl ()) :=
  loopP_find (List.range n) q f (fun k hk => by
    have hk' : k < n := by simpa using hk
    rw [hf k hk', List.getElem_range]
    cases q k <;> rfl) (by rw [List.length_range]; exact he)
theorem bad_find {ρ : Type} (row : List Bool) (l : List Int) (r : ρ) : l.findSome? (fun e => if (!(row.getD e.toNat true)) = true then some r else none) = if badAt row l = true then some r else none := by
  unfold badAt
  induction l with
  | nil => rfl
  | cons x l ih =>
    rw [List.findSome?_cons, List.any_cons]
    cases hp : row.getD x.toNat true
    · simp
    · simp only [Bool.not_true, Bool.false_eq_true, if_false, Bool.false_or]
      exact ih
def movesQ (c : GCode) (T : Tab) (i : Nat) : Option Int := match c.Words[i]?, T[i]? with
  | some x, some row => if badAt row (readsL x) = true then some (i : Int) else none
  | _, _ => none
def movesB (c : GCode) (T : Tab) : Int := ((List.range c.Words.length).findSome? (movesQ c T)).getD (-1)
theorem getI_in' {l : List Bool} {v : Int} (h0 : 0 ≤ v) (h : v < l.length) : getI l v = some (l.getD v.toNat true) := by
  rw [getI_in h0 h, List.getD_eq_getElem?_getD, List.getElem?_eq_getElem (by omega)]; rfl
theorem impl_Moves_eq (c : GCode) (h : GCode.le 1048576 c) (hc : codeB c = true) (T : Tab) (hT : impl_HasAt c = some T) (hok : TabOk c.Words.length c.Locals.length T) : impl_Moves c = some (movesB c T) := by
  obtain ⟨_, hl, _, ⟨hw1, hw2⟩, _, _, hwd⟩ := codeB_facts hc
  unfold impl_Moves
  rw [hT]
  simp only [Option.bind_some]
  rw [find_range c.Words.length (movesQ c T) (impl_Moves_l1 c T) (fun k hk => by
    have hkt : k < T.length := by rw [hok.len]; exact hk
    have hwk := hwd _ (List.getElem_mem hk)
    have hrl := hok.row _ (List.getElem_mem hkt)
    have hrb := reads_bnd hwk
    simp only [impl_Moves_l1, hok.len, ofNat_lt_true hk, if_true, getI_at hk, Option.bind_some, impl_Reads_eq _ (word_args hwk)]
    have hlen : (readsL c.Words[k]).length ≤ 1048576 := by
      have := foldAdd_len (rawReads c.Words[k]) []
      have := rawReads_len c.Words[k] (word_args hwk)
      unfold readsL; simp at *; omega
    rw [loopP_find (readsL c.Words[k]) (fun e => if (!(T[k].getD e.toNat true)) = true then some (Sum.inr (Sum.inr (k : Int)) : Int ⊕ (Unit ⊕ Int)) else none) (impl_Moves_l2 T k (readsL c.Words[k])) (fun q hq => by
      obtain ⟨b0, b1⟩ := hrb _ (List.getElem_mem hq)
      simp only [impl_Moves_l2, ofNat_lt_true hq, if_true, getI_at hq, getI_at hkt, Option.bind_some, getI_in' b0 (show (readsL c.Words[k])[q] < (T[k].length : Int) by rw [hrl]; exact b1), w64_nat hq hlen]
      cases T[k].getD (readsL c.Words[k])[q].toNat true <;> rfl) (by simp [impl_Moves_l2]), bad_find]
    unfold movesQ
    rw [List.getElem?_eq_getElem hk, List.getElem?_eq_getElem hkt]
    simp only
    cases badAt T[k] (readsL c.Words[k])
    · simp only [Bool.false_eq_true, if_false, Option.bind_some, w64_nat hk (show c.Words.length ≤ 1048576 by omega)]
    · simp only [if_true, Option.bind_some]) (by simp only [impl_Moves_l1, hok.len]; simp)]
  unfold movesB
  cases (List.range c.Words.length).findSome? (movesQ c T) <;> rfl
theorem spec_Moves_eq (c : GCode) (h : GCode.le 1048576 c) (hc : codeB c = true) (T : Tab) (hT : spec_l14Has c (reachC c) = some T) (hok : TabOk c.Words.length c.Locals.length T)
    (hk : ∀ j, j < c.Words.length → ¬ (reachC c)[j]? = some true → T[j]? = some (List.replicate c.Locals.length true)) : spec_Moves c = some (movesB c T) := by
  obtain ⟨_, hl, _, ⟨hw1, hw2⟩, _, _, hwd⟩ := codeB_facts hc
  unfold spec_Moves
  rw [spec_CodeOk_eq c h]
  simp only [Option.bind_some, hc, Bool.not_true, Bool.false_eq_true, if_false, spec_l14Reached_eq c hc, hT]
  rw [find_range c.Words.length (movesQ c T) (spec_Moves_l1 c (reachC c) T) (fun k hkw => by
    have hkt : k < T.length := by rw [hok.len]; exact hkw
    have hkr : k < (reachC c).length := by rw [reachC_len]; exact hkw
    have hwk := hwd _ (List.getElem_mem hkw)
    have hrl := hok.row _ (List.getElem_mem hkt)
    have hrb := reads_bnd hwk
    simp only [spec_Moves_l1, ofNat_lt_true hkw, if_true, getI_at hkw, Option.bind_some, spec_Reads_eq _ (word_args hwk)]
    have hlen : (readsL c.Words[k]).length ≤ 1048576 := by
      have := foldAdd_len (rawReads c.Words[k]) []
      have := rawReads_len c.Words[k] (word_args hwk)
      unfold readsL; simp at *; omega
    have hin : loopP (spec_Moves_l2 (reachC c) T k (readsL c.Words[k])) 0 = some (match (if badAt T[k] (readsL c.Words[k]) = true then some (Sum.inr (Sum.inr (k : Int)) : Int ⊕ (Unit ⊕ Int)) else none) with | some r => .inr r | none => .inl ()) := by
      cases hrk : (reachC c)[k] with
      | true =>
        rw [loopP_find (readsL c.Words[k]) (fun e => if (!(T[k].getD e.toNat true)) = true then some (Sum.inr (Sum.inr (k : Int)) : Int ⊕ (Unit ⊕ Int)) else none) (spec_Moves_l2 (reachC c) T k (readsL c.Words[k])) (fun q hq => by
          obtain ⟨b0, b1⟩ := hrb _ (List.getElem_mem hq)
          simp only [spec_Moves_l2, ofNat_lt_true hq, if_true, getI_at hq, getI_at hkt, getI_at hkr, hrk, Option.bind_some, getI_in' b0 (show (readsL c.Words[k])[q] < (T[k].length : Int) by rw [hrl]; exact b1), w64_nat hq hlen]
          cases T[k].getD (readsL c.Words[k])[q].toNat true <;> rfl) (by simp [spec_Moves_l2]), bad_find]
        cases badAt T[k] (readsL c.Words[k]) <;> rfl
      | false =>
        have hrow := hk k hkw (by rw [List.getElem?_eq_getElem hkr, hrk]; simp)
        rw [List.getElem?_eq_getElem hkt] at hrow
        have hrow' := Option.some.inj hrow
        have hb : badAt T[k] (readsL c.Words[k]) = false := by
          unfold badAt
          rw [List.any_eq_false]
          intro e he
          rw [hrow', List.getD_eq_getElem?_getD, List.getElem?_replicate]
          split <;> simp
        rw [hb]
        apply loopP_inr
        simp only [spec_Moves_l2, getI_at hkr, hrk, Option.bind_some]
        split <;> simp
    rw [hin]
    unfold movesQ
    rw [List.getElem?_eq_getElem hkw, List.getElem?_eq_getElem hkt]
    simp only
    cases badAt T[k] (readsL c.Words[k])
    · simp only [Bool.false_eq_true, if_false, Option.bind_some, w64_nat hkw (show c.Words.length ≤ 1048576 by omega)]
    · simp only [if_true, Option.bind_some]) (by simp [spec_Moves_l1])]
  unfold movesB
  cases (List.range c.Words.length).findSome? (movesQ c T) <;> rfl
theorem law_Moves (c : GCode) (hw : GCode.le maxLen c) : laws_FnExactMoves c = some true := by
  unfold laws_FnExactMoves
  obtain ⟨r, h1, h2, h3⟩ := laws_szCode_p c hw 1048576 (by omega) (by omega)
  rw [h1]
  simp only [Option.bind_some]
  by_cases hr : r < 0
  · simp [hr]
  · have hp := h3 (by omega)
    have hv : ∃ v : Int, spec_Moves c = some v ∧ impl_Moves c = some v := by
      by_cases hc : codeB c = true
      · obtain ⟨T, t1, t2, t3, t4⟩ := hasAt_main c hp hc
        exact ⟨_, spec_Moves_eq c hp hc T t2 t3 t4, impl_Moves_eq c hp hc T t1 t3⟩
      · refine ⟨-1, ?_, ?_⟩
        · unfold spec_Moves
          rw [spec_CodeOk_eq c hp]
          simp [Bool.eq_false_iff.2 hc]
        · unfold impl_Moves impl_HasAt
          rw [impl_CodeOk_eq c hp]
          simp only [Option.bind_some, Bool.eq_false_iff.2 hc, Bool.not_false, if_true]
          rw [loopP_inr (r := .inl ()) (by simp [impl_Moves_l1])]
          rfl
    obtain ⟨v, hv1, hv2⟩ := hv
    simp [hr, laws_toCode_p c hp, hv1, hv2, laws_eqCode_p c c hp hp]
end Go.OM
