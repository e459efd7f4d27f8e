import Derived.Test.YtchcogjfmbfccaaOm4
set_option linter.unusedVariables false
namespace Go.OM

/-! ### Cells at a place take the place of others that look alike -/
namespace TA
theorem swap_place {Z : Nat → Prop} {h : Array Obj} : ∀ (p : Path) (cs : List TA) (o k : Nat) (old new : List TA), getP cs o p k = some old → new.length = k → vals new = vals old →
    HoldsL Z h cs → (∀ c ∈ cs, c.isCell = true) → HoldsL Z h new → (∀ c ∈ new, c.isCell = true) →
    HoldsL Z h (setP cs o p new) ∧ (∀ c ∈ setP cs o p new, c.isCell = true) ∧ (setP cs o p new).length = cs.length ∧ vals (setP cs o p new) = vals cs ∧
    (∀ q, cntL q (setP cs o p new) + cntL q old = cntL q cs + cntL q new)
  | [], cs, o, k, old, new, hg, hk, hv, hH, hC, hN, hNC => by
    simp only [getP] at hg
    split at hg
    case isFalse => cases hg
    rename_i hle
    injection hg with hg
    have hsplit := take_drop_split hle
    have hmem : ∀ c ∈ cs.take o ++ new ++ cs.drop (o + new.length), c ∈ cs ∨ c ∈ new := by
      intro c hc
      simp only [List.mem_append] at hc
      rcases hc with (hc | hc) | hc
      · exact .inl (List.mem_of_mem_take hc)
      · exact .inr hc
      · exact .inl (List.mem_of_mem_drop hc)
    refine ⟨?_, ?_, ?_, ?_, ?_⟩
    · simp only [setP]
      rw [holdsL_iff] at hH hN ⊢
      intro c hc
      exact (hmem c hc).elim (hH c) (hN c)
    · intro c hc
      exact (hmem c hc).elim (hC c) (hNC c)
    · simp only [setP, List.length_append, List.length_take, List.length_drop]; omega
    · simp only [setP, hk, vals_append, hv]
      subst hg
      conv => rhs; rw [hsplit]
      simp only [vals_append]
    · intro q
      subst hg
      simp only [setP, hk]
      conv => rhs; rw [hsplit]
      simp only [cntL_append]
      omega
  | (i, o') :: p, cs, o, k, old, new, hg, hk, hv, hH, hC, hN, hNC => by
    simp only [getP] at hg
    split at hg
    case h_2 => cases hg
    rename_i s b1 off1 cap es hcs
    split at hg
    case h_2 => cases hg
    rename_i e he
    have hsl := holdsL_get hH hcs
    simp only [Holds] at hsl
    obtain ⟨hm, hle, _, hHes, hsz⟩ := hsl
    have heH := holdsL_get hHes he
    obtain ⟨r1, r2, r3, r4, r5⟩ := swap_place p _ _ _ _ _ hg hk hv (holds_cells heH) (isCell_mem_cells heH) hN hNC
    have hset : (setP cs o ((i, o') :: p) new) = cs.set o (.sl true s b1 off1 cap (es.set i (e.withCells (setP e.cells o' p new)))) := by simp only [setP, hcs, he]
    have hcells : (e.withCells (setP e.cells o' p new)).cells = setP e.cells o' p new := cells_withCells r3 r2
    have hlt : i < es.length := (List.getElem?_eq_some_iff.1 he).1
    have hsz1 : e.cells.length = s := hsz e (List.mem_of_getElem? he)
    have hsz' : ∀ x ∈ es.set i (e.withCells (setP e.cells o' p new)), x.cells.length = s := by
      intro x hx
      rcases List.mem_or_eq_of_mem_set hx with hx | hx
      · exact hsz x hx
      · rw [hx, hcells, r3, hsz1]
    have hflat : vals ((es.set i (e.withCells (setP e.cells o' p new))).flatMap cells) = vals (es.flatMap cells) := by
      have key : ∀ (l : List TA) (i : Nat) (e e' : TA), l[i]? = some e → vals e'.cells = vals e.cells → vals ((l.set i e').flatMap cells) = vals (l.flatMap cells) := by
        intro l
        induction l with
        | nil => intro i e e' h; simp at h
        | cons t ts ih =>
          intro i e e' h hvv
          cases i with
          | zero => simp only [List.getElem?_cons_zero, Option.some.injEq] at h; subst h; simp [vals_append, hvv]
          | succ i => simp only [List.getElem?_cons_succ] at h; simp [vals_append, ih i e e' h hvv]
      exact key es i e _ he (by rw [hcells, r4])
    have holt : o < cs.length := (List.getElem?_eq_some_iff.1 hcs).1
    rw [hset]
    refine ⟨?_, ?_, by simp, ?_, ?_⟩
    · rw [holdsL_iff]
      intro x hx
      rcases List.mem_or_eq_of_mem_set hx with hx | hx
      · exact holdsL_iff.1 hH x hx
      · rw [hx]
        simp only [Holds]
        refine ⟨by rw [hflat]; exact hm, by rw [List.length_set]; exact hle, (fun hh => nomatch hh), ?_, hsz'⟩
        rw [holdsL_iff]
        intro y hy
        rcases List.mem_or_eq_of_mem_set hy with hy | hy
        · exact holdsL_iff.1 hHes y hy
        · rw [hy]; exact holds_withCells r3 r2 r1
    · intro c hc
      rcases List.mem_or_eq_of_mem_set hc with hc | hc
      · exact hC c hc
      · rw [hc]; rfl
    · simp only [vals, List.map_set]
      apply List.ext_getElem?
      intro j
      by_cases hj : j = o
      · subst hj
        rw [List.getElem?_set_self (by simpa using holt), List.getElem?_map, hcs]
        simp [val1]
      · rw [List.getElem?_set_ne (Ne.symm hj)]
    · intro q
      have h1 := r5 q
      rw [cntL_cells] at h1
      have h2 := cntL_set q (x := e.withCells (setP e.cells o' p new)) he
      rw [cnt_withCells q r3] at h2
      have h3 := cntL_set q (x := TA.sl true s b1 off1 cap (es.set i (e.withCells (setP e.cells o' p new)))) hcs
      simp only [cnt] at h3
      omega
/-- What was taken away leaves its value's shell. -/
def bury (c : TA) : TA := if c.er.hasOwn = true then .dead c.val1 else c
theorem bury_val (c : TA) : c.bury.val1 = c.val1 := by unfold bury; split <;> rfl
theorem bury_cnt (k : Nat) (c : TA) : c.bury.cnt k = 0 := by
  unfold bury
  split
  · simp [cnt]
  · rename_i h; exact cnt_of_noOwn k c (by simpa using h)
theorem oneCell_val1 {Z : Nat → Prop} {h : Array Obj} {c : TA} (hc : c.isCell = true) (hh : c.Holds Z h) : OneCell c.val1 := by
  cases c <;> simp_all [isCell, Holds, val1, OneCell]
theorem bury_holds {Z : Nat → Prop} {h : Array Obj} {c : TA} (hc : c.isCell = true) (hh : c.Holds Z h) : c.bury.Holds Z h := by
  unfold bury
  split
  · simp only [Holds]; exact oneCell_val1 hc hh
  · exact hh
theorem bury_isCell {c : TA} (hc : c.isCell = true) : c.bury.isCell = true := by
  unfold bury
  split
  · rfl
  · exact hc
end TA
def T.bury (c : T) : T := if c.hasOwn = true then .dead else c
theorem TA.er_bury (c : TA) : c.bury.er = c.er.bury := by
  unfold TA.bury T.bury
  split <;> simp [TA.er]

/-! The same over trees without addresses -/
namespace TA
theorem er_get : ∀ (p : Path) (cs : List TA) (o k : Nat) (l : List T), T.getP (erL cs) o p k = some l → ∃ l', getP cs o p k = some l' ∧ erL l' = l
  | [], cs, o, k, l, h => by
    simp only [T.getP, erL_map, List.length_map] at h
    split at h
    · rename_i hle
      injection h with h
      exact ⟨_, by simp only [getP]; rw [if_pos hle], by rw [← h, erL_map]; simp⟩
    · cases h
  | (i, o') :: p, cs, o, k, l, h => by
    simp only [T.getP, erL_map, List.getElem?_map] at h
    cases hcs : cs[o]? with
    | none => simp [hcs] at h
    | some c =>
      simp only [hcs, Option.map_some] at h
      cases c with
      | sl ow s b off cap es =>
        simp only [er] at h
        cases ow with
        | false => simp at h
        | true =>
          simp only [erL_map, List.getElem?_map] at h
          cases he : es[i]? with
          | none => simp [he] at h
          | some e =>
            simp only [he, Option.map_some] at h
            rw [er_cells] at h
            obtain ⟨l', h1, h2⟩ := er_get p _ _ _ _ h
            exact ⟨l', by simp only [getP, hcs, he]; exact h1, h2⟩
      | nl ow s A => cases ow <;> simp [er] at h
      | v x => simp [er] at h
      | agg cs => simp [er] at h
      | dead x => simp [er] at h
theorem er_withCells (e : TA) (l : List TA) : (e.withCells l).er = e.er.withCells (erL l) := by
  cases e with
  | agg cs => rfl
  | _ => cases l <;> simp [withCells, T.withCells, er, erL]
theorem er_set : ∀ (p : Path) (cs : List TA) (o : Nat) (new : List TA), erL (setP cs o p new) = T.setP (erL cs) o p (erL new)
  | [], cs, o, new => by simp [setP, T.setP, erL_map]
  | (i, o') :: p, cs, o, new => by
    simp only [setP, T.setP, erL_map, List.getElem?_map]
    cases hcs : cs[o]? with
    | none => simp
    | some c =>
      simp only [Option.map_some]
      cases c with
      | sl ow s b off cap es =>
        cases ow with
        | false => simp [er]
        | true =>
          simp only [er, erL_map, List.getElem?_map]
          cases he : es[i]? with
          | none => simp
          | some e =>
            simp only [Option.map_some, List.map_set, er, erL_map]
            congr 2
            rw [er_withCells, er_cells, er_set p]
            simp only [erL_map]
      | nl ow s A => cases ow <;> simp [er]
      | v x => simp [er]
      | agg cs => simp [er]
      | dead x => simp [er]
theorem er_len (l : List TA) : (erL l).length = l.length := by simp [erL_map]
/-- Where a place is, there is an address. -/
theorem addr_some : ∀ (p : Path) (base : Option (Nat × Nat)) (cs : List TA) (o k : Nat) (l : List TA), getP cs o p k = some l → (base = none → p ≠ []) → ∃ ad, addrP base cs o p = some ad
  | [], base, cs, o, k, l, h, hb => by
    cases base with
    | none => exact absurd rfl (hb rfl)
    | some b => exact ⟨_, rfl⟩
  | (i, o') :: p, base, cs, o, k, l, h, hb => by
    simp only [getP] at h
    split at h
    · rename_i s b off cap es hcs
      split at h
      · rename_i e he
        obtain ⟨ad, had⟩ := addr_some p (some (b, off + i * s)) _ _ _ _ h (by simp)
        exact ⟨ad, by simp only [addrP, hcs, he]; exact had⟩
      · cases h
    · cases h
theorem setP_length (new : List TA) : ∀ (p : Path) (cs : List TA) (o k : Nat) (old : List TA), getP cs o p k = some old → new.length = k → (setP cs o p new).length = cs.length := by
  intro p cs o k old hg hk
  cases p with
  | nil =>
    simp only [getP] at hg
    split at hg
    · simp only [setP, List.length_append, List.length_take, List.length_drop]; omega
    · cases hg
  | cons x p =>
    simp only [setP]
    split
    · split <;> simp
    · rfl
theorem setP_isCell (new : List TA) (hnc : ∀ c ∈ new, c.isCell = true) : ∀ (p : Path) (cs : List TA) (o : Nat), (∀ c ∈ cs, c.isCell = true) → ∀ c ∈ setP cs o p new, c.isCell = true := by
  intro p cs o hcs c hc
  cases p with
  | nil =>
    simp only [setP, List.mem_append] at hc
    rcases hc with (hc | hc) | hc
    · exact hcs c (List.mem_of_mem_take hc)
    · exact hnc c hc
    · exact hcs c (List.mem_of_mem_drop hc)
  | cons x p =>
    simp only [setP] at hc
    split at hc
    · split at hc
      · rcases List.mem_or_eq_of_mem_set hc with hc | hc
        · exact hcs c hc
        · rw [hc]; rfl
      · exact hcs c hc
    · exact hcs c hc
theorem noOwn_get : ∀ (l : List TA) (j : Nat) (t : TA), l[j]? = some t → T.hasOwnL (erL l) = false → t.er.hasOwn = false := by
  intro l
  induction l with
  | nil => intro j t hj; simp at hj
  | cons y ys ih =>
    intro j t hj hl
    simp only [erL, T.hasOwnL, Bool.or_eq_false_iff] at hl
    cases j with
    | zero => simp only [List.getElem?_cons_zero, Option.some.injEq] at hj; subst hj; exact hl.1
    | succ j => simp only [List.getElem?_cons_succ] at hj; exact ih j t hj hl.2
/-- Addresses do not turn where what owns nothing is written over what owns nothing. -/
theorem addr_keep {Z : Nat → Prop} {h : Array Obj} : ∀ (p : Path) (base : Option (Nat × Nat)) (cs : List TA) (o k : Nat) (old new : List TA) (o2 : Nat) (p2 : Path) (ad : Nat × Nat), getP cs o p k = some old → new.length = k →
    T.hasOwnL (erL old) = false → (∀ c ∈ new, c.isCell = true) → HoldsL Z h cs → addrP base cs o2 p2 = some ad → addrP base (setP cs o p new) o2 p2 = some ad
  | _, base, cs, o, k, old, new, o2, [], ad, hg, hk, hno, hnc, hcc, ha => by
    simpa [addrP] using ha
  | [], base, cs, o, k, old, new, o2, (i2, o3) :: p2, ad, hg, hk, hno, hnc, hcc, ha => by
    simp only [getP] at hg
    split at hg
    case isFalse => cases hg
    rename_i hle
    injection hg with hg
    simp only [addrP] at ha ⊢
    simp only [setP]
    rw [hk, get_splice hle hk]
    by_cases hr : o ≤ o2 ∧ o2 < o + k
    · exfalso
      split at ha
      · rename_i s b off cap es hcs
        have hin : old[o2 - o]? = some (.sl true s b off cap es) := by
          rw [← hg, List.getElem?_take, if_pos (by omega), List.getElem?_drop, show o + (o2 - o) = o2 by omega]; exact hcs
        have := noOwn_get _ _ _ hin hno
        simp [er, T.hasOwn] at this
      · cases ha
    · rw [if_neg hr]; exact ha
  | (i, o') :: p, base, cs, o, k, old, new, o2, (i2, o3) :: p2, ad, hg, hk, hno, hnc, hcc, ha => by
    simp only [getP] at hg
    split at hg
    case h_2 => cases hg
    rename_i s b1 off1 cap es hcs
    split at hg
    case h_2 => cases hg
    rename_i e he
    have hset : (setP cs o ((i, o') :: p) new) = cs.set o (.sl true s b1 off1 cap (es.set i (e.withCells (setP e.cells o' p new)))) := by simp only [setP, hcs, he]
    rw [hset]
    simp only [addrP] at ha ⊢
    have holt : o < cs.length := (List.getElem?_eq_some_iff.1 hcs).1
    by_cases ho : o2 = o
    · subst ho
      rw [List.getElem?_set_self holt]
      rw [hcs] at ha
      simp only at ha ⊢
      have hlt : i < es.length := (List.getElem?_eq_some_iff.1 he).1
      by_cases hi : i2 = i
      · subst hi
        rw [List.getElem?_set_self hlt]
        simp only [he] at ha
        simp only
        have hsl := holdsL_get hcc hcs
        simp only [Holds] at hsl
        have heH := holdsL_get hsl.2.2.2.1 he
        rw [cells_withCells (setP_length new p _ _ _ _ hg hk) (setP_isCell new hnc p _ _ (isCell_mem_cells heH))]
        exact addr_keep p _ _ _ _ _ _ _ p2 ad hg hk hno hnc (holds_cells heH) ha
      · rw [List.getElem?_set_ne (Ne.symm hi)]
        exact ha
    · rw [List.getElem?_set_ne (Ne.symm ho)]
      exact ha
end TA
end Go.OM
