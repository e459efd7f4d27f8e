import Derived.Test.YtchcogjfmbfccaaOm20
set_option linter.unusedVariables false
set_option linter.unusedSimpArgs false
namespace Go.OM
variable {C : Ctx} {Z Z' : Nat → Prop} {s : StA} {a : Act} {w w' : World} {E : Env} {o : Oper} {σ σ' : St} {K : Act → World → Prop} {Q : Exit → Act → World → Prop}

/-! ### Trees in which nothing is read only -/
mutual
def T.noRo : T → Bool
  | .v _ => true
  | .agg cs => T.noRoL cs
  | .sl o _ es => o && T.noRoL es
  | .dead => true
def T.noRoL : List T → Bool
  | [] => true
  | t :: ts => t.noRo && T.noRoL ts
end
mutual
theorem TA.Holds.noRo {h : Array Obj} : ∀ (t : TA), t.er.noRo = true → t.Holds Z h → t.Holds Z' h
  | .v x, _, hh => hh
  | .agg cs, hn, hh => by
    simp only [TA.er, T.noRo] at hn
    simp only [TA.Holds] at hh ⊢
    exact ⟨TA.HoldsL.noRo cs hn hh.1, hh.2⟩
  | .nl _ _ _, _, hh => by simpa [TA.Holds] using hh
  | .sl o s b off cap es, hn, hh => by
    simp only [TA.er, T.noRo, Bool.and_eq_true] at hn
    obtain ⟨rfl, hn⟩ := hn
    simp only [TA.Holds] at hh ⊢
    exact ⟨hh.1, hh.2.1, (fun h => nomatch h), TA.HoldsL.noRo es hn hh.2.2.2.1, hh.2.2.2.2⟩
  | .dead x, _, hh => hh
theorem TA.HoldsL.noRo {h : Array Obj} : ∀ (l : List TA), T.noRoL (TA.erL l) = true → TA.HoldsL Z h l → TA.HoldsL Z' h l
  | [], _, _ => by simp [TA.HoldsL]
  | t :: ts, hn, hh => by
    simp only [TA.erL, T.noRoL, Bool.and_eq_true] at hn
    simp only [TA.HoldsL] at hh ⊢
    exact ⟨TA.Holds.noRo t hn.1 hh.1, TA.HoldsL.noRo ts hn.2 hh.2⟩
end

/-! ### A heap of two -/
def mix (h' h : Array Obj) (bs : List Nat) : Array Obj := Array.ofFn fun i : Fin h'.size => if i.1 ∈ bs then (h[i.1]?).getD h'[i] else h'[i]
theorem mix_size (h' h : Array Obj) (bs : List Nat) : (mix h' h bs).size = h'.size := by simp [mix]
theorem mix_in {h' h : Array Obj} {bs : List Nat} (hs : h.size ≤ h'.size) {k : Nat} (hk : k ∈ bs) (hl : k < h.size) : (mix h' h bs)[k]? = h[k]? := by
  have : k < h'.size := by omega
  simp [mix, this, hk, hl]
theorem mix_out {h' h : Array Obj} {bs : List Nat} {k : Nat} (hk : k ∉ bs) : (mix h' h bs)[k]? = h'[k]? := by
  by_cases hl : k < h'.size
  · simp [mix, hl, hk]
  · simp [mix, hl]
theorem mix_wr {h' h : Array Obj} {b off n : Nat} {bs : List Nat} {vs : List Value} (hs : h.size ≤ h'.size) (ho : Outside h h' b off n) (hm : TA.Mem h' true b off n vs) (hn : vs.length = n) (hb : b ∉ bs) : wr (mix h' h (b :: bs)) b off vs = mix h' h bs := by
  obtain ⟨c, c', e, fr, q1, q2, q3, q4⟩ := ho
  obtain ⟨c2, e2, fr2, m1, m2, m3⟩ := hm
  rw [q2] at m1
  injection m1 with m1
  injection m1 with e1 e2' e3
  subst e1; subst e2'; subst e3
  have hbl : b < h.size := (Array.getElem?_eq_some_iff.1 q1).1
  apply Array.ext_getElem?
  intro k
  by_cases hk : k = b
  · subst hk
    rw [wr_self off vs ((mix_in hs (by simp) hbl).trans q1), mix_out hb, q2]
    congr 2
    apply Array.ext_getElem?
    intro j
    have hr := (m2 rfl).1
    rw [wrL_get _ _ _ _ (by omega)]
    by_cases hj : off ≤ j ∧ j < off + vs.length
    · rw [if_pos hj]
      have hlt : j - off < vs.length := by omega
      have := m3 (j - off) _ (List.getElem?_eq_getElem hlt)
      rw [show off + (j - off) = j by omega] at this
      rw [this, List.getElem?_eq_getElem hlt]
    · rw [if_neg hj]
      exact (q4 j (by omega)).symm
  · rw [wr_ne _ _ _ _ hk]
    by_cases hkb : k ∈ bs
    · by_cases hl : k < h.size
      · rw [mix_in hs (by simp [hkb]) hl, mix_in hs hkb hl]
      · by_cases hl2 : k < h'.size
        · simp [mix, hl2, hkb, hl]
        · simp [mix, hl2]
    · rw [mix_out (by simp [hk, hkb]), mix_out hkb]

/-! ### What comes back -/
def St.back : List Pl → List (List T) → St → Option St
  | [], [], σ => some σ
  | (r, o, p, k) :: ps, l :: ls, σ => if l.length = k then (σ.rootCells r).bind fun cs => St.back ps ls (σ.setRoot true r (T.setP cs o p l)) else none
  | _, _, _ => none
theorem pq_pos {qs : List (Nat × Nat × Nat)} {q : Nat × Nat × Nat} {k : Nat} (hq : q ∈ qs) (hk : q.1 = k) : 0 < (qs.map fun q => if q.1 = k then 1 else 0).sum := by
  induction qs with
  | nil => cases hq
  | cons x xs ih =>
    simp only [List.map_cons, List.sum_cons]
    rcases List.mem_cons.1 hq with rfl | h
    · rw [if_pos hk]; omega
    · have := ih h; omega
theorem back_ok {h h' : Array Obj} (hs : h.size ≤ h'.size) : ∀ (pls : List Pl) (qs : List (Nat × Nat × Nat)) (ls : List (List TA)) (s : StA) (rest : List TA) (w : World) (σ' : St), SRel C Z s a w → w.heap = mix h' h (qs.map Prod.fst) → s.hd = ls.flatten ++ rest → plsOk s pls qs → outsOk Z h' qs ls →
    (∀ k, TA.cntL k ls.flatten + (qs.map fun q => if q.1 = k then 1 else 0).sum ≤ 1) → (∀ q ∈ qs, ¬ Z q.1) → (∀ q ∈ qs, Outside h h' q.1 q.2.1 q.2.2) → St.back pls (ls.map TA.erL) s.er = some σ' →
    ∃ s', s'.er = σ' ∧ s'.hd = rest ∧ SRel C Z s' a { w with heap := h' }
  | [], [], [], s, rest, w, σ', H, hw, hhd, hp, ho, hu, hz, hout, hbk => by
    simp only [List.map_nil, St.back, Option.some.injEq] at hbk
    subst hbk
    have : w.heap = h' := by
      rw [hw]
      apply Array.ext_getElem?
      intro k
      exact mix_out (by simp)
    exact ⟨s, rfl, by simpa using hhd, by rw [← this]; exact H⟩
  | [], _ :: _, _, s, rest, w, σ', H, hw, hhd, hp, ho, hu, hz, hout, hbk => hp.elim
  | _ :: _, [], _, s, rest, w, σ', H, hw, hhd, hp, ho, hu, hz, hout, hbk => hp.elim
  | [], [], _ :: _, s, rest, w, σ', H, hw, hhd, hp, ho, hu, hz, hout, hbk => ho.elim
  | _ :: _, (b, off, n) :: qs, [], s, rest, w, σ', H, hw, hhd, hp, ho, hu, hz, hout, hbk => by simp [outsOk] at ho
  | (r, o, p, k) :: pls, (b, off, n) :: qs, l :: ls, s, rest, w, σ', H, hw, hhd, hp, ho, hu, hz, hout, hbk => by
    obtain ⟨⟨base, cs, old, g1, g2, g3, g4, g5⟩, hkn, hne, hp2⟩ := hp
    simp only at g1 g2 g4 g5 hkn
    subst hkn
    obtain ⟨o1, o2, o3, o4, o5⟩ := ho
    simp only [List.map_cons, St.back] at hbk
    rw [StA.er_rootCells, g1] at hbk
    split at hbk
    case isFalse => cases hbk
    simp only [Option.map_some, Option.bind_some] at hbk
    have hb : b ∉ qs.map Prod.fst := by
      intro hm
      obtain ⟨q, hq, hq2⟩ := List.mem_map.1 hm
      have := hu b
      simp only [List.map_cons, List.sum_cons, if_true] at this
      have h2 := pq_pos (k := b) hq hq2
      omega
    have hl : TA.HoldsL Z w.heap l := TA.HoldsL.frame l o2 (fun _ h => h) (fun j hj => by
      rw [hw]
      refine mix_out ?_
      intro hm
      obtain ⟨q, hq, hq2⟩ := List.mem_map.1 hm
      rcases hj with hj | hj
      · have := hu j
        have h2 := pq_pos (k := j) hq hq2
        simp only [List.flatten_cons, TA.cntL_append] at this
        omega
      · exact hz q hq (hq2 ▸ hj))
    have hrest : TA.HoldsL Z w.heap (ls.flatten ++ rest) := by
      have := H.hand
      rw [hhd, List.flatten_cons, List.append_assoc] at this
      exact (holdsL_append.1 this).2
    have hstep := H.storePlace (full := true) (new := l) (hd' := ls.flatten ++ rest) g1 g2 g4 o4 g5 hl o3 (fun q => by rw [hhd]; simp only [List.flatten_cons, TA.cntL_append]; omega) hrest (fun h => by cases h)
    have hw2 : wr w.heap b off (TA.vals l) = mix h' h (qs.map Prod.fst) := by
      rw [hw]
      exact mix_wr hs (hout _ (by simp)) o1 (by rw [TA.vals_length, o4]) hb
    simp only at hstep
    rw [hw2] at hstep
    have hkeep : ∀ pl ∈ pls, (s.setRoot true r (TA.setP cs o p l) (ls.flatten ++ rest)).rootCells pl.1 = s.rootCells pl.1 := by
      intro pl hpl
      refine rootCells_setRoot_ne ?_
      have := List.all_eq_true.1 hne pl hpl
      simpa using this
    rw [show T.setP (TA.erL cs) o p (TA.erL l) = TA.erL (TA.setP cs o p l) from (TA.er_set _ _ _ _).symm, ← StA.er_setRoot s true r (TA.setP cs o p l) (ls.flatten ++ rest)] at hbk
    obtain ⟨s', e1, e2, e3⟩ := back_ok hs pls qs ls _ rest _ σ' hstep rfl (hd_setRoot _ _ _ _ _) (plsOk_keep _ _ hkeep hp2) o5
      (fun j => by have := hu j; simp only [List.flatten_cons, TA.cntL_append, List.map_cons, List.sum_cons] at this; omega) (fun q hq => hz q (by simp [hq])) (fun q hq => hout q (by simp [hq])) hbk
    exact ⟨s', e1, e2, e3⟩
end Go.OM
