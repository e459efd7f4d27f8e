import Derived.Test.YtchcogjfmbfccaaOm21
set_option linter.unusedVariables false
set_option linter.unusedSimpArgs false
namespace Go.OM
variable {C : Ctx} {Z Z' : Nat → Prop} {s : StA} {a : Act} {w w' : World} {E : Env} {o : Oper} {σ σ' : St} {K : Act → World → Prop} {Q : Exit → Act → World → Prop}

theorem pcL_ptrs (k : Nat) : ∀ (as : List ArgA), pcL k as = ((ptrs as).map fun q => if q.1 = k then 1 else 0).sum
  | [] => rfl
  | .val x :: as => by simp [pcL, ArgA.pc, ptrs, pcL_ptrs k as]
  | .ptr b off cs :: as => by simp [pcL, ArgA.pc, ptrs, pcL_ptrs k as]
/-- What is handed over at a call, and the state then. -/
def St.lend (N : Nat) (ms : List (Mode × Operand)) (σ : St) : Option (List Arg × List Pl × St) :=
  (σ.lendT N ms).bind fun x => (St.lendP ms x.1 x.2).bind fun y => (y.2.2.lendB (y.2.1.map Prod.fst) ms y.1).map fun z => (z, y.2.1, y.2.2)
def retAV : List T → AV
  | [x] => .t x
  | xs => .tup xs
/-- The state behind a call. -/
def St.land (N : Nat) (dst : Option Nat) (bor : Bool) (pls : List Pl) (res : List T) (outs : List (List T)) (σ : St) : Option St :=
  if bor = true → T.noRoL res = true ∧ T.noRoL outs.flatten = true then (St.back pls outs σ).bind fun σ1 => σ1.put? N dst (retAV res) else none
theorem holds_outs {h : Array Obj} : ∀ (qs : List (Nat × Nat × Nat)) (ls : List (List TA)), outsOk Z h qs ls → TA.HoldsL Z h ls.flatten
  | [], [], _ => by simp [TA.HoldsL]
  | [], _ :: _, h => h.elim
  | (_, _, _) :: _, [], h => h.elim
  | (b, off, n) :: qs, l :: ls, h => by
    obtain ⟨h1, h2, h3, h4, h5⟩ := h
    rw [List.flatten_cons]
    exact holdsL_append.2 ⟨h2, holds_outs qs ls h5⟩
theorem outs_noRo {h : Array Obj} : ∀ (qs : List (Nat × Nat × Nat)) (ls : List (List TA)), T.noRoL (TA.erL ls.flatten) = true → outsOk Z h qs ls → outsOk Z' h qs ls
  | [], [], _, _ => trivial
  | [], _ :: _, _, h => h.elim
  | (_, _, _) :: _, [], _, h => h.elim
  | (b, off, n) :: qs, l :: ls, hn, h => by
    obtain ⟨h1, h2, h3, h4, h5⟩ := h
    rw [List.flatten_cons] at hn
    have hn2 : T.noRoL (TA.erL l) = true ∧ T.noRoL (TA.erL ls.flatten) = true := by
      have key : ∀ (x y : List TA), T.noRoL (TA.erL (x ++ y)) = true → T.noRoL (TA.erL x) = true ∧ T.noRoL (TA.erL y) = true := by
        intro x y
        induction x with
        | nil => intro h; exact ⟨rfl, h⟩
        | cons t ts ih =>
          intro h
          simp only [List.cons_append, TA.erL, T.noRoL, Bool.and_eq_true] at h ⊢
          exact ⟨⟨h.1, (ih h.2).1⟩, (ih h.2).2⟩
      exact key _ _ hn
    exact ⟨h1, TA.HoldsL.noRo l hn2.1 h2, h3, h4, outs_noRo qs ls hn2.2 h5⟩
theorem flatten_er : ∀ (ls : List (List TA)), (ls.map TA.erL).flatten = TA.erL ls.flatten
  | [] => rfl
  | l :: ls => by rw [List.map_cons, List.flatten_cons, List.flatten_cons, flatten_er ls]; simp [TA.erL_map]
theorem retV_ok {h : Array Obj} {rs : List TA} (hh : TA.HoldsL Z h rs) (s : StA) : ∃ xA : AVA, xA.er = retAV (TA.erL rs) ∧ ValOk s Z h xA (retV rs) ∧ ∀ k, xA.cnt k = TA.cntL k rs := by
  match rs, hh with
  | [], hh => exact ⟨.tup [], rfl, ⟨rfl, hh⟩, fun k => rfl⟩
  | [x], hh =>
    simp only [TA.HoldsL] at hh
    exact ⟨.t x, rfl, ⟨rfl, hh.1⟩, fun k => by simp [AVA.cnt, TA.cntL]⟩
  | x :: y :: l, hh => exact ⟨.tup (x :: y :: l), rfl, ⟨rfl, hh⟩, fun k => rfl⟩
/-- **A call.** -/
theorem call_ok {f : FuncId} {ms : List (Mode × Operand)} {args : List Arg} {res : List T} {outs : List (List T)} {pls : List Pl} {σ2 : St} {dst : Option Nat} (hok : Ok E.P f args res outs) (hl : σ.lend C.N ms = some (args, pls, σ2))
    (hb : St.land C.N dst (ms.any fun m => m.1.isBor) pls res outs σ2 = some σ') (H : SOk C σ a w) : Calls E.P f (ms.map fun m => a.eval m.2).toArray w fun e w' => ∃ v, e = .returned v ∧ SOk C σ' (a.put dst v) w' := by
  obtain ⟨s0, Z, h1, h2, h3⟩ := H
  subst h1
  unfold St.lend at hl
  obtain ⟨⟨as1, σ1⟩, hlT, hl⟩ := Option.bind_eq_some_iff.1 hl
  obtain ⟨⟨as2, pls', σ2'⟩, hlP, hl⟩ := Option.bind_eq_some_iff.1 hl
  obtain ⟨as3, hlB, hl⟩ := Option.map_eq_some_iff.1 hl
  simp only [Prod.mk.injEq] at hl
  obtain ⟨rfl, rfl, rfl⟩ := hl
  simp only at hlB hlP
  obtain ⟨s1, asA, t1, t2, t3, t4, t5, t6, t7⟩ := lendT_ok ms s0 _ _ h3 hlT
  subst t2; subst t1
  obtain ⟨s2, asB, p1, p2, p3, p4, p5, p6, p7⟩ := lendP_ok ms asA s1 _ _ _ t3 t6 t7 t5 hlP
  subst p2; subst p1
  obtain ⟨as, b1, b2, b3, b4, b5, b6, b7⟩ := lendB_ok p3 p7 ms asB _ p6 p5 hlB
  subst b1
  rw [← b6] at p7 b3
  have hhd : ∀ k, TA.cntL k s2.hd = innL k as := by
    intro k
    have e1 := p4 k
    have e2 := t4 k
    have e3 := b4 k
    rw [h2] at e2
    simp only [TA.cntL] at e2
    omega
  -- the parts that are lent
  have hpl : ∀ q ∈ ptrs as, 0 < s2.own q.1 := by
    intro q hq
    obtain ⟨pl, hpl, g, _⟩ := plsOk_mem _ _ p7 q hq
    exact Nat.lt_of_lt_of_le (plOk_rc g) (rc_le _ _ _)
  have hpc1 : ∀ k, pcL k as ≤ s2.own k := by
    intro k
    have key : ∀ (pls : List Pl) (qs : List (Nat × Nat × Nat)), plsOk s2 pls qs → ((qs.map fun q => if q.1 = k then 1 else 0).sum = 0) ∨ ((qs.map fun q => if q.1 = k then 1 else 0).sum = 1 ∧ ∃ pl ∈ pls, 0 < s2.rc pl.1 k) := by
      intro pls
      induction pls with
      | nil =>
        intro qs hp
        cases qs with
        | nil => left; rfl
        | cons q qs => exact hp.elim
      | cons pl pls ih =>
        intro qs hp
        cases qs with
        | nil => exact hp.elim
        | cons q qs =>
          obtain ⟨b, off, n⟩ := q
          obtain ⟨g1, g2, g3, g4⟩ := hp
          have hrc := plOk_rc g1
          simp only at hrc
          simp only [List.map_cons, List.sum_cons]
          rcases ih qs g4 with h | ⟨h, pl2, hp2, hrc2⟩
          · by_cases e : b = k
            · right
              rw [if_pos e, h]
              exact ⟨rfl, pl, by simp, e ▸ hrc⟩
            · left; rw [if_neg e, h]
          · by_cases e : b = k
            · exfalso
              subst e
              have hne : pl.1 ≠ pl2.1 := by
                have := List.all_eq_true.1 g3 pl2 hp2
                simp only [ne_eq, decide_eq_true_eq] at this
                exact fun e => this e.symm
              have h5 := rc_rc s2 hne b
              have h6 := p3.uniq b
              simp only [StA.cnt] at h6
              unfold StA.own at h5
              omega
            · right
              rw [if_neg e, h]
              exact ⟨rfl, pl2, by simp [hp2], hrc2⟩
    rw [pcL_ptrs]
    rcases key _ _ p7 with h | ⟨h, pl, _, hrc⟩
    · omega
    · have := rc_le s2 pl.1 k
      omega
  have hcnt : ∀ k, s2.cnt k = s2.own k + TA.cntL k s2.hd := fun k => rfl
  have hargs : ∀ (Y : Nat → Prop), (∀ x ∈ as, x.Holds Y w.heap) → (∀ k, Y k → zc Z s2 (ptrs as) k) → ArgsOk Y w.heap as := by
    intro Y hY hle
    refine ⟨hY, fun k => ?_, fun k hk hz => ?_, fun k hk => ?_⟩
    · have e1 := hpc1 k
      have e2 := p3.uniq k
      have e3 := hcnt k
      have e4 := hhd k
      omega
    · have e1 := hpc1 k
      have e2 := p3.uniq k
      have e3 := hcnt k
      have e4 := hhd k
      rcases hle k hz with h | ⟨h, hne⟩
      · exact p3.notZ k (by omega) h
      · have : 0 < pcL k as := by omega
        rw [pcL_ptrs] at this
        have hex : ∃ q ∈ ptrs as, q.1 = k := by
          generalize ptrs as = qs at this
          induction qs with
          | nil => simp at this
          | cons q qs ih =>
            simp only [List.map_cons, List.sum_cons] at this
            by_cases e : q.1 = k
            · exact ⟨q, by simp, e⟩
            · rw [if_neg e] at this
              obtain ⟨q2, h5, h6⟩ := ih (by omega)
              exact ⟨q2, by simp [h5], h6⟩
        obtain ⟨q, hq, e⟩ := hex
        exact hne q hq e
    · rcases hle k hk with h | ⟨h, _⟩
      · exact p3.zlt k h
      · exact p3.lt k (by rw [hcnt]; omega)
  have hevs : (ms.map fun m => a.eval m.2).toArray = (as.map ArgA.value).toArray := by rw [b2]
  rw [hevs]
  -- the two ways: with what is borrowed, or without
  have main : ∀ (Y : Nat → Prop), (∀ x ∈ as, x.Holds Y w.heap) → (∀ k, Z k → Y k) → (∀ k, Y k → zc Z s2 (ptrs as) k) → (((ms.any fun m => m.1.isBor) = false ∧ ∀ k, Y k → Z k) ∨ (T.noRoL res = true ∧ T.noRoL outs.flatten = true)) →
      Calls E.P f (as.map ArgA.value).toArray w fun e w' => ∃ v, e = .returned v ∧ SOk C σ' (a.put dst v) w' := by
    intro Y hY hZY hYz hcase
    refine (hok w Y as rfl (hargs Y hY hYz)).mono fun e w' ⟨Z', rs, ls, he, hrs, hls, B⟩ => ⟨retV rs, he, ?_⟩
    subst hrs; subst hls
    have hlen0 : w.heap.size ≤ w'.heap.size := B.grown
    have hpinn : ∀ q ∈ ptrs as, innL q.1 as = 0 := by
      intro q hq
      have e1 := hpl q hq
      have e2 := p3.uniq q.1
      have e3 := hcnt q.1
      have e4 := hhd q.1
      omega
    have hplt : ∀ q ∈ ptrs as, q.1 < w.heap.size := fun q hq => p3.lt _ (by have := hpl q hq; rw [hcnt]; omega)
    have hpz : ∀ q ∈ ptrs as, ¬ Z' q.1 := by
      intro q hq hz
      rcases B.zext _ hz with h | h | h
      · rcases hYz _ h with h | ⟨_, h⟩
        · exact p3.notZ _ (by have := hpl q hq; rw [hcnt]; omega) h
        · exact h q hq rfl
      · have := hplt q hq; omega
      · have := hpinn q hq; omega
    -- what is read only then
    obtain ⟨Z1, z1, z2, z3, z4⟩ : ∃ Z1 : Nat → Prop, (∀ k, Z k → Z1 k) ∧ (∀ k, Z1 k → Z' k) ∧ (∀ k, Z1 k → Z k ∨ w.heap.size ≤ k ∨ 0 < innL k as) ∧ (TA.HoldsL Z1 w'.heap rs ∧ outsOk Z1 w'.heap (ptrs as) ls) := by
      rcases hcase with ⟨_, hYZ⟩ | ⟨hn1, hn2⟩
      · exact ⟨Z', fun k h => B.zle k (hZY k h), fun _ h => h, fun k h => (B.zext k h).imp (hYZ k) id, B.holds, B.outs⟩
      · rw [flatten_er] at hn2
        exact ⟨Z, fun _ h => h, fun k h => B.zle k (hZY k h), fun k h => .inl h, TA.HoldsL.noRo rs hn1 B.holds, outs_noRo _ _ hn2 B.outs⟩
    have hmix : ∀ k, (0 < TA.cntL k rs + TA.cntL k ls.flatten ∨ Z1 k) → (mix w'.heap w.heap ((ptrs as).map Prod.fst))[k]? = w'.heap[k]? := by
      intro k hk
      refine mix_out fun hm => ?_
      obtain ⟨q, hq, hq2⟩ := List.mem_map.1 hm
      rcases hk with h | h
      · have e1 := B.uniq k
        rw [pcL_ptrs] at e1
        have e2 := pq_pos hq hq2
        omega
      · exact hpz q hq (hq2 ▸ z2 k h)
    have hR := p3.replaceHand (Z' := Z1) (w' := { w' with heap := mix w'.heap w.heap ((ptrs as).map Prod.fst) }) (hd' := ls.flatten ++ rs) (by rw [mix_size]; exact hlen0) B.os B.tape B.output
      (fun k hk h0 => by
        by_cases hm : k ∈ (ptrs as).map Prod.fst
        · exact mix_in hlen0 hm hk
        · refine (mix_out hm).trans (B.kept k hk ?_)
          rw [hhd] at h0
          have : pcL k as = 0 := by
            rcases Nat.eq_zero_or_pos (pcL k as) with h | h
            · exact h
            · exfalso
              apply hm
              rw [pcL_ptrs] at h
              clear hmix hpz hplt hpinn hpl hpc1 B hY hargs hYz z4 b3 p7 b6
              generalize ptrs as = qs at h
              induction qs with
              | nil => simp at h
              | cons q qs ih =>
                simp only [List.map_cons, List.sum_cons] at h
                by_cases e : q.1 = k
                · simp [e]
                · rw [if_neg e] at h
                  have := ih (by omega)
                  rw [List.map_cons]
                  exact List.mem_cons_of_mem _ this
          omega)
      z1 (fun k hk => by rw [hhd]; exact z3 k hk) (fun k hk => by show k < (mix w'.heap w.heap _).size; rw [mix_size]; exact B.zlt k (z2 k hk))
      (holdsL_append.2 ⟨TA.HoldsL.frame _ (holds_outs _ _ z4.2) (fun _ h => h) (fun k hk => hmix k (by rcases hk with h | h; exact .inl (by omega); exact .inr h)), TA.HoldsL.frame _ z4.1 (fun _ h => h) (fun k hk => hmix k (by rcases hk with h | h; exact .inl (by omega); exact .inr h))⟩)
      (fun k => by rw [TA.cntL_append]; have := B.uniq k; omega)
      (fun k hk => by
        rw [TA.cntL_append] at hk
        have := B.own k (by omega)
        rw [hhd]
        exact ⟨this.1, fun h => this.2 (z2 k h)⟩)
    unfold St.land at hb
    split at hb
    case isFalse => cases hb
    obtain ⟨σ3, hbk, hput⟩ := Option.bind_eq_some_iff.1 hb
    obtain ⟨s4, e1, e2, e3⟩ := back_ok (h := w.heap) (h' := w'.heap) hlen0 pls' (ptrs as) ls _ rs _ σ3 hR rfl rfl (plsOk_keep _ _ (fun pl _ => by cases pl.1 <;> rfl) p7) z4.2
      (fun k => by have := B.uniq k; rw [pcL_ptrs] at this; omega) (fun q hq h => hpz q hq (z2 _ h)) B.part hbk
    have hrs : TA.HoldsL Z1 w'.heap rs := z4.1
    obtain ⟨xA, x1, x2, x3⟩ := retV_ok hrs s4
    exact SOk.put? e3 e1 hput x1 x2 (fun k => by rw [x3, e2]; exact Nat.le_refl _)
  by_cases hbor : (ms.any fun m => m.1.isBor) = true
  · refine main (zc Z s2 (ptrs as)) b3 (fun _ h => .inl h) (fun _ h => h) (.inr ?_)
    unfold St.land at hb
    split at hb
    case isFalse => cases hb
    rename_i hc
    exact hc hbor
  · have hbf : (ms.any fun m => m.1.isBor) = false := by simpa using hbor
    exact main Z (b7 hbf) (fun _ h => h) (fun _ h => .inl h) (.inl ⟨hbf, fun _ h => h⟩)
end Go.OM
