import Derived.Test.YtchcogjfmbfccaaOm6
import Derived.Laws.Append
import Derived.Laws.CopyRow
import Derived.Deep.Draws
set_option linter.unusedVariables false
set_option linter.unusedSimpArgs false
namespace Go.OM
variable {C : Ctx} {Z : Nat → Prop} {s : StA} {a : Act} {w w' : World}

theorem root_holds {r : Root} {base : Option (Nat × Nat)} {cs : List TA} (H : SRel C Z s a w) (hr : s.rootCells r = some (base, cs)) :
    TA.HoldsL Z w.heap cs ∧ (∀ c ∈ cs, c.isCell = true) ∧ (∀ b0 o0, base = some (b0, o0) → TA.Mem w.heap true b0 o0 cs.length (TA.vals cs)) ∧ (∀ q, TA.cntL q cs + bcnt base q ≤ s.cnt q) := by
  cases r with
  | slot n =>
    simp only [StA.rootCells] at hr
    split at hr
    · rename_i x hx
      injection hr with hr
      injection hr with e1 e2
      subst e1; subst e2
      have hv := H.tm n _ hx
      refine ⟨TA.holds_cells hv.2, TA.isCell_mem_cells hv.2, (fun _ _ h => nomatch h), fun q => ?_⟩
      have := cnt_tm_le hx q
      rw [AVA.cnt_t] at this
      simp only [bcnt, TA.cntL_cells]; omega
    · cases hr
  | box n =>
    simp only [StA.rootCells] at hr
    obtain ⟨x, hx, hx2⟩ := Option.map_eq_some_iff.1 hr
    injection hx2 with e1 e2
    subst e1; subst e2
    obtain ⟨h1, h2, h3⟩ := H.bx n x hx
    refine ⟨h2, h3, fun b0 o0 h => ?_, fun q => ?_⟩
    · injection h with h
      injection h with e1 e2
      subst e1; subst e2
      exact h1
    · have := cnt_bx_le hx q
      simp only [BoxA.cnt] at this
      simp only [bcnt]; omega
theorem hd_setRoot (s : StA) (full : Bool) (r : Root) (cs' hd' : List TA) : (s.setRoot full r cs' hd').hd = hd' := by
  cases r <;> simp only [StA.setRoot] <;> split <;> rfl

theorem getP_holds {h : Array Obj} : ∀ (p : Path) (cs : List TA) (o k : Nat) (l : List TA), TA.getP cs o p k = some l → TA.HoldsL Z h cs → (∀ c ∈ cs, c.isCell = true) →
    TA.HoldsL Z h l ∧ ∀ c ∈ l, c.isCell = true
  | [], cs, o, k, l, hg, hH, hC => by
    simp only [TA.getP] at hg
    split at hg
    · injection hg with hg
      subst hg
      exact ⟨TA.holdsL_iff.2 fun t ht => TA.holdsL_iff.1 hH t (List.mem_of_mem_drop (List.mem_of_mem_take ht)), fun c hc => hC c (List.mem_of_mem_drop (List.mem_of_mem_take hc))⟩
    · cases hg
  | (i, o') :: p, cs, o, k, l, hg, hH, hC => by
    simp only [TA.getP] at hg
    split at hg
    · rename_i s b off cap es hcs
      split at hg
      · rename_i e he
        have hsl := TA.holdsL_get hH hcs
        simp only [TA.Holds] at hsl
        have heH := TA.holdsL_get hsl.2.2.2.1 he
        exact getP_holds p _ _ _ _ hg (TA.holds_cells heH) (TA.isCell_mem_cells heH)
      · cases hg
    · cases hg

theorem bury_map_holds {h : Array Obj} {l : List TA} (hl : TA.HoldsL Z h l) (hc : ∀ c ∈ l, c.isCell = true) : TA.HoldsL Z h (l.map TA.bury) ∧ (∀ c ∈ l.map TA.bury, c.isCell = true) ∧ TA.vals (l.map TA.bury) = TA.vals l ∧ ∀ k, TA.cntL k (l.map TA.bury) = 0 := by
  refine ⟨?_, ?_, ?_, ?_⟩
  · rw [TA.holdsL_iff]
    intro t ht
    obtain ⟨c, hcm, rfl⟩ := List.mem_map.1 ht
    exact TA.bury_holds (hc c hcm) (TA.holdsL_iff.1 hl c hcm)
  · intro t ht
    obtain ⟨c, hcm, rfl⟩ := List.mem_map.1 ht
    exact TA.bury_isCell (hc c hcm)
  · simp only [TA.vals, List.map_map]
    exact List.map_congr_left fun t _ => TA.bury_val t
  · intro k
    induction l with
    | nil => simp [TA.cntL]
    | cons t ts ih =>
      simp only [TA.HoldsL] at hl
      simp only [List.map_cons, TA.cntL, TA.bury_cnt, Nat.zero_add]
      exact ih hl.2 (fun c h => hc c (by simp [h]))

/-- **What stands at a place comes into the hand.** -/
theorem SRel.takePlace {r : Root} {base : Option (Nat × Nat)} {cs l : List TA} {o k : Nat} {p : Path} (H : SRel C Z s a w) (hr : s.rootCells r = some (base, cs)) (hg : TA.getP cs o p k = some l) :
    SRel C Z (s.setRoot true r (TA.setP cs o p (l.map TA.bury)) (l ++ s.hd)) a w ∧ TA.HoldsL Z w.heap l ∧ (∀ c ∈ l, c.isCell = true) := by
  obtain ⟨h1, h2, h3, h4⟩ := root_holds H hr
  obtain ⟨g1, g2⟩ := getP_holds p _ _ _ _ hg h1 h2
  obtain ⟨b1, b2, b3, b4⟩ := bury_map_holds g1 g2
  obtain ⟨r1, r2, r3, r4, r5⟩ := TA.swap_place p cs o k l (l.map TA.bury) hg (by rw [List.length_map]; exact TA.getP_length _ _ _ _ _ hg) b3 h1 h2 b1 b2
  refine ⟨?_, g1, g2⟩
  have := H.upd (full := true) (hd' := l ++ s.hd) (h' := w.heap) (b := 0) hr rfl (fun _ _ => rfl) (.inl rfl) r3 r1 r2 (fun b0 o0 hb => by rw [r4]; exact h3 b0 o0 hb) (fun _ => r4)
    (fun q => by have := r5 q; rw [b4] at this; rw [TA.cntL_append]; omega) (holdsL_append.2 ⟨g1, H.hand⟩) (fun _ _ _ _ => .inl rfl) (fun h => by cases h)
  exact this

/-- **Cells are written at a place**, out of the hand. -/
theorem SRel.storePlace {r : Root} {base : Option (Nat × Nat)} {cs old new hd' : List TA} {o k : Nat} {p : Path} {ad : Nat × Nat} {full : Bool} (H : SRel C Z s a w) (hr : s.rootCells r = some (base, cs)) (hg : TA.getP cs o p k = some old)
    (ha : TA.addrP base cs o p = some ad) (hk : new.length = k) (hk0 : 0 < k) (hnew : TA.HoldsL Z w.heap new) (hnc : ∀ c ∈ new, c.isCell = true)
    (hcnt : ∀ q, TA.cntL q new + TA.cntL q hd' ≤ TA.cntL q s.hd) (hhd : TA.HoldsL Z w.heap hd')
    (hfull : full = false → T.hasOwnL (TA.erL old) = false) :
    SRel C Z (s.setRoot full r (TA.setP cs o p new) hd') a { w with heap := wr w.heap ad.1 ad.2 (TA.vals new) } := by
  obtain ⟨h1, h2, h3, h4⟩ := root_holds H hr
  have hrange := TA.addr_range p base cs o k old ad.1 ad.2 hg ha
  have hown : 0 < bcnt base ad.1 + TA.cntL ad.1 cs := by
    rcases hrange with ⟨o0, hb, _⟩ | h
    · rw [hb, bcnt_self]; omega
    · omega
  have hcnt1 : 0 < s.cnt ad.1 := by have := h4 ad.1; omega
  have hnz : ¬ Z ad.1 := H.notZ _ hcnt1
  have hhand : TA.cntL ad.1 s.hd = 0 := by
    have hu := H.uniq ad.1
    -- the root's and the hand's counts add up
    have : bcnt base ad.1 + TA.cntL ad.1 cs + TA.cntL ad.1 s.hd ≤ s.cnt ad.1 := by
      cases r with
      | slot n =>
        simp only [StA.rootCells] at hr
        split at hr
        · rename_i x hx
          injection hr with hr
          injection hr with e1 e2
          subst e1; subst e2
          have := look_le_tot (AVA.cnt ad.1) hx
          rw [AVA.cnt_t] at this
          simp only [bcnt, TA.cntL_cells, StA.cnt]; omega
        · cases hr
      | box n =>
        simp only [StA.rootCells] at hr
        obtain ⟨x, hx, hx2⟩ := Option.map_eq_some_iff.1 hr
        injection hx2 with e1 e2
        subst e1; subst e2
        have h5 := look_le_tot (BoxA.cnt ad.1) hx
        have h6 : BoxA.cnt ad.1 x = (if x.b = ad.1 then 1 else 0) + TA.cntL ad.1 x.cs := rfl
        simp only [bcnt, StA.cnt]; omega
    omega
  have hnew' : TA.HoldsL Z (wr w.heap ad.1 ad.2 (TA.vals new)) new := TA.HoldsL.frame _ hnew (fun _ hz => hz) (fun q hq => wr_ne _ _ _ _ (fun e => by
    subst e
    rcases hq with hq | hq
    · have := hcnt ad.1; omega
    · exact hnz hq))
  have hhd' : TA.HoldsL Z (wr w.heap ad.1 ad.2 (TA.vals new)) hd' := TA.HoldsL.frame _ hhd (fun _ hz => hz) (fun q hq => wr_ne _ _ _ _ (fun e => by
    subst e
    rcases hq with hq | hq
    · have := hcnt ad.1; omega
    · exact hnz hq))
  obtain ⟨r1, r2, r3, r4, r5⟩ := TA.store_place p base cs o k old new ad.1 ad.2 hg ha hk h1 h2 h3 (fun q => Nat.le_trans (h4 q) (H.uniq q)) hnz hnew' hnc
  refine H.upd (b := ad.1) hr (wr_size _ _ _ _) (fun q hq => wr_ne _ _ _ _ hq) (.inr hown) r3 r1 r2 r4 (fun hb => ?_) (fun q => ?_) hhd' (fun off n hb hn => .inr ?_) (fun hf o2 p2 ad2 ha2 => ?_)
  · -- no base: the place is deeper
    cases p with
    | nil => rw [hb] at ha; simp [TA.addrP] at ha
    | cons x p =>
      obtain ⟨i, o'⟩ := x
      simp only [TA.getP] at hg
      simp only [TA.setP]
      split at hg
      · rename_i s b off cap es hcs
        split at hg
        · rename_i e he
          have holt : o < cs.length := (List.getElem?_eq_some_iff.1 hcs).1
          simp only [TA.vals, List.map_set]
          apply List.ext_getElem?
          intro j
          by_cases hj : j = o
          · subst hj
            rw [List.getElem?_set_self (by simpa using holt), List.getElem?_map, hcs]
            simp [TA.val1]
          · rw [List.getElem?_set_ne (Ne.symm hj)]
        · cases hg
      · cases hg
  · have h5 := r5 q
    have h6 := hcnt q
    omega
  · rcases hrange with ⟨o0, hb0, q1, q2, q3⟩ | h
    · rw [hb] at hb0
      injection hb0 with hb0
      injection hb0 with _ hb0
      subst hb0
      obtain ⟨c, ety, fr, t1, t2, t3⟩ := h3 _ _ hb
      refine ⟨c, _, ety, fr, t1, wr_self _ _ t1, wrL_size _ _ _, fun j hj => ?_⟩
      have := (t2 rfl).1
      rw [wrL_get _ _ _ _ (by rw [TA.vals_length]; omega), TA.vals_length, if_neg (by omega)]
    · exfalso
      have h5 := h4 ad.1
      rw [hb, bcnt_self] at h5
      have := H.uniq ad.1
      omega
  · exact TA.addr_keep p base cs o k old new o2 p2 ad2 hg hk (hfull hf) hnc h1 ha2

/-- What a row's place says of the machine's cells. -/
theorem place_mem {h : Array Obj} : ∀ (p : Path) (base : Option (Nat × Nat)) (cs : List TA) (o k : Nat) (l : List TA) (ad : Nat × Nat), TA.getP cs o p k = some l → TA.addrP base cs o p = some ad → TA.HoldsL Z h cs →
    (∀ b0 o0, base = some (b0, o0) → TA.Mem h true b0 o0 cs.length (TA.vals cs)) → ∃ c ety, h[ad.1]? = some (.cells c ety (0, 0)) ∧ ad.2 + k ≤ c.size ∧ ∀ j u, (TA.vals l)[j]? = some u → c[ad.2 + j]? = some u
  | [], base, cs, o, k, l, ad, hg, ha, hH, hM => by
    simp only [TA.getP] at hg
    split at hg
    case isFalse => cases hg
    rename_i hle
    injection hg with hg
    simp only [TA.addrP] at ha
    obtain ⟨x, hx, rfl⟩ := Option.map_eq_some_iff.1 ha
    obtain ⟨b0, o0⟩ := x
    obtain ⟨c, ety, fr, g1, g2, g3⟩ := hM _ _ hx
    obtain ⟨g2a, g2b⟩ := g2 rfl
    subst g2b
    refine ⟨c, ety, g1, by simp only; omega, fun j u hj => ?_⟩
    subst hg
    simp only
    rw [Nat.add_assoc]
    refine g3 (o + j) u ?_
    rw [TA.vals_get] at hj ⊢
    rw [List.getElem?_take] at hj
    split at hj
    · rw [List.getElem?_drop] at hj; exact hj
    · cases hj
  | (i, o') :: p, base, cs, o, k, l, ad, hg, ha, hH, hM => by
    simp only [TA.getP] at hg
    simp only [TA.addrP] at ha
    split at hg
    case h_2 => cases hg
    rename_i s b1 off1 cap es hcs
    split at hg
    case h_2 => cases hg
    rename_i e he
    rw [hcs] at ha
    simp only [he] at ha
    have hsl := TA.holdsL_get hH hcs
    simp only [TA.Holds] at hsl
    obtain ⟨hm, hle, _, hHes, hsz⟩ := hsl
    have heH := TA.holdsL_get hHes he
    have hlt : i < es.length := (List.getElem?_eq_some_iff.1 he).1
    have hsz1 : e.cells.length = s := hsz e (List.mem_of_getElem? he)
    refine place_mem p _ _ _ _ _ _ hg ha (TA.holds_cells heH) (fun b0 o0 h0 => ?_)
    injection h0 with h0
    injection h0 with e1 e2
    subst e1; subst e2
    obtain ⟨c, ety, fr, g1, g2, g3⟩ := hm
    refine ⟨c, ety, fr, g1, fun _ => ⟨?_, (g2 rfl).2⟩, fun j u hj => ?_⟩
    · have := (g2 rfl).1
      have h5 : (i + 1) * s ≤ cap * s := Nat.mul_le_mul_right _ (by omega)
      rw [Nat.succ_mul] at h5
      omega
    · have hj2 : j < s := by
        have := (List.getElem?_eq_some_iff.1 hj).1
        rw [TA.vals_length] at this
        omega
      rw [Nat.add_assoc]
      refine g3 _ u ?_
      rw [TA.vals_get, flat_get hsz i j hj2, he]
      rw [TA.vals_get] at hj
      exact hj

/-- The world with another heap: a row of cells stored. -/
theorem run_store_row {P : Program} {b off : Nat} {c : Array Value} {ety : TypeId} (vs : List Value) (hb : w.heap[b]? = some (.cells c ety (0, 0))) (hl : off + vs.length ≤ c.size) (h1 : ∀ v ∈ vs, TA.OneCell v) :
    (storeCells ⟨b, off, none⟩ vs).run P w = .ok () { w with heap := wr w.heap b off vs } := by
  have key : ∀ (vs : List Value) (i : Nat) (w : World) (c : Array Value), w.heap[b]? = some (.cells c ety (0, 0)) → off + i + vs.length ≤ c.size → (∀ v ∈ vs, TA.OneCell v) →
      (storeCells ⟨b, off, none⟩ vs i).run P w = .ok () { w with heap := wr w.heap b (off + i) vs } := by
    intro vs
    induction vs with
    | nil =>
      intro i w c hb hl _
      simp only [storeCells]
      have : wr w.heap b (off + i) [] = w.heap := by
        apply Array.ext_getElem?
        intro j
        by_cases hj : j = b
        · subst hj; rw [wr_self _ _ hb, hb]; rfl
        · rw [wr_ne _ _ _ _ hj]
      rw [this]; rfl
    | cons v vs ih =>
      intro i w c hb hl h1
      have hi : off + i < c.size := by simp only [List.length_cons] at hl; omega
      have hadd : (⟨b, off, none⟩ : Addr).add i = ⟨b, off + i, none⟩ := by unfold Addr.add; split <;> simp_all
      have hcell : w.cell? ⟨b, off + i, none⟩ = some c[off + i] := by simp [World.cell?, hb, hi]
      have hfro : w.frozen? ⟨b, off + i, none⟩ = false := by simp [World.frozen?, hb]
      have hset : w.setCell ⟨b, off + i, none⟩ v = { w with heap := wr w.heap b (off + i) [v] } := by
        simp only [World.setCell, wr, wrL]
        congr 1
      have hst : (store ((⟨b, off, none⟩ : Addr).add i) v).run P w = .ok () { w with heap := wr w.heap b (off + i) [v] } := by
        rw [hadd, ← hset]
        have hov := h1 v (by simp)
        cases v <;> first | (simp [TA.OneCell] at hov; done) | simp [store, Sem.run, hcell, hfro]
      have hb2 : (wr w.heap b (off + i) [v])[b]? = some (.cells (wrL c (off + i) [v]) ety (0, 0)) := wr_self _ _ hb
      have h2 := ih (i + 1) { w with heap := wr w.heap b (off + i) [v] } (wrL c (off + i) [v]) hb2 (by rw [wrL_size]; simp only [List.length_cons] at hl; omega) (fun x hx => h1 x (by simp [hx]))
      simp only [storeCells, Sem.run_bind, hst, Result.andThen_ok, h2]
      congr 2
      apply Array.ext_getElem?
      intro j
      by_cases hj : j = b
      · subst hj
        rw [wr_self _ _ hb2, wr_self _ _ hb]
        rfl
      · rw [wr_ne _ _ _ _ hj, wr_ne _ _ _ _ hj, wr_ne _ _ _ _ hj]
  have := key vs 0 w c hb (by omega) h1
  simpa using this
end Go.OM
