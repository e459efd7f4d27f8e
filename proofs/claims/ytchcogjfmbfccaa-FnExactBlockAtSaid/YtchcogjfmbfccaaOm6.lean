import Derived.Test.YtchcogjfmbfccaaOm5
set_option linter.unusedVariables false
namespace Go.OM
variable {C : Ctx} {Z : Nat → Prop} {s : StA} {a : Act} {w w' : World}

theorem AVA.cnt_t (k : Nat) (y : TA) : (AVA.t y).cnt k = y.cnt k := rfl
theorem AVA.cnt_u (k : Nat) : AVA.u.cnt k = 0 := rfl
/-- What is killed: all that points into a root ('full'), or copies of what stands there alone. -/
def AVA.killK (full : Bool) (r : Root) (x : AVA) : AVA := if full = true then x.kill r else match x with
  | .al r' o p k => if r' = r then .u else .al r' o p k
  | x => x
def AV.killK (full : Bool) (r : Root) (x : AV) : AV := if full = true then x.kill r else match x with
  | .al r' o p k => if r' = r then .u else .al r' o p k
  | x => x
theorem AVA.er_killK (full : Bool) (r : Root) (x : AVA) : (x.killK full r).er = x.er.killK full r := by
  unfold AVA.killK AV.killK
  cases full with
  | true => simp [AVA.er_kill]
  | false =>
    cases x with
    | al r' o p k => by_cases h : r' = r <;> simp [AVA.er, h]
    | _ => rfl
theorem AVA.cnt_killK (full : Bool) (r : Root) (k : Nat) (x : AVA) : (x.killK full r).cnt k = x.cnt k := by
  unfold AVA.killK
  cases full with
  | true => simp [AVA.cnt_kill]
  | false =>
    cases x with
    | al r' o p k => by_cases h : r' = r <;> simp [AVA.cnt, h]
    | _ => rfl
theorem AVA.killK_t {full : Bool} {r : Root} {x : AVA} {y : TA} : x.killK full r = .t y ↔ x = .t y := by
  unfold AVA.killK
  cases full with
  | true =>
    simp only [if_true]
    cases x with
    | al r' o p k => by_cases h : r' = r <;> simp [AVA.kill, h]
    | ref r' o p => by_cases h : r' = r ∧ p ≠ [] <;> simp [AVA.kill, h]
    | _ => simp [AVA.kill]
  | false =>
    simp only [Bool.false_eq_true, if_false]
    cases x with
    | al r' o p k => by_cases h : r' = r <;> simp [h]
    | _ => simp

theorem tot_killK (full : Bool) (r : Root) (k : Nat) (l : List (Nat × AVA)) : tot (AVA.cnt k) (l.map fun e => (e.1, e.2.killK full r)) = tot (AVA.cnt k) l := by
  rw [tot_map]
  exact congrArg (fun f => tot f l) (funext fun x => AVA.cnt_killK full r k x)
/-- A root's cells. -/
def StA.setRoot (s : StA) (full : Bool) (r : Root) (cs' hd' : List TA) : StA :=
  match r with
  | .slot n => match look (s.tm.map fun e => (e.1, e.2.killK full r)) n with
    | some (AVA.t x) => ⟨put (s.tm.map fun e => (e.1, e.2.killK full r)) n (.t (x.withCells cs')), s.bx, hd'⟩
    | _ => ⟨s.tm.map fun e => (e.1, e.2.killK full r), s.bx, hd'⟩
  | .box n => match look s.bx n with
    | some x => ⟨s.tm.map fun e => (e.1, e.2.killK full r), put s.bx n ⟨x.b, x.off, cs'⟩, hd'⟩
    | none => ⟨s.tm.map fun e => (e.1, e.2.killK full r), s.bx, hd'⟩
def St.setRoot (s : St) (full : Bool) (r : Root) (cs' : List T) : St :=
  match r with
  | .slot n => match look (s.tm.map fun e => (e.1, e.2.killK full r)) n with
    | some (AV.t x) => ⟨put (s.tm.map fun e => (e.1, e.2.killK full r)) n (.t (x.withCells cs')), s.bx⟩
    | _ => ⟨s.tm.map fun e => (e.1, e.2.killK full r), s.bx⟩
  | .box n => match look s.bx n with
    | some _ => ⟨s.tm.map fun e => (e.1, e.2.killK full r), put s.bx n cs'⟩
    | none => ⟨s.tm.map fun e => (e.1, e.2.killK full r), s.bx⟩
def St.rootCells (s : St) : Root → Option (List T)
  | .slot n => match look s.tm n with
    | some (.t x) => some x.cells
    | _ => none
  | .box n => look s.bx n
theorem StA.er_rootCells (s : StA) (r : Root) : s.er.rootCells r = (s.rootCells r).map fun x => TA.erL x.2 := by
  cases r with
  | slot n =>
    simp only [St.rootCells, StA.rootCells, look_er]
    cases look s.tm n with
    | none => rfl
    | some x => cases x <;> simp [AVA.er, TA.er_cells]
  | box n =>
    simp only [St.rootCells, StA.rootCells, look_er_bx]
    cases look s.bx n <;> rfl
theorem StA.er_setRoot (s : StA) (full : Bool) (r : Root) (cs' hd' : List TA) : (s.setRoot full r cs' hd').er = s.er.setRoot full r (TA.erL cs') := by
  have htm : (s.tm.map fun e => (e.1, e.2.killK full r)).map (fun e => (e.1, e.2.er)) = s.er.tm.map fun e => (e.1, e.2.killK full r) := by
    simp [StA.er, AVA.er_killK]
  have hlook : ∀ n, look (s.er.tm.map fun e => (e.1, e.2.killK full r)) n = (look (s.tm.map fun e => (e.1, e.2.killK full r)) n).map AVA.er := by
    intro n
    rw [← htm]
    exact look_map AVA.er _ n
  cases r with
  | slot n =>
    simp only [StA.setRoot, St.setRoot, hlook]
    cases hx : look (s.tm.map fun e => (e.1, e.2.killK full (.slot n))) n with
    | none => exact congrArg (fun l => St.mk l s.er.bx) htm
    | some x =>
      cases x with
      | t x =>
        refine (congrArg (fun l => St.mk l s.er.bx) (put_map AVA.er _ n (.t (x.withCells cs')))).trans ?_
        rw [htm]
        simp only [AVA.er, TA.er_withCells, Option.map_some]
      | _ => exact congrArg (fun l => St.mk l s.er.bx) htm
  | box n =>
    simp only [StA.setRoot, St.setRoot, look_er_bx]
    cases hx : look s.bx n with
    | none => exact congrArg (fun l => St.mk l s.er.bx) htm
    | some x =>
      refine (congrArg (fun l => St.mk _ l) (put_map (fun x : BoxA => TA.erL x.cs) s.bx n ⟨x.b, x.off, cs'⟩)).trans ?_
      exact congrArg (fun l => St.mk l (put s.er.bx n (TA.erL cs'))) htm

theorem withCells_val {x : TA} {l : List TA} (hl : l.length = x.cells.length) (hc : ∀ c ∈ l, c.isCell = true) (hv : TA.vals l = TA.vals x.cells) : (x.withCells l).val = x.val := by
  cases x with
  | agg cs => simp only [TA.withCells, TA.val]; rw [hv]; rfl
  | _ =>
    simp only [TA.cells, List.length_cons, List.length_nil] at hl
    obtain ⟨y, rfl⟩ := List.length_eq_one_iff.1 hl
    have hy := hc y (by simp)
    simp only [TA.vals, TA.cells, List.map_cons, List.map_nil, List.cons.injEq, and_true] at hv
    simp only [TA.withCells, List.headD_cons]
    cases y <;> first | (simp [TA.isCell] at hy; done) | (simp only [TA.val]; exact hv)

theorem rootCells_setRoot_ne {full : Bool} {r r' : Root} {cs' hd' : List TA} (hne : r' ≠ r) : (s.setRoot full r cs' hd').rootCells r' = s.rootCells r' := by
  have hk : ∀ n, (match look (s.tm.map fun e => (e.1, e.2.killK full r)) n with | some (.t x) => some (none, x.cells) | _ => none) = (match look s.tm n with | some (.t x) => (some (none, x.cells) : Option (Option (Nat × Nat) × List TA)) | _ => none) := by
    intro n
    rw [look_map]
    cases hx : look s.tm n with
    | none => rfl
    | some x =>
      simp only [Option.map_some]
      cases hy : x.killK full r with
      | t y => rw [AVA.killK_t.1 hy]
      | _ =>
        cases x with
        | t z => rw [AVA.killK_t.2 rfl] at hy; cases hy
        | _ => rfl
  cases r with
  | slot n =>
    simp only [StA.setRoot]
    split
    · cases r' with
      | slot m =>
        have hm : m ≠ n := fun e => hne (by rw [e])
        simp only [StA.rootCells, look_put_ne _ _ hm]
        exact hk m
      | box m => rfl
    · cases r' with
      | slot m => exact hk m
      | box m => rfl
  | box n =>
    simp only [StA.setRoot]
    split
    · cases r' with
      | slot m => exact hk m
      | box m =>
        have hm : m ≠ n := fun e => hne (by rw [e])
        simp only [StA.rootCells, look_put_ne _ _ hm]
    · cases r' with
      | slot m => exact hk m
      | box m => rfl

/-- **A root's cells are others then**, the heap written at one block of the root's at the most. -/
theorem SRel.upd {full : Bool} {r : Root} {base : Option (Nat × Nat)} {cs cs' hd' : List TA} {h' : Array Obj} {b : Nat} (H : SRel C Z s a w) (hr : s.rootCells r = some (base, cs))
    (hsz : h'.size = w.heap.size) (hb : ∀ k, k ≠ b → h'[k]? = w.heap[k]?) (hbo : h' = w.heap ∨ 0 < bcnt base b + TA.cntL b cs)
    (hlen : cs'.length = cs.length) (hH : TA.HoldsL Z h' cs') (hC : ∀ c ∈ cs', c.isCell = true)
    (hM : ∀ b0 o0, base = some (b0, o0) → TA.Mem h' true b0 o0 cs.length (TA.vals cs')) (hv : base = none → TA.vals cs' = TA.vals cs)
    (hcnt : ∀ k, TA.cntL k cs' + TA.cntL k hd' ≤ TA.cntL k cs + TA.cntL k s.hd) (hhd : TA.HoldsL Z h' hd')
    (hout : ∀ off n, base = some (b, off) → cs.length ≤ n → h' = w.heap ∨ Outside w.heap h' b off n)
    (href : full = false → ∀ o p ad, TA.addrP base cs o p = some ad → TA.addrP base cs' o p = some ad) :
    SRel C Z (s.setRoot full r cs' hd') a { w with heap := h' } := by
  -- where the root stands
  have hin : ∀ k, bcnt base k + TA.cntL k cs ≤ s.cnt k := by
    intro k
    cases r with
    | slot n =>
      simp only [StA.rootCells] at hr
      split at hr
      · rename_i x hx
        injection hr with hr
        injection hr with e1 e2
        subst e1; subst e2
        have := cnt_tm_le hx k
        simp only [AVA.cnt] at this
        simp only [bcnt, TA.cntL_cells]; omega
      · cases hr
    | box n =>
      simp only [StA.rootCells] at hr
      obtain ⟨x, hx, hx2⟩ := Option.map_eq_some_iff.1 hr
      injection hx2 with e1 e2
      subst e1; subst e2
      have := cnt_bx_le hx k
      simp only [BoxA.cnt] at this
      simp only [bcnt]; omega
  have hbz : ¬ (h' = w.heap) → ¬ Z b := fun hne => H.notZ b (by
    have h1 := hin b
    rcases hbo with h | h
    · exact absurd h hne
    · omega)
  have hzk : ∀ k, Z k → h'[k]? = w.heap[k]? := by
    intro k hk
    by_cases hh : h' = w.heap
    · rw [hh]
    · exact hb k (fun e => hbz hh (e ▸ hk))
  -- blocks that others own are as they were
  have hoth : ∀ k n, 0 < n → n + (bcnt base k + TA.cntL k cs) ≤ s.cnt k → h'[k]? = w.heap[k]? := by
    intro k n hn hle
    by_cases hk : k = b
    · subst hk
      rcases hbo with h | h
      · rw [h]
      · have := H.uniq k
        omega
    · exact hb k hk
  have hcntS : ∀ k, (s.setRoot full r cs' hd').cnt k ≤ s.cnt k := by
    intro k
    have hc := hcnt k
    cases r with
    | slot n =>
      simp only [StA.rootCells] at hr
      split at hr
      · rename_i x hx
        injection hr with hr
        injection hr with e1 e2
        subst e1; subst e2
        have hlk : look (s.tm.map fun e => (e.1, e.2.killK full (.slot n))) n = some (.t x) := by
          rw [look_map, hx]
          simp only [Option.map_some]
          rw [AVA.killK_t.2 rfl]
        simp only [StA.setRoot, hlk, StA.cnt]
        have := tot_put_some (AVA.cnt k) (x := .t (x.withCells cs')) hlk
        rw [tot_killK, AVA.cnt_t, AVA.cnt_t, TA.cnt_withCells k hlen] at this
        rw [TA.cntL_cells] at hc
        omega
      · cases hr
    | box n =>
      simp only [StA.rootCells] at hr
      obtain ⟨x, hx, hx2⟩ := Option.map_eq_some_iff.1 hr
      injection hx2 with e1 e2
      subst e1; subst e2
      simp only [StA.setRoot, hx, StA.cnt]
      have := tot_put_some (BoxA.cnt k) (x := ⟨x.b, x.off, cs'⟩) hx
      simp only [BoxA.cnt] at this
      have h2 := tot_killK full (.box n) k s.tm
      have h9 : tot (fun x => BoxA.cnt k x) s.bx = tot (BoxA.cnt k) s.bx := rfl
      have h10 : tot (fun x : BoxA => (if x.b = k then 1 else 0) + TA.cntL k x.cs) s.bx = tot (BoxA.cnt k) s.bx := rfl
      have h11 : ∀ l, tot (fun x : BoxA => (if x.b = k then 1 else 0) + TA.cntL k x.cs) l = tot (BoxA.cnt k) l := fun _ => rfl
      omega
    -- the root itself, behind
  have hself : (s.setRoot full r cs' hd').rootCells r = some (base, cs') := by
    cases r with
    | slot n =>
      simp only [StA.rootCells] at hr
      split at hr
      · rename_i x hx
        injection hr with hr
        injection hr with e1 e2
        subst e1; subst e2
        have hlk : look (s.tm.map fun e => (e.1, e.2.killK full (.slot n))) n = some (.t x) := by
          rw [look_map, hx]
          simp only [Option.map_some]
          rw [AVA.killK_t.2 rfl]
        simp only [StA.setRoot, hlk, StA.rootCells, look_put_self]
        rw [TA.cells_withCells hlen hC]
      · cases hr
    | box n =>
      simp only [StA.rootCells] at hr
      obtain ⟨x, hx, hx2⟩ := Option.map_eq_some_iff.1 hr
      injection hx2 with e1 e2
      subst e1; subst e2
      simp only [StA.setRoot, hx, StA.rootCells, look_put_self, Option.map_some]
  -- what a slot held, other than the root's
  have hval : ∀ n y, look s.tm n = some y → (r = .slot n → False) → ValOk (s.setRoot full r cs' hd') Z h' (y.killK full r) (a.tmps.getD n undef) := by
    intro n y hy hnr
    have hv := H.tm n y hy
    have hfr : ∀ k, (0 < y.cnt k ∨ Z k) → h'[k]? = w.heap[k]? := by
      intro k hk
      rcases hk with hk | hk
      · refine hoth k (y.cnt k) hk ?_
        -- two places of one state
        cases r with
        | slot m =>
          simp only [StA.rootCells] at hr
          split at hr
          · rename_i x hx
            injection hr with hr
            injection hr with e1 e2
            subst e1; subst e2
            have h1 := tot_put_some (AVA.cnt k) (x := .u) hx
            have h2 : look (Go.OM.put s.tm m .u) n = some y := by rw [look_put_ne _ _ (fun e => hnr (by rw [e]))]; exact hy
            have h3 := look_le_tot (AVA.cnt k) h2
            rw [AVA.cnt_t, AVA.cnt_u] at h1
            simp only [bcnt, TA.cntL_cells, StA.cnt]
            omega
          · cases hr
        | box m =>
          simp only [StA.rootCells] at hr
          obtain ⟨x, hx, hx2⟩ := Option.map_eq_some_iff.1 hr
          injection hx2 with e1 e2
          subst e1; subst e2
          have h1 := look_le_tot (AVA.cnt k) hy
          have h2 := look_le_tot (BoxA.cnt k) hx
          simp only [BoxA.cnt] at h2
          have h11 : ∀ l, tot (fun x : BoxA => (if x.b = k then 1 else 0) + TA.cntL k x.cs) l = tot (BoxA.cnt k) l := fun _ => rfl
          simp only [bcnt, StA.cnt]
          omega
      · exact hzk k hk
    unfold AVA.killK
    cases full with
    | true =>
      simp only [if_true]
      cases y with
      | al r' o p k =>
        simp only [AVA.kill]
        split
        · trivial
        · rename_i hne
          exact hv.keep (fun _ hz => hz) hfr (fun r1 o p k e base cs l h1 h2 h3 => rootCells_setRoot_ne (by injection e with e; rw [← e]; exact hne)) (fun r1 o p e => by cases e)
      | ref r' o p =>
        simp only [AVA.kill]
        split
        · trivial
        · rename_i hne
          refine hv.keep (fun _ hz => hz) hfr (fun r1 o p k e => by cases e) (fun r1 o1 p1 e base1 cs1 ad h1 h2 => ?_)
          injection e with e1 e2 e3
          subst e1; subst e2; subst e3
          by_cases hrr : r' = r
          · subst hrr
            have hp : p = [] := by
              cases p with
              | nil => rfl
              | cons z zs => exact absurd ⟨rfl, by simp⟩ hne
            subst hp
            rw [hr] at h1
            injection h1 with h1
            injection h1 with e1 e2
            subst e1; subst e2
            exact ⟨base, cs', hself, by simpa [TA.addrP] using h2⟩
          · exact ⟨base1, cs1, (rootCells_setRoot_ne hrr).trans h1, h2⟩
      | u => trivial
      | t x => exact hv.keep (fun _ hz => hz) hfr (fun r1 o p k e => by cases e) (fun r1 o p e => by cases e)
      | tup xs => exact hv.keep (fun _ hz => hz) hfr (fun r1 o p k e => by cases e) (fun r1 o p e => by cases e)
      | rop b off cs o => exact hv.keep (fun _ hz => hz) hfr (fun r1 o p k e => by cases e) (fun r1 o p e => by cases e)
    | false =>
      simp only [Bool.false_eq_true, if_false]
      cases y with
      | al r' o p k =>
        simp only
        split
        · trivial
        · rename_i hne
          exact hv.keep (fun _ hz => hz) hfr (fun r1 o p k e base cs l h1 h2 h3 => rootCells_setRoot_ne (by injection e with e; rw [← e]; exact hne)) (fun r1 o p e => by cases e)
      | ref r' o p =>
        refine hv.keep (fun _ hz => hz) hfr (fun r1 o p k e => by cases e) (fun r1 o1 p1 e base1 cs1 ad h1 h2 => ?_)
        injection e with e1 e2 e3
        subst e1; subst e2; subst e3
        by_cases hrr : r' = r
        · subst hrr
          rw [hr] at h1
          injection h1 with h1
          injection h1 with e1 e2
          subst e1; subst e2
          exact ⟨base, cs', hself, href rfl _ _ _ h2⟩
        · exact ⟨base1, cs1, (rootCells_setRoot_ne hrr).trans h1, h2⟩
      | u => trivial
      | t x => exact hv.keep (fun _ hz => hz) hfr (fun r1 o p k e => by cases e) (fun r1 o p e => by cases e)
      | tup xs => exact hv.keep (fun _ hz => hz) hfr (fun r1 o p k e => by cases e) (fun r1 o p e => by cases e)
      | rop b off cs o => exact hv.keep (fun _ hz => hz) hfr (fun r1 o p k e => by cases e) (fun r1 o p e => by cases e)
  have hPB0 : ∀ x ∈ C.PB, TA.cntL x.1 cs = 0 := by
    intro x hx
    cases r with
    | slot n =>
      simp only [StA.rootCells] at hr
      split at hr
      · rename_i y hy
        injection hr with hr
        injection hr with e1 e2
        subst e1; subst e2
        have := H.pbo x hx n _ hy
        simpa [TA.cntL_cells, AVA.cnt] using this
      · cases hr
    | box n =>
      simp only [StA.rootCells] at hr
      obtain ⟨y, hy, hy2⟩ := Option.map_eq_some_iff.1 hr
      injection hy2 with e1 e2
      subst e1; subst e2
      exact H.pbi x hx n y hy
  have hPB' : ∀ x ∈ C.PB, TA.cntL x.1 cs' = 0 ∧ TA.cntL x.1 hd' = 0 := by
    intro x hx
    have h1 := hcnt x.1
    have h2 := hPB0 x hx
    have h3 := H.pbh x hx
    omega
  exact {
    defers := H.defers
    size := H.size
    tm := fun n y hy => by
      cases r with
      | slot m =>
        simp only [StA.rootCells] at hr
        split at hr
        · rename_i x hx
          injection hr with hr
          injection hr with e1 e2
          subst e1; subst e2
          have hlk : look (s.tm.map fun e => (e.1, e.2.killK full (.slot m))) m = some (.t x) := by
            rw [look_map, hx]
            simp only [Option.map_some]
            rw [AVA.killK_t.2 rfl]
          by_cases hnm : n = m
          · subst hnm
            simp only [StA.setRoot, hlk, look_put_self] at hy
            injection hy with hy
            subst hy
            have hv0 := H.tm n _ hx
            refine ⟨?_, TA.holds_withCells hlen hC hH⟩
            rw [withCells_val hlen hC (hv rfl)]
            exact hv0.1
          · simp only [StA.setRoot, hlk, look_put_ne _ _ hnm, look_map] at hy
            obtain ⟨z, hz, rfl⟩ := Option.map_eq_some_iff.1 hy
            exact hval n z hz (fun e => hnm (by injection e with e; exact e.symm))
        · cases hr
      | box m =>
        have hy' : look (s.tm.map fun e => (e.1, e.2.killK full (.box m))) n = some y := by
          simp only [StA.setRoot] at hy
          split at hy <;> exact hy
        rw [look_map] at hy'
        obtain ⟨z, hz, rfl⟩ := Option.map_eq_some_iff.1 hy'
        exact hval n z hz (fun e => by cases e)
    bx := fun n y hy => by
      have hold : ∀ n y, look s.bx n = some y → (r = .box n → False) → TA.Mem h' true y.b y.off y.cs.length (TA.vals y.cs) ∧ TA.HoldsL Z h' y.cs ∧ ∀ c ∈ y.cs, c.isCell = true := by
        intro n y hyy hnr
        obtain ⟨g1, g2, g3⟩ := H.bx n y hyy
        have hfr : ∀ k, (0 < BoxA.cnt k y ∨ Z k) → h'[k]? = w.heap[k]? := by
          intro k hk
          rcases hk with hk | hk
          · refine hoth k _ hk ?_
            cases r with
            | slot m =>
              simp only [StA.rootCells] at hr
              split at hr
              · rename_i x hx
                injection hr with hr
                injection hr with e1 e2
                subst e1; subst e2
                have h1 := look_le_tot (AVA.cnt k) hx
                have h2 := look_le_tot (BoxA.cnt k) hyy
                rw [AVA.cnt_t] at h1
                simp only [bcnt, TA.cntL_cells, StA.cnt]
                omega
              · cases hr
            | box m =>
              simp only [StA.rootCells] at hr
              obtain ⟨x, hx, hx2⟩ := Option.map_eq_some_iff.1 hr
              injection hx2 with e1 e2
              subst e1; subst e2
              have hmn : n ≠ m := fun e => hnr (by rw [e])
              have h1 := tot_put_some (BoxA.cnt k) (x := ⟨0, 0, []⟩) hx
              have h2 : look (Go.OM.put s.bx m ⟨0, 0, []⟩) n = some y := by rw [look_put_ne _ _ hmn]; exact hyy
              have h3 := look_le_tot (BoxA.cnt k) h2
              by_cases hk0 : k = 0
              · -- the stand-in counts block 0
                subst hk0
                have key : ∀ (l : List (Nat × BoxA)), look l m = some x → look l n = some y → BoxA.cnt 0 y + BoxA.cnt 0 x ≤ tot (BoxA.cnt 0) l := by
                  intro l
                  induction l with
                  | nil => intro h; simp [look] at h
                  | cons e l ih =>
                    obtain ⟨q, z⟩ := e
                    intro h1 h2
                    simp only [look] at h1 h2
                    simp only [tot]
                    by_cases e1 : q = m
                    · rw [if_pos e1] at h1
                      injection h1 with h1
                      subst h1
                      rw [if_neg (fun e2 => hmn (e2.symm.trans e1))] at h2
                      have := look_le_tot (BoxA.cnt 0) h2
                      omega
                    · rw [if_neg e1] at h1
                      by_cases e2 : q = n
                      · rw [if_pos e2] at h2
                        injection h2 with h2
                        subst h2
                        have := look_le_tot (BoxA.cnt 0) h1
                        omega
                      · rw [if_neg e2] at h2
                        have := ih h1 h2
                        omega
                have := key _ hx hyy
                simp only [BoxA.cnt] at this
                simp only [bcnt, StA.cnt, BoxA.cnt]
                have h11 : ∀ l, tot (fun x : BoxA => (if x.b = 0 then 1 else 0) + TA.cntL 0 x.cs) l = tot (BoxA.cnt 0) l := fun _ => rfl
                have h12 := h11 s.bx
                omega
              · have h4 : BoxA.cnt k ⟨0, 0, []⟩ = 0 := by simp [BoxA.cnt, TA.cntL, Ne.symm hk0]
                have h5 : BoxA.cnt k x = (if x.b = k then 1 else 0) + TA.cntL k x.cs := rfl
                simp only [bcnt, StA.cnt]
                omega
          · exact hzk k hk
        refine ⟨g1.frame (hfr _ (.inl ?_)), TA.HoldsL.frame _ g2 (fun _ hz => hz) (fun k hk => hfr k ?_), g3⟩
        · simp [BoxA.cnt]; omega
        · rcases hk with hk | hk
          · left; simp only [BoxA.cnt]; omega
          · exact .inr hk
      cases r with
      | slot m =>
        have hy' : look s.bx n = some y := by
          simp only [StA.setRoot] at hy
          split at hy <;> exact hy
        exact hold n y hy' (fun e => by cases e)
      | box m =>
        simp only [StA.rootCells] at hr
        obtain ⟨x, hx, hx2⟩ := Option.map_eq_some_iff.1 hr
        injection hx2 with e1 e2
        subst e1; subst e2
        simp only [StA.setRoot, hx] at hy
        by_cases hnm : n = m
        · subst hnm
          rw [look_put_self] at hy
          injection hy with hy
          subst hy
          exact ⟨by have := hM _ _ rfl; rw [hlen]; exact this, hH, hC⟩
        · rw [look_put_ne _ _ hnm] at hy
          exact hold n y hy (fun e => hnm (by injection e with e; exact e.symm))
    uniq := fun k => Nat.le_trans (hcntS k) (H.uniq k)
    notZ := fun k hk => H.notZ k (Nat.lt_of_lt_of_le hk (hcntS k))
    lt := fun k hk => by show k < h'.size; rw [hsz]; exact H.lt k (Nat.lt_of_lt_of_le hk (hcntS k))
    zlt := fun k hk => by show k < h'.size; rw [hsz]; exact H.zlt k hk
    own := fun k hk => H.own k (Nat.lt_of_lt_of_le hk (hcntS k))
    z0 := H.z0
    zext := H.zext
    pk := fun x hx => by
      obtain ⟨q1, cs0, q2, q3⟩ := H.pk x hx
      refine ⟨q1, ?_⟩
      cases r with
      | slot m => exact ⟨cs0, by simp only [StA.setRoot]; split <;> exact q2, q3⟩
      | box m =>
        simp only [StA.rootCells] at hr
        obtain ⟨y, hy, hy2⟩ := Option.map_eq_some_iff.1 hr
        injection hy2 with e1 e2
        subst e1; subst e2
        by_cases hnm : x.1 = m
        · subst hnm
          rw [q2] at hy
          injection hy with hy
          subst hy
          exact ⟨cs', by simp only [StA.setRoot, q2, look_put_self], hlen.trans q3⟩
        · exact ⟨cs0, by simp only [StA.setRoot, hy]; rw [look_put_ne _ _ hnm]; exact q2, q3⟩
    os := H.os
    tape := H.tape
    output := H.output
    grown := by show _ ≤ h'.size; rw [hsz]; exact H.grown
    kept := fun k hk hf => by
      show h'[k]? = _
      by_cases hkb : k = b
      · subst hkb
        rcases hbo with h | h
        · rw [h]; exact H.kept k hk hf
        · exfalso
          have h1 := hin k
          rcases H.own k (by omega) with h2 | h2
          · exact hf h2
          · omega
      · rw [hb k hkb]; exact H.kept k hk hf
    part := fun x hx => by
      show Outside C.w0.heap h' x.1 x.2.1 x.2.2
      by_cases hxb : x.1 = b
      · rcases hbo with h | h
        · rw [h]; exact H.part x hx
        · have h0 := hPB0 x hx
          rw [hxb] at h0
          cases base with
          | none => simp [bcnt] at h; omega
          | some b0 =>
            obtain ⟨b0, o0⟩ := b0
            have hbb : b0 = b := by
              by_cases e : b0 = b
              · exact e
              · rw [bcnt_ne _ e] at h; omega
            subst hbb
            cases r with
            | slot n =>
              simp only [StA.rootCells] at hr
              split at hr
              · injection hr with hr
                injection hr with hr _
                cases hr
              · cases hr
            | box n =>
              simp only [StA.rootCells] at hr
              obtain ⟨y, hy, hy2⟩ := Option.map_eq_some_iff.1 hr
              injection hy2 with e1 e2
              injection e1 with e1
              injection e1 with e1 e3
              subst e1; subst e2; subst e3
              obtain ⟨p1, p2⟩ := H.pbx x hx n y hy hxb.symm
              rcases hout y.off x.2.2 rfl p2 with h3 | h3
              · rw [h3]; exact H.part x hx
              · obtain ⟨c, c', e, fr, q1, q2, q3, q4⟩ := H.part x hx
                obtain ⟨d, d', e', fr', t1, t2, t3, t4⟩ := h3
                rw [← hxb] at t1 t2
                rw [q2] at t1
                injection t1 with t1
                injection t1 with t1a t1b t1c
                subst t1a; subst t1b; subst t1c
                refine ⟨c, d', e, fr, q1, t2, t3.trans q3, fun j hj => ?_⟩
                rw [t4 j (by rw [p1]; exact hj)]
                exact q4 j hj
      · obtain ⟨c, c', e, fr, q1, q2, q3⟩ := H.part x hx
        exact ⟨c, c', e, fr, q1, (hb _ hxb).trans q2, q3⟩
    pbx := fun x hx n y hy hb1 => by
      cases r with
      | slot m =>
        have hy' : look s.bx n = some y := by
          simp only [StA.setRoot] at hy
          split at hy <;> exact hy
        exact H.pbx x hx n y hy' hb1
      | box m =>
        simp only [StA.rootCells] at hr
        obtain ⟨z, hz, hx2⟩ := Option.map_eq_some_iff.1 hr
        injection hx2 with e1 e2
        subst e1; subst e2
        simp only [StA.setRoot, hz] at hy
        by_cases hnm : n = m
        · subst hnm
          rw [look_put_self] at hy
          injection hy with hy
          subst hy
          have := H.pbx x hx n z hz hb1
          exact ⟨this.1, by show cs'.length ≤ _; rw [hlen]; exact this.2⟩
        · rw [look_put_ne _ _ hnm] at hy
          exact H.pbx x hx n y hy hb1
    pbo := fun x hx n y hy => by
      cases r with
      | slot m =>
        simp only [StA.rootCells] at hr
        split at hr
        · rename_i z hz
          injection hr with hr
          injection hr with e1 e2
          subst e1; subst e2
          have hlk : look (s.tm.map fun e => (e.1, e.2.killK full (.slot m))) m = some (.t z) := by
            rw [look_map, hz]
            simp only [Option.map_some]
            rw [AVA.killK_t.2 rfl]
          by_cases hnm : n = m
          · subst hnm
            simp only [StA.setRoot, hlk, look_put_self] at hy
            injection hy with hy
            subst hy
            simp only [AVA.cnt]
            rw [TA.cnt_withCells _ hlen]
            exact (hPB' x hx).1
          · simp only [StA.setRoot, hlk, look_put_ne _ _ hnm, look_map] at hy
            obtain ⟨q, hq, rfl⟩ := Option.map_eq_some_iff.1 hy
            rw [AVA.cnt_killK]
            exact H.pbo x hx n q hq
        · cases hr
      | box m =>
        have hy' : look (s.tm.map fun e => (e.1, e.2.killK full (.box m))) n = some y := by
          simp only [StA.setRoot] at hy
          split at hy <;> exact hy
        rw [look_map] at hy'
        obtain ⟨q, hq, rfl⟩ := Option.map_eq_some_iff.1 hy'
        rw [AVA.cnt_killK]
        exact H.pbo x hx n q hq
    pbi := fun x hx n y hy => by
      cases r with
      | slot m =>
        have hy' : look s.bx n = some y := by
          simp only [StA.setRoot] at hy
          split at hy <;> exact hy
        exact H.pbi x hx n y hy'
      | box m =>
        simp only [StA.rootCells] at hr
        obtain ⟨z, hz, hx2⟩ := Option.map_eq_some_iff.1 hr
        injection hx2 with e1 e2
        subst e1; subst e2
        simp only [StA.setRoot, hz] at hy
        by_cases hnm : n = m
        · subst hnm
          rw [look_put_self] at hy
          injection hy with hy
          subst hy
          exact (hPB' x hx).1
        · rw [look_put_ne _ _ hnm] at hy
          exact H.pbi x hx n y hy
    hand := by
      have : (s.setRoot full r cs' hd').hd = hd' := by
        cases r <;> simp only [StA.setRoot] <;> split <;> rfl
      rw [this]; exact hhd
    pbh := fun x hx => by
      have : (s.setRoot full r cs' hd').hd = hd' := by
        cases r <;> simp only [StA.setRoot] <;> split <;> rfl
      rw [this]; exact (hPB' x hx).2 }
end Go.OM
