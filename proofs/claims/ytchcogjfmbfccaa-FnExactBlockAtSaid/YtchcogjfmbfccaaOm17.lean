import Derived.Test.YtchcogjfmbfccaaOm16
set_option linter.unusedVariables false
set_option linter.unusedSimpArgs false
namespace Go.OM
variable {C : Ctx} {Z : Nat → Prop} {s : StA} {a : Act} {w w' : World} {E : Env} {o : Oper} {σ σ' : St} {K : Act → World → Prop} {Q : Exit → Act → World → Prop}

/-! ### Out of a tuple -/
/-- A slot that is no root gets other trees. -/
theorem SRel.reslot {n : Nat} {x y : AVA} {hd' : List TA} (H : SRel C Z s a w) (hx : look s.tm n = some x) (hxt : ∀ t, x ≠ .t t) (hyt : ∀ t, y ≠ .t t) (hy : ValOk ⟨Go.OM.put s.tm n y, s.bx, hd'⟩ Z w.heap y (a.tmps.getD n undef))
    (hc : ∀ k, y.cnt k + TA.cntL k hd' ≤ x.cnt k + TA.cntL k s.hd) (hh : TA.HoldsL Z w.heap hd') : SRel C Z ⟨Go.OM.put s.tm n y, s.bx, hd'⟩ a w := by
  have hcnt : ∀ k, (StA.mk (Go.OM.put s.tm n y) s.bx hd').cnt k ≤ s.cnt k := by
    intro k
    have := tot_put_some (AVA.cnt k) (x := y) hx
    have := hc k
    simp only [StA.cnt]; omega
  have hroots : ∀ r, (StA.mk (Go.OM.put s.tm n y) s.bx hd').rootCells r = s.rootCells r := by
    intro r
    cases r with
    | box m => rfl
    | slot m =>
      simp only [StA.rootCells, look_put]
      by_cases hm : m = n
      · subst hm
        rw [if_pos rfl, hx]
        cases x <;> first | (exact absurd rfl (hxt _)) | (cases y <;> first | (exact absurd rfl (hyt _)) | rfl)
      · rw [if_neg hm]
  exact {
    defers := H.defers
    size := H.size
    tm := fun m z hz => by
      rw [look_put] at hz
      by_cases hm : m = n
      · rw [if_pos hm] at hz
        injection hz with hz
        subst hz; subst hm
        exact hy
      · rw [if_neg hm] at hz
        exact (H.tm m z hz).keep (fun _ hz => hz) (fun _ _ => rfl) (fun r _ _ _ _ _ _ _ _ _ _ => hroots r) (fun r o p e base cs ad h1 h2 => ⟨base, cs, (hroots r).trans h1, h2⟩)
    bx := H.bx
    uniq := fun k => Nat.le_trans (hcnt k) (H.uniq k)
    notZ := fun k hk => H.notZ k (Nat.lt_of_lt_of_le hk (hcnt k))
    lt := fun k hk => H.lt k (Nat.lt_of_lt_of_le hk (hcnt k))
    zlt := H.zlt
    own := fun k hk => H.own k (Nat.lt_of_lt_of_le hk (hcnt k))
    z0 := H.z0
    zext := H.zext
    pk := H.pk
    os := H.os
    tape := H.tape
    output := H.output
    grown := H.grown
    kept := H.kept
    part := H.part
    pbx := H.pbx
    pbo := fun q hq m z hz => by
      rw [look_put] at hz
      by_cases hm : m = n
      · rw [if_pos hm] at hz
        injection hz with hz
        subst hz
        have h1 := H.pbo q hq n _ hx
        have h2 := H.pbh q hq
        have h3 := hc q.1
        omega
      · rw [if_neg hm] at hz
        exact H.pbo q hq m z hz
    pbi := H.pbi
    hand := hh
    pbh := fun q hq => by
      have h1 := H.pbo q hq n _ hx
      have h2 := H.pbh q hq
      have h3 := hc q.1
      show TA.cntL q.1 hd' = 0
      omega }
def T.buryV : T → T
  | .agg cs => .agg (cs.map T.bury)
  | x => x.bury
def TA.buryV : TA → TA
  | .agg cs => .agg (cs.map TA.bury)
  | x => x.bury
theorem TA.er_buryV (x : TA) : x.buryV.er = x.er.buryV := by
  cases x with
  | agg cs => simp only [TA.buryV, TA.er, T.buryV, erL_bury]
  | v y => exact TA.er_bury (.v y)
  | nl o s A => exact TA.er_bury (.nl o s A)
  | sl o s b off cap es => exact TA.er_bury (.sl o s b off cap es)
  | dead y => exact TA.er_bury (.dead y)
theorem TA.buryV_facts {h : Array Obj} {x : TA} (hx : x.Holds Z h) : x.buryV.val = x.val ∧ x.buryV.Holds Z h ∧ ∀ k, x.buryV.cnt k = 0 := by
  cases x with
  | agg cs =>
    simp only [TA.Holds] at hx
    obtain ⟨b1, b2, b3, b4⟩ := bury_map_holds hx.1 hx.2
    refine ⟨by simp only [TA.buryV, TA.val, b3], by simp only [TA.buryV, TA.Holds]; exact ⟨b1, b2⟩, fun k => by simp only [TA.buryV, TA.cnt]; exact b4 k⟩
  | v y => exact ⟨by simp [TA.buryV, TA.bury, TA.er, T.hasOwn, TA.val], by simpa [TA.buryV, TA.bury, TA.er, T.hasOwn] using hx, fun k => TA.bury_cnt k _⟩
  | nl o s A => exact ⟨by simp only [TA.buryV, TA.bury]; split <;> rfl, TA.bury_holds rfl hx, fun k => TA.bury_cnt k _⟩
  | sl o s b off cap es => exact ⟨by simp only [TA.buryV, TA.bury]; split <;> rfl, TA.bury_holds rfl hx, fun k => TA.bury_cnt k _⟩
  | dead y => exact ⟨by simp [TA.buryV, TA.bury, TA.er, T.hasOwn, TA.val], by simpa [TA.buryV, TA.bury, TA.er, T.hasOwn] using hx, fun k => TA.bury_cnt k _⟩
def stExtract (N : Nat) (dst : Option Nat) (x : Operand) (i : Nat) (σ : St) : Option St := match x with
  | .tmp n => (match σ.get n with
    | .tup xs => (xs[i]?).bind fun y => if y.hasOwn = true then St.put? ⟨put σ.tm n (.tup (xs.set i y.buryV)), σ.bx⟩ N dst (.t y) else σ.put? N dst (.t y)
    | _ => none)
  | _ => none
theorem cntL_set : ∀ (l : List TA) (i : Nat) (x y : TA) (k : Nat), l[i]? = some x → TA.cntL k (l.set i y) + x.cnt k = TA.cntL k l + y.cnt k
  | [], i, x, y, k, h => by simp at h
  | t :: ts, 0, x, y, k, h => by simp only [List.getElem?_cons_zero, Option.some.injEq] at h; subst h; simp only [List.set_cons_zero, TA.cntL]; omega
  | t :: ts, i + 1, x, y, k, h => by
    simp only [List.getElem?_cons_succ] at h
    have := cntL_set ts i x y k h
    simp only [List.set_cons_succ, TA.cntL]; omega
theorem stExtract_ok {x : Operand} {i : Nat} (ho : o.op = .extract x i) (h : stExtract C.N o.dst x i σ = some σ') (H : SOk C σ a w) (hK : ∀ a' w', SOk C σ' a' w' → K a' w') : o.wp E.P a w K Q := by
  unfold stExtract at h
  split at h
  case h_2 => cases h
  rename_i n
  obtain ⟨s, Z, h1, h2, h3⟩ := id H
  subst h1
  split at h
  case h_2 => cases h
  rename_i xs hx
  simp only [St.get, look_er] at hx
  cases hlk : look s.tm n with
  | none => rw [hlk] at hx; simp at hx
  | some z =>
    rw [hlk] at hx
    simp only [Option.map_some, Option.getD_some] at hx
    obtain ⟨zs, rfl, rfl⟩ := er_tup hx
    obtain ⟨y, hy, h⟩ := Option.bind_eq_some_iff.1 h
    rw [TA.erL_map, List.getElem?_map] at hy
    obtain ⟨yA, hyA, rfl⟩ := Option.map_eq_some_iff.1 hy
    obtain ⟨v1, v2⟩ := h3.tm n _ hlk
    have hev : a.eval (.tmp n) = a.tmps.getD n undef := rfl
    have hyH := TA.holdsL_get v2 hyA
    refine wp_value (v := yA.val) (w' := w) ?_ (hK _ _ ?_)
    · have : ((zs.map TA.val).toArray)[i]? = some yA.val := by simp [hyA]
      simp [execOp, ho, hev, v1, Instr.extract, hyA]
    · split at h
      · obtain ⟨b1, b2, b3⟩ := TA.buryV_facts hyH
        have hset : (zs.set i yA.buryV).map TA.val = zs.map TA.val := by
          rw [List.map_set, b1]
          apply List.ext_getElem?
          intro j
          rw [List.getElem?_set]
          split
          · rename_i hij
            subst hij
            split
            · rw [List.getElem?_map, hyA]; rfl
            · rename_i hlt; rw [List.length_map] at hlt; exact absurd (List.getElem?_eq_some_iff.1 hyA).1 hlt
          · rfl
        have hcs := fun k => cntL_set zs i yA yA.buryV k hyA
        have hre := h3.reslot (y := .tup (zs.set i yA.buryV)) (hd' := [yA]) hlk (fun t e => by cases e) (fun t e => by cases e)
          ⟨by rw [hset]; exact v1, TA.holdsL_iff.2 fun t ht => by
            rcases List.mem_or_eq_of_mem_set ht with hm | rfl
            · exact TA.holdsL_iff.1 v2 t hm
            · exact b2⟩ (fun k => by have := hcs k; have := b3 k; simp only [AVA.cnt, TA.cntL]; omega) (by simp only [TA.HoldsL]; exact ⟨hyH, trivial⟩)
        refine SOk.put? hre ?_ h (xA := .t yA) rfl ⟨rfl, hyH⟩ (fun k => by simp [AVA.cnt_t, TA.cntL])
        have e : (AVA.tup (zs.set i yA.buryV)).er = .tup ((TA.erL zs).set i yA.er.buryV) := by simp [AVA.er, TA.erL_map, List.map_set, TA.er_buryV]
        simp only [StA.er, put_map, e]
      · rename_i hno
        exact SOk.put0 h3 rfl h (xA := .t yA) rfl ⟨rfl, hyH⟩ (fun k => TA.cnt_of_noOwn k yA (by simpa using hno))

/-! ### Functions as values, addresses looked at -/
def stFunc (N : Nat) (dst : Option Nat) (fn : Fn) (σ : St) : Option St := σ.put? N dst (.t (.v (.func fn #[] #[])))
theorem stFunc_ok {fn : Fn} {fi ca : Array Operand} (hf : fi = #[]) (hc : ca = #[]) (ho : o.op = .makeFunc fn fi ca) (h : stFunc C.N o.dst fn σ = some σ') (H : SOk C σ a w) (hK : ∀ a' w', SOk C σ' a' w' → K a' w') : o.wp E.P a w K Q := by
  refine wp_value (v := .func fn #[] #[]) (w' := w) ?_ (hK _ _ (H.putS h (by simp [TA.OneCell])))
  subst hf; subst hc
  simp [execOp, ho, Instr.makeFunc]
def stNilc (N : Nat) (dst : Option Nat) (x : Operand) (σ : St) : Option St := match σ.op x with
  | .ref r p q => σ.put? N dst (.ref r p q)
  | .rop cs p => σ.put? N dst (.rop cs p)
  | .t (.v (.func (.func f) i c)) => σ.put? N dst (.t (.v (.func (.func f) i c)))
  | _ => none
theorem stNilc_ok {x : Operand} (ho : o.op = .nilCheck x) (h : stNilc C.N o.dst x σ = some σ') (H : SOk C σ a w) (hK : ∀ a' w', SOk C σ' a' w' → K a' w') : o.wp E.P a w K Q := by
  unfold stNilc at h
  obtain ⟨s, Z, h1, h2, h3⟩ := id H
  subst h1
  obtain ⟨xA, e1, e2⟩ := opA h3 x
  split at h
  · rename_i r p q hy
    rw [hy] at e1
    rw [er_ref e1] at e2
    obtain ⟨base, cs, ad, g1, g2, g3⟩ := id e2
    refine wp_value (v := a.eval x) (w' := w) ?_ (hK _ _ (SOk.put0 h3 rfl h (xA := .ref r p q) rfl e2 (fun k => rfl)))
    simp [execOp, ho, g3]
  · rename_i cs p hy
    rw [hy] at e1
    obtain ⟨b, off, csA, rfl, rfl⟩ := er_rop e1
    refine wp_value (v := a.eval x) (w' := w) ?_ (hK _ _ (SOk.put0 h3 rfl h (xA := .rop b off csA p) rfl e2 (fun k => rfl)))
    simp [execOp, ho, e2.1]
  · rename_i f i c hy
    rw [hy] at e1
    obtain ⟨tA, rfl, e3⟩ := er_t e1
    rw [er_v e3] at e2
    refine wp_value (v := a.eval x) (w' := w) ?_ (hK _ _ (SOk.put0 h3 rfl h (xA := .t (.v (.func (.func f) i c))) rfl e2 (fun k => rfl)))
    simp [execOp, ho, e2.1, TA.val, TA.val1]
  · cases h

/-! ### A struct's literal -/
def fillT (offs : List (Nat × Nat)) : List T → List (Nat × T) → Option (List T)
  | cs, [] => some cs
  | cs, (i, y) :: ys => match offs[i]? with
    | some (off, sz) => if y.cells.length = sz ∧ off + sz ≤ cs.length then fillT offs (T.setP cs off [] y.cells) ys else none
    | none => none
def stBuild (E : Env) (N : Nat) (dst : Option Nat) (t : TypeId) (ps : List (Nat × Operand)) (σ : St) : Option St := (E.ty t).bind fun ti => match ti.kind with
  | .struct offs => (σ.takeAll N ps).bind fun y => (fillT offs (TA.erL ti.zero) y.1).bind fun cs => y.2.put? N dst (.t (.agg cs))
  | _ => none
theorem fill_struct {h : Array Obj} {offs : List (Nat × Nat)} {place : Nat → Option (Nat × Nat)} (hp : ∀ i d, offs[i]? = some d → place i = some d) : ∀ (ys : List (Nat × TA)) (cs : List TA) (cs' : List T) (c : Array Value) (vs : List (Nat × Value)), vs = ys.map (fun p => (p.1, TA.val p.2)) → TA.HoldsL Z h (ys.map Prod.snd) → TA.HoldsL Z h cs → (∀ x ∈ cs, x.isCell = true) → c = (TA.vals cs).toArray → fillT offs (TA.erL cs) (ys.map fun p => (p.1, TA.er p.2)) = some cs' →
    ∃ csA, TA.erL csA = cs' ∧ Instr.fill place c vs = some (TA.vals csA).toArray ∧ TA.HoldsL Z h csA ∧ (∀ x ∈ csA, x.isCell = true) ∧ ∀ k, TA.cntL k csA ≤ TA.cntL k cs + TA.cntL k (ys.map Prod.snd)
  | [], cs, cs', c, vs, hv, _, h2, h3, hc, hf => by
    subst hv; subst hc
    simp only [List.map_nil, fillT, Option.some.injEq] at hf
    exact ⟨cs, hf, rfl, h2, h3, fun k => by simp [TA.cntL]⟩
  | (i, y) :: ys, cs, cs', c, vs, hv, h1, h2, h3, hc, hf => by
    subst hv; subst hc
    simp only [List.map_cons, fillT] at hf
    split at hf
    case h_2 => cases hf
    rename_i off sz hoff
    split at hf
    case isFalse => cases hf
    rename_i hb
    obtain ⟨hb1, hb2⟩ := hb
    simp only [List.map_cons, TA.HoldsL] at h1
    rw [TA.er_cells, TA.er_len] at hb1
    rw [TA.er_len] at hb2
    have hcell := val_cells' h1.1
    have hsz : y.val.cells.size = sz := by
      have := congrArg List.length hcell
      rw [TA.vals_length, hb1] at this
      simpa using this
    have hnew : TA.erL (cs.take off ++ y.cells ++ cs.drop (off + y.cells.length)) = T.setP (TA.erL cs) off [] y.er.cells := by
      simp only [T.setP, TA.erL_map, List.map_append, List.map_take, List.map_drop, TA.er_cells, List.length_map]
    rw [← hnew] at hf
    have hset : wrL (TA.vals cs).toArray off y.val.cells.toList = (TA.vals (cs.take off ++ y.cells ++ cs.drop (off + y.cells.length))).toArray := by
      apply Array.ext_getElem?
      intro j
      have hl : off + y.val.cells.toList.length ≤ (TA.vals cs).toArray.size := by simp [TA.vals_length, hsz]; exact hb2
      rw [wrL_get _ _ _ _ hl, hcell, TA.vals_length, hb1]
      simp only [TA.vals_append, List.getElem?_toArray, List.append_assoc]
      have ht : (TA.vals (cs.take off)).length = off := by rw [TA.vals_length, List.length_take]; omega
      by_cases hj1 : j < off
      · rw [if_neg (by omega), List.getElem?_append_left (by omega)]
        simp only [TA.vals, List.getElem?_map, List.getElem?_take]
        rw [if_pos hj1]
      · rw [List.getElem?_append_right (by omega), ht]
        by_cases hj2 : j < off + sz
        · rw [if_pos ⟨by omega, hj2⟩, List.getElem?_append_left (by rw [TA.vals_length, hb1]; omega)]
        · rw [if_neg (by omega), List.getElem?_append_right (by rw [TA.vals_length, hb1]; omega), TA.vals_length, hb1]
          simp only [TA.vals, List.getElem?_map, List.getElem?_drop]
          congr 2
          omega
    have hholds : TA.HoldsL Z h (cs.take off ++ y.cells ++ cs.drop (off + y.cells.length)) :=
      holdsL_append.2 ⟨holdsL_append.2 ⟨TA.holdsL_iff.2 fun t ht => TA.holdsL_iff.1 h2 t (List.mem_of_mem_take ht), TA.holds_cells h1.1⟩, TA.holdsL_iff.2 fun t ht => TA.holdsL_iff.1 h2 t (List.mem_of_mem_drop ht)⟩
    have hcells : ∀ x ∈ cs.take off ++ y.cells ++ cs.drop (off + y.cells.length), x.isCell = true := by
      intro x hx
      simp only [List.mem_append] at hx
      rcases hx with (hx | hx) | hx
      · exact h3 x (List.mem_of_mem_take hx)
      · exact TA.isCell_mem_cells h1.1 x hx
      · exact h3 x (List.mem_of_mem_drop hx)
    obtain ⟨csA, r1, r2, r3, r4, r5⟩ := fill_struct hp ys _ _ _ _ rfl h1.2 hholds hcells rfl hf
    refine ⟨csA, r1, ?_, r3, r4, fun k => ?_⟩
    · rw [List.map_cons, fill_step (hp i _ hoff) hsz (by simp [TA.vals_length]; exact hb2), hset]
      exact r2
    · have := r5 k
      have e1 : TA.cntL k (cs.take off) + TA.cntL k (cs.drop (off + y.cells.length)) ≤ TA.cntL k cs := by
        have e2 := TA.cntL_append k (cs.take off) (cs.drop off)
        rw [List.take_append_drop] at e2
        have e3 := cntL_drop k y.cells.length (cs.drop off)
        rw [List.drop_drop] at e3
        omega
      simp only [TA.cntL_append, TA.cntL_cells] at this
      simp only [List.map_cons, TA.cntL]
      omega
theorem run_places {P : Program} : ∀ (fs : List Field) (offs : List (Nat × Nat)), (fs.mapM fun f => match P.info? f.type with
    | some i => if i.size = 0 then none else some (f.offset, i.size)
    | none => none) = some offs → (fs.mapM (fun f => do pure (f.offset, ← sizeOf f.type)) : Sem (List (Nat × Nat))).run P w = .ok offs w
  | [], offs, h => by
    simp only [List.mapM_nil] at h
    injection h with h
    subst h
    simp
  | f :: fs, offs, h => by
    rw [List.mapM_cons] at h
    obtain ⟨d, hd, h⟩ := Option.bind_eq_some_iff.1 h
    obtain ⟨ds, hds, h⟩ := Option.bind_eq_some_iff.1 h
    injection h with h
    subst h
    have ih := run_places fs ds hds
    split at hd
    case h_2 => cases hd
    rename_i i hi
    split at hd
    · cases hd
    injection hd with hd
    subst hd
    rw [List.mapM_cons]
    have hs : (sizeOf f.type).run P w = .ok i.size w := by simp [sizeOf, typeInfo, hi]
    simp only [Sem.run_bind, hs, Result.andThen_ok, Sem.run_pure, ih]
theorem stBuild_ok {t : TypeId} {ps : Array (Nat × Operand)} (ho : o.op = .build t ps) (h : stBuild E C.N o.dst t ps.toList σ = some σ') (H : SOk C σ a w) (hK : ∀ a' w', SOk C σ' a' w' → K a' w') : o.wp E.P a w K Q := by
  unfold stBuild at h
  obtain ⟨ti, hti, h⟩ := Option.bind_eq_some_iff.1 h
  have ok := E.ok t ti hti
  split at h
  case h_2 => cases h
  rename_i offs hk
  obtain ⟨⟨ys, σ1⟩, hta, h⟩ := Option.bind_eq_some_iff.1 h
  obtain ⟨cs', hcs, h⟩ := Option.bind_eq_some_iff.1 h
  obtain ⟨s0, Z, h1, h2, h3⟩ := id H
  subst h1
  obtain ⟨s, ysA, r1, r2, r3, r4, r5, r6⟩ := takeAll_ok _ _ _ _ h3 hta
  subst r2; subst r1
  have hkk := ok.2.1
  rw [hk] at hkk
  simp only [KindOk, structOffs] at hkk
  split at hkk
  case h_2 => cases hkk
  rename_i fs hu
  have hstr : ti.kind.isStruct = true := by rw [hk]; rfl
  have hvs : (ps.map fun p => (p.1, a.eval p.2)).toList = ysA.map (fun p => (p.1, TA.val p.2)) := by rw [← r6]; simp
  obtain ⟨z1, z2, z3, z4, z5, z6⟩ := zeroE_facts (h := w.heap) ok (fun hn => by simp [TI.kk, hstr] at hn)
  have hplaces : ∃ places : Array (Nat × Nat), (fs.mapM (fun f => do pure (f.offset, ← sizeOf f.type)) : Sem (Array (Nat × Nat))).run E.P w = .ok places w ∧ places.toList = offs := by
    refine ⟨offs.toArray, ?_, by simp⟩
    have := run_places (w := w) fs.toList offs hkk
    rw [show fs = fs.toList.toArray by simp, List.mapM_toArray]
    simp only [Sem.run_map, this]
    rfl
  obtain ⟨places, hp1, hp2⟩ := hplaces
  obtain ⟨csA, f1, f2, f3, f4, f5⟩ := fill_struct (h := w.heap) (offs := offs) (place := (places[·]?)) (fun i d hd => by rw [← hp2] at hd; simpa using hd) ysA ti.zero cs' _ _ hvs r5 z5 z4 (zv_cells ok) hcs
  subst f1
  refine wp_value (v := .agg (TA.vals csA).toArray) (w' := w) ?_ (hK _ _ ?_)
  · simp only [execOp, ho, Instr.build, Sem.run_bind, ok.run_zero w, Result.andThen_ok, run_underlying hu, hp1, f2]
    rfl
  · refine SOk.put? (s := ⟨s.tm, s.bx, [.agg csA]⟩) (r3.drop (fun k => ?_) (by simp only [TA.HoldsL, TA.Holds]; exact ⟨⟨f3, f4⟩, trivial⟩)) (by rfl) h (xA := .t (.agg csA)) (by simp [AVA.er, TA.er]) ⟨rfl, by simp only [TA.Holds]; exact ⟨f3, f4⟩⟩ (fun k => by simp [AVA.cnt_t, TA.cntL])
    rw [r4 k]
    have := f5 k
    have := z6 k
    simp only [TA.cntL, TA.cnt]; omega
end Go.OM
