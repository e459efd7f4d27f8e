import Derived.Test.YtchcogjfmbfccaaOm9
import Derived.Laws.Cells
set_option linter.unusedVariables false
set_option linter.unusedSimpArgs false
namespace Go.OM
variable {C : Ctx} {Z : Nat → Prop} {s : StA} {a : Act} {w w' : World} {E : Env} {o : Oper} {σ σ' : St} {K : Act → World → Prop} {Q : Exit → Act → World → Prop}

theorem Addr_add_lit (b off n : Nat) : (⟨b, off, none⟩ : Addr).add n = ⟨b, off + n, none⟩ := by
  unfold Addr.add
  split
  · rename_i h; subst h; rfl
  · rfl

/-! ### load -/
def stLoad (E : Env) (N : Nat) (dst : Option Nat) (t : TypeId) (x : Operand) (σ : St) : Option St := (E.ty t).bind fun ti => match σ.op x with
  | .ref r p q => (σ.rootCells r).bind fun cs => (T.getP cs p q ti.size).bind fun l => if T.hasOwnL l = true then σ.put? N dst (.al r p q ti.kk) else σ.put? N dst (.t (mkT ti.kk l))
  | .rop cs p => if p + ti.size ≤ cs.length then σ.put? N dst (.t (mkT ti.kk ((cs.drop p).take ti.size))) else none
  | _ => none
theorem run_loadVar {t : TypeId} {ti : TI} (hti : E.ty t = some ti) {b off : Nat} {l : List TA} {c : Array Value} {ety : TypeId} {fr : Nat × Nat} (hb : w.heap[b]? = some (.cells c ety fr)) (hl : l.length = ti.size)
    (hc : ∀ c ∈ l, c.isCell = true) (hm : ∀ j u, (TA.vals l)[j]? = some u → c[off + j]? = some u) : (loadVar t ⟨b, off, none⟩).run E.P w = .ok (mkVal ti.kk l) w := by
  have ok := E.ok t ti hti
  have hcell : ∀ j u, (TA.vals l)[j]? = some u → w.cell? ((⟨b, off, none⟩ : Addr).add j) = some u := by
    intro j u hj
    rw [Addr_add_lit]
    simp [World.cell?, hb, hm j u hj]
  unfold loadVar
  simp only [Sem.run_bind, ok.run_isAgg w, Result.andThen_ok]
  unfold TI.kk
  by_cases hs : ti.kind.isStruct = true
  · rw [if_pos hs, if_pos hs]
    have h2 := run_loadCells_list (P := E.P) w ⟨b, off, none⟩ (TA.vals l) hcell
    rw [TA.vals_length, hl] at h2
    simp only [Sem.run_bind, ok.run_sizeOf w, Result.andThen_ok, h2]
    rfl
  · rw [if_neg hs, if_neg hs]
    have h1 := ok.one (by simpa using hs)
    rw [h1] at hl
    obtain ⟨x, rfl⟩ := List.length_eq_one_iff.1 hl
    have h2 := hcell 0 x.val1 rfl
    rw [Addr_add_lit, Nat.add_zero] at h2
    simp only [load, Sem.run, h2, mkVal]
theorem kk_getD (E : Env) {t : TypeId} {ti : TI} (hti : E.ty t = some ti) : ti.kk.getD 1 = ti.size ∧ (ti.kk = none → ti.size = 1) := by
  have ok := E.ok t ti hti
  unfold TI.kk
  by_cases hs : ti.kind.isStruct = true
  · rw [if_pos hs]; exact ⟨rfl, fun h => by cases h⟩
  · rw [if_neg hs]
    have := ok.one (by simpa using hs)
    exact ⟨by simp [this], fun _ => this⟩
theorem stLoad_ok {t : TypeId} {x : Operand} (ho : o.op = .load t x) (h : stLoad E C.N o.dst t x σ = some σ') (H : SOk C σ a w) (hK : ∀ a' w', SOk C σ' a' w' → K a' w') : o.wp E.P a w K Q := by
  unfold stLoad at h
  obtain ⟨ti, hti, h⟩ := Option.bind_eq_some_iff.1 h
  obtain ⟨s, Z, h1, h2, h3⟩ := id H
  subst h1
  obtain ⟨xA, e1, e2⟩ := opA h3 x
  obtain ⟨kg, k1⟩ := kk_getD E hti
  split at h
  · rename_i r p q hx
    rw [hx] at e1
    rw [er_ref e1] at e2
    obtain ⟨csT, hcs, h⟩ := Option.bind_eq_some_iff.1 h
    obtain ⟨lT, hl, h⟩ := Option.bind_eq_some_iff.1 h
    obtain ⟨base, cs, ad, g1, g2, g3⟩ := e2
    rw [StA.er_rootCells, g1] at hcs
    simp only [Option.map_some, Option.some.injEq] at hcs
    subst hcs
    obtain ⟨l, t1, t2⟩ := TA.er_get _ _ _ _ _ hl
    subst t2
    obtain ⟨r1, r2, r3, r4⟩ := root_holds h3 g1
    obtain ⟨q1, q2⟩ := getP_holds q _ _ _ _ t1 r1 r2
    obtain ⟨c, ety, m1, m2, m3⟩ := place_mem q base cs p ti.size l ad t1 g2 r1 r3
    have hlen := TA.getP_length _ _ _ _ _ t1
    have hrun := run_loadVar hti (w := w) m1 hlen q2 m3
    refine wp_value (v := mkVal ti.kk l) (w' := w) ?_ (hK _ _ ?_)
    · simp only [execOp, ho, g3, Instr.loadAt, Instr.sureAddr, Sem.run_bind, Sem.run_pure, Result.andThen_ok, hrun]
    · split at h
      · rename_i hown
        exact SOk.put0 h3 rfl h (xA := .al r p q ti.kk) rfl ⟨base, cs, l, g1, by rw [kg]; exact t1, hown, rfl⟩ (fun k => rfl)
      · rename_i hno
        have hl1 : ti.kk = none → l.length = 1 := fun hk => by rw [hlen, k1 hk]
        refine SOk.put0 h3 rfl h (xA := .t (mkTA ti.kk l)) (by simp [AVA.er, er_mkTA]) ⟨(mkTA_val hl1 q2).symm, mkTA_holds hl1 q2 q1⟩ (fun k => ?_)
        rw [AVA.cnt_t, mkTA_cnt k hl1]
        exact TA.cntL_of_noOwn k l (by simpa using hno)
  · rename_i csT p hx
    rw [hx] at e1
    obtain ⟨b, off, cs, rfl, rfl⟩ := er_rop e1
    obtain ⟨g1, g2, g3, g4, g5, g6⟩ := e2
    split at h
    case isFalse => cases h
    rename_i hle
    rw [TA.er_len] at hle
    obtain ⟨c, ety, fr, m1, m2, m3⟩ := g3
    have hlen : ((cs.drop p).take ti.size).length = ti.size := by simp; omega
    have hc : ∀ c ∈ (cs.drop p).take ti.size, c.isCell = true := fun c hc => g6 c (List.mem_of_mem_drop (List.mem_of_mem_take hc))
    have hrun := run_loadVar hti (w := w) (off := off + p) (l := (cs.drop p).take ti.size) m1 hlen hc (fun j u hj => by
      rw [Nat.add_assoc]
      refine m3 (p + j) u ?_
      rw [TA.vals_get] at hj ⊢
      rw [List.getElem?_take] at hj
      split at hj
      · rw [List.getElem?_drop] at hj; exact hj
      · cases hj)
    refine wp_value (v := mkVal ti.kk ((cs.drop p).take ti.size)) (w' := w) ?_ (hK _ _ ?_)
    · simp only [execOp, ho, g1, Instr.loadAt, Instr.sureAddr, Sem.run_bind, Sem.run_pure, Result.andThen_ok, hrun]
    · have hl1 : ti.kk = none → ((cs.drop p).take ti.size).length = 1 := fun hk => by rw [hlen, k1 hk]
      have hcnt : ∀ k, TA.cntL k ((cs.drop p).take ti.size) = 0 := by
        intro k
        have key : ∀ (l : List TA), TA.cntL k l = 0 → ∀ m : List TA, (∀ t ∈ m, t ∈ l) → TA.cntL k m = 0 := by
          intro l hl m
          induction m with
          | nil => intro _; rfl
          | cons t ts ih =>
            intro hm
            obtain ⟨i, hi⟩ := List.mem_iff_getElem?.1 (hm t (by simp))
            have := TA.cnt_le_cntL k hi
            simp only [TA.cntL, ih (fun t ht => hm t (by simp [ht]))]
            omega
        exact key cs (g5 k) _ (fun t ht => List.mem_of_mem_drop (List.mem_of_mem_take ht))
      refine SOk.put0 h3 rfl h (xA := .t (mkTA ti.kk ((cs.drop p).take ti.size))) ?_ ⟨(mkTA_val hl1 hc).symm, mkTA_holds hl1 hc ?_⟩ (fun k => ?_)
      · simp [AVA.er, er_mkTA, TA.erL_map]
      · exact TA.holdsL_iff.2 fun t ht => TA.holdsL_iff.1 g4 t (List.mem_of_mem_drop (List.mem_of_mem_take ht))
      · rw [AVA.cnt_t, mkTA_cnt k hl1]; exact hcnt k
  · cases h

/-! ### store -/
def stStore (E : Env) (N : Nat) (t : TypeId) (x y : Operand) (σ : St) : Option St := (E.ty t).bind fun ti => (σ.take N y).bind fun z => match z.2.op x with
  | .ref r p q => (z.2.rootCells r).bind fun cs => (T.getP cs p q ti.size).bind fun l =>
    if z.1.cells.length = ti.size ∧ 0 < ti.size then some (z.2.setRoot (T.hasOwnL l || z.1.hasOwn) r (T.setP cs p q z.1.cells)) else none
  | _ => none
theorem val_cells (x : TA) : x.val.cells.toList = TA.vals x.cells ∨ (∃ v, x = .v v) ∨ (∃ v, x = .dead v) := by
  cases x with
  | agg cs => left; simp [TA.val, Value.cells, TA.cells]
  | nl _ _ _ => left; rfl
  | sl _ _ _ _ _ _ => left; rfl
  | v x => right; left; exact ⟨x, rfl⟩
  | dead x => right; right; exact ⟨x, rfl⟩
theorem val_cells' {x : TA} {h : Array Obj} (hx : x.Holds Z h) : x.val.cells.toList = TA.vals x.cells := by
  rcases val_cells x with h1 | ⟨v, rfl⟩ | ⟨v, rfl⟩
  · exact h1
  · simp only [TA.Holds] at hx
    cases v <;> first | (simp [TA.OneCell] at hx; done) | rfl
  · simp only [TA.Holds] at hx
    cases v <;> first | (simp [TA.OneCell] at hx; done) | rfl
theorem vals_oneCell {h : Array Obj} {l : List TA} (hl : TA.HoldsL Z h l) (hc : ∀ c ∈ l, c.isCell = true) : ∀ v ∈ TA.vals l, TA.OneCell v := by
  intro v hv
  obtain ⟨c, hcm, rfl⟩ := List.mem_map.1 hv
  exact TA.oneCell_val1 (hc c hcm) (TA.holdsL_iff.1 hl c hcm)
theorem stStore_ok {t : TypeId} {x y : Operand} (ho : o.op = .store t x y) (hd : o.dst = none) (h : stStore E C.N t x y σ = some σ') (H : SOk C σ a w) (hK : ∀ a' w', SOk C σ' a' w' → K a' w') : o.wp E.P a w K Q := by
  unfold stStore at h
  obtain ⟨ti, hti, h⟩ := Option.bind_eq_some_iff.1 h
  obtain ⟨⟨z, σ1⟩, ht, h⟩ := Option.bind_eq_some_iff.1 h
  obtain ⟨s0, Z, h1, h2, h3⟩ := id H
  subst h1
  obtain ⟨s, zA, t1, t2, t3, t4, t5, t6⟩ := take_ok h3 ht
  subst t1; subst t2
  have ok := E.ok t ti hti
  obtain ⟨xA, e1, e2⟩ := opA t4 x
  split at h
  case h_2 => cases h
  rename_i r p q hx
  rw [hx] at e1
  rw [er_ref e1] at e2
  obtain ⟨csT, hcs, h⟩ := Option.bind_eq_some_iff.1 h
  obtain ⟨lT, hl, h⟩ := Option.bind_eq_some_iff.1 h
  obtain ⟨base, cs, ad, g1, g2, g3⟩ := e2
  rw [StA.er_rootCells, g1] at hcs
  simp only [Option.map_some, Option.some.injEq] at hcs
  subst hcs
  obtain ⟨l, r1, r2⟩ := TA.er_get _ _ _ _ _ hl
  subst r2
  split at h
  case isFalse => cases h
  rename_i hsz
  rw [TA.er_cells, TA.er_len] at hsz
  injection h with h
  obtain ⟨q1, q2, q3, q4⟩ := root_holds t4 g1
  obtain ⟨c, ety, m1, m2, m3⟩ := place_mem q base cs p ti.size l ad r1 g2 q1 q3
  have hcells := TA.holds_cells t6
  have hisc := TA.isCell_mem_cells t6
  have hv := val_cells' t6
  have hst := run_store_row (P := E.P) (w := w) (b := ad.1) (off := ad.2) (TA.vals zA.cells) m1 (by rw [TA.vals_length, hsz.1]; exact m2) (vals_oneCell hcells hisc)
  have hstep := t4.storePlace (full := T.hasOwnL (TA.erL l) || zA.er.hasOwn) (hd' := []) g1 r1 g2 hsz.1 hsz.2 hcells hisc (fun k => by rw [t3]; simp only [TA.cntL, TA.cntL_cells]; omega) (by simp [TA.HoldsL]) (fun hf => by
    simp only [Bool.or_eq_false_iff] at hf; exact hf.1)
  refine wp_skip' (w' := { w with heap := wr w.heap ad.1 ad.2 (TA.vals zA.cells) }) ?_ ?_
  · have hs : zA.val.cells.size = ti.size := by
      have := congrArg List.length hv
      rw [TA.vals_length, hsz.1] at this
      simpa using this
    simp only [execOp, ho, g3, t5, Instr.storeAt, Instr.sureAddr, storeVar, Sem.run_bind, Sem.run_pure, Result.andThen_ok, ok.run_sizeOf w, hs, ne_eq, not_true_eq_false, if_false, hv, hst]
  · rw [hd]
    refine hK _ _ ⟨_, Z, ?_, hd_setRoot _ _ _ _ _, hstep⟩
    rw [StA.er_setRoot, TA.er_set, ← h, TA.er_cells]

/-! ### addresses -/
def addOff : Nat → Path → Nat → Nat × Path
  | o, [], d => (o + d, [])
  | o, (i, o') :: p, d => (o, (i, (addOff o' p d).1) :: (addOff o' p d).2)
theorem addr_addOff : ∀ (p : Path) (base : Option (Nat × Nat)) (cs : List TA) (o d : Nat) (ad : Nat × Nat), TA.addrP base cs o p = some ad → TA.addrP base cs (addOff o p d).1 (addOff o p d).2 = some (ad.1, ad.2 + d)
  | [], base, cs, o, d, ad, h => by
    simp only [TA.addrP] at h
    obtain ⟨b, hb, rfl⟩ := Option.map_eq_some_iff.1 h
    simp [addOff, TA.addrP, hb, Nat.add_assoc]
  | (i, o') :: p, base, cs, o, d, ad, h => by
    simp only [TA.addrP] at h
    split at h
    · rename_i s b off cap es hcs
      split at h
      · rename_i e he
        simp only [addOff, TA.addrP, hcs, he]
        exact addr_addOff p _ _ _ d ad h
      · cases h
    · cases h
def stField (E : Env) (N : Nat) (dst : Option Nat) (t : TypeId) (x : Operand) (f : Nat) (σ : St) : Option St := match kindOf E t with
  | some (.struct offs) => (offs[f]?).bind fun d => match σ.op x with
    | .ref r p q => σ.put? N dst (.ref r (addOff p q d.1).1 (addOff p q d.1).2)
    | .rop cs p => σ.put? N dst (.rop cs (p + d.1))
    | _ => none
  | _ => none
theorem run_fieldPlace {P : Program} {t : TypeId} {offs : List (Nat × Nat)} {f b off : Nat} {d : Nat × Nat} (hk : structOffs P t = some offs) (hf : offs[f]? = some d) :
    (Instr.fieldAt t (.pointer (some ⟨b, off, none⟩)) f).run P w = .ok (.pointer (some ⟨b, off + d.1, none⟩)) w := by
  unfold structOffs at hk
  split at hk
  · rename_i fs hfs
    have key : ∀ (l : List Field) (offs : List (Nat × Nat)) (f : Nat) (d : Nat × Nat), l.mapM (fun f => match P.info? f.type with | some i => if i.size = 0 then none else some (f.offset, i.size) | none => none) = some offs → offs[f]? = some d →
        ∃ fl i, l[f]? = some fl ∧ P.info? fl.type = some i ∧ i.size ≠ 0 ∧ (fl.offset, i.size) = d := by
      intro l
      induction l with
      | nil => intro offs f d h hf; simp at h; subst h; simp at hf
      | cons x xs ih =>
        intro offs f d h hf
        simp only [List.mapM_cons, Option.bind_eq_bind, Option.pure_def] at h
        obtain ⟨y, hy, h⟩ := Option.bind_eq_some_iff.1 h
        obtain ⟨ys, hys, h⟩ := Option.bind_eq_some_iff.1 h
        injection h with h
        subst h
        cases f with
        | zero =>
          simp only [List.getElem?_cons_zero, Option.some.injEq] at hf
          subst hf
          split at hy
          · rename_i i hi
            split at hy
            · cases hy
            · rename_i hne
              injection hy with hy
              exact ⟨x, i, rfl, hi, hne, hy⟩
          · cases hy
        | succ f =>
          simp only [List.getElem?_cons_succ] at hf ⊢
          exact ih ys f d hys hf
    obtain ⟨fl, i, h1, h2, h3, h4⟩ := key _ _ _ _ hk hf
    have h1' : fs[f]? = some fl := by simpa using h1
    subst h4
    simp only [Instr.fieldAt, Sem.run_bind, run_underlying hfs, Result.andThen_ok, h1', Instr.sureAddr, Sem.run_pure, fieldPlace, sizeOf, typeInfo]
    simp [h2, h3, Addr_add_lit]
  · cases hk
theorem stField_ok {t : TypeId} {x : Operand} {f : Nat} (ho : o.op = .fieldAddr t x f) (h : stField E C.N o.dst t x f σ = some σ') (H : SOk C σ a w) (hK : ∀ a' w', SOk C σ' a' w' → K a' w') : o.wp E.P a w K Q := by
  unfold stField at h
  split at h
  case h_2 => cases h
  rename_i offs hk
  obtain ⟨d, hd, h⟩ := Option.bind_eq_some_iff.1 h
  have hk' : structOffs E.P t = some offs := kindOf_ok hk
  obtain ⟨s, Z, h1, h2, h3⟩ := id H
  subst h1
  obtain ⟨xA, e1, e2⟩ := opA h3 x
  split at h
  · rename_i r p q hx
    rw [hx] at e1
    rw [er_ref e1] at e2
    obtain ⟨base, cs, ad, g1, g2, g3⟩ := e2
    refine wp_value (v := .pointer (some ⟨ad.1, ad.2 + d.1, none⟩)) (w' := w) ?_ (hK _ _ ?_)
    · simp only [execOp, ho, g3, Sem.run_bind, run_fieldPlace hk' hd, Result.andThen_ok]; rfl
    · exact SOk.put0 h3 rfl h (xA := .ref r (addOff p q d.1).1 (addOff p q d.1).2) rfl ⟨base, cs, _, g1, addr_addOff q base cs p d.1 ad g2, rfl⟩ (fun k => rfl)
  · rename_i csT p hx
    rw [hx] at e1
    obtain ⟨b, off, cs, rfl, rfl⟩ := er_rop e1
    obtain ⟨g1, g2, g3, g4, g5, g6⟩ := e2
    refine wp_value (v := .pointer (some ⟨b, off + (p + d.1), none⟩)) (w' := w) ?_ (hK _ _ ?_)
    · rw [← Nat.add_assoc]
      simp only [execOp, ho, g1, Sem.run_bind, run_fieldPlace hk' hd, Result.andThen_ok]; rfl
    · exact SOk.put0 h3 rfl h (xA := .rop b off cs (p + d.1)) rfl ⟨rfl, g2, g3, g4, g5, g6⟩ (fun k => rfl)
  · cases h
end Go.OM
