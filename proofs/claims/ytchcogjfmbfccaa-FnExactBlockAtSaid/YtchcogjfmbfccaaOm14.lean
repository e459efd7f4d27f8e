import Derived.Test.YtchcogjfmbfccaaOm13
set_option linter.unusedVariables false
set_option linter.unusedSimpArgs false
namespace Go.OM
variable {C : Ctx} {Z : Nat → Prop} {s : StA} {a : Act} {w w' : World} {E : Env} {o : Oper} {σ σ' : St} {K : Act → World → Prop} {Q : Exit → Act → World → Prop}

/-! ### A new variable in memory -/
theorem ValOk.killAll {s' : StA} {h : Array Obj} {x : AVA} {v : Value} (d : Nat) (H : ValOk s Z h x v) (hr : ∀ r', r' ≠ .box d → s'.rootCells r' = s.rootCells r') : ValOk s' Z h (x.killAll (.box d)) v := by
  cases x with
  | al r' o p k =>
    simp only [AVA.killAll]
    split
    · trivial
    · rename_i hne
      exact H.keep (fun _ hz => hz) (fun _ _ => rfl) (fun r o p k e base cs l h1 h2 h3 => hr _ (by injection e with e; rw [← e]; exact hne)) (fun r o p e => by cases e)
  | ref r' o p =>
    simp only [AVA.killAll]
    split
    · trivial
    · rename_i hne
      exact H.keep (fun _ hz => hz) (fun _ _ => rfl) (fun r o p k e => by cases e) (fun r o p e base cs ad h1 h2 => ⟨base, cs, (hr _ (by injection e with e; rw [← e]; exact hne)).trans h1, h2⟩)
  | u => trivial
  | t x => exact H
  | tup xs => exact H
  | rop b off cs o => exact H
theorem tot_put_le {α : Type} (f : α → Nat) (l : List (Nat × α)) (n : Nat) (x : α) : tot f (put l n x) ≤ tot f l + f x := by
  cases h : look l n with
  | none => rw [tot_put_none f h]; omega
  | some y => have := tot_put_some f (x := x) h; omega
theorem SRel.newBox {d : Nat} {cs hd0 : List TA} {ety : TypeId} (H : SRel C Z s a w) (hdN : d < C.N) (hw : w'.heap = w.heap.push (.cells (TA.vals cs).toArray ety)) (h1 : w'.os = w.os) (h2 : w'.tape = w.tape) (h3 : w'.output = w.output)
    (hes : TA.HoldsL Z w.heap cs) (hic : ∀ c ∈ cs, c.isCell = true) (h0 : TA.HoldsL Z w.heap hd0) (hce : ∀ k, TA.cntL k cs + TA.cntL k hd0 ≤ TA.cntL k s.hd) :
    SRel C Z ⟨(s.killAll (.box d)).tm, Go.OM.put s.bx d ⟨w.heap.size, 0, cs⟩, hd0⟩ a w' := by
  have g : Grow w w' := Grow.push hw h1 h2 h3
  have H' := H.grow g
  have hfr : ∀ (l : List TA), TA.HoldsL Z w.heap l → TA.HoldsL Z w'.heap l := fun l hl => TA.HoldsL.frame l hl (fun _ hz => hz) (fun k hk => g.block k (by
    rcases hk with hk | hk
    · exact TA.HoldsL.lt l hl hk
    · exact H.zlt k hk))
  have hcnt : ∀ k, (StA.mk (s.killAll (.box d)).tm (Go.OM.put s.bx d ⟨w.heap.size, 0, cs⟩) hd0).cnt k ≤ s.cnt k + (if k = w.heap.size then 1 else 0) := by
    intro k
    have e1 := hce k
    have e2 := tot_put_le (BoxA.cnt k) s.bx d ⟨w.heap.size, 0, cs⟩
    have e3 : BoxA.cnt k ⟨w.heap.size, 0, cs⟩ = (if k = w.heap.size then 1 else 0) + TA.cntL k cs := by
      simp only [BoxA.cnt]
      by_cases e : k = w.heap.size
      · rw [if_pos e.symm, if_pos e]
      · rw [if_neg (Ne.symm e), if_neg e]
    have e4 : tot (AVA.cnt k) (s.killAll (.box d)).tm = tot (AVA.cnt k) s.tm := by
      simp only [StA.killAll]
      rw [tot_map]
      exact congrArg (fun f => tot f s.tm) (funext fun x => AVA.cnt_killAll _ k x)
    simp only [StA.cnt]
    omega
  have hb0 : s.cnt w.heap.size = 0 := by
    rcases Nat.eq_zero_or_pos (s.cnt w.heap.size) with h | h
    · exact h
    · have := H.lt _ h; omega
  have hsp : ∀ k, 0 < (StA.mk (s.killAll (.box d)).tm (Go.OM.put s.bx d ⟨w.heap.size, 0, cs⟩) hd0).cnt k → k = w.heap.size ∨ 0 < s.cnt k := by
    intro k hk
    by_cases e : k = w.heap.size
    · exact .inl e
    · have := hcnt k
      rw [if_neg e] at this
      exact .inr (by omega)
  have hnewlt : w.heap.size < w'.heap.size := by rw [hw]; simp
  have hpb : ∀ y ∈ C.PB, y.1 < w.heap.size := by
    intro y hy
    obtain ⟨c, c', e, fr, q1, q2, _⟩ := H.part y hy
    have h3 : y.1 < C.w0.heap.size := (Array.getElem?_eq_some_iff.1 q1).1
    have h4 := H.grown
    omega
  exact {
    defers := H'.defers
    size := H'.size
    tm := fun n y hy => by
      simp only [StA.killAll, look_map] at hy
      obtain ⟨z, hz, rfl⟩ := Option.map_eq_some_iff.1 hy
      refine (H'.tm n z hz).killAll d (fun r' hr => ?_)
      cases r' with
      | slot m => exact rootCells_killAll s (.box d) (.slot m)
      | box m =>
        have hm : m ≠ d := fun e => hr (by rw [e])
        simp only [StA.rootCells, look_put_ne _ _ hm]
    bx := fun n y hy => by
      rw [look_put] at hy
      by_cases hn : n = d
      · rw [if_pos hn] at hy
        injection hy with hy
        subst hy
        refine ⟨⟨_, ety, (0, 0), by rw [hw]; exact push_self, fun _ => ⟨by simp [TA.vals_length], rfl⟩, fun j u hj => by rw [Nat.zero_add]; simpa using hj⟩, hfr cs hes, hic⟩
      · rw [if_neg hn] at hy
        exact H'.bx n y hy
    uniq := fun k => by
      have := hcnt k
      by_cases e : k = w.heap.size
      · subst e; rw [if_pos rfl, hb0] at this; omega
      · rw [if_neg e] at this; have := H.uniq k; omega
    notZ := fun k hk => by
      rcases hsp k hk with e | e
      · subst e; intro hz; have := H.zlt _ hz; omega
      · exact H.notZ k e
    lt := fun k hk => by
      rcases hsp k hk with e | e
      · subst e; exact hnewlt
      · exact H'.lt k e
    zlt := H'.zlt
    own := fun k hk => by
      rcases hsp k hk with e | e
      · subst e; right; exact H.grown
      · exact H.own k e
    z0 := H'.z0
    zext := H'.zext
    pk := fun x hx => by
      obtain ⟨q1, cs0, q2, q3⟩ := H.pk x hx
      exact ⟨q1, cs0, by show look (Go.OM.put s.bx d _) x.1 = _; rw [look_put_ne _ _ (by omega)]; exact q2, q3⟩
    os := H'.os
    tape := H'.tape
    output := H'.output
    grown := H'.grown
    kept := H'.kept
    part := H'.part
    pbx := fun x hx n y hy hb => by
      rw [look_put] at hy
      by_cases hn : n = d
      · rw [if_pos hn] at hy
        injection hy with hy
        subst hy
        have := hpb x hx
        simp only at hb
        omega
      · rw [if_neg hn] at hy
        exact H'.pbx x hx n y hy hb
    pbo := fun x hx n y hy => by
      simp only [StA.killAll, look_map] at hy
      obtain ⟨z, hz, rfl⟩ := Option.map_eq_some_iff.1 hy
      rw [AVA.cnt_killAll]
      exact H.pbo x hx n z hz
    pbi := fun x hx n y hy => by
      rw [look_put] at hy
      by_cases hn : n = d
      · rw [if_pos hn] at hy
        injection hy with hy
        subst hy
        have e1 := hce x.1
        have e2 := H.pbh x hx
        show TA.cntL x.1 cs = 0
        omega
      · rw [if_neg hn] at hy
        exact H'.pbi x hx n y hy
    hand := hfr hd0 h0
    pbh := fun x hx => by
      have e1 := hce x.1
      have e2 := H.pbh x hx
      show TA.cntL x.1 hd0 = 0
      omega }
theorem put_lt {d : Nat} {x : AV} {N : Nat} (h : σ.put? N (some d) x = some σ') : d < N := by
  unfold St.put? at h
  simp only at h
  split at h
  · rename_i hd; exact hd.1
  · cases h
def St.newBox (σ : St) (N : Nat) (dst : Option Nat) (cs : List T) : Option St := match dst with
  | some d => (St.mk (σ.killAll (.box d)).tm (put σ.bx d cs)).put? N (some d) (.ref (.box d) 0 [])
  | none => none
theorem newBox_put {d : Nat} {cs : List TA} {b : Nat} (H : SRel C Z s a w) (hlk : look s.bx d = some ⟨b, 0, cs⟩) (hp : s.er.put? C.N (some d) (.ref (.box d) 0 []) = some σ') : SOk C σ' (a.put (some d) (.pointer (some ⟨b, 0, none⟩))) w :=
  SOk.put0 H rfl hp (xA := .ref (.box d) 0 []) rfl ⟨some (b, 0), cs, (b, 0), by simp [StA.rootCells, hlk], by simp [TA.addrP], rfl⟩ (fun k => rfl)
theorem er_newBox (s : StA) (d : Nat) (x : BoxA) (hd : List TA) : (StA.mk (s.killAll (.box d)).tm (put s.bx d x) hd).er = St.mk (s.er.killAll (.box d)).tm (put s.er.bx d (TA.erL x.cs)) := by
  have h1 : (StA.mk (s.killAll (.box d)).tm (put s.bx d x) hd).er.tm = (s.er.killAll (.box d)).tm := by
    have h5 : (s.killAll (.box d)).er.tm = (s.er.killAll (.box d)).tm := by rw [StA.er_killAll]
    exact h5
  have h2 : (StA.mk (s.killAll (.box d)).tm (put s.bx d x) hd).er.bx = put s.er.bx d (TA.erL x.cs) := put_map (fun x : BoxA => TA.erL x.cs) s.bx d x
  cases hh : (StA.mk (s.killAll (.box d)).tm (put s.bx d x) hd).er
  rw [hh] at h1 h2
  simp only at h1 h2
  rw [h1, h2]
def stBox (N : Nat) (dst : Option Nat) (x : Operand) (σ : St) : Option St := (σ.take N x).bind fun y => y.2.newBox N dst y.1.cells
theorem stBox_ok {t : TypeId} {x : Operand} (ho : o.op = .box t x) (h : stBox C.N o.dst x σ = some σ') (H : SOk C σ a w) (hK : ∀ a' w', SOk C σ' a' w' → K a' w') : o.wp E.P a w K Q := by
  unfold stBox at h
  obtain ⟨⟨y, σ1⟩, ht, h⟩ := Option.bind_eq_some_iff.1 h
  obtain ⟨s0, Z, h1, h2, h3⟩ := id H
  subst h1
  obtain ⟨s, yA, t1, t2, t3, t4, t5, t6⟩ := take_ok h3 ht
  subst t1; subst t2
  unfold St.newBox at h
  split at h
  case h_2 => cases h
  rename_i d hd
  have hv := val_cells' t6
  have hv' : yA.val.cells = (TA.vals yA.cells).toArray := by
    apply Array.toList_inj.1
    rw [hv]
  have hnew := t4.newBox (d := d) (w' := { w with heap := w.heap.push (.cells (TA.vals yA.cells).toArray t) }) (cs := yA.cells) (hd0 := []) (put_lt h) rfl rfl rfl rfl (TA.holds_cells t6) (TA.isCell_mem_cells t6) (by simp [TA.HoldsL]) (fun k => by rw [t3]; simp only [TA.cntL, TA.cntL_cells]; omega)
  refine wp_value (v := .pointer (some ⟨w.heap.size, 0, none⟩)) (w' := { w with heap := w.heap.push (.cells (TA.vals yA.cells).toArray t) }) ?_ (hK _ _ ?_)
  · simp [execOp, ho, t5, Instr.box, newVar, newRow, hv']
  · rw [hd]
    refine newBox_put hnew (look_put_self _ _ _) ?_
    rw [er_newBox]
    simp only [TA.er_cells] at h
    exact h
def stAlloc (E : Env) (N : Nat) (dst : Option Nat) (t : TypeId) (σ : St) : Option St := (E.ty t).bind fun ti => σ.newBox N dst (TA.erL ti.zero)
theorem stAlloc_ok {t : TypeId} (ho : o.op = .alloc t) (h : stAlloc E C.N o.dst t σ = some σ') (H : SOk C σ a w) (hK : ∀ a' w', SOk C σ' a' w' → K a' w') : o.wp E.P a w K Q := by
  unfold stAlloc at h
  obtain ⟨ti, hti, h⟩ := Option.bind_eq_some_iff.1 h
  obtain ⟨s, Z, h1, h2, h3⟩ := id H
  subst h1
  have ok := E.ok t ti hti
  obtain ⟨kg, k1⟩ := kk_getD E hti
  obtain ⟨z1, z2, z3, z4, z5, z6⟩ := zeroE_facts (E := E) (Z := Z) ok k1 (h := w.heap)
  unfold St.newBox at h
  split at h
  case h_2 => cases h
  rename_i d hd
  have hnew := h3.newBox (d := d) (w' := { w with heap := w.heap.push (.cells (TA.vals ti.zero).toArray t) }) (cs := ti.zero) (hd0 := []) (put_lt h) rfl rfl rfl rfl z5 z4 (by simp [TA.HoldsL]) (fun k => by rw [z6]; simp only [TA.cntL]; omega)
  refine wp_value (v := .pointer (some ⟨w.heap.size, 0, none⟩)) (w' := { w with heap := w.heap.push (.cells (TA.vals ti.zero).toArray t) }) ?_ (hK _ _ ?_)
  · simp only [execOp, ho, Instr.alloc, Sem.run_bind, ok.run_zero w, Result.andThen_ok]
    simp [newVar, newRow, zv_cells ok]
  · rw [hd]
    refine newBox_put hnew (look_put_self _ _ _) ?_
    rw [er_newBox]
    exact h
end Go.OM
