import Derived.Test.YtelnmegngpocjaaGreatDoorOmB
import Derived.Sort.Grow
import Derived.Deep.Draws
import Derived.Sort.OwnSortedInts
set_option linter.unusedVariables false
set_option linter.unusedSimpArgs false
set_option linter.unusedVariables false
set_option linter.unusedSimpArgs false
namespace Go.OM
variable {C : Ctx} {E : Env} {σ σ' : St} {S : Exit → St → Prop} {d : Code}
def famL (D : Nat → Bool) : Nat → List (Nat × AV) → List (Nat × AV)
  | _, [] => []
  | i, (k, v) :: vs => (k, if D i = true then v else .u) :: famL D (i + 1) vs
theorem famL_keys (D : Nat → Bool) : ∀ (i : Nat) (vs : List (Nat × AV)), (famL D i vs).map Prod.fst = vs.map Prod.fst
  | _, [] => rfl
  | i, (k, v) :: vs => by simp [famL, famL_keys D (i + 1) vs]
theorem famL_all (D : Nat → Bool) : ∀ (i : Nat) (vs : List (Nat × AV)), (∀ j, i ≤ j → j < i + vs.length → D j = true) → famL D i vs = vs
  | _, [], _ => rfl
  | i, (k, v) :: vs, h => by
    rw [famL, h i (Nat.le_refl _) (by simp), if_pos rfl, famL_all D (i + 1) vs (fun j h1 h2 => h j (by omega) (by simp only [List.length_cons]; omega))]
theorem famL_none : ∀ (i : Nat) (vs : List (Nat × AV)), famL (fun _ => false) i vs = vs.map fun e => (e.1, .u)
  | _, [] => rfl
  | i, (k, v) :: vs => by simp [famL, famL_none (i + 1) vs]
theorem look_none {α : Type} : ∀ {l : List (Nat × α)} {n : Nat}, n ∉ l.map Prod.fst → look l n = none
  | [], n, _ => rfl
  | (k, x) :: l, n, h => by
    simp only [List.map_cons, List.mem_cons, not_or] at h
    simp only [look, if_neg (fun e : k = n => h.1 e.symm)]
    exact look_none h.2
theorem famL_get (D : Nat → Bool) : ∀ (i : Nat) (vs : List (Nat × AV)) (j : Nat) (e : Nat × AV), (vs.map Prod.fst).Nodup → vs[j]? = some e → look (famL D i vs) e.1 = some (if D (i + j) = true then e.2 else .u)
  | i, [], j, e, _, h => by simp at h
  | i, (k, v) :: vs, j, e, hn, h => by
    simp only [List.map_cons, List.nodup_cons] at hn
    cases j with
    | zero =>
      simp only [List.getElem?_cons_zero, Option.some.injEq] at h
      subst h
      simp [famL, look]
    | succ j =>
      simp only [List.getElem?_cons_succ] at h
      have hne : k ≠ e.1 := fun hk => hn.1 (List.mem_map.2 ⟨e, List.mem_of_getElem? h, hk.symm⟩)
      simp only [famL, look, if_neg hne]
      rw [famL_get D (i + 1) vs j e hn.2 h, show i + 1 + j = i + (j + 1) by omega]
theorem put_mem {α : Type} : ∀ (l m : List (Nat × α)) (n : Nat) (x : α), n ∉ l.map Prod.fst → put (l ++ m) n x = l ++ put m n x
  | [], m, n, x, _ => rfl
  | (k, y) :: l, m, n, x, h => by
    simp only [List.map_cons, List.mem_cons, not_or] at h
    simp only [List.cons_append, put, if_neg (fun e : k = n => h.1 e.symm), put_mem l m n x h.2]
theorem put_famL (D : Nat → Bool) : ∀ (i : Nat) (vs : List (Nat × AV)) (j : Nat) (e : Nat × AV), (vs.map Prod.fst).Nodup → vs[j]? = some e → put (famL D i vs) e.1 e.2 = famL (upd1 D (i + j)) i vs
  | i, [], j, e, _, h => by simp at h
  | i, (k, v) :: vs, j, e, hn, h => by
    simp only [List.map_cons, List.nodup_cons] at hn
    have hun : ∀ (n : Nat) (i : Nat) (vs : List (Nat × AV)), n < i → famL (upd1 D n) i vs = famL D i vs := by
      intro n i vs
      induction vs generalizing i with
      | nil => intro _; rfl
      | cons e vs ih =>
        intro hni
        obtain ⟨k, v⟩ := e
        simp only [famL, ih (i + 1) (by omega)]
        have : upd1 D n i = D i := by unfold upd1; rw [if_neg (by omega)]
        rw [this]
    cases j with
    | zero =>
      simp only [List.getElem?_cons_zero, Option.some.injEq] at h
      subst h
      simp only [famL, put, if_true, Nat.add_zero, hun i (i + 1) vs (by omega)]
      simp [upd1]
    | succ j =>
      simp only [List.getElem?_cons_succ] at h
      have hne : k ≠ e.1 := fun hk => hn.1 (List.mem_map.2 ⟨e, List.mem_of_getElem? h, hk.symm⟩)
      simp only [famL, put, if_neg hne]
      rw [put_famL D (i + 1) vs j e hn.2 h, show i + 1 + j = i + (j + 1) by omega]
      have : upd1 D (i + (j + 1)) i = D i := by unfold upd1; rw [if_neg (by omega)]
      rw [this]
def tdB (td : List (List Nat)) : Nat → List Oper → Bool
  | _, [] => true
  | i, o :: os => ((td.getD i []).all fun j => decide (j < i) && o.after.toList.any fun e => Region.binds .any e && (e.on == j || (decide (e.on < i) && (td.getD e.on []).contains j))) && tdB td (i + 1) os
theorem tdB_get {td : List (List Nat)} : ∀ (l : List Oper) (n i : Nat) (o : Oper), tdB td n l = true → l[i]? = some o → ∀ j ∈ td.getD (n + i) [], ∃ e ∈ o.after.toList, Region.binds .any e = true ∧ (e.on = j ∨ (e.on < n + i ∧ j ∈ td.getD e.on []))
  | [], n, i, o, _, h => by simp at h
  | x :: l, n, i, o, h, hi => by
    simp only [tdB, Bool.and_eq_true] at h
    cases i with
    | zero =>
      simp only [List.getElem?_cons_zero, Option.some.injEq] at hi
      subst hi
      intro j hj
      rw [Nat.add_zero] at hj ⊢
      have := List.all_eq_true.1 h.1 j hj
      simp only [Bool.and_eq_true] at this
      have h2 := List.any_eq_true.1 this.2
      obtain ⟨e, he, hb⟩ := h2
      simp only [Bool.and_eq_true, Bool.or_eq_true, beq_iff_eq, decide_eq_true_eq, List.contains_iff_mem] at hb
      exact ⟨e, he, hb.1, hb.2⟩
    | succ i =>
      simp only [List.getElem?_cons_succ] at hi
      have := tdB_get l (n + 1) i o h.2 hi
      rwa [show n + 1 + i = n + (i + 1) by omega] at this
def vsAt (vs : List (Nat × AV)) (j : Nat) : Nat × AV := vs.getD j (0, .u)
def owed (E : Env) (C : Ctx) (σ : St) (l : List Oper) (vs : List (Nat × AV)) (td : List (List Nat)) (i : Nat) (o : Oper) : Prop :=
  ∀ τ : St, τ.bx = σ.bx → (∀ n, n ∉ vs.map Prod.fst → look τ.tm n = look σ.tm n) → (∀ j ∈ td.getD i [], look τ.tm (vsAt vs j).1 = some (vsAt vs j).2) → look τ.tm (vsAt vs i).1 = some .u → ∀ K : St → Prop, (∀ σ', σ' = ⟨put τ.tm (vsAt vs i).1 (vsAt vs i).2, τ.bx⟩ → K σ') → τ.wps E C.N l [o] K
end Go.OM
set_option linter.unusedVariables false
set_option linter.unusedSimpArgs false
namespace Go.OM
variable {C : Ctx} {Z Z' : Nat → Prop} {s : StA} {a : Act} {w w' : World} {E : Env} {o : Oper} {σ σ' : St} {K : Act → World → Prop} {Q : Exit → Act → World → Prop} {S : Exit → St → Prop} {c d : Code}
def St.callAt (N : Nat) (dst : Option Nat) (r : Root) (o : Nat) (p : Path) (k : Option Nat) (xs : List Operand) (y' : T) (res : List T) (σ : St) : Option (List Arg × St) := (σ.rootCells r).bind fun cs => (T.getP cs o p (k.getD 1)).bind fun l => (St.plains σ xs).bind fun ys =>
      if kOf y' = k ∧ y'.cells.length = k.getD 1 then (((σ.setRoot true r (T.setP cs o p (l.map T.bury))).setRoot true r (T.setP (T.setP cs o p (l.map T.bury)) o p y'.cells)).put? N dst (retAV res)).map fun σ1 => (.val (mkT k l) :: ys.map Arg.val, σ1) else none
theorem callAt_args {N : Nat} {dst : Option Nat} {r : Root} {o : Nat} {p : Path} {k : Option Nat} {xs : List Operand} {args : List Arg} {y' : T} {res : List T} (h : σ.callAt N dst r o p k xs y' res = some (args, σ')) : ∃ cs l ys, σ.rootCells r = some cs ∧ T.getP cs o p (k.getD 1) = some l ∧ St.plains σ xs = some ys ∧ kOf y' = k ∧ y'.cells.length = k.getD 1 ∧ args = .val (mkT k l) :: ys.map Arg.val ∧ ((σ.setRoot true r (T.setP cs o p (l.map T.bury))).setRoot true r (T.setP (T.setP cs o p (l.map T.bury)) o p y'.cells)).put? N dst (retAV res) = some σ' := by
  unfold St.callAt at h
  obtain ⟨cs, hcs, h⟩ := Option.bind_eq_some_iff.1 h
  obtain ⟨l, hl, h⟩ := Option.bind_eq_some_iff.1 h
  obtain ⟨ys, hys, h⟩ := Option.bind_eq_some_iff.1 h
  split at h
  · rename_i hc
    obtain ⟨σ1, hσ, h⟩ := Option.map_eq_some_iff.1 h
    simp only [Prod.mk.injEq] at h
    obtain ⟨rfl, rfl⟩ := h
    exact ⟨cs, l, ys, hcs, hl, hys, hc.1, hc.2, rfl, hσ⟩
  · cases h
theorem callAt_ok {f : FuncId} {x : Operand} {xs : List Operand} {args : List Arg} {y' : T} {res : List T} {dst : Option Nat} {r : Root} {o : Nat} {p : Path} {k : Option Nat} (hG : ∀ s Z, s.er = σ → SRel C Z s a w → E.GOk Z w.heap) (hok : OkIO E f args res [] [(0, y')]) (hl : σ.callAt C.N dst r o p k xs y' res = some (args, σ'))
    (hev : ∀ s Z base cs l, s.er = σ → SRel C Z s a w → s.rootCells r = some (base, cs) → TA.getP cs o p (k.getD 1) = some l → a.eval x = mkVal k l) (H : SOk C σ a w) : Calls E.P f ((x :: xs).map a.eval).toArray w fun e w' => ∃ v, e = .returned v ∧ SOk C σ' (a.put dst v) w' := by
  obtain ⟨s, Z, h1, h2, h3⟩ := H
  have hG0 := hG s Z h1 h3
  subst h1
  obtain ⟨csT, lT, ys, hcs, hgT, hys, hk1, hk2, hargs, hput⟩ := callAt_args hl
  rw [StA.er_rootCells] at hcs
  obtain ⟨⟨base, cs⟩, g1, hcs⟩ := Option.map_eq_some_iff.1 hcs
  subst hcs
  obtain ⟨l, g2, t2⟩ := TA.er_get _ _ _ _ _ hgT
  subst t2
  have g4 : a.eval x = mkVal k l := hev s Z base cs l rfl h3 g1 g2
  have hlen : k = none → l.length = 1 := fun hk => by rw [TA.getP_length _ _ _ _ _ g2, hk]; rfl
  obtain ⟨q1, q2, q3, q4⟩ := root_holds h3 g1
  obtain ⟨r1, r2, r3⟩ := h3.takePlace g1 g2
  obtain ⟨b1, b2, b3, b4⟩ := bury_map_holds r2 r3
  have hbl : (l.map TA.bury).length = k.getD 1 := by rw [List.length_map]; exact TA.getP_length _ _ _ _ _ g2
  have hset : TA.getP (TA.setP cs o p (l.map TA.bury)) o p (k.getD 1) = some (l.map TA.bury) := getP_setP p cs o (k.getD 1) l _ g2 hbl b2 q2 q1
  have hroot := rootCells_setRoot_self (full := true) (hd' := l ++ s.hd) g1 (TA.setP_length _ p _ _ _ _ g2 hbl) (TA.setP_isCell _ b2 p _ _ q2)
  generalize hs1 : s.setRoot true r (TA.setP cs o p (l.map TA.bury)) (l ++ s.hd) = s1 at r1 hroot
  have hs1hd : s1.hd = l := by rw [← hs1, hd_setRoot, h2, List.append_nil]
  obtain ⟨zs, z1, z2, z3⟩ := plains_ok h3 xs ys hys
  have hyH : (mkTA k l).Holds Z w.heap := mkTA_holds hlen r3 r2
  have hcy : ∀ q, (mkTA k l).cnt q = TA.cntL q l := fun q => mkTA_cnt q hlen
  have hz0 : ∀ q, ∀ z ∈ zs, z.cnt q = 0 := fun q z hz => TA.cnt_of_noOwn q z (z2 z hz).2
  have hinn : ∀ q, innL q (.val (mkTA k l) :: zs.map ArgA.val) = TA.cntL q l := by
    intro q
    have : ∀ zs : List TA, (∀ z ∈ zs, z.cnt q = 0) → innL q (zs.map ArgA.val) = 0 := by
      intro zs
      induction zs with
      | nil => intro _; rfl
      | cons z zs ih => intro h; simp only [List.map_cons, innL, ArgA.inn, h z (by simp), ih (fun z hz => h z (by simp [hz]))]
    simp only [innL, ArgA.inn, hcy, this zs (hz0 q)]; omega
  have hpc : ∀ q, pcL q (.val (mkTA k l) :: zs.map ArgA.val) = 0 := by
    intro q
    have : ∀ zs : List TA, pcL q (zs.map ArgA.val) = 0 := by
      intro zs
      induction zs with
      | nil => rfl
      | cons z zs ih => simp only [List.map_cons, pcL, ArgA.pc, ih]
    simp only [pcL, ArgA.pc, this]
  have hptr : ptrs (.val (mkTA k l) :: zs.map ArgA.val) = [] := by
    have : ∀ zs : List TA, ptrs (zs.map ArgA.val) = [] := by
      intro zs
      induction zs with
      | nil => rfl
      | cons z zs ih => simp only [List.map_cons, ptrs, ih]
    simp only [ptrs, this]
  have hA : ArgsOk Z w.heap (.val (mkTA k l) :: zs.map ArgA.val) := by
    refine ⟨fun y hy => ?_, fun q => ?_, fun q hq => ?_, r1.zlt⟩
    · rcases List.mem_cons.1 hy with rfl | hy
      · exact hyH
      · obtain ⟨z, hz, rfl⟩ := List.mem_map.1 hy
        exact (z2 z hz).1
    · rw [hinn, hpc]
      have := r1.uniq q
      simp only [StA.cnt, hs1hd] at this; omega
    · rw [hinn, hpc] at hq
      exact r1.notZ q (by simp only [StA.cnt, hs1hd]; omega)
  have hev : ((x :: xs).map a.eval).toArray = ((.val (mkTA k l) :: zs.map ArgA.val : List ArgA).map ArgA.value).toArray := by
    congr 1
    simp only [List.map_cons, List.map_map, ArgA.value]
    rw [g4, z3, mkTA_val hlen r3]
    rfl
  rw [hev]
  refine (hok w Z (.val (mkTA k l) :: zs.map ArgA.val) ?_ hA hG0).mono fun e w' ⟨Z', rs, ls, gs, he, hrs, hls, hgs, hgv, B⟩ => ?_
  · rw [hargs, ← z1]
    simp only [List.map_cons, List.map_map, ArgA.er, er_mkTA]
    rfl
  refine ⟨retV rs, he, ?_⟩
  subst hrs
  have hls0 : ls = [] := by simpa using hls
  subst hls0
  obtain ⟨g, rfl⟩ : ∃ g, gs = [g] := by
    have : (TA.erL gs).length = 1 := by rw [hgs]; rfl
    rw [TA.erL_map, List.length_map] at this
    exact List.length_eq_one_iff.1 this
  simp only [TA.erL, List.map_cons, List.map_nil, List.cons.injEq, and_true] at hgs
  simp only [List.map_cons, List.map_nil, List.cons.injEq, and_true, List.getElem?_cons_zero, Option.getD_some, ArgA.value] at hgv
  have hgval : g.val = mkVal k l := by rw [hgv, mkTA_val hlen r3]
  have hBh := holdsL_append.1 B.holds
  have hgH : g.Holds Z' w'.heap := by have := hBh.2; simp only [TA.HoldsL] at this; exact this.1
  have hR : SRel C Z' ⟨s1.tm, s1.bx, rs ++ [g]⟩ a w' := by
    refine r1.replaceHand B.grown B.os B.tape B.output (fun q hq h0 => ?_) B.zle (fun q hq => ?_) B.zlt B.holds (fun q => ?_) (fun q hq => ?_)
    · refine B.kept q hq ?_
      rw [hinn, hpc]
      rw [hs1hd] at h0; omega
    · rcases B.zext q hq with h | h | h
      · exact .inl h
      · exact .inr (.inl h)
      · rw [hinn] at h; right; right; rw [hs1hd]; exact h
    · have := B.uniq q; omega
    · have := B.own q (by omega)
      rw [hinn] at this
      rw [hs1hd]
      exact this
  have hroot2 : (StA.mk s1.tm s1.bx (rs ++ [g])).rootCells r = some (base, TA.setP cs o p (l.map TA.bury)) := by
    rw [← hroot]; cases r <;> rfl
  have hvals : TA.vals g.cells = TA.vals (l.map TA.bury) := by
    rw [b3]
    exact mkVal_inj (by rw [hgs]; exact hk1) hgH hlen r3 hgval
  have hglen : g.cells.length = k.getD 1 := by
    have : (TA.erL g.cells).length = y'.cells.length := by rw [← TA.er_cells, hgs]
    rw [TA.erL_map, List.length_map] at this
    omega
  have hG := hR.givePlace (hd' := rs) hroot2 hset hglen hvals (TA.holds_cells hgH) (TA.isCell_mem_cells hgH) (fun q => by rw [TA.cntL_append, TA.cntL_cells]; simp only [TA.cntL]; omega) hBh.1
  obtain ⟨xA, x1, x2, x3⟩ := retV_ok hBh.1 ((StA.mk s1.tm s1.bx (rs ++ [g])).setRoot true r (TA.setP (TA.setP cs o p (l.map TA.bury)) o p g.cells) rs)
  refine SOk.put? hG ?_ hput x1 x2 (fun q => by rw [x3, hd_setRoot]; exact Nat.le_refl _)
  have e3 : s1.er = s.er.setRoot true r (T.setP (TA.erL cs) o p ((TA.erL l).map T.bury)) := by
    rw [← hs1, StA.er_setRoot, TA.er_set, erL_bury]
  rw [StA.er_setRoot, TA.er_set, TA.er_set, erL_bury, ← TA.er_cells, hgs, ← e3]
  rfl
theorem boxRaw_ok {t : TypeId} {x : Operand} {cs : List Value} (ho : o.op = .box t x) (hv : (a.eval x).cells = cs.toArray) (h1c : ∀ v ∈ cs, TA.OneCell v) (h : σ.newBox C.N o.dst (cs.map T.v) = some σ') (H : SOk C σ a w) (hK : ∀ a' w', SOk C σ' a' w' → K a' w') : o.wp E.P a w K Q := by
  obtain ⟨s, Z, h1, h2, h3⟩ := id H
  subst h1
  unfold St.newBox at h
  split at h
  case h_2 => cases h
  rename_i d hd
  have hvals : TA.vals (cs.map TA.v) = cs := by
    simp only [TA.vals, List.map_map]
    exact (List.map_congr_left (fun x _ => rfl)).trans (List.map_id _)
  have hcnt : ∀ (k : Nat) (cs : List Value), TA.cntL k (cs.map TA.v) = 0 := by
    intro k cs
    induction cs with
    | nil => rfl
    | cons c cs ih => simp only [List.map_cons, TA.cntL, TA.cnt, ih]
  have hH : ∀ (cs : List Value), (∀ v ∈ cs, TA.OneCell v) → TA.HoldsL Z w.heap (cs.map TA.v) := by
    intro cs
    induction cs with
    | nil => intro _; simp [TA.HoldsL]
    | cons c cs ih => intro hc; simp only [List.map_cons, TA.HoldsL, TA.Holds]; exact ⟨hc c (by simp), ih fun v hv => hc v (by simp [hv])⟩
  have hnew := h3.newBox (d := d) (w' := { w with heap := w.heap.push (.cells (TA.vals (cs.map TA.v)).toArray t) }) (cs := cs.map TA.v) (hd0 := []) (put_lt h) rfl rfl rfl rfl (hH cs h1c) (by simp [TA.isCell]) (by simp [TA.HoldsL]) (fun k => by rw [hcnt]; simp [TA.cntL])
  refine wp_value (v := .pointer (some ⟨w.heap.size, 0, none⟩)) (w' := { w with heap := w.heap.push (.cells (TA.vals (cs.map TA.v)).toArray t) }) ?_ (hK _ _ ?_)
  · simp [execOp, ho, Instr.box, newVar, newRow, hv, hvals]
  · rw [hd]
    refine newBox_put hnew (look_put_self _ _ _) ?_
    rw [er_newBox]
    have he : TA.erL (cs.map TA.v) = cs.map T.v := by
      rw [TA.erL_map, List.map_map]
      rfl
    rw [he]
    exact h
end Go.OM
set_option linter.unusedVariables false
set_option linter.unusedSimpArgs false
namespace Go.OM
variable {C : Ctx} {Z Z' : Nat → Prop} {s : StA} {a : Act} {w w' : World} {E : Env} {o : Oper} {σ σ' : St} {K : St → Prop} {Q : Exit → Act → World → Prop} {S : Exit → St → Prop} {c d : Code} {ops os : List Oper}
def St.W (E : Env) (C : Ctx) (ops : List Oper) : List Oper → (St → Prop) → St → Prop
  | [], K, σ => K σ
  | o :: os, K, σ => (∃ K' : St → Prop, σ.wps E C.N ops [o] K' ∧ ∀ σ1, K' σ1 → St.W E C ops os K σ1) ∨
      (o.guard = none ∧ ∃ t n V X, o.op = .box t (.tmp n) ∧ (n, V) ∈ C.pin ∧ σ.op (.tmp n) = .t X ∧ ∀ cs : List Value, V.cells.toList = cs → cs.length = X.cells.length → ∃ σ1, σ.newBox C.N o.dst (cs.map T.v) = some σ1 ∧ St.W E C ops os K σ1) ∨
      (o.guard = none ∧ ∃ g x xs f n off k V args res y' σ1, callOf o = some (g, x :: xs) ∧ σ.fn g = some f ∧ Enters E.P f ∧ (n, V) ∈ C.pin ∧ σ.op x = .t (mkT k (((V.cells.toList.drop off).take (k.getD 1)).map T.v)) ∧ σ.callAt C.N o.dst (.slot n) off [] k xs y' res = some (args, σ1) ∧ OkIO E f args res [] [(0, y')] ∧ St.W E C ops os K σ1)
theorem erL_v : ∀ {zs : List TA} {rs : List Value}, TA.erL zs = rs.map T.v → zs = rs.map TA.v
  | [], [], _ => rfl
  | [], r :: rs, h => by simp [TA.erL] at h
  | z :: zs, [], h => by simp [TA.erL] at h
  | z :: zs, r :: rs, h => by
    simp only [TA.erL, List.map_cons, List.cons.injEq] at h ⊢
    refine ⟨?_, erL_v h.2⟩
    have h1 := h.1
    cases z <;> simp only [TA.er, T.v.injEq, reduceCtorEq] at h1
    rw [h1]
theorem vals_v (rs : List Value) : TA.vals (rs.map TA.v) = rs := by
  simp only [TA.vals, List.map_map]
  exact (List.map_congr_left (fun x _ => rfl)).trans (List.map_id _)
theorem slot_vals {n : Nat} {V : Value} {base : Option (Nat × Nat)} {cs : List TA} (H : SRel C Z s a w) (hr : s.rootCells (.slot n) = some (base, cs)) (hV : a.tmps.getD n undef = V) : TA.vals cs = V.cells.toList := by
  simp only [StA.rootCells] at hr
  split at hr
  case h_2 => cases hr
  rename_i x hx
  injection hr with hr
  simp only [Prod.mk.injEq] at hr
  obtain ⟨rfl, rfl⟩ := hr
  obtain ⟨h1, h2⟩ := H.tm n _ hx
  rw [← hV, h1, val_cells' h2]
theorem opwp_mono {P : Program} {K1 K2 : Act → World → Prop} (hK : ∀ a w, K1 a w → K2 a w) (h : o.wp P a w K1 Q) : o.wp P a w K2 Q := by
  unfold Oper.wp at *
  generalize (execOp a.eval o).run P w = r at *
  cases r with
  | ok n w' =>
    cases n <;> simp only [Oper.upon] at h ⊢ <;>
      first
        | exact hK _ _ h
        | exact Calls.mono h (fun e w'' he => by cases e <;> first | exact hK _ _ he | exact he)
        | exact Rows.mono h (fun _ _ he => hK _ _ he)
        | exact h
  | halt x w' => cases x <;> simp only [Oper.upon] at h ⊢ <;> exact h
theorem W_ok {ops : Array Oper} : ∀ (os : List Oper) (σ : St) (a : Act) (w : World) (K : St → Prop), pinB C.pin os = true → σ.W E C ops.toList os K → SOk2 E C σ a w → (∀ σ' a' w', K σ' → SOk2 E C σ' a' w' → Q .normal a' w') → wpList E.P ops Q os a w
  | [], σ, a, w, KS, _, h, H, hQ => hQ σ a w h H
  | o :: os, σ, a, w, KS, hp, h, H, hQ => by
    have hp0 := hp
    simp only [pinB, List.all_cons, Bool.and_eq_true] at hp
    have hput : ∀ b : Act, b.tmps = a.tmps → ∀ v, PinOk E C (b.put o.dst v) := fun b hb v => PinOk.put (a := b) ⟨fun x hx => by rw [hb]; exact H.2.1 x hx, H.2.2⟩ hp.1
    have hos : pinB C.pin os = true := hp.2
    have hone : pinB C.pin [o] = true := by simp only [pinB, List.all_cons, List.all_nil, Bool.and_true]; exact hp.1
    simp only [St.W] at h
    obtain ⟨K', h1, h2⟩ | ⟨hg, t, n, V, X, ho, hpin, hX, hbox⟩ | ⟨hg, g, x, xs, f, n, off, k, V, args, res, y', σ1, hc, hf, he, hpin, hx, hl, hok, h2⟩ := h
    · have h3 := wps_ok2 (E := E) (ops := ops) (Q := fun e a' w' => e = .normal ∧ ∃ σ', K' σ' ∧ SOk2 E C σ' a' w') [o] σ a w K' hone h1 H (fun σ' a' w' q1 q2 => ⟨rfl, σ', q1, q2⟩)
      unfold wpList at h3 ⊢
      split at h3
      · rename_i hw
        rw [if_pos hw]
        rcases h3 with h3 | ⟨_, _, _, h3⟩
        · left
          unfold Oper.wp at h3 ⊢
          generalize (execOp a.eval o).run E.P w = r at *
          cases r with
          | ok n w' =>
            cases n <;> simp only [Oper.upon] at h3 ⊢ <;>
              first
                | (obtain ⟨_, σ', q1, q2⟩ := h3; exact W_ok os σ' _ _ KS hos (h2 _ q1) q2 hQ)
                | exact Calls.mono h3 (fun e w'' he => by
                    cases e <;> first
                      | (obtain ⟨_, σ', q1, q2⟩ := he; exact W_ok os σ' _ _ KS hos (h2 _ q1) q2 hQ)
                      | (obtain ⟨_, _, hh, _⟩ := he; cases hh)
                      | (obtain ⟨hh, _⟩ := he; cases hh; done))
                | exact Rows.mono h3 (fun _ _ he => by obtain ⟨_, σ', q1, q2⟩ := he; exact W_ok os σ' _ _ KS hos (h2 _ q1) q2 hQ)
                | cases h3.1
          | halt x w' => cases x <;> simp only [Oper.upon] at h3 ⊢ <;> first | exact h3 | cases h3.1
        · cases h3.1
      · rename_i hw
        rw [if_neg hw]
        obtain ⟨_, σ', q1, q2⟩ := h3
        exact W_ok os σ' _ _ KS hos (h2 _ q1) q2 hQ
    · unfold wpList
      rw [if_pos (by simp [Region.wanted, hg])]
      left
      obtain ⟨s, Z, q1, q2, q3⟩ := id H.1
      subst q1
      obtain ⟨xA, e1, e2⟩ := opA q3 (.tmp n)
      rw [hX] at e1
      obtain ⟨zA, rfl, rfl⟩ := er_t e1
      have hV : a.eval (.tmp n) = V := H.2.1 (n, V) hpin
      have hcells : V.cells.toList = TA.vals zA.cells := by rw [← hV, e2.1, val_cells' e2.2]
      obtain ⟨σ1, h1, h2⟩ := hbox V.cells.toList rfl (by rw [hcells, TA.er_cells, TA.erL_map]; simp [TA.vals])
      refine opwp_mono ?_ (wp_pin hput (boxRaw_ok (K := fun a' w' => SOk C σ1 a' w') ho (by rw [hV]) ?_ h1 H.1 fun a' w' H' => H'))
      · intro a' w' H'
        exact W_ok os σ1 a' w' KS hos h2 H' hQ
      · rw [hcells]; exact vals_oneCell (TA.holds_cells e2.2) (TA.isCell_mem_cells e2.2)
    · unfold wpList
      rw [if_pos (by simp [Region.wanted, hg])]
      left
      refine opwp_mono ?_ (wp_pin hput (stCallG_ok (K := fun a' w' => SOk C σ1 a' w') hc hf he H.1 (callAt_ok (fun _ _ _ h => H.2.2.now h) hok hl ?_ H.1) fun a' w' H' => H'))
      · intro a' w' H'
        exact W_ok os σ1 a' w' KS hos h2 H' hQ
      · intro s Z base cs l q1 q3 hr hgp
        subst q1
        obtain ⟨xA, e1, e2⟩ := opA q3 x
        rw [hx] at e1
        obtain ⟨zA, rfl, hz⟩ := er_t e1
        rw [e2.1]
        have hv := slot_vals q3 hr (H.2.1 (n, V) hpin)
        rw [← hv] at hz
        have hlen := TA.getP_length _ _ _ _ _ hgp
        simp only [TA.getP] at hgp
        split at hgp
        case isFalse => cases hgp
        injection hgp with hgp
        have hvl : ((TA.vals cs).drop off).take (k.getD 1) = TA.vals l := by
          rw [← hgp]; simp [TA.vals, List.map_drop, List.map_take]
        rw [hvl] at hz
        cases k with
        | none =>
          obtain ⟨y, rfl⟩ := List.length_eq_one_iff.1 hlen
          simp only [mkT, TA.vals, List.map_cons, List.map_nil, List.headD_cons] at hz
          cases zA <;> simp only [TA.er, T.v.injEq, reduceCtorEq] at hz
          rw [hz]; rfl
        | some m =>
          simp only [mkT] at hz
          cases zA <;> simp only [TA.er, T.agg.injEq, reduceCtorEq] at hz
          rename_i zs
          rw [erL_v hz]
          simp only [TA.val, vals_v, mkVal]
theorem SWp.regionW {id : Nat} {ops : Array Oper} (hp : pinB C.pin ops.toList = true) (h : σ.W E C ops.toList ops.toList (S .normal)) : SWp E C (.region id ops false) S σ :=
  fun a w H => wp_region_list (W_ok ops.toList σ a w _ hp h H fun σ' a' w' hS H' => ⟨σ', hS, H'⟩)
theorem SWp.seqRW {id : Nat} {ops : Array Oper} {l : List Oper} (hl : ops.toList = l) (hp : pinB C.pin l = true) (h : ∀ K : St → Prop, (∀ σ', SWp E C d S σ' → K σ') → σ.W E C l l K) : SWp E C (.seq (.region id ops false) d) S σ :=
  SWp.seq (SWp.regionW (by rw [hl]; exact hp) (by rw [hl]; exact h _ fun σ' h => h))
theorem W_nil (h : K σ) : σ.W E C ops [] K := h
theorem W_op {o : Oper} (h : ∀ K' : St → Prop, (∀ σ1, σ1.W E C ops os K → K' σ1) → σ.wps E C.N ops [o] K') : σ.W E C ops (o :: os) K :=
  .inl ⟨_, h _ fun _ h => h, fun _ h => h⟩
theorem W_box {o : Oper} {t : TypeId} {n : Nat} {V : Value} {X : T} (m : Nat) (ho : o.op = .box t (.tmp n)) (hg : o.guard = none) (hp : (n, V) ∈ C.pin) (hX : σ.op (.tmp n) = .t X) (hm : X.cells.length = m)
    (h : ∀ cs : List Value, V.cells.toList = cs → cs.length = m → ∀ K' : St → Prop, (∀ σ1, σ1.W E C ops os K → K' σ1) → optK K' (σ.newBox C.N o.dst (cs.map T.v))) : σ.W E C ops (o :: os) K := by
  refine .inr (.inl ⟨hg, t, n, V, X, ho, hp, hX, fun cs h1 h2 => ?_⟩)
  have h3 := h cs h1 (by rw [h2, hm]) _ fun _ h => h
  unfold optK at h3
  split at h3
  · exact ⟨_, by assumption, h3⟩
  · exact h3.elim
theorem W_call {o : Oper} {g x : Operand} {xs : List Operand} {f : FuncId} (n off : Nat) (k : Option Nat) {V : Value} {cs : List Value} {args : List Arg} {res : List T} {y' : T} (hc : callOf o = some (g, x :: xs)) (hg : o.guard = none) (he : Enters E.P f) (hp : (n, V) ∈ C.pin) (hV : V.cells.toList = cs) (hok : OkIO E f args res [] [(0, y')])
    (h : ∀ K' : St → Prop, (∀ σ1, σ1.W E C ops os K → K' σ1) → σ.fn g = some f ∧ σ.op x = .t (mkT k (((cs.drop off).take (k.getD 1)).map T.v)) ∧ ioK args K' (σ.callAt C.N o.dst (.slot n) off [] k xs y' res)) : σ.W E C ops (o :: os) K := by
  obtain ⟨hf, hx, h3⟩ := h _ fun _ h => h
  unfold ioK at h3
  split at h3
  case h_2 => exact h3.elim
  rename_i z hz
  subst hV
  exact .inr (.inr ⟨hg, g, x, xs, f, n, off, k, V, args, res, y', z.2, hc, hf, he, hp, hx, by rw [hz, ← h3.1], hok, h3.2⟩)
attribute [simp] St.callAt
theorem pin_one {V : List (Nat × Value)} {n : Nat} (h : V.map Prod.fst = [n]) : ∃ v, (n, v) ∈ V := by
  match V, h with
  | [(m, v)], h => simp at h; exact ⟨v, by simp [h]⟩
end Go.OM
set_option linter.unusedVariables false
set_option linter.unusedSimpArgs false
namespace Go.OM
open Go.Sort
theorem er_vals : ∀ {as : List ArgA} {xs : List Value}, as.map ArgA.er = xs.map (fun x => Arg.val (.v x)) → as = xs.map fun x => ArgA.val (.v x)
  | [], [], _ => rfl
  | [], x :: xs, h => by simp at h
  | a :: as, [], h => by simp at h
  | a :: as, x :: xs, h => by
    simp only [List.map_cons, List.cons.injEq] at h ⊢
    refine ⟨?_, er_vals h.2⟩
    have h1 := h.1
    cases a <;> simp only [ArgA.er, Arg.val.injEq, reduceCtorEq] at h1
    rename_i z
    cases z <;> simp only [TA.er, T.v.injEq, reduceCtorEq] at h1
    rw [h1]
theorem vals_pc (q : Nat) : ∀ xs : List Value, pcL q (xs.map fun x => ArgA.val (.v x)) = 0
  | [] => rfl
  | x :: xs => by simp only [List.map_cons, pcL, ArgA.pc, vals_pc q xs]
theorem vals_ptrs : ∀ xs : List Value, ptrs (xs.map fun x => ArgA.val (.v x)) = []
  | [] => rfl
  | x :: xs => by simp only [List.map_cons, ptrs, vals_ptrs xs]
def Env.Gl (E : Env) (w : World) : Prop := ∀ g ∈ E.gl, ∃ (cs : Array Value) (t : TypeId) (fr : Nat × Nat), w.heap[g.1]? = some (.cells cs t fr) ∧ g.2 cs
end Go.OM
set_option linter.unusedVariables false
set_option linter.unusedSimpArgs false
namespace Go.OM
open Go.Sort
theorem flat_v : ∀ es : List Value, (es.map TA.v).flatMap TA.cells = es.map TA.v
  | [] => rfl
  | e :: es => by simp only [List.map_cons, List.flatMap_cons, TA.cells, flat_v es]; rfl
theorem ok_fresh {E : Env} {f : FuncId} {xs es : List Value} {ty : TypeId} (h1c : ∀ v ∈ es, TA.OneCell v)
    (h : ∀ w, E.Gl w → Calls E.P f xs.toArray w fun e w' => e = .returned (.slice (some ⟨w.heap.size, 0, none⟩) es.length es.length) ∧ w' = w.alloc (.cells es.toArray ty)) : Ok E f (xs.map fun x => Arg.val (.v x)) [.sl true 1 (es.map T.v)] [] := by
  intro w Z as has hA hG
  have := er_vals has
  subst this
  have hv : ((xs.map fun x => ArgA.val (.v x)).map ArgA.value) = xs := by
    rw [List.map_map]; exact (List.map_congr_left (fun x _ => rfl)).trans (List.map_id _)
  rw [hv]
  refine (h w fun g hg => (hG g hg).2).mono fun e w' ⟨he, hw⟩ => ?_
  subst hw
  have hcnt : ∀ (q : Nat) (l : List Value), TA.cntL q (l.map TA.v) = 0 := by
    intro q l
    induction l with
    | nil => rfl
    | cons c cs ih => simp only [List.map_cons, TA.cntL, TA.cnt, ih]
  have hH : ∀ (h : Array Obj) (l : List Value), (∀ v ∈ l, TA.OneCell v) → TA.HoldsL Z h (l.map TA.v) := by
    intro h l
    induction l with
    | nil => intro _; simp [TA.HoldsL]
    | cons c cs ih => intro hc; simp only [List.map_cons, TA.HoldsL, TA.Holds]; exact ⟨hc c (by simp), ih fun v hv => hc v (by simp [hv])⟩
  have hheap : (w.alloc (.cells es.toArray ty)).heap = w.heap.push (.cells es.toArray ty) := rfl
  have hvals : TA.vals ((es.map TA.v).flatMap TA.cells) = es := by
    rw [flat_v, vals_v]
  have hnew : ∀ q, TA.cnt q (TA.sl true 1 w.heap.size 0 es.length (es.map TA.v)) = if w.heap.size = q then 1 else 0 := by
    intro q
    simp only [TA.cnt, hcnt]
    split <;> simp_all
  refine ⟨Z, [.sl true 1 w.heap.size 0 es.length (es.map TA.v)], [], ?_, ?_, rfl, ?_⟩
  · rw [he]; simp [retV, TA.val, TA.val1]
  · simp only [TA.erL, TA.er, TA.erL_map, List.map_map]; rfl
  · exact {
      holds := by
        simp only [TA.HoldsL, TA.Holds, and_true]
        refine ⟨⟨es.toArray, ty, (0, 0), by rw [hheap]; simp, fun _ => ⟨by simp, rfl⟩, fun j u hu => ?_⟩, by simp, by simp, hH _ _ h1c, ?_⟩
        · rw [hvals] at hu; simpa using hu
        · intro e he
          obtain ⟨x, _, rfl⟩ := List.mem_map.1 he
          rfl
      outs := by rw [vals_ptrs]; trivial
      uniq := fun q => by
        rw [vals_pc]
        simp only [TA.cntL, hnew, List.flatten_nil]
        split <;> omega
      own := fun q hq => by
        simp only [TA.cntL, hnew, List.flatten_nil] at hq
        split at hq
        · rename_i e
          subst e
          exact ⟨.inr (Nat.le_refl _), fun hz => by have := hA.zlt _ hz; omega⟩
        · omega
      zle := fun _ h => h
      zext := fun _ h => .inl h
      zlt := fun q hq => by have := hA.zlt q hq; rw [hheap, Array.size_push]; omega
      os := rfl
      tape := rfl
      output := rfl
      grown := by rw [hheap, Array.size_push]; omega
      kept := fun q hq _ => by rw [hheap, Array.getElem?_push_lt hq]; simp [hq]
      part := fun x hx => by rw [vals_ptrs] at hx; cases hx }
end Go.OM
set_option linter.unusedVariables false
set_option linter.unusedSimpArgs false
namespace Go.OM
variable {C : Ctx} {E : Env} {σ σ' : St} {Q : Exit → Act → World → Prop} {S : Exit → St → Prop} {a : Act} {w : World} {P : Program}
theorem wpAny_tailT {ops : Array Oper} {m : Nat} (hord : ∀ (i : Nat) (o : Oper), ops[i]? = some o → ∀ e ∈ o.after.toList, Region.binds .any e = true → e.on < i)
    (hlast : ∀ (i : Nat) (o : Oper), m ≤ i → ops[i]? = some o → ∀ D : Nat → Bool, (∀ (j : Nat) (o' : Oper), ops[j]? = some o' → D j = true → depsIn o' D) → depsIn o D → ∀ j, j < i → D j = true) :
    ∀ (fuel k : Nat) (listed : Array Bool) (a : Act) (w : World), m ≤ k → k ≤ ops.size → listed.size = ops.size → (∀ i d, i < ops.size → listed.getD i d = decide (i < k)) → ops.size - k ≤ fuel → wpList P ops Q (ops.toList.drop k) a w → wpAny P .any ops Q fuel listed a w := by
  intro fuel
  induction fuel with
  | zero =>
    intro k listed a w hm hk hsz hl hf h
    have hkk : k = ops.size := by omega
    refine ⟨?_, ?_⟩
    · rw [List.eq_nil_iff_forall_not_mem]
      intro i hi
      obtain ⟨h1, h2, _⟩ := ready_mem.1 hi
      rw [hl i true h1] at h2
      simp at h2; omega
    · rw [List.drop_eq_nil_of_le (by simp; omega)] at h
      exact h
  | succ fuel ih =>
    intro k listed a w hm hk hsz hl hf h
    by_cases hkk : k = ops.size
    · have hnil : Region.ready .any ops listed = [] := by
        rw [List.eq_nil_iff_forall_not_mem]
        intro i hi
        obtain ⟨h1, h2, _⟩ := ready_mem.1 hi
        rw [hl i true h1] at h2
        simp at h2; omega
      rw [List.drop_eq_nil_of_le (by simp; omega)] at h
      refine ⟨fun _ => h, fun i hi => ?_⟩
      rw [hnil] at hi; cases hi
    · have hlt : k < ops.size := by omega
      have ho : ops[k]? = some ops[k] := Array.getElem?_eq_getElem hlt
      have hmem : k ∈ Region.ready .any ops listed := by
        rw [ready_mem]
        refine ⟨hlt, by rw [hl k true hlt]; simp, fun o ho' e he hb => ?_⟩
        have := hord k o ho' e he hb
        rw [hl e.on false (by omega)]
        simpa using this
      refine ⟨fun hr => (by rw [hr] at hmem; cases hmem), fun i hi => ?_⟩
      obtain ⟨h1, h2, h3⟩ := ready_mem.1 hi
      have hik : i = k := by
        rw [hl i true h1] at h2
        simp only [decide_eq_false_iff_not, Nat.not_lt] at h2
        rcases Nat.lt_or_ge k i with hki | hki
        · exfalso
          have hoi : ops[i]? = some ops[i] := Array.getElem?_eq_getElem h1
          have := hlast i _ (by omega) hoi (fun j => decide (j < k)) (fun j o' ho' hj e he hb => by
            have h5 := hord j o' ho' e he hb
            simp only [decide_eq_true_eq] at hj ⊢
            omega) (fun e he hb => by
            have h5 := h3 _ hoi e he hb
            rwa [hl _ false (by have := hord i _ hoi e he hb; omega)] at h5) k hki
          simp at this
        · omega
      subst hik
      have hdrop : ops.toList.drop i = ops[i] :: ops.toList.drop (i + 1) := by
        rw [List.drop_eq_getElem_cons (by simpa using hlt)]; simp
      rw [hdrop] at h
      have h' : wpOp P ops Q i (wpList P ops Q (ops.toList.drop (i + 1))) a w := by
        unfold wpOp
        rw [ho]
        exact h
      refine wpOp_mono (fun a w h => ih (i + 1) _ a w (by omega) (by omega) (by simpa using hsz) (fun j d hj => ?_) (by omega) h) h'
      rw [getD_set (by omega), hl j d hj]
      by_cases e : j = i
      · subst e; simp
      · rw [if_neg e]; congr 1; apply propext; omega
theorem wpAny_famT {ops : Array Oper} (hpin : pinB C.pin ops.toList = true) (m : Nat) (hm : m ≤ ops.size) (fam : (Nat → Bool) → St) (hord : ∀ (i : Nat) (o : Oper), ops[i]? = some o → ∀ e ∈ o.after.toList, Region.binds .any e = true → e.on < i)
    (hlast : ∀ (i : Nat) (o : Oper), m ≤ i → ops[i]? = some o → ∀ D : Nat → Bool, (∀ (j : Nat) (o' : Oper), ops[j]? = some o' → D j = true → depsIn o' D) → depsIn o D → ∀ j, j < i → D j = true)
    (hstep : ∀ (i : Nat) (o : Oper), i < m → ops[i]? = some o → ∀ D : Nat → Bool, D i = false → (∀ j o', ops[j]? = some o' → D j = true → depsIn o' D) → depsIn o D → (fam D).wps E C.N ops.toList [o] (fun σ' => σ' = fam (upd1 D i)))
    (hend : ∀ D : Nat → Bool, (∀ i, i < m → D i = true) → ∀ a w, SOk2 E C (fam D) a w → wpList E.P ops Q (ops.toList.drop m) a w) :
    ∀ (fuel : Nat) (listed : Array Bool) (D : Nat → Bool) (a : Act) (w : World), listed.size = ops.size → (∀ i d, i < ops.size → listed.getD i d = D i) → (∀ i, m ≤ i → D i = false) → (∀ j o', ops[j]? = some o' → D j = true → depsIn o' D) → (listed.toList.countP (fun b => !b)) ≤ fuel → SOk2 E C (fam D) a w → wpAny E.P .any ops Q fuel listed a w := by
  intro fuel
  induction fuel with
  | zero =>
    intro listed D a w hsz hl hD hcl hc H
    have hall : ∀ i, i < ops.size → D i = true := by
      intro i hi
      rw [← hl i true hi]
      have hlt : i < listed.size := by omega
      rw [Array.getD_eq_getD_getElem?, Array.getElem?_eq_getElem hlt]
      simp only [Option.getD_some]
      have h0 : listed.toList.countP (fun b => !b) = 0 := by omega
      rw [List.countP_eq_zero] at h0
      have := h0 listed[i] (by simp)
      simpa using this
    have hmm : m = ops.size := by
      rcases Nat.lt_or_ge m ops.size with h | h
      · have := hall m h; rw [hD m (Nat.le_refl _)] at this; cases this
      · omega
    refine wpAny_tailT hord hlast 0 m listed a w (Nat.le_refl _) hm hsz (fun i d hi => ?_) (by omega) (hend D (fun i hi => hall i (by omega)) a w H)
    rw [hl i d hi, hall i hi]
    simp; omega
  | succ fuel ih =>
    intro listed D a w hsz hl hD hcl hc H
    by_cases hall : ∀ i, i < m → D i = true
    · have hcount : listed.toList.countP (fun b => !b) = ops.size - m ∨ True := .inr trivial
      have hle : ops.size - m ≤ fuel + 1 := by
        refine Nat.le_trans ?_ hc
        have hsub : (listed.toList.drop m).countP (fun b => !b) ≤ listed.toList.countP (fun b => !b) := List.Sublist.countP_le (List.drop_sublist m _)
        refine Nat.le_trans ?_ hsub
        have : (listed.toList.drop m).countP (fun b => !b) = (listed.toList.drop m).length := by
          rw [List.countP_eq_length]
          intro b hb
          obtain ⟨j, hj, rfl⟩ := List.mem_iff_getElem.1 hb
          rw [List.length_drop] at hj
          simp only [List.getElem_drop, Bool.not_eq_true']
          have hj2 : m + j < listed.size := by simp at hj; omega
          have h5 := hl (m + j) true (by omega)
          rw [Array.getD_eq_getD_getElem?, Array.getElem?_eq_getElem hj2] at h5
          simp only [Option.getD_some] at h5
          rw [Array.getElem_toList, h5]
          exact hD _ (by omega)
        rw [this, List.length_drop]; simp; omega
      refine wpAny_tailT hord hlast (fuel + 1) m listed a w (Nat.le_refl _) hm hsz (fun i d hi => ?_) hle (hend D hall a w H)
      rw [hl i d hi]
      rcases Nat.lt_or_ge i m with h | h
      · rw [hall i h]; simp [h]
      · rw [hD i h]; simp; omega
    · have hne : ∀ i, i ∈ Region.ready .any ops listed → i < m := by
        intro i hi
        obtain ⟨h1, h2, h3⟩ := ready_mem.1 hi
        rcases Nat.lt_or_ge i m with h | h
        · exact h
        · exfalso
          apply hall
          intro j hj
          have hoi : ops[i]? = some ops[i] := Array.getElem?_eq_getElem h1
          exact hlast i _ h hoi D hcl (fun e he hb => by
            have h5 := h3 _ hoi e he hb
            rwa [hl _ false (by have := hord i _ hoi e he hb; omega)] at h5) j (by omega)
      refine ⟨fun hr => ?_, fun i hi => ?_⟩
      · exfalso
        apply hall
        intro i
        induction i using Nat.strongRecOn with
        | _ i ihi =>
          intro him
          cases hDi : D i with
          | true => rfl
          | false =>
            exfalso
            have hmem : i ∈ Region.ready .any ops listed := by
              rw [ready_mem]
              refine ⟨by omega, by rw [hl i true (by omega), hDi], fun o ho e he hb => ?_⟩
              have := hord i o ho e he hb
              rw [hl e.on false (by omega)]
              exact ihi e.on this (by omega)
            rw [hr] at hmem; cases hmem
      · have him := hne i hi
        obtain ⟨h1, h2, h3⟩ := ready_mem.1 hi
        have ho : ops[i]? = some ops[i] := Array.getElem?_eq_getElem h1
        have hDi : D i = false := by rw [← hl i true h1]; exact h2
        have hdep : depsIn ops[i] D := by
          intro e he hb
          have := h3 _ ho e he hb
          rwa [hl e.on false (by have := hord i _ ho e he hb; omega)] at this
        have hlt' : i < listed.size := by omega
        have hnext : ∀ a w, SOk2 E C (fam (upd1 D i)) a w → wpAny E.P .any ops Q fuel (listed.setIfInBounds i true) a w := by
          intro a w H'
          refine ih _ (upd1 D i) a w (by simpa using hsz) ?_ ?_ ?_ ?_ H'
          · intro j d hj
            rw [getD_set hlt', hl j d hj]
            rfl
          · intro j hj
            unfold upd1
            rw [if_neg (by omega)]
            exact hD j hj
          · intro j o' ho' hj
            unfold upd1 at hj
            by_cases e : j = i
            · subst e
              rw [ho] at ho'
              injection ho' with ho'
              subst ho'
              intro e he hb
              have := hdep e he hb
              unfold upd1
              by_cases e2 : e.on = j
              · rw [if_pos e2]
              · rw [if_neg e2]; exact this
            · rw [if_neg e] at hj
              intro e' he hb
              have := hcl j o' ho' hj e' he hb
              unfold upd1
              by_cases e2 : e'.on = i
              · rw [if_pos e2]
              · rw [if_neg e2]; exact this
          · have hv : listed[i] = false := by
              have := hl i true h1
              rw [Array.getD_eq_getD_getElem?, Array.getElem?_eq_getElem hlt', hDi] at this
              simpa using this
            rw [Array.toList_setIfInBounds, List.countP_set (by simpa using hlt')]
            have hp : 0 < listed.toList.countP (fun b => !b) := by
              rw [List.countP_pos_iff]
              exact ⟨listed[i], by simp, by simp [hv]⟩
            have hv' : listed.toList[i]'(by simpa using hlt') = false := by simpa using hv
            rw [hv']
            simp only [Bool.not_false, Bool.not_true, if_true, Bool.false_eq_true, if_false]
            omega
        have hone := hstep i ops[i] him ho D hDi hcl hdep
        have hpi : pinB C.pin [ops[i]] = true := by
          have := List.all_eq_true.1 hpin ops[i] (by simp)
          simp only [pinB, List.all_cons, List.all_nil, Bool.and_true]
          exact this
        have hl2 := wps_ok2 (E := E) (Q := Exit.then (wpAny E.P .any ops Q fuel (listed.setIfInBounds i true)) Q) [ops[i]] (fam D) a w _ hpi hone H (fun σ' a' w' hσ H' => hnext a' w' (hσ ▸ H'))
        unfold wpOp
        rw [ho]
        unfold wpList at hl2
        simp only
        split at hl2
        · rename_i hw
          rw [if_pos hw]
          rcases hl2 with hl2 | ⟨h5, h6⟩
          · exact .inl (wp_then hl2)
          · exact .inr ⟨h5, h6⟩
        · rename_i hw
          rw [if_neg hw]
          exact hl2
def lastT (td : List (List Nat)) (m n : Nat) : Bool := (List.range n).all fun i => decide (i < m) || (List.range i).all fun j => (td.getD i []).contains j
theorem lastT_get {td : List (List Nat)} {m n i j : Nat} (h : lastT td m n = true) (h1 : m ≤ i) (h2 : i < n) (hj : j < i) : j ∈ td.getD i [] := by
  have h3 := List.all_eq_true.1 h i (List.mem_range.2 h2)
  simp only [Bool.or_eq_true, decide_eq_true_eq] at h3
  rcases h3 with h3 | h3
  · omega
  · exact List.contains_iff_mem.1 (List.all_eq_true.1 h3 j (List.mem_range.2 hj))
theorem SWp.drawT {id : Nat} {ops : Array Oper} {l : List Oper} (hl : ops.toList = l) (hp : pinB C.pin l = true) (vs : List (Nat × AV)) (td : List (List Nat)) (hm : vs.length ≤ l.length) (hdup : decide (vs.map Prod.fst).Nodup = true) (hfresh : ∀ n ∈ vs.map Prod.fst, look σ.tm n = none) (hord : ordB 0 l = true) (hlast : lastT td vs.length l.length = true) (htd : tdB td 0 l = true)
    (hstep : allIdx (owed E C σ l vs td) 0 (l.take vs.length))
    (hend : ∀ K : St → Prop, (∀ σ, S .normal σ → K σ) → (⟨σ.tm ++ vs, σ.bx⟩ : St).wps E C.N l (l.drop vs.length) K) : SWp E C (.region id ops true) S σ := fun a w H => by
  subst hl
  have hnd : (vs.map Prod.fst).Nodup := of_decide_eq_true hdup
  have hdis : ∀ e ∈ vs, e.1 ∉ σ.tm.map Prod.fst := by
    intro e he hm
    have h1 := hfresh e.1 (List.mem_map.2 ⟨e, he, rfl⟩)
    obtain ⟨f, hf, hfe⟩ := List.mem_map.1 hm
    have : ∀ (l : List (Nat × AV)) (n : Nat), n ∈ l.map Prod.fst → look l n ≠ none := by
      intro l
      induction l with
      | nil => intro n h; simp at h
      | cons x l ih =>
        intro n h
        obtain ⟨k, y⟩ := x
        simp only [look]
        by_cases e : k = n
        · simp [e]
        · rw [if_neg e]
          simp only [List.map_cons, List.mem_cons] at h
          exact ih n (h.resolve_left fun h => e h.symm)
    exact this σ.tm e.1 hm h1
  have hordI : ∀ (i : Nat) (o : Oper), ops[i]? = some o → ∀ e ∈ o.after.toList, Region.binds .any e = true → e.on < i := by
    intro i o ho
    have := ordB_get ops.toList 0 i o hord (by rw [Array.getElem?_toList]; exact ho)
    simpa using this
  have key : ∀ D : Nat → Bool, (∀ (j : Nat) (o' : Oper), ops[j]? = some o' → D j = true → depsIn o' D) → ∀ (i : Nat) (o : Oper), ops[i]? = some o → depsIn o D → ∀ j ∈ td.getD i [], j < i ∧ D j = true := by
    intro D hcl i
    induction i using Nat.strongRecOn with
    | _ i ih =>
      intro o ho hdep j hj
      have h1 := tdB_get ops.toList 0 i o htd (by rw [Array.getElem?_toList]; exact ho)
      rw [Nat.zero_add] at h1
      obtain ⟨e, he, hb, h2⟩ := h1 j hj
      have hei := hordI i o ho e he hb
      rcases h2 with h2 | ⟨_, h2⟩
      · subst h2; exact ⟨hei, hdep e he hb⟩
      · have hlt : e.on < ops.size := by have := (Array.getElem?_eq_some_iff.1 ho).1; omega
        have hoe : ops[e.on]? = some ops[e.on] := Array.getElem?_eq_getElem hlt
        obtain ⟨h3, h4⟩ := ih e.on hei _ hoe (hcl e.on _ hoe (hdep e he hb)) j h2
        exact ⟨by omega, h4⟩
  refine wp_region_any E.mixed ?_
  refine wpAny_famT (C := C) (E := E) hp vs.length (by simpa using hm) (fun D => ⟨σ.tm ++ famL D 0 vs, σ.bx⟩) hordI (fun i o hi ho => ?_) (fun i o hi ho D hD hcl hdep => ?_) (fun D hD a w H => ?_) ops.size _ (fun _ => false) a _ (by simp) (fun i d hi => by simp [Array.getD, hi]) (fun _ _ => rfl) (fun _ _ _ h => by cases h) ?_ ?_
  · intro D hcl hdep j hj
    have hlt : i < ops.size := (Array.getElem?_eq_some_iff.1 ho).1
    exact (key D hcl i o ho hdep j (lastT_get hlast hi (by simpa using hlt) hj)).2
  · have hget : (ops.toList.take vs.length)[i]? = some o := by
      rw [List.getElem?_take, if_pos hi, Array.getElem?_toList]; exact ho
    have hob := allIdx_get _ 0 i o hstep hget
    rw [Nat.zero_add] at hob
    have hvi : vs[i]? = some (vsAt vs i) := by
      unfold vsAt
      rw [List.getD_eq_getElem?_getD, List.getElem?_eq_getElem hi]; rfl
    have hlk : ∀ j, j < vs.length → look (σ.tm ++ famL D 0 vs) (vsAt vs j).1 = some (if D j = true then (vsAt vs j).2 else .u) := by
      intro j hj
      have hvj : vs[j]? = some (vsAt vs j) := by
        unfold vsAt
        rw [List.getD_eq_getElem?_getD, List.getElem?_eq_getElem hj]; rfl
      rw [look_app, hfresh _ (List.mem_map.2 ⟨_, List.mem_of_getElem? hvj, rfl⟩)]
      have := famL_get D 0 vs j _ hnd hvj
      rw [Nat.zero_add] at this
      exact this
    refine hob ⟨σ.tm ++ famL D 0 vs, σ.bx⟩ rfl (fun n hn => ?_) ?_ ?_ _ (fun σ' hσ' => ?_)
    · show look (σ.tm ++ famL D 0 vs) n = _
      rw [look_app]
      cases h : look σ.tm n with
      | some x => rfl
      | none => exact look_none (by rw [famL_keys]; exact hn)
    · -- what it leans on is done
      intro j hj
      obtain ⟨h1, h2⟩ := key D hcl i o ho hdep j hj
      have := hlk j (by omega)
      rw [h2, if_pos rfl] at this
      exact this
    · have := hlk i hi
      rw [hD] at this
      simpa using this
    · subst hσ'
      show (⟨_, _⟩ : St) = ⟨_, _⟩
      congr 1
      have hmem : vsAt vs i ∈ vs := List.mem_of_getElem? hvi
      rw [put_mem _ _ _ _ (hdis _ hmem)]
      have := put_famL D 0 vs i _ hnd hvi
      rw [Nat.zero_add] at this
      rw [this]
  · have hall : famL D 0 vs = vs := famL_all D 0 vs (fun j _ hj => hD j (by omega))
    have h2 := hend (fun σ' => S .normal σ') (fun _ h => h)
    simp only [hall] at H
    have hpd : pinB C.pin (ops.toList.drop vs.length) = true := List.all_eq_true.2 fun o ho => List.all_eq_true.1 hp o (List.mem_of_mem_drop ho)
    exact wps_ok2 (E := E) _ _ a w _ hpd h2 H (fun σ' a' w' hS H' => ⟨σ', hS, H'⟩)
  · exact Nat.le_trans List.countP_le_length (by simp)
  · have := H.1.pad (vs.map Prod.fst)
    rw [famL_none]
    rw [List.map_map] at this
    exact ⟨this.drew _, H.2⟩
end Go.OM
set_option linter.unusedVariables false
set_option linter.unusedSimpArgs false
namespace Go.OM
variable {C : Ctx} {E : Env} {σ σ' : St} {Q : Exit → Act → World → Prop} {S : Exit → St → Prop} {a : Act} {w : World} {P : Program}
def putL : List (Nat × AV) → List (Nat × AV) → List (Nat × AV)
  | tm, [] => tm
  | tm, e :: d => putL (put tm e.1 e.2) d
def famD (D : Nat → Bool) : Nat → List (List (Nat × AV)) → List (Nat × AV) → List (Nat × AV)
  | _, [], tm => tm
  | i, d :: ds, tm => famD D (i + 1) ds (if D i = true then putL tm d else tm)
theorem famD_none : ∀ (i : Nat) (ds : List (List (Nat × AV))) (tm : List (Nat × AV)), famD (fun _ => false) i ds tm = tm
  | _, [], _ => rfl
  | i, d :: ds, tm => by simp only [famD, Bool.false_eq_true, if_false]; exact famD_none (i + 1) ds tm
theorem famD_congr {D D' : Nat → Bool} : ∀ (i : Nat) (ds : List (List (Nat × AV))) (tm : List (Nat × AV)), (∀ j, i ≤ j → j < i + ds.length → D j = D' j) → famD D i ds tm = famD D' i ds tm
  | _, [], _, _ => rfl
  | i, d :: ds, tm, h => by
    simp only [famD]
    rw [h i (Nat.le_refl _) (by simp), famD_congr (i + 1) ds _ fun j h1 h2 => h j (by omega) (by simp only [List.length_cons]; omega)]
def owedD (E : Env) (C : Ctx) (σ : St) (l : List Oper) (ks : List Nat) (ds : List (List (Nat × AV))) (td : List (List Nat)) (i : Nat) (o : Oper) : Prop :=
  ∀ D : Nat → Bool, D i = false → (∀ j ∈ td.getD i [], D j = true) → (∀ j, i ∈ td.getD j [] → j < ds.length → D j = false) →
    ∀ K : St → Prop, (∀ σ', σ' = ⟨famD (upd1 D i) 0 ds (σ.tm ++ ks.map fun n => (n, .u)), σ.bx⟩ → K σ') → (⟨famD D 0 ds (σ.tm ++ ks.map fun n => (n, .u)), σ.bx⟩ : St).wps E C.N l [o] K
theorem SWp.drawD {id : Nat} {ops : Array Oper} {l : List Oper} (hl : ops.toList = l) (hp : pinB C.pin l = true) (ks : List Nat) (ds : List (List (Nat × AV))) (td : List (List Nat)) (hm : ds.length ≤ l.length) (hord : ordB 0 l = true) (hlast : lastT td ds.length l.length = true) (htd : tdB td 0 l = true)
    (hstep : allIdx (owedD E C σ l ks ds td) 0 (l.take ds.length))
    (hend : ∀ K : St → Prop, (∀ σ, S .normal σ → K σ) → (⟨famD (fun _ => true) 0 ds (σ.tm ++ ks.map fun n => (n, .u)), σ.bx⟩ : St).wps E C.N l (l.drop ds.length) K) : SWp E C (.region id ops true) S σ := fun a w H => by
  subst hl
  have hordI : ∀ (i : Nat) (o : Oper), ops[i]? = some o → ∀ e ∈ o.after.toList, Region.binds .any e = true → e.on < i := by
    intro i o ho
    have := ordB_get ops.toList 0 i o hord (by rw [Array.getElem?_toList]; exact ho)
    simpa using this
  have key : ∀ D : Nat → Bool, (∀ (j : Nat) (o' : Oper), ops[j]? = some o' → D j = true → depsIn o' D) → ∀ (i : Nat) (o : Oper), ops[i]? = some o → depsIn o D → ∀ j ∈ td.getD i [], j < i ∧ D j = true := by
    intro D hcl i
    induction i using Nat.strongRecOn with
    | _ i ih =>
      intro o ho hdep j hj
      have h1 := tdB_get ops.toList 0 i o htd (by rw [Array.getElem?_toList]; exact ho)
      rw [Nat.zero_add] at h1
      obtain ⟨e, he, hb, h2⟩ := h1 j hj
      have hei := hordI i o ho e he hb
      rcases h2 with h2 | ⟨_, h2⟩
      · subst h2; exact ⟨hei, hdep e he hb⟩
      · have hlt : e.on < ops.size := by have := (Array.getElem?_eq_some_iff.1 ho).1; omega
        have hoe : ops[e.on]? = some ops[e.on] := Array.getElem?_eq_getElem hlt
        obtain ⟨h3, h4⟩ := ih e.on hei _ hoe (hcl e.on _ hoe (hdep e he hb)) j h2
        exact ⟨by omega, h4⟩
  refine wp_region_any E.mixed ?_
  refine wpAny_famT (C := C) (E := E) hp ds.length (by simpa using hm) (fun D => ⟨famD D 0 ds (σ.tm ++ ks.map fun n => (n, .u)), σ.bx⟩) hordI (fun i o hi ho => ?_) (fun i o hi ho D hD hcl hdep => ?_) (fun D hD a w H => ?_) ops.size _ (fun _ => false) a _ (by simp) (fun i d hi => by simp [Array.getD, hi]) (fun _ _ => rfl) (fun _ _ _ h => by cases h) ?_ ?_
  · intro D hcl hdep j hj
    have hlt : i < ops.size := (Array.getElem?_eq_some_iff.1 ho).1
    exact (key D hcl i o ho hdep j (lastT_get hlast hi (by simpa using hlt) hj)).2
  · have hget : (ops.toList.take ds.length)[i]? = some o := by
      rw [List.getElem?_take, if_pos hi, Array.getElem?_toList]; exact ho
    have hob := allIdx_get _ 0 i o hstep hget
    rw [Nat.zero_add] at hob
    refine hob D hD (fun j hj => (key D hcl i o ho hdep j hj).2) (fun j hj hjl => ?_) _ (fun σ' h => h)
    cases hDj : D j with
    | false => rfl
    | true =>
      exfalso
      have hlt : j < ops.size := by simp only [Array.length_toList] at hm; omega
      have hoj : ops[j]? = some ops[j] := Array.getElem?_eq_getElem hlt
      have := (key D hcl j _ hoj (hcl j _ hoj hDj) i hj).2
      rw [hD] at this; cases this
  · have hall : famD D 0 ds (σ.tm ++ ks.map fun n => (n, .u)) = famD (fun _ => true) 0 ds (σ.tm ++ ks.map fun n => (n, .u)) := famD_congr 0 ds _ fun j _ h => hD j (by omega)
    have h2 := hend (fun σ' => S .normal σ') (fun _ h => h)
    simp only [hall] at H
    have hpd : pinB C.pin (ops.toList.drop ds.length) = true := List.all_eq_true.2 fun o ho => List.all_eq_true.1 hp o (List.mem_of_mem_drop ho)
    exact wps_ok2 (E := E) _ _ a w _ hpd h2 H (fun σ' a' w' hS H' => ⟨σ', hS, H'⟩)
  · exact Nat.le_trans List.countP_le_length (by simp)
  · have := H.1.pad ks
    simp only [famD_none]
    exact ⟨this.drew _, H.2⟩
end Go.OM
set_option linter.unusedVariables false
set_option linter.unusedSimpArgs false
namespace Go.OM
variable {C : Ctx} {E : Env} {σ σ' : St} {Q : Exit → Act → World → Prop} {S : Exit → St → Prop} {a : Act} {w : World} {P : Program}
def putX : List (Nat × List T) → List (Nat × List T) → List (Nat × List T)
  | bx, [] => bx
  | bx, e :: d => putX (put bx e.1 e.2) d
def famX (D : Nat → Bool) : Nat → List (List (Nat × List T)) → List (Nat × List T) → List (Nat × List T)
  | _, [], bx => bx
  | i, d :: ds, bx => famX D (i + 1) ds (if D i = true then putX bx d else bx)
theorem famX_none : ∀ (i : Nat) (ds : List (List (Nat × List T))) (bx : List (Nat × List T)), famX (fun _ => false) i ds bx = bx
  | _, [], _ => rfl
  | i, d :: ds, bx => by simp only [famX, Bool.false_eq_true, if_false]; exact famX_none (i + 1) ds bx
theorem famX_congr {D D' : Nat → Bool} : ∀ (i : Nat) (ds : List (List (Nat × List T))) (bx : List (Nat × List T)), (∀ j, i ≤ j → j < i + ds.length → D j = D' j) → famX D i ds bx = famX D' i ds bx
  | _, [], _, _ => rfl
  | i, d :: ds, bx, h => by
    simp only [famX]
    rw [h i (Nat.le_refl _) (by simp), famX_congr (i + 1) ds _ fun j h1 h2 => h j (by omega) (by simp only [List.length_cons]; omega)]
def owedX (E : Env) (C : Ctx) (σ : St) (l : List Oper) (ks : List Nat) (ds : List (List (Nat × AV))) (xs : List (List (Nat × List T))) (td : List (List Nat)) (i : Nat) (o : Oper) : Prop :=
  ∀ D : Nat → Bool, D i = false → (∀ j ∈ td.getD i [], D j = true) → (∀ j, i ∈ td.getD j [] → j < ds.length → D j = false) →
    ∀ K : St → Prop, (∀ σ', σ' = ⟨famD (upd1 D i) 0 ds (σ.tm ++ ks.map fun n => (n, .u)), famX (upd1 D i) 0 xs σ.bx⟩ → K σ') → (⟨famD D 0 ds (σ.tm ++ ks.map fun n => (n, .u)), famX D 0 xs σ.bx⟩ : St).wps E C.N l [o] K
theorem SWp.drawX {id : Nat} {ops : Array Oper} {l : List Oper} (hl : ops.toList = l) (hp : pinB C.pin l = true) (ks : List Nat) (ds : List (List (Nat × AV))) (xs : List (List (Nat × List T))) (td : List (List Nat)) (hxl : xs.length = ds.length) (hm : ds.length ≤ l.length) (hord : ordB 0 l = true) (hlast : lastT td ds.length l.length = true) (htd : tdB td 0 l = true)
    (hstep : allIdx (owedX E C σ l ks ds xs td) 0 (l.take ds.length))
    (hend : ∀ K : St → Prop, (∀ σ, S .normal σ → K σ) → (⟨famD (fun _ => true) 0 ds (σ.tm ++ ks.map fun n => (n, .u)), famX (fun _ => true) 0 xs σ.bx⟩ : St).wps E C.N l (l.drop ds.length) K) : SWp E C (.region id ops true) S σ := fun a w H => by
  subst hl
  have hordI : ∀ (i : Nat) (o : Oper), ops[i]? = some o → ∀ e ∈ o.after.toList, Region.binds .any e = true → e.on < i := by
    intro i o ho
    have := ordB_get ops.toList 0 i o hord (by rw [Array.getElem?_toList]; exact ho)
    simpa using this
  have key : ∀ D : Nat → Bool, (∀ (j : Nat) (o' : Oper), ops[j]? = some o' → D j = true → depsIn o' D) → ∀ (i : Nat) (o : Oper), ops[i]? = some o → depsIn o D → ∀ j ∈ td.getD i [], j < i ∧ D j = true := by
    intro D hcl i
    induction i using Nat.strongRecOn with
    | _ i ih =>
      intro o ho hdep j hj
      have h1 := tdB_get ops.toList 0 i o htd (by rw [Array.getElem?_toList]; exact ho)
      rw [Nat.zero_add] at h1
      obtain ⟨e, he, hb, h2⟩ := h1 j hj
      have hei := hordI i o ho e he hb
      rcases h2 with h2 | ⟨_, h2⟩
      · subst h2; exact ⟨hei, hdep e he hb⟩
      · have hlt : e.on < ops.size := by have := (Array.getElem?_eq_some_iff.1 ho).1; omega
        have hoe : ops[e.on]? = some ops[e.on] := Array.getElem?_eq_getElem hlt
        obtain ⟨h3, h4⟩ := ih e.on hei _ hoe (hcl e.on _ hoe (hdep e he hb)) j h2
        exact ⟨by omega, h4⟩
  refine wp_region_any E.mixed ?_
  refine wpAny_famT (C := C) (E := E) hp ds.length (by simpa using hm) (fun D => ⟨famD D 0 ds (σ.tm ++ ks.map fun n => (n, .u)), famX D 0 xs σ.bx⟩) hordI (fun i o hi ho => ?_) (fun i o hi ho D hD hcl hdep => ?_) (fun D hD a w H => ?_) ops.size _ (fun _ => false) a _ (by simp) (fun i d hi => by simp [Array.getD, hi]) (fun _ _ => rfl) (fun _ _ _ h => by cases h) ?_ ?_
  · intro D hcl hdep j hj
    have hlt : i < ops.size := (Array.getElem?_eq_some_iff.1 ho).1
    exact (key D hcl i o ho hdep j (lastT_get hlast hi (by simpa using hlt) hj)).2
  · have hget : (ops.toList.take ds.length)[i]? = some o := by
      rw [List.getElem?_take, if_pos hi, Array.getElem?_toList]; exact ho
    have hob := allIdx_get _ 0 i o hstep hget
    rw [Nat.zero_add] at hob
    refine hob D hD (fun j hj => (key D hcl i o ho hdep j hj).2) (fun j hj hjl => ?_) _ (fun σ' h => h)
    cases hDj : D j with
    | false => rfl
    | true =>
      exfalso
      have hlt : j < ops.size := by simp only [Array.length_toList] at hm; omega
      have hoj : ops[j]? = some ops[j] := Array.getElem?_eq_getElem hlt
      have := (key D hcl j _ hoj (hcl j _ hoj hDj) i hj).2
      rw [hD] at this; cases this
  · have hall : famD D 0 ds (σ.tm ++ ks.map fun n => (n, .u)) = famD (fun _ => true) 0 ds (σ.tm ++ ks.map fun n => (n, .u)) := famD_congr 0 ds _ fun j _ h => hD j (by omega)
    have h2 := hend (fun σ' => S .normal σ') (fun _ h => h)
    have hallX : famX D 0 xs σ.bx = famX (fun _ => true) 0 xs σ.bx := famX_congr 0 xs _ fun j _ h => hD j (by omega)
    simp only [hall, hallX] at H
    have hpd : pinB C.pin (ops.toList.drop ds.length) = true := List.all_eq_true.2 fun o ho => List.all_eq_true.1 hp o (List.mem_of_mem_drop ho)
    exact wps_ok2 (E := E) _ _ a w _ hpd h2 H (fun σ' a' w' hS H' => ⟨σ', hS, H'⟩)
  · exact Nat.le_trans List.countP_le_length (by simp)
  · have := H.1.pad ks
    simp only [famD_none, famX_none]
    exact ⟨this.drew _, H.2⟩
end Go.OM
set_option linter.unusedVariables false
set_option linter.unusedSimpArgs false
namespace Go.OM
variable {C : Ctx} {E : Env} {σ σ' : St} {Q : Exit → Act → World → Prop} {S : Exit → St → Prop} {a : Act} {w : World} {P : Program}
def notTo (r : Root) : AV → Bool
  | .al r' _ _ _ => !decide (r' = r)
  | .ref r' _ _ => !decide (r' = r)
  | .clo _ xs => !(xs.any (Cap.at r))
  | _ => true
def Lies (D : Nat → Bool) (base vs : List (Nat × AV)) (e : Nat × AV) : Prop := e.2 = .u ∨ e ∈ base ∨ ∃ j, j < vs.length ∧ D j = true ∧ e = vsAt vs j
theorem killAll_id {tm base vs : List (Nat × AV)} {D : Nat → Bool} (r : Root) (bad : List Nat) (h : ∀ e ∈ tm, Lies D base vs e) (hb : base.all (fun e => notTo r e.2) = true) (hv : ((List.range vs.length).all fun j => notTo r (vsAt vs j).2 || bad.contains j) = true) (hbad : ∀ j ∈ bad, D j = false) : (tm.map fun e => (e.1, e.2.killAll r)) = tm := by
  have key : ∀ x : AV, notTo r x = true → x.killAll r = x := by
    intro x hx
    cases x with
    | clo f xs =>
      simp only [notTo, Bool.not_eq_true'] at hx
      simp only [AV.killAll, hx, Bool.false_eq_true, if_false]
    | _ => simp_all [notTo, AV.killAll]
  have h2 : ∀ e ∈ tm, (e.1, e.2.killAll r) = e := by
    intro e he
    have hx : e.2.killAll r = e.2 := by
      rcases h e he with h1 | h1 | ⟨j, h1, h2, h3⟩
      · rw [h1]; rfl
      · exact key _ (List.all_eq_true.1 hb e h1)
      · subst h3
        have h4 := List.all_eq_true.1 hv j (List.mem_range.2 h1)
        rw [Bool.or_eq_true] at h4
        rcases h4 with h4 | h4
        · exact key _ h4
        · rw [hbad j (by simpa using h4)] at h2; cases h2
    rw [hx]
  calc (tm.map fun e => (e.1, e.2.killAll r)) = tm.map id := List.map_congr_left h2
    _ = tm := List.map_id tm
theorem famL_lies (D : Nat → Bool) : ∀ (vs : List (Nat × AV)) (i : Nat) (e : Nat × AV), e ∈ famL D i vs → e.2 = .u ∨ ∃ j, j < vs.length ∧ D (i + j) = true ∧ e = vsAt vs j
  | [], i, e, h => by cases h
  | v :: vs, i, e, h => by
    simp only [famL, List.mem_cons] at h
    rcases h with h | h
    · cases hD : D i with
      | true =>
        right
        refine ⟨0, by simp, by simpa using hD, ?_⟩
        rw [h, hD]; rfl
      | false => left; rw [h, hD]; rfl
    · rcases famL_lies D vs (i + 1) e h with h1 | ⟨j, h1, h2, h3⟩
      · exact .inl h1
      · refine .inr ⟨j + 1, by simp only [List.length_cons]; omega, by rw [show i + (j + 1) = i + 1 + j by omega]; exact h2, ?_⟩
        rw [h3]; rfl
def owedY (E : Env) (C : Ctx) (σ : St) (l : List Oper) (vs : List (Nat × AV)) (xs : List (List (Nat × List T))) (td : List (List Nat)) (i : Nat) (o : Oper) : Prop :=
  ∀ (τ : St) (D : Nat → Bool), τ.bx = famX D 0 xs σ.bx → (∀ n, n ∉ vs.map Prod.fst → look τ.tm n = look σ.tm n) → (∀ j ∈ td.getD i [], look τ.tm (vsAt vs j).1 = some (vsAt vs j).2) → look τ.tm (vsAt vs i).1 = some .u →
    D i = false → (∀ j ∈ td.getD i [], D j = true) → (∀ j, i ∈ td.getD j [] → j < vs.length → D j = false) → (∀ e ∈ τ.tm, Lies D σ.tm vs e) → ∀ K : St → Prop, (∀ σ', σ' = ⟨put τ.tm (vsAt vs i).1 (vsAt vs i).2, famX (upd1 D i) 0 xs σ.bx⟩ → K σ') → τ.wps E C.N l [o] K
theorem SWp.drawY {id : Nat} {ops : Array Oper} {l : List Oper} (hl : ops.toList = l) (hp : pinB C.pin l = true) (vs : List (Nat × AV)) (xs : List (List (Nat × List T))) (td : List (List Nat)) (hxl : xs.length = vs.length) (hm : vs.length ≤ l.length) (hdup : decide (vs.map Prod.fst).Nodup = true) (hfresh : ∀ n ∈ vs.map Prod.fst, look σ.tm n = none) (hord : ordB 0 l = true) (hlast : lastT td vs.length l.length = true) (htd : tdB td 0 l = true)
    (hstep : allIdx (owedY E C σ l vs xs td) 0 (l.take vs.length))
    (hend : ∀ K : St → Prop, (∀ σ, S .normal σ → K σ) → (⟨σ.tm ++ vs, famX (fun _ => true) 0 xs σ.bx⟩ : St).wps E C.N l (l.drop vs.length) K) : SWp E C (.region id ops true) S σ := fun a w H => by
  subst hl
  have hnd : (vs.map Prod.fst).Nodup := of_decide_eq_true hdup
  have hdis : ∀ e ∈ vs, e.1 ∉ σ.tm.map Prod.fst := by
    intro e he hm
    have h1 := hfresh e.1 (List.mem_map.2 ⟨e, he, rfl⟩)
    obtain ⟨f, hf, hfe⟩ := List.mem_map.1 hm
    have : ∀ (l : List (Nat × AV)) (n : Nat), n ∈ l.map Prod.fst → look l n ≠ none := by
      intro l
      induction l with
      | nil => intro n h; simp at h
      | cons x l ih =>
        intro n h
        obtain ⟨k, y⟩ := x
        simp only [look]
        by_cases e : k = n
        · simp [e]
        · rw [if_neg e]
          simp only [List.map_cons, List.mem_cons] at h
          exact ih n (h.resolve_left fun h => e h.symm)
    exact this σ.tm e.1 hm h1
  have hordI : ∀ (i : Nat) (o : Oper), ops[i]? = some o → ∀ e ∈ o.after.toList, Region.binds .any e = true → e.on < i := by
    intro i o ho
    have := ordB_get ops.toList 0 i o hord (by rw [Array.getElem?_toList]; exact ho)
    simpa using this
  have key : ∀ D : Nat → Bool, (∀ (j : Nat) (o' : Oper), ops[j]? = some o' → D j = true → depsIn o' D) → ∀ (i : Nat) (o : Oper), ops[i]? = some o → depsIn o D → ∀ j ∈ td.getD i [], j < i ∧ D j = true := by
    intro D hcl i
    induction i using Nat.strongRecOn with
    | _ i ih =>
      intro o ho hdep j hj
      have h1 := tdB_get ops.toList 0 i o htd (by rw [Array.getElem?_toList]; exact ho)
      rw [Nat.zero_add] at h1
      obtain ⟨e, he, hb, h2⟩ := h1 j hj
      have hei := hordI i o ho e he hb
      rcases h2 with h2 | ⟨_, h2⟩
      · subst h2; exact ⟨hei, hdep e he hb⟩
      · have hlt : e.on < ops.size := by have := (Array.getElem?_eq_some_iff.1 ho).1; omega
        have hoe : ops[e.on]? = some ops[e.on] := Array.getElem?_eq_getElem hlt
        obtain ⟨h3, h4⟩ := ih e.on hei _ hoe (hcl e.on _ hoe (hdep e he hb)) j h2
        exact ⟨by omega, h4⟩
  refine wp_region_any E.mixed ?_
  refine wpAny_famT (C := C) (E := E) hp vs.length (by simpa using hm) (fun D => ⟨σ.tm ++ famL D 0 vs, famX D 0 xs σ.bx⟩) hordI (fun i o hi ho => ?_) (fun i o hi ho D hD hcl hdep => ?_) (fun D hD a w H => ?_) ops.size _ (fun _ => false) a _ (by simp) (fun i d hi => by simp [Array.getD, hi]) (fun _ _ => rfl) (fun _ _ _ h => by cases h) ?_ ?_
  · intro D hcl hdep j hj
    have hlt : i < ops.size := (Array.getElem?_eq_some_iff.1 ho).1
    exact (key D hcl i o ho hdep j (lastT_get hlast hi (by simpa using hlt) hj)).2
  · have hget : (ops.toList.take vs.length)[i]? = some o := by
      rw [List.getElem?_take, if_pos hi, Array.getElem?_toList]; exact ho
    have hob := allIdx_get _ 0 i o hstep hget
    rw [Nat.zero_add] at hob
    have hvi : vs[i]? = some (vsAt vs i) := by
      unfold vsAt
      rw [List.getD_eq_getElem?_getD, List.getElem?_eq_getElem hi]; rfl
    have hlk : ∀ j, j < vs.length → look (σ.tm ++ famL D 0 vs) (vsAt vs j).1 = some (if D j = true then (vsAt vs j).2 else .u) := by
      intro j hj
      have hvj : vs[j]? = some (vsAt vs j) := by
        unfold vsAt
        rw [List.getD_eq_getElem?_getD, List.getElem?_eq_getElem hj]; rfl
      rw [look_app, hfresh _ (List.mem_map.2 ⟨_, List.mem_of_getElem? hvj, rfl⟩)]
      have := famL_get D 0 vs j _ hnd hvj
      rw [Nat.zero_add] at this
      exact this
    refine hob ⟨σ.tm ++ famL D 0 vs, famX D 0 xs σ.bx⟩ D rfl (fun n hn => ?_) ?_ ?_ hD (fun j hj => (key D hcl i o ho hdep j hj).2) ?_ (fun e he => ?_) _ (fun σ' hσ' => ?_)
    · show look (σ.tm ++ famL D 0 vs) n = _
      rw [look_app]
      cases h : look σ.tm n with
      | some x => rfl
      | none => exact look_none (by rw [famL_keys]; exact hn)
    · -- what it leans on is done
      intro j hj
      obtain ⟨h1, h2⟩ := key D hcl i o ho hdep j hj
      have := hlk j (by omega)
      rw [h2, if_pos rfl] at this
      exact this
    · have := hlk i hi
      rw [hD] at this
      simpa using this
    · intro j hj hjl
      cases hDj : D j with
      | false => rfl
      | true =>
        exfalso
        have hlt : j < ops.size := by simp only [Array.length_toList] at hm; omega
        have hoj : ops[j]? = some ops[j] := Array.getElem?_eq_getElem hlt
        have := (key D hcl j _ hoj (hcl j _ hoj hDj) i hj).2
        rw [hD] at this; cases this
    · rcases List.mem_append.1 he with he | he
      · exact .inr (.inl he)
      · rcases famL_lies D vs 0 e he with h1 | ⟨j, h1, h2, h3⟩
        · exact .inl h1
        · exact .inr (.inr ⟨j, h1, by simpa using h2, h3⟩)
    · subst hσ'
      show (⟨_, _⟩ : St) = ⟨_, _⟩
      congr 1
      have hmem : vsAt vs i ∈ vs := List.mem_of_getElem? hvi
      rw [put_mem _ _ _ _ (hdis _ hmem)]
      have := put_famL D 0 vs i _ hnd hvi
      rw [Nat.zero_add] at this
      rw [this]
  · have hall : famL D 0 vs = vs := famL_all D 0 vs (fun j _ hj => hD j (by omega))
    have h2 := hend (fun σ' => S .normal σ') (fun _ h => h)
    have hallX : famX D 0 xs σ.bx = famX (fun _ => true) 0 xs σ.bx := famX_congr 0 xs _ fun j _ h => hD j (by omega)
    simp only [hall, hallX] at H
    have hpd : pinB C.pin (ops.toList.drop vs.length) = true := List.all_eq_true.2 fun o ho => List.all_eq_true.1 hp o (List.mem_of_mem_drop ho)
    exact wps_ok2 (E := E) _ _ a w _ hpd h2 H (fun σ' a' w' hS H' => ⟨σ', hS, H'⟩)
  · exact Nat.le_trans List.countP_le_length (by simp)
  · have := H.1.pad (vs.map Prod.fst)
    rw [famL_none, famX_none]
    rw [List.map_map] at this
    exact ⟨this.drew _, H.2⟩
end Go.OM
set_option linter.unusedVariables false
set_option linter.unusedSimpArgs false
namespace Go.OM
open Go.Sort
theorem er_ints : ∀ {es : List TA} {l : List Int}, TA.erL es = (l.map fun n => T.v (.int .i64 n)) → es = l.map fun n => TA.v (.int .i64 n)
  | [], [], _ => rfl
  | [], x :: xs, h => by simp [TA.erL] at h
  | a :: as, [], h => by simp [TA.erL] at h
  | a :: as, x :: xs, h => by
    simp only [TA.erL, List.map_cons, List.cons.injEq] at h ⊢
    refine ⟨?_, er_ints h.2⟩
    have h1 := h.1
    cases a <;> simp only [TA.er, T.v.injEq, reduceCtorEq] at h1
    rw [h1]
theorem vals_ints (l : List Int) : TA.vals ((l.map fun n => TA.v (.int .i64 n)).flatMap TA.cells) = l.map (Value.int .i64) := by
  induction l with
  | nil => rfl
  | cons x l ih =>
    simp only [List.map_cons, List.flatMap_cons, TA.cells, TA.vals, List.map_append, List.map_nil, TA.val1, List.singleton_append]
    simp only [TA.vals] at ih
    rw [ih]
theorem cntL_ints (q : Nat) (l : List Int) : TA.cntL q (l.map fun n => TA.v (.int .i64 n)) = 0 := by
  induction l with
  | nil => rfl
  | cons x l ih => simp only [List.map_cons, TA.cntL, TA.cnt, ih]
theorem holdsL_ints (Z : Nat → Prop) (h : Array Obj) (l : List Int) : TA.HoldsL Z h (l.map fun n => TA.v (.int .i64 n)) := by
  induction l with
  | nil => simp [TA.HoldsL]
  | cons x l ih => simp only [List.map_cons, TA.HoldsL, TA.Holds]; exact ⟨trivial, ih⟩
theorem ok_sorts {E : Env} {f : FuncId} (hne : ∀ (blk off cap : Nat) (zs : List Int) (w : World), Holds (Value.int .i64) w blk off zs.toArray → blk < w.heap.size → zs.length < 4611686018427387904 →
      Calls E.P f #[.slice (some ⟨blk, off, none⟩) zs.length cap] w fun e w' => e = .returned (.tuple #[]) ∧ ∃ n os, w' = grow (putRow (Value.int .i64) (Sort.ahead w n) blk off (zs.mergeSort fun x y => decide (x ≤ y)).toArray) os)
    (hnil : ∀ (p : Option Addr) (cap : Nat) (w : World), Calls E.P f #[.slice p 0 cap] w fun e w' => e = .returned (.tuple #[]) ∧ w' = w)
    (l : List Int) (hl : l.length < 4611686018427387904) : OkIO E f [.val (.sl true 1 (l.map fun n => T.v (.int .i64 n)))] [] [] [(0, .sl true 1 ((l.mergeSort fun x y => decide (x ≤ y)).map fun n => T.v (.int .i64 n)))] := by
  intro w Z as has hA hG
  obtain ⟨a, rfl⟩ : ∃ a, as = [a] := by
    cases as with
    | nil => simp at has
    | cons a t =>
      cases t with
      | nil => exact ⟨a, rfl⟩
      | cons b t => simp at has
  simp only [List.map_cons, List.map_nil, List.cons.injEq, and_true] at has
  have hHa := hA.holds a (by simp)
  cases a with
  | ptr b off cs => simp only [ArgA.er, reduceCtorEq] at has
  | val x =>
    simp only [ArgA.er, Arg.val.injEq] at has
    cases x with
    | v x => simp only [TA.er, reduceCtorEq] at has
    | agg x => simp only [TA.er, reduceCtorEq] at has
    | dead x => simp only [TA.er, reduceCtorEq] at has
    | clo f cs => simp only [TA.er, reduceCtorEq] at has
    | nl o s A =>
      simp only [TA.er, T.sl.injEq] at has
      obtain ⟨rfl, rfl, h3⟩ := has
      have hl0 : l = [] := by cases l <;> simp_all
      subst hl0
      refine (hnil A 0 w).mono fun e w' ⟨he, hw⟩ => ?_
      subst hw
      refine ⟨Z, [], [], [TA.nl true 1 A], he, rfl, rfl, by simp [TA.erL, TA.er], rfl, ?_⟩
      exact {
        holds := ⟨hHa, trivial⟩
        outs := trivial
        uniq := fun q => by simp [TA.cntL, TA.cnt, pcL, ArgA.pc]
        own := fun q hq => by simp [TA.cntL, TA.cnt] at hq
        zle := fun _ h => h
        zext := fun _ h => .inl h
        zlt := hA.zlt
        os := rfl
        tape := rfl
        output := rfl
        grown := Nat.le_refl _
        kept := fun q hq _ => rfl
        part := fun x hx => by simp [ptrs] at hx }
    | sl o s b off cap es =>
      simp only [TA.er, T.sl.injEq] at has
      obtain ⟨rfl, rfl, h3⟩ := has
      have hes := er_ints h3
      subst hes
      obtain ⟨⟨cs, ety, fr, m1, m2, m3⟩, hc, _, _, _⟩ := hHa
      obtain ⟨m4, rfl⟩ := m2 rfl
      rw [vals_ints] at m3
      rw [List.length_map] at hc
      have hb : b < w.heap.size := (Array.getElem?_eq_some_iff.1 m1).1
      have hHold : Sort.Holds (Value.int .i64) w b off l.toArray := by
        intro j hj
        have hj' : j < l.length := by simpa using hj
        have := m3 j (.int .i64 l[j]) (by rw [List.getElem?_map, List.getElem?_eq_getElem hj']; rfl)
        refine ⟨?_, by simp [World.frozen?, m1]⟩
        simp only [World.cell?, m1]
        simp [this, hj']
      have hval : (ArgA.val (TA.sl true 1 b off cap (l.map fun n => TA.v (.int .i64 n)))).value = .slice (some ⟨b, off, none⟩) l.length cap := by
        simp [ArgA.value, TA.val, TA.val1]
      show Calls E.P f #[(ArgA.val (TA.sl true 1 b off cap (l.map fun n => TA.v (.int .i64 n)))).value] w _
      rw [hval]
      refine (hne b off cap l w hHold hb hl).mono fun e w' ⟨he, n, os, hw⟩ => ?_
      generalize hso : (l.mergeSort fun x y => decide (x ≤ y)) = so at *
      have hsl : so.length = l.length := by rw [← hso]; exact List.length_mergeSort _
      have hheap : w'.heap[b]? = some (.cells (putCells (Value.int .i64) off so.toArray cs) ety (0, 0)) := by
        rw [hw, heap_grow_old _ _ (by simpa [putRow, mapBlock, Sort.ahead] using hb)]
        simp [putRow, mapBlock, Sort.ahead, Array.getElem?_modify, m1, onCells]
      have hgrown : w.heap.size ≤ w'.heap.size := by
        rw [hw]
        show w.heap.size ≤ ((putRow (Value.int .i64) (Sort.ahead w n) b off so.toArray).heap ++ os).size
        simp [putRow, mapBlock, Sort.ahead]
      refine ⟨Z, [], [], [TA.sl true 1 b off cap (so.map fun n => TA.v (.int .i64 n))], he, rfl, rfl, ?_, ?_, ?_⟩
      · simp only [TA.erL, TA.er, TA.erL_map, List.map_map, List.map_cons, List.map_nil]
        rfl
      · have hv2 : ([ArgA.val (TA.sl true 1 b off cap (l.map fun n => TA.v (.int .i64 n)))].map ArgA.value)[0]? = some (Value.slice (some ⟨b, off, none⟩) l.length cap) := by
          simp only [List.map_cons, List.map_nil, List.getElem?_cons_zero, hval]
        simp only [List.map_cons, List.map_nil, List.getElem?_cons_zero, Option.getD_some, hval]
        simp [TA.val, TA.val1, hsl]
      · have hinn : ∀ q, innL q [ArgA.val (TA.sl true 1 b off cap (l.map fun n => TA.v (.int .i64 n)))] = if b = q then 1 else 0 := by
          intro q
          simp only [innL, ArgA.inn, TA.cnt, cntL_ints]
          split <;> simp_all
        have hpc : ∀ q, pcL q [ArgA.val (TA.sl true 1 b off cap (l.map fun n => TA.v (.int .i64 n)))] = 0 := by
          intro q; simp [pcL, ArgA.pc]
        have hcnt : ∀ q, TA.cntL q ([] ++ [TA.sl true 1 b off cap (so.map fun n => TA.v (.int .i64 n))]) = if b = q then 1 else 0 := by
          intro q
          simp only [List.nil_append, TA.cntL, TA.cnt, cntL_ints]
          split <;> simp_all
        exact {
          holds := by
            simp only [List.nil_append, TA.HoldsL, TA.Holds, and_true]
            refine ⟨⟨_, ety, (0, 0), hheap, fun _ => ⟨by simpa [putCells] using m4, rfl⟩, fun j u hu => ?_⟩, by rw [List.length_map, hsl]; exact hc, by simp, holdsL_ints _ _ _, ?_⟩
            · rw [vals_ints] at hu
              have hju : j < so.length := by
                have := (List.getElem?_eq_some_iff.1 hu).1
                simpa using this
              have hlt : off + j < cs.size := by omega
              rw [List.getElem?_map, List.getElem?_eq_getElem hju] at hu
              simp only [Option.map_some, Option.some.injEq] at hu
              subst hu
              simp [putCells, hlt, hju]
            · intro e he
              obtain ⟨x, _, rfl⟩ := List.mem_map.1 he
              rfl
          outs := by simp [ptrs, outsOk]
          uniq := fun q => by
            rw [hcnt, hpc]
            simp only [List.flatten_nil, TA.cntL]
            split <;> omega
          own := fun q hq => by
            rw [hcnt] at hq
            simp only [List.flatten_nil, TA.cntL] at hq
            have h1 : 0 < innL q [ArgA.val (TA.sl true 1 b off cap (l.map fun n => TA.v (.int .i64 n)))] := by
              rw [hinn]; omega
            exact ⟨.inl h1, hA.notZ q (by omega)⟩
          zle := fun _ h => h
          zext := fun _ h => .inl h
          zlt := fun q hq => Nat.lt_of_lt_of_le (hA.zlt q hq) hgrown
          os := by rw [hw]; rfl
          tape := by rw [hw]; rfl
          output := by rw [hw]; rfl
          grown := hgrown
          kept := fun q hq h0 => by
            rw [hinn] at h0
            have hne' : ¬ b = q := by
              intro e
              rw [if_pos e] at h0
              omega
            rw [hw, heap_grow_old _ _ (by simpa [putRow, mapBlock, Sort.ahead] using hq)]
            simp [putRow, mapBlock, Sort.ahead, Array.getElem?_modify, hne']
          part := fun x hx => by simp [ptrs] at hx }
end Go.OM
