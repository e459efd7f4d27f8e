import Derived.Test.YteimlhpimngjfaaDoorOmB
import Derived.Sort.Grow
import Derived.Deep.Draws
set_option linter.unusedVariables false
set_option linter.unusedSimpArgs false
set_option linter.unusedVariables false
set_option linter.unusedSimpArgs false
namespace Go.OM
variable {C : Ctx} {E : Env} {σ σ' : St} {S : Exit → St → Prop} {d : Code}
def famL (D : Nat → Bool) : Nat → List (Nat × AV) → List (Nat × AV)
 | _, [] => []
 | i, (k, v) :: vs => (k, if D i = true then v else .u) :: famL D (i + 1) vs
theorem famL_keys (D : Nat → Bool) : ∀ (i : Nat) (vs : List (Nat × AV)), (famL D i vs).map Prod.fst = vs.map Prod.fst
 | _, [] => rfl
 | i, (k, v) :: vs => by simp [famL, famL_keys D (i + 1) vs]
theorem famL_all (D : Nat → Bool) : ∀ (i : Nat) (vs : List (Nat × AV)), (∀ j, i ≤ j → j < i + vs.length → D j = true) → famL D i vs = vs
 | _, [], _ => rfl
 | i, (k, v) :: vs, h => by
  rw [famL, h i (Nat.le_refl _) (by simp), if_pos rfl, famL_all D (i + 1) vs (fun j h1 h2 => h j (by omega) (by simp only [List.length_cons]; omega))]
theorem famL_none : ∀ (i : Nat) (vs : List (Nat × AV)), famL (fun _ => false) i vs = vs.map fun e => (e.1, .u)
 | _, [] => rfl
 | i, (k, v) :: vs => by simp [famL, famL_none (i + 1) vs]
theorem look_none {α : Type} : ∀ {l : List (Nat × α)} {n : Nat}, n ∉ l.map Prod.fst → look l n = none
 | [], n, _ => rfl
 | (k, x) :: l, n, h => by
  simp only [List.map_cons, List.mem_cons, not_or] at h
  simp only [look, if_neg (fun e : k = n => h.1 e.symm)]
  exact look_none h.2
theorem famL_get (D : Nat → Bool) : ∀ (i : Nat) (vs : List (Nat × AV)) (j : Nat) (e : Nat × AV), (vs.map Prod.fst).Nodup → vs[j]? = some e → look (famL D i vs) e.1 = some (if D (i + j) = true then e.2 else .u)
 | i, [], j, e, _, h => by simp at h
 | i, (k, v) :: vs, j, e, hn, h => by
  simp only [List.map_cons, List.nodup_cons] at hn
  cases j with
  | zero =>
   simp only [List.getElem?_cons_zero, Option.some.injEq] at h
   subst h
   simp [famL, look]
  | succ j =>
   simp only [List.getElem?_cons_succ] at h
   have hne : k ≠ e.1 := fun hk => hn.1 (List.mem_map.2 ⟨e, List.mem_of_getElem? h, hk.symm⟩)
   simp only [famL, look, if_neg hne]
   rw [famL_get D (i + 1) vs j e hn.2 h, show i + 1 + j = i + (j + 1) by omega]
theorem put_mem {α : Type} : ∀ (l m : List (Nat × α)) (n : Nat) (x : α), n ∉ l.map Prod.fst → put (l ++ m) n x = l ++ put m n x
 | [], m, n, x, _ => rfl
 | (k, y) :: l, m, n, x, h => by
  simp only [List.map_cons, List.mem_cons, not_or] at h
  simp only [List.cons_append, put, if_neg (fun e : k = n => h.1 e.symm), put_mem l m n x h.2]
theorem put_famL (D : Nat → Bool) : ∀ (i : Nat) (vs : List (Nat × AV)) (j : Nat) (e : Nat × AV), (vs.map Prod.fst).Nodup → vs[j]? = some e → put (famL D i vs) e.1 e.2 = famL (upd1 D (i + j)) i vs
 | i, [], j, e, _, h => by simp at h
 | i, (k, v) :: vs, j, e, hn, h => by
  simp only [List.map_cons, List.nodup_cons] at hn
  have hun : ∀ (n : Nat) (i : Nat) (vs : List (Nat × AV)), n < i → famL (upd1 D n) i vs = famL D i vs := by
   intro n i vs
   induction vs generalizing i with
   | nil => intro _; rfl
   | cons e vs ih =>
    intro hni
    obtain ⟨k, v⟩ := e
    simp only [famL, ih (i + 1) (by omega)]
    have : upd1 D n i = D i := by unfold upd1; rw [if_neg (by omega)]
    rw [this]
  cases j with
  | zero =>
   simp only [List.getElem?_cons_zero, Option.some.injEq] at h
   subst h
   simp only [famL, put, if_true, Nat.add_zero, hun i (i + 1) vs (by omega)]
   simp [upd1]
  | succ j =>
   simp only [List.getElem?_cons_succ] at h
   have hne : k ≠ e.1 := fun hk => hn.1 (List.mem_map.2 ⟨e, List.mem_of_getElem? h, hk.symm⟩)
   simp only [famL, put, if_neg hne]
   rw [put_famL D (i + 1) vs j e hn.2 h, show i + 1 + j = i + (j + 1) by omega]
   have : upd1 D (i + (j + 1)) i = D i := by unfold upd1; rw [if_neg (by omega)]
   rw [this]
def tdB (td : List (List Nat)) : Nat → List Oper → Bool
 | _, [] => true
 | i, o :: os => ((td.getD i []).all fun j => decide (j < i) && o.after.toList.any fun e => Region.binds .any e && (e.on == j || (decide (e.on < i) && (td.getD e.on []).contains j))) && tdB td (i + 1) os
theorem tdB_get {td : List (List Nat)} : ∀ (l : List Oper) (n i : Nat) (o : Oper), tdB td n l = true → l[i]? = some o → ∀ j ∈ td.getD (n + i) [], ∃ e ∈ o.after.toList, Region.binds .any e = true ∧ (e.on = j ∨ (e.on < n + i ∧ j ∈ td.getD e.on []))
 | [], n, i, o, _, h => by simp at h
 | x :: l, n, i, o, h, hi => by
  simp only [tdB, Bool.and_eq_true] at h
  cases i with
  | zero =>
   simp only [List.getElem?_cons_zero, Option.some.injEq] at hi
   subst hi
   intro j hj
   rw [Nat.add_zero] at hj ⊢
   have := List.all_eq_true.1 h.1 j hj
   simp only [Bool.and_eq_true] at this
   have h2 := List.any_eq_true.1 this.2
   obtain ⟨e, he, hb⟩ := h2
   simp only [Bool.and_eq_true, Bool.or_eq_true, beq_iff_eq, decide_eq_true_eq, List.contains_iff_mem] at hb
   exact ⟨e, he, hb.1, hb.2⟩
  | succ i =>
   simp only [List.getElem?_cons_succ] at hi
   have := tdB_get l (n + 1) i o h.2 hi
   rwa [show n + 1 + i = n + (i + 1) by omega] at this
def vsAt (vs : List (Nat × AV)) (j : Nat) : Nat × AV := vs.getD j (0, .u)
def owed (E : Env) (C : Ctx) (σ : St) (l : List Oper) (vs : List (Nat × AV)) (td : List (List Nat)) (i : Nat) (o : Oper) : Prop :=
 ∀ τ : St, τ.bx = σ.bx → (∀ n, n ∉ vs.map Prod.fst → look τ.tm n = look σ.tm n) → (∀ j ∈ td.getD i [], look τ.tm (vsAt vs j).1 = some (vsAt vs j).2) → look τ.tm (vsAt vs i).1 = some .u → ∀ K : St → Prop, (∀ σ', σ' = ⟨put τ.tm (vsAt vs i).1 (vsAt vs i).2, τ.bx⟩ → K σ') → τ.wps E C.N l [o] K
end Go.OM
namespace Go.OM
variable {C : Ctx} {Z Z' : Nat → Prop} {s : StA} {a : Act} {w w' : World} {E : Env} {o : Oper} {σ σ' : St} {K : Act → World → Prop} {Q : Exit → Act → World → Prop} {S : Exit → St → Prop} {c d : Code}
def St.callAt (N : Nat) (dst : Option Nat) (r : Root) (o : Nat) (p : Path) (k : Option Nat) (xs : List Operand) (y' : T) (res : List T) (σ : St) : Option (List Arg × St) := (σ.rootCells r).bind fun cs => (T.getP cs o p (k.getD 1)).bind fun l => (St.plains σ xs).bind fun ys =>
      if kOf y' = k ∧ y'.cells.length = k.getD 1 then (((σ.setRoot true r (T.setP cs o p (l.map T.bury))).setRoot true r (T.setP (T.setP cs o p (l.map T.bury)) o p y'.cells)).put? N dst (retAV res)).map fun σ1 => (.val (mkT k l) :: ys.map Arg.val, σ1) else none
theorem callAt_args {N : Nat} {dst : Option Nat} {r : Root} {o : Nat} {p : Path} {k : Option Nat} {xs : List Operand} {args : List Arg} {y' : T} {res : List T} (h : σ.callAt N dst r o p k xs y' res = some (args, σ')) : ∃ cs l ys, σ.rootCells r = some cs ∧ T.getP cs o p (k.getD 1) = some l ∧ St.plains σ xs = some ys ∧ kOf y' = k ∧ y'.cells.length = k.getD 1 ∧ args = .val (mkT k l) :: ys.map Arg.val ∧ ((σ.setRoot true r (T.setP cs o p (l.map T.bury))).setRoot true r (T.setP (T.setP cs o p (l.map T.bury)) o p y'.cells)).put? N dst (retAV res) = some σ' := by
 unfold St.callAt at h
 obtain ⟨cs, hcs, h⟩ := Option.bind_eq_some_iff.1 h
 obtain ⟨l, hl, h⟩ := Option.bind_eq_some_iff.1 h
 obtain ⟨ys, hys, h⟩ := Option.bind_eq_some_iff.1 h
 split at h
 ·rename_i hc
  obtain ⟨σ1, hσ, h⟩ := Option.map_eq_some_iff.1 h
  simp only [Prod.mk.injEq] at h
  obtain ⟨rfl, rfl⟩ := h
  exact ⟨cs, l, ys, hcs, hl, hys, hc.1, hc.2, rfl, hσ⟩
 cases h
theorem callAt_ok {f : FuncId} {x : Operand} {xs : List Operand} {args : List Arg} {y' : T} {res : List T} {dst : Option Nat} {r : Root} {o : Nat} {p : Path} {k : Option Nat} (hG : ∀ s Z, s.er = σ → SRel C Z s a w → E.GOk Z w.heap) (hok : OkIO E f args res [] [(0, y')]) (hl : σ.callAt C.N dst r o p k xs y' res = some (args, σ'))
  (hev : ∀ s Z base cs l, s.er = σ → SRel C Z s a w → s.rootCells r = some (base, cs) → TA.getP cs o p (k.getD 1) = some l → a.eval x = mkVal k l) (H : SOk C σ a w) : Calls E.P f ((x :: xs).map a.eval).toArray w fun e w' => ∃ v, e = .returned v ∧ SOk C σ' (a.put dst v) w' := by
 obtain ⟨s, Z, h1, h2, h3⟩ := H
 have hG0 := hG s Z h1 h3
 subst h1
 obtain ⟨csT, lT, ys, hcs, hgT, hys, hk1, hk2, hargs, hput⟩ := callAt_args hl
 rw [StA.er_rootCells] at hcs
 obtain ⟨⟨base, cs⟩, g1, hcs⟩ := Option.map_eq_some_iff.1 hcs
 subst hcs
 obtain ⟨l, g2, t2⟩ := TA.er_get _ _ _ _ _ hgT
 subst t2
 have g4 : a.eval x = mkVal k l := hev s Z base cs l rfl h3 g1 g2
 have hlen : k = none → l.length = 1 := fun hk => by rw [TA.getP_length _ _ _ _ _ g2, hk]; rfl
 obtain ⟨q1, q2, q3, q4⟩ := root_holds h3 g1
 obtain ⟨r1, r2, r3⟩ := h3.takePlace g1 g2
 obtain ⟨b1, b2, b3, b4⟩ := bury_map_holds r2 r3
 have hbl : (l.map TA.bury).length = k.getD 1 := by rw [List.length_map]; exact TA.getP_length _ _ _ _ _ g2
 have hset : TA.getP (TA.setP cs o p (l.map TA.bury)) o p (k.getD 1) = some (l.map TA.bury) := getP_setP p cs o (k.getD 1) l _ g2 hbl b2 q2 q1
 have hroot := rootCells_setRoot_self (full := true) (hd' := l ++ s.hd) g1 (TA.setP_length _ p _ _ _ _ g2 hbl) (TA.setP_isCell _ b2 p _ _ q2)
 generalize hs1 : s.setRoot true r (TA.setP cs o p (l.map TA.bury)) (l ++ s.hd) = s1 at r1 hroot
 have hs1hd : s1.hd = l := by rw [← hs1, hd_setRoot, h2, List.append_nil]
 obtain ⟨zs, z1, z2, z3⟩ := plains_ok h3 xs ys hys
 have hyH : (mkTA k l).Holds Z w.heap := mkTA_holds hlen r3 r2
 have hcy : ∀ q, (mkTA k l).cnt q = TA.cntL q l := fun q => mkTA_cnt q hlen
 have hz0 : ∀ q, ∀ z ∈ zs, z.cnt q = 0 := fun q z hz => TA.cnt_of_noOwn q z (z2 z hz).2
 have hinn : ∀ q, innL q (.val (mkTA k l) :: zs.map ArgA.val) = TA.cntL q l := by
  intro q
  have : ∀ zs : List TA, (∀ z ∈ zs, z.cnt q = 0) → innL q (zs.map ArgA.val) = 0 := by
   intro zs
   induction zs with
   | nil => intro _; rfl
   | cons z zs ih => intro h; simp only [List.map_cons, innL, ArgA.inn, h z (by simp), ih (fun z hz => h z (by simp [hz]))]
  simp only [innL, ArgA.inn, hcy, this zs (hz0 q)]; omega
 have hpc : ∀ q, pcL q (.val (mkTA k l) :: zs.map ArgA.val) = 0 := by
  intro q
  have : ∀ zs : List TA, pcL q (zs.map ArgA.val) = 0 := by
   intro zs
   induction zs with
   | nil => rfl
   | cons z zs ih => simp only [List.map_cons, pcL, ArgA.pc, ih]
  simp only [pcL, ArgA.pc, this]
 have hptr : ptrs (.val (mkTA k l) :: zs.map ArgA.val) = [] := by
  have : ∀ zs : List TA, ptrs (zs.map ArgA.val) = [] := by
   intro zs
   induction zs with
   | nil => rfl
   | cons z zs ih => simp only [List.map_cons, ptrs, ih]
  simp only [ptrs, this]
 have hA : ArgsOk Z w.heap (.val (mkTA k l) :: zs.map ArgA.val) := by
  refine ⟨fun y hy => ?_, fun q => ?_, fun q hq => ?_, r1.zlt⟩
  ·rcases List.mem_cons.1 hy with rfl | hy
   ·exact hyH
   obtain ⟨z, hz, rfl⟩ := List.mem_map.1 hy
   exact (z2 z hz).1
  ·rw [hinn, hpc]
   have := r1.uniq q
   simp only [StA.cnt, hs1hd] at this; omega
  rw [hinn, hpc] at hq
  exact r1.notZ q (by simp only [StA.cnt, hs1hd]; omega)
 have hev : ((x :: xs).map a.eval).toArray = ((.val (mkTA k l) :: zs.map ArgA.val : List ArgA).map ArgA.value).toArray := by
  congr 1
  simp only [List.map_cons, List.map_map, ArgA.value]
  rw [g4, z3, mkTA_val hlen r3]
  rfl
 rw [hev]
 refine (hok w Z (.val (mkTA k l) :: zs.map ArgA.val) ?_ hA hG0).mono fun e w' ⟨Z', rs, ls, gs, he, hrs, hls, hgs, hgv, B⟩ => ?_
 ·rw [hargs, ← z1]
  simp only [List.map_cons, List.map_map, ArgA.er, er_mkTA]
  rfl
 refine ⟨retV rs, he, ?_⟩
 subst hrs
 have hls0 : ls = [] := by simpa using hls
 subst hls0
 obtain ⟨g, rfl⟩ : ∃ g, gs = [g] := by
  have : (TA.erL gs).length = 1 := by rw [hgs]; rfl
  rw [TA.erL_map, List.length_map] at this
  exact List.length_eq_one_iff.1 this
 simp only [TA.erL, List.map_cons, List.map_nil, List.cons.injEq, and_true] at hgs
 simp only [List.map_cons, List.map_nil, List.cons.injEq, and_true, List.getElem?_cons_zero, Option.getD_some, ArgA.value] at hgv
 have hgval : g.val = mkVal k l := by rw [hgv, mkTA_val hlen r3]
 have hBh := holdsL_append.1 B.holds
 have hgH : g.Holds Z' w'.heap := by have := hBh.2; simp only [TA.HoldsL] at this; exact this.1
 have hR : SRel C Z' ⟨s1.tm, s1.bx, rs ++ [g]⟩ a w' := by
  refine r1.replaceHand B.grown B.os B.tape B.output (fun q hq h0 => ?_) B.zle (fun q hq => ?_) B.zlt B.holds (fun q => ?_) (fun q hq => ?_)
  ·refine B.kept q hq ?_
   rw [hinn, hpc]
   rw [hs1hd] at h0; omega
  ·rcases B.zext q hq with h | h | h
   ·exact .inl h
   ·exact .inr (.inl h)
   rw [hinn] at h; right; right; rw [hs1hd]; exact h
  ·have := B.uniq q; omega
  have := B.own q (by omega)
  rw [hinn] at this
  rw [hs1hd]
  exact this
 have hroot2 : (StA.mk s1.tm s1.bx (rs ++ [g])).rootCells r = some (base, TA.setP cs o p (l.map TA.bury)) := by
  rw [← hroot]; cases r <;> rfl
 have hvals : TA.vals g.cells = TA.vals (l.map TA.bury) := by
  rw [b3]
  exact mkVal_inj (by rw [hgs]; exact hk1) hgH hlen r3 hgval
 have hglen : g.cells.length = k.getD 1 := by
  have : (TA.erL g.cells).length = y'.cells.length := by rw [← TA.er_cells, hgs]
  rw [TA.erL_map, List.length_map] at this
  omega
 have hG := hR.givePlace (hd' := rs) hroot2 hset hglen hvals (TA.holds_cells hgH) (TA.isCell_mem_cells hgH) (fun q => by rw [TA.cntL_append, TA.cntL_cells]; simp only [TA.cntL]; omega) hBh.1
 obtain ⟨xA, x1, x2, x3⟩ := retV_ok hBh.1 ((StA.mk s1.tm s1.bx (rs ++ [g])).setRoot true r (TA.setP (TA.setP cs o p (l.map TA.bury)) o p g.cells) rs)
 refine SOk.put? hG ?_ hput x1 x2 (fun q => by rw [x3, hd_setRoot]; exact Nat.le_refl _)
 have e3 : s1.er = s.er.setRoot true r (T.setP (TA.erL cs) o p ((TA.erL l).map T.bury)) := by
  rw [← hs1, StA.er_setRoot, TA.er_set, erL_bury]
 rw [StA.er_setRoot, TA.er_set, TA.er_set, erL_bury, ← TA.er_cells, hgs, ← e3]
 rfl
theorem boxRaw_ok {t : TypeId} {x : Operand} {cs : List Value} (ho : o.op = .box t x) (hv : (a.eval x).cells = cs.toArray) (h1c : ∀ v ∈ cs, TA.OneCell v) (h : σ.newBox C.N o.dst (cs.map T.v) = some σ') (H : SOk C σ a w) (hK : ∀ a' w', SOk C σ' a' w' → K a' w') : o.wp E.P a w K Q := by
 obtain ⟨s, Z, h1, h2, h3⟩ := id H
 subst h1
 unfold St.newBox at h
 split at h
 case h_2 => cases h
 rename_i d hd
 have hvals : TA.vals (cs.map TA.v) = cs := by
  simp only [TA.vals, List.map_map]
  exact (List.map_congr_left (fun x _ => rfl)).trans (List.map_id _)
 have hcnt : ∀ (k : Nat) (cs : List Value), TA.cntL k (cs.map TA.v) = 0 := by
  intro k cs
  induction cs with
  | nil => rfl
  | cons c cs ih => simp only [List.map_cons, TA.cntL, TA.cnt, ih]
 have hH : ∀ (cs : List Value), (∀ v ∈ cs, TA.OneCell v) → TA.HoldsL Z w.heap (cs.map TA.v) := by
  intro cs
  induction cs with
  | nil => intro _; simp [TA.HoldsL]
  | cons c cs ih => intro hc; simp only [List.map_cons, TA.HoldsL, TA.Holds]; exact ⟨hc c (by simp), ih fun v hv => hc v (by simp [hv])⟩
 have hnew := h3.newBox (d := d) (w' := { w with heap := w.heap.push (.cells (TA.vals (cs.map TA.v)).toArray t) }) (cs := cs.map TA.v) (hd0 := []) (put_lt h) rfl rfl rfl rfl (hH cs h1c) (by simp [TA.isCell]) (by simp [TA.HoldsL]) (fun k => by rw [hcnt]; simp [TA.cntL])
 refine wp_value (v := .pointer (some ⟨w.heap.size, 0, none⟩)) (w' := { w with heap := w.heap.push (.cells (TA.vals (cs.map TA.v)).toArray t) }) ?_ (hK _ _ ?_)
 ·simp [execOp, ho, Instr.box, newVar, newRow, hv, hvals]
 rw [hd]
 refine newBox_put hnew (look_putB_self _ _ _) ?_
 rw [er_newBox]
 have he : TA.erL (cs.map TA.v) = cs.map T.v := by
  rw [TA.erL_map, List.map_map]
  rfl
 rw [he]
 exact h
end Go.OM
namespace Go.OM
variable {C : Ctx} {Z Z' : Nat → Prop} {s : StA} {a : Act} {w w' : World} {E : Env} {o : Oper} {σ σ' : St} {K : St → Prop} {Q : Exit → Act → World → Prop} {S : Exit → St → Prop} {c d : Code} {ops os : List Oper}
def St.W (E : Env) (C : Ctx) (ops : List Oper) : List Oper → (St → Prop) → St → Prop
 | [], K, σ => K σ
 | o :: os, K, σ => (∃ K' : St → Prop, σ.wps E C.N ops [o] K' ∧ ∀ σ1, K' σ1 → St.W E C ops os K σ1) ∨
   (o.guard = none ∧ ∃ t n V X, o.op = .box t (.tmp n) ∧ (n, V) ∈ C.pin ∧ σ.op (.tmp n) = .t X ∧ ∀ cs : List Value, V.cells.toList = cs → cs.length = X.cells.length → ∃ σ1, σ.newBox C.N o.dst (cs.map T.v) = some σ1 ∧ St.W E C ops os K σ1) ∨
   (o.guard = none ∧ ∃ g x xs f n off k V args res y' σ1, callOf o = some (g, x :: xs) ∧ σ.fn g = some f ∧ Enters E.P f ∧ (n, V) ∈ C.pin ∧ σ.op x = .t (mkT k (((V.cells.toList.drop off).take (k.getD 1)).map T.v)) ∧ σ.callAt C.N o.dst (.slot n) off [] k xs y' res = some (args, σ1) ∧ OkIO E f args res [] [(0, y')] ∧ St.W E C ops os K σ1)
theorem erL_v : ∀ {zs : List TA} {rs : List Value}, TA.erL zs = rs.map T.v → zs = rs.map TA.v
 | [], [], _ => rfl
 | [], r :: rs, h => by simp [TA.erL] at h
 | z :: zs, [], h => by simp [TA.erL] at h
 | z :: zs, r :: rs, h => by
  simp only [TA.erL, List.map_cons, List.cons.injEq] at h ⊢
  refine ⟨?_, erL_v h.2⟩
  have h1 := h.1
  cases z <;> simp only [TA.er, T.v.injEq, reduceCtorEq] at h1
  rw [h1]
theorem vals_v (rs : List Value) : TA.vals (rs.map TA.v) = rs := by
 simp only [TA.vals, List.map_map]
 exact (List.map_congr_left (fun x _ => rfl)).trans (List.map_id _)
theorem slot_vals {n : Nat} {V : Value} {base : Option (Nat × Nat)} {cs : List TA} (H : SRel C Z s a w) (hr : s.rootCells (.slot n) = some (base, cs)) (hV : a.tmps.getD n undef = V) : TA.vals cs = V.cells.toList := by
 simp only [StA.rootCells] at hr
 split at hr
 case h_2 => cases hr
 rename_i x hx
 injection hr with hr
 simp only [Prod.mk.injEq] at hr
 obtain ⟨rfl, rfl⟩ := hr
 obtain ⟨h1, h2⟩ := H.tm n _ hx
 rw [← hV, h1, val_cells' h2]
theorem opwp_mono {P : Program} {K1 K2 : Act → World → Prop} (hK : ∀ a w, K1 a w → K2 a w) (h : o.wp P a w K1 Q) : o.wp P a w K2 Q := by
 unfold Oper.wp at *
 generalize (execOp a.eval o).run P w = r at *
 cases r with
 | ok n w' =>
  cases n <;> simp only [Oper.upon] at h ⊢ <;>
   first
    | exact hK _ _ h
    | exact Calls.mono h (fun e w'' he => by cases e <;> first | exact hK _ _ he | exact he)
    | exact Rows.mono h (fun _ _ he => hK _ _ he)
    | exact h
 | halt x w' => cases x <;> simp only [Oper.upon] at h ⊢ <;> exact h
theorem W_ok {ops : Array Oper} : ∀ (os : List Oper) (σ : St) (a : Act) (w : World) (K : St → Prop), pinB C.pin os = true → σ.W E C ops.toList os K → SOk2 E C σ a w → (∀ σ' a' w', K σ' → SOk2 E C σ' a' w' → Q .normal a' w') → wpList E.P ops Q os a w
 | [], σ, a, w, KS, _, h, H, hQ => hQ σ a w h H
 | o :: os, σ, a, w, KS, hp, h, H, hQ => by
  have hp0 := hp
  simp only [pinB, List.all_cons, Bool.and_eq_true] at hp
  have hput : ∀ b : Act, b.tmps = a.tmps → ∀ v, PinOk E C (b.put o.dst v) := fun b hb v => PinOk.put (a := b) ⟨fun x hx => by rw [hb]; exact H.2.1 x hx, H.2.2⟩ hp.1
  have hos : pinB C.pin os = true := hp.2
  have hone : pinB C.pin [o] = true := by simp only [pinB, List.all_cons, List.all_nil, Bool.and_true]; exact hp.1
  simp only [St.W] at h
  obtain ⟨K', h1, h2⟩ | ⟨hg, t, n, V, X, ho, hpin, hX, hbox⟩ | ⟨hg, g, x, xs, f, n, off, k, V, args, res, y', σ1, hc, hf, he, hpin, hx, hl, hok, h2⟩ := h
  ·have h3 := wps_ok2 (E := E) (ops := ops) (Q := fun e a' w' => e = .normal ∧ ∃ σ', K' σ' ∧ SOk2 E C σ' a' w') [o] σ a w K' hone h1 H (fun σ' a' w' q1 q2 => ⟨rfl, σ', q1, q2⟩)
   unfold wpList at h3 ⊢
   split at h3
   ·rename_i hw
    rw [if_pos hw]
    rcases h3 with h3 | ⟨_, _, _, h3⟩
    ·left
     unfold Oper.wp at h3 ⊢
     generalize (execOp a.eval o).run E.P w = r at *
     cases r with
     | ok n w' =>
      cases n <;> simp only [Oper.upon] at h3 ⊢ <;>
       first
        | (obtain ⟨_, σ', q1, q2⟩ := h3; exact W_ok os σ' _ _ KS hos (h2 _ q1) q2 hQ)
        | exact Calls.mono h3 (fun e w'' he => by
          cases e <;> first
           | (obtain ⟨_, σ', q1, q2⟩ := he; exact W_ok os σ' _ _ KS hos (h2 _ q1) q2 hQ)
           | (obtain ⟨_, _, hh, _⟩ := he; cases hh)
           | (obtain ⟨hh, _⟩ := he; cases hh; done))
        | exact Rows.mono h3 (fun _ _ he => by obtain ⟨_, σ', q1, q2⟩ := he; exact W_ok os σ' _ _ KS hos (h2 _ q1) q2 hQ)
        | cases h3.1
     | halt x w' => cases x <;> simp only [Oper.upon] at h3 ⊢ <;> first | exact h3 | cases h3.1
    cases h3.1
   rename_i hw
   rw [if_neg hw]
   obtain ⟨_, σ', q1, q2⟩ := h3
   exact W_ok os σ' _ _ KS hos (h2 _ q1) q2 hQ
  ·unfold wpList
   rw [if_pos (by simp [Region.wanted, hg])]
   left
   obtain ⟨s, Z, q1, q2, q3⟩ := id H.1
   subst q1
   obtain ⟨xA, e1, e2⟩ := opA q3 (.tmp n)
   rw [hX] at e1
   obtain ⟨zA, rfl, rfl⟩ := er_t e1
   have hV : a.eval (.tmp n) = V := H.2.1 (n, V) hpin
   have hcells : V.cells.toList = TA.vals zA.cells := by rw [← hV, e2.1, val_cells' e2.2]
   obtain ⟨σ1, h1, h2⟩ := hbox V.cells.toList rfl (by rw [hcells, TA.er_cells, TA.erL_map]; simp [TA.vals])
   refine opwp_mono ?_ (wp_pin hput (boxRaw_ok (K := fun a' w' => SOk C σ1 a' w') ho (by rw [hV]) ?_ h1 H.1 fun a' w' H' => H'))
   ·intro a' w' H'
    exact W_ok os σ1 a' w' KS hos h2 H' hQ
   rw [hcells]; exact vals_oneCell (TA.holds_cells e2.2) (TA.isCell_mem_cells e2.2)
  unfold wpList
  rw [if_pos (by simp [Region.wanted, hg])]
  left
  refine opwp_mono ?_ (wp_pin hput (stCallG_ok (K := fun a' w' => SOk C σ1 a' w') hc hf he H.1 (callAt_ok (fun _ _ _ h => H.2.2.now h) hok hl ?_ H.1) fun a' w' H' => H'))
  ·intro a' w' H'
   exact W_ok os σ1 a' w' KS hos h2 H' hQ
  intro s Z base cs l q1 q3 hr hgp
  subst q1
  obtain ⟨xA, e1, e2⟩ := opA q3 x
  rw [hx] at e1
  obtain ⟨zA, rfl, hz⟩ := er_t e1
  rw [e2.1]
  have hv := slot_vals q3 hr (H.2.1 (n, V) hpin)
  rw [← hv] at hz
  have hlen := TA.getP_length _ _ _ _ _ hgp
  simp only [TA.getP] at hgp
  split at hgp
  case isFalse => cases hgp
  injection hgp with hgp
  have hvl : ((TA.vals cs).drop off).take (k.getD 1) = TA.vals l := by
   rw [← hgp]; simp [TA.vals, List.map_drop, List.map_take]
  rw [hvl] at hz
  cases k with
  | none =>
   obtain ⟨y, rfl⟩ := List.length_eq_one_iff.1 hlen
   simp only [mkT, TA.vals, List.map_cons, List.map_nil, List.headD_cons] at hz
   cases zA <;> simp only [TA.er, T.v.injEq, reduceCtorEq] at hz
   rw [hz]; rfl
  | some m =>
   simp only [mkT] at hz
   cases zA <;> simp only [TA.er, T.agg.injEq, reduceCtorEq] at hz
   rename_i zs
   rw [erL_v hz]
   simp only [TA.val, vals_v, mkVal]
theorem M.regionW {id : Nat} {ops : Array Oper} (hp : pinB C.pin ops.toList = true) (h : σ.W E C ops.toList ops.toList (S .normal)) : M E C (.region id ops false) S σ :=
 fun a w H => wp_region_list (W_ok ops.toList σ a w _ hp h H fun σ' a' w' hS H' => ⟨σ', hS, H'⟩)
theorem M.seqRW {id : Nat} {ops : Array Oper} {l : List Oper} (hl : ops.toList = l) (hp : pinB C.pin l = true) (h : ∀ K : St → Prop, (∀ σ', M E C d S σ' → K σ') → σ.W E C l l K) : M E C (.seq (.region id ops false) d) S σ :=
 M.seq (M.regionW (by rw [hl]; exact hp) (by rw [hl]; exact h _ fun σ' h => h))
theorem W_nil (h : K σ) : σ.W E C ops [] K := h
theorem W_op {o : Oper} (h : ∀ K' : St → Prop, (∀ σ1, σ1.W E C ops os K → K' σ1) → σ.wps E C.N ops [o] K') : σ.W E C ops (o :: os) K :=
 .inl ⟨_, h _ fun _ h => h, fun _ h => h⟩
theorem W_box {o : Oper} {t : TypeId} {n : Nat} {V : Value} {X : T} (m : Nat) (ho : o.op = .box t (.tmp n)) (hg : o.guard = none) (hp : (n, V) ∈ C.pin) (hX : σ.op (.tmp n) = .t X) (hm : X.cells.length = m)
  (h : ∀ cs : List Value, V.cells.toList = cs → cs.length = m → ∀ K' : St → Prop, (∀ σ1, σ1.W E C ops os K → K' σ1) → optK K' (σ.newBox C.N o.dst (cs.map T.v))) : σ.W E C ops (o :: os) K := by
 refine .inr (.inl ⟨hg, t, n, V, X, ho, hp, hX, fun cs h1 h2 => ?_⟩)
 have h3 := h cs h1 (by rw [h2, hm]) _ fun _ h => h
 unfold optK at h3
 split at h3
 ·exact ⟨_, by assumption, h3⟩
 exact h3.elim
theorem W_call {o : Oper} {g x : Operand} {xs : List Operand} {f : FuncId} (n off : Nat) (k : Option Nat) {V : Value} {cs : List Value} {args : List Arg} {res : List T} {y' : T} (hc : callOf o = some (g, x :: xs)) (hg : o.guard = none) (he : Enters E.P f) (hp : (n, V) ∈ C.pin) (hV : V.cells.toList = cs) (hok : OkIO E f args res [] [(0, y')])
  (h : ∀ K' : St → Prop, (∀ σ1, σ1.W E C ops os K → K' σ1) → σ.fn g = some f ∧ σ.op x = .t (mkT k (((cs.drop off).take (k.getD 1)).map T.v)) ∧ ioK args K' (σ.callAt C.N o.dst (.slot n) off [] k xs y' res)) : σ.W E C ops (o :: os) K := by
 obtain ⟨hf, hx, h3⟩ := h _ fun _ h => h
 unfold ioK at h3
 split at h3
 case h_2 => exact h3.elim
 rename_i z hz
 subst hV
 exact .inr (.inr ⟨hg, g, x, xs, f, n, off, k, V, args, res, y', z.2, hc, hf, he, hp, hx, by rw [hz, ← h3.1], hok, h3.2⟩)
attribute [simp] St.callAt
theorem pin_one {V : List (Nat × Value)} {n : Nat} (h : V.map Prod.fst = [n]) : ∃ v, (n, v) ∈ V := by
 match V, h with
 | [(m, v)], h => simp at h; exact ⟨v, by simp [h]⟩
end Go.OM
namespace Go.OM
open Go.Sort
theorem er_vals : ∀ {as : List ArgA} {xs : List Value}, as.map ArgA.er = xs.map (fun x => Arg.val (.v x)) → as = xs.map fun x => ArgA.val (.v x)
 | [], [], _ => rfl
 | [], x :: xs, h => by simp at h
 | a :: as, [], h => by simp at h
 | a :: as, x :: xs, h => by
  simp only [List.map_cons, List.cons.injEq] at h ⊢
  refine ⟨?_, er_vals h.2⟩
  have h1 := h.1
  cases a <;> simp only [ArgA.er, Arg.val.injEq, reduceCtorEq] at h1
  rename_i z
  cases z <;> simp only [TA.er, T.v.injEq, reduceCtorEq] at h1
  rw [h1]
theorem vals_pc (q : Nat) : ∀ xs : List Value, pcL q (xs.map fun x => ArgA.val (.v x)) = 0
 | [] => rfl
 | x :: xs => by simp only [List.map_cons, pcL, ArgA.pc, vals_pc q xs]
theorem vals_ptrs : ∀ xs : List Value, ptrs (xs.map fun x => ArgA.val (.v x)) = []
 | [] => rfl
 | x :: xs => by simp only [List.map_cons, ptrs, vals_ptrs xs]
def Env.Gl (E : Env) (w : World) : Prop := ∀ g ∈ E.gl, ∃ (cs : Array Value) (t : TypeId) (fr : Nat × Nat), w.heap[g.1]? = some (.cells cs t fr) ∧ g.2 cs
end Go.OM
namespace Go.OM
open Go.Sort
theorem flat_v : ∀ es : List Value, (es.map TA.v).flatMap TA.cells = es.map TA.v
 | [] => rfl
 | e :: es => by simp only [List.map_cons, List.flatMap_cons, TA.cells, flat_v es]; rfl
theorem ok_fresh {E : Env} {f : FuncId} {xs es : List Value} {ty : TypeId} (h1c : ∀ v ∈ es, TA.OneCell v)
  (h : ∀ w, E.Gl w → Calls E.P f xs.toArray w fun e w' => e = .returned (.slice (some ⟨w.heap.size, 0, none⟩) es.length es.length) ∧ w' = w.alloc (.cells es.toArray ty)) : Ok E f (xs.map fun x => Arg.val (.v x)) [.sl true 1 (es.map T.v)] [] := by
 intro w Z as has hA hG
 have := er_vals has
 subst this
 have hv : ((xs.map fun x => ArgA.val (.v x)).map ArgA.value) = xs := by
  rw [List.map_map]; exact (List.map_congr_left (fun x _ => rfl)).trans (List.map_id _)
 rw [hv]
 refine (h w fun g hg => (hG g hg).2).mono fun e w' ⟨he, hw⟩ => ?_
 subst hw
 have hcnt : ∀ (q : Nat) (l : List Value), TA.cntL q (l.map TA.v) = 0 := by
  intro q l
  induction l with
  | nil => rfl
  | cons c cs ih => simp only [List.map_cons, TA.cntL, TA.cnt, ih]
 have hH : ∀ (h : Array Obj) (l : List Value), (∀ v ∈ l, TA.OneCell v) → TA.HoldsL Z h (l.map TA.v) := by
  intro h l
  induction l with
  | nil => intro _; simp [TA.HoldsL]
  | cons c cs ih => intro hc; simp only [List.map_cons, TA.HoldsL, TA.Holds]; exact ⟨hc c (by simp), ih fun v hv => hc v (by simp [hv])⟩
 have hheap : (w.alloc (.cells es.toArray ty)).heap = w.heap.push (.cells es.toArray ty) := rfl
 have hvals : TA.vals ((es.map TA.v).flatMap TA.cells) = es := by
  rw [flat_v, vals_v]
 have hnew : ∀ q, TA.cnt q (TA.sl true 1 w.heap.size 0 es.length (es.map TA.v)) = if w.heap.size = q then 1 else 0 := by
  intro q
  simp only [TA.cnt, hcnt]
  split <;> simp_all
 refine ⟨Z, [.sl true 1 w.heap.size 0 es.length (es.map TA.v)], [], ?_, ?_, rfl, ?_⟩
 ·rw [he]; simp [retV, TA.val, TA.val1]
 ·simp only [TA.erL, TA.er, TA.erL_map, List.map_map]; rfl
 exact {
  holds := by
   simp only [TA.HoldsL, TA.Holds, and_true]
   refine ⟨⟨es.toArray, ty, (0, 0), by rw [hheap]; simp, fun _ => ⟨by simp, rfl⟩, fun j u hu => ?_⟩, by simp, by simp, hH _ _ h1c, ?_⟩
   ·rw [hvals] at hu; simpa using hu
   intro e he
   obtain ⟨x, _, rfl⟩ := List.mem_map.1 he
   rfl
  outs := by rw [vals_ptrs]; trivial
  uniq := fun q => by
   rw [vals_pc]
   simp only [TA.cntL, hnew, List.flatten_nil]
   split <;> omega
  own := fun q hq => by
   simp only [TA.cntL, hnew, List.flatten_nil] at hq
   split at hq
   ·rename_i e
    subst e
    exact ⟨.inr (Nat.le_refl _), fun hz => by have := hA.zlt _ hz; omega⟩
   omega
  zle := fun _ h => h
  zext := fun _ h => .inl h
  zlt := fun q hq => by have := hA.zlt q hq; rw [hheap, Array.size_push]; omega
  os := rfl
  tape := rfl
  output := rfl
  grown := by rw [hheap, Array.size_push]; omega
  kept := fun q hq _ => by rw [hheap, Array.getElem?_push_lt hq]; simp [hq]
  part := fun x hx => by rw [vals_ptrs] at hx; cases hx }
end Go.OM
namespace Go.OM
variable {C : Ctx} {E : Env} {σ σ' : St} {S : Exit → St → Prop} {c d : Code}
theorem wps_q {N n : Nat} {ops os : List Oper} {o : Oper} {K : St → Prop} {τ : St} (q : N = n) (h : τ.wps E N ops os K) (hc : callOf o = none := by rfl) (h1 : σ.stepK E n ops o (fun s => s = τ) := by simp; rfl) : σ.wps E N ops (o :: os) K := by
 subst q
 refine wC hc fun K' hK' => ?_
 unfold St.stepK at h1 ⊢
 split at h1 <;> rename_i hw <;> try simp only [hw]
 ·obtain ⟨σ1, e, rfl⟩ := h1
  exact ⟨σ1, e, hK' _ h⟩
 ·obtain ⟨σ1, e, rfl⟩ := h1
  exact ⟨σ1, e, hK' _ h⟩
 exact h1
theorem wps_c {N n : Nat} {ops os : List Oper} {o : Oper} {K : St → Prop} {τ : St} {g : Operand} {xs : List Operand} {f : FuncId} (ms : List (Mode × Operand)) {args : List Arg} {res : List T} {outs : List (List T)} (q : N = n) (he : Enters E.P f) (hok : Ok E f args res outs) (h : τ.wps E N ops os K)
  (hc : callOf o = some (g, xs) := by rfl) (hms : (ms.all (fun m => m.1.real), ms.map Prod.snd) = (true, xs) := by rfl)
  (h1 : σ.wants ops o = some true ∧ σ.fn g = some f ∧ lendK args (fun pls σ2 => optK (fun s => s = τ) (St.land n o.dst (ms.any fun m => m.1.isBor) pls res outs σ2)) (σ.lend n ms) := by simp; rfl) : σ.wps E N ops (o :: os) K := by
 subst q
 refine wL ms hc hms he hok fun K' hK' => ⟨h1.1, h1.2.1, ?_⟩
 have h2 := h1.2.2
 unfold lendK at h2 ⊢
 split at h2
 case h_2 => exact h2.elim
 rename_i z hz
 refine ⟨h2.1, ?_⟩
 have h3 : optK (fun s => s = τ) (St.land N o.dst (ms.any fun m => m.1.isBor) z.2.1 res outs z.2.2) := h2.2
 show optK K' (St.land N o.dst (ms.any fun m => m.1.isBor) z.2.1 res outs z.2.2)
 generalize St.land N o.dst (ms.any fun m => m.1.isBor) z.2.1 res outs z.2.2 = y at h3 ⊢
 cases y with
 | none => exact h3.elim
 | some s =>
  have e : s = τ := h3
  subst e
  exact hK' _ h
theorem M.cI {α : Type} {x : Operand} {b : Bool} {p q : Option α} {r : α} (h : (if b = true then p else q) = some r) (ht : b = true → p = some r → M E C c S σ) (hf : ¬ b = true → q = some r → M E C d S σ) (hx : σ.sc x = some (.bool b) := by simp) : M E C (.cond x c d) S σ := by
 by_cases hb : b = true
 ·rw [if_pos hb] at h; exact M.cT' hx hb (ht hb h)
 rw [if_neg hb] at h; exact M.cF' hx hb (hf hb h)
theorem M.zS {ks : List Nat} {id : Nat} {ops : Array Oper} {l : List Oper} (u : ∀ l, pinK ks l = true → pinB C.pin l = true) (h : σ.wps E C.N l l fun σ' => M E C d S σ') (hl : ops.toList = l := by rfl) (hp : pinK ks l = true := by rfl) : M E C (.seq (.region id ops false) d) S σ :=
 M.seq (M.region (by rw [hl]; exact u _ hp) (by rw [hl]; exact h))
theorem M.zH {ks : List Nat} {id : Nat} {ops : Array Oper} {l : List Oper} (u : ∀ l, pinK ks l = true → pinB C.pin l = true) (h : σ.wps E C.N l l fun σ' => S .normal σ') (hl : ops.toList = l := by rfl) (hp : pinK ks l = true := by rfl) : M E C (.region id ops false) S σ :=
 M.region (by rw [hl]; exact u _ hp) (by rw [hl]; exact h)
end Go.OM
namespace Go.OM
variable {C : Ctx} {E : Env} {σ σ' : St} {Q : Exit → Act → World → Prop} {S : Exit → St → Prop} {a : Act} {w : World} {P : Program}
theorem wpAny_tailT {ops : Array Oper} {m : Nat} (hord : ∀ (i : Nat) (o : Oper), ops[i]? = some o → ∀ e ∈ o.after.toList, Region.binds .any e = true → e.on < i)
  (hlast : ∀ (i : Nat) (o : Oper), m ≤ i → ops[i]? = some o → ∀ D : Nat → Bool, (∀ (j : Nat) (o' : Oper), ops[j]? = some o' → D j = true → depsIn o' D) → depsIn o D → ∀ j, j < i → D j = true) :
  ∀ (fuel k : Nat) (listed : Array Bool) (a : Act) (w : World), m ≤ k → k ≤ ops.size → listed.size = ops.size → (∀ i d, i < ops.size → listed.getD i d = decide (i < k)) → ops.size - k ≤ fuel → wpList P ops Q (ops.toList.drop k) a w → wpAny P .any ops Q fuel listed a w := by
 intro fuel
 induction fuel with
 | zero =>
  intro k listed a w hm hk hsz hl hf h
  have hkk : k = ops.size := by omega
  refine ⟨?_, ?_⟩
  ·rw [List.eq_nil_iff_forall_not_mem]
   intro i hi
   obtain ⟨h1, h2, _⟩ := ready_mem.1 hi
   rw [hl i true h1] at h2
   simp at h2; omega
  rw [List.drop_eq_nil_of_le (by simp; omega)] at h
  exact h
 | succ fuel ih =>
  intro k listed a w hm hk hsz hl hf h
  by_cases hkk : k = ops.size
  ·have hnil : Region.ready .any ops listed = [] := by
    rw [List.eq_nil_iff_forall_not_mem]
    intro i hi
    obtain ⟨h1, h2, _⟩ := ready_mem.1 hi
    rw [hl i true h1] at h2
    simp at h2; omega
   rw [List.drop_eq_nil_of_le (by simp; omega)] at h
   refine ⟨fun _ => h, fun i hi => ?_⟩
   rw [hnil] at hi; cases hi
  have hlt : k < ops.size := by omega
  have ho : ops[k]? = some ops[k] := Array.getElem?_eq_getElem hlt
  have hmem : k ∈ Region.ready .any ops listed := by
   rw [ready_mem]
   refine ⟨hlt, by rw [hl k true hlt]; simp, fun o ho' e he hb => ?_⟩
   have := hord k o ho' e he hb
   rw [hl e.on false (by omega)]
   simpa using this
  refine ⟨fun hr => (by rw [hr] at hmem; cases hmem), fun i hi => ?_⟩
  obtain ⟨h1, h2, h3⟩ := ready_mem.1 hi
  have hik : i = k := by
   rw [hl i true h1] at h2
   simp only [decide_eq_false_iff_not, Nat.not_lt] at h2
   rcases Nat.lt_or_ge k i with hki | hki
   ·exfalso
    have hoi : ops[i]? = some ops[i] := Array.getElem?_eq_getElem h1
    have := hlast i _ (by omega) hoi (fun j => decide (j < k)) (fun j o' ho' hj e he hb => by
     have h5 := hord j o' ho' e he hb
     simp only [decide_eq_true_eq] at hj ⊢
     omega) (fun e he hb => by
     have h5 := h3 _ hoi e he hb
     rwa [hl _ false (by have := hord i _ hoi e he hb; omega)] at h5) k hki
    simp at this
   omega
  subst hik
  have hdrop : ops.toList.drop i = ops[i] :: ops.toList.drop (i + 1) := by
   rw [List.drop_eq_getElem_cons (by simpa using hlt)]; simp
  rw [hdrop] at h
  have h' : wpOp P ops Q i (wpList P ops Q (ops.toList.drop (i + 1))) a w := by
   unfold wpOp
   rw [ho]
   exact h
  refine wpOp_mono (fun a w h => ih (i + 1) _ a w (by omega) (by omega) (by simpa using hsz) (fun j d hj => ?_) (by omega) h) h'
  rw [getD_set (by omega), hl j d hj]
  by_cases e : j = i
  ·subst e; simp
  rw [if_neg e]; congr 1; apply propext; omega
def VL (E : Env) (C : Ctx) (ops : List Oper) (os : List Oper) (K : St → Prop) (σ : St) : Prop :=
 ∀ (ps : Array Oper) (Q : Exit → Act → World → Prop) (a : Act) (w : World), ps.toList = ops → pinB C.pin os = true → SOk2 E C σ a w → (∀ σ' a' w', K σ' → SOk2 E C σ' a' w' → Q .normal a' w') → wpList E.P ps Q os a w
theorem VL_of {ops os : List Oper} {K : St → Prop} (h : σ.wps E C.N ops os K) : VL E C ops os K σ := fun ps Q a w h1 h2 H hQ => by
 subst h1
 exact wps_ok2 os σ a w _ h2 h H hQ
theorem wpAny_famV {ops : Array Oper} (hpin : pinB C.pin ops.toList = true) (m : Nat) (hm : m ≤ ops.size) (fam : (Nat → Bool) → St) (hord : ∀ (i : Nat) (o : Oper), ops[i]? = some o → ∀ e ∈ o.after.toList, Region.binds .any e = true → e.on < i)
  (hlast : ∀ (i : Nat) (o : Oper), m ≤ i → ops[i]? = some o → ∀ D : Nat → Bool, (∀ (j : Nat) (o' : Oper), ops[j]? = some o' → D j = true → depsIn o' D) → depsIn o D → ∀ j, j < i → D j = true)
  (hstep : ∀ (i : Nat) (o : Oper), i < m → ops[i]? = some o → ∀ D : Nat → Bool, D i = false → (∀ j o', ops[j]? = some o' → D j = true → depsIn o' D) → depsIn o D → VL E C ops.toList [o] (fun σ' => σ' = fam (upd1 D i)) (fam D))
  (hend : ∀ D : Nat → Bool, (∀ i, i < m → D i = true) → ∀ a w, SOk2 E C (fam D) a w → wpList E.P ops Q (ops.toList.drop m) a w) :
  ∀ (fuel : Nat) (listed : Array Bool) (D : Nat → Bool) (a : Act) (w : World), listed.size = ops.size → (∀ i d, i < ops.size → listed.getD i d = D i) → (∀ i, m ≤ i → D i = false) → (∀ j o', ops[j]? = some o' → D j = true → depsIn o' D) → (listed.toList.countP (fun b => !b)) ≤ fuel → SOk2 E C (fam D) a w → wpAny E.P .any ops Q fuel listed a w := by
 intro fuel
 induction fuel with
 | zero =>
  intro listed D a w hsz hl hD hcl hc H
  have hall : ∀ i, i < ops.size → D i = true := by
   intro i hi
   rw [← hl i true hi]
   have hlt : i < listed.size := by omega
   rw [Array.getD_eq_getD_getElem?, Array.getElem?_eq_getElem hlt]
   simp only [Option.getD_some]
   have h0 : listed.toList.countP (fun b => !b) = 0 := by omega
   rw [List.countP_eq_zero] at h0
   have := h0 listed[i] (by simp)
   simpa using this
  have hmm : m = ops.size := by
   rcases Nat.lt_or_ge m ops.size with h | h
   ·have := hall m h; rw [hD m (Nat.le_refl _)] at this; cases this
   omega
  refine wpAny_tailT hord hlast 0 m listed a w (Nat.le_refl _) hm hsz (fun i d hi => ?_) (by omega) (hend D (fun i hi => hall i (by omega)) a w H)
  rw [hl i d hi, hall i hi]
  simp; omega
 | succ fuel ih =>
  intro listed D a w hsz hl hD hcl hc H
  by_cases hall : ∀ i, i < m → D i = true
  ·have hcount : listed.toList.countP (fun b => !b) = ops.size - m ∨ True := .inr trivial
   have hle : ops.size - m ≤ fuel + 1 := by
    refine Nat.le_trans ?_ hc
    have hsub : (listed.toList.drop m).countP (fun b => !b) ≤ listed.toList.countP (fun b => !b) := List.Sublist.countP_le (List.drop_sublist m _)
    refine Nat.le_trans ?_ hsub
    have : (listed.toList.drop m).countP (fun b => !b) = (listed.toList.drop m).length := by
     rw [List.countP_eq_length]
     intro b hb
     obtain ⟨j, hj, rfl⟩ := List.mem_iff_getElem.1 hb
     rw [List.length_drop] at hj
     simp only [List.getElem_drop, Bool.not_eq_true']
     have hj2 : m + j < listed.size := by simp at hj; omega
     have h5 := hl (m + j) true (by omega)
     rw [Array.getD_eq_getD_getElem?, Array.getElem?_eq_getElem hj2] at h5
     simp only [Option.getD_some] at h5
     rw [Array.getElem_toList, h5]
     exact hD _ (by omega)
    rw [this, List.length_drop]; simp; omega
   refine wpAny_tailT hord hlast (fuel + 1) m listed a w (Nat.le_refl _) hm hsz (fun i d hi => ?_) hle (hend D hall a w H)
   rw [hl i d hi]
   rcases Nat.lt_or_ge i m with h | h
   ·rw [hall i h]; simp [h]
   rw [hD i h]; simp; omega
  have hne : ∀ i, i ∈ Region.ready .any ops listed → i < m := by
   intro i hi
   obtain ⟨h1, h2, h3⟩ := ready_mem.1 hi
   rcases Nat.lt_or_ge i m with h | h
   ·exact h
   exfalso
   apply hall
   intro j hj
   have hoi : ops[i]? = some ops[i] := Array.getElem?_eq_getElem h1
   exact hlast i _ h hoi D hcl (fun e he hb => by
    have h5 := h3 _ hoi e he hb
    rwa [hl _ false (by have := hord i _ hoi e he hb; omega)] at h5) j (by omega)
  refine ⟨fun hr => ?_, fun i hi => ?_⟩
  ·exfalso
   apply hall
   intro i
   induction i using Nat.strongRecOn with
   | _ i ihi =>
    intro him
    cases hDi : D i with
    | true => rfl
    | false =>
     exfalso
     have hmem : i ∈ Region.ready .any ops listed := by
      rw [ready_mem]
      refine ⟨by omega, by rw [hl i true (by omega), hDi], fun o ho e he hb => ?_⟩
      have := hord i o ho e he hb
      rw [hl e.on false (by omega)]
      exact ihi e.on this (by omega)
     rw [hr] at hmem; cases hmem
  have him := hne i hi
  obtain ⟨h1, h2, h3⟩ := ready_mem.1 hi
  have ho : ops[i]? = some ops[i] := Array.getElem?_eq_getElem h1
  have hDi : D i = false := by rw [← hl i true h1]; exact h2
  have hdep : depsIn ops[i] D := by
   intro e he hb
   have := h3 _ ho e he hb
   rwa [hl e.on false (by have := hord i _ ho e he hb; omega)] at this
  have hlt' : i < listed.size := by omega
  have hnext : ∀ a w, SOk2 E C (fam (upd1 D i)) a w → wpAny E.P .any ops Q fuel (listed.setIfInBounds i true) a w := by
   intro a w H'
   refine ih _ (upd1 D i) a w (by simpa using hsz) ?_ ?_ ?_ ?_ H'
   ·intro j d hj
    rw [getD_set hlt', hl j d hj]
    rfl
   ·intro j hj
    unfold upd1
    rw [if_neg (by omega)]
    exact hD j hj
   ·intro j o' ho' hj
    unfold upd1 at hj
    by_cases e : j = i
    ·subst e
     rw [ho] at ho'
     injection ho' with ho'
     subst ho'
     intro e he hb
     have := hdep e he hb
     unfold upd1
     by_cases e2 : e.on = j
     ·rw [if_pos e2]
     rw [if_neg e2]; exact this
    rw [if_neg e] at hj
    intro e' he hb
    have := hcl j o' ho' hj e' he hb
    unfold upd1
    by_cases e2 : e'.on = i
    ·rw [if_pos e2]
    rw [if_neg e2]; exact this
   have hv : listed[i] = false := by
    have := hl i true h1
    rw [Array.getD_eq_getD_getElem?, Array.getElem?_eq_getElem hlt', hDi] at this
    simpa using this
   rw [Array.toList_setIfInBounds, List.countP_set (by simpa using hlt')]
   have hp : 0 < listed.toList.countP (fun b => !b) := by
    rw [List.countP_pos_iff]
    exact ⟨listed[i], by simp, by simp [hv]⟩
   have hv' : listed.toList[i]'(by simpa using hlt') = false := by simpa using hv
   rw [hv']
   simp only [Bool.not_false, Bool.not_true, if_true, Bool.false_eq_true, if_false]
   omega
  have hone := hstep i ops[i] him ho D hDi hcl hdep
  have hpi : pinB C.pin [ops[i]] = true := by
   have := List.all_eq_true.1 hpin ops[i] (by simp)
   simp only [pinB, List.all_cons, List.all_nil, Bool.and_true]
   exact this
  have hl2 := hone ops (Exit.then (wpAny E.P .any ops Q fuel (listed.setIfInBounds i true)) Q) a w rfl hpi H (fun σ' a' w' hσ H' => hnext a' w' (hσ ▸ H'))
  unfold wpOp
  rw [ho]
  unfold wpList at hl2
  simp only
  split at hl2
  ·rename_i hw
   rw [if_pos hw]
   rcases hl2 with hl2 | ⟨h5, h6⟩
   ·exact .inl (wp_then hl2)
   exact .inr ⟨h5, h6⟩
  rename_i hw
  rw [if_neg hw]
  exact hl2
theorem wpAny_famT {ops : Array Oper} (hpin : pinB C.pin ops.toList = true) (m : Nat) (hm : m ≤ ops.size) (fam : (Nat → Bool) → St) (hord : ∀ (i : Nat) (o : Oper), ops[i]? = some o → ∀ e ∈ o.after.toList, Region.binds .any e = true → e.on < i)
  (hlast : ∀ (i : Nat) (o : Oper), m ≤ i → ops[i]? = some o → ∀ D : Nat → Bool, (∀ (j : Nat) (o' : Oper), ops[j]? = some o' → D j = true → depsIn o' D) → depsIn o D → ∀ j, j < i → D j = true)
  (hstep : ∀ (i : Nat) (o : Oper), i < m → ops[i]? = some o → ∀ D : Nat → Bool, D i = false → (∀ j o', ops[j]? = some o' → D j = true → depsIn o' D) → depsIn o D → (fam D).wps E C.N ops.toList [o] (fun σ' => σ' = fam (upd1 D i)))
  (hend : ∀ D : Nat → Bool, (∀ i, i < m → D i = true) → ∀ a w, SOk2 E C (fam D) a w → wpList E.P ops Q (ops.toList.drop m) a w) :
  ∀ (fuel : Nat) (listed : Array Bool) (D : Nat → Bool) (a : Act) (w : World), listed.size = ops.size → (∀ i d, i < ops.size → listed.getD i d = D i) → (∀ i, m ≤ i → D i = false) → (∀ j o', ops[j]? = some o' → D j = true → depsIn o' D) → (listed.toList.countP (fun b => !b)) ≤ fuel → SOk2 E C (fam D) a w → wpAny E.P .any ops Q fuel listed a w :=
 wpAny_famV hpin m hm fam hord hlast (fun i o h1 h2 D h3 h4 h5 => VL_of (hstep i o h1 h2 D h3 h4 h5)) hend
def lastT (td : List (List Nat)) (m n : Nat) : Bool := (List.range n).all fun i => decide (i < m) || (List.range i).all fun j => (td.getD i []).contains j
theorem lastT_get {td : List (List Nat)} {m n i j : Nat} (h : lastT td m n = true) (h1 : m ≤ i) (h2 : i < n) (hj : j < i) : j ∈ td.getD i [] := by
 have h3 := List.all_eq_true.1 h i (List.mem_range.2 h2)
 simp only [Bool.or_eq_true, decide_eq_true_eq] at h3
 rcases h3 with h3 | h3
 ·omega
 exact List.contains_iff_mem.1 (List.all_eq_true.1 h3 j (List.mem_range.2 hj))
theorem M.dT {id : Nat} {ops : Array Oper} {l : List Oper} (hl : ops.toList = l) (hp : pinB C.pin l = true) (vs : List (Nat × AV)) (td : List (List Nat)) (hm : vs.length ≤ l.length) (hdup : decide (vs.map Prod.fst).Nodup = true) (hfresh : ∀ n ∈ vs.map Prod.fst, look σ.tm n = none) (hord : ordB 0 l = true) (hlast : lastT td vs.length l.length = true) (htd : tdB td 0 l = true)
  (hstep : allIdx (owed E C σ l vs td) 0 (l.take vs.length))
  (hend : ∀ K : St → Prop, (∀ σ, S .normal σ → K σ) → (⟨σ.tm ++ vs, σ.bx⟩ : St).wps E C.N l (l.drop vs.length) K) : M E C (.region id ops true) S σ := fun a w H => by
 subst hl
 have hnd : (vs.map Prod.fst).Nodup := of_decide_eq_true hdup
 have hdis : ∀ e ∈ vs, e.1 ∉ σ.tm.map Prod.fst := by
  intro e he hm
  have h1 := hfresh e.1 (List.mem_map.2 ⟨e, he, rfl⟩)
  obtain ⟨f, hf, hfe⟩ := List.mem_map.1 hm
  have : ∀ (l : List (Nat × AV)) (n : Nat), n ∈ l.map Prod.fst → look l n ≠ none := by
   intro l
   induction l with
   | nil => intro n h; simp at h
   | cons x l ih =>
    intro n h
    obtain ⟨k, y⟩ := x
    simp only [look]
    by_cases e : k = n
    ·simp [e]
    rw [if_neg e]
    simp only [List.map_cons, List.mem_cons] at h
    exact ih n (h.resolve_left fun h => e h.symm)
  exact this σ.tm e.1 hm h1
 have hordI : ∀ (i : Nat) (o : Oper), ops[i]? = some o → ∀ e ∈ o.after.toList, Region.binds .any e = true → e.on < i := by
  intro i o ho
  have := ordB_get ops.toList 0 i o hord (by rw [Array.getElem?_toList]; exact ho)
  simpa using this
 have key : ∀ D : Nat → Bool, (∀ (j : Nat) (o' : Oper), ops[j]? = some o' → D j = true → depsIn o' D) → ∀ (i : Nat) (o : Oper), ops[i]? = some o → depsIn o D → ∀ j ∈ td.getD i [], j < i ∧ D j = true := by
  intro D hcl i
  induction i using Nat.strongRecOn with
  | _ i ih =>
   intro o ho hdep j hj
   have h1 := tdB_get ops.toList 0 i o htd (by rw [Array.getElem?_toList]; exact ho)
   rw [Nat.zero_add] at h1
   obtain ⟨e, he, hb, h2⟩ := h1 j hj
   have hei := hordI i o ho e he hb
   rcases h2 with h2 | ⟨_, h2⟩
   ·subst h2; exact ⟨hei, hdep e he hb⟩
   have hlt : e.on < ops.size := by have := (Array.getElem?_eq_some_iff.1 ho).1; omega
   have hoe : ops[e.on]? = some ops[e.on] := Array.getElem?_eq_getElem hlt
   obtain ⟨h3, h4⟩ := ih e.on hei _ hoe (hcl e.on _ hoe (hdep e he hb)) j h2
   exact ⟨by omega, h4⟩
 refine wp_region_any E.mixed ?_
 refine wpAny_famT (C := C) (E := E) hp vs.length (by simpa using hm) (fun D => ⟨σ.tm ++ famL D 0 vs, σ.bx⟩) hordI (fun i o hi ho => ?_) (fun i o hi ho D hD hcl hdep => ?_) (fun D hD a w H => ?_) ops.size _ (fun _ => false) a _ (by simp) (fun i d hi => by simp [Array.getD, hi]) (fun _ _ => rfl) (fun _ _ _ h => by cases h) ?_ ?_
 ·intro D hcl hdep j hj
  have hlt : i < ops.size := (Array.getElem?_eq_some_iff.1 ho).1
  exact (key D hcl i o ho hdep j (lastT_get hlast hi (by simpa using hlt) hj)).2
 ·have hget : (ops.toList.take vs.length)[i]? = some o := by
   rw [List.getElem?_take, if_pos hi, Array.getElem?_toList]; exact ho
  have hob := allIdx_get _ 0 i o hstep hget
  rw [Nat.zero_add] at hob
  have hvi : vs[i]? = some (vsAt vs i) := by
   unfold vsAt
   rw [List.getD_eq_getElem?_getD, List.getElem?_eq_getElem hi]; rfl
  have hlk : ∀ j, j < vs.length → look (σ.tm ++ famL D 0 vs) (vsAt vs j).1 = some (if D j = true then (vsAt vs j).2 else .u) := by
   intro j hj
   have hvj : vs[j]? = some (vsAt vs j) := by
    unfold vsAt
    rw [List.getD_eq_getElem?_getD, List.getElem?_eq_getElem hj]; rfl
   rw [look_app, hfresh _ (List.mem_map.2 ⟨_, List.mem_of_getElem? hvj, rfl⟩)]
   have := famL_get D 0 vs j _ hnd hvj
   rw [Nat.zero_add] at this
   exact this
  refine hob ⟨σ.tm ++ famL D 0 vs, σ.bx⟩ rfl (fun n hn => ?_) ?_ ?_ _ (fun σ' hσ' => ?_)
  ·show look (σ.tm ++ famL D 0 vs) n = _
   rw [look_app]
   cases h : look σ.tm n with
   | some x => rfl
   | none => exact look_none (by rw [famL_keys]; exact hn)
  ·-- what it leans on is done
   intro j hj
   obtain ⟨h1, h2⟩ := key D hcl i o ho hdep j hj
   have := hlk j (by omega)
   rw [h2, if_pos rfl] at this
   exact this
  ·have := hlk i hi
   rw [hD] at this
   simpa using this
  subst hσ'
  show (⟨_, _⟩ : St) = ⟨_, _⟩
  congr 1
  have hmem : vsAt vs i ∈ vs := List.mem_of_getElem? hvi
  rw [put_mem _ _ _ _ (hdis _ hmem)]
  have := put_famL D 0 vs i _ hnd hvi
  rw [Nat.zero_add] at this
  rw [this]
 ·have hall : famL D 0 vs = vs := famL_all D 0 vs (fun j _ hj => hD j (by omega))
  have h2 := hend (fun σ' => S .normal σ') (fun _ h => h)
  simp only [hall] at H
  have hpd : pinB C.pin (ops.toList.drop vs.length) = true := List.all_eq_true.2 fun o ho => List.all_eq_true.1 hp o (List.mem_of_mem_drop ho)
  exact wps_ok2 (E := E) _ _ a w _ hpd h2 H (fun σ' a' w' hS H' => ⟨σ', hS, H'⟩)
 ·exact Nat.le_trans List.countP_le_length (by simp)
 have := H.1.pad (vs.map Prod.fst)
 rw [famL_none]
 rw [List.map_map] at this
 exact ⟨this.drew _, H.2⟩
end Go.OM
namespace Go.OM
variable {C : Ctx} {E : Env} {σ σ' : St} {Q : Exit → Act → World → Prop} {S : Exit → St → Prop} {a : Act} {w : World} {P : Program}
def putL : List (Nat × AV) → List (Nat × AV) → List (Nat × AV)
 | tm, [] => tm
 | tm, e :: d => putL (put tm e.1 e.2) d
def famD (D : Nat → Bool) : Nat → List (List (Nat × AV)) → List (Nat × AV) → List (Nat × AV)
 | _, [], tm => tm
 | i, d :: ds, tm => famD D (i + 1) ds (if D i = true then putL tm d else tm)
theorem famD_none : ∀ (i : Nat) (ds : List (List (Nat × AV))) (tm : List (Nat × AV)), famD (fun _ => false) i ds tm = tm
 | _, [], _ => rfl
 | i, d :: ds, tm => by simp only [famD, Bool.false_eq_true, if_false]; exact famD_none (i + 1) ds tm
theorem famD_congr {D D' : Nat → Bool} : ∀ (i : Nat) (ds : List (List (Nat × AV))) (tm : List (Nat × AV)), (∀ j, i ≤ j → j < i + ds.length → D j = D' j) → famD D i ds tm = famD D' i ds tm
 | _, [], _, _ => rfl
 | i, d :: ds, tm, h => by
  simp only [famD]
  rw [h i (Nat.le_refl _) (by simp), famD_congr (i + 1) ds _ fun j h1 h2 => h j (by omega) (by simp only [List.length_cons]; omega)]
end Go.OM
namespace Go.OM
variable {C : Ctx} {E : Env} {σ σ' : St} {Q : Exit → Act → World → Prop} {S : Exit → St → Prop} {a : Act} {w : World} {P : Program}
def putX : List (Nat × List T) → List (Nat × List T) → List (Nat × List T)
 | bx, [] => bx
 | bx, e :: d => putX (putB bx e.1 e.2) d
def famX (D : Nat → Bool) : Nat → List (List (Nat × List T)) → List (Nat × List T) → List (Nat × List T)
 | _, [], bx => bx
 | i, d :: ds, bx => famX D (i + 1) ds (if D i = true then putX bx d else bx)
theorem famX_none : ∀ (i : Nat) (ds : List (List (Nat × List T))) (bx : List (Nat × List T)), famX (fun _ => false) i ds bx = bx
 | _, [], _ => rfl
 | i, d :: ds, bx => by simp only [famX, Bool.false_eq_true, if_false]; exact famX_none (i + 1) ds bx
theorem famX_congr {D D' : Nat → Bool} : ∀ (i : Nat) (ds : List (List (Nat × List T))) (bx : List (Nat × List T)), (∀ j, i ≤ j → j < i + ds.length → D j = D' j) → famX D i ds bx = famX D' i ds bx
 | _, [], _, _ => rfl
 | i, d :: ds, bx, h => by
  simp only [famX]
  rw [h i (Nat.le_refl _) (by simp), famX_congr (i + 1) ds _ fun j h1 h2 => h j (by omega) (by simp only [List.length_cons]; omega)]
end Go.OM
namespace Go.OM
variable {C : Ctx} {E : Env} {σ σ' : St} {Q : Exit → Act → World → Prop} {S : Exit → St → Prop} {a : Act} {w : World} {P : Program}
end Go.OM
namespace Go.OM
variable {C : Ctx} {E : Env} {Z Z' : Nat → Prop} {s : StA} {σ σ' : St} {S : Exit → St → Prop} {a : Act} {w : World} {c : Code}
def Cap.thaw (n : Nat) (cs : List T) : Cap → Cap
 | .bx m => if m = n then .ro (.pt cs) else .bx m
 | .ro x => .ro x
def CapA.thaw (n b off : Nat) (cs : List TA) : CapA → CapA
 | .bx m => if m = n then .ro (.pt b off cs) else .bx m
 | .ro x => .ro x
def AV.thaw (n : Nat) (cs : List T) : AV → AV
 | .al r o p k => if r = .box n then .u else .al r o p k
 | .ref r o p => if r = .box n then (if p = [] then .rop cs o else .u) else .ref r o p
 | .clo f xs => mkClo f (xs.map (Cap.thaw n cs))
 | x => x
def AVA.thaw (n b off : Nat) (cs : List TA) : AVA → AVA
 | .al r o p k => if r = .box n then .u else .al r o p k
 | .ref r o p => if r = .box n then (if p = [] then .rop b off cs o else .u) else .ref r o p
 | .clo f xs => mkCloA f (xs.map (CapA.thaw n b off cs))
 | x => x
def St.thaw (n : Nat) (σ : St) : Option St := (look σ.bx n).map fun cs => ⟨σ.tm.map fun e => (e.1, e.2.thaw n (T.roL cs)), σ.bx.filter fun e => e.1 != n⟩
theorem er_thawC (n b off : Nat) (cs : List TA) (x : CapA) : (x.thaw n b off cs).er = x.er.thaw n (TA.erL cs) := by
 cases x with
 | bx m => by_cases h : m = n <;> simp [CapA.thaw, CapA.er, Cap.thaw, TA.er, h]
 | ro x => rfl
theorem er_thaw (n b off : Nat) (cs : List TA) (x : AVA) : (x.thaw n b off cs).er = x.er.thaw n (TA.erL cs) := by
 cases x with
 | al r o p k => by_cases h : r = .box n <;> simp [AVA.thaw, AVA.er, AV.thaw, h]
 | ref r o p => by_cases h : r = .box n <;> by_cases h2 : p = [] <;> simp [AVA.thaw, AVA.er, AV.thaw, h, h2]
 | clo f xs =>
  show (mkCloA f (xs.map (CapA.thaw n b off cs))).er = mkClo f ((xs.map CapA.er).map (Cap.thaw n (TA.erL cs)))
  rw [er_mkClo, List.map_map, List.map_map]
  congr 1
  exact List.map_congr_left fun x _ => er_thawC n b off cs x
 | _ => rfl
theorem cnt_thaw (n b off k : Nat) (cs : List TA) (x : AVA) : (x.thaw n b off cs).cnt k = x.cnt k := by
 cases x with
 | al r o p k => simp only [AVA.thaw]; split <;> rfl
 | ref r o p => simp only [AVA.thaw]; split <;> (try split) <;> rfl
 | clo f xs => simp only [AVA.thaw, mkCloA]; split <;> rfl
 | _ => rfl
theorem look_filter {α : Type} (n : Nat) : ∀ (l : List (Nat × α)) (m : Nat), look (l.filter fun e => e.1 != n) m = if m = n then none else look l m
 | [], m => by simp [look]
 | e :: l, m => by
  have ih := look_filter n l m
  simp only [List.filter_cons]
  by_cases e1 : e.1 = n
  ·have : (e.1 != n) = false := by simp [e1]
   rw [this]
   simp only [Bool.false_eq_true, if_false, ih, look]
   by_cases e2 : m = n
   ·rw [if_pos e2, if_pos e2]
   rw [if_neg e2, if_neg e2, if_neg (by omega)]
  have : (e.1 != n) = true := by simpa using e1
  rw [this]
  simp only [if_true, look, ih]
  by_cases e2 : e.1 = m
  ·rw [if_pos e2, if_pos e2, if_neg (by omega)]
  rw [if_neg e2, if_neg e2]
theorem tot_filter {α : Type} (f : α → Nat) (n : Nat) : ∀ (l : List (Nat × α)), tot f (l.filter fun e => e.1 != n) ≤ tot f l
 | [] => by simp [tot]
 | e :: l => by
  have ih := tot_filter f n l
  simp only [List.filter_cons]
  split
  ·simp only [tot]; omega
  simp only [tot]; omega
theorem tot_filter_some {α : Type} (f : α → Nat) (n : Nat) {x : α} : ∀ (l : List (Nat × α)), look l n = some x → tot f (l.filter fun e => e.1 != n) + f x ≤ tot f l
 | [], h => by simp [look] at h
 | e :: l, h => by
  simp only [look] at h
  simp only [List.filter_cons]
  by_cases e1 : e.1 = n
  ·rw [if_pos e1] at h
   injection h with h
   subst h
   have : (e.1 != n) = false := by simp [e1]
   rw [this]
   simp only [Bool.false_eq_true, if_false, tot]
   have := tot_filter f n l
   omega
  rw [if_neg e1] at h
  have : (e.1 != n) = true := by simpa using e1
  rw [this]
  have := tot_filter_some f n l h
  simp only [if_true, tot]; omega
theorem SRel.thaw {n : Nat} {y : BoxA} (H : SRel C Z s a w) (hPB : C.PB = []) (hn : n < C.N) (hy : look s.bx n = some y) :
  SRel C (fun k => Z k ∨ 0 < y.cnt k) ⟨s.tm.map fun e => (e.1, e.2.thaw n y.b y.off (TA.roL y.cs)), s.bx.filter fun e => e.1 != n, s.hd⟩ a w := by
 obtain ⟨b1, b2, b3⟩ := H.bx n y hy
 have hcy := cnt_bx_le hy
 have hcle : ∀ k, (StA.mk (s.tm.map fun e => (e.1, e.2.thaw n y.b y.off (TA.roL y.cs))) (s.bx.filter fun e => e.1 != n) s.hd).cnt k + y.cnt k ≤ s.cnt k := by
  intro k
  have h1 := tot_filter_some (BoxA.cnt k) n s.bx hy
  have h2 : tot (AVA.cnt k) (s.tm.map fun e => (e.1, e.2.thaw n y.b y.off (TA.roL y.cs))) = tot (AVA.cnt k) s.tm := by
   rw [tot_map]
   exact congrArg (fun f => tot f s.tm) (funext fun x => cnt_thaw n y.b y.off k _ x)
  simp only [StA.cnt, h2]
  omega
 have hroot : ∀ r, r ≠ .box n → ∀ z, s.rootCells r = some z → (StA.mk (s.tm.map fun e => (e.1, e.2.thaw n y.b y.off (TA.roL y.cs))) (s.bx.filter fun e => e.1 != n) s.hd).rootCells r = some z := by
  intro r hr z hz
  cases r with
  | slot m =>
   simp only [StA.rootCells, look_map] at hz ⊢
   cases hx : look s.tm m with
   | none => rw [hx] at hz; cases hz
   | some x =>
    rw [hx] at hz
    cases x with
    | t x => exact hz
    | _ => cases hz
  | box m =>
   simp only [StA.rootCells, look_filter] at hz ⊢
   rw [if_neg (fun e => hr (by rw [e]))]
   exact hz
 have hZ : ∀ k, Z k → (Z k ∨ 0 < y.cnt k) := fun k h => .inl h
 have hro : TA.HoldsL (fun k => Z k ∨ 0 < y.cnt k) w.heap (TA.roL y.cs) := TA.HoldsL.ro y.cs b2 (fun _ h => .inl h) (fun k hk => .inr (by simp only [BoxA.cnt]; omega))
 have hmem : TA.Mem w.heap false y.b y.off 0 (TA.vals (TA.roL y.cs)) := by
  obtain ⟨cs, ety, fr, g1, g2, g3⟩ := b1
  rw [TA.roL_map, TA.vals_ro]
  exact ⟨cs, ety, fr, g1, (fun h => nomatch h), g3⟩
 have hZb : Z y.b ∨ 0 < y.cnt y.b := .inr (by simp only [BoxA.cnt, if_true]; omega)
 have hcell : ∀ c ∈ TA.roL y.cs, c.isCell = true := by
  intro c hc
  rw [TA.roL_map] at hc
  obtain ⟨d, hd, rfl⟩ := List.mem_map.1 hc
  rw [TA.isCell_ro]; exact b3 d hd
 have hcap : ∀ (xs : List CapA) (vs : List Value), CapA.OkL s Z w.heap xs vs → CapA.OkL ⟨s.tm.map fun e => (e.1, e.2.thaw n y.b y.off (TA.roL y.cs)), s.bx.filter fun e => e.1 != n, s.hd⟩ (fun k => Z k ∨ 0 < y.cnt k) w.heap (xs.map (CapA.thaw n y.b y.off (TA.roL y.cs))) vs := by
  intro xs
  induction xs with
  | nil => intro vs h; cases vs with
   | nil => trivial
   | cons v vs => exact h.elim
  | cons x xs ih =>
   intro vs h
   cases vs with
   | nil => exact h.elim
   | cons v vs =>
    refine ⟨?_, ih vs h.2⟩
    cases x with
    | bx m =>
     obtain ⟨base, l, ad, h1, h2, h3⟩ := h.1
     simp only [CapA.thaw]
     by_cases e : m = n
     ·subst e
      rw [if_pos rfl]
      simp only [StA.rootCells, hy, Option.map_some, Option.some.injEq, Prod.mk.injEq] at h1
      obtain ⟨rfl, rfl⟩ := h1
      simp only [TA.addrP, Nat.add_zero, Option.some.injEq, Option.map_some] at h2
      subst h2
      refine ⟨h3, ?_, fun k => rfl⟩
      simp only [TA.Holds]
      exact ⟨hZb, hmem, hro, fun k => TA.cntL_ro k y.cs, List.all_eq_true.2 hcell⟩
     rw [if_neg e]
     exact ⟨base, l, ad, hroot _ (fun e2 => e (by injection e2)) _ h1, h2, h3⟩
    | ro t =>
     obtain ⟨h1, h2, h3⟩ := h.1
     exact ⟨h1, TA.Holds.frame t h2 hZ (fun _ _ => rfl), h3⟩
 exact {
  defers := H.defers
  size := H.size
  tm := fun m x hx => by
   simp only [look_map] at hx
   obtain ⟨z, hz, rfl⟩ := Option.map_eq_some_iff.1 hx
   have hv := H.tm m z hz
   cases z with
   | u => trivial
   | t z => exact ⟨hv.1, TA.Holds.frame z hv.2 hZ (fun _ _ => rfl)⟩
   | tup zs => exact ⟨hv.1, TA.HoldsL.frame zs hv.2 hZ (fun _ _ => rfl)⟩
   | al r o p k =>
    simp only [AVA.thaw]
    split
    ·trivial
    rename_i hne
    obtain ⟨base, cs, l, g1, g2⟩ := hv
    exact ⟨base, cs, l, hroot r hne _ g1, g2⟩
   | ref r o p =>
    simp only [AVA.thaw]
    split
    ·rename_i e
     subst e
     split
     ·rename_i e2
      subst e2
      obtain ⟨base, cs, ad, g1, g2, g3⟩ := hv
      simp only [StA.rootCells, hy, Option.map_some, Option.some.injEq, Prod.mk.injEq] at g1
      obtain ⟨rfl, rfl⟩ := g1
      simp only [TA.addrP, Option.map_some, Option.some.injEq] at g2
      subst g2
      exact ⟨g3, hZb, hmem, hro, fun k => TA.cntL_ro k y.cs, hcell⟩
     trivial
    rename_i hne
    obtain ⟨base, cs, ad, g1, g2⟩ := hv
    exact ⟨base, cs, ad, hroot r hne _ g1, g2⟩
   | rop b off cs o =>
    obtain ⟨g1, g2, g3, g4, g5⟩ := hv
    exact ⟨g1, .inl g2, g3, TA.HoldsL.frame cs g4 hZ (fun _ _ => rfl), g5⟩
   | clo f xs =>
    obtain ⟨vs, g1, g2⟩ := hv
    exact mkClo_ok g1 (hcap xs vs g2)
  bx := fun m x hx => by
   rw [look_filter] at hx
   split at hx
   ·cases hx
   obtain ⟨g1, g2, g3⟩ := H.bx m x hx
   exact ⟨g1, TA.HoldsL.frame _ g2 hZ (fun _ _ => rfl), g3⟩
  uniq := fun k => by have := hcle k; have := H.uniq k; omega
  notZ := fun k hk hz => by
   have h1 := hcle k
   have h2 := H.uniq k
   rcases hz with hz | hz
   ·exact H.notZ k (by omega) hz
   omega
  lt := fun k hk => H.lt k (by have := hcle k; omega)
  zlt := fun k hk => by
   rcases hk with hk | hk
   ·exact H.zlt k hk
   exact H.lt k (by have := hcy k; omega)
  own := fun k hk => H.own k (by have := hcle k; omega)
  z0 := fun k h => .inl (H.z0 k h)
  zext := fun k hk => by
   rcases hk with hk | hk
   ·exact H.zext k hk
   rcases H.own k (by have := hcy k; omega) with h | h
   ·exact .inr (.inr ⟨h, fun x hx => by rw [hPB] at hx; cases hx⟩)
   exact .inr (.inl h)
  os := H.os
  tape := H.tape
  output := H.output
  grown := H.grown
  kept := H.kept
  part := H.part
  pbx := fun x hx => by rw [hPB] at hx; cases hx
  pbo := fun x hx => by rw [hPB] at hx; cases hx
  pbi := fun x hx => by rw [hPB] at hx; cases hx
  hand := TA.HoldsL.frame _ H.hand hZ (fun _ _ => rfl)
  pbh := fun x hx => by rw [hPB] at hx; cases hx
  pk := fun x hx => by
   obtain ⟨g1, cs, g2, g3⟩ := H.pk x hx
   exact ⟨g1, cs, by rw [look_filter, if_neg (by omega)]; exact g2, g3⟩ }
theorem SOk.thaw {n : Nat} (H : SOk C σ a w) (hPB : C.PB = []) (hn : n < C.N) (h : σ.thaw n = some σ') : SOk C σ' a w := by
 obtain ⟨s, Z, h1, h2, h3⟩ := H
 subst h1
 unfold St.thaw at h
 rw [look_er_bx] at h
 obtain ⟨cs, hcs, rfl⟩ := Option.map_eq_some_iff.1 h
 obtain ⟨y, hy, rfl⟩ := Option.map_eq_some_iff.1 hcs
 refine ⟨_, _, ?_, ?_, h3.thaw hPB hn hy⟩
 ·simp only [StA.er, List.map_map, St.mk.injEq]
  refine ⟨List.map_congr_left fun e _ => ?_, ?_⟩
  ·simp only [Function.comp_apply, er_thaw, TA.erL_ro]
  rw [List.filter_map]; rfl
 exact h2
theorem M.thaw (n : Nat) (hPB : C.PB = []) (hn : n < C.N) (h : ∀ K : Option St → Prop, (∀ σ', M E C c S σ' → K (some σ')) → K (σ.thaw n)) : M E C c S σ := by
 obtain ⟨σ', h1, h2⟩ := h (fun o => ∃ σ', o = some σ' ∧ M E C c S σ') fun σ' h => ⟨σ', rfl, h⟩
 exact fun a w H => h2 a w ⟨H.1.thaw hPB hn h1, H.2⟩
@[simp] theorem cells_clo (f : Nat) (cs : List T) : (T.clo f cs).cells = [.clo f cs] := rfl
@[simp] theorem cells_pt (cs : List T) : (T.pt cs).cells = [.pt cs] := rfl
@[simp] theorem kOf_clo (f : Nat) (cs : List T) : kOf (.clo f cs) = none := rfl
@[simp] theorem kOf_pt (cs : List T) : kOf (.pt cs) = none := rfl
def St.freezeB (n i : Nat) (σ : St) : Option St := (look σ.bx n).bind fun cs => (cs[i]?).map fun c => ⟨σ.tm.map fun e => (e.1, e.2.kill (.box n)), put σ.bx n (cs.set i c.ro)⟩
theorem SRel.freezeB {n i : Nat} {y : BoxA} {c : TA} (H : SRel C Z s a w) (hy : look s.bx n = some y) (hc : y.cs[i]? = some c) :
  SRel C (fun k => Z k ∨ 0 < c.cnt k) ⟨s.tm.map fun e => (e.1, e.2.kill (.box n)), Go.OM.put s.bx n ⟨y.b, y.off, y.cs.set i c.ro⟩, s.hd⟩ a w := by
 obtain ⟨b1, b2, b3⟩ := H.bx n y hy
 have hcy := cnt_bx_le hy
 have hmem := List.mem_of_getElem? hc
 have hcs : ∀ k, TA.cntL k (y.cs.set i c.ro) + c.cnt k = TA.cntL k y.cs := fun k => by
  have := cntL_set y.cs i c c.ro k hc
  rw [TA.cnt_ro] at this; omega
 have hcle : ∀ k, (StA.mk (s.tm.map fun e => (e.1, e.2.kill (.box n))) (Go.OM.put s.bx n ⟨y.b, y.off, y.cs.set i c.ro⟩) s.hd).cnt k + c.cnt k = s.cnt k := by
  intro k
  have h1 := tot_put_some (BoxA.cnt k) (x := ⟨y.b, y.off, y.cs.set i c.ro⟩) hy
  have h2 : tot (AVA.cnt k) (s.tm.map fun e => (e.1, e.2.kill (.box n))) = tot (AVA.cnt k) s.tm := by
   rw [tot_map]
   exact congrArg (fun f => tot f s.tm) (funext fun x => AVA.cnt_kill _ k x)
  have h3 := hcs k
  simp only [BoxA.cnt] at h1
  simp only [StA.cnt, h2]
  have h11 : ∀ l, tot (fun x : BoxA => (if x.b = k then 1 else 0) + TA.cntL k x.cs) l = tot (BoxA.cnt k) l := fun _ => rfl
  omega
 have hZ : ∀ k, Z k → (Z k ∨ 0 < c.cnt k) := fun k h => .inl h
 have hlen : (y.cs.set i c.ro).length = y.cs.length := by simp
 have hvals : TA.vals (y.cs.set i c.ro) = TA.vals y.cs := by
  apply List.ext_getElem?
  intro j
  simp only [TA.vals, List.getElem?_map, List.getElem?_set]
  split
  ·rename_i e
   subst e
   split
   ·rw [hc]; simp [TA.val1_ro]
   rename_i h
   rw [List.getElem?_eq_none (by omega)]
   try rfl
  rfl
 have hholds : TA.HoldsL (fun k => Z k ∨ 0 < c.cnt k) w.heap (y.cs.set i c.ro) := TA.holdsL_iff.2 fun t ht => by
  rcases List.mem_or_eq_of_mem_set ht with h | h
  ·exact TA.Holds.frame t (TA.holdsL_iff.1 b2 t h) hZ (fun _ _ => rfl)
  rw [h]; exact TA.Holds.ro c (TA.holdsL_iff.1 b2 c hmem) hZ (fun k hk => .inr hk)
 have hcell : ∀ x ∈ y.cs.set i c.ro, x.isCell = true := by
  intro x hx
  rcases List.mem_or_eq_of_mem_set hx with h | h
  ·exact b3 x h
  rw [h, TA.isCell_ro]; exact b3 c hmem
 have hroot : ∀ r, r ≠ .box n → ∀ z, s.rootCells r = some z → (StA.mk (s.tm.map fun e => (e.1, e.2.kill (.box n))) (Go.OM.put s.bx n ⟨y.b, y.off, y.cs.set i c.ro⟩) s.hd).rootCells r = some z := by
  intro r hr z hz
  cases r with
  | slot m =>
   simp only [StA.rootCells, look_map] at hz ⊢
   cases hx : look s.tm m with
   | none => rw [hx] at hz; cases hz
   | some x =>
    rw [hx] at hz
    cases x with
    | t x => exact hz
    | _ => cases hz
  | box m =>
   simp only [StA.rootCells] at hz ⊢
   rw [look_put_ne _ _ (fun e => hr (by rw [e]))]
   exact hz
 have hself : (StA.mk (s.tm.map fun e => (e.1, e.2.kill (.box n))) (Go.OM.put s.bx n ⟨y.b, y.off, y.cs.set i c.ro⟩) s.hd).rootCells (.box n) = some (some (y.b, y.off), y.cs.set i c.ro) := by
  simp only [StA.rootCells, look_put_self, Option.map_some]
 have hold : s.rootCells (.box n) = some (some (y.b, y.off), y.cs) := by simp only [StA.rootCells, hy, Option.map_some]
 have href : ∀ (r : Root) (o : Nat) base cs ad, s.rootCells r = some (base, cs) → TA.addrP base cs o [] = some ad → ∃ base' cs', (StA.mk (s.tm.map fun e => (e.1, e.2.kill (.box n))) (Go.OM.put s.bx n ⟨y.b, y.off, y.cs.set i c.ro⟩) s.hd).rootCells r = some (base', cs') ∧ TA.addrP base' cs' o [] = some ad := by
  intro r o base cs ad h1 h2
  by_cases hr : r = .box n
  ·subst hr
   rw [hold] at h1
   simp only [Option.some.injEq, Prod.mk.injEq] at h1
   obtain ⟨rfl, rfl⟩ := h1
   exact ⟨_, _, hself, by simpa [TA.addrP] using h2⟩
  exact ⟨base, cs, hroot r hr _ h1, h2⟩
 exact {
  defers := H.defers
  size := H.size
  tm := fun m x hx => by
   simp only [look_map] at hx
   obtain ⟨z, hz, rfl⟩ := Option.map_eq_some_iff.1 hx
   have hv := H.tm m z hz
   cases z with
   | u => trivial
   | t z => exact ⟨hv.1, TA.Holds.frame z hv.2 hZ (fun _ _ => rfl)⟩
   | tup zs => exact ⟨hv.1, TA.HoldsL.frame zs hv.2 hZ (fun _ _ => rfl)⟩
   | al r o p k =>
    simp only [AVA.kill]
    split
    ·trivial
    rename_i hne
    obtain ⟨base, cs, l, g1, g2⟩ := hv
    exact ⟨base, cs, l, hroot r hne _ g1, g2⟩
   | ref r o p =>
    simp only [AVA.kill]
    split
    ·trivial
    rename_i hne
    obtain ⟨base, cs, ad, g1, g2, g3⟩ := hv
    by_cases hr : r = .box n
    ·have hp : p = [] := Classical.byContradiction fun h => hne ⟨hr, h⟩
     subst hp
     obtain ⟨base', cs', q1, q2⟩ := href r o base cs ad g1 g2
     exact ⟨base', cs', ad, q1, q2, g3⟩
    exact ⟨base, cs, ad, hroot r hr _ g1, g2, g3⟩
   | rop b off cs o =>
    obtain ⟨g1, g2, g3, g4, g5⟩ := hv
    exact ⟨g1, .inl g2, g3, TA.HoldsL.frame cs g4 hZ (fun _ _ => rfl), g5⟩
   | clo f xs =>
    obtain ⟨vs, g1, g2⟩ := hv
    exact ⟨vs, g1, CapA.OkL.keep hZ (fun _ _ => rfl) xs vs (fun m _ base cs ad h1 h2 => href (.box m) 0 base cs ad h1 h2) g2⟩
  bx := fun m x hx => by
   by_cases e : m = n
   ·subst e
    rw [look_put_self] at hx
    injection hx with hx
    subst hx
    refine ⟨?_, hholds, hcell⟩
    simp only [hvals, hlen]
    exact b1
   rw [look_put_ne _ _ e] at hx
   obtain ⟨g1, g2, g3⟩ := H.bx m x hx
   exact ⟨g1, TA.HoldsL.frame _ g2 hZ (fun _ _ => rfl), g3⟩
  uniq := fun k => by have := hcle k; have := H.uniq k; omega
  notZ := fun k hk hz => by
   have h1 := hcle k
   have h2 := H.uniq k
   rcases hz with hz | hz
   ·exact H.notZ k (by omega) hz
   omega
  lt := fun k hk => H.lt k (by have := hcle k; omega)
  zlt := fun k hk => by
   rcases hk with hk | hk
   ·exact H.zlt k hk
   exact H.lt k (by have := hcle k; omega)
  own := fun k hk => H.own k (by have := hcle k; omega)
  z0 := fun k h => .inl (H.z0 k h)
  zext := fun k hk => by
   rcases hk with hk | hk
   ·exact H.zext k hk
   rcases H.own k (by have := hcle k; omega) with h | h
   ·refine .inr (.inr ⟨h, fun x hx e => ?_⟩)
    have h1 := H.pbi x hx n y hy
    have h2 := hcs x.1
    rw [e] at h1 h2
    omega
   exact .inr (.inl h)
  os := H.os
  tape := H.tape
  output := H.output
  grown := H.grown
  kept := H.kept
  part := H.part
  pbx := fun x hx m z hz hb => by
   by_cases e : m = n
   ·subst e
    rw [look_put_self] at hz
    injection hz with hz
    subst hz
    have := H.pbx x hx m y hy hb
    simpa using this
   rw [look_put_ne _ _ e] at hz
   exact H.pbx x hx m z hz hb
  pbo := fun x hx m z hz => by
   simp only [look_map] at hz
   obtain ⟨u1, hu, rfl⟩ := Option.map_eq_some_iff.1 hz
   rw [AVA.cnt_kill]; exact H.pbo x hx m u1 hu
  pbi := fun x hx m z hz => by
   by_cases e : m = n
   ·subst e
    rw [look_put_self] at hz
    injection hz with hz
    subst hz
    have h1 := H.pbi x hx m y hy
    have h2 := hcs x.1
    simp only; omega
   rw [look_put_ne _ _ e] at hz
   exact H.pbi x hx m z hz
  hand := TA.HoldsL.frame _ H.hand hZ (fun _ _ => rfl)
  pbh := H.pbh
  pk := fun x hx => by
   obtain ⟨g1, cs, g2, g3⟩ := H.pk x hx
   by_cases e : x.1 = n
   ·rw [e, hy] at g2
    injection g2 with g2
    refine ⟨g1, y.cs.set i c.ro, ?_, by rw [hlen]; rw [g2]; exact g3⟩
    rw [e, look_put_self]
    rw [g2]
   exact ⟨g1, cs, by rw [look_put_ne _ _ e]; exact g2, g3⟩ }
theorem SOk.freezeB {n i : Nat} (H : SOk C σ a w) (h : σ.freezeB n i = some σ') : SOk C σ' a w := by
 obtain ⟨s, Z, h1, h2, h3⟩ := H
 subst h1
 unfold St.freezeB at h
 rw [look_er_bx] at h
 obtain ⟨cs, hcs, h⟩ := Option.bind_eq_some_iff.1 h
 obtain ⟨y, hy, rfl⟩ := Option.map_eq_some_iff.1 hcs
 obtain ⟨c, hc, rfl⟩ := Option.map_eq_some_iff.1 h
 rw [TA.erL_map, List.getElem?_map] at hc
 obtain ⟨cA, hcA, rfl⟩ := Option.map_eq_some_iff.1 hc
 refine ⟨_, _, ?_, ?_, h3.freezeB hy hcA⟩
 ·simp only [StA.er, List.map_map, St.mk.injEq]
  refine ⟨List.map_congr_left fun e _ => ?_, ?_⟩
  ·simp only [Function.comp_apply, AVA.er_kill]
  rw [put_map (fun x : BoxA => TA.erL x.cs)]
  simp only [TA.erL_map, List.map_set, TA.er_ro]
 exact h2
theorem M.freezeB (n i : Nat) (h : ∀ K : Option St → Prop, (∀ σ', M E C c S σ' → K (some σ')) → K (σ.freezeB n i)) : M E C c S σ := by
 obtain ⟨σ', h1, h2⟩ := h (fun o => ∃ σ', o = some σ' ∧ M E C c S σ') fun σ' h => ⟨σ', rfl, h⟩
 exact fun a w H => h2 a w ⟨H.1.freezeB h1, H.2⟩
theorem M.freezeS (n : Nat) (h : ∀ K : Option St → Prop, (∀ σ', M E C c S σ' → K (some σ')) → K (σ.freeze1 C.N n)) : M E C c S σ := by
 obtain ⟨σ', h1, h2⟩ := h (fun o => ∃ σ', o = some σ' ∧ M E C c S σ') fun σ' h => ⟨σ', rfl, h⟩
 exact fun a w H => h2 a w ⟨H.1.freeze1 h1, H.2⟩
@[simp] theorem cap_at_bx (r : Root) (n : Nat) : Cap.at r (.bx n) = decide (r = .box n) := rfl
@[simp] theorem cap_at_ro (r : Root) (x : T) : Cap.at r (.ro x) = false := rfl
@[simp] theorem filt_cons {α : Type} (n m : Nat) (x : α) (l : List (Nat × α)) : List.filter (fun e => e.1 != n) ((m, x) :: l) = if m = n then List.filter (fun e => e.1 != n) l else (m, x) :: List.filter (fun e => e.1 != n) l := by
 by_cases h : m = n <;> simp [h]
attribute [simp] St.freezeB Cap.kept Cap.thaw Cap.pts mkClo AV.thaw St.thaw
end Go.OM
namespace Go.OM
variable {C : Ctx} {E : Env} {σ σ' : St} {Q : Exit → Act → World → Prop} {S : Exit → St → Prop} {a : Act} {w : World} {P : Program}
def owedX2 (E : Env) (C : Ctx) (σ : St) (l : List Oper) (ks : List Nat) (ds : List (List (Nat × AV))) (xs : List (List (Nat × List T))) (td : List (List Nat)) (i : Nat) (o : Oper) : Prop :=
 ∀ D : Nat → Bool, D i = false → (∀ j ∈ td.getD i [], D j = true) → (∀ j, i ∈ td.getD j [] → j < ds.length → D j = false) → (∀ j l, D j = true → j < ds.length → l ∈ td.getD j [] → D l = true) →
  ∀ K : St → Prop, (∀ σ', σ' = ⟨famD (upd1 D i) 0 ds (σ.tm ++ ks.map fun n => (n, .u)), famX (upd1 D i) 0 xs σ.bx⟩ → K σ') → (⟨famD D 0 ds (σ.tm ++ ks.map fun n => (n, .u)), famX D 0 xs σ.bx⟩ : St).wps E C.N l [o] K
theorem M.drawX2 {id : Nat} {ops : Array Oper} {l : List Oper} (hl : ops.toList = l) (hp : pinB C.pin l = true) (ks : List Nat) (ds : List (List (Nat × AV))) (xs : List (List (Nat × List T))) (td : List (List Nat)) (hxl : xs.length = ds.length) (hm : ds.length ≤ l.length) (hord : ordB 0 l = true) (hlast : lastT td ds.length l.length = true) (htd : tdB td 0 l = true)
  (hstep : allIdx (owedX2 E C σ l ks ds xs td) 0 (l.take ds.length))
  (hend : ∀ K : St → Prop, (∀ σ, S .normal σ → K σ) → (⟨famD (fun _ => true) 0 ds (σ.tm ++ ks.map fun n => (n, .u)), famX (fun _ => true) 0 xs σ.bx⟩ : St).wps E C.N l (l.drop ds.length) K) : M E C (.region id ops true) S σ := fun a w H => by
 subst hl
 have hordI : ∀ (i : Nat) (o : Oper), ops[i]? = some o → ∀ e ∈ o.after.toList, Region.binds .any e = true → e.on < i := by
  intro i o ho
  have := ordB_get ops.toList 0 i o hord (by rw [Array.getElem?_toList]; exact ho)
  simpa using this
 have key : ∀ D : Nat → Bool, (∀ (j : Nat) (o' : Oper), ops[j]? = some o' → D j = true → depsIn o' D) → ∀ (i : Nat) (o : Oper), ops[i]? = some o → depsIn o D → ∀ j ∈ td.getD i [], j < i ∧ D j = true := by
  intro D hcl i
  induction i using Nat.strongRecOn with
  | _ i ih =>
   intro o ho hdep j hj
   have h1 := tdB_get ops.toList 0 i o htd (by rw [Array.getElem?_toList]; exact ho)
   rw [Nat.zero_add] at h1
   obtain ⟨e, he, hb, h2⟩ := h1 j hj
   have hei := hordI i o ho e he hb
   rcases h2 with h2 | ⟨_, h2⟩
   ·subst h2; exact ⟨hei, hdep e he hb⟩
   have hlt : e.on < ops.size := by have := (Array.getElem?_eq_some_iff.1 ho).1; omega
   have hoe : ops[e.on]? = some ops[e.on] := Array.getElem?_eq_getElem hlt
   obtain ⟨h3, h4⟩ := ih e.on hei _ hoe (hcl e.on _ hoe (hdep e he hb)) j h2
   exact ⟨by omega, h4⟩
 refine wp_region_any E.mixed ?_
 refine wpAny_famT (C := C) (E := E) hp ds.length (by simpa using hm) (fun D => ⟨famD D 0 ds (σ.tm ++ ks.map fun n => (n, .u)), famX D 0 xs σ.bx⟩) hordI (fun i o hi ho => ?_) (fun i o hi ho D hD hcl hdep => ?_) (fun D hD a w H => ?_) ops.size _ (fun _ => false) a _ (by simp) (fun i d hi => by simp [Array.getD, hi]) (fun _ _ => rfl) (fun _ _ _ h => by cases h) ?_ ?_
 ·intro D hcl hdep j hj
  have hlt : i < ops.size := (Array.getElem?_eq_some_iff.1 ho).1
  exact (key D hcl i o ho hdep j (lastT_get hlast hi (by simpa using hlt) hj)).2
 ·have hget : (ops.toList.take ds.length)[i]? = some o := by
   rw [List.getElem?_take, if_pos hi, Array.getElem?_toList]; exact ho
  have hob := allIdx_get _ 0 i o hstep hget
  rw [Nat.zero_add] at hob
  refine hob D hD (fun j hj => (key D hcl i o ho hdep j hj).2) (fun j hj hjl => ?_) (fun j l2 hDj hjl hl2 => by
   have hlt : j < ops.size := by simp only [Array.length_toList] at hm; omega
   have hoj : ops[j]? = some ops[j] := Array.getElem?_eq_getElem hlt
   exact (key D hcl j _ hoj (hcl j _ hoj hDj) l2 hl2).2) _ (fun σ' h => h)
  cases hDj : D j with
  | false => rfl
  | true =>
   exfalso
   have hlt : j < ops.size := by simp only [Array.length_toList] at hm; omega
   have hoj : ops[j]? = some ops[j] := Array.getElem?_eq_getElem hlt
   have := (key D hcl j _ hoj (hcl j _ hoj hDj) i hj).2
   rw [hD] at this; cases this
 ·have hall : famD D 0 ds (σ.tm ++ ks.map fun n => (n, .u)) = famD (fun _ => true) 0 ds (σ.tm ++ ks.map fun n => (n, .u)) := famD_congr 0 ds _ fun j _ h => hD j (by omega)
  have h2 := hend (fun σ' => S .normal σ') (fun _ h => h)
  have hallX : famX D 0 xs σ.bx = famX (fun _ => true) 0 xs σ.bx := famX_congr 0 xs _ fun j _ h => hD j (by omega)
  simp only [hall, hallX] at H
  have hpd : pinB C.pin (ops.toList.drop ds.length) = true := List.all_eq_true.2 fun o ho => List.all_eq_true.1 hp o (List.mem_of_mem_drop ho)
  exact wps_ok2 (E := E) _ _ a w _ hpd h2 H (fun σ' a' w' hS H' => ⟨σ', hS, H'⟩)
 ·exact Nat.le_trans List.countP_le_length (by simp)
 have := H.1.pad ks
 simp only [famD_none, famX_none]
 exact ⟨this.drew _, H.2⟩
end Go.OM
namespace Go.OM
variable {C : Ctx} {Z Z' : Nat → Prop} {s : StA} {a : Act} {w w' : World} {E : Env} {o : Oper} {σ σ' : St} {S : Exit → St → Prop} {c d : Code}
variable {ops os : List Oper} {K : St → Prop}
theorem V_nil (h : K σ) : VL E C ops [] K σ := fun _ _ a w _ _ H hQ => hQ σ a w h H
theorem V_conv {σ1 : St} (hc : ∀ a w, SOk2 E C σ a w → SOk2 E C σ1 a w) (h : VL E C ops os K σ1) : VL E C ops os K σ := fun ps Q a w h1 h2 H hQ => h ps Q a w h1 h2 (hc a w H) hQ
theorem V_op' {K' : St → Prop} {o : Oper} (h1 : σ.wps E C.N ops [o] K') (h2 : ∀ σ1, K' σ1 → VL E C ops os K σ1) : VL E C ops (o :: os) K σ := by
 intro ps Q a w hps hp H hQ
 subst hps
 simp only [pinB, List.all_cons, Bool.and_eq_true] at hp
 have hput : ∀ b : Act, b.tmps = a.tmps → ∀ v, PinOk E C (b.put o.dst v) := fun b hb v => PinOk.put (a := b) ⟨fun x hx => by rw [hb]; exact H.2.1 x hx, H.2.2⟩ hp.1
 have hos : pinB C.pin os = true := hp.2
 have hone : pinB C.pin [o] = true := by simp only [pinB, List.all_cons, List.all_nil, Bool.and_true]; exact hp.1
 have h3 := wps_ok2 (E := E) (ops := ps) (Q := fun e a' w' => e = .normal ∧ ∃ σ', K' σ' ∧ SOk2 E C σ' a' w') [o] σ a w K' hone h1 H (fun σ' a' w' q1 q2 => ⟨rfl, σ', q1, q2⟩)
 unfold wpList at h3 ⊢
 split at h3
 ·rename_i hw
  rw [if_pos hw]
  rcases h3 with h3 | ⟨_, _, _, h3⟩
  ·left
   unfold Oper.wp at h3 ⊢
   generalize (execOp a.eval o).run E.P w = r at *
   cases r with
   | ok n w' =>
    cases n <;> simp only [Oper.upon] at h3 ⊢ <;>
     first
      | (obtain ⟨_, σ', q1, q2⟩ := h3; exact h2 _ q1 ps Q _ _ rfl hos q2 hQ)
      | exact Calls.mono h3 (fun e w'' he => by
        cases e <;> first
         | (obtain ⟨_, σ', q1, q2⟩ := he; exact h2 _ q1 ps Q _ _ rfl hos q2 hQ)
         | (obtain ⟨_, _, hh, _⟩ := he; cases hh)
         | (obtain ⟨hh, _⟩ := he; cases hh; done))
      | exact Rows.mono h3 (fun _ _ he => by obtain ⟨_, σ', q1, q2⟩ := he; exact h2 _ q1 ps Q _ _ rfl hos q2 hQ)
      | cases h3.1
   | halt x w' => cases x <;> simp only [Oper.upon] at h3 ⊢ <;> first | exact h3 | cases h3.1
  cases h3.1
 rename_i hw
 rw [if_neg hw]
 obtain ⟨_, σ', q1, q2⟩ := h3
 exact h2 _ q1 ps Q _ _ rfl hos q2 hQ
theorem V_op {o : Oper} (h : ∀ K' : St → Prop, (∀ σ1, VL E C ops os K σ1 → K' σ1) → σ.wps E C.N ops [o] K') : VL E C ops (o :: os) K σ :=
 V_op' (h _ fun _ h => h) fun _ h => h
theorem V_cons {o : Oper} (hc : callOf o = none) (h : ∀ K' : St → Prop, (∀ σ1, VL E C ops os K σ1 → K' σ1) → σ.stepK E C.N ops o K') : VL E C ops (o :: os) K σ :=
 V_op fun K' hK' => wC hc fun K2 h2 => h K2 fun σ1 h1 => h2 σ1 (wN (hK' σ1 h1))
theorem M.regionV {id : Nat} {ops : Array Oper} (hp : pinB C.pin ops.toList = true) (h : VL E C ops.toList ops.toList (S .normal) σ) : M E C (.region id ops false) S σ :=
 fun a w H => wp_region_list (h ops _ a w rfl hp H fun σ' a' w' hS H' => ⟨σ', hS, H'⟩)
theorem VL.mono {K' : St → Prop} (h : VL E C ops os K σ) (hK : ∀ σ, K σ → K' σ) : VL E C ops os K' σ := fun ps Q a w h1 h2 H hQ => h ps Q a w h1 h2 H fun σ' a' w' h3 h4 => hQ σ' a' w' (hK _ h3) h4
theorem M.seqRV {id : Nat} {ops : Array Oper} {l : List Oper} (hl : ops.toList = l) (hp : pinB C.pin l = true) (h : ∀ K : St → Prop, (∀ σ', M E C d S σ' → K σ') → VL E C l l K σ) : M E C (.seq (.region id ops false) d) S σ :=
 M.seq (M.regionV (by rw [hl]; exact hp) (by rw [hl]; exact h _ fun σ' h => h))
theorem M.regV {id : Nat} {ops : Array Oper} {l : List Oper} (hl : ops.toList = l) (hp : pinB C.pin l = true) (h : ∀ K : St → Prop, (∀ σ', S .normal σ' → K σ') → VL E C l l K σ) : M E C (.region id ops false) S σ :=
 M.regionV (by rw [hl]; exact hp) (by rw [hl]; exact h _ fun σ' h => h)
end Go.OM
namespace Go.OM
variable {C : Ctx} {E : Env} {σ σ' : St} {S : Exit → St → Prop} {c d : Code} {ops os : List Oper} {K : St → Prop}
theorem V_q {n : Nat} {o : Oper} {τ : St} (q : C.N = n) (h : VL E C ops os K τ) (hc : callOf o = none := by rfl) (h1 : σ.stepK E n ops o (fun s => s = τ) := by simp; rfl) : VL E C ops (o :: os) K σ := by
 subst q
 refine V_cons hc fun K' hK' => ?_
 unfold St.stepK at h1 ⊢
 split at h1 <;> rename_i hw <;> try simp only [hw]
 ·obtain ⟨σ1, e, rfl⟩ := h1
  exact ⟨σ1, e, hK' _ h⟩
 ·obtain ⟨σ1, e, rfl⟩ := h1
  exact ⟨σ1, e, hK' _ h⟩
 exact h1
theorem M.zT {ks : List Nat} {id : Nat} {xs : Array Oper} {l : List Oper} (u : ∀ l, pinK ks l = true → pinB C.pin l = true) (h : VL E C l l (fun σ' => M E C d S σ') σ) (hl : xs.toList = l := by rfl) (hp : pinK ks l = true := by rfl) : M E C (.seq (.region id xs false) d) S σ :=
 M.seqRV hl (u _ hp) fun K hK ps Q a w h1 h2 H hQ => h ps Q a w h1 h2 H fun σ' a' w' g1 g2 => hQ σ' a' w' (hK _ g1) g2
theorem M.zU {ks : List Nat} {id : Nat} {xs : Array Oper} {l : List Oper} (u : ∀ l, pinK ks l = true → pinB C.pin l = true) (h : VL E C l l (fun σ' => S .normal σ') σ) (hl : xs.toList = l := by rfl) (hp : pinK ks l = true := by rfl) : M E C (.region id xs false) S σ :=
 M.regV hl (u _ hp) fun K hK ps Q a w h1 h2 H hQ => h ps Q a w h1 h2 H fun σ' a' w' g1 g2 => hQ σ' a' w' (hK _ g1) g2
end Go.OM
namespace Go.OM
def en : Nat → List AV → List (Nat × AV)
 | _, [] => []
 | a, v :: l => (a, v) :: en (a + 1) l
@[simp] theorem en_nil (a : Nat) : en a [] = [] := rfl
@[simp] theorem en_cons (a : Nat) (v : AV) (l : List AV) : en a (v :: l) = (a, v) :: en (a + 1) l := rfl
abbrev rf (b f : Nat) : AV := .ref (.box b) f []
end Go.OM
namespace Go.OM
variable {C : Ctx} {Z Z' : Nat → Prop} {s : StA} {a : Act} {w w' : World} {E : Env} {o : Oper} {σ σ' : St} {S : Exit → St → Prop} {c d : Code} {ops os : List Oper} {K : St → Prop}
end Go.OM
namespace Go.OM
variable {C : Ctx} {Z Z' : Nat → Prop} {s : StA} {a : Act} {w w' : World} {E : Env} {o : Oper} {σ σ' : St} {Q : Exit → Act → World → Prop} {S : Exit → St → Prop} {c d : Code} {l ops os : List Oper} {K : St → Prop} {P : Program}
def Pers (C : Ctx) (a : Act) (n : Nat) : AV → Prop
 | .u => True
 | .t (.v x) => a.tmps.getD n undef = x ∧ TA.OneCell x
 | .ref (.box k) o [] => ∃ b off len, (k, b, off, len) ∈ C.PK ∧ a.tmps.getD n undef = .pointer (some ⟨b, off + o, none⟩)
 | _ => False
theorem tot_zero {α : Type} {f : α → Nat} : ∀ (l : List (Nat × α)), (∀ e ∈ l, f e.2 = 0) → tot f l = 0
 | [], _ => rfl
 | e :: l, h => by
  obtain ⟨n, x⟩ := e
  have := h (n, x) (by simp)
  simp only at this
  simp only [tot, this, tot_zero l (fun e he => h e (by simp [he]))]
theorem Pers.agree {a' : Act} {n : Nat} {x : AV} (h : Pers C a n x) (e : a'.tmps.getD n undef = a.tmps.getD n undef) : Pers C a' n x := by
 unfold Pers at *
 split <;> simp_all
end Go.OM
namespace Go.OM
variable {C : Ctx} {Z Z' : Nat → Prop} {s : StA} {a : Act} {w w' : World} {E : Env} {o : Oper} {σ σ' : St} {Q : Exit → Act → World → Prop} {S : Exit → St → Prop} {c d : Code} {l ops os : List Oper} {K : St → Prop} {P : Program}
end Go.OM
namespace Go.OM
variable {C : Ctx} {E : Env} {σ σ' : St} {a : Act} {w : World} {P : Program}
def lookP : List (Nat × AV) → Nat → Option AV → Option AV
 | [], _, r => r
 | e :: d, n, r => lookP d n (if n = e.1 then some e.2 else r)
def lookF (D : Nat → Bool) : Nat → List (List (Nat × AV)) → Nat → Option AV → Option AV
 | _, [], _, r => r
 | i, d :: ds, n, r => lookF D (i + 1) ds n (if D i = true then lookP d n r else r)
theorem look_putL : ∀ (d tm : List (Nat × AV)) (n : Nat), look (putL tm d) n = lookP d n (look tm n)
 | [], tm, n => rfl
 | e :: d, tm, n => by
  simp only [putL, lookP]
  rw [look_putL d _ n, look_put]
theorem look_famD (D : Nat → Bool) : ∀ (i : Nat) (ds : List (List (Nat × AV))) (tm : List (Nat × AV)) (n : Nat), look (famD D i ds tm) n = lookF D i ds n (look tm n)
 | _, [], tm, n => rfl
 | i, d :: ds, tm, n => by
  simp only [famD, lookF]
  rw [look_famD D (i + 1) ds _ n]
  split
  ·rw [look_putL]
  rfl
theorem put_keys {α : Type} : ∀ (l : List (Nat × α)) (n : Nat) (x : α), n ∈ l.map Prod.fst → (put l n x).map Prod.fst = l.map Prod.fst
 | [], n, x, h => by simp at h
 | (k, y) :: l, n, x, h => by
  simp only [put]
  by_cases e : k = n
  ·simp [e]
  rw [if_neg e]
  simp only [List.map_cons, List.cons.injEq, true_and]
  refine put_keys l n x ?_
  simp only [List.map_cons, List.mem_cons] at h
  exact h.resolve_left fun h => e h.symm
theorem put_comm {α : Type} : ∀ (l : List (Nat × α)) (n m : Nat) (x y : α), n ≠ m → n ∈ l.map Prod.fst → m ∈ l.map Prod.fst → put (put l n x) m y = put (put l m y) n x
 | [], n, m, x, y, _, h, _ => by simp at h
 | (k, z) :: l, n, m, x, y, hnm, h1, h2 => by
  by_cases e1 : k = n
  ·subst e1
   simp [put, hnm]
  by_cases e2 : k = m
  ·subst e2
   simp [put, e1]
  simp only [put, if_neg e1, if_neg e2, List.cons.injEq, true_and]
  simp only [List.map_cons, List.mem_cons] at h1 h2
  exact put_comm l n m x y hnm (h1.resolve_left fun h => e1 h.symm) (h2.resolve_left fun h => e2 h.symm)
def inK (tm d : List (Nat × AV)) : Prop := ∀ e ∈ d, e.1 ∈ tm.map Prod.fst
theorem putL_keys : ∀ (d tm : List (Nat × AV)), inK tm d → (putL tm d).map Prod.fst = tm.map Prod.fst
 | [], tm, _ => rfl
 | e :: d, tm, h => by
  simp only [putL]
  have h1 := put_keys tm e.1 e.2 (h e (by simp))
  rw [putL_keys d _ (fun e' he' => by rw [h1]; exact h e' (by simp [he'])), h1]
theorem put_putL : ∀ (d tm : List (Nat × AV)) (n : Nat) (x : AV), (∀ e ∈ d, e.1 ≠ n) → n ∈ tm.map Prod.fst → inK tm d → put (putL tm d) n x = putL (put tm n x) d
 | [], tm, n, x, _, _, _ => rfl
 | e :: d, tm, n, x, hd, hn, hk => by
  simp only [putL]
  have h1 := put_keys tm e.1 e.2 (hk e (by simp))
  rw [put_putL d _ n x (fun e' he' => hd e' (by simp [he'])) (by rw [h1]; exact hn) (fun e' he' => by rw [h1]; exact hk e' (by simp [he'])), put_comm tm e.1 n e.2 x (hd e (by simp)) (hk e (by simp)) hn]
theorem putL_comm : ∀ (d d' tm : List (Nat × AV)), (∀ e ∈ d, ∀ e' ∈ d', e'.1 ≠ e.1) → inK tm d → inK tm d' → putL (putL tm d') d = putL (putL tm d) d'
 | [], d', tm, _, _, _ => rfl
 | e :: d, d', tm, h, hk, hk' => by
  simp only [putL]
  have h1 := put_keys tm e.1 e.2 (hk e (by simp))
  rw [put_putL d' tm e.1 e.2 (fun e' he' => h e (by simp) e' he') (hk e (by simp)) hk']
  exact putL_comm d d' _ (fun e1 he1 => h e1 (by simp [he1])) (fun e' he' => by rw [h1]; exact hk e' (by simp [he'])) (fun e' he' => by rw [h1]; exact hk' e' he')
theorem putL_famD0 (D : Nat → Bool) (d : List (Nat × AV)) : ∀ (i : Nat) (ds : List (List (Nat × AV))) (tm : List (Nat × AV)), (∀ j d', ds[j]? = some d' → D (i + j) = true → ∀ e ∈ d, ∀ e' ∈ d', e'.1 ≠ e.1) → inK tm d → (∀ d' ∈ ds, inK tm d') → putL (famD D i ds tm) d = famD D i ds (putL tm d)
 | _, [], tm, _, _, _ => rfl
 | i, d' :: ds, tm, h, hk, hks => by
  simp only [famD]
  have hr : ∀ j d'', ds[j]? = some d'' → D (i + 1 + j) = true → ∀ e ∈ d, ∀ e' ∈ d'', e'.1 ≠ e.1 := fun j d'' hj hD => h (j + 1) d'' (by simpa using hj) (by rw [← hD]; congr 1; omega)
  by_cases hD : D i = true
  ·simp only [hD, if_true]
   have hk' := hks d' (by simp)
   have h1 := putL_keys d' tm hk'
   have hkk : ∀ x, inK tm x → inK (putL tm d') x := fun x hx e he => by rw [h1]; exact hx e he
   rw [putL_famD0 D d (i + 1) ds _ hr (hkk d hk) (fun x hx => hkk x (hks x (by simp [hx])))]
   rw [putL_comm d d' tm (h 0 d' (by simp) (by simpa using hD)) hk hk']
  rw [if_neg hD, if_neg hD]
  exact putL_famD0 D d (i + 1) ds tm hr hk fun x hx => hks x (by simp [hx])
theorem putL_famD (D : Nat → Bool) (d : List (Nat × AV)) : ∀ (k i : Nat) (ds : List (List (Nat × AV))) (tm : List (Nat × AV)), ds[k]? = some d → D (i + k) = false → (∀ j d', k < j → ds[j]? = some d' → D (i + j) = true → ∀ e ∈ d, ∀ e' ∈ d', e'.1 ≠ e.1) → (∀ d' ∈ ds, inK tm d') → putL (famD D i ds tm) d = famD (upd1 D (i + k)) i ds tm
 | _, _, [], _, h, _, _, _ => by simp at h
 | 0, i, d0 :: ds, tm, h, hD, hd, hk => by
  simp only [List.getElem?_cons_zero, Option.some.injEq] at h
  subst h
  simp only [Nat.add_zero] at hD ⊢
  simp only [famD, hD, Bool.false_eq_true, if_false, upd1, if_true]
  rw [putL_famD0 D d0 (i + 1) ds tm (fun j d' hj hDj => hd (j + 1) d' (by omega) (by simpa using hj) (by rw [← hDj]; congr 1; omega)) (hk d0 (by simp)) (fun x hx => hk x (by simp [hx]))]
  refine famD_congr (i + 1) ds _ fun j h1 h2 => ?_
  show D j = if j = i then true else D j
  rw [if_neg (by omega)]
 | k + 1, i, d0 :: ds, tm, h, hD, hd, hk => by
  simp only [List.getElem?_cons_succ] at h
  have e1 : i + (k + 1) = i + 1 + k := by omega
  have hne : upd1 D (i + (k + 1)) i = D i := by simp [upd1]
  simp only [famD, hne]
  rw [e1] at hD ⊢
  refine putL_famD D d k (i + 1) ds _ h hD (fun j d' h1 h2 h3 => hd (j + 1) d' (by omega) (by simpa using h2) (by rw [← h3]; congr 1; omega)) fun x hx => ?_
  split
  ·have h1 := putL_keys d0 tm (hk d0 (by simp))
   intro e he
   rw [h1]
   exact hk x (by simp [hx]) e he
  exact hk x (by simp [hx])
def disB (ds : List (List (Nat × AV))) (td : List (List Nat)) (i : Nat) : Bool :=
 (List.range ds.length).all fun j => !decide (i < j) || (td.getD j []).contains i || (ds.getD i []).all fun e => (ds.getD j []).all fun e' => !decide (e'.1 = e.1)
def keysB (ds : List (List (Nat × AV))) (tm : List (Nat × AV)) : Bool := ds.all fun d => d.all fun e => (tm.map Prod.fst).contains e.1
def owedY2 (E : Env) (C : Ctx) (σ : St) (l : List Oper) (ks : List Nat) (ds : List (List (Nat × AV))) (xs : List (List (Nat × List T))) (td : List (List Nat)) (i : Nat) (o : Oper) : Prop :=
 ∀ (τ : St) (D : Nat → Bool), τ.bx = famX D 0 xs σ.bx → (∀ n, look τ.tm n = lookF D 0 ds n (look (σ.tm ++ ks.map fun n => (n, .u)) n)) → D i = false → (∀ j ∈ td.getD i [], D j = true) → (∀ j, i ∈ td.getD j [] → j < ds.length → D j = false) →
  ∀ K : St → Prop, (∀ σ', σ' = ⟨putL τ.tm (ds.getD i []), famX (upd1 D i) 0 xs σ.bx⟩ → K σ') → τ.wps E C.N l [o] K
theorem owedX2_of {l : List Oper} {ks : List Nat} {ds : List (List (Nat × AV))} {xs : List (List (Nat × List T))} {td : List (List Nat)} {i : Nat} {o : Oper} (hi : decide (i < ds.length) = true) (hd : disB ds td i = true) (hk : keysB ds (σ.tm ++ ks.map fun n => (n, .u)) = true) (h : owedY2 E C σ l ks ds xs td i o) : owedX2 E C σ l ks ds xs td i o := by
 intro D d0 g1 g2 gc K hK
 have hi := of_decide_eq_true hi
 refine h ⟨_, _⟩ D rfl (fun n => look_famD D 0 ds _ n) d0 g1 g2 K fun σ' hσ => hK σ' ?_
 rw [hσ]
 have hdi : ds[i]? = some (ds.getD i []) := by rw [List.getD_eq_getElem?_getD, List.getElem?_eq_getElem hi]; rfl
 have := putL_famD D (ds.getD i []) i 0 ds (σ.tm ++ ks.map fun n => (n, .u)) hdi (by simpa using d0) (fun j d' h1 h2 h3 e he e' he' heq => by
  have hj : j < ds.length := (List.getElem?_eq_some_iff.1 h2).1
  have h4 := List.all_eq_true.1 hd j (List.mem_range.2 hj)
  simp only [Bool.or_eq_true, Bool.not_eq_true', decide_eq_false_iff_not, List.all_eq_true] at h4
  rcases h4 with (h4 | h4) | h4
  ·exact h4 h1
  ·have := g2 j (List.contains_iff_mem.1 h4) hj
   rw [Nat.zero_add] at h3
   rw [this] at h3; cases h3
  ·have h5 : ds.getD j [] = d' := by rw [List.getD_eq_getElem?_getD, h2]; rfl
   rw [h5] at h4
   exact h4 e he e' he' heq) (fun d' hd' e he => by
  have h6 := List.all_eq_true.1 (List.all_eq_true.1 hk d' hd') e he
  exact List.contains_iff_mem.1 h6)
 rw [Nat.zero_add] at this
 rw [this]
end Go.OM
namespace Go.OM
def Hg {α : Type} (Φ : Prop) (X : Option α) (r : α) (P : Prop) : Prop := Φ → X = some r → P
def Cx (C : Ctx) (n : Nat) (ks : List Nat) : Prop := C.N = n ∧ ∀ l, pinK ks l = true → pinB C.pin l = true
class Con (E : Env) (f : FuncId) (p : Prop) (args : outParam (List Arg)) (res : outParam (List T)) (outs : outParam (List (List T))) : Prop where
 ok : p → Ok E f args res outs
class Ent (E : Env) (f : FuncId) : Prop where
 ok : Enters E.P f
section
variable {α β ρ : Type} {X : Option α} {r : α} {Φ P Q : Prop} {C : Ctx} {E : Env} {σ τ : St} {S : Exit → St → Prop} {c d : Code} {K : St → Prop} {ops os l : List Oper} {o : Oper} {n id id' : Nat} {ks : List Nat} {xs : Array Oper}
theorem Hg.mp (h : P → Q) (k : Hg Φ X r P) : Hg Φ X r Q := fun f e => h (k f e)
theorem h_sr (k : Hg Φ X r (σ.wps E C.N l l fun σ' => M E C d S σ')) (cx : Cx C n ks := by assumption) (hl : xs.toList = l := by rfl) (hp : pinK ks l = true := by rfl) : Hg Φ X r (M E C (.seq (.region id xs false) d) S σ) := fun f e => M.zS cx.2 (k f e) hl hp
theorem h_rg (k : Hg Φ X r (σ.wps E C.N l l fun σ' => S .normal σ')) (cx : Cx C n ks := by assumption) (hl : xs.toList = l := by rfl) (hp : pinK ks l = true := by rfl) : Hg Φ X r (M E C (.region id xs false) S σ) := fun f e => M.zH cx.2 (k f e) hl hp
theorem h_sq (k : Hg Φ X r (M E C c (thenS (M E C d S) S) σ)) : Hg Φ X r (M E C (.seq c d) S σ) := k.mp M.seq
theorem h_sk (k : Hg Φ X r (S .normal σ)) : Hg Φ X r (M E C .skip S σ) := k.mp M.skip
theorem h_lb {l : Nat} (k : Hg Φ X r (S .normal σ)) : Hg Φ X r (M E C (.label l) S σ) := k.mp M.label
theorem h_ex (k : Hg Φ X r (S (.exit id) σ)) : Hg Φ X r (M E C (.exit id) S σ) := k.mp M.exit
theorem h_rt (k : Hg Φ X r (S .ret σ)) : Hg Φ X r (M E C .ret S σ) := k.mp M.ret
theorem h_bk (k : Hg Φ X r (M E C c (iB id S) σ)) : Hg Φ X r (M E C (.block id c) S σ) := k.mp M.block
theorem h_tn (k : Hg Φ X r (K σ)) : Hg Φ X r (thenS K S .normal σ) := k
theorem h_tr (k : Hg Φ X r (S .ret σ)) : Hg Φ X r (thenS K S .ret σ) := k
theorem h_te (k : Hg Φ X r (S (.exit id) σ)) : Hg Φ X r (thenS K S (.exit id) σ) := k
theorem h_bn (k : Hg Φ X r (S .normal σ)) : Hg Φ X r (iB id S .normal σ) := k
theorem h_br (k : Hg Φ X r (S .ret σ)) : Hg Φ X r (iB id S .ret σ) := k
theorem h_be (k : Hg Φ X r (S .normal σ)) : Hg Φ X r (iB id S (.exit id) σ) := fun f e => by simp only [iB, if_true]; exact k f e
theorem h_bd (k : Hg Φ X r (S (.exit id') σ)) (h : id' ≠ id := by decide) : Hg Φ X r (iB id S (.exit id') σ) := fun f e => by simp only [iB, if_neg h]; exact k f e
theorem h_cd {x : Operand} {b : Bool} {p q : Option α} {B N : Prop} (k : (b = true → B → Hg Φ p r (M E C c S σ)) ∧ (¬ b = true → N → Hg Φ q r (M E C d S σ))) (hx : Φ → σ.sc x = some (.bool b) := by intro f; first | (simp [f]; done) | (simp [f, *]; done) | (simp_all; done) | fail)
  (hB : b = true → B := by first | (intro h; simp at h; exact h) | exact fun _ => trivial) (hN : ¬ b = true → N := by first | (intro h; simp at h; exact h) | exact fun _ => trivial) : Hg Φ (if b = true then p else q) r (M E C (.cond x c d) S σ) := fun f e => by
 by_cases hb : b = true
 ·rw [if_pos hb] at e; exact M.cT' (hx f) hb (k.1 hb (hB hb) f e)
 rw [if_neg hb] at e; exact M.cF' (hx f) hb (k.2 hb (hN hb) f e)
theorem h_ct {x : Operand} (k : Hg Φ X r (M E C c S σ)) (hx : Φ → σ.sc x = some (.bool true) := by intro f; simp [f]) : Hg Φ X r (M E C (.cond x c d) S σ) := fun f e => M.condT (hx f) (k f e)
theorem h_cf {x : Operand} (k : Hg Φ X r (M E C d S σ)) (hx : Φ → σ.sc x = some (.bool false) := by intro f; simp [f]) : Hg Φ X r (M E C (.cond x c d) S σ) := fun f e => M.condF (hx f) (k f e)
theorem h_nil (k : Φ → Hg True X r (K σ)) : Hg Φ X r (σ.wps E C.N ops [] K) := fun f e => wN (k f trivial e)
theorem h_q (k : Hg Φ X r (τ.wps E C.N ops os K)) (hc : callOf o = none := by rfl) (cx : Cx C n ks := by assumption) (h1 : Φ → σ.stepK E n ops o (fun s => s = τ) := by intro f; simp [f]; rfl) : Hg Φ X r (σ.wps E C.N ops (o :: os) K) := fun f e => wps_q cx.1 (k f e) hc (h1 f)
theorem h_qs (k : Hg Φ X r (τ.wps E C.N ops os K)) (hc : callOf o = none := by rfl) (cx : Cx C n ks := by assumption) (h1 : Φ → σ.stepK E n ops o (fun s => s = τ) := by intro f; simp [f, *]; rfl) : Hg Φ X r (σ.wps E C.N ops (o :: os) K) := fun f e => wps_q cx.1 (k f e) hc (h1 f)
theorem h_off (k : Hg Φ X r (τ.wps E C.N ops os K)) (hc : (callOf o).isSome = true := by rfl) (cx : Cx C n ks := by assumption) (h1 : Φ → σ.wants ops o = some false ∧ σ.put? n o.dst (.tup []) = some τ := by first | (intro f; simp [f]; rfl) | (intro f; simp [f, *]; rfl)) : Hg Φ X r (σ.wps E C.N ops (o :: os) K) := fun f e => wO fun K' hK => ⟨(h1 f).1, τ, by rw [cx.1]; exact (h1 f).2, hK _ (k f e)⟩
theorem h_lB {t : TypeId} {x : Operand} (k : Hg Φ X r (τ.wps E C.N ops os K)) (cx : Cx C n ks := by assumption) (ho : o.op = .load t x := by rfl) (h1 : Φ → σ.wants ops o = some true ∧ stLoadB E n o.dst t x σ = some τ := by first | (intro f; simp [f]; rfl) | (intro f; simp [f, *]; rfl)) : Hg Φ X r (σ.wps E C.N ops (o :: os) K) := fun f e => wps_loadB ho fun K' hK => ⟨(h1 f).1, by rw [cx.1, (h1 f).2]; exact hK _ (k f e)⟩
def T.own1 : T → Bool
 | .sl o _ _ => o
 | .agg cs => cs.any fun | .sl o _ _ => o | _ => false
 | _ => false
def modeOf (a : Arg) (v : AV) : Mode := match a with
 | .ptr cs => .ptr cs.length
 | .val t => if t.own1 = true then .take else match v with
  | .t x => if x.own1 = true then .bor else .take
  | .al _ _ _ _ => .bor
  | _ => .take
def modes (σ : St) : List Operand → List Arg → List (Mode × Operand)
 | x :: xs, a :: as => (modeOf a (σ.op x), x) :: modes σ xs as
 | _, _ => []
theorem modes_ok (σ : St) : ∀ (xs : List Operand) (as : List Arg), as.length = xs.length → ((modes σ xs as).all (fun m => m.1.real), (modes σ xs as).map Prod.snd) = (true, xs)
 | [], [], _ => rfl
 | [], _ :: _, h => by simp at h
 | _ :: _, [], h => by simp at h
 | x :: xs, a :: as, h => by
  have ih := modes_ok σ xs as (by simpa using h)
  simp only [Prod.mk.injEq] at ih
  have hr : (modeOf a (σ.op x)).real = true := by
   unfold modeOf
   cases a with
   | ptr cs => rfl
   | val t =>
    simp only
    split
    ·rfl
    split
    ·split <;> rfl
    ·rfl
    rfl
  have hr' : Mode.real (modeOf a (σ.op x)) = true := hr
  simp only [modes, List.all_cons, List.map_cons, ih.1, ih.2, hr', Bool.and_true]
theorem h_call0 {g : Operand} {ys : List Operand} {f : FuncId} {args : List Arg} {res : List T} {outs : List (List T)} {ms : List (Mode × Operand)} {p : Prop} [con : Con E f p args res outs] [en : Ent E f] (hp : p) (cx : Cx C n ks) (hc : callOf o = some (g, ys)) (hl : args.length = ys.length) (hm : modes σ ys args = ms)
  (h1 : σ.wants ops o = some true ∧ σ.fn g = some f ∧ lendK args (fun pls σ2 => optK (fun s => s = τ) (St.land n o.dst (ms.any fun m => m.1.isBor) pls res outs σ2)) (σ.lend n ms)) (k : τ.wps E C.N ops os K) : σ.wps E C.N ops (o :: os) K :=
 wps_c ms cx.1 en.ok (con.ok hp) k hc (by rw [← hm]; exact modes_ok σ ys args hl) h1
variable {g : Operand} {ys : List Operand} {f : FuncId} {args : List Arg} {ms : List (Mode × Operand)} {α1 α2 α3 α4 : Type}
theorem h_c1 {e : Option β} {x : β → Option α} {res : β → List T} {outs : β → List (List T)} {τ : β → St} (k : ∀ y, Hg Φ (x y) r ((τ y).wps E C.N ops os K)) (cx : Cx C n ks := by assumption) (hc : callOf o = some (g, ys) := by rfl) (hf : σ.fn g = some f := by first | rfl | (simp; done) | (simp; rfl)) (con : ∀ y, Con E f (e = some y) args (res y) (outs y) := by infer_instance) (en : Ent E f := by infer_instance)
  (hl : args.length = ys.length := by rfl) (hm : Φ → modes σ ys args = ms := by first | (intro f; simp [modes, modeOf, T.own1, f]; done) | (intro f; simp [modes, modeOf, T.own1, f]; rfl))
  (h1 : Φ → ∀ y, σ.wants ops o = some true ∧ lendK args (fun pls σ2 => optK (fun s => s = τ y) (St.land n o.dst (ms.any fun m => m.1.isBor) pls (res y) (outs y) σ2)) (σ.lend n ms) := by first | (intro f y; simp [f]; rfl) | (intro f y; simp [f, *]; rfl)) : Hg Φ (e.bind x) r (σ.wps E C.N ops (o :: os) K) := fun f e' => by
 obtain ⟨y, he, hx⟩ := bS e'
 have hk := k y f hx
 have h2 := h1 f y
 exact @h_call0 C E σ (τ y) K ops os o n ks g ys _ args (res y) (outs y) ms _ (con y) en he cx hc hl (hm f) ⟨h2.1, hf, h2.2⟩ hk
end
end Go.OM
namespace Go.OM
abbrev vbo (b : Bool) : T := .v (.bool b)
abbrev eR (r : List Bool) : T := .sl true 1 (r.map vbo)
abbrev eRR (t : List (List Bool)) : T := .sl true 1 (t.map eR)
def bxR (k : Nat) : List (List Bool) → List (Nat × List T)
 | [] => []
 | [] :: rs => bxR (k + 1) rs
 | (e :: es) :: rs => (k, (e :: es).map vbo) :: bxR (k + 1) rs
def bxA (k : Nat) : List TA → List (Nat × BoxA)
 | [] => []
 | .sl _ _ b off _ (e :: es) :: rs => (k, ⟨b, off, e :: es⟩) :: bxA (k + 1) rs
 | _ :: rs => bxA (k + 1) rs
def hdR (H : Nat → Value) (k n : Nat) : List T := (List.range' k n).map fun p => .v (H p)
def hdT (H : Nat → Value) (k : Nat) : List (List (List Bool)) → List T
 | [] => []
 | t :: ts => .sl false 1 (hdR H k t.length) :: hdT H (k + t.length) ts
theorem look_bxR : ∀ (rs : List (List Bool)) (k p : Nat) (r : List Bool), rs[p]? = some r → r ≠ [] → look (bxR k rs) (k + p) = some (r.map vbo)
 | [], k, p, r, h, hn => by simp at h
 | x :: rs, k, 0, r, h, hn => by
  simp only [List.getElem?_cons_zero, Option.some.injEq] at h
  subst h
  cases x with
  | nil => exact absurd rfl hn
  | cons e es => simp [bxR, look]
 | x :: rs, k, p + 1, r, h, hn => by
  have ih := look_bxR rs (k + 1) p r (by simpa using h) hn
  rw [show k + 1 + p = k + (p + 1) by omega] at ih
  cases x with
  | nil => exact ih
  | cons e es =>
   simp only [bxR, look]
   rw [if_neg (by omega)]
   exact ih
theorem put_bxR : ∀ (rs : List (List Bool)) (k p : Nat) (r r' : List Bool), rs[p]? = some r → r ≠ [] → r' ≠ [] → put (bxR k rs) (k + p) (r'.map vbo) = bxR k (rs.set p r')
 | [], k, p, r, r', h, hn, hn' => by simp at h
 | x :: rs, k, 0, r, r', h, hn, hn' => by
  simp only [List.getElem?_cons_zero, Option.some.injEq] at h
  subst h
  cases x with
  | nil => exact absurd rfl hn
  | cons e es =>
   cases r' with
   | nil => exact absurd rfl hn'
   | cons e' es' => simp [bxR, put]
 | x :: rs, k, p + 1, r, r', h, hn, hn' => by
  have ih := put_bxR rs (k + 1) p r r' (by simpa using h) hn hn'
  rw [show k + 1 + p = k + (p + 1) by omega] at ih
  cases x with
  | nil => exact ih
  | cons e es =>
   simp only [bxR, put, List.set_cons_succ]
   rw [if_neg (by omega), ih]
theorem erL_cons {x : TA} {xs : List TA} {y : T} {ys : List T} (h : TA.erL (x :: xs) = y :: ys) : x.er = y ∧ TA.erL xs = ys := by
 simp only [TA.erL, List.cons.injEq] at h; exact h
theorem erL_nil {xs : List TA} (h : TA.erL xs = []) : xs = [] := by
 cases xs with
 | nil => rfl
 | cons x xs => simp [TA.erL] at h
theorem er_bxA : ∀ (rs : List (List Bool)) (xs : List TA) (k : Nat), TA.erL xs = rs.map eR → (bxA k xs).map (fun e => (e.1, TA.erL e.2.cs)) = bxR k rs
 | [], xs, k, h => by rw [erL_nil h]; rfl
 | r :: rs, [], k, h => by simp [TA.erL] at h
 | r :: rs, x :: xs, k, h => by
  obtain ⟨h1, h2⟩ := erL_cons h
  have ih := er_bxA rs xs (k + 1) h2
  rcases er_sl h1 with ⟨A, rfl, h3⟩ | ⟨b, off, cap, es, rfl, h3⟩
  ·cases r with
   | nil => exact ih
   | cons e r => simp at h3
  cases es with
  | nil =>
   cases r with
   | nil => exact ih
   | cons e r => simp [TA.erL] at h3
  | cons y es =>
   cases r with
   | nil => simp [TA.erL] at h3
   | cons e r =>
    simp only [bxA, bxR, List.map_cons, ih]
    rw [h3]; rfl
theorem cntL_vbo {r : List Bool} {es : List TA} (h : TA.erL es = r.map vbo) (k : Nat) : TA.cntL k es = 0 := TA.cntL_of_noOwn k es (by
 rw [h]
 clear h
 induction r with
 | nil => rfl
 | cons e r ih => simp [T.hasOwnL, T.hasOwn] at ih ⊢; exact ih)
theorem tot_bxA (q : Nat) : ∀ (rs : List (List Bool)) (xs : List TA) (k : Nat), TA.erL xs = rs.map eR → tot (BoxA.cnt q) (bxA k xs) ≤ TA.cntL q xs
 | [], xs, k, h => by rw [erL_nil h]; simp [bxA, tot]
 | r :: rs, [], k, h => by simp [TA.erL] at h
 | r :: rs, x :: xs, k, h => by
  obtain ⟨h1, h2⟩ := erL_cons h
  have ih := tot_bxA q rs xs (k + 1) h2
  rcases er_sl h1 with ⟨A, rfl, h3⟩ | ⟨b, off, cap, es, rfl, h3⟩
  ·simp only [bxA, TA.cntL, TA.cnt]; omega
  cases es with
  | nil => simp only [bxA, TA.cntL, TA.cnt]; omega
  | cons y es =>
   simp only [bxA, tot, BoxA.cnt, TA.cntL, TA.cnt, true_and]
   omega
theorem bxA_key : ∀ (xs : List TA) (k : Nat) (e : Nat × BoxA), e ∈ bxA k xs → k ≤ e.1
 | [], k, e, h => by simp [bxA] at h
 | x :: xs, k, e, h => by
  have ih := bxA_key xs (k + 1)
  cases x with
  | sl o s b off cap es =>
   cases es with
   | nil => simp only [bxA] at h; have := ih e h; omega
   | cons y es =>
    simp only [bxA, List.mem_cons] at h
    rcases h with rfl | h
    ·exact Nat.le_refl _
    have := ih e h; omega
  | _ => simp only [bxA] at h; have := ih e h; omega
theorem bxA_look : ∀ (xs : List TA) (k : Nat) (e : Nat × BoxA), e ∈ bxA k xs → look (bxA k xs) e.1 = some e.2
 | [], k, e, h => by simp [bxA] at h
 | x :: xs, k, e, h => by
  have ih := bxA_look xs (k + 1) e
  cases x with
  | sl o s b off cap es =>
   cases es with
   | nil => simp only [bxA] at h ⊢; exact ih h
   | cons y es =>
    simp only [bxA, List.mem_cons, look] at h ⊢
    rcases h with rfl | h
    ·simp
    have := bxA_key xs (k + 1) e h
    rw [if_neg (by omega)]
    exact ih h
  | _ => simp only [bxA] at h ⊢; exact ih h
theorem look_mem_bxA : ∀ (xs : List TA) (k m : Nat) (y : BoxA), look (bxA k xs) m = some y → (m, y) ∈ bxA k xs
 | [], k, m, y, h => by simp [bxA, look] at h
 | x :: xs, k, m, y, h => by
  have ih := look_mem_bxA xs (k + 1) m y
  cases x with
  | sl o s b off cap es =>
   cases es with
   | nil => simp only [bxA] at h ⊢; exact ih h
   | cons z es =>
    simp only [bxA, look, List.mem_cons] at h ⊢
    split at h
    ·rename_i e
     injection h with h
     subst h; subst e
     exact .inl rfl
    exact .inr (ih h)
  | _ => simp only [bxA] at h ⊢; exact ih h
theorem bxA_at : ∀ (xs : List TA) (k p : Nat) (o : Bool) (s b off cap : Nat) (e : TA) (es : List TA), xs[p]? = some (.sl o s b off cap (e :: es)) → (k + p, (⟨b, off, e :: es⟩ : BoxA)) ∈ bxA k xs
 | [], k, p, o, s, b, off, cap, e, es, h => by simp at h
 | x :: xs, k, 0, o, s, b, off, cap, e, es, h => by
  simp only [List.getElem?_cons_zero, Option.some.injEq] at h
  subst h
  simp [bxA]
 | x :: xs, k, p + 1, o, s, b, off, cap, e, es, h => by
  have ih := bxA_at xs (k + 1) p o s b off cap e es (by simpa using h)
  rw [show k + 1 + p = k + (p + 1) by omega] at ih
  cases x with
  | sl o' s' b' off' cap' es' =>
   cases es' with
   | nil => simp only [bxA]; exact ih
   | cons y es' => simp only [bxA, List.mem_cons]; exact .inr ih
  | _ => simp only [bxA]; exact ih
theorem tot_one {α : Type} (f : α → Nat) : ∀ (l : List (Nat × α)) (e1 e2 : Nat × α), tot f l ≤ 1 → e1 ∈ l → e2 ∈ l → 0 < f e1.2 → 0 < f e2.2 → e1 = e2
 | [], e1, e2, h, h1, _, _, _ => by simp at h1
 | e :: l, e1, e2, h, h1, h2, p1, p2 => by
  have mem : ∀ (l : List (Nat × α)) (e : Nat × α), e ∈ l → f e.2 ≤ tot f l := by
   intro l
   induction l with
   | nil => intro e h; simp at h
   | cons x l ih =>
    intro e h
    simp only [tot]
    rcases List.mem_cons.1 h with rfl | h
    ·omega
    have := ih e h; omega
  simp only [tot] at h
  rcases List.mem_cons.1 h1 with q1 | h3 <;> rcases List.mem_cons.1 h2 with q2 | h4
  ·rw [q1, q2]
  ·subst q1
   have := mem l e2 h4; omega
  ·subst q2
   have := mem l e1 h3; omega
  exact tot_one f l e1 e2 (by omega) h3 h4 p1 p2
def rows1 : TA → List TA
 | .sl _ _ _ _ _ rs => rs
 | _ => []
def rows2 (y : TA) : List TA := (rows1 y).flatMap rows1
def spR (x : TA) : TA := .v x.val1
def sp1 : TA → TA
 | .sl _ s b off cap rs => .sl false s b off cap (rs.map spR)
 | .nl _ s A => .nl false s A
 | x => x
def sp2 : TA → TA
 | .sl _ s b off cap ts => .sl false s b off cap (ts.map sp1)
 | .nl _ s A => .nl false s A
 | x => x
def spc1 (q : Nat) : TA → Nat
 | .sl _ _ b _ _ _ => if b = q then 1 else 0
 | _ => 0
def spc2 (q : Nat) (y : TA) : Nat := spc1 q y + ((rows1 y).map (spc1 q)).sum
abbrev eT3 (ts : List (List (List Bool))) : T := .sl true 1 (ts.map eRR)
theorem cnt_table {t : List (List Bool)} {x : TA} (h : x.er = eRR t) (q : Nat) : x.cnt q = spc1 q x + TA.cntL q (rows1 x) := by
 rcases er_sl h with ⟨A, rfl, h3⟩ | ⟨b, off, cap, es, rfl, h3⟩
 ·simp [TA.cnt, spc1, rows1, TA.cntL]
 simp [TA.cnt, spc1, rows1]
theorem cnt_tables (q : Nat) : ∀ (ts : List (List (List Bool))) (xs : List TA), TA.erL xs = ts.map eRR → TA.cntL q xs = (xs.map (spc1 q)).sum + TA.cntL q (xs.flatMap rows1)
 | [], xs, h => by rw [erL_nil h]; simp [TA.cntL]
 | t :: ts, [], h => by simp [TA.erL] at h
 | t :: ts, x :: xs, h => by
  obtain ⟨h1, h2⟩ := erL_cons h
  have ih := cnt_tables q ts xs h2
  have := cnt_table h1 q
  simp only [TA.cntL, List.map_cons, List.sum_cons, List.flatMap_cons, TA.cntL_append]
  omega
theorem cnt_T3 {ts : List (List (List Bool))} {y : TA} (h : y.er = eT3 ts) (q : Nat) : y.cnt q = spc2 q y + TA.cntL q (rows2 y) := by
 rcases er_sl h with ⟨A, rfl, h3⟩ | ⟨b, off, cap, es, rfl, h3⟩
 ·simp [TA.cnt, spc2, spc1, rows2, rows1, TA.cntL]
 have := cnt_tables q ts es h3
 simp only [TA.cnt, spc2, spc1, rows2, rows1, true_and]
 omega
theorem er_rows1 {t : List (List Bool)} {x : TA} (h : x.er = eRR t) : TA.erL (rows1 x) = t.map eR := by
 rcases er_sl h with ⟨A, rfl, h3⟩ | ⟨b, off, cap, es, rfl, h3⟩
 ·simp [rows1, TA.erL, ← h3]
 exact h3
theorem er_flat : ∀ (ts : List (List (List Bool))) (xs : List TA), TA.erL xs = ts.map eRR → TA.erL (xs.flatMap rows1) = ts.flatten.map eR
 | [], xs, h => by rw [erL_nil h]; rfl
 | t :: ts, [], h => by simp [TA.erL] at h
 | t :: ts, x :: xs, h => by
  obtain ⟨h1, h2⟩ := erL_cons h
  simp only [List.flatMap_cons, erL_append, List.flatten_cons, List.map_append, er_rows1 h1, er_flat ts xs h2]
theorem er_rows2 {ts : List (List (List Bool))} {y : TA} (h : y.er = eT3 ts) : TA.erL (rows2 y) = ts.flatten.map eR := by
 rcases er_sl h with ⟨A, rfl, h3⟩ | ⟨b, off, cap, es, rfl, h3⟩
 ·have : ts = [] := by cases ts with | nil => rfl | cons t ts => simp at h3
  subst this; rfl
 exact er_flat ts es h3
def hdOf (xs : List TA) (p : Nat) : Value := ((xs[p]?).map TA.val1).getD undef
theorem er_sp1 {xs : List TA} {t : List (List Bool)} {x : TA} (h : x.er = eRR t) (k : Nat) (hk : ∀ p, p < t.length → (rows1 x)[p]? = xs[k + p]?) : (sp1 x).er = .sl false 1 (hdR (hdOf xs) k t.length) := by
 rcases er_sl h with ⟨A, rfl, h3⟩ | ⟨b, off, cap, es, rfl, h3⟩
 ·have : t = [] := by cases t with | nil => rfl | cons t ts => simp at h3
  subst this
  simp [sp1, TA.er, hdR]
 simp only [sp1, TA.er, T.sl.injEq, true_and]
 have hl : es.length = t.length := by
  have := congrArg List.length h3
  rw [TA.er_len, List.length_map] at this; exact this
 rw [TA.erL_map, List.map_map]
 apply List.ext_getElem?
 intro p
 simp only [hdR, List.getElem?_map]
 by_cases hp : p < t.length
 ·have h5 := hk p hp
  simp only [rows1] at h5
  rw [List.getElem?_range' hp]
  have h6 : es[p]? = some (es[p]'(by omega)) := List.getElem?_eq_getElem (by omega)
  rw [h6] at h5 ⊢
  simp only [Option.map_some, Function.comp, spR, TA.er, Nat.one_mul, hdOf, ← h5, Option.getD_some]
 rw [List.getElem?_eq_none (by omega), List.getElem?_eq_none (by simp; omega)]
 rfl
theorem er_sps (xs : List TA) : ∀ (ts : List (List (List Bool))) (zs : List TA) (k : Nat), TA.erL zs = ts.map eRR → (∀ p, p < ts.flatten.length → (zs.flatMap rows1)[p]? = xs[k + p]?) → TA.erL (zs.map sp1) = hdT (hdOf xs) k ts
 | [], zs, k, h, _ => by rw [erL_nil h]; rfl
 | t :: ts, [], k, h, _ => by simp [TA.erL] at h
 | t :: ts, z :: zs, k, h, hk => by
  obtain ⟨h1, h2⟩ := erL_cons h
  have hl : (rows1 z).length = t.length := by
   have := congrArg List.length (er_rows1 h1)
   rw [TA.er_len, List.length_map] at this; exact this
  have e1 := er_sp1 (xs := xs) h1 k fun p hp => by
   have := hk p (by simp; omega)
   rwa [List.flatMap_cons, List.getElem?_append_left (by omega)] at this
  have e2 := er_sps xs ts zs (k + t.length) h2 fun p hp => by
   have := hk (t.length + p) (by simp at hp ⊢; omega)
   rw [List.flatMap_cons, List.getElem?_append_right (by omega), hl, show t.length + p - t.length = p by omega] at this
   rw [this, Nat.add_assoc]
  simp only [List.map_cons, TA.erL, hdT, e1, e2]
theorem er_sp2 {ts : List (List (List Bool))} {y : TA} (h : y.er = eT3 ts) : (sp2 y).er = .sl false 1 (hdT (hdOf (rows2 y)) 0 ts) := by
 rcases er_sl h with ⟨A, rfl, h3⟩ | ⟨b, off, cap, es, rfl, h3⟩
 ·have : ts = [] := by cases ts with | nil => rfl | cons t ts => simp at h3
  subst this
  simp [sp2, TA.er, hdT]
 simp only [sp2, TA.er, T.sl.injEq, true_and]
 exact er_sps _ ts es 0 h3 fun p _ => by rw [Nat.zero_add]; rfl
end Go.OM
namespace Go.OM
variable {C : Ctx} {Z Z' : Nat → Prop} {s : StA} {a : Act} {w w' : World} {E : Env} {o : Oper} {σ σ' : St} {S : Exit → St → Prop} {c d : Code}
theorem flat_cells : ∀ {es : List TA}, (∀ e ∈ es, e.isCell = true) → es.flatMap TA.cells = es
 | [], _ => rfl
 | e :: es, h => by
  rw [List.flatMap_cons, flat_cells fun x hx => h x (by simp [hx])]
  have := h e (by simp)
  cases e <;> first | rfl | simp [TA.isCell] at this
theorem sl_isCell {x : TA} {o : Bool} {n : Nat} {l : List T} (h : x.er = .sl o n l) : x.isCell = true := by
 rcases er_sl h with ⟨A, rfl, _⟩ | ⟨b, off, cap, es, rfl, _⟩ <;> rfl
theorem mem_erL {α : Type} {f : α → T} : ∀ {xs : List TA} {l : List α}, TA.erL xs = l.map f → ∀ x ∈ xs, ∃ y ∈ l, x.er = f y
 | [], l, h, x, hx => by simp at hx
 | x0 :: xs, [], h, x, hx => by simp [TA.erL] at h
 | x0 :: xs, y :: l, h, x, hx => by
  obtain ⟨h1, h2⟩ := erL_cons h
  rcases List.mem_cons.1 hx with rfl | hx
  ·exact ⟨y, by simp, h1⟩
  obtain ⟨z, hz, he⟩ := mem_erL h2 x hx
  exact ⟨z, by simp [hz], he⟩
theorem rows_cell {t : List (List Bool)} {es : List TA} (h : TA.erL es = t.map eR) : ∀ e ∈ es, e.isCell = true := fun e he => by
 obtain ⟨y, _, h2⟩ := mem_erL h e he
 exact sl_isCell h2
theorem tabs_cell {t : List (List (List Bool))} {es : List TA} (h : TA.erL es = t.map eRR) : ∀ e ∈ es, e.isCell = true := fun e he => by
 obtain ⟨y, _, h2⟩ := mem_erL h e he
 exact sl_isCell h2
theorem val1_sp1 {t : List (List Bool)} {x : TA} (h : x.er = eRR t) : (sp1 x).val1 = x.val1 ∧ (sp1 x).isCell = true := by
 rcases er_sl h with ⟨A, rfl, _⟩ | ⟨b, off, cap, es, rfl, _⟩
 ·exact ⟨rfl, rfl⟩
 simp [sp1, TA.val1, TA.isCell]
theorem holds_sp1 {t : List (List Bool)} {x : TA} {h : Array Obj} (he : x.er = eRR t) (hh : x.Holds Z h) (hz : ∀ q, 0 < spc1 q x → Z' q) : (sp1 x).Holds Z' h := by
 rcases er_sl he with ⟨A, rfl, _⟩ | ⟨b, off, cap, es, rfl, h3⟩
 ·simp [sp1, TA.Holds]
 simp only [TA.Holds] at hh
 obtain ⟨m1, m2, m3, m4, m5⟩ := hh
 have hc := rows_cell h3
 simp only [sp1, TA.Holds]
 refine ⟨?_, by simpa using m2, fun _ => ⟨hz b (by simp [spc1]), fun k => ?_⟩, ?_, ?_⟩
 ·obtain ⟨cs, ety, fr, q1, q2, q3⟩ := m1
  refine ⟨cs, ety, fr, q1, (fun hh => nomatch hh), fun j u hj => q3 j u ?_⟩
  rw [flat_cells (by intro e he; obtain ⟨x, _, rfl⟩ := List.mem_map.1 he; rfl)] at hj
  rw [flat_cells hc]
  simpa [TA.vals, Function.comp_def, spR, TA.val1] using hj
 ·clear m1 m2 m3 m4 m5 hc h3 he hz
  induction es with
  | nil => rfl
  | cons e es ih => simp [TA.cntL, spR, TA.cnt] at ih ⊢; exact ih
 ·rw [TA.holdsL_iff]
  intro e he
  obtain ⟨x, hx, rfl⟩ := List.mem_map.1 he
  simp only [spR, TA.Holds]
  exact TA.oneCell_val1 (hc x hx) (TA.holdsL_iff.1 m4 x hx)
 intro e he
 obtain ⟨x, hx, rfl⟩ := List.mem_map.1 he
 have := m5 x hx
 have h1 := hc x hx
 have : x.cells = [x] := by cases x <;> first | rfl | simp [TA.isCell] at h1
 rename_i h5
 rw [this] at h5
 simp [spR, TA.cells]
theorem holds_sp2 {ts : List (List (List Bool))} {x : TA} {h : Array Obj} (he : x.er = eT3 ts) (hh : x.Holds Z h) (hz : ∀ q, 0 < spc2 q x → Z' q) : (sp2 x).Holds Z' h := by
 rcases er_sl he with ⟨A, rfl, _⟩ | ⟨b, off, cap, es, rfl, h3⟩
 ·simp [sp2, TA.Holds]
 simp only [TA.Holds] at hh
 obtain ⟨m1, m2, m3, m4, m5⟩ := hh
 have hc := tabs_cell h3
 have hv : ∀ x ∈ es, (sp1 x).val1 = x.val1 ∧ (sp1 x).isCell = true := fun x hx => by
  obtain ⟨t, _, h2⟩ := mem_erL h3 x hx
  exact val1_sp1 h2
 have hc' : ∀ e ∈ es.map sp1, e.isCell = true := fun e he => by
  obtain ⟨x, hx, rfl⟩ := List.mem_map.1 he
  exact (hv x hx).2
 have hH : ∀ x ∈ es, (sp1 x).Holds Z' h := fun x hx => by
  obtain ⟨t, _, h2⟩ := mem_erL h3 x hx
  refine holds_sp1 h2 (TA.holdsL_iff.1 m4 x hx) fun q hq => hz q ?_
  simp only [spc2, rows1]
  have : ∀ (l : List TA), x ∈ l → spc1 q x ≤ (l.map (spc1 q)).sum := by
   intro l
   induction l with
   | nil => intro h; simp at h
   | cons y l ih =>
    intro h
    simp only [List.map_cons, List.sum_cons]
    rcases List.mem_cons.1 h with rfl | h
    ·omega
    have := ih h; omega
  have := this es hx
  omega
 simp only [sp2, TA.Holds]
 refine ⟨?_, by simpa using m2, fun _ => ⟨hz b (by simp [spc2, spc1]; omega), fun k => ?_⟩, ?_, ?_⟩
 ·obtain ⟨cs, ety, fr, q1, q2, q3⟩ := m1
  refine ⟨cs, ety, fr, q1, (fun hh => nomatch hh), fun j u hj => q3 j u ?_⟩
  rw [flat_cells hc'] at hj
  rw [flat_cells hc]
  have e : TA.vals (es.map sp1) = TA.vals es := by
   simp only [TA.vals, List.map_map]
   exact List.map_congr_left fun x hx => (hv x hx).1
  rwa [e] at hj
 ·have : ∀ x ∈ es, (sp1 x).cnt k = 0 := fun x hx => by
   obtain ⟨t, _, h2⟩ := mem_erL h3 x hx
   have h9 := er_sp1 (xs := rows1 x) h2 0 fun p _ => by rw [Nat.zero_add]
   have h8 : (sp1 x).cnt k = TA.cntL k [sp1 x] := by simp [TA.cntL]
   rw [h8]
   refine TA.cntL_of_noOwn k _ ?_
   simp only [TA.erL, h9, T.hasOwnL, T.hasOwn, Bool.or_false, Bool.false_or, hdR]
   generalize List.range' 0 t.length = l
   induction l with
   | nil => rfl
   | cons e l ih => simp [T.hasOwnL, T.hasOwn] at ih ⊢; exact ih
  clear m1 m2 m3 m4 m5 hc h3 he hz hv hc' hH
  induction es with
  | nil => rfl
  | cons e es ih =>
   simp only [List.map_cons, TA.cntL]
   rw [this e (by simp), ih fun x hx => this x (by simp [hx])]
 ·rw [TA.holdsL_iff]
  intro e he
  obtain ⟨x, hx, rfl⟩ := List.mem_map.1 he
  exact hH x hx
 intro e he
 have h1 := hc' e he
 obtain ⟨x, hx, rfl⟩ := List.mem_map.1 he
 have h5 := m5 x hx
 have h6 := hc x hx
 have : x.cells = [x] := by cases x <;> first | rfl | simp [TA.isCell] at h6
 have h7 : (sp1 x).cells = [sp1 x] := by
  generalize sp1 x = z at h1
  cases z <;> first | rfl | simp [TA.isCell] at h1
 rw [this] at h5
 rw [h7]
 simp
theorem val_sp2 {ts : List (List (List Bool))} {x : TA} (he : x.er = eT3 ts) : (sp2 x).val = x.val := by
 rcases er_sl he with ⟨A, rfl, _⟩ | ⟨b, off, cap, es, rfl, h3⟩
 ·rfl
 simp [sp2, TA.val, TA.val1]
theorem holds_rows {ts : List (List (List Bool))} {y : TA} {h : Array Obj} (he : y.er = eT3 ts) (hh : y.Holds Z h) : TA.HoldsL Z h (rows2 y) := by
 rcases er_sl he with ⟨A, rfl, _⟩ | ⟨b, off, cap, es, rfl, h3⟩
 ·simp [rows2, rows1, TA.HoldsL]
 simp only [TA.Holds] at hh
 rw [TA.holdsL_iff]
 intro x hx
 simp only [rows2, rows1, List.mem_flatMap] at hx
 obtain ⟨t, ht, hx⟩ := hx
 have h4 := TA.holdsL_iff.1 hh.2.2.2.1 t ht
 obtain ⟨u, _, h5⟩ := mem_erL h3 t ht
 rcases er_sl h5 with ⟨A, rfl, _⟩ | ⟨b, off, cap, es, rfl, h6⟩
 ·simp [rows1] at hx
 simp only [TA.Holds] at h4
 exact TA.holdsL_iff.1 h4.2.2.2.1 x hx
def ctxR (C : Ctx) (pin : List (Nat × Value)) (w : World) (Z : Nat → Prop) (s' : StA) (y : TA) : Ctx where
 N := C.N
 w0 := w
 Z0 := fun q => Z q ∨ 0 < spc2 q y
 F := fun q => 0 < s'.cnt q
 PB := (bxA C.N (rows2 y)).map fun e => (e.2.b, e.2.off, e.2.cs.length)
 PK := (bxA C.N (rows2 y)).map fun e => (e.1, e.2.b, e.2.off, e.2.cs.length)
 pin := pin
def expA (C : Ctx) (s : StA) (n : Nat) (y : TA) : StA := ⟨put s.tm n (.t (sp2 y)), bxA C.N (rows2 y), []⟩
theorem bxA_row : ∀ (xs : List TA) (rs : List (List Bool)) (k : Nat) (e : Nat × BoxA), TA.erL xs = rs.map eR → e ∈ bxA k xs → ∃ p cap, e.1 = k + p ∧ xs[p]? = some (.sl true 1 e.2.b e.2.off cap e.2.cs) ∧ ∃ r, rs[p]? = some r ∧ TA.erL e.2.cs = r.map vbo
 | [], rs, k, e, h, he => by simp [bxA] at he
 | x :: xs, [], k, e, h, he => by simp [TA.erL] at h
 | x :: xs, r :: rs, k, e, h, he => by
  obtain ⟨h1, h2⟩ := erL_cons h
  have ih := bxA_row xs rs (k + 1) e h2
  have ih' : e ∈ bxA (k + 1) xs → ∃ p cap, e.1 = k + p ∧ (x :: xs)[p]? = some (.sl true 1 e.2.b e.2.off cap e.2.cs) ∧ ∃ r', (r :: rs)[p]? = some r' ∧ TA.erL e.2.cs = r'.map vbo := fun h => by
   obtain ⟨p, cap, g1, g2, g3⟩ := ih h
   exact ⟨p + 1, cap, by omega, by simpa using g2, by simpa using g3⟩
  rcases er_sl h1 with ⟨A, rfl, h3⟩ | ⟨b, off, cap, es, rfl, h3⟩
  ·exact ih' (by simpa [bxA] using he)
  cases es with
  | nil => exact ih' (by simpa [bxA] using he)
  | cons z es =>
   simp only [bxA, List.mem_cons] at he
   rcases he with rfl | he
   ·exact ⟨0, cap, rfl, rfl, r, rfl, h3⟩
   exact ih' he
theorem explode_ok {n : Nat} {ts : List (List (List Bool))} {y : TA} (pin : List (Nat × Value)) (H : SRel C Z s a w) (hy : look s.tm n = some (.t y)) (he : y.er = eT3 ts) (hb : s.bx = []) (hh : s.hd = [])
  (hs : ∀ m x, look s.tm m = some x → (∃ t, x = .t t) ∨ ∃ b off cs o, x = .rop b off cs o) : SRel (ctxR C pin w Z (expA C s n y) y) (fun q => Z q ∨ 0 < spc2 q y) (expA C s n y) a w := by
 have hyv := H.tm n _ hy
 have hrow := er_rows2 he
 have hHr := holds_rows he hyv.2
 have hc1 : ∀ q, tot (AVA.cnt q) (put s.tm n (.t (sp2 y))) + y.cnt q = tot (AVA.cnt q) s.tm := fun q => by
  have h1 := tot_put_some (AVA.cnt q) (x := .t (sp2 y)) hy
  have h2 : (AVA.t (sp2 y)).cnt q = 0 := by
   have h8 : (AVA.t (sp2 y)).cnt q = TA.cntL q [sp2 y] := by simp [TA.cntL, AVA.cnt]
   rw [h8]
   refine TA.cntL_of_noOwn q _ ?_
   simp only [TA.erL, er_sp2 he, T.hasOwnL, T.hasOwn, Bool.or_false, Bool.false_or]
   generalize hdOf (rows2 y) = Hh
   generalize 0 = k
   clear he hyv hrow hHr h1
   induction ts generalizing k with
   | nil => rfl
   | cons t ts ih =>
    simp only [hdT, T.hasOwnL, T.hasOwn, ih, Bool.or_false, Bool.false_or, hdR]
    generalize List.range' k t.length = l
    induction l with
    | nil => rfl
    | cons e l ih => simp [T.hasOwnL, T.hasOwn] at ih ⊢; exact ih
  have h3 : (AVA.t y).cnt q = y.cnt q := rfl
  omega
 have hcE : ∀ q, (expA C s n y).cnt q = tot (AVA.cnt q) (put s.tm n (.t (sp2 y))) + tot (BoxA.cnt q) (bxA C.N (rows2 y)) := fun q => by simp [expA, StA.cnt, TA.cntL]
 have hc3 : ∀ q, tot (AVA.cnt q) (put s.tm n (.t (sp2 y))) + tot (BoxA.cnt q) (bxA C.N (rows2 y)) + spc2 q y ≤ s.cnt q := fun q => by
  have h1 := hc1 q
  have h2 := cnt_T3 he q
  have h3 := tot_bxA q _ _ C.N hrow
  have h4 : s.cnt q = tot (AVA.cnt q) s.tm := by simp [StA.cnt, hb, hh, TA.cntL, tot]
  omega
 have hc2 : ∀ q, (expA C s n y).cnt q + spc2 q y ≤ s.cnt q := fun q => by have := hc3 q; have := hcE q; omega
 have hm : ∀ e ∈ bxA C.N (rows2 y), 0 < tot (BoxA.cnt e.2.b) (bxA C.N (rows2 y)) ∧ 0 < BoxA.cnt e.2.b e.2 := fun e hme => by
  have h1 : 0 < BoxA.cnt e.2.b e.2 := by simp [BoxA.cnt]; omega
  have := look_le_tot (BoxA.cnt e.2.b) (bxA_look _ _ e hme)
  exact ⟨by omega, h1⟩
 have hin : ∀ e ∈ bxA C.N (rows2 y), ∀ k, TA.cntL k e.2.cs = 0 := fun e hme k => by
  obtain ⟨p, cap, _, _, r, _, h5⟩ := bxA_row _ _ _ e hrow hme
  exact cntL_vbo h5 k
 have hsl : ∀ b, b ∈ (bxA C.N (rows2 y)).map (fun e => e.2.b) → tot (AVA.cnt b) (put s.tm n (.t (sp2 y))) = 0 := fun b hb' => by
  obtain ⟨e, hme, rfl⟩ := List.mem_map.1 hb'
  have h1 := hm e hme
  have h2 := hc3 e.2.b
  have h3 := H.uniq e.2.b
  omega
 exact {
  defers := H.defers
  size := H.size
  tm := fun m x hx => by
   simp only [expA, look_put] at hx
   split at hx
   ·rename_i e
    subst e
    injection hx with hx
    subst hx
    exact ⟨by rw [val_sp2 he]; exact hyv.1, holds_sp2 he hyv.2 fun q hq => .inr hq⟩
   refine (H.tm m x hx).keep (fun b h => .inl h) (fun _ _ => rfl) (fun r o p k e => ?_) (fun r o p e => ?_)
   ·rcases hs m x hx with ⟨t, h1⟩ | ⟨b, off, cs, o, h1⟩ <;> rw [h1] at e <;> cases e
   rcases hs m x hx with ⟨t, h1⟩ | ⟨b, off, cs, o, h1⟩ <;> rw [h1] at e <;> exact e.elim
  bx := fun m x hx => by
   have hme := look_mem_bxA _ _ _ _ hx
   obtain ⟨p, cap, h1, h2, r, h3, h4⟩ := bxA_row _ _ _ _ hrow hme
   have h5 := TA.holdsL_iff.1 hHr _ (List.mem_of_getElem? h2)
   simp only [TA.Holds] at h5
   obtain ⟨m1, m2, m3, m4, m5⟩ := h5
   have hcell : ∀ e ∈ x.cs, e.isCell = true := fun e hee => by
    obtain ⟨z, _, h6⟩ := mem_erL h4 e hee
    cases e <;> first | rfl | simp [TA.er] at h6
   rw [flat_cells hcell] at m1
   refine ⟨?_, TA.HoldsL.frame _ m4 (fun b h => .inl h) (fun _ _ => rfl), hcell⟩
   obtain ⟨cs, ety, fr, q1, q2, q3⟩ := m1
   refine ⟨cs, ety, fr, q1, fun _ => ?_, q3⟩
   have := q2 rfl
   simp only [Nat.mul_one] at this
   exact ⟨by omega, this.2⟩
  uniq := fun k => by have := hc2 k; have := H.uniq k; omega
  notZ := fun k hk => by
   have h1 := hc2 k
   have h2 := H.uniq k
   rintro (h3 | h3)
   ·exact H.notZ k (by omega) h3
   omega
  lt := fun k hk => H.lt k (by have := hc2 k; omega)
  zlt := fun k hk => by
   rcases hk with h | h
   ·exact H.zlt k h
   exact H.lt k (by have := hc2 k; omega)
  own := fun k hk => .inl hk
  z0 := fun k hk => hk
  zext := fun k hk => .inl hk
  os := rfl
  tape := rfl
  output := rfl
  grown := Nat.le_refl _
  kept := fun _ _ _ => rfl
  part := fun x hx => by
   simp only [ctxR, List.mem_map] at hx
   obtain ⟨e, hme, rfl⟩ := hx
   obtain ⟨p, cap, h1, h2, r, h3, h4⟩ := bxA_row _ _ _ _ hrow hme
   have h5 := TA.holdsL_iff.1 hHr _ (List.mem_of_getElem? h2)
   simp only [TA.Holds] at h5
   obtain ⟨cs, ety, fr, q1, q2, q3⟩ := h5.1
   exact ⟨cs, cs, ety, fr, q1, q1, rfl, fun _ _ => rfl⟩
  pbx := fun x hx m yb hyb hxb => by
   simp only [ctxR, List.mem_map] at hx
   obtain ⟨e, hme, rfl⟩ := hx
   have hme2 := look_mem_bxA _ _ _ _ hyb
   have h2 := hc3 e.2.b
   have h3 := H.uniq e.2.b
   have := tot_one (BoxA.cnt e.2.b) _ e (m, yb) (by omega) hme hme2 (hm e hme).2 (by simp only at hxb; simp [BoxA.cnt, hxb]; omega)
   subst this
   exact ⟨rfl, Nat.le_refl _⟩
  pbo := fun x hx m yb hyb => by
   simp only [ctxR, List.mem_map] at hx
   obtain ⟨e, hme, rfl⟩ := hx
   have h1 := hsl e.2.b (List.mem_map.2 ⟨e, hme, rfl⟩)
   have h2 : yb.cnt e.2.b ≤ _ := look_le_tot (AVA.cnt e.2.b) hyb
   have h3 : yb.cnt e.2.b ≤ tot (AVA.cnt e.2.b) (put s.tm n (.t (sp2 y))) := h2
   simp only
   omega
  pbi := fun x hx m yb hyb => hin _ (look_mem_bxA _ _ _ _ hyb) _
  hand := by simp [expA, TA.HoldsL]
  pbh := fun x hx => by simp [expA, TA.cntL]
  pk := fun x hx => by
   simp only [ctxR, List.mem_map] at hx
   obtain ⟨e, hme, rfl⟩ := hx
   exact ⟨bxA_key _ _ e hme, e.2.cs, bxA_look _ _ e hme, rfl⟩ }
end Go.OM
namespace Go.OM
variable {C : Ctx} {Z Z' : Nat → Prop} {s : StA} {a : Act} {w w' : World} {E : Env} {o : Oper} {σ σ' : St} {S : Exit → St → Prop} {c d : Code}
structure Same (Z : Nat → Prop) (h1 : Array Obj) (x x' : TA) (t : T) : Prop where
 er : x'.er = t
 val : x'.val1 = x.val1
 cnt : ∀ q, x'.cnt q = x.cnt q
 holds : x'.Holds Z h1
 cell : x'.isCell = true
def SameL (Z : Nat → Prop) (h1 : Array Obj) : List TA → List TA → List T → Prop
 | [], [], [] => True
 | x :: xs, x' :: xs', t :: ts => Same Z h1 x x' t ∧ SameL Z h1 xs xs' ts
 | _, _, _ => False
theorem SameL.all {h1 : Array Obj} : ∀ {xs xs' : List TA} {ts : List T}, SameL Z h1 xs xs' ts → TA.erL xs' = ts ∧ TA.vals xs' = TA.vals xs ∧ (∀ q, TA.cntL q xs' = TA.cntL q xs) ∧ TA.HoldsL Z h1 xs' ∧ (∀ e ∈ xs', e.isCell = true) ∧ xs'.length = xs.length
 | [], [], [], _ => ⟨rfl, rfl, fun _ => rfl, trivial, fun e h => by simp at h, rfl⟩
 | x :: xs, x' :: xs', t :: ts, ⟨h, hl⟩ => by
  obtain ⟨e1, e2, e3, e4, e5, e6⟩ := hl.all
  refine ⟨by simp [TA.erL, h.er, e1], by simp only [TA.vals, List.map_cons] at e2 ⊢; rw [h.val, e2], fun q => by simp only [TA.cntL, h.cnt, e3], ⟨h.holds, e4⟩, fun e he => ?_, by simp [e6]⟩
  rcases List.mem_cons.1 he with rfl | he
  ·exact h.cell
  exact e5 e he
 | [], [], _ :: _, h => h.elim
 | [], _ :: _, _, h => h.elim
 | _ :: _, [], _, h => h.elim
 | _ :: _, _ :: _, [], h => h.elim
theorem Same.sl {h0 h1 : Array Obj} {sz b off cap : Nat} {es es' : List TA} {l : List T} (hh : (TA.sl true sz b off cap es).Holds Z h0) (hb : h1[b]? = h0[b]?) (hc : ∀ e ∈ es, e.isCell = true) (hs : SameL Z h1 es es' l) : Same Z h1 (.sl true sz b off cap es) (.sl true sz b off cap es') (.sl true sz l) := by
 obtain ⟨e1, e2, e3, e4, e5, e6⟩ := hs.all
 simp only [TA.Holds] at hh
 obtain ⟨m1, m2, m3, m4, m5⟩ := hh
 refine ⟨by simp [TA.er, e1], by simp [TA.val1, e6], fun q => by simp only [TA.cnt, e3], ?_, rfl⟩
 simp only [TA.Holds]
 refine ⟨?_, by omega, (fun h => nomatch h), e4, fun e he => ?_⟩
 ·rw [flat_cells e5, e2]
  rw [flat_cells hc] at m1
  exact m1.frame hb
 have h2 := e5 e he
 have : e.cells = [e] := by cases e <;> first | rfl | simp [TA.isCell] at h2
 rw [this]
 cases es with
 | nil =>
  cases es' with
  | nil => simp at he
  | cons _ _ => simp at e6
 | cons y es =>
  have h3 := m5 y (by simp)
  have h4 := hc y (by simp)
  have : y.cells = [y] := by cases y <;> first | rfl | simp [TA.isCell] at h4
  rw [this] at h3
  exact h3
theorem tot_bxA_nil (b : Nat) : ∀ (rs : List (List Bool)) (xs : List TA) (k : Nat) (off cap : Nat), TA.erL xs = rs.map eR → .sl true 1 b off cap [] ∈ xs → tot (BoxA.cnt b) (bxA k xs) + 1 ≤ TA.cntL b xs
 | rs, [], k, off, cap, h, hm => by simp at hm
 | [], x :: xs, k, off, cap, h, hm => by simp [TA.erL] at h
 | r :: rs, x :: xs, k, off, cap, h, hm => by
  obtain ⟨h1, h2⟩ := erL_cons h
  have t0 := tot_bxA b rs xs (k + 1) h2
  rcases List.mem_cons.1 hm with rfl | hm
  ·simp only [bxA, TA.cntL, TA.cnt, and_self, if_true]; omega
  have ih := tot_bxA_nil b rs xs (k + 1) off cap h2 hm
  rcases er_sl h1 with ⟨A, rfl, h3⟩ | ⟨b', off', cap', es, rfl, h3⟩
  ·simp only [bxA, TA.cntL, TA.cnt]; omega
  cases es with
  | nil => simp only [bxA, TA.cntL, TA.cnt]; omega
  | cons y es =>
   simp only [bxA, tot, BoxA.cnt, TA.cntL, TA.cnt, true_and]
   omega
def RowNow (h0 h1 : Array Obj) (bx : List (Nat × BoxA)) (m b off n : Nat) (r : List Bool) : Prop :=
 ∃ cs, look bx m = some ⟨b, off, cs⟩ ∧ cs.length = n ∧ TA.erL cs = r.map vbo ∧ TA.Mem h1 true b off cs.length (TA.vals cs) ∧ Outside h0 h1 b off n
theorem sameRow {h0 h1 : Array Obj} {b off cap : Nat} {es : List TA} {bx : List (Nat × BoxA)} {m : Nat} {r : List Bool} (hh : (TA.sl true 1 b off cap es).Holds Z h0) (he : ∀ e ∈ es, e.isCell = true) (h0c : ∀ q, TA.cntL q es = 0) (hn : RowNow h0 h1 bx m b off es.length r) : ∃ x', Same Z h1 (.sl true 1 b off cap es) x' (eR r) := by
 obtain ⟨cs, g1, g2, g3, g4, g5⟩ := hn
 simp only [TA.Holds] at hh
 obtain ⟨m1, m2, m3, m4, m5⟩ := hh
 have hcell : ∀ e ∈ cs, e.isCell = true := fun e hee => by
  obtain ⟨z, _, h6⟩ := mem_erL g3 e hee
  cases e <;> first | rfl | simp [TA.er] at h6
 have hc0 := cntL_vbo g3
 refine ⟨.sl true 1 b off cap cs, by simp [TA.er, g3], by simp [TA.val1, g2], fun q => by simp only [TA.cnt, hc0, h0c], ?_, rfl⟩
 simp only [TA.Holds]
 refine ⟨?_, by omega, (fun h => nomatch h), ?_, fun e hee => ?_⟩
 ·rw [flat_cells hcell]
  obtain ⟨c1, ety, fr, q1, q2, q3⟩ := g4
  obtain ⟨c0, ety0, fr0, p1, p2, p3⟩ := m1
  obtain ⟨d0, d1, e', fr', t1, t2, t3, t4⟩ := g5
  rw [p1] at t1
  rw [q1] at t2
  injection t1 with t1
  injection t1 with t1 t1' t1''
  injection t2 with t2
  injection t2 with t2 t2' t2''
  subst t1; subst t2
  refine ⟨c1, ety, fr, q1, fun _ => ?_, q3⟩
  have := p2 rfl
  exact ⟨by omega, (q2 rfl).2⟩
 ·rw [TA.holdsL_iff]
  intro e hee
  obtain ⟨z, _, h6⟩ := mem_erL g3 e hee
  cases e <;> simp [TA.er] at h6
  subst h6
  simp [TA.Holds, TA.OneCell]
 have h2 := hcell e hee
 have : e.cells = [e] := by cases e <;> first | rfl | simp [TA.isCell] at h2
 rw [this]; rfl
theorem same_rows {h0 h1 : Array Obj} {bx : List (Nat × BoxA)} : ∀ (xs : List TA) (old new : List (List Bool)) (k : Nat), TA.erL xs = old.map eR → new.map List.length = old.map List.length → TA.HoldsL Z h0 xs →
  (∀ p b off cap e es r, xs[p]? = some (.sl true 1 b off cap (e :: es)) → new[p]? = some r → RowNow h0 h1 bx (k + p) b off (es.length + 1) r) → (∀ b off cap, .sl true 1 b off cap [] ∈ xs → h1[b]? = h0[b]?) → ∃ xs', SameL Z h1 xs xs' (new.map eR)
 | [], old, new, k, h, hl, hH, hr, hz => by
  have : old = [] := by cases old with | nil => rfl | cons _ _ => simp [TA.erL] at h
  subst this
  have : new = [] := by cases new with | nil => rfl | cons _ _ => simp at hl
  subst this
  exact ⟨[], trivial⟩
 | x :: xs, [], new, k, h, hl, hH, hr, hz => by simp [TA.erL] at h
 | x :: xs, r :: old, [], k, h, hl, hH, hr, hz => by simp at hl
 | x :: xs, r :: old, r' :: new, k, h, hl, hH, hr, hz => by
  obtain ⟨h1', h2⟩ := erL_cons h
  simp only [List.map_cons, List.cons.injEq] at hl
  obtain ⟨xs', hxs⟩ := same_rows xs old new (k + 1) h2 hl.2 hH.2 (fun p b off cap e es r hp hn => by
   have := hr (p + 1) b off cap e es r (by simpa using hp) (by simpa using hn)
   rwa [show k + (p + 1) = k + 1 + p by omega] at this) (fun b off cap hm => hz b off cap (by simp [hm]))
  have hx := hH.1
  rcases er_sl h1' with ⟨A, rfl, h3⟩ | ⟨b, off, cap, es, rfl, h3⟩
  ·have : r = [] := by cases r with | nil => rfl | cons _ _ => simp at h3
   subst this
   have : r' = [] := by cases r' with | nil => rfl | cons _ _ => simp at hl
   subst this
   exact ⟨.nl true 1 A :: xs', ⟨by simp [TA.er], rfl, fun _ => rfl, by simpa [TA.Holds] using hx, rfl⟩, hxs⟩
  cases es with
  | nil =>
   have : r = [] := by cases r with | nil => rfl | cons _ _ => simp [TA.erL] at h3
   subst this
   have : r' = [] := by cases r' with | nil => rfl | cons _ _ => simp at hl
   subst this
   exact ⟨.sl true 1 b off cap [] :: xs', Same.sl (es' := []) (l := []) hx (hz b off cap (by simp)) (by simp) trivial, hxs⟩
  | cons e es =>
   have hcell : ∀ y ∈ e :: es, y.isCell = true := fun y hy => by
    obtain ⟨z, _, h6⟩ := mem_erL h3 y hy
    cases y <;> first | rfl | simp [TA.er] at h6
   obtain ⟨x', hx'⟩ := sameRow (r := r') (m := k) hx hcell (cntL_vbo h3) (by simpa using hr 0 b off cap e es r' rfl rfl)
   exact ⟨x' :: xs', hx', hxs⟩
theorem tl_len {t : List (List Bool)} {xs : List TA} (h : TA.erL xs = t.map eR) : xs.length = t.length := by
 have := congrArg List.length h
 rw [TA.er_len, List.length_map] at this; exact this
theorem same_tabs {h0 h1 : Array Obj} {bx : List (Nat × BoxA)} : ∀ (xs : List TA) (old : List (List (List Bool))) (new : List (List Bool)) (k : Nat), TA.erL xs = old.map eRR → new.map List.length = old.flatten.map List.length → TA.HoldsL Z h0 xs →
  (∀ p b off cap e es r, (xs.flatMap rows1)[p]? = some (.sl true 1 b off cap (e :: es)) → new[p]? = some r → RowNow h0 h1 bx (k + p) b off (es.length + 1) r) → (∀ b off cap, .sl true 1 b off cap [] ∈ xs.flatMap rows1 → h1[b]? = h0[b]?) →
  (∀ q, 0 < (xs.map (spc1 q)).sum → h1[q]? = h0[q]?) → ∃ (xs' : List TA) (ts1 : List (List (List Bool))), ts1.flatten = new ∧ ts1.map List.length = old.map List.length ∧ SameL Z h1 xs xs' (ts1.map eRR)
 | [], old, new, k, h, hl, hH, hr, hz, hs => by
  have : old = [] := by cases old with | nil => rfl | cons _ _ => simp [TA.erL] at h
  subst this
  have : new = [] := by cases new with | nil => rfl | cons _ _ => simp at hl
  subst this
  exact ⟨[], [], rfl, rfl, trivial⟩
 | x :: xs, [], new, k, h, hl, hH, hr, hz, hs => by simp [TA.erL] at h
 | x :: xs, t :: old, new, k, h, hl, hH, hr, hz, hs => by
  obtain ⟨h1', h2⟩ := erL_cons h
  have hlr : (rows1 x).length = t.length := tl_len (er_rows1 h1')
  have hln : t.length ≤ new.length := by
   have := congrArg List.length hl
   simp at this; omega
  have hl1 : (new.take t.length).map List.length = t.map List.length := by
   have := congrArg (List.take t.length) hl
   rw [← List.map_take] at this
   rw [this]
   simp [List.take_append]
  have hl2 : (new.drop t.length).map List.length = old.flatten.map List.length := by
   have := congrArg (List.drop t.length) hl
   rw [← List.map_drop] at this
   rw [this]
   simp [List.drop_append]
  obtain ⟨xs', ts1, g1, g2, g3⟩ := same_tabs xs old (new.drop t.length) (k + t.length) h2 hl2 hH.2 (fun p b off cap e es r hp hn => by
    have := hr (t.length + p) b off cap e es r (by rw [List.flatMap_cons, List.getElem?_append_right (by omega), hlr, show t.length + p - t.length = p by omega]; exact hp) (by rw [List.getElem?_drop] at hn; exact hn)
    rwa [← Nat.add_assoc] at this)
   (fun b off cap hm => hz b off cap (by rw [List.flatMap_cons]; exact List.mem_append.2 (.inr hm))) (fun q hq => hs q (by simp only [List.map_cons, List.sum_cons]; omega))
  have hx := hH.1
  rcases er_sl h1' with ⟨A, rfl, h3⟩ | ⟨b, off, cap, es, rfl, h3⟩
  ·have : t = [] := by cases t with | nil => rfl | cons _ _ => simp at h3
   subst this
   exact ⟨.nl true 1 A :: xs', [] :: ts1, by simpa using g1, by simp [g2], ⟨by simp [TA.er], rfl, fun _ => rfl, by simpa [TA.Holds] using hx, rfl⟩, g3⟩
  have hxH := hx
  simp only [TA.Holds] at hxH
  obtain ⟨rs', hrs⟩ := same_rows es t (new.take t.length) k h3 hl1 hxH.2.2.2.1 (fun p b off cap e es' r hp hn => by
    have hpl : p < es.length := (List.getElem?_eq_some_iff.1 hp).1
    refine hr p b off cap e es' r (by rw [List.flatMap_cons]; show (es ++ xs.flatMap rows1)[p]? = _; rw [List.getElem?_append_left hpl]; exact hp) ?_
    rw [List.getElem?_take] at hn
    split at hn
    ·exact hn
    cases hn)
   (fun b off cap hm => hz b off cap (by rw [List.flatMap_cons]; exact List.mem_append.2 (.inl hm)))
  refine ⟨.sl true 1 b off cap rs' :: xs', new.take t.length :: ts1, by rw [List.flatten_cons, g1, List.take_append_drop], by simp [g2, hln], Same.sl hx (hs b (by simp only [List.map_cons, List.sum_cons, spc1, if_true]; omega)) (rows_cell h3) hrs, g3⟩
theorem same_T3 {h0 h1 : Array Obj} {bx : List (Nat × BoxA)} {y : TA} {ts : List (List (List Bool))} {new : List (List Bool)} {k : Nat} (he : y.er = eT3 ts) (hl : new.map List.length = ts.flatten.map List.length) (hH : y.Holds Z h0)
  (hr : ∀ p b off cap e es r, (rows2 y)[p]? = some (.sl true 1 b off cap (e :: es)) → new[p]? = some r → RowNow h0 h1 bx (k + p) b off (es.length + 1) r) (hz : ∀ b off cap, .sl true 1 b off cap [] ∈ rows2 y → h1[b]? = h0[b]?)
  (hs : ∀ q, 0 < spc2 q y → h1[q]? = h0[q]?) : ∃ (y' : TA) (ts1 : List (List (List Bool))), ts1.flatten = new ∧ ts1.map List.length = ts.map List.length ∧ Same Z h1 y y' (eT3 ts1) := by
 rcases er_sl he with ⟨A, rfl, h3⟩ | ⟨b, off, cap, es, rfl, h3⟩
 ·have : ts = [] := by cases ts with | nil => rfl | cons _ _ => simp at h3
  subst this
  have : new = [] := by cases new with | nil => rfl | cons _ _ => simp at hl
  subst this
  exact ⟨.nl true 1 A, [], rfl, rfl, by simp [TA.er], rfl, fun _ => rfl, by simpa [TA.Holds] using hH, rfl⟩
 have hxH := hH
 simp only [TA.Holds] at hxH
 obtain ⟨xs', ts1, g1, g2, g3⟩ := same_tabs es ts new k h3 hl hxH.2.2.2.1 hr hz (fun q hq => hs q (by simp only [spc2, rows1]; omega))
 exact ⟨.sl true 1 b off cap xs', ts1, g1, g2, Same.sl hH (hs b (by simp only [spc2, spc1, if_true]; omega)) (tabs_cell h3) g3⟩
theorem implode_ok {n : Nat} {ts : List (List (List Bool))} {y : TA} {pin : List (Nat × Value)} {Z1 : Nat → Prop} {s1 : StA} {a1 : Act} {w1 : World} {new : List (List Bool)} {l : List (Nat × AV)} (H : SRel C Z s a w) (hy : look s.tm n = some (.t y)) (he : y.er = eT3 ts) (hb : s.bx = []) (hh : s.hd = []) (hPB : C.PB = [])
  (H1 : SRel (ctxR C pin w Z (expA C s n y) y) Z1 s1 a1 w1) (hbx : s1.er.bx = bxR C.N new) (hlen : new.map List.length = ts.flatten.map List.length) (hpn : a1.tmps.getD n undef = a.tmps.getD n undef)
  (hl : ∀ e ∈ l, (∃ v, e.2 = .t (.v v) ∧ look s1.er.tm e.1 = some e.2) ∨ ((∀ v, e.2 ≠ .t (.v v)) ∧ look s.er.tm e.1 = some e.2 ∧ ((∃ t, e.2 = .t t ∧ t.hasOwn = false) ∨ ∃ cs o, e.2 = .rop cs o) ∧ a1.tmps.getD e.1 undef = a.tmps.getD e.1 undef)) :
  ∃ ts1 : List (List (List Bool)), ts1.flatten = new ∧ ts1.map List.length = ts.map List.length ∧ SOk C ⟨(n, .t (eT3 ts1)) :: l, []⟩ a1 w1 := by
 have hrow := er_rows2 he
 have hyv := H.tm n _ hy
 have hcE : ∀ q, (expA C s n y).cnt q = tot (AVA.cnt q) (put s.tm n (.t (sp2 y))) + tot (BoxA.cnt q) (bxA C.N (rows2 y)) := fun q => by simp [expA, StA.cnt, TA.cntL]
 have hc1 : ∀ q, tot (AVA.cnt q) (put s.tm n (.t (sp2 y))) + y.cnt q ≤ s.cnt q + (sp2 y).cnt q := fun q => by
  have h1 := tot_put_some (AVA.cnt q) (x := .t (sp2 y)) hy
  have h3 : (AVA.t y).cnt q = y.cnt q := rfl
  have h5 : (AVA.t (sp2 y)).cnt q = (sp2 y).cnt q := rfl
  have h4 : s.cnt q = tot (AVA.cnt q) s.tm := by simp [StA.cnt, hb, hh, TA.cntL, tot]
  omega
 have hsp : ∀ q, (sp2 y).cnt q = 0 := fun q => by
  have := (holds_sp2 (Z' := fun q => Z q ∨ 0 < spc2 q y) he hyv.2 fun q hq => .inr hq)
  rcases er_sl (er_sp2 he) with ⟨A, e1, _⟩ | ⟨b, off, cap, es, e1, _⟩
  ·rw [e1]; rfl
  rw [e1] at this ⊢
  simp only [TA.Holds] at this
  simp [TA.cnt, (this.2.2.1 trivial).2 q]
 have hc2 : ∀ q, tot (AVA.cnt q) (put s.tm n (.t (sp2 y))) + TA.cntL q (rows2 y) + spc2 q y ≤ s.cnt q := fun q => by
  have h1 := hc1 q
  have h2 := cnt_T3 he q
  have h3 := hsp q
  omega
 have hF : ∀ q, (expA C s n y).cnt q = 0 → q < w.heap.size → w1.heap[q]? = w.heap[q]? := fun q h0 hq => H1.kept q hq (by show ¬ (0 < (expA C s n y).cnt q); omega)
 have hFs : ∀ q, 0 < spc2 q y → w1.heap[q]? = w.heap[q]? := fun q hq => by
  have h1 := hcE q
  have h2 := hc2 q
  have h3 := H.uniq q
  have h4 := tot_bxA q _ _ C.N hrow
  exact hF q (by omega) (H.lt q (by omega))
 have hFe : ∀ b off cap, .sl true 1 b off cap [] ∈ rows2 y → w1.heap[b]? = w.heap[b]? := fun b off cap hm => by
  have h1 := hcE b
  have h2 := hc2 b
  have h3 := H.uniq b
  have h4 := tot_bxA_nil b _ _ C.N off cap hrow hm
  exact hF b (by omega) (H.lt b (by omega))
 have hFz : ∀ q, Z q → w1.heap[q]? = w.heap[q]? := fun q hz => by
  have h1 := hcE q
  have h2 := hc2 q
  have h4 := tot_bxA q _ _ C.N hrow
  have h5 : ¬ 0 < s.cnt q := fun h => H.notZ q h hz
  exact hF q (by omega) (H.zlt q hz)
 have hRow : ∀ p b off cap e es r, (rows2 y)[p]? = some (.sl true 1 b off cap (e :: es)) → new[p]? = some r → RowNow w.heap w1.heap s1.bx (C.N + p) b off (es.length + 1) r := fun p b off cap e es r hp hr => by
  have hm := bxA_at _ C.N p _ _ _ _ _ _ _ hp
  obtain ⟨_, cs, g1, g2⟩ := H1.pk (C.N + p, b, off, (e :: es).length) (List.mem_map.2 ⟨_, hm, rfl⟩)
  simp only at g1 g2
  have hold : ∃ ro, ts.flatten[p]? = some ro ∧ TA.erL (e :: es) = ro.map vbo := by
   have h5 := congrArg (fun l => l[p]?) hrow
   simp only [TA.erL_map, List.getElem?_map, hp, Option.map_some] at h5
   obtain ⟨ro, h6, h7⟩ := Option.map_eq_some_iff.1 h5.symm
   exact ⟨ro, h6, by simpa [TA.er, TA.erL_map] using h7.symm⟩
  obtain ⟨ro, o1, o2⟩ := hold
  have hlen2 : r.length = (e :: es).length := by
   have h5 := congrArg (fun l => l[p]?) hlen
   simp only [List.getElem?_map, hr, o1, Option.map_some, Option.some.injEq] at h5
   have h6 := congrArg List.length o2
   rw [TA.er_len, List.length_map] at h6
   omega
  have hne : r ≠ [] := fun h => by subst h; simp at hlen2
  have h7 := look_er_bx s1 (C.N + p)
  rw [hbx, look_bxR new C.N p r hr hne, g1] at h7
  simp only [Option.map_some, Option.some.injEq] at h7
  obtain ⟨b1, b2, b3⟩ := H1.bx _ _ g1
  exact ⟨cs, g1, by simpa using g2, h7.symm, b1, H1.part (b, off, (e :: es).length) (List.mem_map.2 ⟨_, hm, rfl⟩)⟩
 obtain ⟨y', ts1, t1, t2, hsame⟩ := same_T3 (k := C.N) he hlen hyv.2 hRow hFe hFs
 refine ⟨ts1, t1, t2, ?_⟩
 let pick : Nat × AV → AVA := fun e => match e.2 with
  | .t (.v v) => AVA.t (.v v)
  | _ => (look s.tm e.1).getD .u
 have hpick : ∀ e ∈ l, (pick e).er = e.2 ∧ (∀ s' : StA, ValOk s' Z w1.heap (pick e) (a1.tmps.getD e.1 undef)) ∧ ∀ q, (pick e).cnt q = 0 := fun e hm => by
  rcases hl e hm with ⟨v, h1, h2⟩ | ⟨h1, h2, h3, h5⟩
  ·have hp : pick e = .t (.v v) := by simp only [pick, h1]
   rw [hp]
   refine ⟨by rw [h1]; rfl, fun s' => ?_, fun _ => rfl⟩
   rw [look_er] at h2
   obtain ⟨xA, g1, g2⟩ := Option.map_eq_some_iff.1 h2
   rw [h1] at g2
   obtain ⟨zA, rfl, hz⟩ := er_t g2
   cases zA <;> simp only [TA.er, reduceCtorEq, T.v.injEq] at hz
   subst hz
   have := H1.tm _ _ g1
   exact ⟨this.1, by simpa [TA.Holds] using this.2⟩
  have hp : pick e = (look s.tm e.1).getD .u := by
   simp only [pick]
  rw [look_er] at h2
  obtain ⟨xA, g1, g2⟩ := Option.map_eq_some_iff.1 h2
  rw [hp, g1, Option.getD_some]
  have hv := H.tm _ _ g1
  rcases h3 with ⟨t, h3, h4⟩ | ⟨cs, o, h3⟩
  ·have g3 := g2
   rw [h3] at g3
   obtain ⟨zA, rfl, hz⟩ := er_t g3
   have hc0 : ∀ q, zA.cnt q = 0 := fun q => by
    have := TA.cntL_of_noOwn q [zA] (by simp [TA.erL, hz, T.hasOwnL, h4])
    simpa [TA.cntL] using this
   refine ⟨g2, fun s' => ⟨by rw [h5]; exact hv.1, TA.Holds.frame zA hv.2 (fun _ h => h) fun b hb => ?_⟩, fun q => by simp [AVA.cnt, hc0]⟩
   rcases hb with hb | hb
   ·rw [hc0] at hb; omega
   exact hFz b hb
  have g3 := g2
  rw [h3] at g3
  obtain ⟨b, off, csA, rfl, hz⟩ := er_rop g3
  obtain ⟨v1, v2, v3, v4, v5, v6⟩ := hv
  refine ⟨g2, fun s' => ⟨by rw [h5]; exact v1, v2, v3.frame (hFz b v2), TA.HoldsL.frame _ v4 (fun _ h => h) fun q hq => ?_, v5, v6⟩, fun q => rfl⟩
  rcases hq with hq | hq
  ·rw [v5 q] at hq; omega
  exact hFz q hq
 have hlook : ∀ m x, look (l.map fun e => (e.1, pick e)) m = some x → ∃ e ∈ l, e.1 = m ∧ x = pick e := by
  clear hpick hl
  intro m x
  induction l with
  | nil => intro h; simp [look] at h
  | cons e l ih =>
   intro h
   simp only [List.map_cons, look] at h
   split at h
   ·rename_i hm
    injection h with h
    exact ⟨e, by simp, hm, h.symm⟩
   obtain ⟨e', h1, h2⟩ := ih h
   exact ⟨e', by simp [h1], h2⟩
 have htm0 : ∀ q, tot (AVA.cnt q) (l.map fun e => (e.1, pick e)) = 0 := fun q => tot_zero _ fun e hm => by
  obtain ⟨e', h1, rfl⟩ := List.mem_map.1 hm
  exact (hpick e' h1).2.2 q
 have hcnt : ∀ q, (StA.mk ((n, .t y') :: l.map fun e => (e.1, pick e)) [] []).cnt q = y.cnt q := fun q => by
  have := htm0 q
  have h9 := hsame.cnt q
  simp only [StA.cnt, tot, AVA.cnt, TA.cntL] at this ⊢
  omega
 have hle : ∀ q, y.cnt q ≤ s.cnt q := fun q => cnt_tm_le (x := .t y) hy q
 refine ⟨StA.mk ((n, .t y') :: l.map fun e => (e.1, pick e)) [] [], Z, ?_, rfl, ?_⟩
 ·have hl2 : (l.map fun e => (e.1, pick e)).map (fun e => (e.1, e.2.er)) = l := by
   rw [List.map_map]
   conv => rhs; rw [← List.map_id l]
   refine List.map_congr_left fun e hm => ?_
   show (e.1, (pick e).er) = e
   rw [(hpick e hm).1]
  show St.mk ((n, AV.t y'.er) :: (l.map fun e => (e.1, pick e)).map (fun e => (e.1, e.2.er))) [] = _
  rw [hl2, hsame.er]
 exact {
  defers := H1.defers
  size := H1.size
  tm := fun m x hx => by
   simp only [look] at hx
   split at hx
   ·rename_i e
    subst e
    injection hx with hx
    subst hx
    refine ⟨?_, hsame.holds⟩
    rw [hpn, hyv.1]
    have h1 : y'.val = y'.val1 := by
     have := hsame.cell
     cases y' <;> first | rfl | simp [TA.isCell] at this
    have h2 : y.val = y.val1 := by
     have := sl_isCell he
     cases y <;> first | rfl | simp [TA.isCell] at this
    rw [h1, h2, hsame.val]
   obtain ⟨e, h1, h2, h3⟩ := hlook m x hx
   rw [h3, ← h2]
   exact (hpick e h1).2.1 _
  bx := fun m x hx => by simp [look] at hx
  uniq := fun k => by rw [hcnt]; exact Nat.le_trans (hle k) (H.uniq k)
  notZ := fun k hk => H.notZ k (by rw [hcnt] at hk; exact Nat.lt_of_lt_of_le hk (hle k))
  lt := fun k hk => Nat.lt_of_lt_of_le (H.lt k (by rw [hcnt] at hk; exact Nat.lt_of_lt_of_le hk (hle k))) H1.grown
  zlt := fun k hk => Nat.lt_of_lt_of_le (H.zlt k hk) H1.grown
  own := fun k hk => H.own k (by rw [hcnt] at hk; exact Nat.lt_of_lt_of_le hk (hle k))
  z0 := H.z0
  zext := H.zext
  os := H1.os.trans H.os
  tape := H1.tape.trans H.tape
  output := H1.output.trans H.output
  grown := Nat.le_trans H.grown H1.grown
  kept := fun k hk hf => (H1.kept k (Nat.lt_of_lt_of_le hk H.grown) (fun h0 => by
   have h0 : 0 < (expA C s n y).cnt k := h0
   have h1 := hcE k
   have h2 := hc2 k
   have h4 := tot_bxA k _ _ C.N hrow
   rcases H.own k (by omega) with h | h
   ·exact hf h
   omega)).trans (H.kept k hk hf)
  part := fun x hx => by rw [hPB] at hx; cases hx
  pbx := fun x hx => by rw [hPB] at hx; cases hx
  pbo := fun x hx => by rw [hPB] at hx; cases hx
  pbi := fun x hx => by rw [hPB] at hx; cases hx
  hand := trivial
  pbh := fun x hx => by rw [hPB] at hx; cases hx
  pk := fun x hx => by
   obtain ⟨_, cs, h1, _⟩ := H.pk x hx
   rw [hb] at h1
   simp [look] at h1 }
end Go.OM
namespace Go.OM
variable {C : Ctx} {Z Z' : Nat → Prop} {s : StA} {a : Act} {w w' : World} {E : Env} {o : Oper} {σ σ' : St} {S : Exit → St → Prop} {c d : Code}
theorem flatten_inj {α : Type} : ∀ {ts us : List (List α)}, ts.flatten = us.flatten → ts.map List.length = us.map List.length → ts = us
 | [], [], _, _ => rfl
 | [], _ :: _, _, h => by simp at h
 | _ :: _, [], _, h => by simp at h
 | t :: ts, u :: us, h1, h2 => by
  simp only [List.map_cons, List.cons.injEq] at h2
  simp only [List.flatten_cons] at h1
  have := List.append_inj h1 h2.1
  rw [this.1, flatten_inj this.2 h2.2]
def RowsPost (N n : Nat) (pins : List Nat) (σ : St) (ts : List (List (List Bool))) (S : Exit → St → Prop) (e : Exit) (τ : St) : Prop :=
 ∃ (ts' : List (List (List Bool))) (l : List (Nat × AV)), τ.bx = bxR N ts'.flatten ∧ ts'.map List.length = ts.map List.length ∧ ts'.flatten.map List.length = ts.flatten.map List.length ∧
  (∀ e ∈ l, (∃ v, e.2 = .t (.v v) ∧ look τ.tm e.1 = some e.2) ∨ ((∀ v, e.2 ≠ .t (.v v)) ∧ look σ.tm e.1 = some e.2 ∧ ((∃ t, e.2 = .t t ∧ t.hasOwn = false) ∨ ∃ cs o, e.2 = .rop cs o) ∧ e.1 ∈ pins)) ∧ S e ⟨(n, .t (eT3 ts')) :: l, []⟩
theorem M.rows {n : Nat} {ts : List (List (List Bool))} (pins : List Nat) (hb : σ.bx = []) (hn : look σ.tm n = some (.t (eT3 ts))) (hall : ∀ e ∈ σ.tm, (∃ t, e.2 = .t t) ∨ ∃ cs o, e.2 = .rop cs o) (hPB : C.PB = []) (hpin : C.pin = []) (hnp : n ∈ pins)
  (h : ∀ (C' : Ctx) (H : Nat → Value), C'.N = C.N → C'.pin.map Prod.fst = pins → (∀ p r, ts.flatten[p]? = some r → r ≠ [] → ∃ b off cap, H p = .slice (some ⟨b, off, none⟩) r.length cap ∧ (C.N + p, b, off, r.length) ∈ C'.PK) → (∀ p, p < ts.flatten.length → TA.OneCell (H p)) →
   M E C' c (RowsPost C.N n pins σ ts S) ⟨put σ.tm n (.t (.sl false 1 (hdT H 0 ts))), bxR C.N ts.flatten⟩) : M E C c S σ := fun a w HH => by
 obtain ⟨⟨s, Z, h1, h2, H⟩, hP⟩ := HH
 subst h1
 have hlk : ∃ y, look s.tm n = some (.t y) ∧ y.er = eT3 ts := by
  rw [look_er] at hn
  obtain ⟨xA, g1, g2⟩ := Option.map_eq_some_iff.1 hn
  obtain ⟨y, rfl, hy⟩ := er_t g2
  exact ⟨y, g1, hy⟩
 obtain ⟨y, hy, he⟩ := hlk
 have hb' : s.bx = [] := by
  have : (s.bx.map fun e => (e.1, TA.erL e.2.cs)) = [] := hb
  simpa using this
 have hs : ∀ m x, look s.tm m = some x → (∃ t, x = .t t) ∨ ∃ b off cs o, x = .rop b off cs o := fun m x hx => by
  have hm : (m, x) ∈ s.tm := by
   clear hy hn hall h H hP hb
   revert hx
   generalize s.tm = l
   induction l with
   | nil => intro h; simp [look] at h
   | cons e l ih =>
    intro h
    obtain ⟨k, z⟩ := e
    simp only [look] at h
    split at h
    ·rename_i e; injection h with h; subst h; subst e; simp
    exact List.mem_cons_of_mem _ (ih h)
  rcases hall (m, x.er) (List.mem_map.2 ⟨_, hm, rfl⟩) with ⟨t, ht⟩ | ⟨cs, o, ht⟩
  ·obtain ⟨z, hz, _⟩ := er_t ht
   exact .inl ⟨z, hz⟩
  obtain ⟨b, off, csA, hz, _⟩ := er_rop ht
  exact .inr ⟨b, off, csA, o, hz⟩
 have hE := explode_ok (pins.map fun m => (m, a.tmps.getD m undef)) H hy he hb' h2 hs
 have hrow := er_rows2 he
 have hyv := H.tm n _ hy
 have hst : (expA C s n y).er = ⟨put s.er.tm n (.t (.sl false 1 (hdT (hdOf (rows2 y)) 0 ts))), bxR C.N ts.flatten⟩ := by
  have e1 : (put s.tm n (.t (sp2 y))).map (fun e => (e.1, e.2.er)) = put s.er.tm n (.t (.sl false 1 (hdT (hdOf (rows2 y)) 0 ts))) := by
   rw [put_map AVA.er]
   show put s.er.tm n (.t (sp2 y).er) = _
   rw [er_sp2 he]
  show St.mk ((put s.tm n (.t (sp2 y))).map fun e => (e.1, e.2.er)) ((bxA C.N (rows2 y)).map fun e => (e.1, TA.erL e.2.cs)) = _
  rw [e1, er_bxA _ _ _ hrow]
 have hG : GC E (ctxR C (pins.map fun m => (m, a.tmps.getD m undef)) w Z (expA C s n y) y) := by
  have hg := hP.2.now H
  refine ⟨fun g hg' => ⟨.inl (hg g hg').1, (hg g hg').2⟩, fun g hg' h0 => ?_⟩
  have h0 : 0 < (expA C s n y).cnt g.1 := h0
  exact hE.notZ g.1 h0 (.inl (hg g hg').1)
 have hrun := h (ctxR C (pins.map fun m => (m, a.tmps.getD m undef)) w Z (expA C s n y) y) (hdOf (rows2 y)) rfl (by simp only [ctxR, List.map_map, Function.comp_def]; exact List.map_id' _) (fun p r hp hr => by
   have h5 := congrArg (fun l => l[p]?) hrow
   simp only [TA.erL_map, List.getElem?_map, hp, Option.map_some] at h5
   obtain ⟨x, h6, h7⟩ := Option.map_eq_some_iff.1 h5
   rcases er_sl h7 with ⟨A, rfl, h8⟩ | ⟨b, off, cap, es, rfl, h8⟩
   ·exact absurd (by simpa using h8) hr
   ·cases es with
    | nil => exact absurd (by simpa [TA.erL] using h8) hr
    | cons e es =>
     have hl : (e :: es).length = r.length := by
      have := congrArg List.length h8
      rw [TA.er_len, List.length_map] at this; exact this
     refine ⟨b, off, cap, ?_, ?_⟩
     ·simp only [hdOf, h6, Option.map_some, Option.getD_some, TA.val1, hl]
     exact List.mem_map.2 ⟨_, bxA_at _ C.N p _ _ _ _ _ _ _ h6, by simp only [hl]⟩) (fun p hp => by
   have hlt : p < (rows2 y).length := by rw [tl_len hrow]; exact hp
   have hH := holds_rows he hyv.2
   simp only [hdOf, List.getElem?_eq_getElem hlt, Option.map_some, Option.getD_some]
   exact TA.oneCell_val1 (rows_cell hrow _ (List.getElem_mem hlt)) (TA.holdsL_iff.1 hH _ (List.getElem_mem hlt))) a w
  ⟨⟨_, _, hst, rfl, hE⟩, fun x hx => by
   obtain ⟨m, _, rfl⟩ := List.mem_map.1 hx
   rfl, hG⟩
 refine Code.wp_mono (fun e a1 w1 ⟨τ, ⟨ts', l, p1, p2, p3, p4, p5⟩, ⟨s1, Z1, q1, q2, H1⟩, q3⟩ => ?_) hrun
 subst q1
 have hpn : ∀ m ∈ pins, a1.tmps.getD m undef = a.tmps.getD m undef := fun m hm => q3.1 (m, a.tmps.getD m undef) (List.mem_map.2 ⟨m, hm, rfl⟩)
 obtain ⟨ts1, r1, r2, r3⟩ := implode_ok (l := l) H hy he hb' h2 hPB H1 p1 p3 (hpn n hnp) (fun e hm => by
  rcases p4 e hm with h | ⟨h1, h2, h3, h4⟩
  ·exact .inl h
  exact .inr ⟨h1, h2, h3, hpn _ h4⟩)
 have : ts1 = ts' := flatten_inj r1 (by rw [r2, p2])
 subst this
 exact ⟨_, p5, r3, show PinOk E C a1 from ⟨fun x hx => (by rw [hpin] at hx; cases hx), hP.2⟩⟩
theorem wanted_ok {ps : Array Oper} (H : SOk C σ a w) (hw : σ.wants ps.toList o = some true) : Region.wanted o (yielded ps a.tmps) = true := by
 unfold St.wants at hw
 split at hw
 ·rename_i hg; simp [Region.wanted, hg]
 rename_i j want hg
 split at hw
 ·cases hw
 obtain ⟨b, hb, hb2⟩ := Option.map_eq_some_iff.1 hw
 simp only [Region.wanted, hg, gives_ok H hb]
 simpa using hb2
theorem V_rawIdx {ops os : List Oper} {K : St → Prop} {t : TypeId} {x i : Operand} {b off len cap k : Nat} {kk : IntKind} {m : Int} (ho : o.op = .indexAddr t x i) (hgd : σ.wants ops o = some true) (hsz : elemSize E t = some 1) (hx : σ.sc x = some (.slice (some ⟨b, off, none⟩) len cap)) (hi : σ.sc i = some (.int kk m))
  (h0 : 0 ≤ m) (h1 : m < len) (hk : (k, b, off, len) ∈ C.PK) (h : optK (VL E C ops os K) (σ.put? C.N o.dst (.ref (.box k) m.toNat []))) : VL E C ops (o :: os) K σ := by
 unfold optK at h
 split at h
 case h_2 => exact h.elim
 rename_i σ1 hσ1
 intro ps Q a w hps hp H hQ
 subst hps
 simp only [pinB, List.all_cons, Bool.and_eq_true] at hp
 have hput : ∀ b : Act, b.tmps = a.tmps → ∀ v, PinOk E C (b.put o.dst v) := fun b hb v => PinOk.put (a := b) ⟨fun x hx => by rw [hb]; exact H.2.1 x hx, H.2.2⟩ hp.1
 unfold wpList
 rw [if_pos (wanted_ok H.1 hgd)]
 left
 obtain ⟨s, Z, q1, q2, q3⟩ := id H.1
 subst q1
 obtain ⟨e, ti, ht, hti, hs1⟩ := elemSize_ok hsz
 obtain ⟨v1, _⟩ := sc_val q3 hx
 obtain ⟨v2, _⟩ := sc_val q3 hi
 refine opwp_mono ?_ (wp_pin hput (wp_value (E := E) (K := fun a' w' => SOk C σ1 a' w') (v := .pointer (some ⟨b, off + m.toNat, none⟩)) (w' := w) (by
  have := run_indexAt (E := E) (w := w) (k := kk) (b := b) (off := off) (cap := cap) ht hti h0 h1
  rw [hs1, Nat.mul_one] at this
  simp only [execOp, ho, v1, v2, Sem.run_bind, this, Result.andThen_ok]; rfl) (SOk.put0 q3 rfl hσ1 (xA := .ref (.box k) m.toNat []) rfl (by
   obtain ⟨_, cs, g1, g2⟩ := q3.pk _ hk
   exact ⟨some (b, off), cs, (b, off + m.toNat), by simp only at g1; simp [StA.rootCells, g1], by simp [TA.addrP], rfl⟩) fun _ => rfl)))
 exact fun a' w' hh => h ps Q a' w' rfl hp.2 hh hQ
end Go.OM
namespace Go.OM
variable {C : Ctx} {Z Z' : Nat → Prop} {s : StA} {a : Act} {w w' : World} {E : Env} {o : Oper} {σ σ' : St} {S : Exit → St → Prop} {c d : Code}
def Conv (E : Env) (C : Ctx) (σ τ : St) : Prop := ∀ a w, SOk2 E C σ a w → SOk2 E C τ a w
theorem Conv.refl : Conv E C σ σ := fun _ _ h => h
theorem M.conv {τ : St} (h : Conv E C σ τ) (k : M E C c S τ) : M E C c S σ := fun a w H => k a w (h a w H)
theorem M.loopJ {α ρ : Type} (inv : α → St) (J : α → Prop) (f : α → Option (α ⊕ ρ)) (out : ρ) (g : α) (hg : loopP f g = some out) (hJ : J g) (hk : Conv E C σ (inv g))
  (h : ∀ (g : α) (s : α ⊕ ρ), J g → f g = some s → (∀ o, s = .inr o → o = out) → M E C c (thenS (fun σ' => ∃ g', s = .inl g' ∧ J g' ∧ Conv E C σ' (inv g')) S) (inv g)) : M E C (.loop c) S σ := by
 intro a w H
 have H' := hk a w H
 obtain ⟨n, hn⟩ := loopP_some.1 hg
 refine wp_loop_ghost (fun n a w => ∃ g, J g ∧ iterP f n g = some out ∧ SOk2 E C (inv g) a w) n ⟨g, hJ, hn, H'⟩ ?_
 intro n a w ⟨g, hJ, hn, H⟩
 cases n with
 | zero => simp [iterP] at hn
 | succ n =>
  simp only [iterP] at hn
  cases hf : f g with
  | none => rw [hf] at hn; cases hn
  | some s =>
   rw [hf] at hn
   refine Code.wp_mono (fun e a w' ⟨σ', h1, h2⟩ => ?_) (h g s hJ hf (fun o ho => by subst ho; simpa using hn) a w H)
   cases e with
   | normal =>
    obtain ⟨g', rfl, hJ', h3⟩ := h1
    exact ⟨n, Nat.lt_succ_self n, g', hJ', hn, h3 a w' h2⟩
   | _ => exact ⟨σ', h1, h2⟩
theorem M.seqJ {β : Type} (inv : β → St) (J : β → Prop) (hrest : ∀ v, J v → M E C d S (inv v)) (h : ∀ K : St → Prop, (∀ σ' v, J v → Conv E C σ' (inv v) → K σ') → M E C c (thenS K S) σ) : M E C (.seq c d) S σ :=
 M.seq (h _ fun σ' v hv hc => M.conv hc (hrest v hv))
theorem bxR_keys : ∀ (rs : List (List Bool)) (k : Nat), (∀ e ∈ bxR k rs, k ≤ e.1) ∧ ((bxR k rs).map Prod.fst).Nodup
 | [], k => ⟨fun e h => by simp [bxR] at h, by simp [bxR]⟩
 | [] :: rs, k => by
  obtain ⟨h1, h2⟩ := bxR_keys rs (k + 1)
  exact ⟨fun e h => by have := h1 e (by simpa [bxR] using h); omega, by simpa [bxR] using h2⟩
 | (x :: xs) :: rs, k => by
  obtain ⟨h1, h2⟩ := bxR_keys rs (k + 1)
  refine ⟨fun e h => ?_, ?_⟩
  ·simp only [bxR, List.mem_cons] at h
   rcases h with rfl | h
   ·exact Nat.le_refl _
   have := h1 e h; omega
  simp only [bxR, List.map_cons, List.nodup_cons]
  refine ⟨fun h => ?_, h2⟩
  obtain ⟨e, he, h3⟩ := List.mem_map.1 h
  have := h1 e he
  omega
theorem filterMap_look {α : Type} : ∀ (l : List (Nat × α)), (l.map Prod.fst).Nodup → (l.map Prod.fst).filterMap (fun n => (look l n).map fun x => (n, x)) = l
 | [], _ => rfl
 | (k, x) :: l, h => by
  simp only [List.map_cons, List.nodup_cons] at h
  have ih := filterMap_look l h.2
  have h1 : ∀ n ∈ l.map Prod.fst, (look ((k, x) :: l) n).map (fun y => (n, y)) = (look l n).map fun y => (n, y) := fun n hn => by
   simp only [look]
   rw [if_neg (fun e => h.1 (by rw [e]; exact hn))]
  simp only [List.map_cons, List.filterMap_cons, look, if_true, Option.map_some]
  have h2 : ∀ (ns : List Nat), (∀ n ∈ ns, n ∈ l.map Prod.fst) → ns.filterMap (fun n => (look ((k, x) :: l) n).map fun y => (n, y)) = ns.filterMap (fun n => (look l n).map fun y => (n, y)) := fun ns => by
   induction ns with
   | nil => intro _; rfl
   | cons n ns ihn =>
    intro hn
    rw [List.filterMap_cons, List.filterMap_cons, h1 n (hn n (by simp)), ihn fun m hm => hn m (by simp [hm])]
  have h3 := h2 (l.map Prod.fst) fun _ h => h
  simp only [look] at h3
  rw [h3, ih]
def flatAV : AV → Bool
 | .t _ => true
 | .rop _ _ => true
 | .u => true
 | _ => false
theorem Conv.rows {tm tm' : List (Nat × AV)} {rs : List (List Bool)} {k : Nat} (ks : List Nat) (hks : ks.Nodup) (h : ks.map (fun n => (n, (look tm n).getD .u)) = tm') (ht : tm'.all (fun e => flatAV e.2) = true) : Conv E C ⟨tm, bxR k rs⟩ ⟨tm', bxR k rs⟩ := fun a w H => by
 have hk : (⟨tm, bxR k rs⟩ : St).keepOk C.N ks ((bxR k rs).map Prod.fst) = true := by
  simp only [St.keepOk, Bool.and_eq_true, decide_eq_true_eq, List.all_eq_true, Bool.or_eq_true]
  refine ⟨⟨hks, (bxR_keys rs k).2⟩, fun e he => .inr ?_⟩
  rw [List.contains_iff_mem]
  exact List.mem_map.2 ⟨e, he, rfl⟩
 have h2 := H.1.keep (ks := ks) (kb := (bxR k rs).map Prod.fst) hk
 have e : (⟨tm, bxR k rs⟩ : St).keep ks ((bxR k rs).map Prod.fst) = ⟨tm', bxR k rs⟩ := by
  unfold St.keep
  rw [filterMap_look _ (bxR_keys rs k).2]
  congr 1
  rw [← h]
  refine List.map_congr_left fun n hn => ?_
  have h5 : flatAV ((look tm n).getD .u) = true := List.all_eq_true.1 ht (n, (look tm n).getD .u) (by rw [← h]; exact List.mem_map.2 ⟨n, hn, rfl⟩)
  show (n, ((look tm n).getD .u).keep _ _) = _
  generalize (look tm n).getD .u = x at h5 ⊢
  cases x <;> first | rfl | simp [flatAV] at h5
 rw [e] at h2
 exact ⟨h2, H.2⟩
theorem V_keep {ops os : List Oper} {K : St → Prop} (h : Conv E C σ σ') (h2 : VL E C ops os K σ') : VL E C ops os K σ := V_conv h h2
def oneTy (E : Env) (t : TypeId) : Prop := ∃ ti, E.ty t = some ti ∧ ti.size = 1 ∧ ti.kk = none
theorem take_one {r : List Bool} {m : Nat} {b : Bool} (h : r[m]? = some b) : T.getP (r.map vbo) m [] 1 = some [vbo b] := by
 obtain ⟨h1, h2⟩ := List.getElem?_eq_some_iff.1 h
 simp only [T.getP, List.length_map]
 rw [if_pos (by omega)]
 congr 1
 apply List.ext_getElem?
 intro j
 rw [List.getElem?_take, List.getElem?_drop, List.getElem?_map]
 cases j with
 | zero => simp [h]
 | succ j => simp
theorem set_one {r : List Bool} {m : Nat} {b : Bool} (h : m < r.length) : T.setP (r.map vbo) m [] [vbo b] = (r.set m b).map vbo := by
 simp only [T.setP, List.length_cons, List.length_nil]
 rw [List.map_set, ← List.map_take, ← List.map_drop]
 rw [List.set_eq_take_append_cons_drop]
 rw [if_pos (by simpa using h)]
 simp
theorem V_rowLoad {ops os : List Oper} {K : St → Prop} {t : TypeId} {x : Operand} {k m : Nat} {r : List Bool} {b : Bool} (ho : o.op = .load t x) (hgd : σ.wants ops o = some true) (ht : oneTy E t) (hx : σ.opr x = .ref (.box k) m []) (hk : look σ.bx k = some (r.map vbo)) (hm : r[m]? = some b)
  (h : optK (VL E C ops os K) (σ.put? C.N o.dst (.t (vbo b)))) : VL E C ops (o :: os) K σ := by
 obtain ⟨ti, t1, t2, t3⟩ := ht
 refine V_cons (by unfold callOf; rw [ho]) fun K' hK' => ?_
 unfold optK at h
 split at h
 case h_2 => exact h.elim
 rename_i σ1 hσ1
 have e : σ.op1 E C.N o = some σ1 := by
  unfold St.op1
  rw [ho]
  simp only [stLoad, t1, Option.bind_some, hx, St.rootCells, hk, t2, take_one hm, T.hasOwnL, T.hasOwn, Bool.or_false, Bool.false_eq_true, if_false, t3, mkT, List.headD_cons, hσ1]
 unfold St.stepK
 rw [hgd]
 exact ⟨σ1, e, hK' _ h⟩
theorem V_rowStore {ops os : List Oper} {K : St → Prop} {t : TypeId} {x y : Operand} {k m : Nat} {r : List Bool} {b : Bool} (ho : o.op = .store t x y) (hgd : σ.wants ops o = some true) (hd : o.dst = none) (ht : oneTy E t) (hx : σ.op x = .ref (.box k) m []) (hk : look σ.bx k = some (r.map vbo)) (hm : m < r.length) (hy : σ.takeN E C.N t y = some (vbo b, σ))
  (h : VL E C ops os K ⟨σ.tm.map fun e => (e.1, e.2.killK false (.box k)), put σ.bx k ((r.set m b).map vbo)⟩) : VL E C ops (o :: os) K σ := by
 obtain ⟨ti, t1, t2, t3⟩ := ht
 refine V_cons (by unfold callOf; rw [ho]) fun K' hK' => ?_
 have e : σ.op1 E C.N o = some ⟨σ.tm.map fun e => (e.1, e.2.killK false (.box k)), put σ.bx k ((r.set m b).map vbo)⟩ := by
  unfold St.op1
  rw [ho, hd]
  obtain ⟨b0, hb0⟩ : ∃ b0, r[m]? = some b0 := ⟨_, List.getElem?_eq_getElem hm⟩
  simp only [stStore, t1, Option.bind_some, hy, hx, St.rootCells, hk, t2, take_one hb0, T.cells, List.length_cons, List.length_nil]
  simp only [T.hasOwnL, T.hasOwn, St.setRoot, hk, set_one hm, List.length_nil, Bool.or_false, Bool.or_self]
  simp
 unfold St.stepK
 rw [hgd]
 exact ⟨_, e, hK' _ h⟩
theorem hdT_len (H : Nat → Value) : ∀ (ts : List (List (List Bool))) (k : Nat), (hdT H k ts).length = ts.length
 | [], _ => rfl
 | t :: ts, k => by simp [hdT, hdT_len H ts]
theorem hdT_get (H : Nat → Value) : ∀ (ts : List (List (List Bool))) (k i : Nat) (t : List (List Bool)), ts[i]? = some t → (hdT H k ts)[i]? = some (.sl false 1 (hdR H (k + (ts.take i).flatten.length) t.length))
 | [], k, i, t, h => by simp at h
 | u :: ts, k, 0, t, h => by
  simp only [List.getElem?_cons_zero, Option.some.injEq] at h
  subst h
  simp [hdT]
 | u :: ts, k, i + 1, t, h => by
  have := hdT_get H ts (k + u.length) i t (by simpa using h)
  simp only [hdT, List.getElem?_cons_succ, this, List.take_succ_cons, List.flatten_cons, List.length_append, Nat.add_assoc]
@[simp] theorem hdT_own (H : Nat → Value) : ∀ (ts : List (List (List Bool))) (k : Nat), T.hasOwnL (hdT H k ts) = false
 | [], _ => rfl
 | t :: ts, k => by
  have : T.hasOwnL (hdR H k t.length) = false := by
   unfold hdR
   generalize List.range' k t.length = l
   induction l with
   | nil => rfl
   | cons e l ih => simp [T.hasOwnL, T.hasOwn] at ih ⊢; exact ih
  simp [hdT, T.hasOwnL, T.hasOwn, hdT_own H ts, this]
def shp (ts : List (List (List Bool))) : List (List Nat) := ts.map (List.map List.length)
theorem shp_len {ts us : List (List (List Bool))} (h : shp ts = shp us) : ts.map List.length = us.map List.length := by
 have := congrArg (List.map List.length) h
 simpa [shp, Function.comp_def] using this
theorem shp_flat {ts us : List (List (List Bool))} (h : shp ts = shp us) : ts.flatten.map List.length = us.flatten.map List.length := by
 have := congrArg List.flatten h
 simpa [shp, List.map_flatten] using this
theorem shp_take {ts us : List (List (List Bool))} (h : shp ts = shp us) (i : Nat) : (ts.take i).flatten.length = (us.take i).flatten.length := by
 have h1 : shp (ts.take i) = shp (us.take i) := by
  have := congrArg (List.take i) h
  simpa [shp, List.map_take] using this
 have := congrArg List.length (shp_flat h1)
 rwa [List.length_map, List.length_map] at this
theorem shp_get {ts us : List (List (List Bool))} (h : shp ts = shp us) {i : Nat} {t : List (List Bool)} (hi : ts[i]? = some t) : ∃ u, us[i]? = some u ∧ u.length = t.length := by
 have := congrArg (fun l => l[i]?) (shp_len h)
 simp only [List.getElem?_map, hi, Option.map_some] at this
 obtain ⟨u, h1, h2⟩ := Option.map_eq_some_iff.1 this.symm
 exact ⟨u, h1, h2⟩
theorem shp_set {ts : List (List (List Bool))} {i j : Nat} {t : List (List Bool)} {r r' : List Bool} (hi : ts[i]? = some t) (hj : t[j]? = some r) (hl : r'.length = r.length) : shp (ts.set i (t.set j r')) = shp ts := by
 unfold shp
 rw [List.map_set]
 have e1 : (t.set j r').map List.length = t.map List.length := by
  rw [List.map_set]
  apply List.ext_getElem?
  intro m
  rw [List.getElem?_set]
  split
  ·rename_i e
   subst e
   have hjl := (List.getElem?_eq_some_iff.1 hj).1
   simp [hjl, hj, hl]
   rw [List.getElem?_eq_getElem hjl] at hj
   simp at hj
   rw [hj]
  rfl
 rw [e1]
 apply List.ext_getElem?
 intro m
 rw [List.getElem?_set]
 split
 ·rename_i e
  subst e
  obtain ⟨hil, hi2⟩ := List.getElem?_eq_some_iff.1 hi
  simp [hil, hi2]
 rfl
def rowNo (ts : List (List (List Bool))) (i j : Nat) : Nat := (ts.take i).flatten.length + j
theorem row_at : ∀ {ts : List (List (List Bool))} {i j : Nat} {t : List (List Bool)} {r : List Bool}, ts[i]? = some t → t[j]? = some r → ts.flatten[rowNo ts i j]? = some r
 | [], i, j, t, r, hi, hj => by simp at hi
 | u :: ts, 0, j, t, r, hi, hj => by
  simp only [List.getElem?_cons_zero, Option.some.injEq] at hi
  subst hi
  have := (List.getElem?_eq_some_iff.1 hj).1
  simp only [rowNo, List.take_zero, List.flatten_nil, List.length_nil, Nat.zero_add, List.flatten_cons]
  rw [List.getElem?_append_left this]; exact hj
 | u :: ts, i + 1, j, t, r, hi, hj => by
  have ih := row_at (ts := ts) (i := i) (j := j) (by simpa using hi) hj
  simp only [rowNo, List.take_succ_cons, List.flatten_cons, List.length_append] at ih ⊢
  rw [List.getElem?_append_right (by omega), show u.length + (ts.take i).flatten.length + j - u.length = (ts.take i).flatten.length + j by omega]
  exact ih
theorem row_set : ∀ {ts : List (List (List Bool))} {i j : Nat} {t : List (List Bool)} {r r' : List Bool}, ts[i]? = some t → t[j]? = some r → (ts.set i (t.set j r')).flatten = ts.flatten.set (rowNo ts i j) r'
 | [], i, j, t, r, r', hi, hj => by simp at hi
 | u :: ts, 0, j, t, r, r', hi, hj => by
  simp only [List.getElem?_cons_zero, Option.some.injEq] at hi
  subst hi
  have := (List.getElem?_eq_some_iff.1 hj).1
  simp only [rowNo, List.take_zero, List.flatten_nil, List.length_nil, Nat.zero_add, List.flatten_cons, List.set_cons_zero]
  rw [List.set_append_left _ _ this]
 | u :: ts, i + 1, j, t, r, r', hi, hj => by
  have ih := row_set (ts := ts) (i := i) (j := j) (r' := r') (by simpa using hi) hj
  simp only [rowNo, List.take_succ_cons, List.flatten_cons, List.length_append, List.set_cons_succ] at ih ⊢
  rw [ih, List.set_append_right _ _ (by omega), show u.length + (ts.take i).flatten.length + j - u.length = (ts.take i).flatten.length + j by omega]
end Go.OM
