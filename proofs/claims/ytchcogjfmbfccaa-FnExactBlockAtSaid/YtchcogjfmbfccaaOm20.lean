import Derived.Test.YtchcogjfmbfccaaOm19
set_option linter.unusedVariables false
set_option linter.unusedSimpArgs false
namespace Go.OM
variable {C : Ctx} {Z Z' : Nat → Prop} {s : StA} {a : Act} {w w' : World} {E : Env} {o : Oper} {σ σ' : St} {K : Act → World → Prop} {Q : Exit → Act → World → Prop}

theorem look_look_le {α : Type} (f : α → Nat) : ∀ (l : List (Nat × α)) {n m : Nat} {x y : α}, n ≠ m → look l n = some x → look l m = some y → f x + f y ≤ tot f l
  | [], n, m, x, y, _, h, _ => by simp [look] at h
  | (k, z) :: l, n, m, x, y, hne, h1, h2 => by
    simp only [look] at h1 h2
    by_cases e1 : k = n
    · rw [if_pos e1] at h1
      injection h1 with h1
      subst h1
      rw [if_neg (fun e => hne (e1.symm.trans e))] at h2
      have : f y ≤ tot f l := look_le_tot f h2
      simp only [tot]; omega
    · rw [if_neg e1] at h1
      by_cases e2 : k = m
      · rw [if_pos e2] at h2
        injection h2 with h2
        subst h2
        have : f x ≤ tot f l := look_le_tot f h1
        simp only [tot]; omega
      · rw [if_neg e2] at h2
        have := look_look_le f l hne h1 h2
        simp only [tot]; omega
/-- What a root owns. -/
def StA.rc (s : StA) (r : Root) (k : Nat) : Nat := match s.rootCells r with
  | some (base, cs) => bcnt base k + TA.cntL k cs
  | none => 0
def StA.own (s : StA) (k : Nat) : Nat := tot (AVA.cnt k) s.tm + tot (BoxA.cnt k) s.bx
theorem rc_slot {n : Nat} {x : TA} (k : Nat) (h : look s.tm n = some (.t x)) : s.rc (.slot n) k = x.cnt k := by
  simp [StA.rc, StA.rootCells, h, bcnt, TA.cntL_cells]
theorem rc_box {n : Nat} {x : BoxA} (k : Nat) (h : look s.bx n = some x) : s.rc (.box n) k = x.cnt k := by
  simp [StA.rc, StA.rootCells, h, bcnt, BoxA.cnt]
theorem rc_le (s : StA) (r : Root) (k : Nat) : s.rc r k ≤ s.own k := by
  cases r with
  | slot n =>
    cases h : look s.tm n with
    | none => simp [StA.rc, StA.rootCells, h]
    | some x =>
      cases x with
      | t x =>
        have : AVA.cnt k (.t x) ≤ tot (AVA.cnt k) s.tm := look_le_tot (AVA.cnt k) h
        rw [rc_slot k h]; simp only [AVA.cnt] at this; unfold StA.own; omega
      | _ => simp [StA.rc, StA.rootCells, h]
  | box n =>
    cases h : look s.bx n with
    | none => simp [StA.rc, StA.rootCells, h]
    | some x =>
      have : BoxA.cnt k x ≤ tot (BoxA.cnt k) s.bx := look_le_tot (BoxA.cnt k) h
      rw [rc_box k h]; unfold StA.own; omega
theorem rc_rc (s : StA) {r r' : Root} (hne : r ≠ r') (k : Nat) : s.rc r k + s.rc r' k ≤ s.own k := by
  have hz : ∀ (r : Root), s.rc r k = 0 ∨ (∃ n x, r = .slot n ∧ look s.tm n = some (.t x)) ∨ (∃ n x, r = .box n ∧ look s.bx n = some x) := by
    intro r
    cases r with
    | slot n =>
      cases h : look s.tm n with
      | none => left; simp [StA.rc, StA.rootCells, h]
      | some x =>
        cases x with
        | t x => exact .inr (.inl ⟨n, x, rfl, h⟩)
        | _ => left; simp [StA.rc, StA.rootCells, h]
    | box n =>
      cases h : look s.bx n with
      | none => left; simp [StA.rc, StA.rootCells, h]
      | some x => exact .inr (.inr ⟨n, x, rfl, h⟩)
  have h1 := rc_le s r k
  have h2 := rc_le s r' k
  rcases hz r with h | ⟨n, x, rfl, hx⟩ | ⟨n, x, rfl, hx⟩
  · omega
  · rcases hz r' with h | ⟨m, y, rfl, hy⟩ | ⟨m, y, rfl, hy⟩
    · omega
    · have : AVA.cnt k (.t x) + AVA.cnt k (.t y) ≤ tot (AVA.cnt k) s.tm := look_look_le (AVA.cnt k) s.tm (fun e => hne (by rw [e])) hx hy
      rw [rc_slot k hx, rc_slot k hy]; simp only [AVA.cnt] at this; unfold StA.own; omega
    · have t1 : AVA.cnt k (.t x) ≤ tot (AVA.cnt k) s.tm := look_le_tot (AVA.cnt k) hx
      have t2 : BoxA.cnt k y ≤ tot (BoxA.cnt k) s.bx := look_le_tot (BoxA.cnt k) hy
      rw [rc_slot k hx, rc_box k hy]; simp only [AVA.cnt] at t1; unfold StA.own; omega
  · rcases hz r' with h | ⟨m, y, rfl, hy⟩ | ⟨m, y, rfl, hy⟩
    · omega
    · have t1 : AVA.cnt k (.t y) ≤ tot (AVA.cnt k) s.tm := look_le_tot (AVA.cnt k) hy
      have t2 : BoxA.cnt k x ≤ tot (BoxA.cnt k) s.bx := look_le_tot (BoxA.cnt k) hx
      rw [rc_slot k hy, rc_box k hx]; simp only [AVA.cnt] at t1; unfold StA.own; omega
    · have : BoxA.cnt k x + BoxA.cnt k y ≤ tot (BoxA.cnt k) s.bx := look_look_le (BoxA.cnt k) s.bx (fun e => hne (by rw [e])) hx hy
      rw [rc_box k hx, rc_box k hy]; unfold StA.own; omega

/-! ### What is lent to be read -/
def St.view (rs : List Root) (σ : St) (x : Operand) : Option T := match σ.op x with
  | .t y => if y.hasOwn = true then (match x with | .tmp n => if rs.contains (.slot n) = false then some y.ro else none | _ => none) else some y
  | .al r o p k => if rs.contains r = false then (σ.rootCells r).bind fun cs => (T.getP cs o p (k.getD 1)).map fun l => (mkT k l).ro else none
  | _ => none
def Mode.isBor : Mode → Bool
  | .bor => true
  | _ => false
def St.lendB (rs : List Root) (σ : St) : List (Mode × Operand) → List (Option Arg) → Option (List Arg)
  | [], [] => some []
  | (.bor, x) :: ms, none :: as => (σ.view rs x).bind fun y => (St.lendB rs σ ms as).bind fun z => some (.val y :: z)
  | _ :: ms, some y :: as => (St.lendB rs σ ms as).bind fun z => some (y :: z)
  | _, _ => none
/-- What may be read in a call. -/
def zc (Z : Nat → Prop) (s : StA) (qs : List (Nat × Nat × Nat)) (k : Nat) : Prop := Z k ∨ (0 < s.own k ∧ ∀ q ∈ qs, q.1 ≠ k)
theorem plOk_rc {pl : Pl} {q : Nat × Nat} (h : plOk s pl q) : 0 < s.rc pl.1 q.1 := by
  obtain ⟨base, cs, l, h1, h2, h3, h4, h5⟩ := h
  simp only [StA.rc, h1]
  rcases TA.addr_range _ _ _ _ _ _ q.1 q.2 h2 h4 with ⟨o0, e, _⟩ | h
  · rw [e, bcnt_self]; omega
  · omega
theorem plsOk_mem : ∀ (pls : List Pl) (qs : List (Nat × Nat × Nat)), plsOk s pls qs → ∀ q ∈ qs, ∃ pl ∈ pls, plOk s pl (q.1, q.2.1) ∧ pl.2.2.2 = q.2.2
  | [], [], _, q, hq => by cases hq
  | [], _ :: _, h, _, _ => h.elim
  | _ :: _, [], h, _, _ => h.elim
  | pl :: pls, (b, off, n) :: qs, h, q, hq => by
    obtain ⟨h1, h2, h3, h4⟩ := h
    rcases List.mem_cons.1 hq with rfl | hq
    · exact ⟨pl, by simp, h1, h2⟩
    · obtain ⟨p, hp, h5⟩ := plsOk_mem pls qs h4 q hq
      exact ⟨p, by simp [hp], h5⟩
theorem root_zc {pls : List Pl} {qs : List (Nat × Nat × Nat)} {r : Root} {k : Nat} (H : SRel C Z s a w) (hp : plsOk s pls qs) (hr : (pls.map Prod.fst).contains r = false) (hk : 0 < s.rc r k) : zc Z s qs k := by
  refine .inr ⟨Nat.lt_of_lt_of_le hk (rc_le s r k), fun q hq e => ?_⟩
  obtain ⟨pl, hpl, h1, _⟩ := plsOk_mem _ _ hp q hq
  have h2 := plOk_rc h1
  have hne : pl.1 ≠ r := by
    intro e2
    have : (pls.map Prod.fst).contains r = true := by
      rw [List.contains_iff_mem]
      exact List.mem_map.2 ⟨pl, hpl, e2⟩
    rw [this] at hr; cases hr
  have h3 := rc_rc s hne k
  have h4 := H.uniq k
  rw [e] at h2
  simp only [StA.cnt] at h4
  unfold StA.own at h3
  omega
theorem mkT_ro (k : Option Nat) (l : List TA) : (mkTA k l).ro.er = (mkT k (TA.erL l)).ro := by
  rw [TA.er_ro, er_mkTA]
theorem view_ok {pls : List Pl} {qs : List (Nat × Nat × Nat)} {x : Operand} {y : T} (H : SRel C Z s a w) (hp : plsOk s pls qs) (h : s.er.view (pls.map Prod.fst) x = some y) :
    ∃ yA : TA, yA.er = y ∧ a.eval x = yA.val ∧ yA.Holds (zc Z s qs) w.heap ∧ ∀ k, yA.cnt k = 0 := by
  unfold St.view at h
  obtain ⟨xA, e1, e2⟩ := opA H x
  split at h
  · rename_i z hz
    rw [hz] at e1
    obtain ⟨yA, rfl, rfl⟩ := er_t e1
    split at h
    · split at h
      case h_2 => cases h
      rename_i n
      split at h
      case isFalse => cases h
      rename_i hown hr
      injection h with h
      subst h
      simp only [St.op, St.get, look_er] at hz
      cases hlk : look s.tm n with
      | none => rw [hlk] at hz; simp at hz
      | some q =>
        rw [hlk] at hz
        simp only [Option.map_some, Option.getD_some] at hz
        obtain ⟨z', rfl, hz'⟩ := er_t hz
        have hv := H.tm n _ hlk
        refine ⟨z'.ro, by rw [TA.er_ro, hz'], by rw [TA.val_ro]; exact hv.1, TA.Holds.ro z' hv.2 (fun _ h => .inl h) (fun k hk => root_zc H hp hr (by rw [rc_slot k hlk]; exact hk)), fun k => TA.cnt_ro k _⟩
    · rename_i hno
      injection h with h
      subst h
      have hc : ∀ k, yA.cnt k = 0 := fun k => TA.cnt_of_noOwn k yA (by simpa using hno)
      exact ⟨yA, rfl, e2.1, TA.Holds.frame yA e2.2 (fun _ h => .inl h) (fun _ _ => rfl), hc⟩
  · rename_i r p q k hz
    rw [hz] at e1
    rw [er_al e1] at e2
    split at h
    case isFalse => cases h
    rename_i hr
    obtain ⟨csT, hcs, h⟩ := Option.bind_eq_some_iff.1 h
    obtain ⟨lT, hl, rfl⟩ := Option.map_eq_some_iff.1 h
    obtain ⟨base, cs, l, g1, g2, g3, g4⟩ := e2
    rw [StA.er_rootCells, g1] at hcs
    simp only [Option.map_some, Option.some.injEq] at hcs
    subst hcs
    obtain ⟨l', t1, t2⟩ := TA.er_get _ _ _ _ _ hl
    rw [g2] at t1
    injection t1 with t1
    subst t1
    subst t2
    obtain ⟨h1, h2, h3, h4⟩ := root_holds H g1
    obtain ⟨m1, m2⟩ := getP_holds q _ _ _ _ g2 h1 h2
    have hlen : k = none → l.length = 1 := fun hk => by rw [TA.getP_length _ _ _ _ _ g2, hk]; rfl
    obtain ⟨b1, b2, b3, b4⟩ := bury_map_holds m1 m2
    obtain ⟨r1, r2, r3, r4, r5⟩ := TA.swap_place q cs p _ l (l.map TA.bury) g2 (by rw [List.length_map]; exact TA.getP_length _ _ _ _ _ g2) b3 h1 h2 b1 b2
    refine ⟨(mkTA k l).ro, mkT_ro k l, by rw [TA.val_ro, mkTA_val hlen m2]; exact g4, TA.Holds.ro _ (mkTA_holds hlen m2 m1) (fun _ h => .inl h) (fun j hj => root_zc H hp hr ?_), fun j => TA.cnt_ro j _⟩
    rw [mkTA_cnt j hlen] at hj
    have := r5 j
    have := b4 j
    simp only [StA.rc, g1]
    omega
  · cases h
theorem lendB_ok {pls : List Pl} {qs : List (Nat × Nat × Nat)} (H : SRel C Z s a w) (hp : plsOk s pls qs) : ∀ (ms : List (Mode × Operand)) (asB : List (Option ArgA)) (args : List Arg), agree a ms asB → holdsO Z w.heap asB → s.er.lendB (pls.map Prod.fst) ms (asB.map (Option.map ArgA.er)) = some args →
    ∃ as : List ArgA, as.map ArgA.er = args ∧ ms.map (fun m => a.eval m.2) = as.map ArgA.value ∧ (∀ x ∈ as, x.Holds (zc Z s qs) w.heap) ∧ (∀ k, innL k as = innO k asB) ∧ (∀ k, pcL k as = pcO k asB) ∧ ptrs as = ptrsO asB ∧ ((ms.any fun m => m.1.isBor) = false → ∀ x ∈ as, x.Holds Z w.heap)
  | [], [], args, hag, hh, h => by
    simp only [List.map_nil, St.lendB, Option.some.injEq] at h
    subst h
    exact ⟨[], rfl, rfl, by simp, fun k => rfl, fun k => rfl, rfl, by simp⟩
  | (m, x) :: ms, [], args, hag, hh, h => hag.elim
  | [], y :: ys, args, hag, hh, h => by simp [agree] at hag
  | (m, x) :: ms, some y :: asB, args, hag, hh, h => by
    have h' : ∃ z, s.er.lendB (pls.map Prod.fst) ms (asB.map (Option.map ArgA.er)) = some z ∧ args = y.er :: z := by
      cases m <;>
      · simp only [List.map_cons, Option.map_some, St.lendB] at h
        obtain ⟨z, hz, h⟩ := Option.bind_eq_some_iff.1 h
        injection h with h
        exact ⟨z, hz, h.symm⟩
    obtain ⟨z, hz, rfl⟩ := h'
    obtain ⟨as, r1, r2, r3, r4, r5, r6, r7⟩ := lendB_ok H hp ms asB z hag.2 (fun q hq => hh q (by simp [hq])) hz
    have hy : y.Holds Z w.heap := hh y (by simp)
    have hy' : y.Holds (zc Z s qs) w.heap := by
      cases y with
      | val t => exact TA.Holds.frame t hy (fun _ h => .inl h) (fun _ _ => rfl)
      | ptr b off cs => exact ⟨hy.1, TA.HoldsL.frame cs hy.2.1 (fun _ h => .inl h) (fun _ _ => rfl), hy.2.2⟩
    refine ⟨y :: as, by simp [r1], by simp [r2, hag.1], ?_, fun k => by simp [innL, innO, r4], fun k => by simp [pcL, pcO, r5], by cases y <;> simp [ptrs, ptrsO, r6], fun hb => ?_⟩
    · intro q hq
      rcases List.mem_cons.1 hq with rfl | hq
      · exact hy'
      · exact r3 q hq
    · simp only [List.any_cons, Bool.or_eq_false_iff] at hb
      intro q hq
      rcases List.mem_cons.1 hq with rfl | hq
      · exact hy
      · exact r7 hb.2 q hq
  | (m, x) :: ms, none :: asB, args, hag, hh, h => by
    cases m with
    | take => simp [St.lendB] at h
    | ptr n => simp [St.lendB] at h
    | bor =>
      simp only [List.map_cons, Option.map_none, St.lendB] at h
      obtain ⟨y, hy, h⟩ := Option.bind_eq_some_iff.1 h
      obtain ⟨z, hz, h⟩ := Option.bind_eq_some_iff.1 h
      injection h with h
      subst h
      obtain ⟨yA, t1, t2, t3, t4⟩ := view_ok H hp hy
      obtain ⟨as, r1, r2, r3, r4, r5, r6, r7⟩ := lendB_ok H hp ms asB z hag (fun q hq => hh q (by simp [hq])) hz
      refine ⟨.val yA :: as, by simp [r1, ArgA.er, t1], by simp [r2, t2, ArgA.value], ?_, fun k => by simp [innL, innO, r4, ArgA.inn, t4], fun k => by simp [pcL, pcO, r5, ArgA.pc], by simp [ptrs, ptrsO, r6], fun hb => by simp [Mode.isBor] at hb⟩
      intro q hq
      rcases List.mem_cons.1 hq with rfl | hq
      · exact t3
      · exact r3 q hq
end Go.OM
