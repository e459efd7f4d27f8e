import Derived.Test.YtchcogjfmbfccaaOm18
set_option linter.unusedVariables false
set_option linter.unusedSimpArgs false
namespace Go.OM
variable {C : Ctx} {Z Z' : Nat → Prop} {s : StA} {a : Act} {w w' : World} {E : Env} {o : Oper} {σ σ' : St} {K : Act → World → Prop} {Q : Exit → Act → World → Prop}

/-! ### What is lent and handed over at a call -/
inductive Mode where
  | take
  | bor
  | ptr (k : Nat)
abbrev Pl := Root × Nat × Path × Nat
/-- What is handed over. -/
def St.lendT (N : Nat) : List (Mode × Operand) → St → Option (List (Option Arg) × St)
  | [], σ => some ([], σ)
  | (.take, x) :: ms, σ => (σ.take N x).bind fun y => (St.lendT N ms y.2).bind fun z => some (some (.val y.1) :: z.1, z.2)
  | (_, _) :: ms, σ => (St.lendT N ms σ).bind fun z => some (none :: z.1, z.2)
/-- What is lent to be changed. -/
def St.lendP : List (Mode × Operand) → List (Option Arg) → St → Option (List (Option Arg) × List Pl × St)
  | [], [], σ => some ([], [], σ)
  | (.ptr k, x) :: ms, none :: as, σ => (St.lendP ms as σ).bind fun z => match z.2.2.op x with
    | .ref r o p => (z.2.2.rootCells r).bind fun cs => (T.getP cs o p k).bind fun l =>
      if 0 < k ∧ (z.2.1.map Prod.fst).contains r = false then some (some (.ptr l) :: z.1, (r, o, p, k) :: z.2.1, z.2.2.setRoot true r (T.setP cs o p (l.map T.bury))) else none
    | _ => none
  | (_, _) :: ms, y :: as, σ => (St.lendP ms as σ).bind fun z => some (y :: z.1, z.2)
  | _, _, _ => none
def agree (a : Act) : List (Mode × Operand) → List (Option ArgA) → Prop
  | [], [] => True
  | (_, x) :: ms, some y :: as => a.eval x = y.value ∧ agree a ms as
  | (_, x) :: ms, none :: as => agree a ms as
  | _, _ => False
def innO (k : Nat) : List (Option ArgA) → Nat
  | [] => 0
  | some x :: xs => x.inn k + innO k xs
  | none :: xs => innO k xs
def pcO (k : Nat) : List (Option ArgA) → Nat
  | [] => 0
  | some x :: xs => x.pc k + pcO k xs
  | none :: xs => pcO k xs
def holdsO (Z : Nat → Prop) (h : Array Obj) (as : List (Option ArgA)) : Prop := ∀ x, some x ∈ as → x.Holds Z h
theorem lendT_ok : ∀ (ms : List (Mode × Operand)) (s : StA) (args : List (Option Arg)) (σ' : St), SRel C Z s a w → St.lendT C.N ms s.er = some (args, σ') →
    ∃ s' asA, asA.map (Option.map ArgA.er) = args ∧ s'.er = σ' ∧ SRel C Z s' a w ∧ (∀ k, TA.cntL k s'.hd = innO k asA + TA.cntL k s.hd) ∧ holdsO Z w.heap asA ∧ agree a ms asA ∧ (∀ k, pcO k asA = 0)
  | [], s, args, σ', H, h => by
    simp only [St.lendT, Option.some.injEq, Prod.mk.injEq] at h
    obtain ⟨rfl, rfl⟩ := h
    exact ⟨s, [], rfl, rfl, H, (fun k => by simp [innO]), (by intro x hx; simp at hx), trivial, fun k => rfl⟩
  | (.take, x) :: ms, s, args, σ', H, h => by
    simp only [St.lendT] at h
    obtain ⟨⟨y, σ1⟩, ht, h⟩ := Option.bind_eq_some_iff.1 h
    obtain ⟨⟨as, σ2⟩, hr, h⟩ := Option.bind_eq_some_iff.1 h
    simp only [Option.some.injEq, Prod.mk.injEq] at h
    obtain ⟨rfl, rfl⟩ := h
    obtain ⟨s1, yA, t1, t2, t3, t4, t5, t6⟩ := take_ok H ht
    subst t2
    obtain ⟨s', asA, r1, r2, r3, r4, r5, r6, r7⟩ := lendT_ok ms s1 _ _ t4 hr
    refine ⟨s', some (.val yA) :: asA, by simp [ArgA.er, t1, r1], r2, r3, fun k => ?_, fun z hz => ?_, ⟨t5, r6⟩, fun k => by simp [pcO, ArgA.pc, r7]⟩
    · rw [r4, t3]
      simp only [innO, ArgA.inn, TA.cntL]; omega
    · rcases List.mem_cons.1 hz with h | h
      · injection h with h; subst h; exact t6
      · exact r5 z h
  | (.bor, x) :: ms, s, args, σ', H, h => by
    simp only [St.lendT] at h
    obtain ⟨⟨as, σ2⟩, hr, h⟩ := Option.bind_eq_some_iff.1 h
    simp only [Option.some.injEq, Prod.mk.injEq] at h
    obtain ⟨rfl, rfl⟩ := h
    obtain ⟨s', asA, r1, r2, r3, r4, r5, r6, r7⟩ := lendT_ok ms s _ _ H hr
    exact ⟨s', none :: asA, by simp [r1], r2, r3, r4, (by intro z hz; rcases List.mem_cons.1 hz with h | h; cases h; exact r5 z h), r6, r7⟩
  | (.ptr n, x) :: ms, s, args, σ', H, h => by
    simp only [St.lendT] at h
    obtain ⟨⟨as, σ2⟩, hr, h⟩ := Option.bind_eq_some_iff.1 h
    simp only [Option.some.injEq, Prod.mk.injEq] at h
    obtain ⟨rfl, rfl⟩ := h
    obtain ⟨s', asA, r1, r2, r3, r4, r5, r6, r7⟩ := lendT_ok ms s _ _ H hr
    exact ⟨s', none :: asA, by simp [r1], r2, r3, r4, (by intro z hz; rcases List.mem_cons.1 hz with h | h; cases h; exact r5 z h), r6, r7⟩

/-- A place that is lent. -/
def plOk (s : StA) (pl : Pl) (q : Nat × Nat) : Prop := ∃ base cs l, s.rootCells pl.1 = some (base, cs) ∧ TA.getP cs pl.2.1 pl.2.2.1 pl.2.2.2 = some l ∧ T.hasOwnL (TA.erL l) = false ∧ TA.addrP base cs pl.2.1 pl.2.2.1 = some q ∧ 0 < pl.2.2.2
def plsOk (s : StA) : List Pl → List (Nat × Nat × Nat) → Prop
  | [], [] => True
  | pl :: pls, (b, off, n) :: qs => plOk s pl (b, off) ∧ pl.2.2.2 = n ∧ pls.all (fun y => y.1 ≠ pl.1) = true ∧ plsOk s pls qs
  | _, _ => False
def ptrsO : List (Option ArgA) → List (Nat × Nat × Nat)
  | [] => []
  | some (.ptr b off cs) :: xs => (b, off, cs.length) :: ptrsO xs
  | some (.val _) :: xs => ptrsO xs
  | none :: xs => ptrsO xs
theorem hasOwn_bury (c : T) : c.bury.hasOwn = false := by
  unfold T.bury
  split
  · rfl
  · rename_i h; simpa using h
theorem hasOwnL_bury : ∀ (l : List T), T.hasOwnL (l.map T.bury) = false
  | [] => rfl
  | c :: l => by simp [T.hasOwnL, hasOwn_bury, hasOwnL_bury l]
theorem plsOk_keep {s' : StA} : ∀ (pls : List Pl) (qs : List (Nat × Nat × Nat)), (∀ pl ∈ pls, s'.rootCells pl.1 = s.rootCells pl.1) → plsOk s pls qs → plsOk s' pls qs
  | [], [], _, h => h
  | [], _ :: _, _, h => h.elim
  | _ :: _, [], _, h => h.elim
  | pl :: pls, (b, off, n) :: qs, hr, h => by
    obtain ⟨h1, h2, h3, h4⟩ := h
    obtain ⟨base, cs, l, g1, g2⟩ := h1
    exact ⟨⟨base, cs, l, (hr pl (by simp)).trans g1, g2⟩, h2, h3, plsOk_keep pls qs (fun p hp => hr p (by simp [hp])) h4⟩
theorem getP_setP : ∀ (p : Path) (cs : List TA) (o k : Nat) (old new : List TA), TA.getP cs o p k = some old → new.length = k → (∀ c ∈ new, c.isCell = true) → (∀ c ∈ cs, c.isCell = true) → TA.HoldsL Z w.heap cs → TA.getP (TA.setP cs o p new) o p k = some new
  | [], cs, o, k, old, new, hg, hk, _, _, _ => by
    simp only [TA.getP] at hg
    split at hg
    case isFalse => cases hg
    rename_i hle
    have hl : (cs.take o ++ new ++ cs.drop (o + new.length)).length = cs.length := by simp; omega
    show (if o + k ≤ (cs.take o ++ new ++ cs.drop (o + new.length)).length then some (((cs.take o ++ new ++ cs.drop (o + new.length)).drop o).take k) else none) = some new
    rw [if_pos (by rw [hl]; exact hle)]
    congr 1
    have ho : (cs.take o).length = o := by rw [List.length_take]; omega
    rw [List.append_assoc, List.drop_append_of_le_length (by omega), List.drop_eq_nil_of_le (by omega), List.nil_append, List.take_append_of_le_length (by omega), List.take_of_length_le (by omega)]
  | (i, o') :: p, cs, o, k, old, new, hg, hk, hnc, hcc, hH => by
    simp only [TA.getP] at hg
    split at hg
    case h_2 => cases hg
    rename_i s b off cap es hcs
    split at hg
    case h_2 => cases hg
    rename_i e he
    have hsl := TA.holdsL_get hH hcs
    simp only [TA.Holds] at hsl
    have heH := TA.holdsL_get hsl.2.2.2.1 he
    have hcc' := TA.isCell_mem_cells heH
    have hlt := (List.getElem?_eq_some_iff.1 hcs).1
    have hlt2 := (List.getElem?_eq_some_iff.1 he).1
    have ih := getP_setP p e.cells o' k old new hg hk hnc hcc' (TA.holds_cells heH)
    simp only [TA.getP, TA.setP, hcs, he]
    rw [List.getElem?_set_self hlt]
    simp only [List.getElem?_set_self hlt2]
    rw [TA.cells_withCells (TA.setP_length new p _ _ _ _ hg hk) (TA.setP_isCell new hnc p _ _ hcc')]
    exact ih
theorem addrP_setP : ∀ (p : Path) (base : Option (Nat × Nat)) (cs : List TA) (o k : Nat) (old new : List TA), TA.getP cs o p k = some old → new.length = k → (∀ c ∈ new, c.isCell = true) → TA.HoldsL Z w.heap cs → TA.addrP base (TA.setP cs o p new) o p = TA.addrP base cs o p
  | [], base, cs, o, k, old, new, hg, hk, _, _ => rfl
  | (i, o') :: p, base, cs, o, k, old, new, hg, hk, hnc, hH => by
    simp only [TA.getP] at hg
    split at hg
    case h_2 => cases hg
    rename_i s b off cap es hcs
    split at hg
    case h_2 => cases hg
    rename_i e he
    have hsl := TA.holdsL_get hH hcs
    simp only [TA.Holds] at hsl
    have heH := TA.holdsL_get hsl.2.2.2.1 he
    have hcc' := TA.isCell_mem_cells heH
    have hlt := (List.getElem?_eq_some_iff.1 hcs).1
    have hlt2 := (List.getElem?_eq_some_iff.1 he).1
    have ih := addrP_setP p (some (b, off + i * s)) e.cells o' k old new hg hk hnc (TA.holds_cells heH)
    simp only [TA.addrP, TA.setP, hcs, he]
    rw [List.getElem?_set_self hlt]
    simp only [List.getElem?_set_self hlt2]
    rw [TA.cells_withCells (TA.setP_length new p _ _ _ _ hg hk) (TA.setP_isCell new hnc p _ _ hcc')]
    exact ih
theorem rootCells_setRoot_self {full : Bool} {r : Root} {base : Option (Nat × Nat)} {cs cs' hd' : List TA} (hr : s.rootCells r = some (base, cs)) (hl : cs'.length = cs.length) (hc : ∀ c ∈ cs', c.isCell = true) : (s.setRoot full r cs' hd').rootCells r = some (base, cs') := by
  cases r with
  | slot n =>
    simp only [StA.rootCells] at hr
    split at hr
    case h_2 => cases hr
    rename_i x hx
    simp only [Option.some.injEq, Prod.mk.injEq] at hr
    obtain ⟨rfl, rfl⟩ := hr
    have hlk : look (s.tm.map fun e => (e.1, e.2.killK full (.slot n))) n = some (.t x) := by rw [look_map, hx]; exact congrArg some (AVA.killK_t.2 rfl)
    simp only [StA.setRoot, hlk, StA.rootCells, look_put_self]
    rw [TA.cells_withCells hl hc]
  | box n =>
    simp only [StA.rootCells] at hr
    obtain ⟨x, hx, hx2⟩ := Option.map_eq_some_iff.1 hr
    simp only [Prod.mk.injEq] at hx2
    obtain ⟨rfl, rfl⟩ := hx2
    simp only [StA.setRoot, hx, StA.rootCells, look_put_self, Option.map_some]
theorem lendP_pass {m : Mode} {x : Operand} {ms : List (Mode × Operand)} {y : Option Arg} {as : List (Option Arg)} {r : List (Option Arg) × List Pl × St} (hm : (∀ n, m ≠ .ptr n) ∨ y ≠ none) (h : St.lendP ((m, x) :: ms) (y :: as) σ = some r) : ∃ z, St.lendP ms as σ = some z ∧ r = (y :: z.1, z.2) := by
  cases m with
  | ptr n =>
    cases y with
    | none => rcases hm with hm | hm; exact absurd rfl (hm n); exact absurd rfl hm
    | some y =>
      simp only [St.lendP] at h
      obtain ⟨z, hz, h⟩ := Option.bind_eq_some_iff.1 h
      injection h with h
      exact ⟨z, hz, h.symm⟩
  | take =>
    cases y <;>
    · simp only [St.lendP] at h
      obtain ⟨z, hz, h⟩ := Option.bind_eq_some_iff.1 h
      injection h with h
      exact ⟨z, hz, h.symm⟩
  | bor =>
    cases y <;>
    · simp only [St.lendP] at h
      obtain ⟨z, hz, h⟩ := Option.bind_eq_some_iff.1 h
      injection h with h
      exact ⟨z, hz, h.symm⟩
theorem lendP_ok : ∀ (ms : List (Mode × Operand)) (asA : List (Option ArgA)) (s : StA) (args : List (Option Arg)) (pls : List Pl) (σ' : St), SRel C Z s a w → agree a ms asA → (∀ k, pcO k asA = 0) → holdsO Z w.heap asA → St.lendP ms (asA.map (Option.map ArgA.er)) s.er = some (args, pls, σ') →
    ∃ s' asB, asB.map (Option.map ArgA.er) = args ∧ s'.er = σ' ∧ SRel C Z s' a w ∧ (∀ k, TA.cntL k s'.hd + innO k asA = innO k asB + TA.cntL k s.hd) ∧ holdsO Z w.heap asB ∧ agree a ms asB ∧ plsOk s' pls (ptrsO asB)
  | [], [], s, args, pls, σ', H, hag, hpc, hho, h => by
    simp only [List.map_nil, St.lendP, Option.some.injEq, Prod.mk.injEq] at h
    obtain ⟨rfl, rfl, rfl⟩ := h
    exact ⟨s, [], rfl, rfl, H, (fun k => by simp [innO]), hho, trivial, trivial⟩
  | (m, x) :: ms, [], s, args, pls, σ', H, hag, hpc, hho, h => by simp [agree] at hag
  | [], _ :: _, s, args, pls, σ', H, hag, hpc, hho, h => by simp [agree] at hag
  | (m, x) :: ms, some y :: asA, s, args, pls, σ', H, hag, hpc, hho, h => by
    have hpc' : ∀ k, pcO k asA = 0 := fun k => by have := hpc k; simp only [pcO] at this; omega
    have hy : ∃ t, y = .val t := by
      cases y with
      | val t => exact ⟨t, rfl⟩
      | ptr b off cs => have := hpc b; simp [pcO, ArgA.pc] at this
    obtain ⟨t, rfl⟩ := hy
    obtain ⟨⟨as1, pl1, σ1⟩, hr, h⟩ := lendP_pass (.inr (by simp)) h
    simp only [Prod.mk.injEq] at h
    obtain ⟨rfl, rfl, rfl⟩ := h
    obtain ⟨s1, asB, r1, r2, r3, r4, r5, r6, r7⟩ := lendP_ok ms asA s _ _ _ H hag.2 hpc' (fun z hz => hho z (by simp [hz])) hr
    refine ⟨s1, some (.val t) :: asB, by simp [r1], r2, r3, fun k => ?_, ?_, ⟨hag.1, r6⟩, r7⟩
    · have := r4 k
      simp only [innO]; omega
    · intro z hz
      rcases List.mem_cons.1 hz with h | h
      · injection h with h; subst h; exact hho _ (by simp)
      · exact r5 z h
  | (m, x) :: ms, none :: asA, s, args, pls, σ', H, hag, hpc, hho, h => by
    have hag' : agree a ms asA := hag
    have hpc' : ∀ k, pcO k asA = 0 := hpc
    have hho' : holdsO Z w.heap asA := fun z hz => hho z (by simp [hz])
    by_cases hm : ∀ n, m ≠ .ptr n
    · obtain ⟨⟨as1, pl1, σ1⟩, hr, h⟩ := lendP_pass (.inl hm) h
      simp only [Prod.mk.injEq] at h
      obtain ⟨rfl, rfl, rfl⟩ := h
      obtain ⟨s1, asB, r1, r2, r3, r4, r5, r6, r7⟩ := lendP_ok ms asA s _ _ _ H hag' hpc' hho' hr
      exact ⟨s1, none :: asB, by simp [r1], r2, r3, r4, (by intro z hz; rcases List.mem_cons.1 hz with h | h; cases h; exact r5 z h), r6, r7⟩
    · have hm2 : ∃ n, m = .ptr n := by
        cases m with
        | ptr n => exact ⟨n, rfl⟩
        | take => exact absurd (fun n => by simp) hm
        | bor => exact absurd (fun n => by simp) hm
      obtain ⟨n, rfl⟩ := hm2
      simp only [List.map_cons, Option.map_none, St.lendP] at h
      obtain ⟨⟨as1, pl1, σ1⟩, hr, h⟩ := Option.bind_eq_some_iff.1 h
      obtain ⟨s1, asB, r1, r2, r3, r4, r5, r6, r7⟩ := lendP_ok ms asA s _ _ _ H hag' hpc' hho' hr
      subst r2
      simp only at h
      split at h
      case h_2 => cases h
      rename_i r o p hx
      obtain ⟨csT, hcs, h⟩ := Option.bind_eq_some_iff.1 h
      obtain ⟨lT, hl, h⟩ := Option.bind_eq_some_iff.1 h
      split at h
      case isFalse => cases h
      rename_i hc
      simp only [Option.some.injEq, Prod.mk.injEq] at h
      obtain ⟨rfl, rfl, rfl⟩ := h
      obtain ⟨xA, e1, e2⟩ := opA r3 x
      rw [hx] at e1
      rw [er_ref e1] at e2
      obtain ⟨base, cs, ad, g1, g2, g3⟩ := e2
      rw [StA.er_rootCells, g1] at hcs
      simp only [Option.map_some, Option.some.injEq] at hcs
      subst hcs
      obtain ⟨l, t1, t2⟩ := TA.er_get _ _ _ _ _ hl
      subst t2
      obtain ⟨h1, h2, h3, h4⟩ := root_holds r3 g1
      obtain ⟨w1, w2, w3⟩ := r3.takePlace g1 t1
      have hlen := TA.getP_length _ _ _ _ _ t1
      obtain ⟨b1, b2, b3, b4⟩ := bury_map_holds w2 w3
      obtain ⟨m1, m2, m3, m4, m5⟩ := place_mem p base cs o n l ad t1 g2 h1 h3
      have hne : ∀ pl ∈ pl1, pl.1 ≠ r := by
        intro pl hp e
        have : (pl1.map Prod.fst).contains r = true := by
          rw [List.contains_iff_mem]
          exact List.mem_map.2 ⟨pl, hp, e⟩
        rw [this] at hc
        cases hc.2
      have hbl : (l.map TA.bury).length = n := by rw [List.length_map]; exact hlen
      have hset : TA.getP (TA.setP cs o p (l.map TA.bury)) o p n = some (l.map TA.bury) := getP_setP p cs o n l _ t1 hbl b2 h2 h1
      have hadr : TA.addrP base (TA.setP cs o p (l.map TA.bury)) o p = some ad := (addrP_setP p base cs o n l _ t1 hbl b2 h1).trans g2
      have hroot : (s1.setRoot true r (TA.setP cs o p (l.map TA.bury)) (l ++ s1.hd)).rootCells r = some (base, TA.setP cs o p (l.map TA.bury)) :=
        rootCells_setRoot_self g1 (TA.setP_length _ p _ _ _ _ t1 hbl) (TA.setP_isCell _ b2 p _ _ h2)
      refine ⟨_, some (.ptr ad.1 ad.2 l) :: asB, by simp [ArgA.er, r1], ?_, w1, fun k => ?_, ?_, ⟨by rw [g3]; rfl, r6⟩, ⟨⟨base, _, _, hroot, hset, ?_, hadr, hc.1⟩, hlen.symm, ?_, ?_⟩⟩
      · have := StA.er_setRoot s1 true r (TA.setP cs o p (l.map TA.bury)) (l ++ s1.hd)
        rw [TA.er_set, erL_bury] at this
        exact this
      · rw [hd_setRoot, TA.cntL_append]
        have := r4 k
        simp only [innO, ArgA.inn]; omega
      · intro z hz
        rcases List.mem_cons.1 hz with h | h
        · injection h with h
          subst h
          exact ⟨⟨m1, m2, (0, 0), m3, fun _ => ⟨by rw [hlen]; exact m4, rfl⟩, m5⟩, w2, w3⟩
        · exact r5 z h
      · rw [erL_bury]; exact hasOwnL_bury _
      · simp only [List.all_eq_true, decide_eq_true_eq]
        exact hne
      · exact plsOk_keep _ _ (fun pl hp => rootCells_setRoot_ne (hne pl hp)) r7
end Go.OM
