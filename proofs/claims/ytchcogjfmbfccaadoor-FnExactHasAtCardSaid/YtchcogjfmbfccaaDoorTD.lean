import Derived.Test.YtchcogjfmbfccaaDoorTC
set_option linter.unusedVariables false
set_option linter.unusedSimpArgs false
namespace Go.OM
/-! ### HasAt -/
def andU (beh : List Bool) : Nat → Bool → Bool := fun k b => b && beh.getD k false
def stepT (beh : List Bool) (s : Tab × Bool) (n : Int) : Tab × Bool := match s.1[n.toNat]? with
  | some row => (s.1.set n.toNat (row.mapIdx (andU beh)), s.2 || decide (row.mapIdx (andU beh) ≠ row))
  | none => s
/-- What a step does to a table: it stays one, its flags go down, and when it says so they do. -/
structure Dn (W L : Nat) (s s' : Tab × Bool) : Prop where
  ok : TabOk W L s'.1
  le : cntT s'.1 ≤ cntT s.1
  lt : s'.2 = true → s.2 = true ∨ cntT s'.1 < cntT s.1
  keep : s.2 = true → s'.2 = true
theorem Dn.refl {W L : Nat} {s : Tab × Bool} (h : TabOk W L s.1) : Dn W L s s := ⟨h, Nat.le_refl _, .inl, id⟩
theorem Dn.trans {W L : Nat} {s s' s2 : Tab × Bool} (h : Dn W L s s') (h2 : Dn W L s' s2) : Dn W L s s2 :=
  ⟨h2.ok, Nat.le_trans h2.le h.le, fun e => by
    rcases h2.lt e with e | e
    · rcases h.lt e with e | e
      · exact .inl e
      · exact .inr (Nat.lt_of_le_of_lt h2.le e)
    · exact .inr (Nat.lt_of_lt_of_le e h.le), fun e => h2.keep (h.keep e)⟩
theorem stepT_dn {W L : Nat} {s : Tab × Bool} (h : TabOk W L s.1) (beh : List Bool) (n : Int) : Dn W L s (stepT beh s n) := by
  unfold stepT
  split
  · rename_i row hr
    have hrl := h.row row (List.mem_of_getElem? hr)
    have hd := cntR_down row (andU beh) (fun k => rfl)
    have hs := cntT_set (r := row.mapIdx (andU beh)) hr
    refine ⟨h.set _ (by simpa using hrl), by simp only; omega, fun e => ?_, fun e => by simp [e]⟩
    simp only [Bool.or_eq_true, decide_eq_true_eq] at e
    rcases e with e | e
    · exact .inl e
    · right
      have := hd.2 e
      simp only; omega
  · exact .refl h
theorem foldT_dn {W L : Nat} (beh : List Bool) : ∀ (l : List Int) {s : Tab × Bool}, TabOk W L s.1 → Dn W L s (l.foldl (stepT beh) s)
  | [], s, h => .refl h
  | n :: l, s, h => by
    rw [List.foldl_cons]
    have h1 := stepT_dn h beh n
    exact h1.trans (foldT_dn beh l h1.ok)
theorem stepT_idem (beh : List Bool) (s : Tab × Bool) (n : Int) : stepT beh (stepT beh s n) n = stepT beh s n := by
  unfold stepT
  cases h : s.1[n.toNat]? with
  | none => simp only [h]
  | some row =>
    have hlt := (List.getElem?_eq_some_iff.1 h).1
    have e : (row.mapIdx (andU beh)).mapIdx (andU beh) = row.mapIdx (andU beh) := by
      apply List.ext_getElem?
      intro j
      simp only [List.getElem?_mapIdx]
      cases row[j]? with
      | none => rfl
      | some b => simp [andU]
    simp only [List.getElem?_set, hlt, if_true]
    rw [e]
    simp
theorem nextS_cases (c : GCode) (i : Nat) : nextS c i = nextI c i ∨ ∃ a, nextI c i = [a, a] ∧ nextS c i = [a] := by
  unfold nextS
  have hl : (nextI c i).length ≤ 2 := by
    unfold nextI
    split
    · refine Nat.le_trans (List.length_filter_le _ _) ?_
      unfold rawNext; split <;> (try split) <;> (try split) <;> simp
    · simp
  match h : nextI c i, hl with
  | [], _ => exact .inl rfl
  | [a], _ => left; simp [addL]
  | [a, b], _ =>
    by_cases e : a = b
    · subst e
      exact .inr ⟨a, rfl, by simp [addL]⟩
    · left
      have : ¬ b = a := fun h => e h.symm
      simp [addL, this]
  | _ :: _ :: _ :: _, hq => simp only [List.length_cons] at hq; omega
theorem fold_nextS (c : GCode) (i : Nat) (beh : List Bool) (s : Tab × Bool) : (nextS c i).foldl (stepT beh) s = (nextI c i).foldl (stepT beh) s := by
  rcases nextS_cases c i with h | ⟨a, h1, h2⟩
  · rw [h]
  · rw [h1, h2]
    simp only [List.foldl_cons, List.foldl_nil, stepT_idem]
def sweepStep (c : GCode) (reach : List Bool) (s : Tab × Bool) (i : Nat) : Tab × Bool := if reach[i]? = some true then match c.Words[i]?, s.1[i]? with
  | some x, some row => (nextI c i).foldl (stepT (behB x row)) s
  | _, _ => s
  else s
def sweep (c : GCode) (reach : List Bool) (t : Tab) : Tab × Bool := (List.range c.Words.length).foldl (sweepStep c reach) (t, false)
theorem sweepStep_dn {c : GCode} {reach : List Bool} {W L : Nat} {s : Tab × Bool} (h : TabOk W L s.1) (i : Nat) : Dn W L s (sweepStep c reach s i) := by
  unfold sweepStep
  split
  · split
    · exact foldT_dn _ _ h
    · exact .refl h
  · exact .refl h
theorem sweepF_dn {c : GCode} {reach : List Bool} {W L : Nat} : ∀ (l : List Nat) {s : Tab × Bool}, TabOk W L s.1 → Dn W L s (l.foldl (sweepStep c reach) s)
  | [], s, h => .refl h
  | n :: l, s, h => by
    rw [List.foldl_cons]
    have h1 := sweepStep_dn (c := c) (reach := reach) h n
    exact h1.trans (sweepF_dn l h1.ok)
/-- Rows of words that are not reached stay. -/
theorem stepT_keep {s : Tab × Bool} (beh : List Bool) {n : Int} {j : Nat} (h : n.toNat ≠ j) : (stepT beh s n).1[j]? = s.1[j]? := by
  unfold stepT
  split
  · simp only [List.getElem?_set_ne h]
  · rfl
theorem foldT_keep (beh : List Bool) {j : Nat} : ∀ (l : List Int) {s : Tab × Bool}, (∀ n ∈ l, n.toNat ≠ j) → (l.foldl (stepT beh) s).1[j]? = s.1[j]?
  | [], s, h => rfl
  | n :: l, s, h => by
    rw [List.foldl_cons, foldT_keep beh l (fun m hm => h m (by simp [hm])), stepT_keep beh (h n (by simp))]
theorem reachC_get {c : GCode} {n : Nat} (h : n < c.Words.length) : (reachC c)[n]? = some true ↔ Reach (nextI c) 0 n := by
  unfold reachC reachL
  rw [List.getElem?_map, List.getElem?_range h]
  simp
theorem reachC_len (c : GCode) : (reachC c).length = c.Words.length := by simp [reachC, reachL]
theorem sweepStep_keep {c : GCode} {s : Tab × Bool} (i j : Nat) (hj : j < c.Words.length) (hr : ¬ (reachC c)[j]? = some true) : (sweepStep c (reachC c) s i).1[j]? = s.1[j]? := by
  unfold sweepStep
  split
  · rename_i hi
    have hil : i < c.Words.length := by
      have := (List.getElem?_eq_some_iff.1 hi).1
      rwa [reachC_len] at this
    have hri := (reachC_get hil).1 hi
    split
    · refine foldT_keep _ _ (fun n hn e => hr ?_)
      rw [reachC_get hj, ← e]
      exact .step hri hn
    · rfl
  · rfl
theorem sweepF_keep {c : GCode} (j : Nat) (hj : j < c.Words.length) (hr : ¬ (reachC c)[j]? = some true) : ∀ (l : List Nat) {s : Tab × Bool}, (l.foldl (sweepStep c (reachC c)) s).1[j]? = s.1[j]?
  | [], s => rfl
  | n :: l, s => by rw [List.foldl_cons, sweepF_keep j hj hr l, sweepStep_keep n j hj hr]
/-! the loops -/
theorem getI_set_self {t : Tab} {n : Nat} {r : List Bool} (h : n < t.length) : getI (t.set n r) (n : Int) = some r := getI_set h
theorem impl_step (L : Nat) (hL : L ≤ 1048576) (beh : List Bool) (hb : beh.length = L) {W : Nat} (out : Tab) (h : TabOk W L out) (n : Int) (h0 : 0 ≤ n) (h1 : n < W) (more : Bool) :
    loopP (impl_HasAt_l5 beh n) (out, more, 0) = some (stepT beh (out, more) n) := by
  have hn : n.toNat < out.length := by rw [h.len]; omega
  have hne : ((n.toNat : Nat) : Int) = n := by omega
  have hrow : out[n.toNat]? = some out[n.toNat] := List.getElem?_eq_getElem hn
  have hl := h.row _ (List.getElem_mem hn)
  rw [rowU_loop out n.toNat L hn _ hrow hl (andU beh) (impl_HasAt_l5 beh n) (fun o m => (o, m)) (fun r m k hk hr => by
    have hkb : k < beh.length := by omega
    have hg : getI (out.set n.toNat r) n = some r := by
      have := getI_set_self (r := r) hn
      rwa [hne] at this
    simp only [impl_HasAt_l5, ofNat_lt_true hkb, if_true, getI_at hkb, getI_at hk, hg, Option.bind_some, bindS_def, Int.toNat_natCast, w64_nat hkb (by omega), List.set_set]
    have hu : andU beh k r[k] = (r[k] && beh[k]) := by simp [andU, List.getD_eq_getElem?_getD, List.getElem?_eq_getElem hkb]
    rw [hu]
    cases hbk : beh[k] <;> cases hrk : r[k] <;> simp) (fun r m hr => by simp [impl_HasAt_l5, hb]) more]
  unfold stepT
  simp only [hrow]
theorem spec_step (c : GCode) (hL : c.Locals.length ≤ 1048576) (beh : List Bool) (hb : beh.length = c.Locals.length) {W : Nat} (out : Tab) (h : TabOk W c.Locals.length out) (nl : List Int) (q : Nat) (hq : q < nl.length) (h0 : 0 ≤ nl[q]) (h1 : nl[q] < W) (more : Bool) :
    loopP (spec_l14Has_l5 c beh nl q) (out, more, 0) = some (stepT beh (out, more) nl[q]) := by
  have hn : nl[q].toNat < out.length := by rw [h.len]; omega
  have hne : ((nl[q].toNat : Nat) : Int) = nl[q] := by omega
  have hrow : out[nl[q].toNat]? = some out[nl[q].toNat] := List.getElem?_eq_getElem hn
  have hl := h.row _ (List.getElem_mem hn)
  rw [rowU_loop out nl[q].toNat c.Locals.length hn _ hrow hl (andU beh) (spec_l14Has_l5 c beh nl q) (fun o m => (o, m)) (fun r m k hk hr => by
    have hkb : k < beh.length := by omega
    have hkc : k < c.Locals.length := by omega
    have hg : getI (out.set nl[q].toNat r) nl[q] = some r := by
      have := getI_set_self (r := r) hn
      rwa [hne] at this
    simp only [spec_l14Has_l5, ofNat_lt_true hkc, if_true, getI_at hkb, getI_at hk, getI_at hq, hg, Option.bind_some, bindS_def, Int.toNat_natCast, w64_nat hkc (by omega), List.set_set]
    have hu : andU beh k r[k] = (r[k] && beh[k]) := by simp [andU, List.getD_eq_getElem?_getD, List.getElem?_eq_getElem hkb]
    rw [hu]
    cases hbk : beh[k] <;> cases hrk : r[k] <;> simp) (fun r m hr => by simp [spec_l14Has_l5]) more]
  unfold stepT
  simp only [hrow]
theorem nextI_len (c : GCode) (i : Nat) : (nextI c i).length ≤ 2 := by
  unfold nextI
  split
  · refine Nat.le_trans (List.length_filter_le _ _) ?_
    unfold rawNext; split <;> (try split) <;> (try split) <;> simp
  · simp
theorem nextS_len (c : GCode) (i : Nat) : (nextS c i).length ≤ 2 := by
  rcases nextS_cases c i with h | ⟨a, h1, h2⟩
  · rw [h]; exact nextI_len c i
  · rw [h2]; simp
theorem impl_targets (W L : Nat) (hL : L ≤ 1048576) (beh : List Bool) (hb : beh.length = L) (nl : List Int) (hnl : nl.length ≤ 2) (hnb : ∀ n ∈ nl, 0 ≤ n ∧ n < W) (s : Tab × Bool) (h : TabOk W L s.1) :
    loopP (impl_HasAt_l4 beh nl) (s.1, s.2, 0) = some (nl.foldl (stepT beh) s) := by
  have := loopP_fold nl (fun (s : Tab × Bool) k => (s.1, s.2, (k : Int))) (fun k s => TabOk W L s.1) (fun s n => .inl (stepT beh s n)) id (impl_HasAt_l4 beh nl) (fun s k hk hI => by
    left
    obtain ⟨b0, b1⟩ := hnb _ (List.getElem_mem hk)
    refine ⟨_, rfl, ?_, (stepT_dn hI beh _).ok⟩
    simp only [impl_HasAt_l4, ofNat_lt_true hk, if_true, getI_at hk, Option.bind_some]
    rw [impl_step L hL beh hb s.1 hI nl[k] b0 b1 s.2]
    simp only [Option.bind_some, w64_nat hk (by omega)]) (fun s _ => by simp [impl_HasAt_l4]) s h
  rw [foldE_inl] at this
  exact this
theorem spec_targets (c : GCode) (W : Nat) (hL : c.Locals.length ≤ 1048576) (beh : List Bool) (hb : beh.length = c.Locals.length) (nl : List Int) (hnl : nl.length ≤ 2) (hnb : ∀ n ∈ nl, 0 ≤ n ∧ n < W) (s : Tab × Bool) (h : TabOk W c.Locals.length s.1) :
    loopP (spec_l14Has_l4 c beh nl) (s.1, s.2, 0) = some (nl.foldl (stepT beh) s) := by
  have := loopP_fold nl (fun (s : Tab × Bool) k => (s.1, s.2, (k : Int))) (fun k s => TabOk W c.Locals.length s.1) (fun s n => .inl (stepT beh s n)) id (spec_l14Has_l4 c beh nl) (fun s k hk hI => by
    left
    obtain ⟨b0, b1⟩ := hnb _ (List.getElem_mem hk)
    refine ⟨_, rfl, ?_, (stepT_dn hI beh _).ok⟩
    simp only [spec_l14Has_l4, ofNat_lt_true hk, if_true, Option.bind_some]
    rw [spec_step c hL beh hb s.1 hI nl k hk b0 b1 s.2]
    simp only [Option.bind_some, w64_nat hk (by omega)]) (fun s _ => by simp [spec_l14Has_l4]) s h
  rw [foldE_inl] at this
  exact this
theorem impl_sweep (c : GCode) (hc : codeB c = true) (t : Tab) (h : TabOk c.Words.length c.Locals.length t) : loopP (impl_HasAt_l3 c (reachC c)) (t, false, 0) = some (.inl (sweep c (reachC c) t)) := by
  obtain ⟨_, hl, _, ⟨hw1, hw2⟩, _, _, hwd⟩ := codeB_facts hc
  have := loopP_fold (List.range c.Words.length) (fun (s : Tab × Bool) k => (s.1, s.2, (k : Int))) (fun k s => TabOk c.Words.length c.Locals.length s.1) (fun s i => .inl (sweepStep c (reachC c) s i)) (fun s => (Sum.inl s : (Tab × Bool) ⊕ Tab)) (impl_HasAt_l3 c (reachC c)) (fun s k hk hI => by
    left
    have hk' : k < c.Words.length := by simpa using hk
    have hkr : k < (reachC c).length := by rw [reachC_len]; exact hk'
    have hkt : k < s.1.length := by rw [hI.len]; exact hk'
    refine ⟨_, rfl, ?_, (sweepStep_dn hI _).ok⟩
    simp only [impl_HasAt_l3, ofNat_lt_true hk', if_true, getI_at hk', getI_at hkr, getI_at hkt, Option.bind_some, List.getElem_range]
    have e : (if (!(reachC c)[k]) = true then some (s.1, s.2) else (impl_behind c.Words[k] s.1[k]).bind fun r54 => (impl_Next c k).bind fun r56 => loopP (impl_HasAt_l4 r54 r56) (s.1, s.2, 0)) = some (sweepStep c (reachC c) s k) := by
      unfold sweepStep
      rw [List.getElem?_eq_getElem hkr, List.getElem?_eq_getElem hk', List.getElem?_eq_getElem hkt]
      cases hrk : (reachC c)[k]
      · simp
      · have hrl := hI.row _ (List.getElem_mem hkt)
        rw [impl_behind_eq c.Words[k] _ _ s.1[k] (hwd _ (List.getElem_mem hk')) hrl (by omega), impl_Next_eq c (by omega) k hk']
        simp only [Option.bind_some, Bool.not_true, Bool.false_eq_true, if_false, if_true]
        exact impl_targets c.Words.length c.Locals.length (by omega) _ ((behB_len _ _).trans hrl) _ (nextI_len c k) (nextI_ok c k hk') s hI
    rw [e]
    simp only [Option.bind_some, w64_nat hk' (by omega)]) (fun s _ => by simp [impl_HasAt_l3]) (t, false) h
  rw [foldE_inl] at this
  exact this
theorem spec_sweep (c : GCode) (hc : codeB c = true) (t : Tab) (h : TabOk c.Words.length c.Locals.length t) : loopP (spec_l14Has_l3 c (reachC c)) (t, false, 0) = some (sweep c (reachC c) t) := by
  obtain ⟨_, hl, _, ⟨hw1, hw2⟩, _, _, hwd⟩ := codeB_facts hc
  have := loopP_fold (List.range c.Words.length) (fun (s : Tab × Bool) k => (s.1, s.2, (k : Int))) (fun k s => TabOk c.Words.length c.Locals.length s.1) (fun s i => .inl (sweepStep c (reachC c) s i)) (fun s => s) (spec_l14Has_l3 c (reachC c)) (fun s k hk hI => by
    left
    have hk' : k < c.Words.length := by simpa using hk
    have hkr : k < (reachC c).length := by rw [reachC_len]; exact hk'
    have hkt : k < s.1.length := by rw [hI.len]; exact hk'
    refine ⟨_, rfl, ?_, (sweepStep_dn hI _).ok⟩
    simp only [spec_l14Has_l3, ofNat_lt_true hk', if_true, getI_at hk', getI_at hkr, getI_at hkt, Option.bind_some, List.getElem_range]
    have e : (if (!(reachC c)[k]) = true then some (s.1, s.2) else (spec_l14Behind c.Words[k] s.1[k]).bind fun r54 => (spec_Next c k).bind fun r56 => loopP (spec_l14Has_l4 c r54 r56) (s.1, s.2, 0)) = some (sweepStep c (reachC c) s k) := by
      unfold sweepStep
      rw [List.getElem?_eq_getElem hkr, List.getElem?_eq_getElem hk', List.getElem?_eq_getElem hkt]
      cases hrk : (reachC c)[k]
      · simp
      · have hrl := hI.row _ (List.getElem_mem hkt)
        rw [spec_behind_eq c.Words[k] _ _ s.1[k] (hwd _ (List.getElem_mem hk')) hrl (by omega), spec_Next_eq c (by omega) k hk']
        simp only [Option.bind_some, Bool.not_true, Bool.false_eq_true, if_false, if_true]
        rw [← fold_nextS]
        exact spec_targets c c.Words.length (by omega) _ ((behB_len _ _).trans hrl) _ (nextS_len c k) (fun n hn => nextI_ok c k hk' n (mem_nextS.1 hn)) s hI
    rw [e]
    simp only [Option.bind_some, w64_nat hk' (by omega)]) (fun s _ => by simp [spec_l14Has_l3]) (t, false) h
  rw [foldE_inl] at this
  exact this
/-- The table ahead of all. -/
def hasStart (c : GCode) : Tab := (List.replicate c.Words.length (List.replicate c.Locals.length true)).set 0 ((List.range c.Locals.length).map fun l : Nat => decide ((l : Int) < c.Params))
theorem hasStart_ok (c : GCode) : TabOk c.Words.length c.Locals.length (hasStart c) := (tab_rep _ _ _).set 0 (by simp)
theorem set0_get {t : Tab} {r : List Bool} (h : 0 < t.length) : getI (t.set 0 r) 0 = some r := by
  rw [getI_zero]; simp [h]
theorem impl_start (c : GCode) (hc : codeB c = true) : loopP (impl_HasAt_l1 c) (List.replicate c.Words.length (List.replicate c.Locals.length true), 0) = some (hasStart c) := by
  obtain ⟨_, hl, _, ⟨hw1, hw2⟩, _⟩ := codeB_facts hc
  have hT : 0 < (List.replicate c.Words.length (List.replicate c.Locals.length true)).length := by simp; omega
  obtain ⟨r, h1, h2⟩ := loopP_run (f := impl_HasAt_l1 c) (fun s : Tab × Int => ∃ (k : Nat) (r : List Bool), s.2 = k ∧ k ≤ c.Locals.length ∧ r.length = c.Locals.length ∧ s.1 = (List.replicate c.Words.length (List.replicate c.Locals.length true)).set 0 r ∧ ∀ j, j < k → r[j]? = some (decide ((j : Int) < c.Params))) (fun s => c.Locals.length - s.2.toNat) (fun x => x = hasStart c) (by
    rintro ⟨o, i⟩ ⟨k, r, rfl, hk, hr, ho, hrj⟩
    simp only at ho hk
    subst ho
    by_cases hlt : k < c.Locals.length
    · left
      have hkr : k < r.length := by omega
      refine ⟨((List.replicate c.Words.length (List.replicate c.Locals.length true)).set 0 (r.set k (decide ((k : Int) < c.Params))), ((k + 1 : Nat) : Int)), ?_, ⟨k + 1, r.set k (decide ((k : Int) < c.Params)), rfl, by omega, by simpa using hr, rfl, fun j hj => ?_⟩, by simp only [Int.toNat_natCast]; omega⟩
      · simp only [impl_HasAt_l1, ofNat_lt_true hlt, if_true, set0_get hT, getI_at hkr, Option.bind_some, bindS_def, Int.toNat_natCast, w64_nat hlt (by omega), List.set_set]
      · rw [List.getElem?_set]
        by_cases e : k = j
        · subst e; rw [if_pos rfl, if_pos hkr]
        · rw [if_neg e]; exact hrj j (by omega)
    · right
      have hkL : k = c.Locals.length := by omega
      refine ⟨_, by simp only [impl_HasAt_l1]; rw [if_neg (by simp; omega)], ?_⟩
      unfold hasStart
      congr 1
      apply List.ext_getElem?
      intro j
      by_cases hj : j < k
      · rw [hrj j hj, List.getElem?_map, List.getElem?_range (by omega)]; rfl
      · rw [List.getElem?_eq_none (by omega), List.getElem?_eq_none (by simp; omega)]) (List.replicate c.Words.length (List.replicate c.Locals.length true), 0) ⟨0, List.replicate c.Locals.length true, rfl, by omega, by simp, by
      apply List.ext_getElem?
      intro j
      rw [List.getElem?_set]
      by_cases e : 0 = j
      · subst e; rw [if_pos rfl, if_pos hT, List.getElem?_replicate, if_pos (by omega)]
      · rw [if_neg e], fun j h => by omega⟩
  rw [h1, h2]
theorem spec_start (c : GCode) (hc : codeB c = true) : loopP (spec_l14Has_l1 c) (List.replicate c.Words.length (List.replicate c.Locals.length true), c.Params) = some (hasStart c) := by
  obtain ⟨_, hl, ⟨hp0, hp1⟩, ⟨hw1, hw2⟩, _⟩ := codeB_facts hc
  have hT : 0 < (List.replicate c.Words.length (List.replicate c.Locals.length true)).length := by simp; omega
  obtain ⟨r, h1, h2⟩ := loopP_run (f := spec_l14Has_l1 c) (fun s : Tab × Int => ∃ (k : Nat) (r : List Bool), s.2 = k ∧ k ≤ c.Locals.length ∧ c.Params ≤ k ∧ r.length = c.Locals.length ∧ s.1 = (List.replicate c.Words.length (List.replicate c.Locals.length true)).set 0 r ∧ ∀ j, j < c.Locals.length → r[j]? = some (decide ((j : Int) < c.Params ∨ k ≤ j))) (fun s => c.Locals.length - s.2.toNat) (fun x => x = hasStart c) (by
    rintro ⟨o, i⟩ ⟨k, r, rfl, hk, hkp, hr, ho, hrj⟩
    simp only at ho hk hkp
    subst ho
    by_cases hlt : k < c.Locals.length
    · left
      have hkr : k < r.length := by omega
      refine ⟨((List.replicate c.Words.length (List.replicate c.Locals.length true)).set 0 (r.set k false), ((k + 1 : Nat) : Int)), ?_, ⟨k + 1, r.set k false, rfl, by omega, by omega, by simpa using hr, rfl, fun j hj => ?_⟩, by simp only [Int.toNat_natCast]; omega⟩
      · simp only [spec_l14Has_l1, ofNat_lt_true hlt, if_true, set0_get hT, getI_at hkr, Option.bind_some, bindS_def, Int.toNat_natCast, w64_nat hlt (by omega), List.set_set]
      · rw [List.getElem?_set]
        by_cases e : k = j
        · subst e
          rw [if_pos rfl, if_pos hkr]
          have : ¬ ((k : Int) < c.Params ∨ k + 1 ≤ k) := by omega
          simp [this]
        · rw [if_neg e, hrj j hj]
          congr 1
          apply decide_eq_decide.2
          omega
    · right
      have hkL : k = c.Locals.length := by omega
      refine ⟨_, by simp only [spec_l14Has_l1]; rw [if_neg (by simp; omega)], ?_⟩
      unfold hasStart
      congr 1
      apply List.ext_getElem?
      intro j
      by_cases hj : j < c.Locals.length
      · rw [hrj j hj, List.getElem?_map, List.getElem?_range (by omega)]
        simp only [Option.map_some, Option.some.injEq]
        apply decide_eq_decide.2
        omega
      · rw [List.getElem?_eq_none (by omega), List.getElem?_eq_none (by simp; omega)]) (List.replicate c.Words.length (List.replicate c.Locals.length true), c.Params) ⟨c.Params.toNat, List.replicate c.Locals.length true, by simp only; omega, by omega, by omega, by simp, by
      apply List.ext_getElem?
      intro j
      rw [List.getElem?_set]
      by_cases e : 0 = j
      · subst e; rw [if_pos rfl, if_pos hT, List.getElem?_replicate, if_pos (by omega)]
      · rw [if_neg e], fun j h => by
      rw [List.getElem?_replicate, if_pos h]
      rw [decide_eq_true (show ((j : Int) < c.Params ∨ c.Params.toNat ≤ j) by omega)]⟩
  rw [h1, h2]
/-- **The table that both come to.** -/
theorem has_main (c : GCode) (h : GCode.le 1048576 c) (hc : codeB c = true) : ∃ T : Tab, loopP (impl_HasAt_l2 c (reachC c)) (hasStart c, true) = some T ∧ loopP (spec_l14Has_l2 c (reachC c)) (hasStart c, true, 0) = some T ∧ TabOk c.Words.length c.Locals.length T ∧
    ∀ j, j < c.Words.length → ¬ (reachC c)[j]? = some true → T[j]? = some (List.replicate c.Locals.length true) := by
  obtain ⟨_, hl, _, ⟨hw1, hw2⟩, _⟩ := codeB_facts hc
  have hWL : c.Words.length * c.Locals.length ≤ 400 * 200 := Nat.mul_le_mul hw2 hl
  obtain ⟨T, T', h1, h2, h3, h4, h5⟩ := loopP_sim (f := impl_HasAt_l2 c (reachC c)) (g := spec_l14Has_l2 c (reachC c)) (fun (a : Tab × Bool) (b : Tab × Bool × Int) => ∃ r : Nat, b = (a.1, a.2, (r : Int)) ∧ TabOk c.Words.length c.Locals.length a.1 ∧ cntT a.1 + r ≤ c.Words.length * c.Locals.length + (if a.2 = true then 0 else 1) ∧ ∀ j, j < c.Words.length → ¬ (reachC c)[j]? = some true → a.1[j]? = some (List.replicate c.Locals.length true))
    (fun a => 2 * cntT a.1 + if a.2 = true then 1 else 0) (fun r r' => r = r' ∧ TabOk c.Words.length c.Locals.length r ∧ ∀ j, j < c.Words.length → ¬ (reachC c)[j]? = some true → r[j]? = some (List.replicate c.Locals.length true)) (by
    rintro ⟨t, m⟩ b ⟨r, rfl, hok, hcr, hk⟩
    simp only at hok hcr hk ⊢
    cases m with
    | false =>
      right
      exact ⟨t, t, by simp [impl_HasAt_l2], by simp [spec_l14Has_l2], rfl, hok, hk⟩
    | true =>
      left
      have D : Dn c.Words.length c.Locals.length (t, false) (sweep c (reachC c) t) := sweepF_dn _ hok
      have d1 := D.le
      have d2 := D.lt
      simp only [Bool.false_eq_true, false_or] at d1 d2
      refine ⟨((sweep c (reachC c) t).1, (sweep c (reachC c) t).2), ((sweep c (reachC c) t).1, (sweep c (reachC c) t).2, ((r + 1 : Nat) : Int)), ?_, ?_, ⟨r + 1, rfl, D.ok, ?_, fun j hj hr => ?_⟩, ?_⟩
      · simp only [impl_HasAt_l2, if_true]
        rw [impl_sweep c hc t hok]
      · simp only [spec_l14Has_l2, if_true]
        have hb : IntKind.wrap .i64 ((IntKind.wrap .i64 ((c.Words.length : Int) * (c.Locals.length : Int))) + 1) = ((c.Words.length * c.Locals.length + 1 : Nat) : Int) := by
          rw [← Int.natCast_mul, w64 (n := ((c.Words.length * c.Locals.length : Nat) : Int)) (by omega) (by omega), w64 (by omega) (by omega)]; omega
        rw [hb]
        have hle : decide ((r : Int) ≤ ((c.Words.length * c.Locals.length + 1 : Nat) : Int)) = true := by
          simp only [decide_eq_true_eq]
          simp only [if_true] at hcr
          omega
        simp only [Option.bind_some, hle, if_true]
        rw [spec_sweep c hc t hok]
        simp only [Option.bind_some]
        rw [w64 (by omega) (by simp only [if_true] at hcr; omega)]
        rfl
      · simp only [if_true] at hcr
        cases hf : (sweep c (reachC c) t).2 with
        | true =>
          have := d2 hf
          simp only [if_true]; omega
        | false => simp only [Bool.false_eq_true, if_false]; omega
      · exact (sweepF_keep j hj hr _).trans (hk j hj hr)
      · cases hf : (sweep c (reachC c) t).2 with
        | true =>
          have := d2 hf
          simp only [if_true]; omega
        | false => simp only [Bool.false_eq_true, if_false, if_true]; omega) (hasStart c, true) (hasStart c, true, 0) ⟨0, rfl, hasStart_ok c, by have := cntT_le (hasStart_ok c); simp only [if_true]; omega, fun j hj hr => by
      unfold hasStart
      have h0 : j ≠ 0 := by
        rintro rfl
        exact hr ((reachC_get hj).2 .base)
      rw [List.getElem?_set_ne (by omega), List.getElem?_replicate, if_pos hj]⟩
  subst h3
  exact ⟨T, h1, h2, h4, h5⟩
theorem hasAt_main (c : GCode) (h : GCode.le 1048576 c) (hc : codeB c = true) : ∃ T : Tab, impl_HasAt c = some T ∧ spec_l14Has c (reachC c) = some T ∧ TabOk c.Words.length c.Locals.length T ∧
    ∀ j, j < c.Words.length → ¬ (reachC c)[j]? = some true → T[j]? = some (List.replicate c.Locals.length true) := by
  obtain ⟨T, h1, h2, h3, h4⟩ := has_main c h hc
  obtain ⟨_, hl, _, ⟨hw1, hw2⟩, _⟩ := codeB_facts hc
  refine ⟨T, ?_, ?_, h3, h4⟩
  · unfold impl_HasAt
    rw [impl_CodeOk_eq c h, impl_table_eq _ _ (by omega) (by omega)]
    simp only [Option.bind_some, hc, Bool.not_true, Bool.false_eq_true, if_false]
    rw [impl_start c hc, impl_ReachedWords_eq c h, if_pos hc]
    simp only [Option.bind_some]
    rw [h1]
    rfl
  · unfold spec_l14Has
    rw [spec_table_eq _ _ (by omega) (by omega)]
    simp only [Option.bind_some]
    rw [spec_start c hc]
    simp only [Option.bind_some]
    rw [h2]
    rfl
theorem law_HasAt (c : GCode) (hw : GCode.le maxLen c) : laws_FnExactHasAt c = some true := by
  unfold laws_FnExactHasAt
  obtain ⟨r, h1, h2, h3⟩ := laws_szCode_p c hw 1048576 (by omega) (by omega)
  rw [h1]
  simp only [Option.bind_some]
  by_cases hr : r < 0
  · simp [hr]
  · have hp := h3 (by omega)
    have hv : ∃ v : Tab, spec_HasAt c = some v ∧ impl_HasAt c = some v ∧ (v.length ≤ 1048576 ∧ ∀ x ∈ v, x.length ≤ 1048576) := by
      by_cases hc : codeB c = true
      · obtain ⟨T, t1, t2, t3, _⟩ := hasAt_main c hp hc
        refine ⟨T, ?_, t1, by rw [t3.len]; exact hp.2.2.1, fun x hx => by rw [t3.row x hx]; exact hp.2.1⟩
        unfold spec_HasAt
        rw [spec_CodeOk_eq c hp]
        simp only [Option.bind_some, hc, Bool.not_true, Bool.false_eq_true, if_false, spec_l14Reached_eq c hc, t2]
      · refine ⟨[], ?_, ?_, by simp⟩
        · unfold spec_HasAt
          rw [spec_CodeOk_eq c hp]
          simp [Bool.eq_false_iff.2 hc]
        · unfold impl_HasAt
          rw [impl_CodeOk_eq c hp]
          simp [Bool.eq_false_iff.2 hc]
    obtain ⟨v, hv1, hv2, hok⟩ := hv
    obtain ⟨k1, c1, m1, m2, m3⟩ := laws_markCode_p c hp 1 (by omega) (by omega)
    obtain ⟨k2, v2, n1, n2, n3, n4⟩ := laws_markBoolSS_p v hok 1 (by omega) (by omega)
    simp [hr, laws_toCode_p c hp, hv1, hv2, laws_eqBoolSS_p v v hok hok, laws_eqCode_p c c hp hp, m1, n1, n4, show ¬ k1 < 0 by omega, show ¬ k2 < 0 by omega]
end Go.OM
