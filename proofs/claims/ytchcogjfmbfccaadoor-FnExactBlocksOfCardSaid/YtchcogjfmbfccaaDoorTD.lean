import Derived.Test.YtchcogjfmbfccaaDoorTC
set_option linter.unusedVariables false
set_option linter.unusedSimpArgs false
namespace Go.OM
/-! ### Blocks -/
def jmpB (x : GIns) : Bool := x.Op == 18 || x.Op == 19
def endB (x : GIns) : Bool := x.Op == 18 || (x.Op == 19 || x.Op == 20)
def hstep (c : GCode) (H : List Bool) (i : Nat) : List Bool := match c.Words[i]? with
  | some x => let H1 := if jmpB x = true then H.set x.Num.toNat true else H
    if endB x = true then H1.set (i + 1) true else H1
  | none => H
theorem hstep_len (c : GCode) (H : List Bool) (i : Nat) : (hstep c H i).length = H.length := by
  unfold hstep
  split
  · simp only
    split <;> split <;> simp
  · rfl
def headsB (c : GCode) : List Bool := ((List.range c.Words.length).foldl (hstep c) ((List.replicate (c.Words.length + 1) false).set 0 true)).set c.Words.length true
theorem set_comm' (H : List Bool) (a b : Nat) : (H.set a true).set b true = (H.set b true).set a true := by
  by_cases e : a = b
  · subst e; rfl
  · exact List.set_comm _ _ e
theorem hstep_set (c : GCode) (H : List Bool) (i a : Nat) : hstep c (H.set a true) i = (hstep c H i).set a true := by
  unfold hstep
  split
  · rename_i x hx
    simp only
    split <;> split <;> simp only [set_comm' _ a]
  · rfl
theorem hfold_set (c : GCode) (a : Nat) : ∀ (l : List Nat) (H : List Bool), l.foldl (hstep c) (H.set a true) = (l.foldl (hstep c) H).set a true
  | [], H => rfl
  | i :: l, H => by rw [List.foldl_cons, List.foldl_cons, hstep_set, hfold_set c a l]
theorem heads_loop {ρ : Type} (c : GCode) (hc : codeB c = true) (f : List Bool × Int → Option ((List Bool × Int) ⊕ ρ)) (fin : List Bool → ρ)
    (hf : ∀ (H : List Bool) (k : Nat) (x : GIns), H.length = c.Words.length + 1 → k < c.Words.length → getI c.Words k = some x → f (H, k) = (Option.bind (Option.bind (if (x.Op == 18) = true then some true else some (x.Op == 19)) fun v29 => if v29 = true then (getI H x.Num).bind fun e32 => some (List.set H x.Num.toNat true) else some H) fun b => Option.bind (if (x.Op == 18) = true then some true else if (x.Op == 19) = true then some true else some (x.Op == 20)) fun v41 =>
      if v41 = true then (getI b (IntKind.wrap .i64 ((k : Int) + 1))).bind fun e44 => some (Sum.inl (List.set b ((IntKind.wrap .i64 ((k : Int) + 1)).toNat) true, IntKind.wrap .i64 ((k : Int) + 1))) else some (Sum.inl (b, IntKind.wrap .i64 ((k : Int) + 1)))))
    (he : ∀ H, f (H, c.Words.length) = some (.inr (fin H))) (H : List Bool) (hH : H.length = c.Words.length + 1) : loopP f (H, 0) = some (fin ((List.range c.Words.length).foldl (hstep c) H)) := by
  obtain ⟨_, _, _, ⟨hw1, hw2⟩, _, _, hwd⟩ := codeB_facts hc
  have := loopP_fold (List.range c.Words.length) (fun (s : List Bool) k => (s, (k : Int))) (fun k s => s.length = c.Words.length + 1) (fun s i => .inl (hstep c s i)) fin f (fun s k hk hI => by
    left
    have hk' : k < c.Words.length := by simpa using hk
    refine ⟨_, rfl, ?_, (hstep_len c s _).trans hI⟩
    rw [hf s k c.Words[k] hI hk' (getI_at hk')]
    have hw : IntKind.wrap .i64 ((k : Int) + 1) = ((k + 1 : Nat) : Int) := w64_nat hk' (by omega)
    simp only [hw, List.getElem_range, Int.toNat_natCast]
    unfold hstep
    rw [List.getElem?_eq_getElem hk']
    simp only
    have e1 : (if (c.Words[k].Op == 18) = true then some true else some (c.Words[k].Op == 19)) = some (jmpB c.Words[k]) := by
      unfold jmpB; cases c.Words[k].Op == 18 <;> rfl
    have e2 : (if (c.Words[k].Op == 18) = true then some true else if (c.Words[k].Op == 19) = true then some true else some (c.Words[k].Op == 20)) = some (endB c.Words[k]) := by
      unfold endB; cases c.Words[k].Op == 18 <;> cases c.Words[k].Op == 19 <;> rfl
    rw [e1, e2]
    simp only [Option.bind_some]
    cases hj : jmpB c.Words[k] with
    | true =>
      have hop : c.Words[k].Op = 18 ∨ c.Words[k].Op = 19 := by unfold jmpB at hj; simpa using hj
      have hn := wordB_num (hwd _ (List.getElem_mem hk')) hop
      simp only [if_true]
      rw [getI_in hn.1 (by omega)]
      simp only [Option.bind_some]
      cases endB c.Words[k] with
      | true =>
        simp only [if_true]
        rw [getI_at (show k + 1 < (s.set c.Words[k].Num.toNat true).length by simp; omega)]
        rfl
      | false => rfl
    | false =>
      simp only [Bool.false_eq_true, if_false, Option.bind_some]
      cases endB c.Words[k] with
      | true =>
        simp only [if_true]
        rw [getI_at (show k + 1 < s.length by omega)]
        rfl
      | false => rfl) (fun s _ => by
    rw [List.length_range]; exact he s) H hH
  rw [foldE_inl] at this
  exact this
theorem hfold_len (c : GCode) : ∀ (l : List Nat) (H : List Bool), (l.foldl (hstep c) H).length = H.length
  | [], H => rfl
  | i :: l, H => by rw [List.foldl_cons, hfold_len c l, hstep_len]
theorem headsB_len (c : GCode) : (headsB c).length = c.Words.length + 1 := by
  unfold headsB; rw [List.length_set, hfold_len]; simp
theorem mk_wrap {n : Nat} (h : n ≤ 1048576) : IntKind.wrap .i64 ((n : Int) + 1) = ((n + 1 : Nat) : Int) := by rw [w64 (by omega) (by omega)]; omega
theorem spec_l29Heads_eq (c : GCode) (hc : codeB c = true) : spec_l29Heads c = some (headsB c) := by
  obtain ⟨_, _, _, ⟨hw1, hw2⟩, _⟩ := codeB_facts hc
  unfold spec_l29Heads
  rw [mk_wrap (by omega), mkI_len _ _ _ (by omega) (by omega)]
  have h0 : getI (List.replicate (c.Words.length + 1) false) 0 = some false := by rw [getI_zero, List.getElem?_replicate, if_pos (by omega)]
  simp only [Option.bind_some, h0, bindS_def]
  rw [heads_loop c hc (spec_l29Heads_l1 c) id (fun H k x hH hk hx => by simp only [spec_l29Heads_l1, ofNat_lt_true hk, if_true, hx, Option.bind_some, bindS_def]) (fun H => by simp [spec_l29Heads_l1]) _ (by simp)]
  simp only [Option.bind_some, id]
  rw [getI_at (show c.Words.length < ((List.range c.Words.length).foldl (hstep c) ((List.replicate (c.Words.length + 1) false).set 0 true)).length by rw [hfold_len]; simp)]
  simp only [Option.bind_some, Int.toNat_natCast]
  rfl
/-! the row of blocks -/
def bstep (H : List Bool) (s : List GBlock × Int) (i : Nat) : List GBlock × Int := if H[i]? = some true then (s.1 ++ [⟨s.2, (i : Int), []⟩], (i : Int)) else s
def rawBlocks (c : GCode) : List GBlock := ((List.range' 1 c.Words.length).foldl (bstep (headsB c)) ([], 0)).1
theorem blocks_loop {ρ : Type} (W : Nat) (hW : W ≤ 400) (H : List Bool) (hH : H.length = W + 1) (f : List GBlock × Int × Int → Option ((List GBlock × Int × Int) ⊕ ρ)) (fin : List GBlock → ρ)
    (hf : ∀ (o : List GBlock) (e : Int) (k : Nat), 1 ≤ k → k ≤ W → f (o, e, k) = (getI H k).bind fun e59 => if e59 = true then (appI 40 o [(⟨e, (k : Int), []⟩ : GBlock)]).bind fun l62 => some (Sum.inl (l62, (k : Int), IntKind.wrap .i64 ((k : Int) + 1))) else some (Sum.inl (o, e, IntKind.wrap .i64 ((k : Int) + 1))))
    (he : ∀ o e, f (o, e, ((W + 1 : Nat) : Int)) = some (.inr (fin o))) : loopP f ([], 0, 1) = some (fin ((List.range' 1 W).foldl (bstep H) ([], 0)).1) := by
  have := loopP_fold (List.range' 1 W) (fun (s : List GBlock × Int) k => (s.1, s.2, ((k + 1 : Nat) : Int))) (fun k s => s.1.length ≤ k) (fun s i => .inl (bstep H s i)) (fun s => fin s.1) f (fun s k hk hI => by
    left
    have hk' : k < W := by simpa using hk
    have hkH : k + 1 < H.length := by omega
    refine ⟨_, rfl, ?_, ?_⟩
    · rw [hf s.1 s.2 (k + 1) (by omega) (by omega), getI_at hkH]
      have hw : IntKind.wrap .i64 (((k + 1 : Nat) : Int) + 1) = ((k + 1 + 1 : Nat) : Int) := by rw [w64 (by omega) (by omega)]; omega
      simp only [Option.bind_some, hw, app1g (n := 40) (show s.1.length ≤ 1048576 by omega) (by omega)]
      have hr : (List.range' 1 W)[k] = k + 1 := by rw [List.getElem_range']; omega
      rw [hr]
      unfold bstep
      rw [List.getElem?_eq_getElem hkH]
      cases H[k + 1] <;> rfl
    · unfold bstep
      split
      · simp; omega
      · omega) (fun s _ => by rw [List.length_range']; exact he s.1 s.2) ([], 0) (by simp)
  rw [foldE_inl] at this
  exact this
/-- Blocks one behind the other, from a place to a place. -/
def Chain (H : List Bool) : Nat → List GBlock → Nat → Prop
  | s, [], e => s = e
  | s, b :: bs, e => b.From = s ∧ b.Next = [] ∧ ∃ t : Nat, b.To = t ∧ s < t ∧ (∀ j, s < j → j < t → H[j]? ≠ some true) ∧ H[t]? = some true ∧ Chain H t bs e
theorem Chain.snoc {H : List Bool} : ∀ {B : List GBlock} {s e i : Nat}, Chain H s B e → e < i → (∀ j, e < j → j < i → H[j]? ≠ some true) → H[i]? = some true → Chain H s (B ++ [⟨(e : Int), (i : Int), []⟩]) i
  | [], s, e, i, h, h1, h2, h3 => by
    simp only [Chain] at h
    subst h
    exact ⟨rfl, rfl, i, rfl, h1, h2, h3, rfl⟩
  | b :: B, s, e, i, h, h1, h2, h3 => by
    obtain ⟨q1, q2, t, q3, q4, q5, q6, q7⟩ := h
    exact ⟨q1, q2, t, q3, q4, q5, q6, q7.snoc h1 h2 h3⟩
theorem fold_chain {H : List Bool} (W : Nat) : ∀ (n : Nat), n ≤ W → ∃ e : Nat, e ≤ n ∧ (((List.range' 1 n).foldl (bstep H) ([], 0)).2 = (e : Int)) ∧ Chain H 0 ((List.range' 1 n).foldl (bstep H) ([], 0)).1 e ∧ ∀ j, e < j → j ≤ n → H[j]? ≠ some true
  | 0, _ => ⟨0, Nat.le_refl _, rfl, rfl, fun j h1 h2 => by omega⟩
  | n + 1, hn => by
    obtain ⟨e, h1, h2, h3, h4⟩ := fold_chain W n (by omega)
    rw [List.range'_1_concat, List.foldl_append, List.foldl_cons, List.foldl_nil]
    generalize (List.range' 1 n).foldl (bstep H) ([], 0) = s at *
    unfold bstep
    by_cases hH : H[1 + n]? = some true
    · rw [if_pos hH]
      refine ⟨n + 1, by omega, by simp only; omega, ?_, fun j h5 h6 => by omega⟩
      have := h3.snoc (i := 1 + n) (by omega) (fun j h5 h6 => h4 j h5 (by omega)) hH
      simp only
      rw [h2]
      rwa [show n + 1 = 1 + n by omega]
    · rw [if_neg hH]
      refine ⟨e, by omega, h2, h3, fun j h5 h6 => ?_⟩
      by_cases h7 : j ≤ n
      · exact h4 j h5 h7
      · have : j = 1 + n := by omega
        rw [this]; exact hH
theorem rawBlocks_chain {c : GCode} (hc : codeB c = true) : Chain (headsB c) 0 (rawBlocks c) c.Words.length := by
  obtain ⟨e, h1, h2, h3, h4⟩ := fold_chain (H := headsB c) c.Words.length c.Words.length (Nat.le_refl _)
  have hW : (headsB c)[c.Words.length]? = some true := by
    unfold headsB
    rw [List.getElem?_set, if_pos rfl, if_pos (by rw [hfold_len]; simp)]
  have : e = c.Words.length := by
    rcases Nat.lt_or_ge e c.Words.length with h | h
    · exact absurd hW (h4 _ h (Nat.le_refl _))
    · omega
  subst this
  exact h3
theorem Chain.le {H : List Bool} : ∀ {B : List GBlock} {s e : Nat}, Chain H s B e → s + B.length ≤ e
  | [], s, e, h => by simp only [Chain] at h; simp [h]
  | b :: B, s, e, h => by
    obtain ⟨q1, q2, t, q3, q4, q5, q6, q7⟩ := h
    have := q7.le
    simp only [List.length_cons]; omega
theorem Chain.get {H : List Bool} : ∀ {B : List GBlock} {s e : Nat}, Chain H s B e → ∀ (k : Nat) (hk : k < B.length), ∃ f t : Nat, B[k] = ⟨(f : Int), (t : Int), []⟩ ∧ s + k ≤ f ∧ f < t ∧ t ≤ e ∧ H[t]? = some true ∧ (∀ j, f < j → j < t → H[j]? ≠ some true)
  | b :: B, s, e, h, 0, hk => by
    obtain ⟨q1, q2, t, q3, q4, q5, q6, q7⟩ := h
    have := q7.le
    refine ⟨s, t, ?_, by omega, q4, by omega, q6, q5⟩
    obtain ⟨bf, bt, bn⟩ := b
    simp only at q1 q2 q3
    simp [q1, q2, q3]
  | b :: B, s, e, h, k + 1, hk => by
    obtain ⟨q1, q2, t, q3, q4, q5, q6, q7⟩ := h
    obtain ⟨f, t', g1, g2, g3⟩ := q7.get k (by simpa using hk)
    exact ⟨f, t', by simpa using g1, by omega, g3⟩
/-- A head begins one block. -/
theorem Chain.at {H : List Bool} : ∀ {B : List GBlock} {s e : Nat}, Chain H s B e → ∀ (i : Nat), s ≤ i → i < e → (i = s ∨ H[i]? = some true) → ∃ (b : Nat) (hb : b < B.length), B[b].From = (i : Int) ∧ (∀ k (hk : k < B.length), (B[k].From ≤ (i : Int) ∧ (i : Int) < B[k].To) → k = b) ∧ ((i : Int) < B[b].To) ∧ ∀ k (hk : k < B.length), B[k].From = (i : Int) → k = b
  | [], s, e, h, i, h1, h2, _ => by simp only [Chain] at h; omega
  | b :: B, s, e, h, i, h1, h2, h3 => by
    obtain ⟨q1, q2, t, q3, q4, q5, q6, q7⟩ := h
    by_cases hit : i < t
    · have his : i = s := by
        rcases h3 with h3 | h3
        · exact h3
        · rcases Nat.lt_or_ge s i with h5 | h5
          · exact absurd h3 (q5 i h5 hit)
          · omega
      subst his
      refine ⟨0, by simp, by simpa using q1, fun k hk hp => ?_, by simp [q3]; omega, fun k hk hp => ?_⟩
      · cases k with
        | zero => rfl
        | succ k =>
          exfalso
          obtain ⟨f, t', g1, g2, g3⟩ := q7.get k (by simpa using hk)
          simp only [List.getElem_cons_succ, g1] at hp
          omega
      · cases k with
        | zero => rfl
        | succ k =>
          exfalso
          obtain ⟨f, t', g1, g2, g3⟩ := q7.get k (by simpa using hk)
          simp only [List.getElem_cons_succ, g1] at hp
          omega
    · obtain ⟨b', hb', g1, g2, g3, g4⟩ := q7.at i (by omega) h2 (by
        rcases h3 with h3 | h3
        · omega
        · exact .inr h3)
      refine ⟨b' + 1, by simpa using hb', by simpa using g1, fun k hk hp => ?_, by simpa using g3, fun k hk hp => ?_⟩
      · cases k with
        | zero =>
          exfalso
          simp only [List.getElem_cons_zero, q3] at hp
          omega
        | succ k => rw [g2 k (by simpa using hk) (by simpa using hp)]
      · cases k with
        | zero =>
          exfalso
          simp only [List.getElem_cons_zero, q1] at hp
          omega
        | succ k => rw [g4 k (by simpa using hk) (by simpa using hp)]
end Go.OM
set_option linter.unusedVariables false
set_option linter.unusedSimpArgs false
namespace Go.OM
/-! ### Blocks and what comes behind them -/
theorem set_mono {H : List Bool} {a j : Nat} (h : H[j]? = some true) : (H.set a true)[j]? = some true := by
  rw [List.getElem?_set]
  split
  · have := (List.getElem?_eq_some_iff.1 h).1
    rename_i e
    subst e
    rw [if_pos this]
  · exact h
theorem hstep_mono {c : GCode} {H : List Bool} {i j : Nat} (h : H[j]? = some true) : (hstep c H i)[j]? = some true := by
  unfold hstep
  split
  · simp only
    split <;> split
    · exact set_mono (set_mono h)
    · exact set_mono h
    · exact set_mono h
    · exact h
  · exact h
theorem hfold_mono {c : GCode} {j : Nat} : ∀ (l : List Nat) {H : List Bool}, H[j]? = some true → (l.foldl (hstep c) H)[j]? = some true
  | [], _, h => h
  | i :: l, H, h => by rw [List.foldl_cons]; exact hfold_mono l (hstep_mono h)
theorem hfold_mark {c : GCode} {x : GIns} {i : Nat} (hx : c.Words[i]? = some x) (hj : jmpB x = true) : ∀ (l : List Nat) {H : List Bool}, i ∈ l → x.Num.toNat < H.length → (l.foldl (hstep c) H)[x.Num.toNat]? = some true
  | [], _, h, _ => by cases h
  | k :: l, H, h, hl => by
    rw [List.foldl_cons]
    by_cases e : i = k
    · subst e
      refine hfold_mono l ?_
      unfold hstep
      rw [hx]
      simp only [hj, if_true]
      split
      · exact set_mono (by rw [List.getElem?_set, if_pos rfl, if_pos hl])
      · rw [List.getElem?_set, if_pos rfl, if_pos hl]
    · exact hfold_mark hx hj l (by
        rcases List.mem_cons.1 h with h | h
        · exact absurd h e
        · exact h) (by rw [hstep_len]; exact hl)
theorem succ_head {c : GCode} (hc : codeB c = true) {t : Nat} (ht : 0 < t) (htw : t ≤ c.Words.length) (hH : (headsB c)[t]? = some true) {e : Int} (he : e ∈ nextI c (t - 1)) : 0 ≤ e ∧ e < c.Words.length ∧ (headsB c)[e.toNat]? = some true := by
  obtain ⟨_, _, _, ⟨hw1, hw2⟩, _, _, hwd⟩ := codeB_facts hc
  have hb := nextI_bnd he
  refine ⟨hb.1, hb.2, ?_⟩
  have hlt : t - 1 < c.Words.length := by omega
  unfold nextI at he
  rw [List.getElem?_eq_getElem hlt] at he
  simp only at he
  have he := (List.mem_filter.1 he).1
  have hnum : jmpB c.Words[t - 1] = true → (headsB c)[(c.Words[t - 1]).Num.toNat]? = some true := fun hj => by
    have hop : c.Words[t - 1].Op = 18 ∨ c.Words[t - 1].Op = 19 := by unfold jmpB at hj; simpa using hj
    have hn := wordB_num (hwd _ (List.getElem_mem hlt)) hop
    unfold headsB
    exact set_mono (hfold_mark (List.getElem?_eq_getElem hlt) hj _ (by simp; omega) (by simp; omega))
  have hnext : (headsB c)[(((t - 1 + 1 : Nat) : Int)).toNat]? = some true := by
    rw [Int.toNat_natCast, show t - 1 + 1 = t by omega]; exact hH
  unfold rawNext at he
  split at he
  · cases he
  · split at he
    · rename_i h18
      simp only [List.mem_singleton] at he
      subst he
      exact hnum (by unfold jmpB; simp [h18])
    · split at he
      · rename_i h19
        simp only [List.mem_cons, List.mem_nil_iff, or_false] at he
        rcases he with rfl | rfl
        · exact hnext
        · exact hnum (by unfold jmpB; simp [h19])
      · simp only [List.mem_singleton] at he
        subst he
        exact hnext
theorem filt_loop (out : List GBlock) (k : Nat) (hk : k < out.length) (F T : Int) (hb : out[k]? = some ⟨F, T, []⟩) (n : Nat) (p : Nat → Bool) (f : List GBlock × Int → Option ((List GBlock × Int) ⊕ List GBlock))
    (hf : ∀ (N : List Int) (v : Nat), v < n → N.length ≤ v → f (out.set k ⟨F, T, N⟩, v) = some (.inl (if p v = true then out.set k ⟨F, T, N ++ [(v : Int)]⟩ else out.set k ⟨F, T, N⟩, ((v + 1 : Nat) : Int))))
    (he : ∀ N, f (out.set k ⟨F, T, N⟩, n) = some (.inr (out.set k ⟨F, T, N⟩))) : loopP f (out, 0) = some (out.set k ⟨F, T, ((List.range n).filter p).map fun j : Nat => (j : Int)⟩) := by
  have hself : out = out.set k ⟨F, T, []⟩ := by
    apply List.ext_getElem?
    intro j
    rw [List.getElem?_set]
    by_cases e : k = j
    · subst e; rw [if_pos rfl, if_pos hk]; exact hb
    · rw [if_neg e]
  have := loopP_fold (List.range n) (fun (N : List Int) v => (out.set k ⟨F, T, N⟩, (v : Int))) (fun v N => N.length ≤ v) (fun N v => .inl (if p v = true then N ++ [(v : Int)] else N)) (fun N => out.set k ⟨F, T, N⟩) f (fun N v hv hI => by
    left
    have hv' : v < n := by simpa using hv
    refine ⟨_, rfl, ?_, ?_⟩
    · rw [hf N v hv' hI, List.getElem_range]
      cases p v <;> rfl
    · split
      · simp; omega
      · omega) (fun N _ => by rw [List.length_range]; exact he N) [] (by simp)
  rw [foldE_inl] at this
  have key : ∀ (l : List Nat) (s : List Int), l.foldl (fun N v => if p v = true then N ++ [(v : Int)] else N) s = s ++ (l.filter p).map fun j : Nat => (j : Int) := by
    intro l
    induction l with
    | nil => intro s; simp
    | cons x l ih =>
      intro s
      rw [List.foldl_cons, ih, List.filter_cons]
      cases p x <;> simp
  rw [key, List.nil_append] at this
  conv => lhs; rw [hself]
  exact this
def fromAt (B : List GBlock) (j : Nat) : Int := match B[j]? with | some x => x.From | none => 0
def nxt (c : GCode) (B : List GBlock) (b : GBlock) : List Int := ((List.range B.length).filter fun j => (nextI c (b.To.toNat - 1)).contains (fromAt B j)).map fun j : Nat => (j : Int)
def blocksB (c : GCode) : List GBlock := (rawBlocks c).map fun b => ⟨b.From, b.To, nxt c (rawBlocks c) b⟩
/-- The rows ahead of k are linked. -/
def Linked (c : GCode) (B : List GBlock) (k : Nat) (out : List GBlock) : Prop := out.length = B.length ∧ ∀ j, out[j]? = if j < k then (B[j]?).map (fun b => (⟨b.From, b.To, nxt c B b⟩ : GBlock)) else B[j]?
theorem Linked.ft {c : GCode} {B out : List GBlock} {k : Nat} (h : Linked c B k out) {j : Nat} (hj : j < B.length) : ∃ (ho : j < out.length), out[j].From = B[j].From ∧ out[j].To = B[j].To := by
  have ho : j < out.length := by rw [h.1]; exact hj
  refine ⟨ho, ?_⟩
  have := h.2 j
  rw [List.getElem?_eq_getElem ho, List.getElem?_eq_getElem hj] at this
  split at this
  · simp only [Option.map_some, Option.some.injEq] at this
    rw [this]; exact ⟨rfl, rfl⟩
  · simp only [Option.some.injEq] at this
    rw [this]; exact ⟨rfl, rfl⟩
theorem Linked.next {c : GCode} {B out : List GBlock} {k : Nat} (h : Linked c B k out) (hk : k < B.length) : Linked c B (k + 1) (out.set k ⟨B[k].From, B[k].To, nxt c B B[k]⟩) := by
  refine ⟨by simpa using h.1, fun j => ?_⟩
  rw [List.getElem?_set]
  by_cases e : k = j
  · subst e
    rw [if_pos rfl, if_pos (by rw [h.1]; exact hk), if_pos (by omega), List.getElem?_eq_getElem hk]; rfl
  · rw [if_neg e, h.2 j]
    by_cases h2 : j < k
    · rw [if_pos h2, if_pos (by omega)]
    · rw [if_neg h2, if_neg (by omega)]
theorem Linked.done {c : GCode} {B out : List GBlock} (h : Linked c B B.length out) : out = B.map fun b => ⟨b.From, b.To, nxt c B b⟩ := by
  apply List.ext_getElem?
  intro j
  rw [h.2 j, List.getElem?_map]
  by_cases hj : j < B.length
  · rw [if_pos hj]
  · rw [if_neg hj, List.getElem?_eq_none (by omega)]; rfl
theorem link_loop {c : GCode} (B : List GBlock) (hB : B.length ≤ 400) (f : List GBlock × Int → Option ((List GBlock × Int) ⊕ List GBlock))
    (hf : ∀ (out : List GBlock) (k : Nat) (hk : k < B.length), Linked c B k out → f (out, k) = some (.inl (out.set k ⟨B[k].From, B[k].To, nxt c B B[k]⟩, ((k + 1 : Nat) : Int)))) (he : ∀ out : List GBlock, out.length = B.length → f (out, B.length) = some (.inr out)) : loopP f (B, 0) = some (B.map fun b => ⟨b.From, b.To, nxt c B b⟩) := by
  obtain ⟨r, h1, h2⟩ := loopP_run (f := f) (fun s : List GBlock × Int => ∃ k : Nat, s.2 = k ∧ k ≤ B.length ∧ Linked c B k s.1) (fun s => B.length - s.2.toNat) (fun r => r = B.map fun b => ⟨b.From, b.To, nxt c B b⟩) (by
    rintro ⟨out, i⟩ ⟨k, rfl, hk, hL⟩
    simp only at hL hk
    by_cases hlt : k < B.length
    · left
      exact ⟨_, hf out k hlt hL, ⟨k + 1, rfl, by omega, hL.next hlt⟩, by simp only [Int.toNat_natCast]; omega⟩
    · right
      have : k = B.length := by omega
      subst this
      exact ⟨out, he out hL.1, hL.done⟩) (B, 0) ⟨0, rfl, by omega, rfl, fun j => by simp⟩
  rw [h1, h2]
theorem Linked.cur {c : GCode} {B out : List GBlock} {k : Nat} (h : Linked c B k out) (hk : k < B.length) : out[k]? = some B[k] := by
  rw [h.2 k, if_neg (by omega), List.getElem?_eq_getElem hk]
theorem fromAt_get {B : List GBlock} {j : Nat} (hj : j < B.length) : fromAt B j = B[j].From := by unfold fromAt; rw [List.getElem?_eq_getElem hj]
/-- The block of a place, where there is one alone. -/
theorem blockAt_unique (l : List GBlock) (hl : l.length ≤ 1048576) (i : Int) (b : Nat) (hb : b < l.length) (h1 : l[b].From ≤ i ∧ i < l[b].To) (h2 : ∀ k (hk : k < l.length), (l[k].From ≤ i ∧ i < l[k].To) → k = b) : spec_BlockAt l i = some (b : Int) := by
  unfold spec_BlockAt
  rw [find_range l.length (fun k => match l[k]? with | some x => if (decide (x.From ≤ i) && decide (i < x.To)) = true then some (k : Int) else none | none => none) (spec_BlockAt_l1 l i) (fun k hk => by
    simp only [spec_BlockAt_l1, ofNat_lt_true hk, if_true, getI_at hk, Option.bind_some, List.getElem?_eq_getElem hk, w64_nat hk hl]
    cases decide (l[k].From ≤ i) <;> cases decide (i < l[k].To) <;> rfl) (by simp [spec_BlockAt_l1])]
  have key : (List.range l.length).findSome? (fun k => match l[k]? with | some x => if (decide (x.From ≤ i) && decide (i < x.To)) = true then some (k : Int) else none | none => none) = some (b : Int) := by
    rw [List.findSome?_eq_some_iff]
    refine ⟨List.range b, b, List.range' (b + 1) (l.length - b - 1), ?_, ?_, fun k hk => ?_⟩
    · have e : l.length = b + ((l.length - b - 1) + 1) := by omega
      rw [List.range_eq_range', List.range_eq_range']
      conv => lhs; rw [e]
      rw [← List.range'_append_1, List.range'_succ, Nat.zero_add]
    · rw [List.getElem?_eq_getElem hb]
      simp [h1.1, h1.2]
    · have hkb : k < b := by simpa using hk
      have hkl : k < l.length := by omega
      rw [List.getElem?_eq_getElem hkl]
      simp only
      rw [if_neg]
      intro h
      simp only [Bool.and_eq_true, decide_eq_true_eq] at h
      have := h2 k hkl h
      omega
  rw [key]
  rfl
theorem raw_len (c : GCode) (hc : codeB c = true) : (rawBlocks c).length ≤ 400 := by
  obtain ⟨_, _, _, ⟨hw1, hw2⟩, _⟩ := codeB_facts hc
  have := (rawBlocks_chain hc).le
  omega
theorem impl_BlocksOf_eq (c : GCode) (h : GCode.le 1048576 c) (hc : codeB c = true) : impl_BlocksOf c = some (blocksB c) := by
  obtain ⟨_, _, _, ⟨hw1, hw2⟩, _⟩ := codeB_facts hc
  have hch := rawBlocks_chain hc
  have hrl := raw_len c hc
  unfold impl_BlocksOf
  rw [impl_CodeOk_eq c h, mk_wrap (by omega), mkI_len _ _ _ (by omega) (by omega)]
  have h0 : getI (List.replicate (c.Words.length + 1) false) 0 = some false := by rw [getI_zero, List.getElem?_replicate, if_pos (by omega)]
  simp only [Option.bind_some, hc, Bool.not_true, Bool.false_eq_true, if_false, h0, bindS_def]
  rw [getI_at (show c.Words.length < ((List.replicate (c.Words.length + 1) false).set 0 true).length by simp)]
  simp only [Option.bind_some, Int.toNat_natCast]
  rw [heads_loop c hc (impl_BlocksOf_l1 c) id (fun H k x hH hk hx => by simp only [impl_BlocksOf_l1, ofNat_lt_true hk, if_true, hx, Option.bind_some, bindS_def]) (fun H => by simp [impl_BlocksOf_l1]) _ (by simp)]
  simp only [Option.bind_some, id]
  rw [hfold_set]
  have hheads : ((List.range c.Words.length).foldl (hstep c) ((List.replicate (c.Words.length + 1) false).set 0 true)).set c.Words.length true = headsB c := rfl
  rw [hheads, blocks_loop c.Words.length hw2 (headsB c) (headsB_len c) (impl_BlocksOf_l2 c (headsB c)) id (fun o e k hk1 hk2 => by
    have hd : decide ((k : Int) ≤ (c.Words.length : Int)) = true := by simp only [decide_eq_true_eq]; omega
    simp only [impl_BlocksOf_l2, hd, if_true]) (fun o e => by
    have hd : decide (((c.Words.length + 1 : Nat) : Int) ≤ (c.Words.length : Int)) = false := by simp only [decide_eq_false_iff_not]; omega
    simp only [impl_BlocksOf_l2, hd, Bool.false_eq_true, if_false]; rfl)]
  simp only [Option.bind_some, id]
  have hraw : ((List.range' 1 c.Words.length).foldl (bstep (headsB c)) ([], 0)).1 = rawBlocks c := rfl
  rw [hraw, link_loop (c := c) (rawBlocks c) hrl (impl_BlocksOf_l3 c (rawBlocks c)) (fun out k hk hL => by
    obtain ⟨F, T, g1, g2, g3, g4, g5, g6⟩ := hch.get k hk
    have hko : k < out.length := by rw [hL.1]; exact hk
    have hcur := hL.cur hk
    rw [List.getElem?_eq_getElem hko] at hcur
    have hcur' := Option.some.inj hcur
    have hTw : IntKind.wrap .i64 ((T : Int) - 1) = ((T - 1 : Nat) : Int) := by rw [w64 (by omega) (by omega)]; omega
    simp only [impl_BlocksOf_l3, ofNat_lt_true hk, if_true, getI_at hko, Option.bind_some, hcur', g1, hTw, impl_Next_eq c (show c.Words.length ≤ 1048576 by omega) (T - 1) (by omega)]
    rw [filt_loop out k hko F T (by rw [List.getElem?_eq_getElem hko, hcur', g1]) (rawBlocks c).length (fun j => (nextI c (T - 1)).contains (fromAt (rawBlocks c) j)) (impl_BlocksOf_l4 out k (nextI c (T - 1))) (fun N v hv hN => by
      have hvo : v < (out.set k ⟨F, T, N⟩).length := by rw [List.length_set, hL.1]; exact hv
      have hvl : v < out.length := by rw [hL.1]; exact hv
      have hfr : (out.set k ⟨F, T, N⟩)[v].From = (rawBlocks c)[v].From := by
        obtain ⟨ho, e1, e2⟩ := hL.ft hv
        by_cases e : k = v
        · subst e
          rw [List.getElem_set_self, g1]
        · rw [List.getElem_set_ne e]; exact e1
      have hkk : getI (out.set k ⟨F, T, N⟩) (k : Int) = some ⟨F, T, N⟩ := getI_set hko
      have hnl := nextI_len c (T - 1)
      simp only [impl_BlocksOf_l4, hL.1, ofNat_lt_true hv, if_true, getI_at hvo, Option.bind_some, hfr, hasInt_eq _ _ (show (nextI c (T - 1)).length ≤ 1048576 by omega), hkk, app1 (n := 8) (show N.length ≤ 1048576 by omega) (by omega), bindS_def, Int.toNat_natCast, w64_nat hv (show (rawBlocks c).length ≤ 1048576 by omega), List.set_set, fromAt_get hv]
      cases (nextI c (T - 1)).contains (rawBlocks c)[v].From <;> rfl) (fun N => by simp [impl_BlocksOf_l4, hL.1])]
    simp only [Option.bind_some, w64_nat hk (show (rawBlocks c).length ≤ 1048576 by omega)]
    rfl) (fun out ho => by simp [impl_BlocksOf_l3])]
  rfl
def bSet (B : List GBlock) (n : Nat) (l : List Int) : List Bool → List Bool := fun has => l.foldl (fun h e => h.set ((((List.range n).findSome? fun k => if fromAt B k = e then some k else none)).getD 0) true) has
theorem spec_BlocksOf_eq (c : GCode) (h : GCode.le 1048576 c) (hc : codeB c = true) : spec_BlocksOf c = some (blocksB c) := by
  obtain ⟨_, _, _, ⟨hw1, hw2⟩, _⟩ := codeB_facts hc
  have hch := rawBlocks_chain hc
  have hrl := raw_len c hc
  unfold spec_BlocksOf
  rw [spec_CodeOk_eq c h]
  simp only [Option.bind_some, hc, Bool.not_true, Bool.false_eq_true, if_false, spec_l29Heads_eq c hc]
  rw [blocks_loop c.Words.length hw2 (headsB c) (headsB_len c) (spec_BlocksOf_l1 (headsB c)) id (fun o e k hk1 hk2 => by
    have hd : decide ((k : Int) < ((headsB c).length : Int)) = true := by simp only [headsB_len, decide_eq_true_eq]; omega
    simp only [spec_BlocksOf_l1, hd, if_true]) (fun o e => by
    have hd : decide (((c.Words.length + 1 : Nat) : Int) < ((headsB c).length : Int)) = false := by simp only [headsB_len, decide_eq_false_iff_not]; omega
    simp only [spec_BlocksOf_l1, hd, Bool.false_eq_true, if_false]; rfl)]
  simp only [Option.bind_some, id]
  have hraw : ((List.range' 1 c.Words.length).foldl (bstep (headsB c)) ([], 0)).1 = rawBlocks c := rfl
  rw [hraw, link_loop (c := c) (rawBlocks c) hrl (spec_BlocksOf_l2 c) (fun out k hk hL => by
    obtain ⟨F, T, g1, g2, g3, g4, g5, g6⟩ := hch.get k hk
    have hko : k < out.length := by rw [hL.1]; exact hk
    have hcur := hL.cur hk
    rw [List.getElem?_eq_getElem hko] at hcur
    have hcur' := Option.some.inj hcur
    have hTw : IntKind.wrap .i64 ((T : Int) - 1) = ((T - 1 : Nat) : Int) := by rw [w64 (by omega) (by omega)]; omega
    have hol := hL.1
    have hd : decide ((k : Int) < (out.length : Int)) = true := by simp only [decide_eq_true_eq]; omega
    simp only [spec_BlocksOf_l2, hd, if_true, getI_at hko, Option.bind_some, hcur', g1, hTw, spec_Next_eq c (show c.Words.length ≤ 1048576 by omega) (T - 1) (by omega)]
    rw [mkI_len _ _ _ (by omega) (by omega)]
    simp only [Option.bind_some]
    -- which blocks come behind
    have hhas : ∃ has : List Bool, loopP (spec_BlocksOf_l3 out (nextS c (T - 1))) (List.replicate out.length false, 0) = some has ∧ has.length = out.length ∧ ∀ v, v < out.length → (has[v]? = some true ↔ fromAt (rawBlocks c) v ∈ nextI c (T - 1)) := by
      obtain ⟨r, r1, r2⟩ := loopP_run (f := spec_BlocksOf_l3 out (nextS c (T - 1))) (fun s : List Bool × Int => ∃ q : Nat, s.2 = q ∧ q ≤ (nextS c (T - 1)).length ∧ s.1.length = out.length ∧ ∀ v, v < out.length → (s.1[v]? = some true ↔ fromAt (rawBlocks c) v ∈ (nextS c (T - 1)).take q)) (fun s => (nextS c (T - 1)).length - s.2.toNat) (fun r => r.length = out.length ∧ ∀ v, v < out.length → (r[v]? = some true ↔ fromAt (rawBlocks c) v ∈ nextI c (T - 1))) (by
        rintro ⟨has, i⟩ ⟨q, rfl, hq, hhl, hp⟩
        simp only at hq hhl hp
        have hsl := nextS_len c (T - 1)
        by_cases hlt : q < (nextS c (T - 1)).length
        · left
          have hmem := mem_nextS.1 (List.getElem_mem hlt)
          obtain ⟨s1, s2, s3⟩ := succ_head hc (t := T) (by omega) g4 g5 hmem
          obtain ⟨b, hb, t1, t2, t3, t4⟩ := hch.at ((nextS c (T - 1))[q].toNat) (by omega) (by omega) (.inr s3)
          have ei : (((nextS c (T - 1))[q].toNat : Nat) : Int) = (nextS c (T - 1))[q] := by omega
          rw [ei] at t1 t2 t3 t4
          have hbo : b < out.length := by omega
          have hba : spec_BlockAt out (nextS c (T - 1))[q] = some (b : Int) := by
            refine blockAt_unique out (by omega) _ b hbo ?_ (fun k' hk' hp' => ?_)
            · obtain ⟨ho, e1, e2⟩ := hL.ft hb
              rw [e1, e2]
              omega
            · obtain ⟨ho, e1, e2⟩ := hL.ft (j := k') (by omega)
              rw [e1, e2] at hp'
              exact t2 k' _ hp'
          refine ⟨(has.set b true, ((q + 1 : Nat) : Int)), ?_, ⟨q + 1, rfl, by omega, by simpa using hhl, fun v hv => ?_⟩, by simp only [Int.toNat_natCast]; omega⟩
          · simp only [spec_BlocksOf_l3, ofNat_lt_true hlt, if_true, getI_at hlt, Option.bind_some, hba, getI_at (show b < has.length by omega), bindS_def, Int.toNat_natCast, w64_nat hlt (by omega)]
          · rw [List.getElem?_set, List.take_add_one, List.getElem?_eq_getElem hlt]
            simp only [Option.toList_some, List.mem_append, List.mem_singleton]
            by_cases e : b = v
            · subst e
              rw [if_pos rfl, if_pos (by omega), fromAt_get hb, t1]
              simp
            · rw [if_neg e, hp v hv]
              constructor
              · exact .inl
              · rintro (h5 | h5)
                · exact h5
                · exfalso
                  have hvb : v < (rawBlocks c).length := by omega
                  rw [fromAt_get hvb] at h5
                  exact e (t4 v hvb h5).symm
        · right
          have : q = (nextS c (T - 1)).length := by omega
          subst this
          refine ⟨has, by simp [spec_BlocksOf_l3], hhl, fun v hv => ?_⟩
          rw [hp v hv, List.take_length, mem_nextS]) (List.replicate out.length false, 0) ⟨0, rfl, by omega, by simp, fun v hv => by simp [List.getElem?_replicate, hv]⟩
      exact ⟨r, r1, r2⟩
    obtain ⟨has, q1, q2, q3⟩ := hhas
    rw [q1]
    simp only [Option.bind_some]
    rw [filt_loop out k hko F T (by rw [List.getElem?_eq_getElem hko, hcur', g1]) (rawBlocks c).length (fun j => (nextI c (T - 1)).contains (fromAt (rawBlocks c) j)) (spec_BlocksOf_l4 k has) (fun N v hv hN => by
      have hvh : v < has.length := by omega
      have hkk : getI (out.set k ⟨F, T, N⟩) (k : Int) = some ⟨F, T, N⟩ := getI_set hko
      have hhv : has[v] = (nextI c (T - 1)).contains (fromAt (rawBlocks c) v) := by
        rw [Bool.eq_iff_iff, List.contains_iff_mem, ← q3 v (by omega), List.getElem?_eq_getElem hvh]
        simp
      simp only [spec_BlocksOf_l4, ofNat_lt_true hvh, if_true, getI_at hvh, Option.bind_some, hkk, app1 (n := 8) (show N.length ≤ 1048576 by omega) (by omega), bindS_def, Int.toNat_natCast, w64_nat hvh (show has.length ≤ 1048576 by omega), List.set_set, hhv]
      cases (nextI c (T - 1)).contains (fromAt (rawBlocks c) v) <;> rfl) (fun N => by
        have : (rawBlocks c).length = has.length := by omega
        rw [this]
        simp [spec_BlocksOf_l4])]
    simp only [Option.bind_some, w64_nat hk (show (rawBlocks c).length ≤ 1048576 by omega)]
    rfl) (fun out ho => by
      rw [← ho]
      simp [spec_BlocksOf_l2])]
  rfl
theorem blocksB_ok (c : GCode) (hc : codeB c = true) : (blocksB c).length ≤ 400 ∧ ∀ x ∈ blocksB c, x.Next.length ≤ 400 := by
  have := raw_len c hc
  refine ⟨by unfold blocksB; simpa using this, fun x hx => ?_⟩
  unfold blocksB at hx
  obtain ⟨b, _, rfl⟩ := List.mem_map.1 hx
  unfold nxt
  simp only [List.length_map]
  refine Nat.le_trans (List.length_filter_le _ _) ?_
  simpa using this
theorem law_BlocksOf (c : GCode) (hw : GCode.le maxLen c) : laws_FnExactBlocksOf c = some true := by
  unfold laws_FnExactBlocksOf
  obtain ⟨r, h1, h2, h3⟩ := laws_szCode_p c hw 1048576 (by omega) (by omega)
  rw [h1]
  simp only [Option.bind_some]
  by_cases hr : r < 0
  · simp [hr]
  · have hp := h3 (by omega)
    have hv : ∃ v : List GBlock, spec_BlocksOf c = some v ∧ impl_BlocksOf c = some v ∧ (v.length ≤ 1048576 ∧ ∀ x ∈ v, GBlock.le 1048576 x) := by
      by_cases hc : codeB c = true
      · obtain ⟨b1, b2⟩ := blocksB_ok c hc
        exact ⟨blocksB c, spec_BlocksOf_eq c hp hc, impl_BlocksOf_eq c hp hc, by omega, fun x hx => by have := b2 x hx; show x.Next.length ≤ _; omega⟩
      · refine ⟨[], ?_, ?_, by simp⟩
        · unfold spec_BlocksOf
          rw [spec_CodeOk_eq c hp]
          simp [Bool.eq_false_iff.2 hc]
        · unfold impl_BlocksOf
          rw [impl_CodeOk_eq c hp]
          simp [Bool.eq_false_iff.2 hc]
    obtain ⟨v, hv1, hv2, hok⟩ := hv
    obtain ⟨k1, c1, m1, m2, m3⟩ := laws_markCode_p c hp 1 (by omega) (by omega)
    obtain ⟨k2, v2, n1, n2, n3, n4⟩ := laws_markBlockS_p v hok 1 (by omega) (by omega)
    simp [hr, laws_toCode_p c hp, hv1, hv2, laws_eqBlockS_p v v hok hok, laws_eqCode_p c c hp hp, m1, n1, n4, show ¬ k1 < 0 by omega, show ¬ k2 < 0 by omega]
end Go.OM
