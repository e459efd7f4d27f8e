import Derived.Test.YtchcogjfmbfccaaOm12
set_option linter.unusedVariables false
set_option linter.unusedSimpArgs false
namespace Go.OM
variable {C : Ctx} {Z : Nat → Prop} {s : StA} {a : Act} {w w' : World} {E : Env} {o : Oper} {σ σ' : St} {K : Act → World → Prop} {Q : Exit → Act → World → Prop}

/-! ### Several operands at once -/
def St.takeAll (N : Nat) : List (Nat × Operand) → St → Option (List (Nat × T) × St)
  | [], σ => some ([], σ)
  | (i, x) :: ps, σ => (σ.take N x).bind fun y => (St.takeAll N ps y.2).bind fun z => some ((i, y.1) :: z.1, z.2)
theorem takeAll_ok : ∀ (ps : List (Nat × Operand)) (s : StA) (σ' : St) (ys : List (Nat × T)), SRel C Z s a w → St.takeAll C.N ps s.er = some (ys, σ') →
    ∃ (s' : StA) (ysA : List (Nat × TA)), ysA.map (fun p => (p.1, TA.er p.2)) = ys ∧ s'.er = σ' ∧ SRel C Z s' a w ∧ (∀ k, TA.cntL k s'.hd = TA.cntL k (ysA.map Prod.snd) + TA.cntL k s.hd) ∧ TA.HoldsL Z w.heap (ysA.map Prod.snd) ∧ ps.map (fun p => (p.1, a.eval p.2)) = ysA.map (fun p => (p.1, TA.val p.2))
  | [], s, σ', ys, H, h => by
    simp only [St.takeAll, Option.some.injEq, Prod.mk.injEq] at h
    obtain ⟨rfl, rfl⟩ := h
    exact ⟨s, [], rfl, rfl, H, fun k => by simp [TA.cntL], by simp [TA.HoldsL], rfl⟩
  | (i, x) :: ps, s, σ', ys, H, h => by
    simp only [St.takeAll] at h
    obtain ⟨⟨y, σ1⟩, ht, h⟩ := Option.bind_eq_some_iff.1 h
    obtain ⟨⟨zs, σ2⟩, hr, h⟩ := Option.bind_eq_some_iff.1 h
    simp only [Option.some.injEq, Prod.mk.injEq] at h
    obtain ⟨rfl, rfl⟩ := h
    obtain ⟨s1, yA, t1, t2, t3, t4, t5, t6⟩ := take_ok H ht
    subst t2
    obtain ⟨s2, ysA, r1, r2, r3, r4, r5, r6⟩ := takeAll_ok ps s1 _ _ t4 hr
    refine ⟨s2, (i, yA) :: ysA, by simp [t1, r1], r2, r3, fun k => ?_, ?_, by simp [t5, r6]⟩
    · have := r4 k
      rw [t3] at this
      simp only [TA.cntL, List.map_cons] at this ⊢
      omega
    · simp only [List.map_cons, TA.HoldsL]
      exact ⟨t6, r5⟩

theorem foldl_wrL (off : Nat) (l : List Value) (n : Nat) (c : Array Value) : (l.zipIdx n).foldl (fun cs p => cs.setIfInBounds (off + p.2) p.1) c = wrL c (off + n) l := by
  induction l generalizing n c with
  | nil => rfl
  | cons v vs ih => simp only [List.zipIdx_cons, List.foldl_cons, ih, wrL]; rfl
theorem fill_step {place : Nat → Option (Nat × Nat)} {c : Array Value} {i off sz : Nat} {v : Value} {rest : List (Nat × Value)} (hp : place i = some (off, sz)) (hv : v.cells.size = sz) (hl : off + sz ≤ c.size) :
    Instr.fill place c ((i, v) :: rest) = Instr.fill place (wrL c off v.cells.toList) rest := by
  simp only [Instr.fill, hp]
  rw [if_neg (by simp [hv]; omega)]
  congr 1
  rw [← Array.foldl_toList, Array.toList_zipIdx]
  exact foldl_wrL off v.cells.toList 0 c

/-! ### A slice's literal -/
def idxOk : Nat → List (Nat × Operand) → Bool
  | _, [] => true
  | n, (i, _) :: ps => i == n && idxOk (n + 1) ps
def stLit (E : Env) (N : Nat) (dst : Option Nat) (t : TypeId) (len : Nat) (ps : List (Nat × Operand)) (σ : St) : Option St := (elemSize E t).bind fun sz =>
  if idxOk 0 ps = true ∧ ps.length = len ∧ len * sz ≤ 16777216 then (σ.takeAll N ps).bind fun y => if y.1.all (fun p => p.2.cells.length == sz) = true then y.2.put? N dst (.t (.sl true sz (y.1.map Prod.snd))) else none else none
theorem fill_row {sz : Nat} : ∀ (ys : List (Nat × TA)) (n : Nat) (c : Array Value) (vs : List (Nat × Value)), vs = ys.map (fun p => (p.1, TA.val p.2)) → (∀ j p, ys[j]? = some p → p.1 = n + j) → (∀ p ∈ ys, p.2.cells.length = sz ∧ p.2.val.cells.toList = TA.vals p.2.cells) → (n + ys.length) * sz ≤ c.size →
    ∃ c', Instr.fill (fun i => some (i * sz, sz)) c vs = some c' ∧ c'.size = c.size ∧ (∀ j, j < n * sz → c'[j]? = c[j]?) ∧ ∀ j u, (TA.vals ((ys.map Prod.snd).flatMap TA.cells))[j]? = some u → c'[n * sz + j]? = some u
  | [], n, c, vs, hv, _, _, _ => by subst hv; exact ⟨c, rfl, rfl, fun _ _ => rfl, fun j u hj => by simp [TA.vals] at hj⟩
  | (i, y) :: ys, n, c, vs, hv, hi, hy, hl => by
    subst hv
    have hi0 : i = n := by have := hi 0 (i, y) rfl; simpa using this
    subst hi0
    obtain ⟨hy1, hy2⟩ := hy (i, y) (by simp)
    have hsz : y.val.cells.size = sz := by
      have := congrArg List.length hy2
      rw [TA.vals_length, hy1] at this
      simpa using this
    have hmul : (i + (ys.length + 1)) * sz = i * sz + sz + ys.length * sz := by rw [Nat.add_mul, Nat.succ_mul]; omega
    simp only [List.length_cons] at hl
    rw [hmul] at hl
    simp only [List.map_cons]
    rw [fill_step (place := fun i => some (i * sz, sz)) (off := i * sz) (sz := sz) rfl hsz (by omega)]
    have hl2 : (i + 1 + ys.length) * sz ≤ (wrL c (i * sz) y.val.cells.toList).size := by
      rw [wrL_size, Nat.add_mul, Nat.succ_mul]; omega
    obtain ⟨c', e1, e2, e3, e4⟩ := fill_row ys (i + 1) (wrL c (i * sz) y.val.cells.toList) _ rfl (fun j p hj => by have := hi (j + 1) p (by simpa using hj); omega) (fun p hp => hy p (by simp [hp])) hl2
    refine ⟨c', e1, by rw [e2, wrL_size], fun j hj => ?_, fun j u hj => ?_⟩
    · rw [e3 j (by rw [Nat.succ_mul]; omega), wrL_get _ _ _ _ (by rw [hy2, TA.vals_length, hy1]; omega), if_neg (by omega)]
    · simp only [List.flatMap_cons, TA.vals_append] at hj
      by_cases hjs : j < sz
      · rw [List.getElem?_append_left (by rw [TA.vals_length, hy1]; exact hjs)] at hj
        rw [e3 _ (by rw [Nat.succ_mul]; omega), wrL_get _ _ _ _ (by rw [hy2, TA.vals_length, hy1]; omega), if_pos (by rw [hy2, TA.vals_length, hy1]; omega), hy2, Nat.add_sub_cancel_left]
        exact hj
      · rw [List.getElem?_append_right (by rw [TA.vals_length, hy1]; omega), TA.vals_length, hy1] at hj
        have := e4 _ u hj
        rw [Nat.succ_mul] at this
        rw [show i * sz + j = i * sz + sz + (j - sz) by omega]
        exact this
theorem idxOk_get : ∀ (ps : List (Nat × Operand)) (n : Nat), idxOk n ps = true → ∀ (j : Nat) (p : Nat × Operand), ps[j]? = some p → p.1 = n + j
  | [], _, _, j, p, hj => by simp at hj
  | (i, x) :: ps, n, h, j, p, hj => by
    simp only [idxOk, Bool.and_eq_true, beq_iff_eq] at h
    cases j with
    | zero => simp only [List.getElem?_cons_zero, Option.some.injEq] at hj; subst hj; simpa using h.1
    | succ j => simp only [List.getElem?_cons_succ] at hj; have := idxOk_get ps (n + 1) h.2 j p hj; omega
theorem stLit_ok {t : TypeId} {len : Nat} {ps : Array (Nat × Operand)} (ho : o.op = .buildSlice t len ps) (h : stLit E C.N o.dst t len ps.toList σ = some σ') (H : SOk C σ a w) (hK : ∀ a' w', SOk C σ' a' w' → K a' w') : o.wp E.P a w K Q := by
  unfold stLit at h
  obtain ⟨sz, hsz, h⟩ := Option.bind_eq_some_iff.1 h
  obtain ⟨e, ti, ht, hti, rfl⟩ := elemSize_ok hsz
  split at h
  case isFalse => cases h
  rename_i hc
  obtain ⟨hidx, hlen, h24⟩ := hc
  obtain ⟨⟨ys, σ1⟩, hta, h⟩ := Option.bind_eq_some_iff.1 h
  split at h
  case isFalse => cases h
  rename_i hall
  obtain ⟨s0, Z, h1, h2, h3⟩ := id H
  subst h1
  obtain ⟨s, ysA, r1, r2, r3, r4, r5, r6⟩ := takeAll_ok _ _ _ _ h3 hta
  subst r2; subst r1
  have ok := E.ok e ti hti
  obtain ⟨kg, k1⟩ := kk_getD E hti
  have hlenA : ysA.length = len := by
    have := congrArg List.length r6
    simp only [List.length_map] at this
    rw [← this]; exact hlen
  have hcells : ∀ p ∈ ysA, p.2.cells.length = ti.size ∧ p.2.val.cells.toList = TA.vals p.2.cells := by
    intro p hp
    have h5 := List.all_eq_true.1 hall (p.1, p.2.er) (List.mem_map.2 ⟨p, hp, rfl⟩)
    simp only [beq_iff_eq] at h5
    rw [TA.er_cells, TA.er_len] at h5
    exact ⟨h5, val_cells' (TA.holdsL_iff.1 r5 p.2 (List.mem_map.2 ⟨p, hp, rfl⟩))⟩
  have hvs : (ps.map fun p => (p.1, a.eval p.2)).toList = ysA.map (fun p => (p.1, TA.val p.2)) := by rw [← r6]; simp
  have hcsz : ((Array.range (len * ti.size)).map (fun i => ti.zv.cells[i % ti.zv.cells.size]!)).size = len * ti.size := by simp
  obtain ⟨c', e1, e2, e3, e4⟩ := fill_row (sz := ti.size) ysA 0 (if len * ti.size = 0 then (Array.range (len * ti.size)).map (fun i => (#[] : Array Value)[i % 0]!) else (Array.range (len * ti.size)).map (fun i => ti.zv.cells[i % ti.zv.cells.size]!)) _ hvs
    (fun j p hj => by
      have h7 : (ps.toList.map fun p => (p.1, a.eval p.2))[j]? = some (p.1, p.2.val) := by rw [r6, List.getElem?_map, hj]; rfl
      rw [List.getElem?_map] at h7
      obtain ⟨q, hq, hq2⟩ := Option.map_eq_some_iff.1 h7
      have := idxOk_get ps.toList 0 hidx j q hq
      simp only [Prod.mk.injEq] at hq2
      omega) hcells (by split <;> simp [hlenA])
  have hc'sz : c'.size = len * ti.size := by rw [e2]; split <;> simp
  have hnew := r3.newSl (w' := { w with heap := w.heap.push (.cells c' e) }) (es := ysA.map Prod.snd) (hd0 := []) (cap := len) (sz := ti.size) rfl rfl rfl rfl r5 (by simp [TA.HoldsL]) (fun k => by rw [r4 k]; simp only [TA.cntL]; omega) (by simp [hlenA])
    (fun el hel => by obtain ⟨p, hp, rfl⟩ := List.mem_map.1 hel; exact (hcells p hp).1) (by rw [hc'sz]; exact Nat.le_refl _) (fun j u hj => by have := e4 j u hj; rwa [Nat.zero_mul, Nat.zero_add] at this)
  refine wp_value (v := .slice (some ⟨w.heap.size, 0, none⟩) len len) (w' := { w with heap := w.heap.push (.cells c' e) }) ?_ (hK _ _ ?_)
  · have h24' : ¬ (len * ti.size > 2 ^ 24) := by omega
    simp only [execOp, ho, Instr.buildSlice, Sem.run_bind, run_underlying ht, Result.andThen_ok, ok.run_sizeOf w]
    rw [if_neg h24']
    by_cases hz : len * ti.size = 0
    · rw [if_pos hz] at e1 ⊢
      simp only [Sem.run_bind, Sem.run_pure, Result.andThen_ok, Array.size_empty]
      rw [show (ps.map fun (p : Nat × Operand) => (p.1, a.eval p.2)).toList = (ps.map fun p => (p.1, a.eval p.2)).toList from rfl]
      rw [e1]
      simp [newRow]
    · rw [if_neg hz] at e1 ⊢
      simp only [Sem.run_bind, ok.run_zero w, Sem.run_pure, Result.andThen_ok]
      rw [e1]
      simp [newRow]
  · refine SOk.put? hnew rfl h (xA := .t (.sl true ti.size w.heap.size 0 len (ysA.map Prod.snd))) ?_ ⟨?_, ?_⟩ (fun k => ?_)
    · simp [AVA.er, TA.er, TA.erL_map]
    · simp [TA.val, TA.val1, hlenA]
    · have := hnew.hand
      simp only [TA.HoldsL] at this
      exact this.1
    · simp [AVA.cnt_t, TA.cntL]
end Go.OM
