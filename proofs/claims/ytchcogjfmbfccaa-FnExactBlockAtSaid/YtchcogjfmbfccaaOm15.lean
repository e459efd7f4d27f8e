import Derived.Test.YtchcogjfmbfccaaOm14
set_option linter.unusedVariables false
set_option linter.unusedSimpArgs false
namespace Go.OM
variable {C : Ctx} {Z : Nat → Prop} {s : StA} {a : Act} {w w' : World} {E : Env} {o : Oper} {σ σ' : St} {K : Act → World → Prop} {Q : Exit → Act → World → Prop}

/-! ### append -/
/-- A row's header, its elements' cells. -/
structure RowAt (h : Array Obj) (own : Bool) (sz : Nat) (v : Value) (es : List TA) : Prop where
  cells : ∀ e ∈ es, e.cells.length = sz
  row : (∃ A, v = .slice A 0 0 ∧ es = [] ∧ (own = true → A = none)) ∨ ∃ b off cap, v = .slice (some ⟨b, off, none⟩) es.length cap ∧ es.length ≤ cap ∧ TA.Mem h own b off (cap * sz) (TA.vals (es.flatMap TA.cells))
theorem rowAt_of {h : Array Obj} {x : TA} {ow : Bool} {sz : Nat} {es : List T} (hx : x.Holds Z h) (he : x.er = .sl ow sz es) : ∃ esA, TA.erL esA = es ∧ RowAt h ow sz x.val esA ∧ TA.HoldsL Z h esA ∧ (∀ k, TA.cntL k esA ≤ x.cnt k) ∧ ((∃ A, x = .nl ow sz A ∧ esA = []) ∨ ∃ b off cap, x = .sl ow sz b off cap esA) := by
  rcases er_sl he with ⟨A, rfl, rfl⟩ | ⟨b, off, cap, esA, rfl, rfl⟩
  · simp only [TA.Holds] at hx
    exact ⟨[], rfl, ⟨by simp, .inl ⟨A, rfl, rfl, hx⟩⟩, by simp [TA.HoldsL], fun k => by simp [TA.cntL], .inl ⟨A, rfl, rfl⟩⟩
  · simp only [TA.Holds] at hx
    exact ⟨esA, rfl, ⟨hx.2.2.2.2, .inr ⟨b, off, cap, rfl, hx.2.1, hx.1⟩⟩, hx.2.2.2.1, fun k => by simp only [TA.cnt]; omega, .inr ⟨b, off, cap, rfl⟩⟩
theorem run_firstCells {P : Program} {ow : Bool} {sz : Nat} {v : Value} {es : List TA} {w1 : World} (hr : RowAt w.heap ow sz v es) (hw : w1.heap = w.heap) : (Builtin.firstCells sz es.length v).run P w1 = .ok (TA.vals (es.flatMap TA.cells)).toArray w1 := by
  rcases hr.row with ⟨A, rfl, rfl, _⟩ | ⟨b, off, cap, rfl, hle, hm⟩
  · cases A with
    | none => simp [Builtin.firstCells, TA.vals]
    | some A => exact run_firstCells_some w1 sz 0 A 0 0 [] (by simp) (fun j u hj => by simp at hj)
  · obtain ⟨cs, ety, fr, g1, g2, g3⟩ := hm
    refine run_firstCells_some w1 sz es.length ⟨b, off, none⟩ es.length cap (TA.vals (es.flatMap TA.cells)) (by rw [TA.vals_length, flat_length hr.cells]) (fun j u hj => ?_)
    rw [Addr_add_lit]
    simp only [World.cell?, hw, g1]
    simpa using g3 j u hj
theorem run_lenOf {P : Program} {ow : Bool} {sz : Nat} {v : Value} {es : List TA} {h : Array Obj} {w1 : World} (hr : RowAt h ow sz v es) : (Builtin.lenOf v).run P w1 = .ok es.length w1 := by
  rcases hr.row with ⟨A, rfl, rfl, _⟩ | ⟨b, off, cap, rfl, hle, hm⟩ <;> rfl

/-- Behind an append: in place, or moved. -/
theorem run_append {t e ty : TypeId} {ti : TI} {v0 v1 : Value} {es0 es1 : List TA} {ow : Bool} (ht : E.P.underlying t = some (.slice e)) (hti : E.ty e = some ti) (hr0 : RowAt w.heap true ti.size v0 es0) (hr1 : RowAt w.heap ow ti.size v1 es1)
    (h1 : ∀ v ∈ TA.vals (es1.flatMap TA.cells), TA.OneCell v) (hb : (es0.length + es1.length) * ti.bytes ≤ 140737488355328) (hl : es0.length + es1.length ≤ 140737488355328) :
    (v0 = .slice none 0 0 ∧ es0 = [] ∧ es1 = [] ∧ (Builtin.append_ #[t, t] ty #[v0, v1]).run E.P w = .ok (.slice none 0 0) w) ∨
    (∃ b off cap c ety, v0 = .slice (some ⟨b, off, none⟩) es0.length cap ∧ es0.length + es1.length ≤ cap ∧ w.heap[b]? = some (.cells c ety (0, 0)) ∧ off + cap * ti.size ≤ c.size ∧
      (Builtin.append_ #[t, t] ty #[v0, v1]).run E.P w = .ok (.slice (some ⟨b, off, none⟩) (es0.length + es1.length) cap) { w with heap := wr w.heap b (off + es0.length * ti.size) (TA.vals (es1.flatMap TA.cells)) }) ∨
    (∃ cap rest, es0.length + es1.length ≤ cap ∧ cap * ti.size ≤ ((TA.vals (es0.flatMap TA.cells)).toArray ++ (TA.vals (es1.flatMap TA.cells)).toArray ++ rest : Array Value).size ∧
      (Builtin.append_ #[t, t] ty #[v0, v1]).run E.P w = .ok (.slice (some ⟨w.heap.size, 0, none⟩) (es0.length + es1.length) cap) (w.drew.alloc (.cells ((TA.vals (es0.flatMap TA.cells)).toArray ++ (TA.vals (es1.flatMap TA.cells)).toArray ++ rest) e))) := by
  have ok := E.ok e ti hti
  obtain ⟨i, hi, hz, hs, hby⟩ := ok.info
  have hf1 : ∀ (w1 : World), w1.heap = w.heap → (Builtin.firstCells ti.size es1.length v1).run E.P w1 = .ok (TA.vals (es1.flatMap TA.cells)).toArray w1 := fun w1 hw => run_firstCells hr1 hw
  have hf0 : ∀ (w1 : World), w1.heap = w.heap → (Builtin.firstCells ti.size es0.length v0).run E.P w1 = .ok (TA.vals (es0.flatMap TA.cells)).toArray w1 := fun w1 hw => run_firstCells hr0 hw
  have hlen1 := run_lenOf (P := E.P) (w1 := w) hr1
  have grow : ∀ (A : Option Addr) (cap : Nat), v0 = .slice A es0.length cap → cap < es0.length + es1.length → es0.length ≤ cap →
      ∃ cap' rest, es0.length + es1.length ≤ cap' ∧ cap' * ti.size ≤ ((TA.vals (es0.flatMap TA.cells)).toArray ++ (TA.vals (es1.flatMap TA.cells)).toArray ++ rest : Array Value).size ∧
      (Builtin.append_ #[t, t] ty #[v0, v1]).run E.P w = .ok (.slice (some ⟨w.heap.size, 0, none⟩) (es0.length + es1.length) cap') (w.drew.alloc (.cells ((TA.vals (es0.flatMap TA.cells)).toArray ++ (TA.vals (es1.flatMap TA.cells)).toArray ++ rest) e)) := by
    intro A cap hv hg hle
    have hn : ¬ (es0.length + es1.length ≤ cap) := by omega
    have h63' : ¬ (9223372036854775807 < ((es0.length : Int) + (es1.length : Int))) := by omega
    have hfit := growslice_fits (need := es0.length + es1.length) (old := cap) (bytes := ti.bytes) hg hb
    have h48' : ¬ (281474976710656 < Builtin.nextslicecap (es0.length + es1.length) cap * i.bytes) := by rw [hby]; omega
    have hf := hf1 w.drew rfl
    have hfo := hf0 w.drew rfl
    rw [hv] at hfo
    have hcap : es0.length + es1.length ≤ grownCap w (es0.length + es1.length) cap e := by simp only [grownCap, Question.cut]; omega
    have hz2 : ti.zv.cells.size = ti.size := by rw [zv_cells ok]; simp [TA.vals_length, ok.len]
    refine ⟨grownCap w (es0.length + es1.length) cap e, Builtin.zeroCells ti.zv.cells (grownCap w (es0.length + es1.length) cap e - (es0.length + es1.length)), hcap, ?_, ?_⟩
    · have : (Builtin.zeroCells ti.zv.cells (grownCap w (es0.length + es1.length) cap e - (es0.length + es1.length))).size = (grownCap w (es0.length + es1.length) cap e - (es0.length + es1.length)) * ti.size := by simp [Builtin.zeroCells, hz2]
      simp only [Array.size_append, List.size_toArray, TA.vals_length, flat_length hr0.cells, flat_length hr1.cells, this, ← Nat.add_mul]
      exact Nat.le_of_eq (by congr 1; omega)
    · rw [hv]
      rw [← hs] at hf hfo
      simp [Builtin.append_, run_underlying ht, sizeOf, typeInfo, zeroValue, hi, hz, hlen1, hn, h63', h48', Question.forced, hf, hfo, newRow, grownCap]
      congr 2
      apply Array.ext'
      simp [List.append_assoc]
  rcases hr0.row with ⟨A0, hv0, he0, hA0⟩ | ⟨b, off, cap, hv0, hle, hm⟩
  · by_cases he1 : es1 = []
    · left
      rw [hA0 rfl] at hv0
      refine ⟨hv0, he0, he1, ?_⟩
      have hf := hf1 w rfl
      rw [he1] at hf hlen1
      subst hv0
      simp only [List.length_nil] at hf hlen1
      simp [Builtin.append_, run_underlying ht, sizeOf, typeInfo, hi, hs, hlen1, hf]
    · right; right
      have hp : 0 < es1.length := List.length_pos_iff.2 he1
      exact grow A0 0 (by rw [hv0, he0]; rfl) (by omega) (by rw [he0]; exact Nat.le_refl _)
  · by_cases hroom : es0.length + es1.length ≤ cap
    · right; left
      obtain ⟨c, ety, fr, g1, g2, g3⟩ := hm
      obtain ⟨g2a, g2b⟩ := g2 rfl
      subst g2b
      refine ⟨b, off, cap, c, ety, hv0, hroom, g1, g2a, ?_⟩
      have hlen : (TA.vals (es1.flatMap TA.cells)).length = es1.length * ti.size := by rw [TA.vals_length, flat_length hr1.cells]
      have hmul : (es0.length + es1.length) * ti.size ≤ cap * ti.size := Nat.mul_le_mul_right _ hroom
      rw [Nat.add_mul] at hmul
      have hst := run_store_row (P := E.P) (w := w) (b := b) (off := off + es0.length * ti.size) (TA.vals (es1.flatMap TA.cells)) g1 (by rw [hlen]; omega) h1
      have hf := hf1 w rfl
      subst hv0
      simp [Builtin.append_, run_underlying ht, sizeOf, typeInfo, hi, hs, hlen1, hroom, hf, Addr_add_lit, hst]
    · right; right
      exact grow _ cap hv0 (by omega) hle

theorem erL_append (a b : List TA) : TA.erL (a ++ b) = TA.erL a ++ TA.erL b := by simp [TA.erL_map]
/-- The hand's row, longer. -/
theorem SRel.longer {b off cap sz : Nat} {es0 es1 hd0 : List TA} {x0 : TA} {c : Array Value} {ety : TypeId} (H : SRel C Z s a w) (hx0 : x0 = .sl true sz b off cap es0) (h0 : x0.Holds Z w.heap) (h1 : TA.HoldsL Z w.heap es1) (hh : TA.HoldsL Z w.heap hd0)
    (hce : ∀ k, x0.cnt k + TA.cntL k es1 + TA.cntL k hd0 ≤ TA.cntL k s.hd) (hsz1 : ∀ e ∈ es1, e.cells.length = sz) (hcap : es0.length + es1.length ≤ cap) (hb : w.heap[b]? = some (.cells c ety (0, 0))) (hroom : off + cap * sz ≤ c.size) :
    SRel C Z ⟨s.tm, s.bx, .sl true sz b off cap (es0 ++ es1) :: hd0⟩ a { w with heap := wr w.heap b (off + es0.length * sz) (TA.vals (es1.flatMap TA.cells)) } := by
  subst hx0
  have hcb : 0 < TA.cntL b s.hd := by have := hce b; simp [TA.cnt] at this; omega
  have hhu : ∀ k, TA.cntL k s.hd ≤ 1 := fun k => by have := H.uniq k; simp only [StA.cnt] at this; omega
  have hbz : ¬ Z b := H.notZ b (by simp only [StA.cnt]; omega)
  have hbes0 : TA.cntL b es0 = 0 := by have h1 := hce b; have h2 := hhu b; simp [TA.cnt] at h1; omega
  have hbes1 : TA.cntL b es1 = 0 := by have h1 := hce b; have h2 := hhu b; simp [TA.cnt] at h1; omega
  have hbhd0 : TA.cntL b hd0 = 0 := by have h1 := hce b; have h2 := hhu b; simp [TA.cnt] at h1; omega
  have hbtm : ∀ n y, look s.tm n = some y → y.cnt b = 0 := by
    intro n y hy
    have e1 := look_le_tot (AVA.cnt b) hy
    have e2 := H.uniq b
    simp only [StA.cnt] at e2
    omega
  have hbbx : ∀ n y, look s.bx n = some y → BoxA.cnt b y = 0 := by
    intro n y hy
    have e1 := look_le_tot (BoxA.cnt b) hy
    have e2 := H.uniq b
    simp only [StA.cnt] at e2
    omega
  have hfr : ∀ (l : List TA), TA.HoldsL Z w.heap l → TA.cntL b l = 0 → TA.HoldsL Z (wr w.heap b (off + es0.length * sz) (TA.vals (es1.flatMap TA.cells))) l := fun l hl hc => TA.HoldsL.frame l hl (fun _ hz => hz) (fun k hk => wr_ne _ _ _ _ (fun e => by
    subst e
    rcases hk with hk | hk
    · omega
    · exact hbz hk))
  simp only [TA.Holds] at h0
  obtain ⟨m1, m2, m3, m4, m5⟩ := h0
  have hsz : ∀ e ∈ es0 ++ es1, e.cells.length = sz := by
    intro e he
    rcases List.mem_append.1 he with he | he
    · exact m5 e he
    · exact hsz1 e he
  have hmul : (es0.length + es1.length) * sz ≤ cap * sz := Nat.mul_le_mul_right _ hcap
  rw [Nat.add_mul] at hmul
  have hl1 : (TA.vals (es1.flatMap TA.cells)).length = es1.length * sz := by rw [TA.vals_length, flat_length hsz1]
  have hl0 : (TA.vals (es0.flatMap TA.cells)).length = es0.length * sz := by rw [TA.vals_length, flat_length m5]
  have hnew : (TA.sl true sz b off cap (es0 ++ es1)).Holds Z (wr w.heap b (off + es0.length * sz) (TA.vals (es1.flatMap TA.cells))) := by
    simp only [TA.Holds]
    refine ⟨⟨_, ety, (0, 0), wr_self _ _ hb, fun _ => ⟨by rw [wrL_size]; exact hroom, rfl⟩, fun j u hj => ?_⟩, by simpa using hcap, (fun hh => nomatch hh), holdsL_append.2 ⟨hfr es0 m4 hbes0, hfr es1 h1 hbes1⟩, hsz⟩
    rw [List.flatMap_append, TA.vals_append] at hj
    rw [wrL_get _ _ _ _ (by rw [hl1]; omega), hl1]
    by_cases hjs : j < es0.length * sz
    · rw [List.getElem?_append_left (by rw [hl0]; exact hjs)] at hj
      rw [if_neg (by omega)]
      obtain ⟨c2, ety2, fr2, g1, g2, g3⟩ := m1
      rw [hb] at g1
      injection g1 with g1
      injection g1 with e1 e2 e3
      subst e1
      exact g3 j u hj
    · rw [List.getElem?_append_right (by rw [hl0]; omega), hl0] at hj
      have hlt := (List.getElem?_eq_some_iff.1 hj).1
      rw [hl1] at hlt
      rw [if_pos (by omega), show off + j - (off + es0.length * sz) = j - es0.length * sz by omega]
      exact hj
  have hcnt : ∀ k, (StA.mk s.tm s.bx (.sl true sz b off cap (es0 ++ es1) :: hd0)).cnt k ≤ s.cnt k := by
    intro k
    have := hce k
    simp only [TA.cnt] at this
    simp only [StA.cnt, TA.cntL, TA.cnt, TA.cntL_append]
    omega
  exact {
    defers := H.defers
    size := H.size
    tm := fun n y hy => (H.tm n y hy).keep (fun _ hz => hz) (fun k hk => wr_ne _ _ _ _ (fun e => by
        subst e
        rcases hk with hk | hk
        · have := hbtm n y hy; omega
        · exact hbz hk)) (fun r _ _ _ _ _ _ _ _ _ _ => by cases r <;> rfl) (fun r o p e base cs ad h1 h2 => ⟨base, cs, by cases r <;> exact h1, h2⟩)
    bx := fun n y hy => by
      obtain ⟨q1, q2, q3⟩ := H.bx n y hy
      have hz := hbbx n y hy
      simp only [BoxA.cnt] at hz
      have hyb : y.b ≠ b := by
        intro e
        rw [if_pos e] at hz
        omega
      exact ⟨q1.frame (wr_ne _ _ _ _ hyb), hfr _ q2 (by omega), q3⟩
    uniq := fun k => Nat.le_trans (hcnt k) (H.uniq k)
    notZ := fun k hk => H.notZ k (Nat.lt_of_lt_of_le hk (hcnt k))
    lt := fun k hk => by show k < (wr _ _ _ _).size; rw [wr_size]; exact H.lt k (Nat.lt_of_lt_of_le hk (hcnt k))
    zlt := fun k hk => by show k < (wr _ _ _ _).size; rw [wr_size]; exact H.zlt k hk
    own := fun k hk => H.own k (Nat.lt_of_lt_of_le hk (hcnt k))
    z0 := H.z0
    zext := H.zext
    pk := H.pk
    os := H.os
    tape := H.tape
    output := H.output
    grown := by show _ ≤ (wr _ _ _ _).size; rw [wr_size]; exact H.grown
    kept := fun k hk hf => by
      show (wr _ _ _ _)[k]? = _
      by_cases hkb : k = b
      · subst hkb
        exfalso
        rcases H.own k (by simp only [StA.cnt]; omega) with h2 | h2
        · exact hf h2
        · omega
      · rw [wr_ne _ _ _ _ hkb]; exact H.kept k hk hf
    part := fun x hx => by
      have := H.pbh x hx
      have hne : x.1 ≠ b := fun e => by rw [e] at this; omega
      obtain ⟨c, c', e, fr, q1, q2, q3⟩ := H.part x hx
      exact ⟨c, c', e, fr, q1, (wr_ne _ _ _ _ hne).trans q2, q3⟩
    pbx := H.pbx
    pbo := H.pbo
    pbi := H.pbi
    hand := by
      simp only [TA.HoldsL]
      exact ⟨hnew, hfr hd0 hh hbhd0⟩
    pbh := fun x hx => by
      have e1 := hce x.1
      have e2 := H.pbh x hx
      simp only [TA.cnt] at e1
      simp only [TA.cntL, TA.cnt, TA.cntL_append]
      omega }

/-- A row out of an operand: its elements. -/
def St.takeRow (N : Nat) (x : Operand) (σ : St) : Option (Bool × Nat × List T × St) := (σ.take N x).bind fun y => match y.1 with
  | .sl ow sz es => some (ow, sz, es, y.2)
  | _ => none
def stAppend (E : Env) (N : Nat) (dst : Option Nat) (ts : Array TypeId) (x y : Operand) (σ : St) : Option St := match ts.toList with
  | [t, t2] => if t = t2 then (match kindOf E t with
    | some (.slice e) => (E.ty e).bind fun ti =>
      (if isNil x = true then some (([] : List T), σ) else (σ.takeRow N x).bind fun z => if z.1 = true ∧ z.2.1 = ti.size then some (z.2.2.1, z.2.2.2) else none).bind fun p =>
      (if isNil y = true then some (([] : List T), p.2) else (p.2.takeRow N y).bind fun z => if z.2.1 = ti.size then some (z.2.2.1, z.2.2.2) else none).bind fun q =>
      if (p.1.length + q.1.length) * ti.bytes ≤ 140737488355328 ∧ p.1.length + q.1.length ≤ 140737488355328 then q.2.put? N dst (.t (.sl true ti.size (p.1 ++ q.1))) else none
    | _ => none) else none
  | _ => none
theorem takeRow_ok {x : Operand} {ow : Bool} {sz : Nat} {es : List T} (H : SRel C Z s a w) (h : s.er.takeRow C.N x = some (ow, sz, es, σ')) :
    ∃ s' xA esA, s'.er = σ' ∧ s'.hd = xA :: s.hd ∧ SRel C Z s' a w ∧ a.eval x = xA.val ∧ xA.Holds Z w.heap ∧ TA.erL esA = es ∧ RowAt w.heap ow sz xA.val esA ∧ TA.HoldsL Z w.heap esA ∧ (∀ k, TA.cntL k esA ≤ xA.cnt k) ∧ ((∃ A, xA = .nl ow sz A ∧ esA = []) ∨ ∃ b off cap, xA = .sl ow sz b off cap esA) := by
  unfold St.takeRow at h
  obtain ⟨⟨y, σ1⟩, ht, h⟩ := Option.bind_eq_some_iff.1 h
  obtain ⟨s', xA, t1, t2, t3, t4, t5, t6⟩ := take_ok H ht
  simp only at h
  split at h
  · rename_i ow1 sz1 es1
    simp only [Option.some.injEq, Prod.mk.injEq] at h
    obtain ⟨rfl, rfl, rfl, rfl⟩ := h
    obtain ⟨esA, r1, r2, r3, r4, r5⟩ := rowAt_of t6 t1
    exact ⟨s', xA, esA, t2, t3, t4, t5, t6, r1, r2, r3, r4, r5⟩
  · cases h
theorem flat_holds {h : Array Obj} {l : List TA} (hl : TA.HoldsL Z h l) : TA.HoldsL Z h (l.flatMap TA.cells) ∧ ∀ c ∈ l.flatMap TA.cells, c.isCell = true := by
  refine ⟨TA.holdsL_iff.2 fun t ht => ?_, fun t ht => ?_⟩
  · obtain ⟨e, he, ht⟩ := List.mem_flatMap.1 ht
    exact TA.holdsL_iff.1 (TA.holds_cells (TA.holdsL_iff.1 hl e he)) t ht
  · obtain ⟨e, he, ht⟩ := List.mem_flatMap.1 ht
    exact TA.isCell_mem_cells (TA.holdsL_iff.1 hl e he) t ht
theorem stAppend_ok {x y : Operand} {ts : Array TypeId} (ho : o.op = .call { callee := .builtin .append, args := #[x, y], argTypes := ts }) (h : stAppend E C.N o.dst ts x y σ = some σ') (H : SOk C σ a w) (hK : ∀ a' w', SOk C σ' a' w' → K a' w') : o.wp E.P a w K Q := by
  unfold stAppend at h
  split at h
  case h_2 => cases h
  rename_i t t2 hts
  split at h
  case isFalse => cases h
  rename_i htt
  have hts' : ts = #[t, t] := by
    apply Array.toList_inj.1
    rw [hts, ← htt]
  split at h
  case h_2 => cases h
  rename_i e hk
  have ht : E.P.underlying t = some (.slice e) := kindOf_ok hk
  obtain ⟨ti, hti, h⟩ := Option.bind_eq_some_iff.1 h
  obtain ⟨⟨es0T, σ1⟩, hx, h⟩ := Option.bind_eq_some_iff.1 h
  obtain ⟨⟨es1T, σ2⟩, hy, h⟩ := Option.bind_eq_some_iff.1 h
  split at h
  case isFalse => cases h
  rename_i hb
  obtain ⟨s0, Z, h1, h2, h3⟩ := id H
  subst h1
  -- the first row
  obtain ⟨s1, x0, es0, q1, q2, q3, q4, q5, q6, q7, q8⟩ : ∃ (s1 : StA) (x0 : TA) (es0 : List TA), s1.er = σ1 ∧ s1.hd = x0 :: s0.hd ∧ SRel C Z s1 a w ∧ a.eval x = x0.val ∧ x0.Holds Z w.heap ∧ TA.erL es0 = es0T ∧ RowAt w.heap true ti.size x0.val es0 ∧ ((∃ A, x0 = .nl true ti.size A ∧ es0 = []) ∨ ∃ b off cap, x0 = .sl true ti.size b off cap es0) := by
    split at hx
    · rename_i hn
      simp only [Option.some.injEq, Prod.mk.injEq] at hx
      obtain ⟨rfl, rfl⟩ := hx
      refine ⟨s0.push [.nl true ti.size none], .nl true ti.size none, [], rfl, rfl, ?_, by rw [isNil_eq hn]; rfl, by simp [TA.Holds], rfl, ⟨by simp, .inl ⟨none, rfl, rfl, fun _ => rfl⟩⟩, .inl ⟨none, rfl, rfl⟩⟩
      exact h3.newHand _ (fun _ hz => hz) (fun k hk => .inl hk) h3.zlt (by simp [TA.HoldsL, TA.Holds]) (fun k => by simp [TA.cntL, TA.cnt]) (fun k hk => by simp [TA.cntL, TA.cnt] at hk) h3.notZ (fun q _ => by simp [TA.cntL, TA.cnt])
    · obtain ⟨⟨ow, sz, esT, σ3⟩, hr, hx⟩ := Option.bind_eq_some_iff.1 hx
      split at hx
      case isFalse => cases hx
      rename_i hc
      simp only [Option.some.injEq, Prod.mk.injEq] at hx
      obtain ⟨rfl, rfl⟩ := hx
      obtain ⟨s', xA, esA, r1, r2, r3, r4, r5, r6, r7, r8, r9, r10⟩ := takeRow_ok h3 hr
      obtain ⟨c1, c2⟩ := hc
      subst c1; subst c2
      exact ⟨s', xA, esA, r1, r2, r3, r4, r5, r6, r7, r10⟩
  obtain ⟨s2, x1, es1, ow, p1, p2, p3, p4, p5, p6, p7, p8, p9⟩ : ∃ (s2 : StA) (x1 : TA) (es1 : List TA) (ow : Bool), s2.er = σ2 ∧ s2.hd = x1 :: s1.hd ∧ SRel C Z s2 a w ∧ a.eval y = x1.val ∧ x1.Holds Z w.heap ∧ TA.erL es1 = es1T ∧ RowAt w.heap ow ti.size x1.val es1 ∧ TA.HoldsL Z w.heap es1 ∧ (∀ k, TA.cntL k es1 ≤ x1.cnt k) := by
    subst q1
    split at hy
    · rename_i hn
      simp only [Option.some.injEq, Prod.mk.injEq] at hy
      obtain ⟨rfl, rfl⟩ := hy
      refine ⟨s1.push [.nl true ti.size none], .nl true ti.size none, [], true, rfl, rfl, ?_, by rw [isNil_eq hn]; rfl, by simp [TA.Holds], rfl, ⟨by simp, .inl ⟨none, rfl, rfl, fun _ => rfl⟩⟩, by simp [TA.HoldsL], fun k => by simp [TA.cntL]⟩
      exact q3.newHand _ (fun _ hz => hz) (fun k hk => .inl hk) q3.zlt (by simp [TA.HoldsL, TA.Holds]) (fun k => by simp [TA.cntL, TA.cnt]) (fun k hk => by simp [TA.cntL, TA.cnt] at hk) q3.notZ (fun q _ => by simp [TA.cntL, TA.cnt])
    · obtain ⟨⟨ow, sz, esT, σ3⟩, hr, hy⟩ := Option.bind_eq_some_iff.1 hy
      split at hy
      case isFalse => cases hy
      rename_i hc
      simp only [Option.some.injEq, Prod.mk.injEq] at hy
      obtain ⟨rfl, rfl⟩ := hy
      obtain ⟨s', xA, esA, r1, r2, r3, r4, r5, r6, r7, r8, r9, r10⟩ := takeRow_ok q3 hr
      subst hc
      exact ⟨s', xA, esA, ow, r1, r2, r3, r4, r5, r6, r7, r8, r9⟩
  simp only at h hb
  subst p1
  obtain ⟨f1, f2⟩ := flat_holds p8
  have hlen0 : es0.length = es0T.length := by rw [← q6, TA.er_len]
  have hlen1 : es1.length = es1T.length := by rw [← p6, TA.er_len]
  rw [← hlen0, ← hlen1] at hb
  have hes0 : TA.HoldsL Z w.heap es0 := by
    rcases q8 with ⟨_, _, rfl⟩ | ⟨b, off, cap, rfl⟩
    · simp [TA.HoldsL]
    · simp only [TA.Holds] at q5; exact q5.2.2.2.1
  have hc0 : ∀ k, TA.cntL k es0 ≤ x0.cnt k := by
    intro k
    rcases q8 with ⟨_, _, rfl⟩ | ⟨b, off, cap, rfl⟩
    · simp [TA.cntL]
    · simp only [TA.cnt]; omega
  have hfin : ∀ (s' : StA) (w' : World) (z : TA) (v : Value), s'.er = s2.er → s'.hd = [z] → SRel C Z s' a w' → z.er = .sl true ti.size (es0T ++ es1T) → v = z.val → SOk C σ' (a.put o.dst v) w' := by
    intro s' w' z v e1 e2 e3 e4 e5
    subst e5
    have hz := e3.hand
    rw [e2] at hz
    simp only [TA.HoldsL] at hz
    exact SOk.put? e3 e1 h (xA := .t z) (by simp only [AVA.er, e4]) ⟨rfl, hz.1⟩ (fun k => by rw [e2]; simp only [AVA.cnt_t, TA.cntL]; omega)
  rcases run_append (ty := o.type) (w := w) ht hti q7 p7 (vals_oneCell f1 f2) hb.1 hb.2 with ⟨v0, e0, e1, hrun⟩ | ⟨b, off, cap, c, ety, v0, hroom, hbk, hsz, hrun⟩ | ⟨cap, rest, hcap, hsz, hrun⟩
  · refine wp_value (v := .slice none 0 0) (w' := w) ?_ (hK _ _ ?_)
    · simp [execOp, ho, resolve, invoke, builtin, hts', q4, p4, hrun]
    · refine hfin ⟨s2.tm, s2.bx, [.nl true ti.size none]⟩ w (.nl true ti.size none) _ rfl rfl (p3.drop (fun k => by simp [TA.cntL, TA.cnt]) (by simp [TA.HoldsL, TA.Holds])) ?_ rfl
      subst e0; subst e1
      simp only [TA.erL] at q6 p6
      simp [TA.er, ← q6, ← p6]
  · have hx0 : x0 = .sl true ti.size b off cap es0 := by
      rcases q8 with ⟨A8, rfl, e8⟩ | ⟨b2, off2, cap2, rfl⟩
      · simp only [TA.Holds] at q5
        rw [q5 trivial] at v0
        simp [TA.val, TA.val1] at v0
      · simp only [TA.val, TA.val1, Value.slice.injEq, Option.some.injEq, Addr.mk.injEq] at v0
        obtain ⟨⟨rfl, rfl, _⟩, _, rfl⟩ := v0
        rfl
    have hl := p3.longer (hd0 := []) hx0 q5 p8 (by simp [TA.HoldsL]) (fun k => by rw [p2, q2]; have := p9 k; simp only [TA.cntL]; omega) p7.cells hroom hbk hsz
    refine wp_value (v := .slice (some ⟨b, off, none⟩) (es0.length + es1.length) cap) (w' := { w with heap := wr w.heap b (off + es0.length * ti.size) (TA.vals (es1.flatMap TA.cells)) }) ?_ (hK _ _ ?_)
    · simp [execOp, ho, resolve, invoke, builtin, hts', q4, p4, hrun]
    · refine hfin ⟨s2.tm, s2.bx, [.sl true ti.size b off cap (es0 ++ es1)]⟩ _ (.sl true ti.size b off cap (es0 ++ es1)) _ rfl rfl hl ?_ (by simp [TA.val, TA.val1])
      simp [TA.er, erL_append, q6, p6]
  · have hnew := p3.newSl (w' := w.drew.alloc (.cells ((TA.vals (es0.flatMap TA.cells)).toArray ++ (TA.vals (es1.flatMap TA.cells)).toArray ++ rest) e)) (es := es0 ++ es1) (hd0 := []) (cap := cap) (sz := ti.size) rfl rfl rfl rfl
      (holdsL_append.2 ⟨hes0, p8⟩) (by simp [TA.HoldsL]) (fun k => by rw [p2, q2]; have := p9 k; have := hc0 k; simp only [TA.cntL, TA.cntL_append]; omega) (by simpa using hcap)
      (fun el hel => by rcases List.mem_append.1 hel with he | he; exact q7.cells el he; exact p7.cells el he) hsz (fun j u hj => by
        rw [List.flatMap_append, TA.vals_append] at hj
        have hlt := (List.getElem?_eq_some_iff.1 hj).1
        rw [Array.getElem?_append_left (by simpa using hlt)]
        simpa using hj)
    refine wp_value (v := .slice (some ⟨w.heap.size, 0, none⟩) (es0.length + es1.length) cap) (w' := w.drew.alloc (.cells ((TA.vals (es0.flatMap TA.cells)).toArray ++ (TA.vals (es1.flatMap TA.cells)).toArray ++ rest) e)) ?_ (hK _ _ ?_)
    · simp only [execOp, ho, resolve, invoke, builtin, hts', Sem.run_bind, Sem.run_pure, Result.andThen_ok, List.map_toArray, List.map_cons, List.map_nil, q4, p4, hrun]
    · refine hfin ⟨s2.tm, s2.bx, [.sl true ti.size w.heap.size 0 cap (es0 ++ es1)]⟩ _ (.sl true ti.size w.heap.size 0 cap (es0 ++ es1)) _ rfl rfl hnew ?_ (by simp [TA.val, TA.val1])
      simp [TA.er, erL_append, q6, p6]
end Go.OM
