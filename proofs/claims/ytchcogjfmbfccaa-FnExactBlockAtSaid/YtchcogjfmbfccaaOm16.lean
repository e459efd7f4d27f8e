import Derived.Test.YtchcogjfmbfccaaOm15
set_option linter.unusedVariables false
set_option linter.unusedSimpArgs false
namespace Go.OM
variable {C : Ctx} {Z : Nat → Prop} {s : StA} {a : Act} {w w' : World} {E : Env} {o : Oper} {σ σ' : St} {K : Act → World → Prop} {Q : Exit → Act → World → Prop}

/-! ### A part of a string, of a row -/
def St.bnd (σ : St) (x : Option Operand) (d : Nat) : Option Nat := match x with
  | none => some d
  | some y => match σ.sc y with
    | some (.int _ n) => if 0 ≤ n then some n.toNat else none
    | _ => none
def stSlice (E : Env) (N : Nat) (dst : Option Nat) (t : TypeId) (x : Operand) (lo hi : Option Operand) (σ : St) : Option St := match kindOf E t with
  | some .str => (match σ.sc x with
    | some (.string z) => (σ.bnd lo 0).bind fun l => (σ.bnd hi z.size).bind fun h => if l ≤ h ∧ h ≤ z.size then σ.put? N dst (.t (.v (.string (z.extract l h)))) else none
    | _ => none)
  | some (.slice e) => (E.ty e).bind fun ti => (σ.takeRow N x).bind fun y => (σ.bnd lo 0).bind fun l => (σ.bnd hi y.2.2.1.length).bind fun h =>
    if y.2.1 = ti.size ∧ l ≤ h ∧ h ≤ y.2.2.1.length then y.2.2.2.put? N dst (.t (.sl y.1 ti.size ((y.2.2.1.take h).drop l))) else none
  | _ => none
theorem bnd_val {x : Option Operand} {d n : Nat} (H : SRel C Z s a w) (h : s.er.bnd x d = some n) : (x = none ∧ n = d) ∨ ∃ y k, x = some y ∧ a.eval y = .int k n := by
  unfold St.bnd at h
  split at h
  · left; injection h with h; exact ⟨rfl, h.symm⟩
  · rename_i y
    right
    split at h
    · rename_i k m hm
      split at h
      · rename_i h0
        injection h with h
        obtain ⟨h1, _⟩ := sc_val H hm
        exact ⟨y, k, rfl, by rw [h1]; congr 1; omega⟩
      · cases h
    · cases h
theorem run_bounds {sl : Bool} {P : Program} {len cap l h : Nat} {lo hi : Option Operand} (hlo : (lo = none ∧ l = 0) ∨ ∃ y k, lo = some y ∧ a.eval y = .int k l) (hhi : (hi = none ∧ h = len) ∨ ∃ y k, hi = some y ∧ a.eval y = .int k h) (hl : l ≤ h) (hh : h ≤ cap) :
    (Instr.sliceBounds sl len cap (lo.map a.eval) (hi.map a.eval) none).run P w = .ok (l, h, cap) w := by
  have hb : ∀ (k : IntKind) (n y : Nat) (c : BoundsCode), n ≤ y → (Instr.sliceBound (.int k n) y c).run P w = .ok n w := by
    intro k n y c hn
    unfold Instr.sliceBound
    simp only [asIntOf, Sem.run_bind, Sem.run_pure, Result.andThen_ok]
    rw [if_pos ⟨by omega, by omega⟩]
    simp
  unfold Instr.sliceBounds
  rcases hlo with ⟨rfl, rfl⟩ | ⟨y, k, rfl, hy⟩ <;> rcases hhi with ⟨rfl, rfl⟩ | ⟨y2, k2, rfl, hy2⟩ <;> simp_all
theorem flat_part {sz l h : Nat} {es : List TA} (hs : ∀ e ∈ es, e.cells.length = sz) (hl : l ≤ h) (hh : h ≤ es.length) {j : Nat} {u : Value} (hj : (TA.vals (((es.take h).drop l).flatMap TA.cells))[j]? = some u) : (TA.vals (es.flatMap TA.cells))[l * sz + j]? = some u := by
  have e1 : es = es.take l ++ (((es.take h).drop l) ++ es.drop h) := by
    rw [← List.append_assoc]
    have : es.take l ++ (es.take h).drop l = es.take h := by
      have h2 := List.take_append_drop l (es.take h)
      rw [List.take_take, Nat.min_eq_left hl] at h2
      exact h2
    rw [this, List.take_append_drop]
  have hlen : (TA.vals ((es.take l).flatMap TA.cells)).length = l * sz := by
    rw [TA.vals_length, flat_length (fun e he => hs e (List.mem_of_mem_take he)), List.length_take, Nat.min_eq_left (by omega)]
  rw [e1]
  simp only [List.flatMap_append, TA.vals_append]
  rw [List.getElem?_append_right (by rw [hlen]; omega), hlen, Nat.add_sub_cancel_left, List.getElem?_append_left (List.getElem?_eq_some_iff.1 hj).1]
  exact hj
theorem cntL_take (k n : Nat) (l : List TA) : TA.cntL k (l.take n) ≤ TA.cntL k l := by
  have := TA.cntL_append k (l.take n) (l.drop n)
  rw [List.take_append_drop] at this; omega
theorem cntL_drop (k n : Nat) (l : List TA) : TA.cntL k (l.drop n) ≤ TA.cntL k l := by
  have := TA.cntL_append k (l.take n) (l.drop n)
  rw [List.take_append_drop] at this; omega
theorem erL_part (l : List TA) (n m : Nat) : TA.erL ((l.take n).drop m) = ((TA.erL l).take n).drop m := by
  simp [TA.erL_map, List.map_drop, List.map_take]
theorem stSlice_ok {t : TypeId} {x : Operand} {lo hi : Option Operand} (ho : o.op = .slice t x lo hi none) (h : stSlice E C.N o.dst t x lo hi σ = some σ') (H : SOk C σ a w) (hK : ∀ a' w', SOk C σ' a' w' → K a' w') : o.wp E.P a w K Q := by
  unfold stSlice at h
  obtain ⟨s, Z, h1, h2, h3⟩ := id H
  subst h1
  split at h
  · rename_i hk
    have hu : E.P.underlying t = some .string := kindOf_ok hk
    split at h
    case h_2 => cases h
    rename_i z hx
    obtain ⟨l, hl, h⟩ := Option.bind_eq_some_iff.1 h
    obtain ⟨n, hn, h⟩ := Option.bind_eq_some_iff.1 h
    split at h
    case isFalse => cases h
    rename_i hb
    obtain ⟨v1, _⟩ := sc_val h3 hx
    refine wp_value (v := .string (z.extract l n)) (w' := w) ?_ (hK _ _ (H.putS h (by simp [TA.OneCell])))
    have := run_bounds (sl := false) (P := E.P) (w := w) (cap := z.size) (bnd_val h3 hl) (bnd_val h3 hn) hb.1 hb.2
    simp [execOp, ho, v1, Instr.sliceAt, Instr.slice, run_underlying hu, this]
  · rename_i e hk
    have hu : E.P.underlying t = some (.slice e) := kindOf_ok hk
    obtain ⟨ti, hti, h⟩ := Option.bind_eq_some_iff.1 h
    obtain ⟨⟨ow, sz, es, σ2⟩, hr, h⟩ := Option.bind_eq_some_iff.1 h
    obtain ⟨l, hl, h⟩ := Option.bind_eq_some_iff.1 h
    obtain ⟨n, hn, h⟩ := Option.bind_eq_some_iff.1 h
    split at h
    case isFalse => cases h
    rename_i hb
    obtain ⟨rfl, hb1, hb2⟩ := hb
    have ok := E.ok e ti hti
    obtain ⟨s', xA, esA, r1, r2, r3, r4, r5, r6, r7, r8, r9, r10⟩ := takeRow_ok h3 hr
    have hlen : esA.length = es.length := by rw [← r6, TA.er_len]
    have hbl := bnd_val h3 hl
    have hbh := bnd_val h3 hn
    subst r1
    simp only at hb1 hb2 h
    rcases r10 with ⟨A0, rfl, rfl⟩ | ⟨b, off, cap, rfl⟩
    · simp only [List.length_nil] at hlen
      have hn0 : n = 0 := by omega
      have hl0 : l = 0 := by omega
      subst hn0; subst hl0
      have hes : es = [] := List.length_eq_zero_iff.1 hlen.symm
      subst hes
      refine wp_value (v := .slice A0 0 0) (w' := w) ?_ (hK _ _ ?_)
      · have := run_bounds (sl := true) (P := E.P) (w := w) (len := 0) (cap := 0) hbl hbh hb1 (Nat.le_refl _)
        simp [execOp, ho, r4, TA.val, TA.val1, Instr.sliceAt, Instr.slice, run_underlying hu, this, ok.run_sizeOf w]
      · refine SOk.put? (s := ⟨s'.tm, s'.bx, [.nl ow ti.size A0]⟩) (r3.drop (fun k => by simp [TA.cntL, TA.cnt]) (by simp only [TA.HoldsL]; exact ⟨r5, trivial⟩)) (by rfl) h (xA := .t (.nl ow ti.size A0)) (by simp [AVA.er, TA.er]) ⟨rfl, r5⟩ (fun k => by simp [AVA.cnt_t, TA.cntL, TA.cnt])
    · simp only [TA.Holds] at r5
      obtain ⟨m1, m2, m3, m4, m5⟩ := r5
      rw [← hlen] at hb2
      have hsub : ((esA.take n).drop l).length = n - l := by simp; omega
      have hnewH : (TA.sl ow ti.size b (if cap = l then off else off + l * ti.size) (cap - l) ((esA.take n).drop l)).Holds Z w.heap := by
        simp only [TA.Holds]
        refine ⟨?_, by omega, fun ho => ⟨(m3 ho).1, fun k => ?_⟩, ?_, fun e he => m5 e (List.mem_of_mem_take (List.mem_of_mem_drop he))⟩
        · obtain ⟨c, ety, fr, q1, q2, q3⟩ := m1
          refine ⟨c, ety, fr, q1, fun ho => ⟨?_, (q2 ho).2⟩, fun j u hj => ?_⟩
          · have := (q2 ho).1
            split
            · rename_i hcl; subst hcl; simp; omega
            · rw [Nat.sub_mul]
              have : l * ti.size ≤ cap * ti.size := Nat.mul_le_mul_right _ (by omega)
              omega
          · split
            · rename_i hcl
              have : (esA.take n).drop l = [] := List.length_eq_zero_iff.1 (by omega)
              rw [this] at hj
              simp [TA.vals] at hj
            · have := q3 _ u (flat_part m5 hb1 hb2 hj)
              rwa [Nat.add_assoc]
        · have := (m3 ho).2 k
          have h5 := cntL_take k n esA
          have h6 := cntL_drop k l (esA.take n)
          omega
        · exact TA.holdsL_iff.2 fun t ht => TA.holdsL_iff.1 m4 t (List.mem_of_mem_take (List.mem_of_mem_drop ht))
      refine wp_value (v := .slice (some ⟨b, if cap = l then off else off + l * ti.size, none⟩) (n - l) (cap - l)) (w' := w) ?_ (hK _ _ ?_)
      · have := run_bounds (sl := true) (P := E.P) (w := w) (len := es.length) (cap := cap) hbl hbh hb1 (by omega)
        rw [← hlen] at this
        simp only [execOp, ho, r4, TA.val, TA.val1, Instr.sliceAt, Instr.slice, Sem.run_bind, run_underlying hu, Result.andThen_ok, this, ok.run_sizeOf w, Sem.run_pure]
        by_cases hcl : cap = l
        · subst hcl; simp [this, ok.run_sizeOf w]
        · simp [hcl, Addr_add_lit, this, ok.run_sizeOf w]
      · refine SOk.put? (s := ⟨s'.tm, s'.bx, [.sl ow ti.size b (if cap = l then off else off + l * ti.size) (cap - l) ((esA.take n).drop l)]⟩) (r3.drop (fun k => ?_) (by simp only [TA.HoldsL]; exact ⟨hnewH, trivial⟩)) (by rfl) h (xA := .t (.sl ow ti.size b (if cap = l then off else off + l * ti.size) (cap - l) ((esA.take n).drop l))) ?_ ⟨?_, hnewH⟩ (fun k => by simp [AVA.cnt_t, TA.cntL])
        · rw [r2]
          simp only [TA.cntL, TA.cnt]
          have h5 := cntL_take k n esA
          have h6 := cntL_drop k l (esA.take n)
          omega
        · simp only [AVA.er, TA.er, erL_part, r6]
        · simp [TA.val, TA.val1, hsub]
  · cases h
end Go.OM
