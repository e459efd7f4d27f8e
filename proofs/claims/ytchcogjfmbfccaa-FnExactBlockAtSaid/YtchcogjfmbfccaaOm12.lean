import Derived.Test.YtchcogjfmbfccaaOm11
import Derived.Laws.MakeOwn
set_option linter.unusedVariables false
set_option linter.unusedSimpArgs false
namespace Go.OM
variable {C : Ctx} {Z : Nat → Prop} {s : StA} {a : Act} {w w' : World} {E : Env} {o : Oper} {σ σ' : St} {K : Act → World → Prop} {Q : Exit → Act → World → Prop}

theorem Grow.push {x : Obj} (h : w'.heap = w.heap.push x) (h1 : w'.os = w.os) (h2 : w'.tape = w.tape) (h3 : w'.output = w.output) : Grow w w' :=
  ⟨h1, h2, h3, by rw [h]; simp, fun k hk => by rw [h, Array.getElem?_push, if_neg (by omega)]⟩
theorem push_self {h : Array Obj} {x : Obj} : (h.push x)[h.size]? = some x := by simp

/-- The hand holds other things then; one new block may be among them. -/
theorem SRel.rehand {hd' : List TA} {b : Nat} (H : SRel C Z s a w) (g : Grow w w') (hb : w.heap.size ≤ b) (hbl : b < w'.heap.size) (hc : ∀ k, TA.cntL k hd' ≤ TA.cntL k s.hd + (if k = b then 1 else 0)) (hh : TA.HoldsL Z w'.heap hd') :
    SRel C Z ⟨s.tm, s.bx, hd'⟩ a w' := by
  have H' := H.grow g
  have hcnt : ∀ k, (StA.mk s.tm s.bx hd').cnt k ≤ s.cnt k + (if k = b then 1 else 0) := by
    intro k
    have := hc k
    simp only [StA.cnt]; omega
  have hb0 : s.cnt b = 0 := by
    rcases Nat.eq_zero_or_pos (s.cnt b) with h | h
    · exact h
    · have := H.lt b h; omega
  have hsp : ∀ k, 0 < (StA.mk s.tm s.bx hd').cnt k → k = b ∨ 0 < s.cnt k := by
    intro k hk
    by_cases e : k = b
    · exact .inl e
    · have := hcnt k
      rw [if_neg e] at this
      exact .inr (by omega)
  exact {
    defers := H'.defers
    size := H'.size
    tm := fun n y hy => (H'.tm n y hy).keep (fun _ hz => hz) (fun _ _ => rfl) (fun r _ _ _ _ _ _ _ _ _ _ => by cases r <;> rfl) (fun r o p e base cs ad h1 h2 => ⟨base, cs, by cases r <;> exact h1, h2⟩)
    bx := H'.bx
    uniq := fun k => by
      have := hcnt k
      by_cases e : k = b
      · subst e; rw [if_pos rfl, hb0] at this; omega
      · rw [if_neg e] at this; have := H.uniq k; omega
    notZ := fun k hk => by
      rcases hsp k hk with e | e
      · subst e; intro hz; have := H.zlt k hz; omega
      · exact H.notZ k e
    lt := fun k hk => by
      rcases hsp k hk with e | e
      · subst e; exact hbl
      · exact H'.lt k e
    zlt := H'.zlt
    own := fun k hk => by
      rcases hsp k hk with e | e
      · subst e; right; have := H.grown; omega
      · exact H.own k e
    z0 := H'.z0
    zext := H'.zext
    pk := H.pk
    os := H'.os
    tape := H'.tape
    output := H'.output
    grown := H'.grown
    kept := H'.kept
    part := H'.part
    pbx := H'.pbx
    pbo := H'.pbo
    pbi := H'.pbi
    hand := hh
    pbh := fun y hy => by
      have h1 := hc y.1
      have h2 := H.pbh y hy
      obtain ⟨c, c', e, fr, q1, q2, _⟩ := H.part y hy
      have h3 : y.1 < C.w0.heap.size := (Array.getElem?_eq_some_iff.1 q1).1
      have h4 := H.grown
      rw [if_neg (by omega)] at h1
      show TA.cntL y.1 hd' = 0
      omega }

/-- A new row. -/
theorem SRel.newSl {es hd0 : List TA} {cs : Array Value} {ety : TypeId} {cap sz : Nat} (H : SRel C Z s a w) (hw : w'.heap = w.heap.push (.cells cs ety)) (h1 : w'.os = w.os) (h2 : w'.tape = w.tape) (h3 : w'.output = w.output)
    (hes : TA.HoldsL Z w.heap es) (h0 : TA.HoldsL Z w.heap hd0) (hce : ∀ k, TA.cntL k es + TA.cntL k hd0 ≤ TA.cntL k s.hd) (hcap : es.length ≤ cap) (hsz : ∀ e ∈ es, e.cells.length = sz) (hroom : cap * sz ≤ cs.size)
    (hm : ∀ (j : Nat) (u : Value), (TA.vals (es.flatMap TA.cells))[j]? = some u → cs[j]? = some u) : SRel C Z ⟨s.tm, s.bx, .sl true sz w.heap.size 0 cap es :: hd0⟩ a w' := by
  have g : Grow w w' := Grow.push hw h1 h2 h3
  have hfr : ∀ (l : List TA), TA.HoldsL Z w.heap l → TA.HoldsL Z w'.heap l := fun l hl => TA.HoldsL.frame l hl (fun _ hz => hz) (fun k hk => g.block k (by
    rcases hk with hk | hk
    · exact TA.HoldsL.lt l hl hk
    · exact H.zlt k hk))
  refine H.rehand g (Nat.le_refl _) (by rw [hw]; simp) (fun k => ?_) ?_
  · have := hce k
    simp only [TA.cntL, TA.cnt]
    by_cases e : k = w.heap.size
    · subst e; rw [if_pos ⟨trivial, rfl⟩, if_pos rfl]; omega
    · rw [if_neg (fun h => e h.2.symm), if_neg e]; omega
  · simp only [TA.HoldsL, TA.Holds]
    refine ⟨⟨⟨cs, ety, (0, 0), by rw [hw]; exact push_self, fun _ => ⟨by omega, rfl⟩, fun j u hj => by rw [Nat.zero_add]; exact hm j u hj⟩, hcap, (fun hh => nomatch hh), hfr es hes, hsz⟩, hfr hd0 h0⟩

def zeroE (ti : TI) : TA := mkTA ti.kk ti.zero
theorem zeroE_facts {t : TypeId} {ti : TI} (ok : TIok E.P t ti) (hz : ti.kk = none → ti.size = 1) {h : Array Obj} : (zeroE ti).cells = ti.zero ∧ (zeroE ti).Holds Z h ∧ (∀ k, (zeroE ti).cnt k = 0) ∧ (∀ c ∈ ti.zero, c.isCell = true) ∧ TA.HoldsL Z h ti.zero ∧ (∀ k, TA.cntL k ti.zero = 0) := by
  have hc := ok.cell
  have hlen := ok.len
  have h1 : ∀ c ∈ ti.zero, c.isCell = true ∧ c.Holds Z h ∧ ∀ k, c.cnt k = 0 := by
    intro c hcm
    have := hc c hcm
    cases c with
    | v x =>
      refine ⟨rfl, ?_, fun k => by simp [TA.cnt]⟩
      cases x <;> simp_all [zeroCell, TA.Holds, TA.OneCell]
    | nl ow sz A => cases ow <;> cases A <;> simp_all [zeroCell, TA.Holds, TA.cnt, TA.isCell]
    | _ => simp [zeroCell] at this
  have hl : ti.kk = none → ti.zero.length = 1 := fun hk => by rw [hlen]; exact hz hk
  have hH : TA.HoldsL Z h ti.zero := TA.holdsL_iff.2 fun t ht => (h1 t ht).2.1
  have hcn : ∀ k, TA.cntL k ti.zero = 0 := by
    intro k
    have key : ∀ (l : List TA), (∀ c ∈ l, c.cnt k = 0) → TA.cntL k l = 0 := by
      intro l
      induction l with
      | nil => intro _; rfl
      | cons t ts ih => intro hh; simp [TA.cntL, hh t (by simp), ih (fun c hc => hh c (by simp [hc]))]
    exact key _ (fun c hc => (h1 c hc).2.2 k)
  exact ⟨mkTA_cells hl (fun c hc => (h1 c hc).1), mkTA_holds hl (fun c hc => (h1 c hc).1) hH, fun k => by rw [zeroE, mkTA_cnt k hl]; exact hcn k, fun c hc => (h1 c hc).1, hH, hcn⟩
theorem zv_cells {t : TypeId} {ti : TI} (ok : TIok E.P t ti) : ti.zv.cells = (TA.vals ti.zero).toArray := by
  unfold TI.zv
  by_cases hs : ti.kind.isStruct = true
  · rw [if_pos hs]; rfl
  · rw [if_neg hs]
    have h1 := ok.one (by simpa using hs)
    rw [← ok.len] at h1
    obtain ⟨x, hx⟩ := List.length_eq_one_iff.1 h1
    have := ok.cell x (by rw [hx]; simp)
    rw [hx]
    cases x with
    | v y => cases y <;> simp_all [zeroCell, TA.vals, TA.val1, Value.cells]
    | nl ow sz A => rfl
    | _ => simp [zeroCell] at this

/-! ### make -/
def stMake (E : Env) (N : Nat) (dst : Option Nat) (t : TypeId) (x y : Operand) (σ : St) : Option St := match kindOf E t, σ.sc x, σ.sc y with
  | some (.slice e), some (.int .i64 n), some (.int .i64 m) => (E.ty e).bind fun ti => if n = m ∧ 0 ≤ n ∧ ti.bytes * n ≤ 140737488355328 ∧ n ≤ 140737488355328 then σ.put? N dst (.t (.sl true ti.size (List.replicate n.toNat (zeroE ti).er))) else none
  | _, _, _ => none
theorem flat_replicate {α β : Type} (f : α → List β) (n : Nat) (x : α) : (List.replicate n x).flatMap f = (List.replicate n (f x)).flatten := by
  induction n with
  | zero => rfl
  | succ n ih => simp [List.replicate_succ, ih]
theorem erL_replicate (n : Nat) (x : TA) : TA.erL (List.replicate n x) = List.replicate n x.er := by simp [TA.erL_map]
theorem cntL_replicate (k n : Nat) (x : TA) (h : x.cnt k = 0) : TA.cntL k (List.replicate n x) = 0 := by
  induction n with
  | zero => rfl
  | succ n ih => simp [List.replicate_succ, TA.cntL, h, ih]
theorem zero_mod_get {z : Array Value} {n m : Nat} (hm : z.size = m) {j : Nat} (hj : j < n * m) : ((Array.range (n * m)).map (fun i => z[i % z.size]!))[j]? = z[j % m]? := by
  have h0 : 0 < m := by
    rcases Nat.eq_zero_or_pos m with h | h
    · subst h; simp at hj
    · exact h
  have hlt : j % m < z.size := by rw [hm]; exact Nat.mod_lt _ h0
  simp only [Array.getElem?_map, Array.getElem?_range, hj, if_true, Option.map_some]
  rw [hm, getElem!_pos z (j % m) hlt]
  simp [hlt]
theorem stMake_ok {t : TypeId} {x y : Operand} (ho : o.op = .makeSlice t x y) (h : stMake E C.N o.dst t x y σ = some σ') (H : SOk C σ a w) (hK : ∀ a' w', SOk C σ' a' w' → K a' w') : o.wp E.P a w K Q := by
  unfold stMake at h
  split at h
  case h_2 => cases h
  rename_i e n m hk hx hy
  obtain ⟨ti, hti, h⟩ := Option.bind_eq_some_iff.1 h
  split at h
  case isFalse => cases h
  rename_i hb
  obtain ⟨hnm, hn0, hnb, hnl⟩ := hb
  obtain ⟨s, Z, h1, h2, h3⟩ := id H
  subst h1
  obtain ⟨v1, _⟩ := sc_val h3 hx
  obtain ⟨v2, _⟩ := sc_val h3 hy
  rw [← hnm] at v2
  have hu : E.P.underlying t = some (.slice e) := kindOf_ok hk
  have ok := E.ok e ti hti
  obtain ⟨kg, k1⟩ := kk_getD E hti
  obtain ⟨i, hi, hz, hs, hby⟩ := ok.info
  obtain ⟨z1, z2, z3, z4, z5, z6⟩ := zeroE_facts (E := E) (Z := Z) ok k1 (h := w.heap)
  obtain ⟨cs, hcs⟩ : ∃ cs, cs = madeCells ti.zv.cells (n.toNat * ti.size) := ⟨_, rfl⟩
  have hzsz : ti.zv.cells.size = ti.size := by rw [zv_cells ok]; simp [TA.vals_length, ok.len]
  have hcssz : cs.size = n.toNat * ti.size := by simp [hcs, madeCells]
  have hw' : (({ w with heap := w.heap.push (.cells cs e) } : World)).heap = w.heap.push (.cells cs e) := rfl
  have hflat : ∀ el ∈ List.replicate n.toNat (zeroE ti), el.cells.length = ti.size := by
    intro el hel
    rw [(List.mem_replicate.1 hel).2, z1, ok.len]
  have hm : ∀ (j : Nat) (u : Value), (TA.vals ((List.replicate n.toNat (zeroE ti)).flatMap TA.cells))[j]? = some u → cs[j]? = some u := by
    intro j u hj
    have hjlt : j < n.toNat * ti.size := by
      have := (List.getElem?_eq_some_iff.1 hj).1
      rw [TA.vals_length, flat_length hflat, List.length_replicate] at this
      exact this
    have h0 : 0 < ti.size := by
      rcases Nat.eq_zero_or_pos ti.size with h | h
      · rw [h] at hjlt; simp at hjlt
      · exact h
    rw [hcs]
    unfold madeCells
    rw [zero_mod_get hzsz hjlt, zv_cells ok]
    have hjm : j % ti.size < ti.size := Nat.mod_lt _ h0
    have hjd : j = (j / ti.size) * ti.size + j % ti.size := by rw [Nat.mul_comm]; exact (Nat.div_add_mod j _).symm
    rw [TA.vals_get, hjd, flat_get hflat _ _ hjm] at hj
    have hq : j / ti.size < n.toNat := by
      rw [Nat.div_lt_iff_lt_mul h0]; exact hjlt
    rw [List.getElem?_replicate, if_pos hq] at hj
    simp only [Option.bind_some, z1] at hj
    simpa [TA.vals] using hj
  have hnew := h3.newSl (w' := { w with heap := w.heap.push (.cells cs e) }) (es := List.replicate n.toNat (zeroE ti)) (hd0 := []) (cap := n.toNat) (sz := ti.size) rfl rfl rfl rfl
    (TA.holdsL_iff.2 fun t ht => by rw [(List.mem_replicate.1 ht).2]; exact z2) (by simp [TA.HoldsL]) (fun k => by rw [cntL_replicate k _ _ (z3 k)]; simp [TA.cntL]) (by simp) hflat (by rw [hcssz]; exact Nat.le_refl _) hm
  refine wp_value (v := .slice (some ⟨w.heap.size, 0, none⟩) n.toNat n.toNat) (w' := { w with heap := w.heap.push (.cells cs e) }) ?_ (hK _ _ ?_)
  · have hr := run_make (P := E.P) w t e i ti.zv hu hi hz .i64 .i64 n n hn0 (Int.le_refl _) (by rw [hby]; omega) (by omega)
    rw [hs, ← hcs] at hr
    simp only [execOp, ho, v1, v2, Sem.run_bind, hr, Result.andThen_ok]
    rfl
  · refine SOk.put? hnew rfl h (xA := .t (.sl true ti.size w.heap.size 0 n.toNat (List.replicate n.toNat (zeroE ti)))) (by simp [AVA.er, TA.er, erL_replicate]) ⟨?_, ?_⟩ (fun k => ?_)
    · simp [TA.val, TA.val1]
    · have := hnew.hand
      simp only [TA.HoldsL] at this
      exact this.1
    · simp [AVA.cnt_t, TA.cntL]
end Go.OM
