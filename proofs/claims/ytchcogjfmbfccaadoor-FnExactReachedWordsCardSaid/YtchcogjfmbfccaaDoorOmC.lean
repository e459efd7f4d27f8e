import Derived.Test.YtchcogjfmbfccaaDoorOmB
import Derived.Sort.Grow
import Derived.Deep.Draws
set_option linter.unusedVariables false
set_option linter.unusedSimpArgs false
namespace Go.OM
variable {C : Ctx} {Z Z' : Nat → Prop} {s : StA} {a : Act} {w w' : World} {E : Env} {o : Oper} {σ σ' : St} {K : St → Prop} {Q : Exit → Act → World → Prop} {S : Exit → St → Prop} {c d : Code} {ops os : List Oper}
/-- Operations; those too that copy a pinned slot, and change the rows in it. -/
def St.W (E : Env) (C : Ctx) (ops : List Oper) : List Oper → (St → Prop) → St → Prop
  | [], K, σ => K σ
  | o :: os, K, σ => (∃ K' : St → Prop, σ.wps E C.N ops [o] K' ∧ ∀ σ1, K' σ1 → St.W E C ops os K σ1) ∨
      (o.guard = none ∧ ∃ t n V X, o.op = .box t (.tmp n) ∧ (n, V) ∈ C.pin ∧ σ.op (.tmp n) = .t X ∧ ∀ cs : List Value, V.cells.toList = cs → cs.length = X.cells.length → ∃ σ1, σ.newBox C.N o.dst (cs.map T.v) = some σ1 ∧ St.W E C ops os K σ1) ∨
      (o.guard = none ∧ ∃ g x xs f n off k V args res y' σ1, callOf o = some (g, x :: xs) ∧ σ.fn g = some f ∧ Enters E.P f ∧ (n, V) ∈ C.pin ∧ σ.op x = .t (mkT k (((V.cells.toList.drop off).take (k.getD 1)).map T.v)) ∧ σ.callAt C.N o.dst (.slot n) off [] k xs y' res = some (args, σ1) ∧ OkIO E f args res [] [(0, y')] ∧ St.W E C ops os K σ1)
theorem erL_v : ∀ {zs : List TA} {rs : List Value}, TA.erL zs = rs.map T.v → zs = rs.map TA.v
  | [], [], _ => rfl
  | [], r :: rs, h => by simp [TA.erL] at h
  | z :: zs, [], h => by simp [TA.erL] at h
  | z :: zs, r :: rs, h => by
    simp only [TA.erL, List.map_cons, List.cons.injEq] at h ⊢
    refine ⟨?_, erL_v h.2⟩
    have h1 := h.1
    cases z <;> simp only [TA.er, T.v.injEq, reduceCtorEq] at h1
    rw [h1]
theorem vals_v (rs : List Value) : TA.vals (rs.map TA.v) = rs := by
  simp only [TA.vals, List.map_map]
  exact (List.map_congr_left (fun x _ => rfl)).trans (List.map_id _)
theorem slot_vals {n : Nat} {V : Value} {base : Option (Nat × Nat)} {cs : List TA} (H : SRel C Z s a w) (hr : s.rootCells (.slot n) = some (base, cs)) (hV : a.tmps.getD n undef = V) : TA.vals cs = V.cells.toList := by
  simp only [StA.rootCells] at hr
  split at hr
  case h_2 => cases hr
  rename_i x hx
  injection hr with hr
  simp only [Prod.mk.injEq] at hr
  obtain ⟨rfl, rfl⟩ := hr
  obtain ⟨h1, h2⟩ := H.tm n _ hx
  rw [← hV, h1, val_cells' h2]
theorem opwp_mono {P : Program} {K1 K2 : Act → World → Prop} (hK : ∀ a w, K1 a w → K2 a w) (h : o.wp P a w K1 Q) : o.wp P a w K2 Q := by
  unfold Oper.wp at *
  generalize (execOp a.eval o).run P w = r at *
  cases r with
  | ok n w' =>
    cases n <;> simp only [Oper.upon] at h ⊢ <;>
      first
        | exact hK _ _ h
        | exact Calls.mono h (fun e w'' he => by cases e <;> first | exact hK _ _ he | exact he)
        | exact Rows.mono h (fun _ _ he => hK _ _ he)
        | exact h
  | halt x w' => cases x <;> simp only [Oper.upon] at h ⊢ <;> exact h
theorem W_ok {ops : Array Oper} : ∀ (os : List Oper) (σ : St) (a : Act) (w : World) (K : St → Prop), pinB C.pin os = true → σ.W E C ops.toList os K → SOk2 E C σ a w → (∀ σ' a' w', K σ' → SOk2 E C σ' a' w' → Q .normal a' w') → wpList E.P ops Q os a w
  | [], σ, a, w, KS, _, h, H, hQ => hQ σ a w h H
  | o :: os, σ, a, w, KS, hp, h, H, hQ => by
    have hp0 := hp
    simp only [pinB, List.all_cons, Bool.and_eq_true] at hp
    have hput : ∀ b : Act, b.tmps = a.tmps → ∀ v, PinOk E C (b.put o.dst v) := fun b hb v => PinOk.put (a := b) ⟨fun x hx => by rw [hb]; exact H.2.1 x hx, H.2.2⟩ hp.1
    have hos : pinB C.pin os = true := hp.2
    have hone : pinB C.pin [o] = true := by simp only [pinB, List.all_cons, List.all_nil, Bool.and_true]; exact hp.1
    simp only [St.W] at h
    obtain ⟨K', h1, h2⟩ | ⟨hg, t, n, V, X, ho, hpin, hX, hbox⟩ | ⟨hg, g, x, xs, f, n, off, k, V, args, res, y', σ1, hc, hf, he, hpin, hx, hl, hok, h2⟩ := h
    · have h3 := wps_ok2 (E := E) (ops := ops) (Q := fun e a' w' => e = .normal ∧ ∃ σ', K' σ' ∧ SOk2 E C σ' a' w') [o] σ a w K' hone h1 H (fun σ' a' w' q1 q2 => ⟨rfl, σ', q1, q2⟩)
      unfold wpList at h3 ⊢
      split at h3
      · rename_i hw
        rw [if_pos hw]
        rcases h3 with h3 | ⟨_, _, _, h3⟩
        · left
          unfold Oper.wp at h3 ⊢
          generalize (execOp a.eval o).run E.P w = r at *
          cases r with
          | ok n w' =>
            cases n <;> simp only [Oper.upon] at h3 ⊢ <;>
              first
                | (obtain ⟨_, σ', q1, q2⟩ := h3; exact W_ok os σ' _ _ KS hos (h2 _ q1) q2 hQ)
                | exact Calls.mono h3 (fun e w'' he => by
                    cases e <;> first
                      | (obtain ⟨_, σ', q1, q2⟩ := he; exact W_ok os σ' _ _ KS hos (h2 _ q1) q2 hQ)
                      | (obtain ⟨_, _, hh, _⟩ := he; cases hh)
                      | (obtain ⟨hh, _⟩ := he; cases hh; done))
                | exact Rows.mono h3 (fun _ _ he => by obtain ⟨_, σ', q1, q2⟩ := he; exact W_ok os σ' _ _ KS hos (h2 _ q1) q2 hQ)
                | cases h3.1
          | halt x w' => cases x <;> simp only [Oper.upon] at h3 ⊢ <;> first | exact h3 | cases h3.1
        · cases h3.1
      · rename_i hw
        rw [if_neg hw]
        obtain ⟨_, σ', q1, q2⟩ := h3
        exact W_ok os σ' _ _ KS hos (h2 _ q1) q2 hQ
    · unfold wpList
      rw [if_pos (by simp [Region.wanted, hg])]
      left
      obtain ⟨s, Z, q1, q2, q3⟩ := id H.1
      subst q1
      obtain ⟨xA, e1, e2⟩ := opA q3 (.tmp n)
      rw [hX] at e1
      obtain ⟨zA, rfl, rfl⟩ := er_t e1
      have hV : a.eval (.tmp n) = V := H.2.1 (n, V) hpin
      have hcells : V.cells.toList = TA.vals zA.cells := by rw [← hV, e2.1, val_cells' e2.2]
      obtain ⟨σ1, h1, h2⟩ := hbox V.cells.toList rfl (by rw [hcells, TA.er_cells, TA.erL_map]; simp [TA.vals])
      refine opwp_mono ?_ (wp_pin hput (boxRaw_ok (K := fun a' w' => SOk C σ1 a' w') ho (by rw [hV]) ?_ h1 H.1 fun a' w' H' => H'))
      · intro a' w' H'
        exact W_ok os σ1 a' w' KS hos h2 H' hQ
      · rw [hcells]; exact vals_oneCell (TA.holds_cells e2.2) (TA.isCell_mem_cells e2.2)
    · unfold wpList
      rw [if_pos (by simp [Region.wanted, hg])]
      left
      refine opwp_mono ?_ (wp_pin hput (stCallG_ok (K := fun a' w' => SOk C σ1 a' w') hc hf he H.1 (callAt_ok (fun _ _ _ h => H.2.2.now h) hok hl ?_ H.1) fun a' w' H' => H'))
      · intro a' w' H'
        exact W_ok os σ1 a' w' KS hos h2 H' hQ
      · intro s Z base cs l q1 q3 hr hgp
        subst q1
        obtain ⟨xA, e1, e2⟩ := opA q3 x
        rw [hx] at e1
        obtain ⟨zA, rfl, hz⟩ := er_t e1
        rw [e2.1]
        have hv := slot_vals q3 hr (H.2.1 (n, V) hpin)
        rw [← hv] at hz
        have hlen := TA.getP_length _ _ _ _ _ hgp
        simp only [TA.getP] at hgp
        split at hgp
        case isFalse => cases hgp
        injection hgp with hgp
        have hvl : ((TA.vals cs).drop off).take (k.getD 1) = TA.vals l := by
          rw [← hgp]; simp [TA.vals, List.map_drop, List.map_take]
        rw [hvl] at hz
        cases k with
        | none =>
          obtain ⟨y, rfl⟩ := List.length_eq_one_iff.1 hlen
          simp only [mkT, TA.vals, List.map_cons, List.map_nil, List.headD_cons] at hz
          cases zA <;> simp only [TA.er, T.v.injEq, reduceCtorEq] at hz
          rw [hz]; rfl
        | some m =>
          simp only [mkT] at hz
          cases zA <;> simp only [TA.er, T.agg.injEq, reduceCtorEq] at hz
          rename_i zs
          rw [erL_v hz]
          simp only [TA.val, vals_v, mkVal]
theorem SWp.regionW {id : Nat} {ops : Array Oper} (hp : pinB C.pin ops.toList = true) (h : σ.W E C ops.toList ops.toList (S .normal)) : SWp E C (.region id ops false) S σ :=
  fun a w H => wp_region_list (W_ok ops.toList σ a w _ hp h H fun σ' a' w' hS H' => ⟨σ', hS, H'⟩)
theorem SWp.seqRW {id : Nat} {ops : Array Oper} {l : List Oper} (hl : ops.toList = l) (hp : pinB C.pin l = true) (h : ∀ K : St → Prop, (∀ σ', SWp E C d S σ' → K σ') → σ.W E C l l K) : SWp E C (.seq (.region id ops false) d) S σ :=
  SWp.seq (SWp.regionW (by rw [hl]; exact hp) (by rw [hl]; exact h _ fun σ' h => h))
theorem SWp.regW {id : Nat} {ops : Array Oper} {l : List Oper} (hl : ops.toList = l) (hp : pinB C.pin l = true) (h : ∀ K : St → Prop, (∀ σ', S .normal σ' → K σ') → σ.W E C l l K) : SWp E C (.region id ops false) S σ :=
  SWp.regionW (by rw [hl]; exact hp) (by rw [hl]; exact h _ fun σ' h => h)
theorem W_nil (h : K σ) : σ.W E C ops [] K := h
theorem W_op {o : Oper} (h : ∀ K' : St → Prop, (∀ σ1, σ1.W E C ops os K → K' σ1) → σ.wps E C.N ops [o] K') : σ.W E C ops (o :: os) K :=
  .inl ⟨_, h _ fun _ h => h, fun _ h => h⟩
theorem W_box {o : Oper} {t : TypeId} {n : Nat} {V : Value} {X : T} (m : Nat) (ho : o.op = .box t (.tmp n)) (hg : o.guard = none) (hp : (n, V) ∈ C.pin) (hX : σ.op (.tmp n) = .t X) (hm : X.cells.length = m)
    (h : ∀ cs : List Value, V.cells.toList = cs → cs.length = m → ∀ K' : St → Prop, (∀ σ1, σ1.W E C ops os K → K' σ1) → optK K' (σ.newBox C.N o.dst (cs.map T.v))) : σ.W E C ops (o :: os) K := by
  refine .inr (.inl ⟨hg, t, n, V, X, ho, hp, hX, fun cs h1 h2 => ?_⟩)
  have h3 := h cs h1 (by rw [h2, hm]) _ fun _ h => h
  unfold optK at h3
  split at h3
  · exact ⟨_, by assumption, h3⟩
  · exact h3.elim
theorem W_call {o : Oper} {g x : Operand} {xs : List Operand} {f : FuncId} (n off : Nat) (k : Option Nat) {V : Value} {cs : List Value} {args : List Arg} {res : List T} {y' : T} (hc : callOf o = some (g, x :: xs)) (hg : o.guard = none) (he : Enters E.P f) (hp : (n, V) ∈ C.pin) (hV : V.cells.toList = cs) (hok : OkIO E f args res [] [(0, y')])
    (h : ∀ K' : St → Prop, (∀ σ1, σ1.W E C ops os K → K' σ1) → σ.fn g = some f ∧ σ.op x = .t (mkT k (((cs.drop off).take (k.getD 1)).map T.v)) ∧ ioK args K' (σ.callAt C.N o.dst (.slot n) off [] k xs y' res)) : σ.W E C ops (o :: os) K := by
  obtain ⟨hf, hx, h3⟩ := h _ fun _ h => h
  unfold ioK at h3
  split at h3
  case h_2 => exact h3.elim
  rename_i z hz
  subst hV
  exact .inr (.inr ⟨hg, g, x, xs, f, n, off, k, V, args, res, y', z.2, hc, hf, he, hp, hx, by rw [hz, ← h3.1], hok, h3.2⟩)
attribute [simp] St.callAt
theorem pin_one {V : List (Nat × Value)} {n : Nat} (h : V.map Prod.fst = [n]) : ∃ v, (n, v) ∈ V := by
  match V, h with
  | [(m, v)], h => simp at h; exact ⟨v, by simp [h]⟩
end Go.OM
set_option linter.unusedVariables false
set_option linter.unusedSimpArgs false
namespace Go.OM
open Go.Sort
/-! ### Contracts of the library, told here -/
theorem er_vals : ∀ {as : List ArgA} {xs : List Value}, as.map ArgA.er = xs.map (fun x => Arg.val (.v x)) → as = xs.map fun x => ArgA.val (.v x)
  | [], [], _ => rfl
  | [], x :: xs, h => by simp at h
  | a :: as, [], h => by simp at h
  | a :: as, x :: xs, h => by
    simp only [List.map_cons, List.cons.injEq] at h ⊢
    refine ⟨?_, er_vals h.2⟩
    have h1 := h.1
    cases a <;> simp only [ArgA.er, Arg.val.injEq, reduceCtorEq] at h1
    rename_i z
    cases z <;> simp only [TA.er, T.v.injEq, reduceCtorEq] at h1
    rw [h1]
theorem vals_inn (q : Nat) : ∀ xs : List Value, innL q (xs.map fun x => ArgA.val (.v x)) = 0
  | [] => rfl
  | x :: xs => by simp only [List.map_cons, innL, ArgA.inn, TA.cnt, vals_inn q xs]
theorem vals_pc (q : Nat) : ∀ xs : List Value, pcL q (xs.map fun x => ArgA.val (.v x)) = 0
  | [] => rfl
  | x :: xs => by simp only [List.map_cons, pcL, ArgA.pc, vals_pc q xs]
theorem vals_ptrs : ∀ xs : List Value, ptrs (xs.map fun x => ArgA.val (.v x)) = []
  | [] => rfl
  | x :: xs => by simp only [List.map_cons, ptrs, vals_ptrs xs]
/-- The variables of the library's own, in a world. -/
def Env.Gl (E : Env) (w : World) : Prop := ∀ g ∈ E.gl, ∃ (cs : Array Value) (t : TypeId) (fr : Nat × Nat), w.heap[g.1]? = some (.cells cs t fr) ∧ g.2 cs
theorem grow_old {w : World} {os : Array Obj} {k n : Nat} (h : k < w.heap.size) : (grow (w.drewN n) os).heap[k]? = w.heap[k]? := by
  show (w.heap ++ os)[k]? = _
  rw [Array.getElem?_append_left h]
/-- A function of plain values that answers plain values, and leaves the heap behind longer at most. -/
theorem ok_plain {E : Env} {f : FuncId} {xs rs : List Value} (h1c : ∀ v ∈ rs, TA.OneCell v)
    (h : ∀ w, E.Gl w → Calls E.P f xs.toArray w fun e w' => e = .returned (retV (rs.map TA.v)) ∧ ∃ k os, w' = grow (w.drewN k) os) : Ok E f (xs.map fun x => Arg.val (.v x)) (rs.map T.v) [] := by
  intro w Z as has hA hG
  have := er_vals has
  subst this
  have hv : ((xs.map fun x => ArgA.val (.v x)).map ArgA.value) = xs := by
    rw [List.map_map]; exact (List.map_congr_left (fun x _ => rfl)).trans (List.map_id _)
  rw [hv]
  refine (h w fun g hg => (hG g hg).2).mono fun e w' ⟨he, k, os, hw⟩ => ?_
  subst hw
  have hcnt : ∀ (q : Nat) (l : List Value), TA.cntL q (l.map TA.v) = 0 := by
    intro q l
    induction l with
    | nil => rfl
    | cons c cs ih => simp only [List.map_cons, TA.cntL, TA.cnt, ih]
  have hH : ∀ (h : Array Obj) (l : List Value), (∀ v ∈ l, TA.OneCell v) → TA.HoldsL Z h (l.map TA.v) := by
    intro h l
    induction l with
    | nil => intro _; simp [TA.HoldsL]
    | cons c cs ih => intro hc; simp only [List.map_cons, TA.HoldsL, TA.Holds]; exact ⟨hc c (by simp), ih fun v hv => hc v (by simp [hv])⟩
  have hsz : w.heap.size ≤ (grow (w.drewN k) os).heap.size := by
    show w.heap.size ≤ (w.heap ++ os).size
    simp
  refine ⟨Z, rs.map TA.v, [], he, ?_, rfl, ?_⟩
  · rw [TA.erL_map, List.map_map]; rfl
  · exact {
      holds := hH _ _ h1c
      outs := by rw [vals_ptrs]; trivial
      uniq := fun q => by rw [hcnt, vals_pc]; simp [TA.cntL]
      own := fun q hq => by rw [hcnt] at hq; simp [TA.cntL] at hq
      zle := fun _ h => h
      zext := fun _ h => .inl h
      zlt := fun q hq => Nat.lt_of_lt_of_le (hA.zlt q hq) hsz
      os := rfl
      tape := rfl
      output := rfl
      grown := hsz
      kept := fun q hq _ => grow_old hq
      part := fun x hx => by rw [vals_ptrs] at hx; cases hx }
end Go.OM
set_option linter.unusedVariables false
set_option linter.unusedSimpArgs false
namespace Go.OM
open Go.Sort
theorem flat_v : ∀ es : List Value, (es.map TA.v).flatMap TA.cells = es.map TA.v
  | [] => rfl
  | e :: es => by simp only [List.map_cons, List.flatMap_cons, TA.cells, flat_v es]; rfl
/-- A function of plain values that answers a new row of plain values. -/
theorem ok_fresh {E : Env} {f : FuncId} {xs es : List Value} {ty : TypeId} (h1c : ∀ v ∈ es, TA.OneCell v)
    (h : ∀ w, E.Gl w → Calls E.P f xs.toArray w fun e w' => e = .returned (.slice (some ⟨w.heap.size, 0, none⟩) es.length es.length) ∧ w' = w.alloc (.cells es.toArray ty)) : Ok E f (xs.map fun x => Arg.val (.v x)) [.sl true 1 (es.map T.v)] [] := by
  intro w Z as has hA hG
  have := er_vals has
  subst this
  have hv : ((xs.map fun x => ArgA.val (.v x)).map ArgA.value) = xs := by
    rw [List.map_map]; exact (List.map_congr_left (fun x _ => rfl)).trans (List.map_id _)
  rw [hv]
  refine (h w fun g hg => (hG g hg).2).mono fun e w' ⟨he, hw⟩ => ?_
  subst hw
  have hcnt : ∀ (q : Nat) (l : List Value), TA.cntL q (l.map TA.v) = 0 := by
    intro q l
    induction l with
    | nil => rfl
    | cons c cs ih => simp only [List.map_cons, TA.cntL, TA.cnt, ih]
  have hH : ∀ (h : Array Obj) (l : List Value), (∀ v ∈ l, TA.OneCell v) → TA.HoldsL Z h (l.map TA.v) := by
    intro h l
    induction l with
    | nil => intro _; simp [TA.HoldsL]
    | cons c cs ih => intro hc; simp only [List.map_cons, TA.HoldsL, TA.Holds]; exact ⟨hc c (by simp), ih fun v hv => hc v (by simp [hv])⟩
  have hheap : (w.alloc (.cells es.toArray ty)).heap = w.heap.push (.cells es.toArray ty) := rfl
  have hvals : TA.vals ((es.map TA.v).flatMap TA.cells) = es := by
    rw [flat_v, vals_v]
  have hnew : ∀ q, TA.cnt q (TA.sl true 1 w.heap.size 0 es.length (es.map TA.v)) = if w.heap.size = q then 1 else 0 := by
    intro q
    simp only [TA.cnt, hcnt]
    split <;> simp_all
  refine ⟨Z, [.sl true 1 w.heap.size 0 es.length (es.map TA.v)], [], ?_, ?_, rfl, ?_⟩
  · rw [he]; simp [retV, TA.val, TA.val1]
  · simp only [TA.erL, TA.er, TA.erL_map, List.map_map]; rfl
  · exact {
      holds := by
        simp only [TA.HoldsL, TA.Holds, and_true]
        refine ⟨⟨es.toArray, ty, (0, 0), by rw [hheap]; simp, fun _ => ⟨by simp, rfl⟩, fun j u hu => ?_⟩, by simp, by simp, hH _ _ h1c, ?_⟩
        · rw [hvals] at hu; simpa using hu
        · intro e he
          obtain ⟨x, _, rfl⟩ := List.mem_map.1 he
          rfl
      outs := by rw [vals_ptrs]; trivial
      uniq := fun q => by
        rw [vals_pc]
        simp only [TA.cntL, hnew, List.flatten_nil]
        split <;> omega
      own := fun q hq => by
        simp only [TA.cntL, hnew, List.flatten_nil] at hq
        split at hq
        · rename_i e
          subst e
          exact ⟨.inr (Nat.le_refl _), fun hz => by have := hA.zlt _ hz; omega⟩
        · omega
      zle := fun _ h => h
      zext := fun _ h => .inl h
      zlt := fun q hq => by have := hA.zlt q hq; rw [hheap, Array.size_push]; omega
      os := rfl
      tape := rfl
      output := rfl
      grown := by rw [hheap, Array.size_push]; omega
      kept := fun q hq _ => by rw [hheap, Array.getElem?_push_lt hq]; simp [hq]
      part := fun x hx => by rw [vals_ptrs] at hx; cases hx }
end Go.OM
set_option linter.unusedVariables false
set_option linter.unusedSimpArgs false
namespace Go.OM
variable {C : Ctx} {E : Env} {σ σ' : St} {Q : Exit → Act → World → Prop} {S : Exit → St → Prop} {a : Act} {w : World} {P : Program}
/-! ### Drawn regions: what stands behind all others by way of others -/
theorem wpAny_tailT {ops : Array Oper} {m : Nat} (hord : ∀ (i : Nat) (o : Oper), ops[i]? = some o → ∀ e ∈ o.after.toList, Region.binds .any e = true → e.on < i)
    (hlast : ∀ (i : Nat) (o : Oper), m ≤ i → ops[i]? = some o → ∀ D : Nat → Bool, (∀ (j : Nat) (o' : Oper), ops[j]? = some o' → D j = true → depsIn o' D) → depsIn o D → ∀ j, j < i → D j = true) :
    ∀ (fuel k : Nat) (listed : Array Bool) (a : Act) (w : World), m ≤ k → k ≤ ops.size → listed.size = ops.size → (∀ i d, i < ops.size → listed.getD i d = decide (i < k)) → ops.size - k ≤ fuel → wpList P ops Q (ops.toList.drop k) a w → wpAny P .any ops Q fuel listed a w := by
  intro fuel
  induction fuel with
  | zero =>
    intro k listed a w hm hk hsz hl hf h
    have hkk : k = ops.size := by omega
    refine ⟨?_, ?_⟩
    · rw [List.eq_nil_iff_forall_not_mem]
      intro i hi
      obtain ⟨h1, h2, _⟩ := ready_mem.1 hi
      rw [hl i true h1] at h2
      simp at h2; omega
    · rw [List.drop_eq_nil_of_le (by simp; omega)] at h
      exact h
  | succ fuel ih =>
    intro k listed a w hm hk hsz hl hf h
    by_cases hkk : k = ops.size
    · have hnil : Region.ready .any ops listed = [] := by
        rw [List.eq_nil_iff_forall_not_mem]
        intro i hi
        obtain ⟨h1, h2, _⟩ := ready_mem.1 hi
        rw [hl i true h1] at h2
        simp at h2; omega
      rw [List.drop_eq_nil_of_le (by simp; omega)] at h
      refine ⟨fun _ => h, fun i hi => ?_⟩
      rw [hnil] at hi; cases hi
    · have hlt : k < ops.size := by omega
      have ho : ops[k]? = some ops[k] := Array.getElem?_eq_getElem hlt
      have hmem : k ∈ Region.ready .any ops listed := by
        rw [ready_mem]
        refine ⟨hlt, by rw [hl k true hlt]; simp, fun o ho' e he hb => ?_⟩
        have := hord k o ho' e he hb
        rw [hl e.on false (by omega)]
        simpa using this
      refine ⟨fun hr => (by rw [hr] at hmem; cases hmem), fun i hi => ?_⟩
      obtain ⟨h1, h2, h3⟩ := ready_mem.1 hi
      have hik : i = k := by
        rw [hl i true h1] at h2
        simp only [decide_eq_false_iff_not, Nat.not_lt] at h2
        rcases Nat.lt_or_ge k i with hki | hki
        · exfalso
          have hoi : ops[i]? = some ops[i] := Array.getElem?_eq_getElem h1
          have := hlast i _ (by omega) hoi (fun j => decide (j < k)) (fun j o' ho' hj e he hb => by
            have h5 := hord j o' ho' e he hb
            simp only [decide_eq_true_eq] at hj ⊢
            omega) (fun e he hb => by
            have h5 := h3 _ hoi e he hb
            rwa [hl _ false (by have := hord i _ hoi e he hb; omega)] at h5) k hki
          simp at this
        · omega
      subst hik
      have hdrop : ops.toList.drop i = ops[i] :: ops.toList.drop (i + 1) := by
        rw [List.drop_eq_getElem_cons (by simpa using hlt)]; simp
      rw [hdrop] at h
      have h' : wpOp P ops Q i (wpList P ops Q (ops.toList.drop (i + 1))) a w := by
        unfold wpOp
        rw [ho]
        exact h
      refine wpOp_mono (fun a w h => ih (i + 1) _ a w (by omega) (by omega) (by simpa using hsz) (fun j d hj => ?_) (by omega) h) h'
      rw [getD_set (by omega), hl j d hj]
      by_cases e : j = i
      · subst e; simp
      · rw [if_neg e]; congr 1; apply propext; omega
theorem wpAny_famT {ops : Array Oper} (hpin : pinB C.pin ops.toList = true) (m : Nat) (hm : m ≤ ops.size) (fam : (Nat → Bool) → St) (hord : ∀ (i : Nat) (o : Oper), ops[i]? = some o → ∀ e ∈ o.after.toList, Region.binds .any e = true → e.on < i)
    (hlast : ∀ (i : Nat) (o : Oper), m ≤ i → ops[i]? = some o → ∀ D : Nat → Bool, (∀ (j : Nat) (o' : Oper), ops[j]? = some o' → D j = true → depsIn o' D) → depsIn o D → ∀ j, j < i → D j = true)
    (hstep : ∀ (i : Nat) (o : Oper), i < m → ops[i]? = some o → ∀ D : Nat → Bool, D i = false → (∀ j o', ops[j]? = some o' → D j = true → depsIn o' D) → depsIn o D → (fam D).wps E C.N ops.toList [o] (fun σ' => σ' = fam (upd1 D i)))
    (hend : ∀ D : Nat → Bool, (∀ i, i < m → D i = true) → ∀ a w, SOk2 E C (fam D) a w → wpList E.P ops Q (ops.toList.drop m) a w) :
    ∀ (fuel : Nat) (listed : Array Bool) (D : Nat → Bool) (a : Act) (w : World), listed.size = ops.size → (∀ i d, i < ops.size → listed.getD i d = D i) → (∀ i, m ≤ i → D i = false) → (∀ j o', ops[j]? = some o' → D j = true → depsIn o' D) → (listed.toList.countP (fun b => !b)) ≤ fuel → SOk2 E C (fam D) a w → wpAny E.P .any ops Q fuel listed a w := by
  intro fuel
  induction fuel with
  | zero =>
    intro listed D a w hsz hl hD hcl hc H
    have hall : ∀ i, i < ops.size → D i = true := by
      intro i hi
      rw [← hl i true hi]
      have hlt : i < listed.size := by omega
      rw [Array.getD_eq_getD_getElem?, Array.getElem?_eq_getElem hlt]
      simp only [Option.getD_some]
      have h0 : listed.toList.countP (fun b => !b) = 0 := by omega
      rw [List.countP_eq_zero] at h0
      have := h0 listed[i] (by simp)
      simpa using this
    have hmm : m = ops.size := by
      rcases Nat.lt_or_ge m ops.size with h | h
      · have := hall m h; rw [hD m (Nat.le_refl _)] at this; cases this
      · omega
    refine wpAny_tailT hord hlast 0 m listed a w (Nat.le_refl _) hm hsz (fun i d hi => ?_) (by omega) (hend D (fun i hi => hall i (by omega)) a w H)
    rw [hl i d hi, hall i hi]
    simp; omega
  | succ fuel ih =>
    intro listed D a w hsz hl hD hcl hc H
    by_cases hall : ∀ i, i < m → D i = true
    · have hcount : listed.toList.countP (fun b => !b) = ops.size - m ∨ True := .inr trivial
      have hle : ops.size - m ≤ fuel + 1 := by
        refine Nat.le_trans ?_ hc
        have hsub : (listed.toList.drop m).countP (fun b => !b) ≤ listed.toList.countP (fun b => !b) := List.Sublist.countP_le (List.drop_sublist m _)
        refine Nat.le_trans ?_ hsub
        have : (listed.toList.drop m).countP (fun b => !b) = (listed.toList.drop m).length := by
          rw [List.countP_eq_length]
          intro b hb
          obtain ⟨j, hj, rfl⟩ := List.mem_iff_getElem.1 hb
          rw [List.length_drop] at hj
          simp only [List.getElem_drop, Bool.not_eq_true']
          have hj2 : m + j < listed.size := by simp at hj; omega
          have h5 := hl (m + j) true (by omega)
          rw [Array.getD_eq_getD_getElem?, Array.getElem?_eq_getElem hj2] at h5
          simp only [Option.getD_some] at h5
          rw [Array.getElem_toList, h5]
          exact hD _ (by omega)
        rw [this, List.length_drop]; simp; omega
      refine wpAny_tailT hord hlast (fuel + 1) m listed a w (Nat.le_refl _) hm hsz (fun i d hi => ?_) hle (hend D hall a w H)
      rw [hl i d hi]
      rcases Nat.lt_or_ge i m with h | h
      · rw [hall i h]; simp [h]
      · rw [hD i h]; simp; omega
    · have hne : ∀ i, i ∈ Region.ready .any ops listed → i < m := by
        intro i hi
        obtain ⟨h1, h2, h3⟩ := ready_mem.1 hi
        rcases Nat.lt_or_ge i m with h | h
        · exact h
        · exfalso
          apply hall
          intro j hj
          have hoi : ops[i]? = some ops[i] := Array.getElem?_eq_getElem h1
          exact hlast i _ h hoi D hcl (fun e he hb => by
            have h5 := h3 _ hoi e he hb
            rwa [hl _ false (by have := hord i _ hoi e he hb; omega)] at h5) j (by omega)
      refine ⟨fun hr => ?_, fun i hi => ?_⟩
      · exfalso
        apply hall
        intro i
        induction i using Nat.strongRecOn with
        | _ i ihi =>
          intro him
          cases hDi : D i with
          | true => rfl
          | false =>
            exfalso
            have hmem : i ∈ Region.ready .any ops listed := by
              rw [ready_mem]
              refine ⟨by omega, by rw [hl i true (by omega), hDi], fun o ho e he hb => ?_⟩
              have := hord i o ho e he hb
              rw [hl e.on false (by omega)]
              exact ihi e.on this (by omega)
            rw [hr] at hmem; cases hmem
      · have him := hne i hi
        obtain ⟨h1, h2, h3⟩ := ready_mem.1 hi
        have ho : ops[i]? = some ops[i] := Array.getElem?_eq_getElem h1
        have hDi : D i = false := by rw [← hl i true h1]; exact h2
        have hdep : depsIn ops[i] D := by
          intro e he hb
          have := h3 _ ho e he hb
          rwa [hl e.on false (by have := hord i _ ho e he hb; omega)] at this
        have hlt' : i < listed.size := by omega
        have hnext : ∀ a w, SOk2 E C (fam (upd1 D i)) a w → wpAny E.P .any ops Q fuel (listed.setIfInBounds i true) a w := by
          intro a w H'
          refine ih _ (upd1 D i) a w (by simpa using hsz) ?_ ?_ ?_ ?_ H'
          · intro j d hj
            rw [getD_set hlt', hl j d hj]
            rfl
          · intro j hj
            unfold upd1
            rw [if_neg (by omega)]
            exact hD j hj
          · intro j o' ho' hj
            unfold upd1 at hj
            by_cases e : j = i
            · subst e
              rw [ho] at ho'
              injection ho' with ho'
              subst ho'
              intro e he hb
              have := hdep e he hb
              unfold upd1
              by_cases e2 : e.on = j
              · rw [if_pos e2]
              · rw [if_neg e2]; exact this
            · rw [if_neg e] at hj
              intro e' he hb
              have := hcl j o' ho' hj e' he hb
              unfold upd1
              by_cases e2 : e'.on = i
              · rw [if_pos e2]
              · rw [if_neg e2]; exact this
          · have hv : listed[i] = false := by
              have := hl i true h1
              rw [Array.getD_eq_getD_getElem?, Array.getElem?_eq_getElem hlt', hDi] at this
              simpa using this
            rw [Array.toList_setIfInBounds, List.countP_set (by simpa using hlt')]
            have hp : 0 < listed.toList.countP (fun b => !b) := by
              rw [List.countP_pos_iff]
              exact ⟨listed[i], by simp, by simp [hv]⟩
            have hv' : listed.toList[i]'(by simpa using hlt') = false := by simpa using hv
            rw [hv']
            simp only [Bool.not_false, Bool.not_true, if_true, Bool.false_eq_true, if_false]
            omega
        have hone := hstep i ops[i] him ho D hDi hcl hdep
        have hpi : pinB C.pin [ops[i]] = true := by
          have := List.all_eq_true.1 hpin ops[i] (by simp)
          simp only [pinB, List.all_cons, List.all_nil, Bool.and_true]
          exact this
        have hl2 := wps_ok2 (E := E) (Q := Exit.then (wpAny E.P .any ops Q fuel (listed.setIfInBounds i true)) Q) [ops[i]] (fam D) a w _ hpi hone H (fun σ' a' w' hσ H' => hnext a' w' (hσ ▸ H'))
        unfold wpOp
        rw [ho]
        unfold wpList at hl2
        simp only
        split at hl2
        · rename_i hw
          rw [if_pos hw]
          rcases hl2 with hl2 | ⟨h5, h6⟩
          · exact .inl (wp_then hl2)
          · exact .inr ⟨h5, h6⟩
        · rename_i hw
          rw [if_neg hw]
          exact hl2
def lastT (td : List (List Nat)) (m n : Nat) : Bool := (List.range n).all fun i => decide (i < m) || (List.range i).all fun j => (td.getD i []).contains j
theorem lastT_get {td : List (List Nat)} {m n i j : Nat} (h : lastT td m n = true) (h1 : m ≤ i) (h2 : i < n) (hj : j < i) : j ∈ td.getD i [] := by
  have h3 := List.all_eq_true.1 h i (List.mem_range.2 h2)
  simp only [Bool.or_eq_true, decide_eq_true_eq] at h3
  rcases h3 with h3 | h3
  · omega
  · exact List.contains_iff_mem.1 (List.all_eq_true.1 h3 j (List.mem_range.2 hj))
/-- **A region that draws its order**: the first operations (as many as vs tells) each set a slot of their own; the others stand one behind the other. -/
theorem SWp.drawT {id : Nat} {ops : Array Oper} {l : List Oper} (hl : ops.toList = l) (hp : pinB C.pin l = true) (vs : List (Nat × AV)) (td : List (List Nat)) (hm : vs.length ≤ l.length) (hdup : decide (vs.map Prod.fst).Nodup = true) (hfresh : ∀ n ∈ vs.map Prod.fst, look σ.tm n = none) (hord : ordB 0 l = true) (hlast : lastT td vs.length l.length = true) (htd : tdB td 0 l = true)
    (hstep : allIdx (owed E C σ l vs td) 0 (l.take vs.length))
    (hend : ∀ K : St → Prop, (∀ σ, S .normal σ → K σ) → (⟨σ.tm ++ vs, σ.bx⟩ : St).wps E C.N l (l.drop vs.length) K) : SWp E C (.region id ops true) S σ := fun a w H => by
  subst hl
  have hnd : (vs.map Prod.fst).Nodup := of_decide_eq_true hdup
  have hdis : ∀ e ∈ vs, e.1 ∉ σ.tm.map Prod.fst := by
    intro e he hm
    have h1 := hfresh e.1 (List.mem_map.2 ⟨e, he, rfl⟩)
    obtain ⟨f, hf, hfe⟩ := List.mem_map.1 hm
    have : ∀ (l : List (Nat × AV)) (n : Nat), n ∈ l.map Prod.fst → look l n ≠ none := by
      intro l
      induction l with
      | nil => intro n h; simp at h
      | cons x l ih =>
        intro n h
        obtain ⟨k, y⟩ := x
        simp only [look]
        by_cases e : k = n
        · simp [e]
        · rw [if_neg e]
          simp only [List.map_cons, List.mem_cons] at h
          exact ih n (h.resolve_left fun h => e h.symm)
    exact this σ.tm e.1 hm h1
  have hordI : ∀ (i : Nat) (o : Oper), ops[i]? = some o → ∀ e ∈ o.after.toList, Region.binds .any e = true → e.on < i := by
    intro i o ho
    have := ordB_get ops.toList 0 i o hord (by rw [Array.getElem?_toList]; exact ho)
    simpa using this
  have key : ∀ D : Nat → Bool, (∀ (j : Nat) (o' : Oper), ops[j]? = some o' → D j = true → depsIn o' D) → ∀ (i : Nat) (o : Oper), ops[i]? = some o → depsIn o D → ∀ j ∈ td.getD i [], j < i ∧ D j = true := by
    intro D hcl i
    induction i using Nat.strongRecOn with
    | _ i ih =>
      intro o ho hdep j hj
      have h1 := tdB_get ops.toList 0 i o htd (by rw [Array.getElem?_toList]; exact ho)
      rw [Nat.zero_add] at h1
      obtain ⟨e, he, hb, h2⟩ := h1 j hj
      have hei := hordI i o ho e he hb
      rcases h2 with h2 | ⟨_, h2⟩
      · subst h2; exact ⟨hei, hdep e he hb⟩
      · have hlt : e.on < ops.size := by have := (Array.getElem?_eq_some_iff.1 ho).1; omega
        have hoe : ops[e.on]? = some ops[e.on] := Array.getElem?_eq_getElem hlt
        obtain ⟨h3, h4⟩ := ih e.on hei _ hoe (hcl e.on _ hoe (hdep e he hb)) j h2
        exact ⟨by omega, h4⟩
  refine wp_region_any E.mixed ?_
  refine wpAny_famT (C := C) (E := E) hp vs.length (by simpa using hm) (fun D => ⟨σ.tm ++ famL D 0 vs, σ.bx⟩) hordI (fun i o hi ho => ?_) (fun i o hi ho D hD hcl hdep => ?_) (fun D hD a w H => ?_) ops.size _ (fun _ => false) a _ (by simp) (fun i d hi => by simp [Array.getD, hi]) (fun _ _ => rfl) (fun _ _ _ h => by cases h) ?_ ?_
  · intro D hcl hdep j hj
    have hlt : i < ops.size := (Array.getElem?_eq_some_iff.1 ho).1
    exact (key D hcl i o ho hdep j (lastT_get hlast hi (by simpa using hlt) hj)).2
  · have hget : (ops.toList.take vs.length)[i]? = some o := by
      rw [List.getElem?_take, if_pos hi, Array.getElem?_toList]; exact ho
    have hob := allIdx_get _ 0 i o hstep hget
    rw [Nat.zero_add] at hob
    have hvi : vs[i]? = some (vsAt vs i) := by
      unfold vsAt
      rw [List.getD_eq_getElem?_getD, List.getElem?_eq_getElem hi]; rfl
    have hlk : ∀ j, j < vs.length → look (σ.tm ++ famL D 0 vs) (vsAt vs j).1 = some (if D j = true then (vsAt vs j).2 else .u) := by
      intro j hj
      have hvj : vs[j]? = some (vsAt vs j) := by
        unfold vsAt
        rw [List.getD_eq_getElem?_getD, List.getElem?_eq_getElem hj]; rfl
      rw [look_app, hfresh _ (List.mem_map.2 ⟨_, List.mem_of_getElem? hvj, rfl⟩)]
      have := famL_get D 0 vs j _ hnd hvj
      rw [Nat.zero_add] at this
      exact this
    refine hob ⟨σ.tm ++ famL D 0 vs, σ.bx⟩ rfl (fun n hn => ?_) ?_ ?_ _ (fun σ' hσ' => ?_)
    · show look (σ.tm ++ famL D 0 vs) n = _
      rw [look_app]
      cases h : look σ.tm n with
      | some x => rfl
      | none => exact look_none (by rw [famL_keys]; exact hn)
    · -- what it leans on is done
      intro j hj
      obtain ⟨h1, h2⟩ := key D hcl i o ho hdep j hj
      have := hlk j (by omega)
      rw [h2, if_pos rfl] at this
      exact this
    · have := hlk i hi
      rw [hD] at this
      simpa using this
    · subst hσ'
      show (⟨_, _⟩ : St) = ⟨_, _⟩
      congr 1
      have hmem : vsAt vs i ∈ vs := List.mem_of_getElem? hvi
      rw [put_mem _ _ _ _ (hdis _ hmem)]
      have := put_famL D 0 vs i _ hnd hvi
      rw [Nat.zero_add] at this
      rw [this]
  · have hall : famL D 0 vs = vs := famL_all D 0 vs (fun j _ hj => hD j (by omega))
    have h2 := hend (fun σ' => S .normal σ') (fun _ h => h)
    simp only [hall] at H
    have hpd : pinB C.pin (ops.toList.drop vs.length) = true := List.all_eq_true.2 fun o ho => List.all_eq_true.1 hp o (List.mem_of_mem_drop ho)
    exact wps_ok2 (E := E) _ _ a w _ hpd h2 H (fun σ' a' w' hS H' => ⟨σ', hS, H'⟩)
  · exact Nat.le_trans List.countP_le_length (by simp)
  · have := H.1.pad (vs.map Prod.fst)
    rw [famL_none]
    rw [List.map_map] at this
    exact ⟨this.drew _, H.2⟩
end Go.OM
