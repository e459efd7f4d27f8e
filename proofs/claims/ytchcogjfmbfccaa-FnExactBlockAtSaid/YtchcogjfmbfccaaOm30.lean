import Derived.Test.YtchcogjfmbfccaaOm29
import Derived.Orders
set_option linter.unusedVariables false
set_option linter.unusedSimpArgs false
namespace Go.OM
variable {C : Ctx} {Z Z' : Nat → Prop} {s : StA} {a : Act} {w w' : World} {E : Env} {o : Oper} {σ σ' : St} {Q : Exit → Act → World → Prop} {S : Exit → St → Prop}

/-! ### Operations in whatever order -/
def upd1 (D : Nat → Bool) (i : Nat) : Nat → Bool := fun k => if k = i then true else D k
theorem wp_then {P : Program} {K : Act → World → Prop} (h : o.wp P a w (Exit.then K Q .normal) (Exit.then K Q)) : o.wp P a w K Q := by
  unfold Oper.wp at *
  generalize (execOp a.eval o).run P w = r at *
  cases r with
  | ok n w' =>
    cases n <;> simp only [Oper.upon] at h ⊢ <;>
      first
        | exact h
        | exact Calls.mono h (fun e w'' he => by cases e <;> exact he)
  | halt x w' => cases x <;> simp only [Oper.upon] at h ⊢ <;> exact h
/-- What an operation may lean on. -/
def depsIn (o : Oper) (D : Nat → Bool) : Prop := ∀ e ∈ o.after.toList, Region.binds .any e = true → D e.on = true
/-- A state for each set of operations that are done; each operation leads from one to the next. -/
theorem wpAny_fam {ops : Array Oper} (fam : (Nat → Bool) → St) (hord : ∀ (i : Nat) (o : Oper), ops[i]? = some o → ∀ e ∈ o.after.toList, e.on < i)
    (hstep : ∀ (i : Nat) (o : Oper), ops[i]? = some o → ∀ D : Nat → Bool, D i = false → depsIn o D → ∀ K : St → Prop, K (fam (upd1 D i)) → (fam D).wps E C.N ops.toList [o] K)
    (hend : ∀ D : Nat → Bool, (∀ i, i < ops.size → D i = true) → ∀ a w, SOk C (fam D) a w → Q .normal a w) :
    ∀ (fuel : Nat) (listed : Array Bool) (D : Nat → Bool) (a : Act) (w : World), listed.size = ops.size → (∀ i, i < ops.size → listed.getD i true = D i) → (∀ i, i < ops.size → listed.getD i false = D i) → (listed.toList.countP (fun b => !b)) ≤ fuel → SOk C (fam D) a w → wpAny E.P .any ops Q fuel listed a w := by
  have hempty : ∀ (listed : Array Bool) (D : Nat → Bool), listed.size = ops.size → (∀ i, i < ops.size → listed.getD i true = D i) → (∀ i, i < ops.size → listed.getD i false = D i) → Region.ready .any ops listed = [] → ∀ i, i < ops.size → D i = true := by
    intro listed D hsz h1 h2 hr i
    induction i using Nat.strongRecOn with
    | _ i ih =>
      intro hi
      cases hD : D i with
      | true => rfl
      | false =>
        exfalso
        have hm : i ∈ Region.ready .any ops listed := by
          unfold Region.ready
          rw [List.mem_filter]
          refine ⟨List.mem_range.2 hi, ?_⟩
          have ho : ops[i]? = some ops[i] := Array.getElem?_eq_getElem hi
          rw [h1 i hi, hD, ho]
          simp only [Bool.not_false, Bool.true_and, Option.map_some, Option.getD_some, Array.all_eq_true_iff_forall_mem]
          intro e he
          have hlt := hord i _ ho e (by simpa using he)
          have := ih e.on hlt (by omega)
          rw [h2 e.on (by omega), this]
          simp
        rw [hr] at hm
        cases hm
  intro fuel
  induction fuel with
  | zero =>
    intro listed D a w hsz h1 h2 hc H
    have hall : ∀ i, i < ops.size → D i = true := by
      intro i hi
      rw [← h1 i hi]
      have hlt : i < listed.size := by omega
      rw [Array.getD_eq_getD_getElem?, Array.getElem?_eq_getElem hlt]
      simp only [Option.getD_some]
      have h0 : listed.toList.countP (fun b => !b) = 0 := by omega
      rw [List.countP_eq_zero] at h0
      have := h0 listed[i] (by simp)
      simpa using this
    refine ⟨?_, hend D hall a w H⟩
    unfold Region.ready
    rw [List.filter_eq_nil_iff]
    intro i hi
    have hi' := List.mem_range.1 hi
    rw [h1 i hi', hall i hi']
    simp
  | succ fuel ih =>
    intro listed D a w hsz h1 h2 hc H
    refine ⟨fun hr => hend D (hempty listed D hsz h1 h2 hr) a w H, fun i hi => ?_⟩
    unfold Region.ready at hi
    rw [List.mem_filter] at hi
    obtain ⟨hi1, hi2⟩ := hi
    have hlt := List.mem_range.1 hi1
    have ho : ops[i]? = some ops[i] := Array.getElem?_eq_getElem hlt
    rw [h1 i hlt, ho] at hi2
    simp only [Option.map_some, Option.getD_some, Bool.and_eq_true, Bool.not_eq_true', Array.all_eq_true_iff_forall_mem, Bool.or_eq_true] at hi2
    obtain ⟨hDi, hdeps⟩ := hi2
    have hdep : depsIn ops[i] D := by
      intro e he hb
      have := hdeps e (by simpa using he)
      rcases this with h | h
      · rw [hb] at h; cases h
      · rwa [h2 e.on (by have := hord i _ ho e he; omega)] at h
    have hlt' : i < listed.size := by omega
    have hnext : ∀ a w, SOk C (fam (upd1 D i)) a w → wpAny E.P .any ops Q fuel (listed.setIfInBounds i true) a w := by
      intro a w H'
      refine ih _ (upd1 D i) a w (by simpa using hsz) ?_ ?_ ?_ H'
      · intro j hj
        rw [Array.getD_eq_getD_getElem?, Array.getElem?_setIfInBounds]
        unfold upd1
        by_cases e : i = j
        · subst e; simp [hlt']
        · rw [if_neg e, if_neg (fun h => e h.symm), ← h1 j hj, Array.getD_eq_getD_getElem?]
      · intro j hj
        rw [Array.getD_eq_getD_getElem?, Array.getElem?_setIfInBounds]
        unfold upd1
        by_cases e : i = j
        · subst e; simp [hlt']
        · rw [if_neg e, if_neg (fun h => e h.symm), ← h2 j hj, Array.getD_eq_getD_getElem?]
      · have hv : listed[i] = false := by
          have := h1 i hlt
          rw [Array.getD_eq_getD_getElem?, Array.getElem?_eq_getElem hlt', hDi] at this
          simpa using this
        rw [Array.toList_setIfInBounds, List.countP_set (by simpa using hlt')]
        have hp : 0 < listed.toList.countP (fun b => !b) := by
          rw [List.countP_pos_iff]
          exact ⟨listed[i], by simp, by simp [hv]⟩
        have hv' : listed.toList[i]'(by simpa using hlt') = false := by simpa using hv
        rw [hv']
        simp only [Bool.not_false, Bool.not_true, if_true, Bool.false_eq_true, if_false]
        omega
    -- the one operation
    have hone := hstep i ops[i] ho D hDi hdep (fun σ' => σ' = fam (upd1 D i)) rfl
    have hl := wps_ok (E := E) (Q := Exit.then (wpAny E.P .any ops Q fuel (listed.setIfInBounds i true)) Q) [ops[i]] (fam D) a w _ hone H (fun σ' a' w' hσ H' => hnext a' w' (hσ ▸ H'))
    unfold wpOp
    rw [ho]
    unfold wpList at hl
    simp only
    split at hl
    · rename_i hw
      rw [if_pos hw]
      rcases hl with hl | ⟨h5, h6⟩
      · exact .inl (wp_then hl)
      · exact .inr ⟨h5, h6⟩
    · rename_i hw
      rw [if_neg hw]
      exact hl
/-- **A region whose operations stand in no order**: each sets its own slot; what it finds is told by what is done. -/
theorem SWp.draw {id : Nat} {ops : Array Oper} (fam : (Nat → Bool) → St) (h0 : ∀ (C : Ctx) a w, SOk C σ a w → SOk C (fam fun _ => false) a w) (hord : ∀ (i : Nat) (o : Oper), ops[i]? = some o → ∀ e ∈ o.after.toList, e.on < i)
    (hstep : ∀ (i : Nat) (o : Oper), ops[i]? = some o → ∀ D : Nat → Bool, D i = false → depsIn o D → ∀ K : St → Prop, K (fam (upd1 D i)) → (fam D).wps E C.N ops.toList [o] K)
    (hend : ∀ D : Nat → Bool, (∀ i, i < ops.size → D i = true) → S .normal (fam D)) : SWp E C (.region id ops true) S σ := fun a w H => by
  refine wp_region_any E.mixed ?_
  refine wpAny_fam (E := E) fam hord hstep (fun D hD a w H => ⟨fam D, hend D hD, H⟩) ops.size _ (fun _ => false) a _ (by simp) (fun i hi => by simp [Array.getD, hi]) (fun i hi => by simp [Array.getD, hi]) ?_ ((h0 C a w H).drew _)
  exact Nat.le_trans List.countP_le_length (by simp)
theorem look_app {α : Type} : ∀ (l m : List (Nat × α)) (n : Nat), look (l ++ m) n = match look l n with | some x => some x | none => look m n
  | [], m, n => rfl
  | (k, x) :: l, m, n => by
    simp only [List.cons_append, look]
    by_cases e : k = n
    · simp [e]
    · simp only [if_neg e]; exact look_app l m n
theorem tot_app {α : Type} (f : α → Nat) : ∀ (l m : List (Nat × α)), tot f (l ++ m) = tot f l + tot f m
  | [], m => by simp [tot]
  | e :: l, m => by simp only [List.cons_append, tot, tot_app f l m]; omega
theorem enters_of {P : Program} {f : FuncId} {fn : Func} (hf : P.funcs[f]? = some fn) (hn : (fn.name == "runtime.NumGoroutine") = false) (hb : fn.body.isNone = false) : Enters P f := by
  intro args w
  unfold callFunc
  have hp : (program : Sem Program).run P w = .ok P w := rfl
  simp only [Sem.run_bind, hp, Result.andThen_ok, hf, hn, hb, Bool.false_eq_true, if_false]
  rfl
def condV (v : Option Value) (K1 K2 : Prop) : Prop := match v with
  | some (.bool b) => (b = true → K1) ∧ (b = false → K2)
  | _ => False
@[simp] theorem condV_bool (b : Bool) (K1 K2 : Prop) : condV (some (.bool b)) K1 K2 = ((b = true → K1) ∧ (b = false → K2)) := rfl
theorem SWp.condK {x : Operand} {c d : Code} (h : ∀ K1 K2 : Prop, (SWp E C c S σ → K1) → (SWp E C d S σ → K2) → condV (σ.sc x) K1 K2) : SWp E C (.cond x c d) S σ := by
  have h' := h _ _ (fun h => h) (fun h => h)
  unfold condV at h'
  split at h'
  · rename_i b hb
    exact SWp.condB hb h'.1 h'.2
  · exact h'.elim
/-- Slots of which nothing is known. -/
theorem SOk.pad (ds : List Nat) (H : SOk C σ a w) : SOk C ⟨σ.tm ++ ds.map (fun d => (d, .u)), σ.bx⟩ a w := by
  obtain ⟨s, Z, h1, h2, h3⟩ := H
  subst h1
  have hu : ∀ n x, look (ds.map fun d => (d, AVA.u)) n = some x → x = .u := by
    intro n x
    induction ds with
    | nil => intro h; simp [look] at h
    | cons d ds ih =>
      simp only [List.map_cons, look]
      intro h
      split at h
      · injection h with h; exact h.symm
      · exact ih h
  have ht : ∀ k, tot (AVA.cnt k) (ds.map fun d => (d, AVA.u)) = 0 := by
    intro k
    induction ds with
    | nil => rfl
    | cons d ds ih => simp only [List.map_cons, tot, AVA.cnt]; have := ih (fun n x h => by
        clear ih
        have : ∀ (ds : List Nat) (n : Nat) (x : AVA), look (ds.map fun d => (d, AVA.u)) n = some x → x = .u := by
          intro ds
          induction ds with
          | nil => intro n x h; simp [look] at h
          | cons d ds ih =>
            simp only [List.map_cons, look]
            intro n x h
            split at h
            · injection h with h; exact h.symm
            · exact ih n x h
        exact this ds n x h); omega
  have hcnt : ∀ k, (StA.mk (s.tm ++ ds.map fun d => (d, .u)) s.bx s.hd).cnt k = s.cnt k := by
    intro k
    simp only [StA.cnt, tot_app, ht]; omega
  have hroots : ∀ r, (StA.mk (s.tm ++ ds.map fun d => (d, .u)) s.bx s.hd).rootCells r = s.rootCells r := by
    intro r
    cases r with
    | box n => rfl
    | slot n =>
      simp only [StA.rootCells, look_app]
      cases hx : look s.tm n with
      | some x => rfl
      | none =>
        simp only
        cases hy : look (ds.map fun d => (d, AVA.u)) n with
        | none => rfl
        | some y => rw [hu n y hy]
  have hlk : ∀ n y, look (s.tm ++ ds.map fun d => (d, AVA.u)) n = some y → y = .u ∨ look s.tm n = some y := by
    intro n y hy
    rw [look_app] at hy
    cases hx : look s.tm n with
    | some x => rw [hx] at hy; exact .inr hy
    | none => rw [hx] at hy; exact .inl (hu n y hy)
  refine ⟨⟨s.tm ++ ds.map fun d => (d, .u), s.bx, s.hd⟩, Z, by simp [StA.er, AVA.er, Function.comp], h2, ?_⟩
  exact {
    defers := h3.defers
    size := h3.size
    tm := fun n y hy => by
      rcases hlk n y hy with rfl | h
      · trivial
      · exact (h3.tm n y h).keep (fun _ hz => hz) (fun _ _ => rfl) (fun r _ _ _ _ _ _ _ _ _ _ => hroots r) (fun r o p e base cs ad g1 g2 => ⟨base, cs, (hroots r).trans g1, g2⟩)
    bx := h3.bx
    uniq := fun k => by rw [hcnt]; exact h3.uniq k
    notZ := fun k hk => h3.notZ k (by rwa [hcnt] at hk)
    lt := fun k hk => h3.lt k (by rwa [hcnt] at hk)
    zlt := h3.zlt
    own := fun k hk => h3.own k (by rwa [hcnt] at hk)
    z0 := h3.z0
    zext := h3.zext
    os := h3.os
    tape := h3.tape
    output := h3.output
    grown := h3.grown
    kept := h3.kept
    part := h3.part
    pbx := h3.pbx
    pbo := fun x hx n y hy => by
      rcases hlk n y hy with rfl | h
      · rfl
      · exact h3.pbo x hx n y h
    pbi := h3.pbi
    hand := h3.hand
    pbh := h3.pbh
    pk := h3.pk }
end Go.OM
