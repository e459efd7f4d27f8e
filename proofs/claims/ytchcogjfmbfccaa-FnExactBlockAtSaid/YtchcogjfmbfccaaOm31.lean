import Derived.Test.YtchcogjfmbfccaaOm30
set_option linter.unusedVariables false
set_option linter.unusedSimpArgs false
namespace Go.OM
variable {C : Ctx} {E : Env} {σ σ' : St} {S : Exit → St → Prop}
def allIdx (p : Nat → Oper → Prop) : Nat → List Oper → Prop
  | _, [] => True
  | n, o :: os => p n o ∧ allIdx p (n + 1) os
theorem allIdx_get {p : Nat → Oper → Prop} : ∀ (l : List Oper) (n i : Nat) (o : Oper), allIdx p n l → l[i]? = some o → p (n + i) o
  | [], n, i, o, _, h => by simp at h
  | x :: l, n, i, o, h, hi => by
    cases i with
    | zero => simp only [List.getElem?_cons_zero, Option.some.injEq] at hi; subst hi; exact h.1
    | succ i =>
      simp only [List.getElem?_cons_succ] at hi
      have := allIdx_get l (n + 1) i o h.2 hi
      rwa [show n + 1 + i = n + (i + 1) by omega] at this
def ordB : Nat → List Oper → Bool
  | _, [] => true
  | n, o :: os => o.after.toList.all (fun e => decide (e.on < n)) && ordB (n + 1) os
theorem ordB_get : ∀ (l : List Oper) (n i : Nat) (o : Oper), ordB n l = true → l[i]? = some o → ∀ e ∈ o.after.toList, e.on < n + i
  | [], n, i, o, _, h => by simp at h
  | x :: l, n, i, o, h, hi => by
    simp only [ordB, Bool.and_eq_true, List.all_eq_true, decide_eq_true_eq] at h
    cases i with
    | zero => simp only [List.getElem?_cons_zero, Option.some.injEq] at hi; subst hi; exact h.1
    | succ i =>
      simp only [List.getElem?_cons_succ] at hi
      have := ordB_get l (n + 1) i o h.2 hi
      intro e he
      have := this e he
      omega
/-- The rule for a draw, an obligation for each operation. -/
theorem SWp.drawL {id : Nat} {ops : Array Oper} {l : List Oper} (hl : ops.toList = l) (ds : List Nat) (fam : (Nat → Bool) → St) (h0 : (⟨σ.tm ++ ds.map (fun d => (d, .u)), σ.bx⟩ : St) = fam fun _ => false) (hord : ordB 0 l = true)
    (hend : ∀ K : St → Prop, (∀ σ, S .normal σ → K σ) → ∀ D : Nat → Bool, (∀ i, i < l.length → D i = true) → K (fam D))
    (hstep : allIdx (fun i o => ∀ D : Nat → Bool, D i = false → depsIn o D → ∀ K : St → Prop, K (fam (upd1 D i)) → (fam D).wps E C.N l [o] K) 0 l) : SWp E C (.region id ops true) S σ := by
  subst hl
  refine SWp.draw fam (fun C a w H => ?_) (fun i o ho => ?_) (fun i o ho => ?_) (fun D hD => hend _ (fun _ h => h) D (fun i hi => hD i (by simpa using hi)))
  · have := H.pad ds
    rw [h0] at this
    exact this
  · have := ordB_get ops.toList 0 i o hord (by rw [Array.getElem?_toList]; exact ho)
    simpa using this
  · have := allIdx_get ops.toList 0 i o hstep (by rw [Array.getElem?_toList]; exact ho)
    rw [Nat.zero_add] at this
    exact this
end Go.OM
