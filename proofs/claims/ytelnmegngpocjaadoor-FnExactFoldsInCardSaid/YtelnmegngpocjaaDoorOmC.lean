import Derived.Test.YtelnmegngpocjaaDoorOmB
set_option linter.unusedVariables false
set_option linter.unusedSimpArgs false
namespace Go.OM
variable {C : Ctx} {E : Env} {σ σ' : St} {Q : Exit → Act → World → Prop} {S : Exit → St → Prop} {a : Act} {w : World} {P : Program}
def putL : List (Nat × AV) → List (Nat × AV) → List (Nat × AV)
  | tm, [] => tm
  | tm, e :: d => putL (put tm e.1 e.2) d
def famD (D : Nat → Bool) : Nat → List (List (Nat × AV)) → List (Nat × AV) → List (Nat × AV)
  | _, [], tm => tm
  | i, d :: ds, tm => famD D (i + 1) ds (if D i = true then putL tm d else tm)
theorem famD_none : ∀ (i : Nat) (ds : List (List (Nat × AV))) (tm : List (Nat × AV)), famD (fun _ => false) i ds tm = tm
  | _, [], _ => rfl
  | i, d :: ds, tm => by simp only [famD, Bool.false_eq_true, if_false]; exact famD_none (i + 1) ds tm
theorem famD_congr {D D' : Nat → Bool} : ∀ (i : Nat) (ds : List (List (Nat × AV))) (tm : List (Nat × AV)), (∀ j, i ≤ j → j < i + ds.length → D j = D' j) → famD D i ds tm = famD D' i ds tm
  | _, [], _, _ => rfl
  | i, d :: ds, tm, h => by
    simp only [famD]
    rw [h i (Nat.le_refl _) (by simp), famD_congr (i + 1) ds _ fun j h1 h2 => h j (by omega) (by simp only [List.length_cons]; omega)]
def owedD (E : Env) (C : Ctx) (σ : St) (l : List Oper) (ks : List Nat) (ds : List (List (Nat × AV))) (td : List (List Nat)) (i : Nat) (o : Oper) : Prop :=
  ∀ D : Nat → Bool, D i = false → (∀ j ∈ td.getD i [], D j = true) → (∀ j, i ∈ td.getD j [] → j < ds.length → D j = false) →
    ∀ K : St → Prop, (∀ σ', σ' = ⟨famD (upd1 D i) 0 ds (σ.tm ++ ks.map fun n => (n, .u)), σ.bx⟩ → K σ') → (⟨famD D 0 ds (σ.tm ++ ks.map fun n => (n, .u)), σ.bx⟩ : St).wps E C.N l [o] K
theorem SWp.drawD {id : Nat} {ops : Array Oper} {l : List Oper} (hl : ops.toList = l) (hp : pinB C.pin l = true) (ks : List Nat) (ds : List (List (Nat × AV))) (td : List (List Nat)) (hm : ds.length ≤ l.length) (hord : ordB 0 l = true) (hlast : lastT td ds.length l.length = true) (htd : tdB td 0 l = true)
    (hstep : allIdx (owedD E C σ l ks ds td) 0 (l.take ds.length))
    (hend : ∀ K : St → Prop, (∀ σ, S .normal σ → K σ) → (⟨famD (fun _ => true) 0 ds (σ.tm ++ ks.map fun n => (n, .u)), σ.bx⟩ : St).wps E C.N l (l.drop ds.length) K) : SWp E C (.region id ops true) S σ := fun a w H => by
  subst hl
  have hordI : ∀ (i : Nat) (o : Oper), ops[i]? = some o → ∀ e ∈ o.after.toList, Region.binds .any e = true → e.on < i := by
    intro i o ho
    have := ordB_get ops.toList 0 i o hord (by rw [Array.getElem?_toList]; exact ho)
    simpa using this
  have key : ∀ D : Nat → Bool, (∀ (j : Nat) (o' : Oper), ops[j]? = some o' → D j = true → depsIn o' D) → ∀ (i : Nat) (o : Oper), ops[i]? = some o → depsIn o D → ∀ j ∈ td.getD i [], j < i ∧ D j = true := by
    intro D hcl i
    induction i using Nat.strongRecOn with
    | _ i ih =>
      intro o ho hdep j hj
      have h1 := tdB_get ops.toList 0 i o htd (by rw [Array.getElem?_toList]; exact ho)
      rw [Nat.zero_add] at h1
      obtain ⟨e, he, hb, h2⟩ := h1 j hj
      have hei := hordI i o ho e he hb
      rcases h2 with h2 | ⟨_, h2⟩
      · subst h2; exact ⟨hei, hdep e he hb⟩
      · have hlt : e.on < ops.size := by have := (Array.getElem?_eq_some_iff.1 ho).1; omega
        have hoe : ops[e.on]? = some ops[e.on] := Array.getElem?_eq_getElem hlt
        obtain ⟨h3, h4⟩ := ih e.on hei _ hoe (hcl e.on _ hoe (hdep e he hb)) j h2
        exact ⟨by omega, h4⟩
  refine wp_region_any E.mixed ?_
  refine wpAny_famT (C := C) (E := E) hp ds.length (by simpa using hm) (fun D => ⟨famD D 0 ds (σ.tm ++ ks.map fun n => (n, .u)), σ.bx⟩) hordI (fun i o hi ho => ?_) (fun i o hi ho D hD hcl hdep => ?_) (fun D hD a w H => ?_) ops.size _ (fun _ => false) a _ (by simp) (fun i d hi => by simp [Array.getD, hi]) (fun _ _ => rfl) (fun _ _ _ h => by cases h) ?_ ?_
  · intro D hcl hdep j hj
    have hlt : i < ops.size := (Array.getElem?_eq_some_iff.1 ho).1
    exact (key D hcl i o ho hdep j (lastT_get hlast hi (by simpa using hlt) hj)).2
  · have hget : (ops.toList.take ds.length)[i]? = some o := by
      rw [List.getElem?_take, if_pos hi, Array.getElem?_toList]; exact ho
    have hob := allIdx_get _ 0 i o hstep hget
    rw [Nat.zero_add] at hob
    refine hob D hD (fun j hj => (key D hcl i o ho hdep j hj).2) (fun j hj hjl => ?_) _ (fun σ' h => h)
    cases hDj : D j with
    | false => rfl
    | true =>
      exfalso
      have hlt : j < ops.size := by simp only [Array.length_toList] at hm; omega
      have hoj : ops[j]? = some ops[j] := Array.getElem?_eq_getElem hlt
      have := (key D hcl j _ hoj (hcl j _ hoj hDj) i hj).2
      rw [hD] at this; cases this
  · have hall : famD D 0 ds (σ.tm ++ ks.map fun n => (n, .u)) = famD (fun _ => true) 0 ds (σ.tm ++ ks.map fun n => (n, .u)) := famD_congr 0 ds _ fun j _ h => hD j (by omega)
    have h2 := hend (fun σ' => S .normal σ') (fun _ h => h)
    simp only [hall] at H
    have hpd : pinB C.pin (ops.toList.drop ds.length) = true := List.all_eq_true.2 fun o ho => List.all_eq_true.1 hp o (List.mem_of_mem_drop ho)
    exact wps_ok2 (E := E) _ _ a w _ hpd h2 H (fun σ' a' w' hS H' => ⟨σ', hS, H'⟩)
  · exact Nat.le_trans List.countP_le_length (by simp)
  · have := H.1.pad ks
    simp only [famD_none]
    exact ⟨this.drew _, H.2⟩
end Go.OM
set_option linter.unusedVariables false
set_option linter.unusedSimpArgs false
namespace Go.OM
variable {C : Ctx} {E : Env} {σ σ' : St} {Q : Exit → Act → World → Prop} {S : Exit → St → Prop} {a : Act} {w : World} {P : Program}
def putX : List (Nat × List T) → List (Nat × List T) → List (Nat × List T)
  | bx, [] => bx
  | bx, e :: d => putX (put bx e.1 e.2) d
def famX (D : Nat → Bool) : Nat → List (List (Nat × List T)) → List (Nat × List T) → List (Nat × List T)
  | _, [], bx => bx
  | i, d :: ds, bx => famX D (i + 1) ds (if D i = true then putX bx d else bx)
end Go.OM
