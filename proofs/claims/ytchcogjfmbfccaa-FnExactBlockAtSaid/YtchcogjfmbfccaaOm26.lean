import Derived.Test.YtchcogjfmbfccaaOm25
set_option linter.unusedVariables false
set_option linter.unusedSimpArgs false
namespace Go.OM
variable {C : Ctx} {Z Z' : Nat → Prop} {s : StA} {a : Act} {w w' : World} {E : Env} {o : Oper} {σ σ' : St} {K : Act → World → Prop} {Q : Exit → Act → World → Prop}

/-! ### What is not needed any more -/
def Root.kept (ks kb : List Nat) : Root → Bool
  | .slot n => ks.contains n
  | .box n => kb.contains n
def AV.keep (ks kb : List Nat) : AV → AV
  | .al r o p k => if r.kept ks kb = true then .al r o p k else .u
  | .ref r o p => if r.kept ks kb = true then .ref r o p else .u
  | x => x
def AVA.keep (ks kb : List Nat) : AVA → AVA
  | .al r o p k => if r.kept ks kb = true then .al r o p k else .u
  | .ref r o p => if r.kept ks kb = true then .ref r o p else .u
  | x => x
def St.keep (ks kb : List Nat) (σ : St) : St := ⟨ks.map fun n => (n, (σ.get n).keep ks kb), kb.filterMap fun n => (look σ.bx n).map fun x => (n, x)⟩
def StA.keep (ks kb : List Nat) (s : StA) : StA := ⟨ks.map fun n => (n, ((look s.tm n).getD .u).keep ks kb), kb.filterMap fun n => (look s.bx n).map fun x => (n, x), s.hd⟩
def St.keepOk (N : Nat) (ks kb : List Nat) (σ : St) : Bool := decide ks.Nodup && decide kb.Nodup && σ.bx.all fun e => decide (e.1 < N) || kb.contains e.1
theorem AVA.er_keep (ks kb : List Nat) (x : AVA) : (x.keep ks kb).er = x.er.keep ks kb := by
  cases x with
  | al r o p k => by_cases h : r.kept ks kb = true <;> simp [AVA.keep, AVA.er, AV.keep, h]
  | ref r o p => by_cases h : r.kept ks kb = true <;> simp [AVA.keep, AVA.er, AV.keep, h]
  | _ => rfl
theorem AVA.cnt_keep (ks kb : List Nat) (k : Nat) (x : AVA) : (x.keep ks kb).cnt k = x.cnt k := by
  cases x with
  | al r o p j => by_cases h : r.kept ks kb = true <;> simp [AVA.keep, AVA.cnt, h]
  | ref r o p => by_cases h : r.kept ks kb = true <;> simp [AVA.keep, AVA.cnt, h]
  | _ => rfl
theorem look_keys {α : Type} (f : Nat → α) : ∀ (ks : List Nat) (n : Nat), look (ks.map fun n => (n, f n)) n = if n ∈ ks then some (f n) else none
  | [], n => by simp [look]
  | k :: ks, n => by
    simp only [List.map_cons, look, look_keys f ks n, List.mem_cons]
    by_cases e : k = n
    · subst e; simp
    · have : n ≠ k := fun h => e h.symm
      simp [e, this]
theorem look_filt {α : Type} (f : Nat → Option α) : ∀ (ks : List Nat) (n : Nat), look (ks.filterMap fun n => (f n).map fun x => (n, x)) n = if n ∈ ks then f n else none
  | [], n => by simp [look]
  | k :: ks, n => by
    simp only [List.filterMap_cons]
    cases hk : f k with
    | none =>
      simp only [Option.map_none, look_filt f ks n, List.mem_cons]
      by_cases e : n = k
      · subst e
        simp [hk]
      · simp [e]
    | some x =>
      simp only [Option.map_some, look, look_filt f ks n, List.mem_cons]
      by_cases e : k = n
      · subst e; simp [hk]
      · have : n ≠ k := fun h => e h.symm
        simp [e, this]
theorem tot_keys {α : Type} (f : α → Nat) (g : Nat → α) : ∀ ks : List Nat, tot f (ks.map fun n => (n, g n)) = (ks.map fun n => f (g n)).sum
  | [] => rfl
  | k :: ks => by simp only [List.map_cons, tot, tot_keys f g ks, List.sum_cons]
theorem tot_filt {α : Type} (f : α → Nat) (g : Nat → Option α) : ∀ ks : List Nat, tot f (ks.filterMap fun n => (g n).map fun x => (n, x)) = (ks.map fun n => ((g n).map f).getD 0).sum
  | [] => rfl
  | k :: ks => by
    simp only [List.filterMap_cons, List.map_cons, List.sum_cons]
    cases g k with
    | none => simp [tot_filt f g ks]
    | some x => simp [tot, tot_filt f g ks]
theorem er_keep (s : StA) (ks kb : List Nat) : (s.keep ks kb).er = s.er.keep ks kb := by
  have h1 : (s.keep ks kb).er.tm = (s.er.keep ks kb).tm := by
    simp only [StA.keep, StA.er, St.keep, List.map_map]
    apply List.map_congr_left
    intro n _
    simp only [Function.comp, AVA.er_keep, St.get]
    have := look_er s n
    simp only [StA.er] at this
    rw [this]
    cases look s.tm n <;> rfl
  have h2 : (s.keep ks kb).er.bx = (s.er.keep ks kb).bx := by
    simp only [StA.keep, StA.er, St.keep]
    rw [List.map_filterMap]
    congr 1
    funext n
    have := look_er_bx s n
    simp only [StA.er] at this
    rw [this]
    cases look s.bx n <;> rfl
  cases hh : (s.keep ks kb).er
  rw [hh] at h1 h2
  simp only at h1 h2
  cases hg : s.er.keep ks kb
  rw [hg] at h1 h2
  simp only at h1 h2
  rw [h1, h2]
theorem SRel.keep {ks kb : List Nat} (H : SRel C Z s a w) (hk : s.er.keepOk C.N ks kb = true) : SRel C Z (s.keep ks kb) a w := by
  simp only [St.keepOk, Bool.and_eq_true, decide_eq_true_eq] at hk
  obtain ⟨⟨hn1, hn2⟩, hall⟩ := hk
  have hcnt : ∀ k, (s.keep ks kb).cnt k ≤ s.cnt k := by
    intro k
    have e1 := keys_tot (AVA.cnt k) s.tm ks hn1
    have e2 := keys_tot (BoxA.cnt k) s.bx kb hn2
    have e3 : tot (AVA.cnt k) (s.keep ks kb).tm = (ks.map fun m => ((look s.tm m).map (AVA.cnt k)).getD 0).sum := by
      simp only [StA.keep, tot_keys, AVA.cnt_keep]
      congr 1
      apply List.map_congr_left
      intro n _
      cases look s.tm n <;> rfl
    have e4 : tot (BoxA.cnt k) (s.keep ks kb).bx = (kb.map fun m => ((look s.bx m).map (BoxA.cnt k)).getD 0).sum := by
      simp only [StA.keep, tot_filt]
    have e5 : (s.keep ks kb).hd = s.hd := rfl
    simp only [StA.cnt, e3, e4, e5]; omega
  have hlt : ∀ n y, look (s.keep ks kb).tm n = some y → y = .u ∨ ∃ x, look s.tm n = some x ∧ y = x.keep ks kb ∧ n ∈ ks := by
    intro n y hy
    simp only [StA.keep, look_keys] at hy
    split at hy
    · rename_i hm
      injection hy with hy
      cases hx : look s.tm n with
      | none => rw [hx] at hy; left; exact hy.symm
      | some x => rw [hx] at hy; right; exact ⟨x, rfl, hy.symm, hm⟩
    · cases hy
  have hlb : ∀ n y, look (s.keep ks kb).bx n = some y → look s.bx n = some y := by
    intro n y hy
    simp only [StA.keep, look_filt] at hy
    split at hy
    · exact hy
    · cases hy
  have hroots : ∀ r, r.kept ks kb = true → (s.keep ks kb).rootCells r = s.rootCells r := by
    intro r hr
    cases r with
    | slot m =>
      simp only [Root.kept, List.contains_iff_mem] at hr
      simp only [StA.rootCells, StA.keep, look_keys, if_pos hr]
      cases hx : look s.tm m with
      | none => rfl
      | some x =>
        cases x with
        | al r o p k => simp only [Option.getD_some, AVA.keep]; split <;> (rename_i h; split at h <;> simp_all)
        | ref r o p => simp only [Option.getD_some, AVA.keep]; split <;> (rename_i h; split at h <;> simp_all)
        | _ => rfl
    | box m =>
      simp only [Root.kept, List.contains_iff_mem] at hr
      simp only [StA.rootCells, StA.keep, look_filt, if_pos hr]
  exact {
    defers := H.defers
    size := H.size
    tm := fun n y hy => by
      rcases hlt n y hy with rfl | ⟨x, hx, rfl, hm⟩
      · trivial
      · have hv := H.tm n x hx
        cases x with
        | al r o p k =>
          simp only [AVA.keep]
          split
          · rename_i hr
            exact hv.keep (fun _ hz => hz) (fun _ _ => rfl) (fun r' o' p' k' e _ _ _ _ _ _ => by simp only [AVA.al.injEq] at e; obtain ⟨rfl, _⟩ := e; exact hroots _ hr) (fun r' o' p' e => by cases e)
          · trivial
        | ref r o p =>
          simp only [AVA.keep]
          split
          · rename_i hr
            exact hv.keep (fun _ hz => hz) (fun _ _ => rfl) (fun r' o' p' k' e => by cases e) (fun r' o' p' e base cs ad h1 h2 => by
              simp only [AVA.ref.injEq] at e
              obtain ⟨rfl, rfl, rfl⟩ := e
              exact ⟨base, cs, (hroots _ hr).trans h1, h2⟩)
          · trivial
        | u => trivial
        | t x => exact hv
        | tup xs => exact hv
        | rop b off cs o => exact hv
    bx := fun n y hy => H.bx n y (hlb n y hy)
    uniq := fun k => Nat.le_trans (hcnt k) (H.uniq k)
    notZ := fun k hk => H.notZ k (Nat.lt_of_lt_of_le hk (hcnt k))
    lt := fun k hk => H.lt k (Nat.lt_of_lt_of_le hk (hcnt k))
    zlt := H.zlt
    own := fun k hk => H.own k (Nat.lt_of_lt_of_le hk (hcnt k))
    z0 := H.z0
    zext := H.zext
    os := H.os
    tape := H.tape
    output := H.output
    grown := H.grown
    kept := H.kept
    part := H.part
    pbx := fun x hx n y hy => H.pbx x hx n y (hlb n y hy)
    pbo := fun x hx n y hy => by
      rcases hlt n y hy with rfl | ⟨z, hz, rfl, _⟩
      · rfl
      · rw [AVA.cnt_keep]; exact H.pbo x hx n z hz
    pbi := fun x hx n y hy => H.pbi x hx n y (hlb n y hy)
    hand := H.hand
    pbh := H.pbh
    pk := fun x hx => by
      obtain ⟨q1, cs, q2, q3⟩ := H.pk x hx
      refine ⟨q1, cs, ?_, q3⟩
      have hin : x.1 ∈ kb := by
        have h5 : look s.er.bx x.1 = some (TA.erL cs) := by rw [look_er_bx, q2]; rfl
        have key : ∀ (l : List (Nat × List T)) (n : Nat) (y : List T), look l n = some y → (n, y) ∈ l := by
          intro l
          induction l with
          | nil => intro n y h; simp [look] at h
          | cons e l ih =>
            intro n y h
            obtain ⟨k, z⟩ := e
            simp only [look] at h
            by_cases e : k = n
            · rw [if_pos e] at h
              injection h with h
              subst h; subst e
              simp
            · rw [if_neg e] at h
              exact List.mem_cons_of_mem _ (ih n y h)
        have h6 := List.all_eq_true.1 hall _ (key _ _ _ h5)
        simp only [Bool.or_eq_true, decide_eq_true_eq] at h6
        rcases h6 with h6 | h6
        · omega
        · simpa using h6
      simp only [StA.keep, look_filt, if_pos hin]
      exact q2 }
theorem SOk.keep {ks kb : List Nat} (H : SOk C σ a w) (hk : σ.keepOk C.N ks kb = true) : SOk C (σ.keep ks kb) a w := by
  obtain ⟨s, Z, h1, h2, h3⟩ := H
  subst h1
  exact ⟨s.keep ks kb, Z, er_keep s ks kb, h2, h3.keep hk⟩
variable {S : Exit → St → Prop} {c d : Code}
theorem SWp.keep (ks kb : List Nat) (hk : σ.keepOk C.N ks kb = true) (h : SWp E C c S (σ.keep ks kb)) : SWp E C c S σ := fun a w H => h a w (H.keep hk)
/-- **A loop**, of which only what ks and kb name goes from round to round. -/
theorem SWp.loopK {α : Type} (ks kb : List Nat) (inv : α → St) (μ : α → Nat) (I : α → Prop) (g : α) (hI : I g) (hk : σ.keepOk C.N ks kb = true) (hσ : inv g = σ.keep ks kb)
    (h : ∀ g, I g → SWp E C c (thenS (fun σ' => ∃ g', I g' ∧ σ'.keepOk C.N ks kb = true ∧ inv g' = σ'.keep ks kb ∧ μ g' < μ g) S) (inv g)) : SWp E C (.loop c) S σ := fun a w H => by
  have H' := H.keep hk
  rw [← hσ] at H'
  refine wp_loop_ghost (fun n a w => ∃ g, I g ∧ μ g = n ∧ SOk C (inv g) a w) (μ g) ⟨g, hI, rfl, H'⟩ ?_
  intro n a w ⟨g, hI, hn, H⟩
  subst hn
  refine Code.wp_mono (fun e a w ⟨σ', h1, h2⟩ => ?_) (h g hI a w H)
  cases e with
  | normal =>
    obtain ⟨g', q1, q2, q3, q4⟩ := h1
    exact ⟨μ g', q4, g', q1, rfl, q3 ▸ h2.keep q2⟩
  | _ => exact ⟨σ', h1, h2⟩
end Go.OM
