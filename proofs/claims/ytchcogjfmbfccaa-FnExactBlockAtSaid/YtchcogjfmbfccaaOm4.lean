import Derived.Test.YtchcogjfmbfccaaOm3
set_option linter.unusedVariables false
namespace Go.OM
variable {C : Ctx} {Z : Nat → Prop} {s : StA} {a : Act} {w w' : World}

theorem er_mk (tm : List (Nat × AVA)) (bx : List (Nat × BoxA)) (h1 h2 : List TA) : (StA.mk tm bx h1).er = (StA.mk tm bx h2).er := rfl
/-- The hand holds x besides. -/
def StA.push (s : StA) (x : List TA) : StA := ⟨s.tm, s.bx, x ++ s.hd⟩
theorem StA.er_push (s : StA) (x : List TA) : (s.push x).er = s.er := rfl
theorem StA.cnt_push (k : Nat) (s : StA) (x : List TA) : (s.push x).cnt k = s.cnt k + TA.cntL k x := by
  simp only [StA.cnt, StA.push, TA.cntL_append]; omega
theorem rootCells_push (s : StA) (x : List TA) (r : Root) : (s.push x).rootCells r = s.rootCells r := by cases r <;> rfl
theorem ValOk.push {x : AVA} {v : Value} {h : Array Obj} {y : List TA} (H : ValOk s Z h x v) : ValOk (s.push y) Z h x v :=
  H.keep (fun _ hz => hz) (fun _ _ => rfl) (fun r _ _ _ _ _ _ _ _ _ _ => rootCells_push s y r) (fun r o p e base cs ad h1 h2 => ⟨base, cs, (rootCells_push s y r).trans h1, h2⟩)
theorem holdsL_append {h : Array Obj} {x y : List TA} : TA.HoldsL Z h (x ++ y) ↔ TA.HoldsL Z h x ∧ TA.HoldsL Z h y := by
  simp only [TA.holdsL_iff, List.mem_append]
  exact ⟨fun H => ⟨fun t ht => H t (.inl ht), fun t ht => H t (.inr ht)⟩, fun H t ht => ht.elim (H.1 t) (H.2 t)⟩

/-- New trees come into the hand; what is read only may come to more. -/
theorem SRel.newHand {Z' : Nat → Prop} (H : SRel C Z s a w) (x : List TA) (hz : ∀ k, Z k → Z' k) (hz2 : ∀ k, Z' k → Z k ∨ C.w0.heap.size ≤ k ∨ C.Fz k) (hzl : ∀ k, Z' k → k < w.heap.size) (hx : TA.HoldsL Z' w.heap x)
    (hu : ∀ k, TA.cntL k x ≤ 1) (hf : ∀ k, 0 < TA.cntL k x → s.cnt k = 0 ∧ ¬ Z' k ∧ (C.F k ∨ C.w0.heap.size ≤ k)) (hs : ∀ k, 0 < s.cnt k → ¬ Z' k) (hp : ∀ y ∈ C.PB, TA.cntL y.1 x = 0) : SRel C Z' (s.push x) a w where
  defers := H.defers
  size := H.size
  tm := fun n y hy => ((H.tm n y hy).keep hz (fun _ _ => rfl) (fun _ _ _ _ _ _ _ _ _ _ _ => rfl) (fun r o p e base cs ad h1 h2 => ⟨base, cs, h1, h2⟩)).push
  bx := fun n y hy => by
    obtain ⟨h1, h2, h3⟩ := H.bx n y hy
    exact ⟨h1, TA.HoldsL.frame _ h2 hz (fun _ _ => rfl), h3⟩
  uniq := fun k => by
    rw [StA.cnt_push]
    have h1 := hu k
    have h2 := H.uniq k
    by_cases h0 : 0 < TA.cntL k x
    · have := (hf k h0).1; omega
    · omega
  notZ := fun k hk => by
    rw [StA.cnt_push] at hk
    by_cases h0 : 0 < TA.cntL k x
    · exact (hf k h0).2.1
    · exact hs k (by omega)
  lt := fun k hk => by
    rw [StA.cnt_push] at hk
    by_cases h0 : 0 < TA.cntL k x
    · exact TA.HoldsL.lt x hx h0
    · exact H.lt k (by omega)
  zlt := hzl
  own := fun k hk => by
    rw [StA.cnt_push] at hk
    by_cases h0 : 0 < TA.cntL k x
    · exact (hf k h0).2.2
    · exact H.own k (by omega)
  z0 := fun k hk => hz k (H.z0 k hk)
  zext := fun k hk => (hz2 k hk).elim (H.zext k) .inr
  pk := H.pk
  os := H.os
  tape := H.tape
  output := H.output
  grown := H.grown
  kept := H.kept
  part := H.part
  pbx := H.pbx
  pbo := H.pbo
  pbi := H.pbi
  hand := holdsL_append.2 ⟨hx, TA.HoldsL.frame _ H.hand hz (fun _ _ => rfl)⟩
  pbh := fun y hy => by simp only [StA.push, TA.cntL_append, hp y hy, H.pbh y hy]

theorem rootCells_put_ne {d : Nat} {x : AVA} {r : Root} (hr : r ≠ .slot d) : (StA.mk (put s.tm d x) s.bx s.hd).rootCells r = s.rootCells r := by
  cases r with
  | slot n =>
    have hn : n ≠ d := fun e => hr (by rw [e])
    simp only [StA.rootCells, look_put_ne _ _ hn]
  | box n => rfl

/-- Nothing points into d. -/
def NoRef (s : StA) (d : Nat) : Prop := ∀ (n : Nat) (y : AVA), look s.tm n = some y → n ≠ d → (∀ o p k, y ≠ .al (.slot d) o p k) ∧ (∀ o p, y ≠ .ref (.slot d) o p)

theorem noRef_of_free {d : Nat} (H : SRel C Z s a w) (hf : s.er.free d = true) : NoRef s d := by
  intro n y hy _
  have hv := H.tm n y hy
  have hfree : ∀ x, look s.tm d = some (.t x) → x.er.hasOwn = false := by
    intro x hx
    simp only [St.free, look_er, hx, Option.map_some, AVA.er, AV.hasOwn, Bool.not_eq_true'] at hf
    exact hf
  refine ⟨fun o p k e => ?_, fun o p e => ?_⟩
  · subst e
    obtain ⟨base, cs, l, h1, h2, h3, _⟩ := hv
    simp only [StA.rootCells] at h1
    split at h1
    · rename_i x hx
      injection h1 with h1
      injection h1 with _ h1
      subst h1
      have := (getP_noOwn _ _ _ _ _ h2 (by rw [hasOwnL_cells]; exact hfree x hx)).2
      rw [this] at h3; cases h3
    · cases h1
  · subst e
    obtain ⟨base, cs, ad, h1, h2, _⟩ := hv
    simp only [StA.rootCells] at h1
    split at h1
    · rename_i x hx
      injection h1 with h1
      injection h1 with hb h1
      subst h1; subst hb
      have := addrP_noOwn _ _ _ _ h2 (by rw [hasOwnL_cells]; exact hfree x hx)
      subst this
      simp [TA.addrP] at h2
    · cases h1
theorem noRef_kill (H : SRel C Z s a w) (d : Nat) : NoRef (s.kill (.slot d)) d := by
  intro n y hy _
  have hv := (H.kill (.slot d)).tm n y hy
  simp only [StA.kill, look_map] at hy
  obtain ⟨z, hz, rfl⟩ := Option.map_eq_some_iff.1 hy
  refine ⟨fun o p k e => (kill_ne_al e).2 rfl, fun o p e => ?_⟩
  obtain ⟨e1, e2⟩ := kill_ne_ref e
  rw [e] at hv
  obtain ⟨base, cs, ad, h1, h2, _⟩ := hv
  simp only [StA.rootCells] at h1
  split at h1
  · injection h1 with h1
    injection h1 with hb h1
    subst h1; subst hb
    apply e2
    refine ⟨rfl, fun hp => ?_⟩
    subst hp
    simp [TA.addrP] at h2
  · cases h1

/-- d is written: with what owns 'own' blocks out of the hand (hd': what stays in the hand). -/
theorem SRel.put {d : Nat} {x : AVA} {v : Value} {hd' : List TA} (H : SRel C Z s a w) (hd : d < C.N) (hn : NoRef s d) (hx : ValOk ⟨Go.OM.put s.tm d x, s.bx, hd'⟩ Z w.heap x v)
    (hc : ∀ k, x.cnt k + TA.cntL k hd' ≤ TA.cntL k s.hd) (hh : TA.HoldsL Z w.heap hd') : SRel C Z ⟨Go.OM.put s.tm d x, s.bx, hd'⟩ (a.put (some d) v) w := by
  have htot : ∀ k, tot (AVA.cnt k) (Go.OM.put s.tm d x) ≤ tot (AVA.cnt k) s.tm + x.cnt k := by
    intro k
    cases h : look s.tm d with
    | none => rw [tot_put_none _ h]; omega
    | some y => have := tot_put_some (AVA.cnt k) (x := x) h; omega
  have hcnt : ∀ k, (StA.mk (Go.OM.put s.tm d x) s.bx hd').cnt k ≤ s.cnt k := by
    intro k
    have h1 := htot k
    have h2 := hc k
    simp only [StA.cnt]; omega
  exact {
    defers := H.defers
    size := by simp [Act.put, H.size]
    tm := fun n y hy => by
      rw [look_put] at hy
      by_cases hnd : n = d
      · subst hnd
        rw [if_pos rfl] at hy
        injection hy with hy
        subst hy
        have : (a.put (some n) v).tmps.getD n undef = v := by
          simp [Act.put, H.size, hd]
        rw [this]
        exact hx
      · rw [if_neg hnd] at hy
        have : (a.put (some d) v).tmps.getD n undef = a.tmps.getD n undef := by
          simp [Act.put, Array.getElem?_setIfInBounds_ne (Ne.symm hnd)]
        rw [this]
        refine (H.tm n y hy).keep (fun _ hz => hz) (fun _ _ => rfl) (fun r o p k e base cs l h1 h2 h3 => ?_) (fun r o p e base cs ad h1 h2 => ⟨base, cs, ?_, h2⟩)
        · have hr : r ≠ .slot d := fun e2 => (hn n y hy hnd).1 o p k (by rw [e, e2])
          exact rootCells_put_ne (s := ⟨s.tm, s.bx, hd'⟩) hr
        · have hr : r ≠ .slot d := fun e2 => (hn n y hy hnd).2 o p (by rw [e, e2])
          exact (rootCells_put_ne (s := ⟨s.tm, s.bx, hd'⟩) hr).trans h1
    bx := H.bx
    uniq := fun k => Nat.le_trans (hcnt k) (H.uniq k)
    notZ := fun k hk => H.notZ k (Nat.lt_of_lt_of_le hk (hcnt k))
    lt := fun k hk => H.lt k (Nat.lt_of_lt_of_le hk (hcnt k))
    zlt := H.zlt
    own := fun k hk => H.own k (Nat.lt_of_lt_of_le hk (hcnt k))
    z0 := H.z0
    zext := H.zext
    pk := H.pk
    os := H.os
    tape := H.tape
    output := H.output
    grown := H.grown
    kept := H.kept
    part := H.part
    pbx := H.pbx
    pbo := fun y hy n z hz => by
      rw [look_put] at hz
      by_cases hnd : n = d
      · rw [if_pos hnd] at hz
        injection hz with hz
        subst hz
        have h1 := hc y.1
        have h2 := H.pbh y hy
        omega
      · rw [if_neg hnd] at hz
        exact H.pbo y hy n z hz
    pbi := H.pbi
    hand := hh
    pbh := fun y hy => by
      have h1 := hc y.1
      have h2 := H.pbh y hy
      show TA.cntL y.1 hd' = 0
      omega }

theorem ValOk.relook {s' : StA} {x : AVA} {v : Value} {h : Array Obj} {d : Nat} (H : ValOk s Z h x v) (hr : ∀ r, r ≠ .slot d → s'.rootCells r = s.rootCells r)
    (h1 : ∀ o p k, x ≠ .al (.slot d) o p k) (h2 : ∀ o p, x ≠ .ref (.slot d) o p) : ValOk s' Z h x v :=
  H.keep (fun _ hz => hz) (fun _ _ => rfl) (fun r o p k e base cs l _ _ _ => hr r (fun e2 => h1 o p k (by rw [e, e2]))) (fun r o p e base cs ad g1 g2 => ⟨base, cs, (hr r (fun e2 => h2 o p (by rw [e, e2]))).trans g1, g2⟩)

/-- Does it point into d? -/
def AV.into (d : Nat) : AV → Bool
  | .al (.slot n) _ _ _ => n == d
  | .ref (.slot n) _ _ => n == d
  | _ => false
theorem into_al {d : Nat} {x : AVA} (h : x.er.into d = false) : (∀ o p k, x ≠ .al (.slot d) o p k) ∧ (∀ o p, x ≠ .ref (.slot d) o p) := by
  refine ⟨fun o p k e => ?_, fun o p e => ?_⟩ <;> subst e <;> simp [AVA.er, AV.into] at h

/-- d is written with what owns nothing, or with what was in the hand. -/
theorem SRel.set {d : Nat} {x : AVA} {v : Value} {hd' : List TA} (H : SRel C Z s a w) (hd : d < C.N) (hx : ValOk s Z w.heap x v) (hi : x.er.into d = false)
    (hc : ∀ k, x.cnt k + TA.cntL k hd' ≤ TA.cntL k s.hd) (hh : TA.HoldsL Z w.heap hd') : ∃ s', s'.er = s.er.set d x.er ∧ s'.hd = hd' ∧ SRel C Z s' (a.put (some d) v) w := by
  unfold St.set
  by_cases hf : s.er.free d = true
  · refine ⟨⟨Go.OM.put s.tm d x, s.bx, hd'⟩, ?_, rfl, H.put hd (noRef_of_free H hf) ?_ hc hh⟩
    · rw [if_pos hf]; simp [StA.er, put_map]
    · exact hx.relook (d := d) (fun r hr => rootCells_put_ne (s := ⟨s.tm, s.bx, hd'⟩) hr) (into_al hi).1 (into_al hi).2
  · refine ⟨⟨Go.OM.put (s.kill (.slot d)).tm d x, s.bx, hd'⟩, ?_, rfl, (H.kill (.slot d)).put hd (noRef_kill H d) ?_ hc hh⟩
    · rw [if_neg hf]
      have := StA.er_kill (.slot d) s
      simp only [StA.er, St.kill, St.mk.injEq] at this
      simp only [StA.er, put_map, St.kill, this.1]
    · refine hx.relook (d := d) (fun r hr => ?_) (into_al hi).1 (into_al hi).2
      rw [← rootCells_kill s (.slot d)]
      exact rootCells_put_ne (s := ⟨(s.kill (.slot d)).tm, s.bx, hd'⟩) hr

/-- A slot's tree comes into the hand. -/
theorem SRel.takeSlot {n : Nat} {x : TA} (H : SRel C Z s a w) (hn : n < C.N) (hx : look s.tm n = some (.t x)) :
    ∃ s', s'.er = s.er.set n .u ∧ s'.hd = x :: s.hd ∧ SRel C Z s' a w ∧ x.Holds Z w.heap ∧ a.tmps.getD n undef = x.val := by
  have key : ∀ (s : StA), SRel C Z s a w → look s.tm n = some (.t x) → NoRef s n → SRel C Z ⟨Go.OM.put s.tm n .u, s.bx, x :: s.hd⟩ a w := by
    intro s H hx hnr
    have hcnt : ∀ k, (StA.mk (Go.OM.put s.tm n .u) s.bx (x :: s.hd)).cnt k = s.cnt k := by
      intro k
      have := tot_put_some (AVA.cnt k) (x := .u) hx
      simp only [AVA.cnt] at this
      simp only [StA.cnt, TA.cntL]; omega
    exact {
      defers := H.defers
      size := H.size
      tm := fun m y hy => by
        rw [look_put] at hy
        by_cases hmn : m = n
        · rw [if_pos hmn] at hy
          injection hy with hy
          subst hy
          trivial
        · rw [if_neg hmn] at hy
          refine (H.tm m y hy).keep (fun _ hz => hz) (fun _ _ => rfl) (fun r o p k e base cs l h1 h2 h3 => ?_) (fun r o p e base cs ad h1 h2 => ⟨base, cs, ?_, h2⟩)
          · have hr : r ≠ .slot n := fun e2 => (hnr m y hy hmn).1 o p k (by rw [e, e2])
            exact rootCells_put_ne (s := ⟨s.tm, s.bx, x :: s.hd⟩) hr
          · have hr : r ≠ .slot n := fun e2 => (hnr m y hy hmn).2 o p (by rw [e, e2])
            exact (rootCells_put_ne (s := ⟨s.tm, s.bx, x :: s.hd⟩) hr).trans h1
      bx := H.bx
      uniq := fun k => by rw [hcnt]; exact H.uniq k
      notZ := fun k hk => H.notZ k (by rwa [hcnt] at hk)
      lt := fun k hk => H.lt k (by rwa [hcnt] at hk)
      zlt := H.zlt
      own := fun k hk => H.own k (by rwa [hcnt] at hk)
      z0 := H.z0
      zext := H.zext
      pk := H.pk
      os := H.os
      tape := H.tape
      output := H.output
      grown := H.grown
      kept := H.kept
      part := H.part
      pbx := H.pbx
      pbo := fun y hy m z hz => by
        rw [look_put] at hz
        by_cases hmn : m = n
        · rw [if_pos hmn] at hz
          injection hz with hz
          subst hz
          rfl
        · rw [if_neg hmn] at hz
          exact H.pbo y hy m z hz
      pbi := H.pbi
      hand := by
        simp only [TA.HoldsL]
        exact ⟨(H.tm n _ hx).2, H.hand⟩
      pbh := fun y hy => by
        have h1 := H.pbo y hy n _ hx
        have h2 := H.pbh y hy
        simp only [AVA.cnt] at h1
        simp only [TA.cntL]; omega }
  have hv := H.tm n _ hx
  unfold St.set
  by_cases hf : s.er.free n = true
  · refine ⟨_, ?_, rfl, key s H hx (noRef_of_free H hf), hv.2, hv.1⟩
    rw [if_pos hf]; simp only [StA.er, put_map]; rfl
  · have hx' : look (s.kill (.slot n)).tm n = some (.t x) := by
      simp only [StA.kill, look_map, hx, Option.map_some]; rfl
    refine ⟨_, ?_, rfl, key (s.kill (.slot n)) (H.kill _) hx' (noRef_kill H n), hv.2, hv.1⟩
    rw [if_neg hf]
    have := StA.er_kill (.slot n) s
    simp only [StA.er, St.kill, St.mk.injEq] at this
    simp only [StA.er, put_map, St.kill, this.1]; rfl

/-- The hand lets something go. -/
theorem SRel.drop {hd' : List TA} (H : SRel C Z s a w) (hc : ∀ k, TA.cntL k hd' ≤ TA.cntL k s.hd) (hh : TA.HoldsL Z w.heap hd') : SRel C Z ⟨s.tm, s.bx, hd'⟩ a w := by
  have hcnt : ∀ k, (StA.mk s.tm s.bx hd').cnt k ≤ s.cnt k := by
    intro k
    have := hc k
    simp only [StA.cnt]; omega
  exact {
    defers := H.defers
    size := H.size
    tm := fun n y hy => (H.tm n y hy).keep (fun _ hz => hz) (fun _ _ => rfl) (fun r _ _ _ _ _ _ _ _ _ _ => by cases r <;> rfl) (fun r o p e base cs ad h1 h2 => ⟨base, cs, by cases r <;> exact h1, h2⟩)
    bx := H.bx
    uniq := fun k => Nat.le_trans (hcnt k) (H.uniq k)
    notZ := fun k hk => H.notZ k (Nat.lt_of_lt_of_le hk (hcnt k))
    lt := fun k hk => H.lt k (Nat.lt_of_lt_of_le hk (hcnt k))
    zlt := H.zlt
    own := fun k hk => H.own k (Nat.lt_of_lt_of_le hk (hcnt k))
    z0 := H.z0
    zext := H.zext
    pk := H.pk
    os := H.os
    tape := H.tape
    output := H.output
    grown := H.grown
    kept := H.kept
    part := H.part
    pbx := H.pbx
    pbo := H.pbo
    pbi := H.pbi
    hand := hh
    pbh := fun y hy => by
      have h1 := hc y.1
      have h2 := H.pbh y hy
      show TA.cntL y.1 hd' = 0
      omega }
end Go.OM
