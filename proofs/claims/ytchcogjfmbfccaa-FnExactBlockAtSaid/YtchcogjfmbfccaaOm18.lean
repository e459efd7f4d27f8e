import Derived.Test.YtchcogjfmbfccaaOm17
set_option linter.unusedVariables false
set_option linter.unusedSimpArgs false
namespace Go.OM
variable {C : Ctx} {Z Z' : Nat → Prop} {s : StA} {a : Act} {w w' : World} {E : Env} {o : Oper} {σ σ' : St} {K : Act → World → Prop} {Q : Exit → Act → World → Prop}

/-- What is in the hand is handed over, and other things come back. -/
theorem SRel.replaceHand {hd' : List TA} (H : SRel C Z s a w) (g : w.heap.size ≤ w'.heap.size) (g1 : w'.os = w.os) (g2 : w'.tape = w.tape) (g3 : w'.output = w.output)
    (hk : ∀ k, k < w.heap.size → TA.cntL k s.hd = 0 → w'.heap[k]? = w.heap[k]?) (hz : ∀ k, Z k → Z' k) (hzx : ∀ k, Z' k → Z k ∨ w.heap.size ≤ k ∨ 0 < TA.cntL k s.hd) (hzl : ∀ k, Z' k → k < w'.heap.size)
    (hh : TA.HoldsL Z' w'.heap hd') (hu : ∀ k, TA.cntL k hd' ≤ 1) (hown : ∀ k, 0 < TA.cntL k hd' → (0 < TA.cntL k s.hd ∨ w.heap.size ≤ k) ∧ ¬ Z' k) : SRel C Z' ⟨s.tm, s.bx, hd'⟩ a w' := by
  have hs : ∀ k, s.cnt k = tot (AVA.cnt k) s.tm + tot (BoxA.cnt k) s.bx + TA.cntL k s.hd := fun k => rfl
  have hs' : ∀ k, (StA.mk s.tm s.bx hd').cnt k = tot (AVA.cnt k) s.tm + tot (BoxA.cnt k) s.bx + TA.cntL k hd' := fun k => rfl
  have hrest : ∀ k, 0 < tot (AVA.cnt k) s.tm + tot (BoxA.cnt k) s.bx → k < w.heap.size ∧ TA.cntL k s.hd = 0 ∧ ¬ Z k ∧ TA.cntL k hd' = 0 := by
    intro k h
    have h1 := hs k
    have h2 := H.uniq k
    have h3 := H.lt k (by omega)
    refine ⟨h3, by omega, H.notZ k (by omega), ?_⟩
    rcases Nat.eq_zero_or_pos (TA.cntL k hd') with h4 | h4
    · exact h4
    · rcases (hown k h4).1 with h5 | h5 <;> omega
  have hsame : ∀ k, (0 < tot (AVA.cnt k) s.tm + tot (BoxA.cnt k) s.bx ∨ Z k) → w'.heap[k]? = w.heap[k]? := by
    intro k h
    rcases h with h | h
    · obtain ⟨h1, h2, _⟩ := hrest k h
      exact hk k h1 h2
    · refine hk k (H.zlt k h) ?_
      rcases Nat.eq_zero_or_pos (TA.cntL k s.hd) with h4 | h4
      · exact h4
      · exact absurd h (H.notZ k (by have := hs k; omega))
  have hcases : ∀ k, 0 < (StA.mk s.tm s.bx hd').cnt k → (0 < tot (AVA.cnt k) s.tm + tot (BoxA.cnt k) s.bx) ∨ 0 < TA.cntL k hd' := by
    intro k h
    have := hs' k
    omega
  exact {
    defers := H.defers
    size := H.size
    tm := fun n y hy => (H.tm n y hy).keep hz (fun k hk2 => hsame k (by
        rcases hk2 with h | h
        · left; have : AVA.cnt k y ≤ tot (AVA.cnt k) s.tm := look_le_tot (AVA.cnt k) hy; omega
        · exact .inr h)) (fun r _ _ _ _ _ _ _ _ _ _ => by cases r <;> rfl) (fun r o p e base cs ad h1 h2 => ⟨base, cs, by cases r <;> exact h1, h2⟩)
    bx := fun n y hy => by
      obtain ⟨h1, h2, h3⟩ := H.bx n y hy
      have hle : ∀ k, y.cnt k ≤ tot (BoxA.cnt k) s.bx := fun k => look_le_tot (BoxA.cnt k) hy
      refine ⟨h1.frame (hsame _ (.inl ?_)), TA.HoldsL.frame _ h2 hz (fun k hk2 => hsame k ?_), h3⟩
      · have := hle y.b
        simp only [BoxA.cnt] at this
        rw [if_pos trivial] at this; omega
      · rcases hk2 with h | h
        · left
          have := hle k
          simp only [BoxA.cnt] at this; omega
        · exact .inr h
    uniq := fun k => by
      rw [hs']
      rcases Nat.eq_zero_or_pos (tot (AVA.cnt k) s.tm + tot (BoxA.cnt k) s.bx) with h | h
      · have := hu k; omega
      · have h1 := hrest k h
        have h2 := H.uniq k
        have h3 := hs k
        omega
    notZ := fun k hk2 => by
      rcases hcases k hk2 with h | h
      · obtain ⟨h1, h2, h3, _⟩ := hrest k h
        intro hz2
        rcases hzx k hz2 with h4 | h4 | h4
        · exact h3 h4
        · omega
        · omega
      · exact (hown k h).2
    lt := fun k hk2 => by
      rcases hcases k hk2 with h | h
      · have := (hrest k h).1; omega
      · exact TA.HoldsL.lt _ hh h
    zlt := hzl
    own := fun k hk2 => by
      rcases hcases k hk2 with h | h
      · exact H.own k (by have := hs k; omega)
      · rcases (hown k h).1 with h1 | h1
        · exact H.own k (by have := hs k; omega)
        · right; have := H.grown; omega
    z0 := fun k h => hz k (H.z0 k h)
    zext := fun k h => by
      rcases hzx k h with h1 | h1 | h1
      · exact H.zext k h1
      · right; left; have := H.grown; omega
      · rcases H.own k (by have := hs k; omega) with h2 | h2
        · right; right
          refine ⟨h2, fun x hx e => ?_⟩
          have := H.pbh x hx
          rw [e] at this; omega
        · exact .inr (.inl h2)
    pk := H.pk
    os := g1.trans H.os
    tape := g2.trans H.tape
    output := g3.trans H.output
    grown := Nat.le_trans H.grown g
    kept := fun k h1 h2 => by
      have h3 := H.grown
      refine (hk k (by omega) ?_).trans (H.kept k h1 h2)
      rcases Nat.eq_zero_or_pos (TA.cntL k s.hd) with h4 | h4
      · exact h4
      · rcases H.own k (by have := hs k; omega) with h5 | h5
        · exact absurd h5 h2
        · omega
    part := fun x hx => by
      obtain ⟨c, c', e, fr, q1, q2, q3⟩ := H.part x hx
      exact ⟨c, c', e, fr, q1, (hk _ (Array.getElem?_eq_some_iff.1 q2).1 (H.pbh x hx)).trans q2, q3⟩
    pbx := H.pbx
    pbo := H.pbo
    pbi := H.pbi
    hand := hh
    pbh := fun x hx => by
      show TA.cntL x.1 hd' = 0
      rcases Nat.eq_zero_or_pos (TA.cntL x.1 hd') with h4 | h4
      · exact h4
      · obtain ⟨c, c', e, fr, q1, q2, q3⟩ := H.part x hx
        have h6 := (Array.getElem?_eq_some_iff.1 q2).1
        have h7 := H.pbh x hx
        rcases (hown _ h4).1 with h5 | h5 <;> omega }

/-- What was owned is from now on only read: in the hand. -/
theorem SRel.freezeHand {x : TA} {hd0 : List TA} (H : SRel C Z s a w) (hh : s.hd = x :: hd0) : SRel C (fun k => Z k ∨ 0 < x.cnt k) ⟨s.tm, s.bx, x.ro :: hd0⟩ a w := by
  have hH := H.hand
  rw [hh] at hH
  simp only [TA.HoldsL] at hH
  have hc : ∀ k, TA.cntL k s.hd = x.cnt k + TA.cntL k hd0 := fun k => by rw [hh]; rfl
  refine H.replaceHand (Nat.le_refl _) rfl rfl rfl (fun _ _ _ => rfl) (fun k hk => .inl hk) (fun k hk => ?_) (fun k hk => ?_) ?_ (fun k => ?_) (fun k hk => ?_)
  · rcases hk with h | h
    · exact .inl h
    · right; right; rw [hc]; omega
  · rcases hk with h | h
    · exact H.zlt k h
    · exact TA.Holds.lt x hH.1 h
  · simp only [TA.HoldsL]
    exact ⟨TA.Holds.ro x hH.1 (fun _ h => .inl h) (fun _ h => .inr h), TA.HoldsL.frame _ hH.2 (fun _ h => .inl h) (fun _ _ => rfl)⟩
  · have h1 := H.uniq k
    have h2 := hc k
    simp only [TA.cntL, TA.cnt_ro]
    simp only [StA.cnt] at h1
    omega
  · simp only [TA.cntL, TA.cnt_ro, Nat.zero_add] at hk
    have h1 := H.uniq k
    have h2 := hc k
    simp only [StA.cnt] at h1
    refine ⟨.inl (by omega), fun hz => ?_⟩
    rcases hz with h | h
    · exact H.notZ k (by simp only [StA.cnt]; omega) h
    · omega

/-! ### Contracts -/
inductive ArgA where
  | val (x : TA)
  | ptr (b off : Nat) (cs : List TA)
inductive Arg where
  | val (x : T)
  | ptr (cs : List T)
namespace ArgA
def er : ArgA → Arg
  | .val x => .val x.er
  | .ptr _ _ cs => .ptr (TA.erL cs)
def value : ArgA → Value
  | .val x => x.val
  | .ptr b off _ => .pointer (some ⟨b, off, none⟩)
/-- The blocks that its trees own. -/
def inn (k : Nat) : ArgA → Nat
  | .val x => x.cnt k
  | .ptr _ _ cs => TA.cntL k cs
/-- The row of which a part is lent. -/
def pc (k : Nat) : ArgA → Nat
  | .val _ => 0
  | .ptr b _ _ => if b = k then 1 else 0
def Holds (Z : Nat → Prop) (h : Array Obj) : ArgA → Prop
  | .val x => x.Holds Z h
  | .ptr b off cs => TA.Mem h true b off cs.length (TA.vals cs) ∧ TA.HoldsL Z h cs ∧ ∀ c ∈ cs, c.isCell = true
end ArgA
def innL (k : Nat) : List ArgA → Nat
  | [] => 0
  | x :: xs => x.inn k + innL k xs
def pcL (k : Nat) : List ArgA → Nat
  | [] => 0
  | x :: xs => x.pc k + pcL k xs
/-- The parts that are lent: where, and how long. -/
def ptrs : List ArgA → List (Nat × Nat × Nat)
  | [] => []
  | .val _ :: xs => ptrs xs
  | .ptr b off cs :: xs => (b, off, cs.length) :: ptrs xs
structure ArgsOk (Z : Nat → Prop) (h : Array Obj) (as : List ArgA) : Prop where
  holds : ∀ x ∈ as, x.Holds Z h
  uniq : ∀ k, innL k as + pcL k as ≤ 1
  notZ : ∀ k, 0 < innL k as + pcL k as → ¬ Z k
  zlt : ∀ k, Z k → k < h.size
def retV : List TA → Value
  | [x] => x.val
  | xs => .tuple (xs.map TA.val).toArray
def outsOk (Z : Nat → Prop) (h : Array Obj) : List (Nat × Nat × Nat) → List (List TA) → Prop
  | [], [] => True
  | (b, off, n) :: ps, l :: ls => TA.Mem h true b off n (TA.vals l) ∧ TA.HoldsL Z h l ∧ (∀ c ∈ l, c.isCell = true) ∧ l.length = n ∧ outsOk Z h ps ls
  | _, _ => False
/-- How things stand behind a call. -/
structure Back (w : World) (Z : Nat → Prop) (as : List ArgA) (Z' : Nat → Prop) (rs : List TA) (ls : List (List TA)) (w' : World) : Prop where
  holds : TA.HoldsL Z' w'.heap rs
  outs : outsOk Z' w'.heap (ptrs as) ls
  uniq : ∀ k, TA.cntL k rs + TA.cntL k ls.flatten + pcL k as ≤ 1
  own : ∀ k, 0 < TA.cntL k rs + TA.cntL k ls.flatten → (0 < innL k as ∨ w.heap.size ≤ k) ∧ ¬ Z' k
  zle : ∀ k, Z k → Z' k
  zext : ∀ k, Z' k → Z k ∨ w.heap.size ≤ k ∨ 0 < innL k as
  zlt : ∀ k, Z' k → k < w'.heap.size
  os : w'.os = w.os
  tape : w'.tape = w.tape
  output : w'.output = w.output
  grown : w.heap.size ≤ w'.heap.size
  kept : ∀ k, k < w.heap.size → innL k as + pcL k as = 0 → w'.heap[k]? = w.heap[k]?
  part : ∀ x ∈ ptrs as, Outside w.heap w'.heap x.1 x.2.1 x.2.2
/-- **f, called with these, hands back those**, and leaves 'outs' behind its pointers. -/
def Ok (P : Program) (f : FuncId) (args : List Arg) (res : List T) (outs : List (List T)) : Prop :=
  ∀ (w : World) (Z : Nat → Prop) (as : List ArgA), as.map ArgA.er = args → ArgsOk Z w.heap as →
    Calls P f (as.map ArgA.value).toArray w fun e w' => ∃ Z' rs ls, e = .returned (retV rs) ∧ TA.erL rs = res ∧ ls.map TA.erL = outs ∧ Back w Z as Z' rs ls w'
end Go.OM
