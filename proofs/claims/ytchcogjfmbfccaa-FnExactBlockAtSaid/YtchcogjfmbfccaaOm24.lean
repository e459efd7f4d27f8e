import Derived.Test.YtchcogjfmbfccaaOm23
set_option linter.unusedVariables false
set_option linter.unusedSimpArgs false
namespace Go.OM
variable {C : Ctx} {Z Z' : Nat → Prop} {s : StA} {a : Act} {w w' : World} {E : Env} {o : Oper} {σ σ' : St} {K : Act → World → Prop} {Q : Exit → Act → World → Prop}

/-! ### How a function is entered -/
def entV (N n : Nat) : Arg → AV
  | .val x => .t x
  | .ptr _ => .ref (.box (N + n)) 0 []
def entT (N : Nat) : Nat → List Arg → List (Nat × AV)
  | _, [] => []
  | n, y :: as => (n, entV N n y) :: entT N (n + 1) as
def entB (N : Nat) : Nat → List Arg → List (Nat × List T)
  | _, [] => []
  | n, .val _ :: as => entB N (n + 1) as
  | n, .ptr cs :: as => (N + n, cs) :: entB N (n + 1) as
def entry (N : Nat) (as : List Arg) : St := ⟨entT N 0 as, entB N 0 as⟩
def entVA (N n : Nat) : ArgA → AVA
  | .val x => .t x
  | .ptr _ _ _ => .ref (.box (N + n)) 0 []
def entTA (N : Nat) : Nat → List ArgA → List (Nat × AVA)
  | _, [] => []
  | n, y :: as => (n, entVA N n y) :: entTA N (n + 1) as
def entBA (N : Nat) : Nat → List ArgA → List (Nat × BoxA)
  | _, [] => []
  | n, .val _ :: as => entBA N (n + 1) as
  | n, .ptr b off cs :: as => (N + n, ⟨b, off, cs⟩) :: entBA N (n + 1) as
def entK (N : Nat) : Nat → List ArgA → List (Nat × Nat × Nat × Nat)
  | _, [] => []
  | n, .val _ :: as => entK N (n + 1) as
  | n, .ptr b off cs :: as => (N + n, b, off, cs.length) :: entK N (n + 1) as
theorem er_entT (N : Nat) : ∀ (as : List ArgA) (n : Nat), (entTA N n as).map (fun e => (e.1, e.2.er)) = entT N n (as.map ArgA.er)
  | [], n => rfl
  | .val x :: as, n => by
    have := er_entT N as (n + 1)
    simp only [entTA, entT, entVA, entV, ArgA.er, List.map_cons, this]
    rfl
  | .ptr b off cs :: as, n => by
    have := er_entT N as (n + 1)
    simp only [entTA, entT, entVA, entV, ArgA.er, List.map_cons, this]
    rfl
theorem er_entB (N : Nat) : ∀ (as : List ArgA) (n : Nat), (entBA N n as).map (fun e => (e.1, TA.erL e.2.cs)) = entB N n (as.map ArgA.er)
  | [], n => rfl
  | .val x :: as, n => by simp [entBA, entB, ArgA.er, er_entB N as (n + 1)]
  | .ptr b off cs :: as, n => by simp [entBA, entB, ArgA.er, er_entB N as (n + 1)]
theorem look_entTA (N : Nat) : ∀ (as : List ArgA) (n m : Nat) (x : AVA), look (entTA N n as) m = some x → n ≤ m ∧ ∃ y, as[m - n]? = some y ∧ x = entVA N m y
  | [], n, m, x, h => by simp [entTA, look] at h
  | y :: as, n, m, x, h => by
    simp only [entTA, look] at h
    by_cases e : n = m
    · subst e
      rw [if_pos rfl] at h
      injection h with h
      exact ⟨Nat.le_refl _, y, by simp, h.symm⟩
    · rw [if_neg e] at h
      obtain ⟨h1, z, h2, h3⟩ := look_entTA N as (n + 1) m x h
      refine ⟨by omega, z, ?_, h3⟩
      rw [show m - n = (m - (n + 1)) + 1 by omega]
      simpa using h2
theorem look_entBA (N : Nat) : ∀ (as : List ArgA) (n m : Nat) (x : BoxA), look (entBA N n as) m = some x → ∃ j, m = N + n + j ∧ as[j]? = some (.ptr x.b x.off x.cs)
  | [], n, m, x, h => by simp [entBA, look] at h
  | .val y :: as, n, m, x, h => by
    simp only [entBA] at h
    obtain ⟨j, h1, h2⟩ := look_entBA N as (n + 1) m x h
    exact ⟨j + 1, by omega, by simpa using h2⟩
  | .ptr b off cs :: as, n, m, x, h => by
    simp only [entBA, look] at h
    by_cases e : N + n = m
    · rw [if_pos e] at h
      injection h with h
      subst h
      exact ⟨0, by omega, by simp⟩
    · rw [if_neg e] at h
      obtain ⟨j, h1, h2⟩ := look_entBA N as (n + 1) m x h
      exact ⟨j + 1, by omega, by simpa using h2⟩
theorem entBA_look (N : Nat) : ∀ (as : List ArgA) (n j : Nat) (b off : Nat) (cs : List TA), as[j]? = some (.ptr b off cs) → look (entBA N n as) (N + n + j) = some ⟨b, off, cs⟩
  | [], n, j, b, off, cs, h => by simp at h
  | .val y :: as, n, j, b, off, cs, h => by
    cases j with
    | zero => simp at h
    | succ j =>
      have := entBA_look N as (n + 1) j b off cs (by simpa using h)
      rw [show N + (n + 1) + j = N + n + (j + 1) by omega] at this
      exact this
  | .ptr b2 off2 cs2 :: as, n, j, b, off, cs, h => by
    cases j with
    | zero =>
      simp only [List.getElem?_cons_zero, Option.some.injEq, ArgA.ptr.injEq] at h
      obtain ⟨rfl, rfl, rfl⟩ := h
      simp [entBA, look]
    | succ j =>
      have := entBA_look N as (n + 1) j b off cs (by simpa using h)
      rw [show N + (n + 1) + j = N + n + (j + 1) by omega] at this
      simp only [entBA, look]
      rw [if_neg (by omega)]
      exact this
theorem entK_mem (N : Nat) : ∀ (as : List ArgA) (n : Nat) (x : Nat × Nat × Nat × Nat), x ∈ entK N n as → ∃ j cs, x.1 = N + n + j ∧ as[j]? = some (.ptr x.2.1 x.2.2.1 cs) ∧ cs.length = x.2.2.2
  | [], n, x, h => by simp [entK] at h
  | .val y :: as, n, x, h => by
    obtain ⟨j, cs, h1, h2, h3⟩ := entK_mem N as (n + 1) x h
    exact ⟨j + 1, cs, by omega, by simpa using h2, h3⟩
  | .ptr b off cs :: as, n, x, h => by
    simp only [entK] at h
    rcases List.mem_cons.1 h with rfl | h
    · exact ⟨0, cs, by simp, by simp, rfl⟩
    · obtain ⟨j, cs, h1, h2, h3⟩ := entK_mem N as (n + 1) x h
      exact ⟨j + 1, cs, by omega, by simpa using h2, h3⟩
theorem ent_cnt (N k : Nat) : ∀ (as : List ArgA) (n : Nat), tot (AVA.cnt k) (entTA N n as) + tot (BoxA.cnt k) (entBA N n as) = innL k as + pcL k as
  | [], n => rfl
  | .val x :: as, n => by
    have := ent_cnt N k as (n + 1)
    simp only [entTA, entBA, entVA, tot, AVA.cnt, innL, pcL, ArgA.inn, ArgA.pc]; omega
  | .ptr b off cs :: as, n => by
    have := ent_cnt N k as (n + 1)
    simp only [entTA, entBA, entVA, tot, AVA.cnt, BoxA.cnt, innL, pcL, ArgA.inn, ArgA.pc]; omega
theorem innL_mem {k : Nat} : ∀ {as : List ArgA} {x : ArgA}, x ∈ as → x.inn k ≤ innL k as
  | y :: as, x, h => by
    simp only [innL]
    rcases List.mem_cons.1 h with rfl | h
    · omega
    · have := innL_mem (k := k) h; omega
theorem ptrs_mem : ∀ (as : List ArgA) (x : Nat × Nat × Nat), x ∈ ptrs as ↔ ∃ cs, ArgA.ptr x.1 x.2.1 cs ∈ as ∧ cs.length = x.2.2
  | [], x => by simp [ptrs]
  | .val y :: as, x => by simp [ptrs, ptrs_mem as x]
  | .ptr b off cs :: as, x => by
    simp only [ptrs, List.mem_cons, ptrs_mem as x]
    constructor
    · rintro (rfl | ⟨cs2, h1, h2⟩)
      · exact ⟨cs, .inl rfl, rfl⟩
      · exact ⟨cs2, .inr h1, h2⟩
    · rintro ⟨cs2, h1 | h1, h2⟩
      · left
        simp only [ArgA.ptr.injEq] at h1
        obtain ⟨e1, e2, e3⟩ := h1
        subst e3
        rw [← e1, ← e2, h2]
      · exact .inr ⟨cs2, h1, h2⟩
theorem pc_two {k : Nat} : ∀ (as : List ArgA) (i j : Nat) (x y : ArgA), as[i]? = some x → as[j]? = some y → i ≠ j → x.pc k + y.pc k ≤ pcL k as
  | [], i, j, x, y, h, _, _ => by simp at h
  | z :: as, i, j, x, y, h1, h2, hne => by
    have one : ∀ (as : List ArgA) (i : Nat) (x : ArgA), as[i]? = some x → x.pc k ≤ pcL k as := by
      intro as
      induction as with
      | nil => intro i x h; simp at h
      | cons z as ih =>
        intro i x h
        cases i with
        | zero => simp only [List.getElem?_cons_zero, Option.some.injEq] at h; subst h; simp only [pcL]; omega
        | succ i => have := ih i x (by simpa using h); simp only [pcL]; omega
    cases i with
    | zero =>
      simp only [List.getElem?_cons_zero, Option.some.injEq] at h1
      subst h1
      cases j with
      | zero => exact absurd rfl hne
      | succ j => have := one as j y (by simpa using h2); simp only [pcL]; omega
    | succ i =>
      cases j with
      | zero =>
        simp only [List.getElem?_cons_zero, Option.some.injEq] at h2
        subst h2
        have := one as i x (by simpa using h1); simp only [pcL]; omega
      | succ j =>
        have := pc_two (k := k) as i j x y (by simpa using h1) (by simpa using h2) (by omega)
        simp only [pcL]; omega
def ctxOf (N : Nat) (w : World) (Z : Nat → Prop) (as : List ArgA) : Ctx := ⟨N, w, Z, fun k => 0 < innL k as + pcL k as, ptrs as, entK N 0 as⟩
theorem entry_ok {N : Nat} {as : List ArgA} (hA : ArgsOk Z w.heap as) (hN : as.length ≤ N) : SOk (ctxOf N w Z as) (entry N (as.map ArgA.er)) { tmps := (as.map ArgA.value).toArray ++ Array.replicate (N - as.length) undef, defers := [] } w := by
  have hget : ∀ n y, as[n]? = some y → ((as.map ArgA.value).toArray ++ Array.replicate (N - as.length) undef).getD n undef = y.value := by
    intro n y hy
    have hlt := (List.getElem?_eq_some_iff.1 hy).1
    rw [Array.getD_eq_getD_getElem?, Array.getElem?_append_left (by simpa using hlt)]
    simp [hy]
  have hcnt : ∀ k, (StA.mk (entTA N 0 as) (entBA N 0 as) []).cnt k = innL k as + pcL k as := by
    intro k
    have := ent_cnt N k as 0
    simp only [StA.cnt, TA.cntL]; omega
  have hpc : ∀ x ∈ ptrs as, 0 < pcL x.1 as := by
    intro x hx
    rw [pcL_ptrs]
    exact pq_pos hx rfl
  refine ⟨⟨entTA N 0 as, entBA N 0 as, []⟩, Z, ?_, rfl, ?_⟩
  · simp only [StA.er, entry, er_entT, er_entB]
  exact {
    defers := rfl
    size := by simp [ctxOf]; omega
    tm := fun n x hx => by
      obtain ⟨_, y, h1, h2⟩ := look_entTA N as 0 n x hx
      rw [Nat.sub_zero] at h1
      subst h2
      show ValOk _ _ _ _ (Array.getD _ n undef)
      rw [hget n y h1]
      have hy := hA.holds y (List.mem_of_getElem? h1)
      cases y with
      | val t => exact ⟨rfl, hy⟩
      | ptr b off cs =>
        have := entBA_look N as 0 n b off cs h1
        rw [Nat.add_zero] at this
        exact ⟨some (b, off), cs, (b, off), by simp [StA.rootCells, this], by simp [TA.addrP], rfl⟩
    bx := fun n x hx => by
      obtain ⟨j, h1, h2⟩ := look_entBA N as 0 n x hx
      exact hA.holds _ (List.mem_of_getElem? h2)
    uniq := fun k => by rw [hcnt]; exact hA.uniq k
    notZ := fun k hk => hA.notZ k (by rwa [hcnt] at hk)
    lt := fun k hk => by
      rw [hcnt] at hk
      have hex : ∃ x ∈ as, 0 < x.inn k + x.pc k := by
        clear hcnt hget hA hN hpc
        induction as with
        | nil => simp [innL, pcL] at hk
        | cons x as ih =>
          simp only [innL, pcL] at hk
          by_cases h : 0 < x.inn k + x.pc k
          · exact ⟨x, by simp, h⟩
          · obtain ⟨y, h1, h2⟩ := ih (by omega)
            exact ⟨y, by simp [h1], h2⟩
      obtain ⟨x, hx, h⟩ := hex
      have hH := hA.holds x hx
      cases x with
      | val t => simp only [ArgA.inn, ArgA.pc] at h; exact TA.Holds.lt t hH (by omega)
      | ptr b off cs =>
        simp only [ArgA.inn, ArgA.pc] at h
        by_cases e : b = k
        · subst e; exact hH.1.lt
        · rw [if_neg e] at h; exact TA.HoldsL.lt cs hH.2.1 (by omega)
    zlt := hA.zlt
    own := fun k hk => .inl (by rwa [hcnt] at hk)
    z0 := fun k hk => hk
    zext := fun k hk => .inl hk
    os := rfl
    tape := rfl
    output := rfl
    grown := Nat.le_refl _
    kept := fun _ _ _ => rfl
    part := fun x hx => by
      obtain ⟨cs, h1, h2⟩ := (ptrs_mem as x).1 hx
      obtain ⟨⟨c, e, fr, g1, _⟩, _⟩ := hA.holds _ h1
      exact ⟨c, c, e, fr, g1, g1, rfl, fun _ _ => rfl⟩
    pbx := fun x hx n y hy hyb => by
      obtain ⟨j, h1, h2⟩ := look_entBA N as 0 n y hy
      obtain ⟨cs, h3, h4⟩ := (ptrs_mem as x).1 hx
      obtain ⟨i, hi⟩ := List.getElem?_of_mem h3
      by_cases e : i = j
      · subst e
        rw [hi] at h2
        simp only [Option.some.injEq, ArgA.ptr.injEq] at h2
        obtain ⟨e1, e2, e3⟩ := h2
        exact ⟨e2.symm, by rw [← e3, h4]; exact Nat.le_refl _⟩
      · exfalso
        have := pc_two (k := x.1) as i j _ _ hi h2 e
        have hu := hA.uniq x.1
        simp only [ArgA.pc, hyb, if_true] at this
        omega
    pbo := fun x hx n y hy => by
      have h1 := hpc x hx
      have h2 := hA.uniq x.1
      obtain ⟨_, z, h3, h4⟩ := look_entTA N as 0 n y hy
      subst h4
      have h5 := innL_mem (k := x.1) (List.mem_of_getElem? h3)
      cases z with
      | val t => simp only [entVA, AVA.cnt]; simp only [ArgA.inn] at h5; omega
      | ptr b off cs => rfl
    pbi := fun x hx n y hy => by
      have h1 := hpc x hx
      have h2 := hA.uniq x.1
      obtain ⟨j, _, h3⟩ := look_entBA N as 0 n y hy
      have h5 := innL_mem (k := x.1) (List.mem_of_getElem? h3)
      simp only [ArgA.inn] at h5; omega
    hand := trivial
    pbh := fun _ _ => rfl
    pk := fun x hx => by
      obtain ⟨j, cs, h1, h2, h3⟩ := entK_mem N as 0 x hx
      refine ⟨by show N ≤ x.1; omega, cs, ?_, h3⟩
      rw [h1]
      exact entBA_look N as 0 j _ _ _ h2 }
end Go.OM
