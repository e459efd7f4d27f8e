import Derived.Test.YtchcogjfmbfccaaOm1
set_option linter.unusedVariables false
namespace Go.OM

/-! ### Finite tables -/
def look {α : Type} : List (Nat × α) → Nat → Option α
  | [], _ => none
  | (m, x) :: l, n => if m = n then some x else look l n
def put {α : Type} : List (Nat × α) → Nat → α → List (Nat × α)
  | [], n, x => [(n, x)]
  | (m, y) :: l, n, x => if m = n then (n, x) :: l else (m, y) :: put l n x
section
variable {α β : Type}
theorem look_put (l : List (Nat × α)) (n m : Nat) (x : α) : look (put l n x) m = if m = n then some x else look l m := by
  induction l with
  | nil =>
    by_cases h : m = n
    · simp [put, look, h]
    · simp [put, look, h, Ne.symm h]
  | cons e l ih =>
    obtain ⟨k, y⟩ := e
    simp only [put]
    by_cases h : k = n
    · subst h
      by_cases h2 : m = k
      · simp [look, h2]
      · simp [look, h2, Ne.symm h2]
    · rw [if_neg h]
      simp only [look, ih]
      by_cases h2 : k = m
      · subst h2; simp [h]
      · simp [h2]
theorem look_put_self (l : List (Nat × α)) (n : Nat) (x : α) : look (put l n x) n = some x := by rw [look_put]; simp
theorem look_put_ne (l : List (Nat × α)) {n m : Nat} (x : α) (h : m ≠ n) : look (put l n x) m = look l m := by rw [look_put, if_neg h]
theorem look_map (f : α → β) (l : List (Nat × α)) (n : Nat) : look (l.map fun e => (e.1, f e.2)) n = (look l n).map f := by
  induction l with
  | nil => rfl
  | cons e l ih => obtain ⟨k, y⟩ := e; simp only [List.map_cons, look]; split <;> simp [ih]
theorem put_map (f : α → β) (l : List (Nat × α)) (n : Nat) (x : α) : (put l n x).map (fun e => (e.1, f e.2)) = put (l.map fun e => (e.1, f e.2)) n (f x) := by
  induction l with
  | nil => rfl
  | cons e l ih => obtain ⟨k, y⟩ := e; simp only [put, List.map_cons]; split <;> simp [ih]
/-- The sum of a measure over a table. -/
def tot (f : α → Nat) : List (Nat × α) → Nat
  | [] => 0
  | e :: l => f e.2 + tot f l
theorem tot_put_some (f : α → Nat) {l : List (Nat × α)} {n : Nat} {x y : α} (h : look l n = some y) : tot f (put l n x) + f y = tot f l + f x := by
  induction l with
  | nil => simp [look] at h
  | cons e l ih =>
    obtain ⟨k, z⟩ := e
    simp only [look] at h
    simp only [put]
    split
    · rename_i hk
      rw [if_pos hk] at h
      injection h with h
      subst h
      simp only [tot]; omega
    · rename_i hk
      rw [if_neg hk] at h
      have := ih h
      simp only [tot]; omega
theorem tot_put_none (f : α → Nat) {l : List (Nat × α)} {n : Nat} {x : α} (h : look l n = none) : tot f (put l n x) = tot f l + f x := by
  induction l with
  | nil => simp [put, tot]
  | cons e l ih =>
    obtain ⟨k, z⟩ := e
    simp only [look] at h
    simp only [put]
    split
    · rename_i hk
      rw [if_pos hk] at h
      cases h
    · rename_i hk
      rw [if_neg hk] at h
      have := ih h
      simp only [tot]; omega
theorem look_le_tot (f : α → Nat) {l : List (Nat × α)} {n : Nat} {y : α} (h : look l n = some y) : f y ≤ tot f l := by
  have := tot_put_some f (x := y) h
  induction l with
  | nil => simp [look] at h
  | cons e l ih =>
    obtain ⟨k, z⟩ := e
    simp only [look] at h
    simp only [tot]
    split at h
    · injection h with h; subst h; omega
    · have := ih h (tot_put_some f h); omega
theorem tot_take_le (f : α → Nat) (l : List (Nat × α)) (k : Nat) : tot f (l.take k) ≤ tot f l := by
  induction l generalizing k with
  | nil => simp [tot]
  | cons e l ih =>
    cases k with
    | zero => simp [tot]
    | succ k => simp only [List.take_succ_cons, tot]; have := ih k; omega
theorem look_take {l : List (Nat × α)} {k n : Nat} {x : α} (h : look (l.take k) n = some x) : look l n = some x := by
  induction l generalizing k with
  | nil => simp [look] at h
  | cons e l ih =>
    cases k with
    | zero => simp [look] at h
    | succ k =>
      obtain ⟨m, y⟩ := e
      simp only [List.take_succ_cons, look] at h ⊢
      split
      · rename_i hm; rw [if_pos hm] at h; exact h
      · rename_i hm; rw [if_neg hm] at h; exact ih h
theorem tot_map (f : β → Nat) (g : α → β) (l : List (Nat × α)) : tot f (l.map fun e => (e.1, g e.2)) = tot (fun x => f (g x)) l := by
  induction l with
  | nil => rfl
  | cons e l ih => simp [tot, ih]
theorem tot_le (f g : α → Nat) (l : List (Nat × α)) (h : ∀ x, f x ≤ g x) : tot f l ≤ tot g l := by
  induction l with
  | nil => simp [tot]
  | cons e l ih => simp only [tot]; have := h e.2; omega
end

/-! ### Lists of equal pieces -/
section
variable {α β : Type}
theorem flat_get {f : α → List β} {s : Nat} {es : List α} (hs : ∀ e ∈ es, (f e).length = s) (i j : Nat) (hj : j < s) : (es.flatMap f)[i * s + j]? = (es[i]?).bind fun e => (f e)[j]? := by
  induction es generalizing i with
  | nil => simp
  | cons e es ih =>
    have he := hs e (by simp)
    cases i with
    | zero =>
      simp only [List.flatMap_cons, Nat.zero_mul, Nat.zero_add, List.getElem?_cons_zero, Option.bind_some]
      rw [List.getElem?_append_left (by omega)]
    | succ i =>
      simp only [List.flatMap_cons, List.getElem?_cons_succ]
      rw [List.getElem?_append_right (by rw [he, Nat.succ_mul]; omega), he, show (i + 1) * s + j - s = i * s + j by rw [Nat.succ_mul]; omega]
      exact ih (fun e h => hs e (by simp [h])) i
theorem flat_length {f : α → List β} {s : Nat} {es : List α} (hs : ∀ e ∈ es, (f e).length = s) : (es.flatMap f).length = es.length * s := by
  induction es with
  | nil => simp
  | cons e es ih =>
    simp only [List.flatMap_cons, List.length_append, List.length_cons, hs e (by simp), ih (fun e h => hs e (by simp [h])), Nat.succ_mul]
    omega
end

/-! ### Writing cells -/
def wrL : Array Value → Nat → List Value → Array Value
  | c, _, [] => c
  | c, o, v :: vs => wrL (c.setIfInBounds o v) (o + 1) vs
theorem wrL_size (c : Array Value) (o : Nat) (vs : List Value) : (wrL c o vs).size = c.size := by
  induction vs generalizing c o with
  | nil => rfl
  | cons v vs ih => simp [wrL, ih]
theorem wrL_get (c : Array Value) (o : Nat) (vs : List Value) (j : Nat) (h : o + vs.length ≤ c.size) : (wrL c o vs)[j]? = if o ≤ j ∧ j < o + vs.length then vs[j - o]? else c[j]? := by
  induction vs generalizing c o with
  | nil => simp [wrL]; intros; omega
  | cons v vs ih =>
    simp only [wrL]
    simp only [List.length_cons] at h
    rw [ih _ _ (by simp; omega)]
    by_cases h1 : o + 1 ≤ j ∧ j < o + 1 + vs.length
    · rw [if_pos h1, if_pos (by simp only [List.length_cons]; omega)]
      rw [show j - o = (j - (o + 1)) + 1 by omega, List.getElem?_cons_succ]
    · rw [if_neg h1]
      by_cases h2 : j = o
      · subst h2
        rw [if_pos (by simp only [List.length_cons]; omega), Nat.sub_self, Array.getElem?_setIfInBounds_self_of_lt (by omega)]
        rfl
      · rw [if_neg (by simp only [List.length_cons]; omega)]
        rw [Array.getElem?_setIfInBounds_ne (by omega)]
def wr (h : Array Obj) (b o : Nat) (vs : List Value) : Array Obj := h.modify b fun
  | .cells c e fr => .cells (wrL c o vs) e fr
  | x => x
theorem wr_ne (h : Array Obj) (b o : Nat) (vs : List Value) {k : Nat} (hk : k ≠ b) : (wr h b o vs)[k]? = h[k]? := by
  simp only [wr, Array.getElem?_modify]
  rw [if_neg (Ne.symm hk)]
theorem wr_self {h : Array Obj} {b : Nat} {c : Array Value} {e : TypeId} {fr : Nat × Nat} (o : Nat) (vs : List Value) (hb : h[b]? = some (.cells c e fr)) : (wr h b o vs)[b]? = some (.cells (wrL c o vs) e fr) := by
  simp only [wr, Array.getElem?_modify, if_true, hb, Option.map_some]
theorem wr_size (h : Array Obj) (b o : Nat) (vs : List Value) : (wr h b o vs).size = h.size := by simp [wr]

/-! ### Places -/
inductive Root where
  | slot (n : Nat)
  | box (n : Nat)
  deriving DecidableEq
abbrev Path := List (Nat × Nat)

namespace T
def withCells : T → List T → T
  | .agg _, l => .agg l
  | _, l => l.headD .dead
def getP : List T → Nat → Path → Nat → Option (List T)
  | cs, o, [], k => if o + k ≤ cs.length then some ((cs.drop o).take k) else none
  | cs, o, (i, o') :: p, k => match cs[o]? with
    | some (.sl true _ es) => match es[i]? with
      | some e => getP e.cells o' p k
      | none => none
    | _ => none
def setP : List T → Nat → Path → List T → List T
  | cs, o, [], new => cs.take o ++ new ++ cs.drop (o + new.length)
  | cs, o, (i, o') :: p, new => match cs[o]? with
    | some (.sl true s es) => match es[i]? with
      | some e => cs.set o (.sl true s (es.set i (e.withCells (setP e.cells o' p new))))
      | none => cs
    | _ => cs
end T
def bcnt : Option (Nat × Nat) → Nat → Nat
  | some b, q => if b.1 = q then 1 else 0
  | none, _ => 0
theorem bcnt_self (b o : Nat) : bcnt (some (b, o)) b = 1 := by simp [bcnt]
theorem bcnt_ne {b q : Nat} (o : Nat) (h : b ≠ q) : bcnt (some (b, o)) q = 0 := by simp [bcnt, h]
namespace TA
def withCells : TA → List TA → TA
  | .agg _, l => .agg l
  | _, l => l.headD (.dead undef)
def getP : List TA → Nat → Path → Nat → Option (List TA)
  | cs, o, [], k => if o + k ≤ cs.length then some ((cs.drop o).take k) else none
  | cs, o, (i, o') :: p, k => match cs[o]? with
    | some (.sl true _ _ _ _ es) => match es[i]? with
      | some e => getP e.cells o' p k
      | none => none
    | _ => none
def setP : List TA → Nat → Path → List TA → List TA
  | cs, o, [], new => cs.take o ++ new ++ cs.drop (o + new.length)
  | cs, o, (i, o') :: p, new => match cs[o]? with
    | some (.sl true s b off cap es) => match es[i]? with
      | some e => cs.set o (.sl true s b off cap (es.set i (e.withCells (setP e.cells o' p new))))
      | none => cs
    | _ => cs
def addrP : Option (Nat × Nat) → List TA → Nat → Path → Option (Nat × Nat)
  | base, _, o, [] => base.map fun b => (b.1, b.2 + o)
  | _, cs, o, (i, o') :: p => match cs[o]? with
    | some (.sl true s b off _ es) => match es[i]? with
      | some e => addrP (some (b, off + i * s)) e.cells o' p
      | none => none
    | _ => none

theorem cells_withCells {e : TA} {l : List TA} (h : l.length = e.cells.length) (hc : ∀ c ∈ l, c.isCell = true) : (e.withCells l).cells = l := by
  cases e with
  | agg cs => rfl
  | _ =>
    simp only [cells, List.length_cons, List.length_nil] at h
    obtain ⟨x, rfl⟩ := List.length_eq_one_iff.1 h
    have := hc x (by simp)
    cases x <;> simp_all [withCells, cells, isCell]
theorem isCell_mem_cells {Z : Nat → Prop} {h : Array Obj} {e : TA} (he : e.Holds Z h) : ∀ c ∈ e.cells, c.isCell = true := by
  cases e with
  | agg cs => simp only [Holds] at he; exact he.2
  | _ => simp [cells, isCell]
theorem holds_cells {Z : Nat → Prop} {h : Array Obj} {e : TA} (he : e.Holds Z h) : HoldsL Z h e.cells := by
  cases e with
  | agg cs => simp only [Holds] at he; exact he.1
  | _ => simpa [cells, HoldsL] using he
theorem holds_withCells {Z : Nat → Prop} {h : Array Obj} {e : TA} {l : List TA} (hl : l.length = e.cells.length) (hc : ∀ c ∈ l, c.isCell = true) (hh : HoldsL Z h l) : (e.withCells l).Holds Z h := by
  cases e with
  | agg cs => simp only [withCells, Holds]; exact ⟨hh, hc⟩
  | _ =>
    simp only [cells, List.length_cons, List.length_nil] at hl
    obtain ⟨x, rfl⟩ := List.length_eq_one_iff.1 hl
    simpa [withCells, HoldsL] using hh
theorem cnt_withCells (k : Nat) {e : TA} {l : List TA} (hl : l.length = e.cells.length) : (e.withCells l).cnt k = cntL k l := by
  cases e with
  | agg cs => simp [withCells, cnt]
  | _ =>
    simp only [cells, List.length_cons, List.length_nil] at hl
    obtain ⟨x, rfl⟩ := List.length_eq_one_iff.1 hl
    simp [withCells, cntL]
theorem cntL_set (k : Nat) {l : List TA} {i : Nat} {x y : TA} (h : l[i]? = some y) : cntL k (l.set i x) + y.cnt k = cntL k l + x.cnt k := by
  induction l generalizing i with
  | nil => simp at h
  | cons t ts ih =>
    cases i with
    | zero => simp only [List.getElem?_cons_zero, Option.some.injEq] at h; subst h; simp only [List.set_cons_zero, cntL]; omega
    | succ i => simp only [List.getElem?_cons_succ] at h; have := ih h; simp only [List.set_cons_succ, cntL]; omega
theorem cnt_le_cntL (k : Nat) {l : List TA} {i : Nat} {y : TA} (h : l[i]? = some y) : y.cnt k ≤ cntL k l := by
  have := cntL_set k (x := .dead undef) h
  simp [cnt] at this
  omega
theorem holdsL_get {Z : Nat → Prop} {h : Array Obj} {l : List TA} (hl : HoldsL Z h l) {i : Nat} {y : TA} (hy : l[i]? = some y) : y.Holds Z h := holdsL_iff.1 hl y (List.mem_of_getElem? hy)

/-- Where a place lies: in the base's row, or in a row that is owned. -/
theorem addr_range : ∀ (p : Path) (base : Option (Nat × Nat)) (cs : List TA) (o k : Nat) (old : List TA) (b off : Nat), getP cs o p k = some old → addrP base cs o p = some (b, off) →
    (∃ o0, base = some (b, o0) ∧ o0 ≤ off ∧ off + k ≤ o0 + cs.length ∧ p = []) ∨ (0 < cntL b cs)
  | [], base, cs, o, k, old, b, off, hg, ha => by
    simp only [getP] at hg
    simp only [addrP] at ha
    split at hg
    · obtain ⟨x, hx, hx2⟩ := Option.map_eq_some_iff.1 ha
      obtain ⟨b0, o0⟩ := x
      simp only [Prod.mk.injEq] at hx2
      obtain ⟨rfl, rfl⟩ := hx2
      exact .inl ⟨o0, hx, by omega, by omega, rfl⟩
    · cases hg
  | (i, o') :: p, base, cs, o, k, old, b, off, hg, ha => by
    right
    simp only [getP] at hg
    simp only [addrP] at ha
    split at hg
    · rename_i s b1 off1 cap es hcs
      split at hg
      · rename_i e he
        rw [hcs] at ha
        simp only [he] at ha
        have hc := cnt_le_cntL b hcs
        simp only [cnt] at hc
        rcases addr_range p _ _ _ _ _ _ _ hg ha with ⟨o0, hb, _⟩ | h
        · injection hb with hb
          injection hb with hb _
          subst hb
          simp at hc
          omega
        · have := cnt_le_cntL b he
          rw [cntL_cells] at h
          omega
      · cases hg
    · cases hg
theorem getP_length : ∀ (p : Path) (cs : List TA) (o k : Nat) (old : List TA), getP cs o p k = some old → old.length = k
  | [], cs, o, k, old, hg => by
    simp only [getP] at hg
    split at hg
    · injection hg with hg; subst hg; simp; omega
    · cases hg
  | (i, o') :: p, cs, o, k, old, hg => by
    simp only [getP] at hg
    split at hg
    · split at hg
      · exact getP_length p _ _ _ _ hg
      · cases hg
    · cases hg

/-- A row's cells, all at once: at (b, off) in h. -/
theorem take_drop_split {l : List TA} {o k : Nat} (h : o + k ≤ l.length) : l = l.take o ++ (l.drop o).take k ++ l.drop (o + k) := by
  rw [List.append_assoc, ← List.drop_drop, List.take_append_drop, List.take_append_drop]
theorem vals_append (a b : List TA) : vals (a ++ b) = vals a ++ vals b := by simp [vals]
theorem vals_length (a : List TA) : (vals a).length = a.length := by simp [vals]
theorem vals_get (a : List TA) (j : Nat) : (vals a)[j]? = (a[j]?).map val1 := by simp [vals]

theorem get_splice {α : Type} {l new : List α} {o k : Nat} (h : o + k ≤ l.length) (hk : new.length = k) (j : Nat) :
    (l.take o ++ new ++ l.drop (o + k))[j]? = if o ≤ j ∧ j < o + k then new[j - o]? else l[j]? := by
  have h1 : (l.take o).length = o := by simp; omega
  rcases Nat.lt_or_ge j o with hj | hj
  · rw [if_neg (by omega), List.append_assoc, List.getElem?_append_left (by omega), List.getElem?_take, if_pos hj]
  · rcases Nat.lt_or_ge j (o + k) with hj2 | hj2
    · rw [if_pos ⟨hj, hj2⟩, List.append_assoc, List.getElem?_append_right (by omega), List.getElem?_append_left (by omega), h1]
    · rw [if_neg (by omega), List.getElem?_append_right (by simp; omega), List.getElem?_drop]
      congr 1
      simp
      omega

/-- **Cells are written at a place.** -/
theorem store_place {Z : Nat → Prop} {h : Array Obj} : ∀ (p : Path) (base : Option (Nat × Nat)) (cs : List TA) (o k : Nat) (old new : List TA) (b off : Nat),
    getP cs o p k = some old → addrP base cs o p = some (b, off) → new.length = k →
    HoldsL Z h cs → (∀ c ∈ cs, c.isCell = true) → (∀ b0 o0, base = some (b0, o0) → Mem h true b0 o0 cs.length (vals cs)) →
    (∀ q, cntL q cs + bcnt base q ≤ 1) → ¬ Z b →
    HoldsL Z (wr h b off (vals new)) new → (∀ c ∈ new, c.isCell = true) →
    HoldsL Z (wr h b off (vals new)) (setP cs o p new) ∧ (∀ c ∈ setP cs o p new, c.isCell = true) ∧ (setP cs o p new).length = cs.length ∧
    (∀ b0 o0, base = some (b0, o0) → Mem (wr h b off (vals new)) true b0 o0 cs.length (vals (setP cs o p new))) ∧
    (∀ q, cntL q (setP cs o p new) + cntL q old = cntL q cs + cntL q new)
  | [], base, cs, o, k, old, new, b, off, hg, ha, hk, hH, hC, hM, hU, hZ, hN, hNC => by
    simp only [getP] at hg
    simp only [addrP] at ha
    split at hg
    case isFalse => cases hg
    rename_i hle
    injection hg with hg
    obtain ⟨x, hx, hx2⟩ := Option.map_eq_some_iff.1 ha
    obtain ⟨b0, o0⟩ := x
    simp only [Prod.mk.injEq] at hx2
    obtain ⟨rfl, rfl⟩ := hx2
    have hsplit := take_drop_split hle
    have hmem : ∀ c ∈ cs.take o ++ new ++ cs.drop (o + new.length), c ∈ cs ∨ c ∈ new := by
      intro c hc
      simp only [List.mem_append] at hc
      rcases hc with (hc | hc) | hc
      · exact .inl (List.mem_of_mem_take hc)
      · exact .inr hc
      · exact .inl (List.mem_of_mem_drop hc)
    have hold : HoldsL Z (wr h b0 (o0 + o) (vals new)) cs := HoldsL.frame cs hH (fun _ hz => hz) (fun q hq => wr_ne _ _ _ _ (fun e => by
      subst e
      have := hU q
      rw [hx, bcnt_self] at this
      rcases hq with hq | hq
      · omega
      · exact hZ hq))
    refine ⟨?_, ?_, ?_, ?_, ?_⟩
    · simp only [setP]
      rw [holdsL_iff] at hold hN ⊢
      intro c hc
      rcases hmem c hc with hc | hc
      · exact hold c hc
      · exact hN c hc
    · intro c hc
      rcases hmem c hc with hc | hc
      · exact hC c hc
      · exact hNC c hc
    · simp only [setP, List.length_append, List.length_take, List.length_drop]
      omega
    · intro b1 o1 hb1
      rw [hx] at hb1
      injection hb1 with hb1
      injection hb1 with e1 e2
      subst e1; subst e2
      obtain ⟨c, ety, fr, g1, g2, g3⟩ := hM _ _ hx
      have hroom := (g2 rfl).1
      refine ⟨_, ety, fr, wr_self _ _ g1, fun _ => ⟨by rw [wrL_size]; exact hroom, (g2 rfl).2⟩, fun j u hj => ?_⟩
      rw [wrL_get _ _ _ _ (by rw [vals_length]; omega), vals_length, hk]
      simp only [setP, hk, vals_get] at hj
      rw [get_splice hle hk] at hj
      by_cases hjo : o ≤ j ∧ j < o + k
      · rw [if_pos hjo] at hj
        rw [if_pos (by omega), show o0 + j - (o0 + o) = j - o by omega, vals_get]
        exact hj
      · rw [if_neg hjo] at hj
        rw [if_neg (by omega)]
        exact g3 j u (by rw [vals_get]; exact hj)
    · intro q
      subst hg
      simp only [setP, hk]
      conv => rhs; rw [hsplit]
      simp only [cntL_append]
      omega
  | (i, o') :: p, base, cs, o, k, old, new, b, off, hg, ha, hk, hH, hC, hM, hU, hZ, hN, hNC => by
    simp only [getP] at hg
    simp only [addrP] at ha
    split at hg
    case h_2 => cases hg
    rename_i s b1 off1 cap es hcs
    split at hg
    case h_2 => cases hg
    rename_i e he
    rw [hcs] at ha
    simp only [he] at ha
    have hsl := holdsL_get hH hcs
    simp only [Holds] at hsl
    obtain ⟨hm, hle, _, hHes, hsz⟩ := hsl
    have heH := holdsL_get hHes he
    have hcnt := fun q => cnt_le_cntL q hcs
    have hcnte := fun q => cnt_le_cntL q he
    have hU1 : ∀ q, cntL q e.cells + bcnt (some (b1, off1 + i * s)) q ≤ 1 := by
      intro q
      have h1 := hcnt q
      have h2 := hcnte q
      have h3 := hU q
      simp only [cnt] at h1
      rw [cntL_cells]
      by_cases hq : b1 = q
      · subst hq
        rw [bcnt_self]
        simp at h1
        omega
      · rw [bcnt_ne _ hq]
        omega
    have hlt : i < es.length := (List.getElem?_eq_some_iff.1 he).1
    have hsz1 : e.cells.length = s := hsz e (List.mem_of_getElem? he)
    have hM1 : ∀ b0 o0, some (b1, off1 + i * s) = some (b0, o0) → Mem h true b0 o0 e.cells.length (vals e.cells) := by
      intro b0 o0 h0
      injection h0 with h0
      injection h0 with e1 e2
      subst e1; subst e2
      obtain ⟨c, ety, fr, g1, g2, g3⟩ := hm
      refine ⟨c, ety, fr, g1, fun _ => ⟨?_, (g2 rfl).2⟩, fun j u hj => ?_⟩
      · have := (g2 rfl).1
        have h5 : (i + 1) * s ≤ cap * s := Nat.mul_le_mul_right _ (by omega)
        rw [Nat.succ_mul] at h5
        omega
      · have hj2 : j < s := by
          have := (List.getElem?_eq_some_iff.1 hj).1
          rw [vals_length] at this
          omega
        rw [Nat.add_assoc]
        refine g3 _ u ?_
        rw [vals_get, flat_get hsz i j hj2, he]
        rw [vals_get] at hj
        exact hj
    obtain ⟨r1, r2, r3, r4, r5⟩ := store_place p _ _ _ _ _ _ _ _ hg ha hk (holds_cells heH) (isCell_mem_cells heH) hM1 hU1 hZ hN hNC
    have hrange := addr_range p _ _ _ _ _ _ _ hg ha
    -- the block that is written belongs to this cell
    have hbc : 0 < (TA.sl true s b1 off1 cap es).cnt b := by
      simp only [cnt]
      rcases hrange with ⟨o0, h0, _⟩ | h0
      · injection h0 with h0
        injection h0 with h0 _
        subst h0
        simp
        omega
      · rw [cntL_cells] at h0
        have := hcnte b
        omega
    have hset : (setP cs o ((i, o') :: p) new) = cs.set o (.sl true s b1 off1 cap (es.set i (e.withCells (setP e.cells o' p new)))) := by
      simp only [setP, hcs, he]
    have hcells : (e.withCells (setP e.cells o' p new)).cells = setP e.cells o' p new := cells_withCells r3 r2
    have hsz' : ∀ x ∈ es.set i (e.withCells (setP e.cells o' p new)), x.cells.length = s := by
      intro x hx
      rcases List.mem_or_eq_of_mem_set hx with hx | hx
      · exact hsz x hx
      · rw [hx, hcells, r3, hsz1]
    have hother : ∀ (j : Nat) x, es[j]? = some x → j ≠ i → x.Holds Z (wr h b off (vals new)) := by
      intro j x hj hji
      refine Holds.frame x (holdsL_get hHes hj) (fun _ hz => hz) (fun q hq => wr_ne _ _ _ _ (fun e2 => ?_))
      subst e2
      rcases hq with hq | hq
      · have h1 := hU q
        have h2 := hcnt q
        simp only [cnt] at h2
        have h3 := cntL_set q (x := .dead undef) he
        have h4 := cnt_le_cntL q (l := es.set i (.dead undef)) (i := j) (y := x) (by rw [List.getElem?_set_ne (Ne.symm hji)]; exact hj)
        simp only [cnt] at h3
        rcases hrange with ⟨o0, h0, _⟩ | h0
        · injection h0 with h0
          injection h0 with h0 _
          subst h0
          simp at h2
          omega
        · rw [cntL_cells] at h0
          omega
      · exact hZ hq
    have hnewsl : (TA.sl true s b1 off1 cap (es.set i (e.withCells (setP e.cells o' p new)))).Holds Z (wr h b off (vals new)) := by
      simp only [Holds]
      refine ⟨?_, by rw [List.length_set]; exact hle, (fun hh => nomatch hh), ?_, hsz'⟩
      · obtain ⟨c, ety, fr, g1, g2, g3⟩ := hm
        obtain ⟨c', ety', fr', g1', g2', g3'⟩ := r4 _ _ rfl
        -- other cells of this row
        have hsame : ∀ j, (j < i * s ∨ i * s + s ≤ j) → c'[off1 + j]? = c[off1 + j]? := by
          intro j hj
          by_cases hb : b1 = b
          · subst hb
            rw [wr_self _ _ g1] at g1'
            injection g1' with g1'
            injection g1' with g1' _ _
            subst g1'
            have hz2 : off1 + i * s ≤ off ∧ off + k ≤ off1 + i * s + s := by
              rcases hrange with ⟨o0, h0, h1, h2, _⟩ | h0
              · injection h0 with h0
                injection h0 with _ h0
                subst h0
                omega
              · have := hU1 b1
                rw [bcnt_self] at this
                omega
            have hroom := (g2 rfl).1
            have h5 : (i + 1) * s ≤ cap * s := Nat.mul_le_mul_right _ (by omega)
            rw [Nat.succ_mul] at h5
            rw [wrL_get _ _ _ _ (by rw [vals_length]; omega), vals_length, if_neg (by omega)]
          · rw [wr_ne _ _ _ _ hb, g1] at g1'
            injection g1' with g1'
            injection g1' with g1' _ _
            rw [← g1']
        have hcsz : off1 + cap * s ≤ c'.size ∧ fr' = (0, 0) := by
          by_cases hb : b1 = b
          · subst hb
            rw [wr_self _ _ g1] at g1'
            injection g1' with g1'
            injection g1' with e1 e2 e3
            subst e1; subst e3
            rw [wrL_size]
            exact g2 rfl
          · rw [wr_ne _ _ _ _ hb, g1] at g1'
            injection g1' with g1'
            injection g1' with e1 e2 e3
            subst e1; subst e3
            exact g2 rfl
        refine ⟨c', ety', fr', g1', fun _ => hcsz, fun j u hj => ?_⟩
        rw [vals_get] at hj
        by_cases hs0 : s = 0
        · subst hs0
          have hl : ((es.set i (e.withCells (setP e.cells o' p new))).flatMap cells).length = 0 := by rw [flat_length hsz']; simp
          rw [List.length_eq_zero_iff.1 hl] at hj
          simp at hj
        · have hjd : j = (j / s) * s + j % s := by rw [Nat.mul_comm]; exact (Nat.div_add_mod j s).symm
          have hjm : j % s < s := Nat.mod_lt _ (by omega)
          by_cases hji : j / s = i
          · rw [hjd, flat_get hsz' _ _ hjm, hji, List.getElem?_set_self hlt] at hj
            simp only [Option.bind_some, hcells] at hj
            have := g3' (j % s) u (by rw [vals_get]; exact hj)
            have hj3 : j = i * s + j % s := by rw [← hji]; exact hjd
            rw [show off1 + j = off1 + i * s + j % s by omega]
            exact this
          · rw [hjd, flat_get hsz' _ _ hjm, List.getElem?_set_ne (Ne.symm hji), ← flat_get hsz _ _ hjm, ← hjd] at hj
            rw [hsame j ?_]
            · exact g3 j u (by rw [vals_get]; exact hj)
            · rcases Nat.lt_or_gt_of_ne hji with hlt2 | hgt
              · left
                have : (j / s + 1) * s ≤ i * s := Nat.mul_le_mul_right _ hlt2
                rw [Nat.succ_mul] at this
                omega
              · right
                have : (i + 1) * s ≤ (j / s) * s := Nat.mul_le_mul_right _ hgt
                rw [Nat.succ_mul] at this
                omega
      · rw [holdsL_iff]
        intro x hx
        obtain ⟨j, hj⟩ := List.mem_iff_getElem?.1 hx
        by_cases hji : j = i
        · subst hji
          rw [List.getElem?_set_self hlt] at hj
          injection hj with hj
          subst hj
          exact holds_withCells r3 r2 r1
        · rw [List.getElem?_set_ne (Ne.symm hji)] at hj
          exact hother j x hj hji
    have hcntset : ∀ q, (TA.sl true s b1 off1 cap (es.set i (e.withCells (setP e.cells o' p new)))).cnt q + cntL q old = (TA.sl true s b1 off1 cap es).cnt q + cntL q new := by
      intro q
      have h1 := r5 q
      rw [cntL_cells] at h1
      have h2 := cntL_set q (x := e.withCells (setP e.cells o' p new)) he
      rw [cnt_withCells q r3] at h2
      simp only [cnt]
      omega
    have holt : o < cs.length := (List.getElem?_eq_some_iff.1 hcs).1
    rw [hset]
    refine ⟨?_, ?_, by simp, ?_, ?_⟩
    · rw [holdsL_iff]
      intro x hx
      obtain ⟨j, hj⟩ := List.mem_iff_getElem?.1 hx
      by_cases hjo : j = o
      · subst hjo
        rw [List.getElem?_set_self holt] at hj
        injection hj with hj
        subst hj
        exact hnewsl
      · rw [List.getElem?_set_ne (Ne.symm hjo)] at hj
        refine Holds.frame x (holdsL_get hH hj) (fun _ hz => hz) (fun q hq => wr_ne _ _ _ _ (fun e2 => ?_))
        subst e2
        rcases hq with hq | hq
        · have h1 := hU q
          have h3 := cntL_set q (x := .dead undef) hcs
          have h4 := cnt_le_cntL q (l := cs.set o (.dead undef)) (i := j) (y := x) (by rw [List.getElem?_set_ne (Ne.symm hjo)]; exact hj)
          rw [show (TA.dead undef).cnt q = 0 from by simp [cnt]] at h3
          omega
        · exact hZ hq
    · intro c hc
      rcases List.mem_or_eq_of_mem_set hc with hc | hc
      · exact hC c hc
      · rw [hc]; rfl
    · intro b0 o0 hb0
      obtain ⟨c, ety, fr, g1, g2, g3⟩ := hM _ _ hb0
      have hne : b0 ≠ b := by
        intro e2
        subst e2
        have h1 := hU b0
        rw [hb0, bcnt_self] at h1
        have h2 := hcnt b0
        omega
      refine ⟨c, ety, fr, by rw [wr_ne _ _ _ _ hne]; exact g1, g2, fun j u hj => g3 j u ?_⟩
      rw [vals_get] at hj ⊢
      by_cases hjo : j = o
      · subst hjo
        rw [List.getElem?_set_self holt] at hj
        rw [hcs]
        simpa [val1] using hj
      · rw [List.getElem?_set_ne (Ne.symm hjo)] at hj
        exact hj
    · intro q
      have h1 := hcntset q
      have h2 := cntL_set q (x := TA.sl true s b1 off1 cap (es.set i (e.withCells (setP e.cells o' p new)))) hcs
      omega
end TA
end Go.OM
