import Derived.Orders
import Derived.Tactics
import Derived.Below
set_option linter.unusedVariables false
namespace Go.OM

/-! ### Trees: what a value holds, without memory (T); the same with the addresses (TA) -/
inductive T where
  | v (x : Value)
  | agg (cs : List T)
  | sl (own : Bool) (sz : Nat) (es : List T)
  | dead
  deriving Inhabited

inductive TA where
  | v (x : Value)
  | agg (cs : List TA)
  | nl (own : Bool) (sz : Nat) (A : Option Addr)
  | sl (own : Bool) (sz : Nat) (b off cap : Nat) (es : List TA)
  | dead (x : Value)
  deriving Inhabited

namespace T
def cells : T → List T
  | .agg cs => cs
  | t => [t]
def isCell : T → Bool
  | .agg _ => false
  | _ => true
mutual
def ro : T → T
  | .v x => .v x
  | .agg cs => .agg (roL cs)
  | .sl _ s es => .sl false s (roL es)
  | .dead => .dead
def roL : List T → List T
  | [] => []
  | t :: ts => t.ro :: roL ts
end
mutual
def hasOwn : T → Bool
  | .v _ => false
  | .agg cs => hasOwnL cs
  | .sl o _ es => o || hasOwnL es
  | .dead => false
def hasOwnL : List T → Bool
  | [] => false
  | t :: ts => t.hasOwn || hasOwnL ts
end
theorem roL_map (l : List T) : roL l = l.map ro := by
  induction l with
  | nil => rfl
  | cons t ts ih => simp [roL, ih]
end T

namespace TA
mutual
def er : TA → T
  | .v x => .v x
  | .agg cs => .agg (erL cs)
  | .nl o s _ => .sl o s []
  | .sl o s _ _ _ es => .sl o s (erL es)
  | .dead _ => .dead
def erL : List TA → List T
  | [] => []
  | t :: ts => t.er :: erL ts
end
theorem erL_map (l : List TA) : erL l = l.map er := by
  induction l with
  | nil => rfl
  | cons t ts ih => simp [erL, ih]
def cells : TA → List TA
  | .agg cs => cs
  | t => [t]
def isCell : TA → Bool
  | .agg _ => false
  | _ => true
/-- A cell's value. -/
def val1 : TA → Value
  | .v x => x
  | .agg _ => undef
  | .nl _ _ A => .slice A 0 0
  | .sl _ _ b off cap es => .slice (some ⟨b, off, none⟩) es.length cap
  | .dead x => x
def vals (l : List TA) : List Value := l.map val1
/-- A value. -/
def val : TA → Value
  | .agg cs => .agg (vals cs).toArray
  | t => t.val1
mutual
def ro : TA → TA
  | .v x => .v x
  | .agg cs => .agg (roL cs)
  | .nl _ s A => .nl false s A
  | .sl _ s b off cap es => .sl false s b off cap (roL es)
  | .dead x => .dead x
def roL : List TA → List TA
  | [] => []
  | t :: ts => t.ro :: roL ts
end
theorem roL_map (l : List TA) : roL l = l.map ro := by
  induction l with
  | nil => rfl
  | cons t ts ih => simp [roL, ih]
-- How often a block is owned in a tree.
mutual
def cnt (k : Nat) : TA → Nat
  | .v _ => 0
  | .agg cs => cntL k cs
  | .nl _ _ _ => 0
  | .sl o _ b _ _ es => (if o = true ∧ b = k then 1 else 0) + cntL k es
  | .dead _ => 0
def cntL (k : Nat) : List TA → Nat
  | [] => 0
  | t :: ts => t.cnt k + cntL k ts
end
theorem cntL_append (k : Nat) (a b : List TA) : cntL k (a ++ b) = cntL k a + cntL k b := by
  induction a with
  | nil => simp [cntL]
  | cons t ts ih => simp [cntL, ih]; omega
theorem cntL_cells (k : Nat) (t : TA) : cntL k t.cells = t.cnt k := by
  cases t <;> simp [cells, cntL, cnt]
theorem cntL_flat (k : Nat) (l : List TA) : cntL k (l.flatMap cells) = cntL k l := by
  induction l with
  | nil => rfl
  | cons t ts ih => simp [cntL_append, cntL_cells, ih, cntL]

/-- The cells of a row: at block b from off on they hold these values. -/
def Mem (h : Array Obj) (own : Bool) (b off room : Nat) (vs : List Value) : Prop :=
  ∃ cs ety fr, h[b]? = some (.cells cs ety fr) ∧ (own = true → off + room ≤ cs.size ∧ fr = (0, 0)) ∧ ∀ j u, vs[j]? = some u → cs[off + j]? = some u

def OneCell : Value → Prop
  | .agg _ => False
  | .tuple _ => False
  | _ => True

mutual
def Holds (Z : Nat → Prop) (h : Array Obj) : TA → Prop
  | .v x => OneCell x
  | .agg cs => HoldsL Z h cs ∧ ∀ c ∈ cs, c.isCell = true
  | .nl o _ A => o = true → A = none
  | .sl o s b off cap es => Mem h o b off (cap * s) (vals (es.flatMap cells)) ∧ es.length ≤ cap ∧ (o = false → Z b ∧ ∀ k, cntL k es = 0) ∧ HoldsL Z h es ∧ (∀ e ∈ es, e.cells.length = s)
  | .dead x => OneCell x
def HoldsL (Z : Nat → Prop) (h : Array Obj) : List TA → Prop
  | [] => True
  | t :: ts => t.Holds Z h ∧ HoldsL Z h ts
end
theorem holdsL_iff {Z : Nat → Prop} {h : Array Obj} {l : List TA} : HoldsL Z h l ↔ ∀ t ∈ l, t.Holds Z h := by
  induction l with
  | nil => simp [HoldsL]
  | cons t ts ih => simp [HoldsL, ih]
theorem Mem.frame {h h' : Array Obj} {o : Bool} {b off room : Nat} {vs : List Value} (hm : Mem h o b off room vs) (he : h'[b]? = h[b]?) : Mem h' o b off room vs := by
  obtain ⟨cs, ety, fr, h1, h2, h3⟩ := hm
  exact ⟨cs, ety, fr, he.trans h1, h2, h3⟩
theorem Mem.lt {h : Array Obj} {o : Bool} {b off room : Nat} {vs : List Value} (hm : Mem h o b off room vs) : b < h.size := by
  obtain ⟨cs, ety, fr, h1, _⟩ := hm
  exact (Array.getElem?_eq_some_iff.1 h1).1
mutual
theorem Holds.frame {Z Z' : Nat → Prop} {h h' : Array Obj} : ∀ (t : TA), t.Holds Z h → (∀ b, Z b → Z' b) → (∀ b, (0 < t.cnt b ∨ Z b) → h'[b]? = h[b]?) → t.Holds Z' h'
  | .v x, H, hz, hf => by simpa [Holds] using H
  | .agg cs, H, hz, hf => by
    simp only [Holds] at H ⊢
    exact ⟨HoldsL.frame cs H.1 hz (by simpa [cnt] using hf), H.2⟩
  | .nl _ _ _, H, hz, hf => by simpa [Holds] using H
  | .dead x, H, hz, hf => by simpa [Holds] using H
  | .sl o s b off cap es, H, hz, hf => by
    simp only [Holds] at H ⊢
    obtain ⟨h1, h2, h3, h4, h5⟩ := H
    refine ⟨h1.frame (hf b ?_), h2, fun ho => ⟨hz _ (h3 ho).1, (h3 ho).2⟩, HoldsL.frame es h4 hz (fun k hk => hf k ?_), h5⟩
    · cases o with
      | true => left; simp [cnt]; omega
      | false => right; exact (h3 rfl).1
    · rcases hk with hk | hk
      · left; simp only [cnt]; omega
      · right; exact hk
theorem HoldsL.frame {Z Z' : Nat → Prop} {h h' : Array Obj} : ∀ (l : List TA), HoldsL Z h l → (∀ b, Z b → Z' b) → (∀ b, (0 < cntL b l ∨ Z b) → h'[b]? = h[b]?) → HoldsL Z' h' l
  | [], H, hz, hf => by simp [HoldsL]
  | t :: ts, H, hz, hf => by
    simp only [HoldsL] at H ⊢
    refine ⟨Holds.frame t H.1 hz (fun k hk => hf k ?_), HoldsL.frame ts H.2 hz (fun k hk => hf k ?_)⟩
    · rcases hk with hk | hk
      · left; simp only [cntL]; omega
      · right; exact hk
    · rcases hk with hk | hk
      · left; simp only [cntL]; omega
      · right; exact hk
end
mutual
theorem Holds.lt {Z : Nat → Prop} {h : Array Obj} {k : Nat} : ∀ (t : TA), t.Holds Z h → 0 < t.cnt k → k < h.size
  | .v x, H, hk => by simp [cnt] at hk
  | .agg cs, H, hk => by simp only [Holds, cnt] at H hk; exact HoldsL.lt cs H.1 hk
  | .nl _ _ _, H, hk => by simp [cnt] at hk
  | .dead x, H, hk => by simp [cnt] at hk
  | .sl o s b off cap es, H, hk => by
    simp only [Holds] at H
    simp only [cnt] at hk
    by_cases hb : o = true ∧ b = k
    · rw [← hb.2]; exact H.1.lt
    · rw [if_neg hb] at hk
      exact HoldsL.lt es H.2.2.2.1 (by omega)
theorem HoldsL.lt {Z : Nat → Prop} {h : Array Obj} {k : Nat} : ∀ (l : List TA), HoldsL Z h l → 0 < cntL k l → k < h.size
  | [], H, hk => by simp [cntL] at hk
  | t :: ts, H, hk => by
    simp only [HoldsL, cntL] at H hk
    by_cases h0 : 0 < t.cnt k
    · exact Holds.lt t H.1 h0
    · exact HoldsL.lt ts H.2 (by omega)
end
/-! Read only: the same addresses -/
theorem isCell_ro (t : TA) : t.ro.isCell = t.isCell := by cases t <;> simp [ro, isCell]
theorem val1_ro (t : TA) : t.ro.val1 = t.val1 := by cases t <;> simp [ro, val1, roL_map]
theorem cells_ro (t : TA) : t.ro.cells = t.cells.map ro := by cases t <;> simp [ro, cells, roL_map]
theorem vals_ro (l : List TA) : vals (l.map ro) = vals l := by
  simp only [vals, List.map_map]
  exact List.map_congr_left fun t _ => val1_ro t
theorem val_ro (t : TA) : t.ro.val = t.val := by
  cases t <;> simp [ro, val, val1, roL_map, vals_ro]
theorem flat_ro (l : List TA) : (l.map ro).flatMap cells = (l.flatMap cells).map ro := by
  induction l with
  | nil => rfl
  | cons t ts ih => simp [cells_ro, ih]
mutual
theorem cnt_ro (k : Nat) : ∀ t : TA, t.ro.cnt k = 0
  | .v _ => by simp [ro, cnt]
  | .agg cs => by simp [ro, cnt, cntL_ro]
  | .nl _ _ _ => by simp [ro, cnt]
  | .sl .. => by simp [ro, cnt, cntL_ro]
  | .dead _ => by simp [ro, cnt]
theorem cntL_ro (k : Nat) : ∀ l : List TA, cntL k (roL l) = 0
  | [] => by simp [roL, cntL]
  | t :: ts => by simp [roL, cntL, cnt_ro, cntL_ro]
end
mutual
theorem er_ro : ∀ t : TA, t.ro.er = t.er.ro
  | .v _ => by simp [ro, er, T.ro]
  | .agg cs => by simp [ro, er, T.ro, erL_ro]
  | .nl _ _ _ => by simp [ro, er, T.ro, T.roL]
  | .sl .. => by simp [ro, er, T.ro, erL_ro]
  | .dead _ => by simp [ro, er, T.ro]
theorem erL_ro : ∀ l : List TA, erL (roL l) = T.roL (erL l)
  | [] => by simp [roL, erL, T.roL]
  | t :: ts => by simp [roL, erL, T.roL, er_ro, erL_ro]
end
mutual
theorem Holds.ro {Z Z' : Nat → Prop} {h : Array Obj} : ∀ (t : TA), t.Holds Z h → (∀ b, Z b → Z' b) → (∀ b, 0 < t.cnt b → Z' b) → t.ro.Holds Z' h
  | .v x, H, hz, hf => by simpa [Holds, TA.ro] using H
  | .agg cs, H, hz, hf => by
    simp only [Holds, TA.ro] at H ⊢
    refine ⟨HoldsL.ro cs H.1 hz (by simpa [cnt] using hf), fun c hc => ?_⟩
    rw [roL_map] at hc
    obtain ⟨d, hd, rfl⟩ := List.mem_map.1 hc
    rw [isCell_ro]; exact H.2 d hd
  | .nl _ _ _, H, hz, hf => by simp [Holds, TA.ro]
  | .dead x, H, hz, hf => by simpa [Holds, TA.ro] using H
  | .sl o s b off cap es, H, hz, hf => by
    simp only [Holds, TA.ro] at H ⊢
    obtain ⟨h1, h2, h3, h4, h5⟩ := H
    refine ⟨?_, by rw [roL_map, List.length_map]; exact h2, fun _ => ⟨?_, fun k => cntL_ro k es⟩, HoldsL.ro es h4 hz (fun k hk => hf k (by simp only [cnt]; omega)), fun e he => ?_⟩
    · rw [roL_map, flat_ro, vals_ro]
      obtain ⟨cs, ety, fr, g1, g2, g3⟩ := h1
      exact ⟨cs, ety, fr, g1, (fun hh => nomatch hh), g3⟩
    · cases o with
      | true => exact hf b (by simp [cnt]; omega)
      | false => exact hz _ (h3 rfl).1
    · rw [roL_map] at he
      obtain ⟨d, hd, rfl⟩ := List.mem_map.1 he
      rw [cells_ro, List.length_map]; exact h5 d hd
theorem HoldsL.ro {Z Z' : Nat → Prop} {h : Array Obj} : ∀ (l : List TA), HoldsL Z h l → (∀ b, Z b → Z' b) → (∀ b, 0 < cntL b l → Z' b) → HoldsL Z' h (roL l)
  | [], H, hz, hf => by simp [HoldsL, TA.roL]
  | t :: ts, H, hz, hf => by
    simp only [HoldsL, TA.roL] at H ⊢
    exact ⟨Holds.ro t H.1 hz (fun k hk => hf k (by simp only [cntL]; omega)), HoldsL.ro ts H.2 hz (fun k hk => hf k (by simp only [cntL]; omega))⟩
end
mutual
theorem cnt_of_noOwn (k : Nat) : ∀ t : TA, t.er.hasOwn = false → t.cnt k = 0
  | .v _, _ => by simp [cnt]
  | .agg cs, h => by simp only [er, T.hasOwn] at h; simp only [cnt]; exact cntL_of_noOwn k cs h
  | .nl _ _ _, _ => by simp [cnt]
  | .sl o s b off cap es, h => by
    simp only [er, T.hasOwn, Bool.or_eq_false_iff] at h
    simp [cnt, h.1, cntL_of_noOwn k es h.2]
  | .dead _, _ => by simp [cnt]
theorem cntL_of_noOwn (k : Nat) : ∀ l : List TA, T.hasOwnL (erL l) = false → cntL k l = 0
  | [], _ => by simp [cntL]
  | t :: ts, h => by
    simp only [erL, T.hasOwnL, Bool.or_eq_false_iff] at h
    simp [cntL, cnt_of_noOwn k t h.1, cntL_of_noOwn k ts h.2]
end
theorem er_cells (t : TA) : t.er.cells = erL t.cells := by cases t <;> simp [er, T.cells, cells, erL]
theorem er_isCell (t : TA) : t.er.isCell = t.isCell := by cases t <;> simp [er, T.isCell, isCell]
end TA
end Go.OM
