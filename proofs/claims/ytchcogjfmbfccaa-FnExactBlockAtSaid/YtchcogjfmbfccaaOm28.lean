import Derived.Test.YtchcogjfmbfccaaOm27
import Derived.Deep.Slices
import Derived.ChangeArms
set_option linter.unusedVariables false
set_option linter.unusedSimpArgs false
namespace Go.OM
open Go.ChangeShapes Go.WideShapes

/-! ### Arguments, out of their readings -/
inductive Sh where
  | int (k : IntKind)
  | bool
  | str
  | sl (sz : Nat) (one : Bool) (e : Sh)
  | st (fs : List Sh)
mutual
def Sh.ok : Sh → List T → Prop
  | .int k, l => ∃ n, l = [.v (.int k n)] ∧ (Lit.int k n).wf = true
  | .bool, l => ∃ b, l = [.v (.bool b)]
  | .str, l => ∃ s : ByteArray, l = [.v (.string s)] ∧ s.size ≤ maxLen
  | .sl sz one e, l => ∃ es : List T, l = [.sl false sz es] ∧ es.length ≤ maxLen ∧ ∀ x ∈ es, (one = true → Sh.ok e [x]) ∧ (one = false → ∃ cs, x = .agg cs ∧ Sh.ok e cs)
  | .st fs, l => Sh.okL fs l
def Sh.okL : List Sh → List T → Prop
  | [], l => l = []
  | f :: fs, l => ∃ a b, l = a ++ b ∧ Sh.ok f a ∧ Sh.okL fs b
end
mutual
def Sh.fits (E : Env) : Sh → TypeId → Prop
  | .int k, t => E.P.underlying t = some (.int k)
  | .bool, t => E.P.underlying t = some .bool
  | .str, t => E.P.underlying t = some .string
  | .sl sz one e, t => ∃ et ti, E.P.underlying t = some (.slice et) ∧ E.ty et = some ti ∧ ti.size = sz ∧ 0 < sz ∧ ti.kind.isStruct = !one ∧ Sh.fits E e et
  | .st fs, t => ∃ (fields : Array Field) (ti : TI), E.P.underlying t = some (.struct fields) ∧ E.ty t = some ti ∧ Sh.fitsL E fs fields.toList 0 ti.size
def Sh.fitsL (E : Env) : List Sh → List Field → Nat → Nat → Prop
  | [], [], o, n => o = n
  | s :: ss, f :: fs, o, n => f.offset = o ∧ ∃ ti, E.ty f.type = some ti ∧ Sh.fits E s f.type ∧ Sh.fitsL E ss fs (o + ti.size) n
  | _, _, _, _ => False
end
variable {E : Env} {w : World} {H : Type} {enc : TypeId × Value → H}
theorem cellsOf_ty {t : TypeId} {ti : TI} (h : E.ty t = some ti) : E.P.cellsOf t = ti.size := by
  obtain ⟨i, h1, h2, h3, h4⟩ := (E.ok t ti h).info
  simp [Program.cellsOf, h1, h3]
/-- Cells that are only read, and what they tell. -/
def RoCells (w : World) (s : Sh) (cs : List Value) : Prop := ∃ l : List TA, TA.vals l = cs ∧ TA.HoldsL (fun k => k < w.heap.size) w.heap l ∧ (∀ c ∈ l, c.isCell = true) ∧ (∀ k, TA.cntL k l = 0) ∧ s.ok (TA.erL l)
mutual
theorem ro_of_trod : ∀ (s : Sh) (t : TypeId) (fuel : Nat) (cs : List Value) (x : DataW H × List MemPlace), s.fits E t → DataW.trod enc E.P w 0 (fun _ => true) true fuel t cs = some x → RoCells w s cs
  | .int k, t, fuel, cs, x, hf, h => by
    simp only [Sh.fits] at hf
    obtain ⟨n, rfl, _, hw⟩ := DataW.trod_int hf h
    exact ⟨[.v (.int k n)], rfl, by simp [TA.HoldsL, TA.Holds, TA.OneCell], by simp [TA.isCell], fun k => by simp [TA.cntL, TA.cnt], by simp only [Sh.ok]; exact ⟨n, rfl, hw⟩⟩
  | .bool, t, fuel, cs, x, hf, h => by
    simp only [Sh.fits] at hf
    obtain ⟨b, rfl, _⟩ := DataW.trod_bool hf h
    exact ⟨[.v (.bool b)], rfl, by simp [TA.HoldsL, TA.Holds, TA.OneCell], by simp [TA.isCell], fun k => by simp [TA.cntL, TA.cnt], by simp only [Sh.ok]; exact ⟨b, rfl⟩⟩
  | .str, t, fuel, cs, x, hf, h => by
    simp only [Sh.fits] at hf
    obtain ⟨b, rfl, _, hs⟩ := DataW.trod_string hf h
    exact ⟨[.v (.string b)], rfl, by simp [TA.HoldsL, TA.Holds, TA.OneCell], by simp [TA.isCell], fun k => by simp [TA.cntL, TA.cnt], by simp only [Sh.ok]; exact ⟨b, rfl, hs⟩⟩
  | .sl sz one e, t, fuel, cs, x, hf, h => by
    simp only [Sh.fits] at hf
    obtain ⟨et, ti, hu, hti, rfl, hpos, hone, hfe⟩ := hf
    have hce := cellsOf_ty hti
    rcases Go.Deep.open_slice hu h with ⟨rfl, _⟩ | ⟨a, len, cap, m, n, D, Pl, rfl, _, hle, hmax, hm, _, hel⟩
    · exact ⟨[.nl false ti.size none], rfl, by simp [TA.HoldsL, TA.Holds], by simp [TA.isCell], fun k => by simp [TA.cntL, TA.cnt], by simp only [Sh.ok]; exact ⟨[], rfl, by simp, by simp⟩⟩
    · simp only [if_true] at hm
      subst hm
      rw [hce] at hel
      have hall : ∀ i, i < m → ∃ li : List TA, (∃ cs', w.cells? 0 (a.add (i * ti.size)) ti.size = some cs' ∧ TA.vals li = cs') ∧ TA.HoldsL (fun k => k < w.heap.size) w.heap li ∧ (∀ c ∈ li, c.isCell = true) ∧ (∀ k, TA.cntL k li = 0) ∧ e.ok (TA.erL li) := by
        intro i hi
        obtain ⟨cs', h1, h2⟩ := hel i hi
        obtain ⟨li, q1, q2, q3, q4, q5⟩ := ro_of_trod e et n cs' _ hfe h2
        exact ⟨li, ⟨cs', h1, q1⟩, q2, q3, q4, q5⟩
      obtain ⟨L, hL⟩ := Go.Deep.choose_lt hall
      by_cases hm0 : m = 0
      · subst hm0
        have hl0 : len = 0 := by omega
        subst hl0
        exact ⟨[.nl false ti.size (some a)], rfl, by simp [TA.HoldsL, TA.Holds], by simp [TA.isCell], fun k => by simp [TA.cntL, TA.cnt], by simp only [Sh.ok]; exact ⟨[], rfl, by simp, by simp⟩⟩
      · -- the block
        have hlen : ∀ i, i < m → (L i).length = ti.size := by
          intro i hi
          obtain ⟨⟨cs', h1, h2⟩, _⟩ := hL i hi
          obtain ⟨_, h3, _⟩ := World.cells?_some h1
          rw [← TA.vals_length, h2, h3]
        have hcell : ∀ i, i < m → ∀ r, r < ti.size → w.cell? (a.add (i * ti.size + r)) = (TA.vals (L i))[r]? := by
          intro i hi r hr
          obtain ⟨⟨cs', h1, h2⟩, _⟩ := hL i hi
          obtain ⟨_, _, h4⟩ := World.cells?_some h1
          rw [h2, ← Go.Deep.add_add]
          exact h4 r hr
        have h00 := hcell 0 (by omega) 0 hpos
        rw [Nat.zero_mul, Nat.add_zero] at h00
        have hlt0 : 0 < (TA.vals (L 0)).length := by rw [TA.vals_length, hlen 0 (by omega)]; exact hpos
        rw [List.getElem?_eq_getElem hlt0] at h00
        obtain ⟨b, off, sp⟩ := a
        have ha0 : (⟨b, off, sp⟩ : Addr).add 0 = ⟨b, off, sp⟩ := rfl
        rw [ha0] at h00
        unfold World.cell? at h00
        simp only at h00
        split at h00
        case h_2 => cases h00
        rename_i c ety fr hb
        split at h00
        · cases h00
        rename_i hsp
        have hsp' : sp = none := by
          cases sp with
          | none => rfl
          | some z => simp at hsp
        subst hsp'
        let El : Nat → TA := fun i => if one = true then (L i).headD (.dead undef) else .agg (L i)
        have hEl : ∀ i, i < m → (El i).cells = L i ∧ (El i).Holds (fun k => k < w.heap.size) w.heap ∧ ∀ k, (El i).cnt k = 0 := by
          intro i hi
          obtain ⟨_, q2, q3, q4, q5⟩ := hL i hi
          by_cases ho : one = true
          · have h1 : (L i).length = 1 := by
              rw [hlen i hi]
              have ok := E.ok et ti hti
              exact ok.one (by rw [hone, ho]; rfl)
            obtain ⟨y, hy⟩ := List.length_eq_one_iff.1 h1
            have hyc := q3 y (by rw [hy]; simp)
            simp only [El, if_pos ho, hy, List.headD_cons]
            rw [hy] at q2
            simp only [TA.HoldsL] at q2
            refine ⟨by cases y <;> first | (simp [TA.isCell] at hyc; done) | rfl, q2.1, fun k => ?_⟩
            have := q4 k
            rw [hy] at this
            simpa [TA.cntL] using this
          · simp only [El, if_neg ho]
            exact ⟨rfl, by simp only [TA.Holds]; exact ⟨q2, q3⟩, fun k => by simp only [TA.cnt]; exact q4 k⟩
        have hcs : ∀ x ∈ (List.range len).map El, x.cells.length = ti.size := by
          intro x hx
          obtain ⟨i, hi, rfl⟩ := List.mem_map.1 hx
          have hi' : i < m := by have := List.mem_range.1 hi; omega
          rw [(hEl i hi').1, hlen i hi']
        refine ⟨[.sl false ti.size b off m ((List.range len).map El)], by simp [TA.vals, TA.val1], ?_, by simp [TA.isCell], fun k => ?_, ?_⟩
        · simp only [TA.HoldsL, TA.Holds]
          refine ⟨⟨⟨c, ety, fr, hb, (fun h => nomatch h), fun j u hj => ?_⟩, by simp; exact hle, fun _ => ⟨(Array.getElem?_eq_some_iff.1 hb).1, fun k => ?_⟩, ?_, hcs⟩, trivial⟩
          · have hjl : j < len * ti.size := by
              have := (List.getElem?_eq_some_iff.1 hj).1
              rw [TA.vals_length, flat_length hcs] at this
              simpa using this
            have hi : j / ti.size < len := Nat.div_lt_of_lt_mul (by rw [Nat.mul_comm]; exact hjl)
            have hr : j % ti.size < ti.size := Nat.mod_lt _ hpos
            have hsplit : j / ti.size * ti.size + j % ti.size = j := by rw [Nat.mul_comm]; exact Nat.div_add_mod j ti.size
            have h5 := hcell (j / ti.size) (by omega) (j % ti.size) hr
            rw [hsplit] at h5
            rw [TA.vals_get, ← hsplit, flat_get hcs _ _ hr] at hj
            have hget : ((List.range len).map El)[j / ti.size]? = some (El (j / ti.size)) := by simp [hi]
            rw [hget] at hj
            simp only [Option.bind_some, (hEl (j / ti.size) (by omega)).1] at hj
            rw [TA.vals_get, hj] at h5
            rw [Addr_add_lit] at h5
            unfold World.cell? at h5
            simp only [hb] at h5
            simpa using h5
          · rw [show (List.range len).map El = (List.range len).map El from rfl]
            have key : ∀ l : List TA, (∀ x ∈ l, x.cnt k = 0) → TA.cntL k l = 0 := by
              intro l
              induction l with
              | nil => intro _; rfl
              | cons y l ih => intro h; simp only [TA.cntL, h y (by simp), ih (fun x hx => h x (by simp [hx]))]
            refine key _ fun x hx => ?_
            obtain ⟨i, hi, rfl⟩ := List.mem_map.1 hx
            exact (hEl i (by have := List.mem_range.1 hi; omega)).2.2 k
          · refine TA.holdsL_iff.2 fun x hx => ?_
            obtain ⟨i, hi, rfl⟩ := List.mem_map.1 hx
            exact (hEl i (by have := List.mem_range.1 hi; omega)).2.1
        · have key : ∀ l : List TA, (∀ x ∈ l, x.cnt k = 0) → TA.cntL k l = 0 := by
              intro l
              induction l with
              | nil => intro _; rfl
              | cons y l ih => intro h; simp only [TA.cntL, h y (by simp), ih (fun x hx => h x (by simp [hx]))]
          simp only [TA.cntL, TA.cnt, Bool.false_eq_true, false_and, if_false, Nat.zero_add, Nat.add_zero]
          refine key _ fun x hx => ?_
          obtain ⟨i, hi, rfl⟩ := List.mem_map.1 hx
          exact (hEl i (by have := List.mem_range.1 hi; omega)).2.2 k
        · simp only [Sh.ok]
          refine ⟨TA.erL ((List.range len).map El), rfl, by rw [TA.er_len]; simp; omega, fun x hx => ?_⟩
          rw [TA.erL_map] at hx
          obtain ⟨y, hy, rfl⟩ := List.mem_map.1 hx
          obtain ⟨i, hi, rfl⟩ := List.mem_map.1 hy
          have hi' : i < m := by have := List.mem_range.1 hi; omega
          obtain ⟨_, q2, q3, q4, q5⟩ := hL i hi'
          have hc := (hEl i hi').1
          refine ⟨fun ho => ?_, fun ho => ?_⟩
          · have h1 : (L i).length = 1 := by
              rw [hlen i hi']
              exact (E.ok et ti hti).one (by rw [hone, ho]; rfl)
            obtain ⟨y, hy⟩ := List.length_eq_one_iff.1 h1
            rw [hy] at q5
            simp only [El, if_pos ho, hy, List.headD_cons]
            exact q5
          · exact ⟨TA.erL (L i), by simp [El, ho, TA.er], q5⟩
  | .st fs, t, fuel, cs, x, hf, h => by
    simp only [Sh.fits] at hf
    obtain ⟨fields, ti, hu, hti, hfl⟩ := hf
    obtain ⟨xs, n, rfl, _, hlen, hxl, hfs⟩ := DataW.trod_struct hu h
    rw [cellsOf_ty hti] at hlen
    have := ro_of_trodL fs fields.toList 0 ti.size n cs hfl hlen (fun f hf => by
      obtain ⟨i, hi, hfi⟩ := List.mem_iff_getElem.1 hf
      have h5 := hfs i f (by rw [← Array.getElem?_toList, List.getElem?_eq_getElem hi, hfi])
      have : i < xs.length := by rw [hxl]; simpa using hi
      rw [List.getElem?_eq_getElem this] at h5
      exact ⟨_, h5⟩)
    obtain ⟨l, q1, q2, q3, q4, q5⟩ := this
    exact ⟨l, by simpa using q1, q2, q3, q4, by simp only [Sh.ok]; exact q5⟩
theorem ro_of_trodL : ∀ (ss : List Sh) (fs : List Field) (o n fuel : Nat) (cs : List Value), Sh.fitsL E ss fs o n → cs.length = n → (∀ f ∈ fs, ∃ x, DataW.trod enc E.P w 0 (fun _ => true) true fuel f.type ((cs.drop f.offset).take (E.P.cellsOf f.type)) = some x) →
    ∃ l : List TA, TA.vals l = cs.drop o ∧ TA.HoldsL (fun k => k < w.heap.size) w.heap l ∧ (∀ c ∈ l, c.isCell = true) ∧ (∀ k, TA.cntL k l = 0) ∧ Sh.okL ss (TA.erL l)
  | [], [], o, n, fuel, cs, hf, hl, h => by
    simp only [Sh.fitsL] at hf
    exact ⟨[], by simp [TA.vals]; omega, trivial, by simp, fun k => rfl, by simp only [Sh.okL]; rfl⟩
  | [], _ :: _, o, n, fuel, cs, hf, hl, h => by simp [Sh.fitsL] at hf
  | _ :: _, [], o, n, fuel, cs, hf, hl, h => by simp [Sh.fitsL] at hf
  | s :: ss, f :: fs, o, n, fuel, cs, hf, hl, h => by
    simp only [Sh.fitsL] at hf
    obtain ⟨rfl, ti, hti, hfs, hrest⟩ := hf
    obtain ⟨x, hx⟩ := h f (by simp)
    rw [cellsOf_ty hti] at hx
    obtain ⟨l1, p1, p2, p3, p4, p5⟩ := ro_of_trod s f.type fuel _ x hfs hx
    obtain ⟨l2, q1, q2, q3, q4, q5⟩ := ro_of_trodL ss fs (f.offset + ti.size) n fuel cs hrest hl (fun g hg => h g (by simp [hg]))
    refine ⟨l1 ++ l2, ?_, holdsL_append.2 ⟨p2, q2⟩, ?_, fun k => by rw [TA.cntL_append, p4, q4], ?_⟩
    · rw [TA.vals_append, p1, q1, ← List.drop_drop, List.take_append_drop]
    · intro c hc
      rcases List.mem_append.1 hc with h | h
      · exact p3 c h
      · exact q3 c h
    · simp only [Sh.okL]
      exact ⟨TA.erL l1, TA.erL l2, by simp [TA.erL_map], p5, q5⟩
end
end Go.OM
