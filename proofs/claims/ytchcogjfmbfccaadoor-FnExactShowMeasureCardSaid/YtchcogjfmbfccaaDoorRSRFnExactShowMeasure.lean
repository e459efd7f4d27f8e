/- The law FnExactShowMeasure of this program: for every input that can be read the call returns true, and each argument reads behind it as it read before. Condition: three tables of the library (internal/strconv.uint64pow10, math/bits.deBruijn32tab, math/bits.deBruijn64tab) hold what the program text lays into them; the card ties them to that text. -/
import Derived.Test.YtchcogjfmbfccaaDoorTA
import Derived.ChangeVars
import Derived.ChangeSame
import Derived.JoinedOf
import Derived.RowKit
import Derived.LaidLaws
import Derived.LaidHandle
import Derived.Test.YtchcogjfmbfccaaDoorCards
import Derived.Test.YtchcogjfmbfccaaDoorTie
import Derived.SevenTiedAt
import Derived.Test.YtchcogjfmbfccaaDoorRows
import Derived.ProofKit
set_option linter.unusedVariables false
set_option linter.unusedSimpArgs false
namespace Go.Proofs.YtchcogjfmbfccaaDoor
open Go Go.ChangeShapes Go.WideShapes Go.ChangeAt Go.RowKit Go.OM Go.Proofs.T
theorem dec_list {α : Type} (f : α → T) (ok : α → Prop) : ∀ es : List T, (∀ y ∈ es, ∃ a, y = f a ∧ ok a) → ∃ l : List α, es = l.map f ∧ ∀ a ∈ l, ok a
  | [], _ => ⟨[], rfl, by simp⟩
  | y :: es, h => by
    obtain ⟨a, rfl, ha⟩ := h y (by simp)
    obtain ⟨l, rfl, hl⟩ := dec_list f ok es (fun z hz => h z (by simp [hz]))
    exact ⟨a :: l, rfl, by intro b hb; rcases List.mem_cons.1 hb with rfl | hb; exact ha; exact hl b hb⟩
theorem Tryd.own : ownKnob Tryd.prog.godebug = none := by kernel_rfl
theorem Tryd.laidOut : laidOutB Tryd.prog = true := by kernel_rfl
def shInt : Sh := .int .i64
theorem dec_shInt {l : List T} (h : Sh.ok shInt l) : ∃ x : Int, l = [vi x] ∧ x ≤ 9223372036854775807 := by
  simp only [shInt, Sh.ok] at h
  obtain ⟨n, rfl, hw⟩ := h
  refine ⟨n, rfl, ?_⟩
  simp only [Lit.wf, Bool.and_eq_true, decide_eq_true_eq] at hw
  exact hw.2
def shMeasure : Sh := .st [shInt, shInt, shInt, shInt, shInt, shInt, shInt, shInt, shInt]
theorem dec_shMeasure {l : List T} (h : Sh.ok shMeasure l) : ∃ x : GMeasure, l = [vi x.Fns, vi x.Nodes, vi x.Steps, vi x.Values, vi x.Blocks, vi x.Lets, vi x.News, vi x.Lends, vi x.Deep] ∧ GMeasure.rng x := by
  simp only [shMeasure, Sh.ok, Sh.okL] at h
  obtain ⟨a0, r0, rfl, h0, a1, r1, rfl, h1, a2, r2, rfl, h2, a3, r3, rfl, h3, a4, r4, rfl, h4, a5, r5, rfl, h5, a6, r6, rfl, h6, a7, r7, rfl, h7, a8, r8, rfl, h8, rfl⟩ := h
  obtain ⟨x0, rfl, b0⟩ := dec_shInt h0
  obtain ⟨x1, rfl, b1⟩ := dec_shInt h1
  obtain ⟨x2, rfl, b2⟩ := dec_shInt h2
  obtain ⟨x3, rfl, b3⟩ := dec_shInt h3
  obtain ⟨x4, rfl, b4⟩ := dec_shInt h4
  obtain ⟨x5, rfl, b5⟩ := dec_shInt h5
  obtain ⟨x6, rfl, b6⟩ := dec_shInt h6
  obtain ⟨x7, rfl, b7⟩ := dec_shInt h7
  obtain ⟨x8, rfl, b8⟩ := dec_shInt h8
  exact ⟨⟨x0, x1, x2, x3, x4, x5, x6, x7, x8⟩, rfl, b0, b1, b2, b3, b4, b5, b6, b7, b8⟩
theorem fit3 : Sh.fits E shInt 3 := Tryd.underlying3
theorem fit23 : Sh.fits E shMeasure 23 := ⟨_, _, Tryd.underlying23, E_ty23, ⟨rfl, _, E_ty3, fit3, ⟨rfl, _, E_ty3, fit3, ⟨rfl, _, E_ty3, fit3, ⟨rfl, _, E_ty3, fit3, ⟨rfl, _, E_ty3, fit3, ⟨rfl, _, E_ty3, fit3, ⟨rfl, _, E_ty3, fit3, ⟨rfl, _, E_ty3, fit3, ⟨rfl, _, E_ty3, fit3, rfl⟩⟩⟩⟩⟩⟩⟩⟩⟩⟩
def shs : List (Bool × Sh) := [(false, shMeasure)]
theorem fit : argFit E shs [23] := ⟨⟨fit23, _, E_ty23, rfl⟩, trivial⟩
theorem ok (xs : List T) (h : argOk shs xs) : Ok E 3 (xs.map Arg.val) [.v (.bool true)] [] := by
  match xs, h with
  | [x0], h =>
    simp only [argOk, shs] at h
    obtain ⟨⟨p0, q0⟩, _⟩ := h
    obtain ⟨cs0, rfl, c0⟩ := q0 trivial; obtain ⟨v0, rfl, w0⟩ := dec_shMeasure c0
    exact laws_FnExactShowMeasure_ok v0 (law_ShowMeasure v0 w0)
  | [], h => simp [argOk, shs] at h
  | _ :: _ :: _, h => simp [argOk, shs] at h
/-- What a table holds. -/
def litsOf : DataW Unit → Array Value
  | .agg l => (l.map fun | .lit (.int k n) => Value.int k n | _ => undef).toArray
  | _ => #[]
/-- A world that meets the condition: the settled one, the tables laid. -/
noncomputable def laidWorld (os : Os) : World :=
  let w0 := World.holding Tryd.prog os ⟨#[], #[], []⟩
  { w0 with heap := ((w0.heap.modify 0 fun
      | .cells _ t frozen => .cells (litsOf Rows.laid_internal_strconv_uint64pow10) t frozen
      | o => o).modify 1 fun
      | .cells _ t frozen => .cells (litsOf Rows.laid_math_bits_deBruijn32tab) t frozen
      | o => o).modify 2 fun
      | .cells _ t frozen => .cells (litsOf Rows.laid_math_bits_deBruijn64tab) t frozen
      | o => o }
theorem laidWorld_met (os : Os) (args : Array Value) : laidMetH Tryd.prog Rows.fnExactShowMeasureRow.laid ((laidWorld os).forCall (fun _ _ => 0) ⟨#[], args, []⟩).memory :=
  show laidMet Tryd.prog Rows.fnExactShowMeasureRow.laid ((laidWorld os).forCall (fun _ _ => 0) ⟨#[], args, []⟩).memory from laidMet_of_run' 8 (by kernel_rfl) (by kernel_rfl)
theorem gl_of_laid {W : World} (h : laidMetH Tryd.prog Rows.fnExactShowMeasureRow.laid W) : E.Gl W := by
  have h1 := pow10_of_laid h
  unfold Lib.TabIs World.var? at h1
  rw [gT] at h1
  simp only [Option.bind_some] at h1
  intro g hg
  obtain rfl := List.mem_singleton.1 hg
  split at h1
  · rename_i cs t fr hc
    exact ⟨cs, t, fr, hc, Option.some.inj h1⟩
  · cases h1
set_option maxRecDepth 100000 in
theorem lifted (os : Os) (started : os.Started) (H : Type) (enc : TypeId × Value → H) :
    ReturnsInHanded {} Tryd.checked os 3 .any (fun w args => (Rows.fnExactShowMeasureSpec.pre enc Tryd.prog Tryd.f3 [] false w args ∧ laidMetH Tryd.prog Rows.fnExactShowMeasureRow.laid w) ∧ sizedMet enc Tryd.prog Tryd.f3 (OpenSpec.ofChange Rows.fnExactShowMeasureSpec) false w args) (Rows.fnExactShowMeasureSpec.post enc Tryd.prog Tryd.f3 false true false false) := by
  refine returnsInHanded_of_change_and (C := Tryd.checked) (X := fun w _ => laidMetH Tryd.prog Rows.fnExactShowMeasureRow.laid w) (fun _ _ _ hh h => h.of_heap hh) Tryd.own started (by kernel_rfl) Tryd.func3
    (ChangeSpec.witness_at (enc := enc) (C := Tryd.checked) (os := os) (X := fun w _ => laidMetH Tryd.prog Rows.fnExactShowMeasureRow.laid w) false (laidWorld os) #[.agg #[.int .i64 0, .int .i64 0, .int .i64 0, .int .i64 0, .int .i64 0, .int .i64 0, .int .i64 0, .int .i64 0, .int .i64 0]] 12 rfl (by kernel_rfl) (by kernel_rfl) (by kernel_rfl) (by kernel_rfl) (by kernel_rfl) (laidWorld_met os _)) ?_
  intro W base args ds gs before hval0 hW _ _ hL _
  have hW' := hW
  obtain ⟨p, q, hA0, hV, rfl, hfz, hnd⟩ := hW
  have hpar : Tryd.f3.params.toList = [23] := rfl
  refine (law_calls (E := E) (f := 3) (gl_of_laid hL) shs fit ok (ts := [23]) (fun j t v h1 h2 => hval0 j t v (by rw [← Array.getElem?_toList, hpar]; exact h1) h2) (by rw [← hpar]; exact hA0)).mono fun e W' ⟨he, hB⟩ => ?_
  refine ⟨_, he, post_law Tryd.laidOut (fun t ht => ?_) rfl hW' hB (by rfl) Tryd.underlying4 ?_⟩
  · rw [hpar] at ht
    rcases List.mem_cons.1 ht with rfl | ht
    · exact ⟨by kernel_rfl, of_decide_eq_true (by kernel_rfl)⟩
    · cases ht
  · rw [hpar] at hA0
    obtain ⟨v0, d0, _, rfl, _⟩ := trodAll_one hA0
    rfl
theorem fnExactShowMeasure_holds : Rows.FnExactShowMeasureSaid :=
  OpenClaim.holds_of_wide 3 Tryd.f3 rfl rfl rfl rfl rfl rfl rfl ⟨rfl, rfl, rfl, rfl, rfl⟩ rfl rfl rfl rfl rfl (by kernel_rfl) Tryd.func3 (by kernel_rfl)
    (of_decide_eq_true (by kernel_rfl)) (by unfold Func.isWrapper; first | (rw [if_pos (by decide +kernel)]; kernel_rfl) | (rw [if_neg (by decide +kernel)]; exact ⟨rfl, rfl⟩))
    (fun os started H enc _ => lifted os started H enc)
/-- The tied card. -/
theorem fnExactShowMeasureCard_holds : Rows.FnExactShowMeasureCardSaid :=
  Claim7.holds_tied_plain_at .later [] [.data, .data, .data] true (true, "07d6b4d82baa83ba31d2b1a549674da9536140c3bfabaca233e344115bb4ff72") false
    fnExactShowMeasure_holds (fun _ h => by cases h) (by kernel_rfl) (fun _ h => by cases h) fnExactShowMeasure_row_tie rfl ⟨rfl, rfl⟩ (by kernel_rfl) rfl
    (fun f fn hf hfn => by
      obtain rfl : f = 3 := Option.some.inj ((show Tryd.prog.funcNamed "loop.example/g00423/laws.FnExactShowMeasure" = some 3 by kernel_rfl).symm.trans hf) |>.symm
      obtain rfl : fn = Tryd.f3 := (Option.some.inj (Tryd.func3.symm.trans hfn)).symm
      exact ⟨by kernel_rfl, fun j t ht => by
        have hpar : Tryd.f3.params.toList = [23] := rfl
        rw [← Array.getElem?_toList, hpar] at ht
        have h3 : t = 23 := by
          rcases j with _ | j
          · simpa using ht.symm
          · simp at ht
        subst h3
        exact (show Tryd.prog.wantsStandIn 23 = false by kernel_rfl)⟩)
    (by kernel_rfl)
#print axioms fnExactShowMeasureCard_holds
end Go.Proofs.YtchcogjfmbfccaaDoor
