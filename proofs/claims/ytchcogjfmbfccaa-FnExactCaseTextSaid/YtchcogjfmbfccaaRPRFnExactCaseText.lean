/- The law FnExactCaseText of this program: for every input that can be read the call returns true, and each argument reads behind it as it read before. No condition. -/
import Derived.Test.YtchcogjfmbfccaaTA
import Derived.Test.YtchcogjfmbfccaaRows
import Derived.ProofKit
set_option linter.unusedVariables false
set_option linter.unusedSimpArgs false
namespace Go.Proofs.Ytchcogjfmbfccaa
open Go.ChangeShapes Go.WideShapes Go.ChangeAt Go.RowKit Go.OM Go.Proofs.T
theorem dec_list {α : Type} (f : α → T) (ok : α → Prop) : ∀ es : List T, (∀ y ∈ es, ∃ a, y = f a ∧ ok a) → ∃ l : List α, es = l.map f ∧ ∀ a ∈ l, ok a
  | [], _ => ⟨[], rfl, by simp⟩
  | y :: es, h => by
    obtain ⟨a, rfl, ha⟩ := h y (by simp)
    obtain ⟨l, rfl, hl⟩ := dec_list f ok es (fun z hz => h z (by simp [hz]))
    exact ⟨a :: l, rfl, by intro b hb; rcases List.mem_cons.1 hb with rfl | hb; exact ha; exact hl b hb⟩
theorem Try.own : ownKnob Try.prog.godebug = none := by kernel_rfl
theorem Try.laidOut : laidOutB Try.prog = true := by kernel_rfl
def shInt : Sh := .int .i64
theorem dec_shInt {l : List T} (h : Sh.ok shInt l) : ∃ x : Int, l = [vi x] ∧ True := by
  simp only [shInt, Sh.ok] at h
  obtain ⟨n, rfl, _⟩ := h
  exact ⟨n, rfl, trivial⟩
def shIntS : Sh := .sl 1 true shInt
theorem dec_shIntS {l : List T} (h : Sh.ok shIntS l) : ∃ x : List Int, l = [.sl false 1 (x.map vi)] ∧ x.length ≤ maxLen := by
  simp only [shIntS, Sh.ok] at h
  obtain ⟨es, rfl, hlen, hes⟩ := h
  obtain ⟨l, rfl, hl⟩ := dec_list vi (fun x => True) es (fun y hy => by obtain ⟨x, hx, hb⟩ := dec_shInt ((hes y hy).1 trivial); exact ⟨x, by simpa using hx, hb⟩)
  exact ⟨l, rfl, by simpa using hlen⟩
def shCase : Sh := .st [shIntS, shIntS, shInt]
theorem dec_shCase {l : List T} (h : Sh.ok shCase l) : ∃ x : GCase, l = [.sl false 1 (x.Input.map vi), .sl false 1 (x.Want.map vi), vi x.End] ∧ GCase.le maxLen x := by
  simp only [shCase, Sh.ok, Sh.okL] at h
  obtain ⟨a0, r0, rfl, h0, a1, r1, rfl, h1, a2, r2, rfl, h2, rfl⟩ := h
  obtain ⟨x0, rfl, b0⟩ := dec_shIntS h0
  obtain ⟨x1, rfl, b1⟩ := dec_shIntS h1
  obtain ⟨x2, rfl, b2⟩ := dec_shInt h2
  exact ⟨⟨x0, x1, x2⟩, rfl, ⟨b0, b1⟩⟩
theorem fit3 : Sh.fits E shInt 3 := Try.underlying3
theorem fit29 : Sh.fits E shIntS 29 := ⟨3, _, Try.underlying29, E_ty3, rfl, by decide, rfl, fit3⟩
theorem fit31 : Sh.fits E shCase 31 := ⟨_, _, Try.underlying31, E_ty31, ⟨rfl, _, E_ty29, fit29, ⟨rfl, _, E_ty29, fit29, ⟨rfl, _, E_ty3, fit3, rfl⟩⟩⟩⟩
def shs : List (Bool × Sh) := [(false, shCase)]
theorem fit : argFit E shs [31] := ⟨⟨fit31, _, E_ty31, rfl⟩, trivial⟩
theorem ok (xs : List T) (h : argOk shs xs) : Ok E.P 4 (xs.map Arg.val) [.v (.bool true)] [] := by
  match xs, h with
  | [x0], h =>
    simp only [argOk, shs] at h
    obtain ⟨⟨p0, q0⟩, _⟩ := h
    obtain ⟨cs0, rfl, c0⟩ := q0 trivial; obtain ⟨v0, rfl, w0⟩ := dec_shCase c0
    exact laws_FnExactCaseText_ok v0 (law_CaseText v0 w0)
  | [], h => simp [argOk, shs] at h
  | _ :: _ :: _, h => simp [argOk, shs] at h
set_option maxRecDepth 100000 in
theorem lifted (os : Os) (started : os.Started) (H : Type) (enc : TypeId × Value → H) :
    ReturnsInHanded {} Try.checked os 4 .any (Rows.fnExactCaseTextSpec.pre6 enc Try.prog Try.f4 Rows.fnExactCaseTextRow.domain false) (Rows.fnExactCaseTextSpec.post enc Try.prog Try.f4 false true false false) := by
  refine returnsInHanded_of_change (C := Try.checked) Try.own started (by kernel_rfl) Try.func4
    (ChangeSpec.witness6 (enc := enc) (C := Try.checked) false ⟨#[], #[.agg #[.slice none 0 0, .slice none 0 0, .int .i64 0]], []⟩ 12 (by kernel_rfl) (by kernel_rfl) (by kernel_rfl) (by kernel_rfl)) ?_
  intro W base args ds gs before hval0 hW hcnd _
  have hW' := hW
  obtain ⟨p, q, hA0, hV, rfl, hfz, hnd⟩ := hW
  have hpar : Try.f4.params.toList = [31] := rfl
  refine (law_calls (E := E) (f := 4) shs fit ok (ts := [31]) (fun j t v h1 h2 => hval0 j t v (by rw [← Array.getElem?_toList, hpar]; exact h1) h2) (by rw [← hpar]; exact hA0)).mono fun e W' ⟨he, hB⟩ => ?_
  refine ⟨_, he, post_law Try.laidOut (fun t ht => ?_) rfl hW' hB (by rfl) Try.underlying4 ?_⟩
  · rw [hpar] at ht
    rcases List.mem_cons.1 ht with rfl | ht
    · exact ⟨by kernel_rfl, of_decide_eq_true (by kernel_rfl)⟩
    · cases ht
  · rw [hpar] at hA0
    obtain ⟨v0, d0, _, rfl, _⟩ := trodAll_one hA0
    rfl
theorem fnExactCaseText_holds : Rows.FnExactCaseTextSaid :=
  OpenClaim.holds_of_wide 4 Try.f4 rfl rfl rfl rfl rfl rfl rfl ⟨rfl, rfl, rfl, rfl, rfl⟩ rfl rfl rfl rfl rfl (by kernel_rfl) Try.func4 (by kernel_rfl)
    (of_decide_eq_true (by kernel_rfl)) (by unfold Func.isWrapper; first | (rw [if_pos (by decide +kernel)]; kernel_rfl) | (rw [if_neg (by decide +kernel)]; exact ⟨rfl, rfl⟩))
    (fun os started H enc _ => lifted os started H enc)
#print axioms fnExactCaseText_holds
end Go.Proofs.Ytchcogjfmbfccaa
