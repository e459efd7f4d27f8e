/- The law FnExactReadCase of this program: for every input that can be read the call returns true, and each argument reads behind it as it read before. No condition. -/
import Derived.Test.YtchcogjfmbfccaaTB
import Derived.Test.YtchcogjfmbfccaaRows
import Derived.ProofKit
set_option linter.unusedVariables false
set_option linter.unusedSimpArgs false
namespace Go.Proofs.Ytchcogjfmbfccaa
open Go.ChangeShapes Go.WideShapes Go.ChangeAt Go.RowKit Go.OM Go.Proofs.T
theorem dec_list {α : Type} (f : α → T) (ok : α → Prop) : ∀ es : List T, (∀ y ∈ es, ∃ a, y = f a ∧ ok a) → ∃ l : List α, es = l.map f ∧ ∀ a ∈ l, ok a
  | [], _ => ⟨[], rfl, by simp⟩
  | y :: es, h => by
    obtain ⟨a, rfl, ha⟩ := h y (by simp)
    obtain ⟨l, rfl, hl⟩ := dec_list f ok es (fun z hz => h z (by simp [hz]))
    exact ⟨a :: l, rfl, by intro b hb; rcases List.mem_cons.1 hb with rfl | hb; exact ha; exact hl b hb⟩
theorem Try.own : ownKnob Try.prog.godebug = none := by kernel_rfl
theorem Try.laidOut : laidOutB Try.prog = true := by kernel_rfl
def shString : Sh := .str
theorem dec_shString {l : List T} (h : Sh.ok shString l) : ∃ x : ByteArray, l = [vs x] ∧ x.size ≤ maxLen := by
  simp only [shString, Sh.ok] at h
  obtain ⟨n, rfl, hn⟩ := h
  exact ⟨n, rfl, hn⟩
theorem fit9 : Sh.fits E shString 9 := Try.underlying9
def shs : List (Bool × Sh) := [(true, shString)]
theorem fit : argFit E shs [9] := ⟨⟨fit9, _, E_ty9, rfl⟩, trivial⟩
theorem ok (xs : List T) (h : argOk shs xs) : Ok E 5 (xs.map Arg.val) [.v (.bool true)] [] := by
  match xs, h with
  | [x0], h =>
    simp only [argOk, shs] at h
    obtain ⟨⟨p0, q0⟩, _⟩ := h
    obtain ⟨v0, e0, w0⟩ := dec_shString (p0 trivial); simp only [List.cons.injEq, and_true] at e0; subst e0
    exact laws_FnExactReadCase_ok v0 (law_ReadCase v0 w0)
  | [], h => simp [argOk, shs] at h
  | _ :: _ :: _, h => simp [argOk, shs] at h
set_option maxRecDepth 100000 in
theorem lifted (os : Os) (started : os.Started) (H : Type) (enc : TypeId × Value → H) :
    ReturnsInHanded {} Try.checked os 5 .any (Rows.fnExactReadCaseSpec.pre6 enc Try.prog Try.f5 Rows.fnExactReadCaseRow.domain false) (Rows.fnExactReadCaseSpec.post enc Try.prog Try.f5 false true false false) := by
  refine returnsInHanded_of_change (C := Try.checked) Try.own started (by kernel_rfl) Try.func5
    (ChangeSpec.witness6 (enc := enc) (C := Try.checked) false ⟨#[], #[.string .empty], []⟩ 12 (by kernel_rfl) (by kernel_rfl) (by kernel_rfl) (by kernel_rfl)) ?_
  intro W base args ds gs before hval0 hW hcnd _
  have hW' := hW
  obtain ⟨p, q, hA0, hV, rfl, hfz, hnd⟩ := hW
  have hpar : Try.f5.params.toList = [9] := rfl
  refine (law_calls (E := E) (f := 5) (fun b hb => by cases hb) shs fit ok (ts := [9]) (fun j t v h1 h2 => hval0 j t v (by rw [← Array.getElem?_toList, hpar]; exact h1) h2) (by rw [← hpar]; exact hA0)).mono fun e W' ⟨he, hB⟩ => ?_
  refine ⟨_, he, post_law Try.laidOut (fun t ht => ?_) rfl hW' hB (by rfl) Try.underlying4 ?_⟩
  · rw [hpar] at ht
    rcases List.mem_cons.1 ht with rfl | ht
    · exact ⟨by kernel_rfl, of_decide_eq_true (by kernel_rfl)⟩
    · cases ht
  · rw [hpar] at hA0
    obtain ⟨v0, d0, _, rfl, _⟩ := trodAll_one hA0
    rfl
theorem fnExactReadCase_holds : Rows.FnExactReadCaseSaid :=
  OpenClaim.holds_of_wide 5 Try.f5 rfl rfl rfl rfl rfl rfl rfl ⟨rfl, rfl, rfl, rfl, rfl⟩ rfl rfl rfl rfl rfl (by kernel_rfl) Try.func5 (by kernel_rfl)
    (of_decide_eq_true (by kernel_rfl)) (by unfold Func.isWrapper; first | (rw [if_pos (by decide +kernel)]; kernel_rfl) | (rw [if_neg (by decide +kernel)]; exact ⟨rfl, rfl⟩))
    (fun os started H enc _ => lifted os started H enc)
#print axioms fnExactReadCase_holds
end Go.Proofs.Ytchcogjfmbfccaa
