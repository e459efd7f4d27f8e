/- The law FnExactKindCount of this program: for every input that can be read the call returns true, and each argument reads behind it as it read before. No condition. -/
import Derived.Test.YtchcogjfmbfccaaTA
import Derived.Test.YtchcogjfmbfccaaRows
import Derived.ProofKit
set_option linter.unusedVariables false
set_option linter.unusedSimpArgs false
namespace Go.Proofs.Ytchcogjfmbfccaa
open Go.ChangeShapes Go.WideShapes Go.ChangeAt Go.RowKit Go.OM Go.Proofs.T
theorem dec_list {α : Type} (f : α → T) (ok : α → Prop) : ∀ es : List T, (∀ y ∈ es, ∃ a, y = f a ∧ ok a) → ∃ l : List α, es = l.map f ∧ ∀ a ∈ l, ok a
  | [], _ => ⟨[], rfl, by simp⟩
  | y :: es, h => by
    obtain ⟨a, rfl, ha⟩ := h y (by simp)
    obtain ⟨l, rfl, hl⟩ := dec_list f ok es (fun z hz => h z (by simp [hz]))
    exact ⟨a :: l, rfl, by intro b hb; rcases List.mem_cons.1 hb with rfl | hb; exact ha; exact hl b hb⟩
theorem Try.own : ownKnob Try.prog.godebug = none := by kernel_rfl
theorem Try.laidOut : laidOutB Try.prog = true := by kernel_rfl
def shInt : Sh := .int .i64
theorem dec_shInt {l : List T} (h : Sh.ok shInt l) : ∃ x : Int, l = [vi x] ∧ True := by
  simp only [shInt, Sh.ok] at h
  obtain ⟨n, rfl, _⟩ := h
  exact ⟨n, rfl, trivial⟩
def shString : Sh := .str
theorem dec_shString {l : List T} (h : Sh.ok shString l) : ∃ x : ByteArray, l = [vs x] ∧ x.size ≤ maxLen := by
  simp only [shString, Sh.ok] at h
  obtain ⟨n, rfl, hn⟩ := h
  exact ⟨n, rfl, hn⟩
def shIntS : Sh := .sl 1 true shInt
theorem dec_shIntS {l : List T} (h : Sh.ok shIntS l) : ∃ x : List Int, l = [.sl false 1 (x.map vi)] ∧ x.length ≤ maxLen := by
  simp only [shIntS, Sh.ok] at h
  obtain ⟨es, rfl, hlen, hes⟩ := h
  obtain ⟨l, rfl, hl⟩ := dec_list vi (fun x => True) es (fun y hy => by obtain ⟨x, hx, hb⟩ := dec_shInt ((hes y hy).1 trivial); exact ⟨x, by simpa using hx, hb⟩)
  exact ⟨l, rfl, by simpa using hlen⟩
def shNode : Sh := .st [shInt, shInt, shString, shIntS]
theorem dec_shNode {l : List T} (h : Sh.ok shNode l) : ∃ x : GNode, l = [vi x.Kind, vi x.Num, vs x.Name, .sl false 1 (x.Kids.map vi)] ∧ GNode.le maxLen x := by
  simp only [shNode, Sh.ok, Sh.okL] at h
  obtain ⟨a0, r0, rfl, h0, a1, r1, rfl, h1, a2, r2, rfl, h2, a3, r3, rfl, h3, rfl⟩ := h
  obtain ⟨x0, rfl, b0⟩ := dec_shInt h0
  obtain ⟨x1, rfl, b1⟩ := dec_shInt h1
  obtain ⟨x2, rfl, b2⟩ := dec_shString h2
  obtain ⟨x3, rfl, b3⟩ := dec_shIntS h3
  exact ⟨⟨x0, x1, x2, x3⟩, rfl, ⟨b2, b3⟩⟩
def shNodeS : Sh := .sl 4 false shNode
theorem dec_shNodeS {l : List T} (h : Sh.ok shNodeS l) : ∃ x : List GNode, l = [.sl false 4 (x.map (GNode.enc false))] ∧ x.length ≤ maxLen ∧ ∀ y ∈ x, GNode.le maxLen y := by
  simp only [shNodeS, Sh.ok] at h
  obtain ⟨es, rfl, hlen, hes⟩ := h
  obtain ⟨l, rfl, hl⟩ := dec_list (GNode.enc false) (fun x => GNode.le maxLen x) es (fun y hy => by obtain ⟨cs, rfl, hc⟩ := (hes y hy).2 trivial; obtain ⟨x, rfl, hb⟩ := dec_shNode hc; exact ⟨x, rfl, hb⟩)
  exact ⟨l, rfl, ⟨by simpa using hlen, hl⟩⟩
def shParam : Sh := .st [shString, shInt]
theorem dec_shParam {l : List T} (h : Sh.ok shParam l) : ∃ x : GParam, l = [vs x.Name, vi x.Typ] ∧ GParam.le maxLen x := by
  simp only [shParam, Sh.ok, Sh.okL] at h
  obtain ⟨a0, r0, rfl, h0, a1, r1, rfl, h1, rfl⟩ := h
  obtain ⟨x0, rfl, b0⟩ := dec_shString h0
  obtain ⟨x1, rfl, b1⟩ := dec_shInt h1
  exact ⟨⟨x0, x1⟩, rfl, b0⟩
def shParamS : Sh := .sl 2 false shParam
theorem dec_shParamS {l : List T} (h : Sh.ok shParamS l) : ∃ x : List GParam, l = [.sl false 2 (x.map GParam.enc)] ∧ x.length ≤ maxLen ∧ ∀ y ∈ x, GParam.le maxLen y := by
  simp only [shParamS, Sh.ok] at h
  obtain ⟨es, rfl, hlen, hes⟩ := h
  obtain ⟨l, rfl, hl⟩ := dec_list GParam.enc (fun x => GParam.le maxLen x) es (fun y hy => by obtain ⟨cs, rfl, hc⟩ := (hes y hy).2 trivial; obtain ⟨x, rfl, hb⟩ := dec_shParam hc; exact ⟨x, rfl, hb⟩)
  exact ⟨l, rfl, ⟨by simpa using hlen, hl⟩⟩
def shFn : Sh := .st [shString, shParamS, shInt, shInt, shInt]
theorem dec_shFn {l : List T} (h : Sh.ok shFn l) : ∃ x : GFn, l = [vs x.Name, .sl false 2 (x.Params.map GParam.enc), vi x.Res, vi x.Body, vi x.Ret] ∧ GFn.le maxLen x := by
  simp only [shFn, Sh.ok, Sh.okL] at h
  obtain ⟨a0, r0, rfl, h0, a1, r1, rfl, h1, a2, r2, rfl, h2, a3, r3, rfl, h3, a4, r4, rfl, h4, rfl⟩ := h
  obtain ⟨x0, rfl, b0⟩ := dec_shString h0
  obtain ⟨x1, rfl, b1⟩ := dec_shParamS h1
  obtain ⟨x2, rfl, b2⟩ := dec_shInt h2
  obtain ⟨x3, rfl, b3⟩ := dec_shInt h3
  obtain ⟨x4, rfl, b4⟩ := dec_shInt h4
  exact ⟨⟨x0, x1, x2, x3, x4⟩, rfl, ⟨b0, b1⟩⟩
def shFnS : Sh := .sl 5 false shFn
theorem dec_shFnS {l : List T} (h : Sh.ok shFnS l) : ∃ x : List GFn, l = [.sl false 5 (x.map (GFn.enc false))] ∧ x.length ≤ maxLen ∧ ∀ y ∈ x, GFn.le maxLen y := by
  simp only [shFnS, Sh.ok] at h
  obtain ⟨es, rfl, hlen, hes⟩ := h
  obtain ⟨l, rfl, hl⟩ := dec_list (GFn.enc false) (fun x => GFn.le maxLen x) es (fun y hy => by obtain ⟨cs, rfl, hc⟩ := (hes y hy).2 trivial; obtain ⟨x, rfl, hb⟩ := dec_shFn hc; exact ⟨x, rfl, hb⟩)
  exact ⟨l, rfl, ⟨by simpa using hlen, hl⟩⟩
def shProgram : Sh := .st [shNodeS, shFnS]
theorem dec_shProgram {l : List T} (h : Sh.ok shProgram l) : ∃ x : GProgram, l = [.sl false 4 (x.Nodes.map (GNode.enc false)), .sl false 5 (x.Fns.map (GFn.enc false))] ∧ GProgram.le maxLen x := by
  simp only [shProgram, Sh.ok, Sh.okL] at h
  obtain ⟨a0, r0, rfl, h0, a1, r1, rfl, h1, rfl⟩ := h
  obtain ⟨x0, rfl, b0⟩ := dec_shNodeS h0
  obtain ⟨x1, rfl, b1⟩ := dec_shFnS h1
  exact ⟨⟨x0, x1⟩, rfl, ⟨b0, b1⟩⟩
theorem fit3 : Sh.fits E shInt 3 := Try.underlying3
theorem fit9 : Sh.fits E shString 9 := Try.underlying9
theorem fit29 : Sh.fits E shIntS 29 := ⟨3, _, Try.underlying29, E_ty3, rfl, by decide, rfl, fit3⟩
theorem fit89 : Sh.fits E shNode 89 := ⟨_, _, Try.underlying89, E_ty89, ⟨rfl, _, E_ty3, fit3, ⟨rfl, _, E_ty3, fit3, ⟨rfl, _, E_ty9, fit9, ⟨rfl, _, E_ty29, fit29, rfl⟩⟩⟩⟩⟩
theorem fit42 : Sh.fits E shNodeS 42 := ⟨89, _, Try.underlying42, E_ty89, rfl, by decide, rfl, fit89⟩
theorem fit106 : Sh.fits E shParam 106 := ⟨_, _, Try.underlying106, E_ty106, ⟨rfl, _, E_ty9, fit9, ⟨rfl, _, E_ty3, fit3, rfl⟩⟩⟩
theorem fit91 : Sh.fits E shParamS 91 := ⟨106, _, Try.underlying91, E_ty106, rfl, by decide, rfl, fit106⟩
theorem fit93 : Sh.fits E shFn 93 := ⟨_, _, Try.underlying93, E_ty93, ⟨rfl, _, E_ty9, fit9, ⟨rfl, _, E_ty91, fit91, ⟨rfl, _, E_ty3, fit3, ⟨rfl, _, E_ty3, fit3, ⟨rfl, _, E_ty3, fit3, rfl⟩⟩⟩⟩⟩⟩
theorem fit43 : Sh.fits E shFnS 43 := ⟨93, _, Try.underlying43, E_ty93, rfl, by decide, rfl, fit93⟩
theorem fit45 : Sh.fits E shProgram 45 := ⟨_, _, Try.underlying45, E_ty45, ⟨rfl, _, E_ty42, fit42, ⟨rfl, _, E_ty43, fit43, rfl⟩⟩⟩
def shs : List (Bool × Sh) := [(false, shProgram), (true, shInt)]
theorem fit : argFit E shs [45, 3] := ⟨⟨fit45, _, E_ty45, rfl⟩, ⟨fit3, _, E_ty3, rfl⟩, trivial⟩
theorem ok (xs : List T) (h : argOk shs xs) : Ok E.P 6 (xs.map Arg.val) [.v (.bool true)] [] := by
  match xs, h with
  | [x0, x1], h =>
    simp only [argOk, shs] at h
    obtain ⟨⟨p0, q0⟩, ⟨p1, q1⟩, _⟩ := h
    obtain ⟨cs0, rfl, c0⟩ := q0 trivial; obtain ⟨v0, rfl, w0⟩ := dec_shProgram c0
    obtain ⟨v1, e1, w1⟩ := dec_shInt (p1 trivial); simp only [List.cons.injEq, and_true] at e1; subst e1
    exact laws_FnExactKindCount_ok v0 v1 (law_KindCount v0 v1 w0)
  | [], h => simp [argOk, shs] at h
  | [_], h => simp [argOk, shs] at h
  | _ :: _ :: _ :: _, h => simp [argOk, shs] at h
set_option maxRecDepth 100000 in
theorem lifted (os : Os) (started : os.Started) (H : Type) (enc : TypeId × Value → H) :
    ReturnsInHanded {} Try.checked os 6 .any (Rows.fnExactKindCountSpec.pre6 enc Try.prog Try.f6 Rows.fnExactKindCountRow.domain false) (Rows.fnExactKindCountSpec.post enc Try.prog Try.f6 false true false false) := by
  refine returnsInHanded_of_change (C := Try.checked) Try.own started (by kernel_rfl) Try.func6
    (ChangeSpec.witness6 (enc := enc) (C := Try.checked) false ⟨#[], #[.agg #[.slice none 0 0, .slice none 0 0], .int .i64 0], []⟩ 12 (by kernel_rfl) (by kernel_rfl) (by kernel_rfl) (by kernel_rfl)) ?_
  intro W base args ds gs before hval0 hW hcnd _
  have hW' := hW
  obtain ⟨p, q, hA0, hV, rfl, hfz, hnd⟩ := hW
  have hpar : Try.f6.params.toList = [45, 3] := rfl
  refine (law_calls (E := E) (f := 6) shs fit ok (ts := [45, 3]) (fun j t v h1 h2 => hval0 j t v (by rw [← Array.getElem?_toList, hpar]; exact h1) h2) (by rw [← hpar]; exact hA0)).mono fun e W' ⟨he, hB⟩ => ?_
  refine ⟨_, he, post_law Try.laidOut (fun t ht => ?_) rfl hW' hB (by rfl) Try.underlying4 ?_⟩
  · rw [hpar] at ht
    rcases List.mem_cons.1 ht with rfl | ht
    · exact ⟨by kernel_rfl, of_decide_eq_true (by kernel_rfl)⟩
    · rcases List.mem_cons.1 ht with rfl | ht
      · exact ⟨by kernel_rfl, of_decide_eq_true (by kernel_rfl)⟩
      · cases ht
  · rw [hpar] at hA0
    obtain ⟨v0, v1, d0, d1, p0, p1, _, rfl, _⟩ := trodAll_two hA0
    rfl
theorem fnExactKindCount_holds : Rows.FnExactKindCountSaid :=
  OpenClaim.holds_of_wide 6 Try.f6 rfl rfl rfl rfl rfl rfl rfl ⟨rfl, rfl, rfl, rfl, rfl⟩ rfl rfl rfl rfl rfl (by kernel_rfl) Try.func6 (by kernel_rfl)
    (of_decide_eq_true (by kernel_rfl)) (by unfold Func.isWrapper; first | (rw [if_pos (by decide +kernel)]; kernel_rfl) | (rw [if_neg (by decide +kernel)]; exact ⟨rfl, rfl⟩))
    (fun os started H enc _ => lifted os started H enc)
#print axioms fnExactKindCount_holds
end Go.Proofs.Ytchcogjfmbfccaa
