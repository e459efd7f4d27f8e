import Derived.Test.YtchcogjfmbfccaaBL
import Derived.Test.YtchcogjfmbfccaaRows
import Derived.ProofKit
set_option linter.unusedVariables false
set_option linter.unusedSimpArgs false
namespace Go.Proofs.Ytchcogjfmbfccaa
open Go.ChangeShapes Go.WideShapes Go.ChangeAt Go.RowKit Go.OM Go.Proofs.T

theorem Try.own : ownKnob Try.prog.godebug = none := by kernel_rfl
theorem Try.laidOut : laidOutB Try.prog = true := by kernel_rfl
def shBlock : Sh := .st [.int .i64, .int .i64, .sl 1 true (.int .i64)]
def shs : List (Bool × Sh) := [(true, .sl 3 false shBlock), (true, .int .i64)]
theorem fit : argFit E shs [22, 3] := by
  simp only [argFit, shs, Sh.fits, shBlock, Sh.fitsL]
  refine ⟨⟨⟨57, _, Try.underlying22, E_ty57, rfl, by decide, rfl, _, _, Try.underlying57, E_ty57, ?_⟩, _, E_ty22, rfl⟩, ⟨Try.underlying3, _, E_ty3, rfl⟩, trivial⟩
  exact ⟨rfl, _, E_ty3, Try.underlying3, rfl, _, E_ty3, Try.underlying3, rfl, _, E_ty29, ⟨3, _, Try.underlying29, E_ty3, rfl, by decide, rfl, Try.underlying3⟩, rfl⟩
theorem dec_ints : ∀ (es : List T), (∀ x ∈ es, ∃ n, [x] = [T.v (.int .i64 n)] ∧ (Lit.int IntKind.i64 n).wf = true) → ∃ l : List Int, es = l.map vi
  | [], _ => ⟨[], rfl⟩
  | x :: es, h => by
    obtain ⟨n, hn, _⟩ := h x (by simp)
    obtain ⟨l, hl⟩ := dec_ints es (fun y hy => h y (by simp [hy]))
    simp only [List.cons.injEq, and_true] at hn
    exact ⟨n :: l, by rw [hn, hl]; rfl⟩
theorem dec_block {cs : List T} (h : shBlock.ok cs) : ∃ b : Block, cs = b.cells false ∧ b.next.length ≤ maxLen := by
  simp only [shBlock, Sh.ok, Sh.okL] at h
  obtain ⟨a1, r1, rfl, ⟨n1, rfl, _⟩, a2, r2, rfl, ⟨n2, rfl, _⟩, a3, r3, rfl, ⟨es, rfl, hlen, hes⟩, rfl⟩ := h
  obtain ⟨l, rfl⟩ := dec_ints es (fun x hx => by have := (hes x hx).1 trivial; simpa [Sh.ok] using this)
  exact ⟨⟨n1, n2, l⟩, rfl, by simpa using hlen⟩
theorem dec_blocks : ∀ (es : List T), (∀ x ∈ es, ∃ cs, x = .agg cs ∧ shBlock.ok cs) → ∃ l : List Block, es = l.map (Block.enc false) ∧ ∀ b ∈ l, b.next.length ≤ maxLen
  | [], _ => ⟨[], rfl, by simp⟩
  | x :: es, h => by
    obtain ⟨cs, rfl, hc⟩ := h x (by simp)
    obtain ⟨b, rfl, hb⟩ := dec_block hc
    obtain ⟨l, rfl, hl⟩ := dec_blocks es (fun y hy => h y (by simp [hy]))
    exact ⟨b :: l, rfl, by intro c hc; rcases List.mem_cons.1 hc with rfl | hc; exact hb; exact hl c hc⟩
theorem dec_args {xs : List T} (h : argOk shs xs) : ∃ (l : List Block) (i : Int), xs = [.sl false 3 (l.map (Block.enc false)), vi i] ∧ l.length ≤ maxLen ∧ ∀ b ∈ l, b.next.length ≤ maxLen := by
  match xs, h with
  | [x, y], h =>
    simp only [argOk, shs] at h
    obtain ⟨⟨h1, _⟩, ⟨h2, _⟩, _⟩ := h
    have h1 := h1 trivial
    have h2 := h2 trivial
    simp only [Sh.ok] at h1 h2
    obtain ⟨es, e1, e2, e3⟩ := h1
    obtain ⟨n, e4, _⟩ := h2
    simp only [List.cons.injEq, and_true] at e1 e4
    obtain ⟨l, rfl, hl⟩ := dec_blocks es (fun x hx => (e3 x hx).2 trivial)
    exact ⟨l, n, by rw [e1, e4], by simpa using e2, hl⟩
  | [], h => simp [argOk, shs] at h
  | [_], h => simp [argOk, shs] at h
  | _ :: _ :: _ :: _, h => simp [argOk, shs] at h
theorem ok (xs : List T) (h : argOk shs xs) : Ok E.P 3 (xs.map Arg.val) [.v (.bool true)] [] := by
  obtain ⟨l, i, rfl, h1, h2⟩ := dec_args h
  exact law l i h1 h2
set_option maxRecDepth 100000 in
theorem lifted (os : Os) (started : os.Started) (H : Type) (enc : TypeId × Value → H) :
    ReturnsInHanded {} Try.checked os 3 .any (Rows.fnExactBlockAtSpec.pre6 enc Try.prog Try.f3 Rows.fnExactBlockAtRow.domain false) (Rows.fnExactBlockAtSpec.post enc Try.prog Try.f3 false true false false) := by
  refine returnsInHanded_of_change (C := Try.checked) Try.own started (by kernel_rfl) Try.func3
    (ChangeSpec.witness6 (enc := enc) (C := Try.checked) false ⟨#[], #[.slice none 0 0, .int .i64 0], []⟩ 8 (by kernel_rfl) (by kernel_rfl) (by kernel_rfl) (by kernel_rfl)) ?_
  intro W base args ds gs before hval0 hW hcnd _
  have hW' := hW
  obtain ⟨p, q, hA0, hV, rfl, hfz, hnd⟩ := hW
  have hpar : Try.f3.params.toList = [22, 3] := rfl
  refine (law_calls (E := E) (f := 3) shs fit ok (ts := [22, 3]) (fun j t v h1 h2 => hval0 j t v (by rw [← Array.getElem?_toList, hpar]; exact h1) h2) (by rw [← hpar]; exact hA0)).mono fun e W' ⟨he, hB⟩ => ?_
  refine ⟨_, he, post_law Try.laidOut (fun t ht => ?_) rfl hW' hB (by rfl) Try.underlying4 ?_⟩
  · rw [hpar] at ht
    rcases List.mem_cons.1 ht with rfl | ht
    · exact ⟨by kernel_rfl, of_decide_eq_true (by kernel_rfl)⟩
    · rcases List.mem_cons.1 ht with rfl | ht
      · exact ⟨by kernel_rfl, of_decide_eq_true (by kernel_rfl)⟩
      · cases ht
  · rw [hpar] at hA0
    obtain ⟨v0, v1, d0, d1, p0, p1, _, rfl, _⟩ := trodAll_two hA0
    rfl
theorem fnExactBlockAt_holds : Rows.FnExactBlockAtSaid :=
  OpenClaim.holds_of_wide 3 Try.f3 rfl rfl rfl rfl rfl rfl rfl ⟨rfl, rfl, rfl, rfl, rfl⟩ rfl rfl rfl rfl rfl (by kernel_rfl) Try.func3 (by kernel_rfl)
    (of_decide_eq_true (by kernel_rfl)) (by unfold Func.isWrapper; first | (rw [if_pos (by decide +kernel)]; kernel_rfl) | (rw [if_neg (by decide +kernel)]; exact ⟨rfl, rfl⟩))
    (fun os started H enc _ => lifted os started H enc)
#print axioms fnExactBlockAt_holds
end Go.Proofs.Ytchcogjfmbfccaa
