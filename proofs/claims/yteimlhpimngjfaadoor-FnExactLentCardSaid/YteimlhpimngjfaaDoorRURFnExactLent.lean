/- The law FnExactLent of this program: for every input that can be read the call returns true, and each argument reads behind it as it read before. Condition: the tables of the library that the row lists hold what the program text lays into them; the card ties them to that text. -/
import Derived.Test.YteimlhpimngjfaaDoorPA
import Derived.Test.YteimlhpimngjfaaDoorW17
import Derived.Test.YteimlhpimngjfaaDoorCards
import Derived.Test.YteimlhpimngjfaaDoorTie
import Derived.Test.YteimlhpimngjfaaDoorRows
import Derived.ProofKit
import Derived.OpenShut
import Derived.LaidMore
import Derived.Lay
import Derived.SevenTiedAt
import Derived.Stop.Joined
import Derived.Shelf.Vars
import Derived.Lib.LaidTab
import Derived.LaidLaws
import Derived.LaidHandle
set_option linter.unusedVariables false
set_option linter.unusedSimpArgs false
set_option linter.unusedVariables false
set_option linter.unusedSimpArgs false
namespace Go.Proofs.YteimlhpimngjfaaDoor
open Go Go.ChangeShapes Go.WideShapes Go.ChangeAt Go.RowKit Go.OM Go.Proofs.T
theorem dec_list {α : Type} (f : α → T) (ok : α → Prop) : ∀ es : List T, (∀ y ∈ es, ∃ a, y = f a ∧ ok a) → ∃ l : List α, es = l.map f ∧ ∀ a ∈ l, ok a
 | [], _ => ⟨[], rfl, by simp⟩
 | y :: es, h => by
  obtain ⟨a, rfl, ha⟩ := h y (by simp)
  obtain ⟨l, rfl, hl⟩ := dec_list f ok es (fun z hz => h z (by simp [hz]))
  exact ⟨a :: l, rfl, by intro b hb; rcases List.mem_cons.1 hb with rfl | hb; exact ha; exact hl b hb⟩
theorem Tryd.own : ownKnob Tryd.prog.godebug = none := by kernel_rfl
theorem Tryd.laidOut : laidOutB Tryd.prog = true := by kernel_rfl
def shString : Sh := .str
theorem dec_shString {l : List T} (h : Sh.ok shString l) : ∃ x : ByteArray, l = [vs x] ∧ x.size ≤ maxLen := by
 simp only [shString, Sh.ok] at h
 obtain ⟨n, rfl, hn⟩ := h
 exact ⟨n, rfl, hn⟩
def shInt : Sh := .int .i64
theorem dec_shInt {l : List T} (h : Sh.ok shInt l) : ∃ x : Int, l = [vi x] ∧ True := by
 simp only [shInt, Sh.ok] at h
 obtain ⟨n, rfl, _⟩ := h
 exact ⟨n, rfl, trivial⟩
def shIntS : Sh := .sl 1 true shInt
theorem dec_shIntS {l : List T} (h : Sh.ok shIntS l) : ∃ x : List Int, l = [.sl false 1 (x.map vi)] ∧ x.length ≤ maxLen := by
 simp only [shIntS, Sh.ok] at h
 obtain ⟨es, rfl, hlen, hes⟩ := h
 obtain ⟨l, rfl, hl⟩ := dec_list vi (fun x => True) es (fun y hy => by obtain ⟨x, hx, hb⟩ := dec_shInt ((hes y hy).1 trivial); exact ⟨x, by simpa using hx, hb⟩)
 exact ⟨l, rfl, by simpa using hlen⟩
def shIns : Sh := .st [shInt, shInt, shInt, shInt, shInt, shString, shIntS]
theorem dec_shIns {l : List T} (h : Sh.ok shIns l) : ∃ x : GIns, l = [vi x.Op, vi x.A, vi x.B, vi x.C, vi x.Num, vs x.Name, .sl false 1 (x.Args.map vi)] ∧ GIns.le maxLen x := by
 simp only [shIns, Sh.ok, Sh.okL] at h
 obtain ⟨a0, r0, rfl, h0, a1, r1, rfl, h1, a2, r2, rfl, h2, a3, r3, rfl, h3, a4, r4, rfl, h4, a5, r5, rfl, h5, a6, r6, rfl, h6, rfl⟩ := h
 obtain ⟨x0, rfl, b0⟩ := dec_shInt h0
 obtain ⟨x1, rfl, b1⟩ := dec_shInt h1
 obtain ⟨x2, rfl, b2⟩ := dec_shInt h2
 obtain ⟨x3, rfl, b3⟩ := dec_shInt h3
 obtain ⟨x4, rfl, b4⟩ := dec_shInt h4
 obtain ⟨x5, rfl, b5⟩ := dec_shString h5
 obtain ⟨x6, rfl, b6⟩ := dec_shIntS h6
 exact ⟨⟨x0, x1, x2, x3, x4, x5, x6⟩, rfl, ⟨b5, b6⟩⟩
def shInsS : Sh := .sl 7 false shIns
theorem dec_shInsS {l : List T} (h : Sh.ok shInsS l) : ∃ x : List GIns, l = [.sl false 7 (x.map (GIns.enc false))] ∧ x.length ≤ maxLen ∧ ∀ y ∈ x, GIns.le maxLen y := by
 simp only [shInsS, Sh.ok] at h
 obtain ⟨es, rfl, hlen, hes⟩ := h
 obtain ⟨l, rfl, hl⟩ := dec_list (GIns.enc false) (fun x => GIns.le maxLen x) es (fun y hy => by obtain ⟨cs, rfl, hc⟩ := (hes y hy).2 trivial; obtain ⟨x, rfl, hb⟩ := dec_shIns hc; exact ⟨x, rfl, hb⟩)
 exact ⟨l, rfl, ⟨by simpa using hlen, hl⟩⟩
def shCode : Sh := .st [shString, shInt, shIntS, shInsS]
theorem dec_shCode {l : List T} (h : Sh.ok shCode l) : ∃ x : GCode, l = [vs x.Name, vi x.Params, .sl false 1 (x.Locals.map vi), .sl false 7 (x.Words.map (GIns.enc false))] ∧ GCode.le maxLen x := by
 simp only [shCode, Sh.ok, Sh.okL] at h
 obtain ⟨a0, r0, rfl, h0, a1, r1, rfl, h1, a2, r2, rfl, h2, a3, r3, rfl, h3, rfl⟩ := h
 obtain ⟨x0, rfl, b0⟩ := dec_shString h0
 obtain ⟨x1, rfl, b1⟩ := dec_shInt h1
 obtain ⟨x2, rfl, b2⟩ := dec_shIntS h2
 obtain ⟨x3, rfl, b3⟩ := dec_shInsS h3
 exact ⟨⟨x0, x1, x2, x3⟩, rfl, ⟨b0, b2, b3⟩⟩
theorem fit9 : Sh.fits E shString 9 := Tryd.underlying9
theorem fit3 : Sh.fits E shInt 3 := Tryd.underlying3
theorem fit22 : Sh.fits E shIntS 22 := ⟨3, _, Tryd.underlying22, E_ty3, rfl, by decide, rfl, fit3⟩
theorem fit71 : Sh.fits E shIns 71 := ⟨_, _, Tryd.underlying71, E_ty71, ⟨rfl, _, E_ty3, fit3, ⟨rfl, _, E_ty3, fit3, ⟨rfl, _, E_ty3, fit3, ⟨rfl, _, E_ty3, fit3, ⟨rfl, _, E_ty3, fit3, ⟨rfl, _, E_ty9, fit9, ⟨rfl, _, E_ty22, fit22, rfl⟩⟩⟩⟩⟩⟩⟩⟩
theorem fit23 : Sh.fits E shInsS 23 := ⟨71, _, Tryd.underlying23, E_ty71, rfl, by decide, rfl, fit71⟩
theorem fit25 : Sh.fits E shCode 25 := ⟨_, _, Tryd.underlying25, E_ty25, ⟨rfl, _, E_ty9, fit9, ⟨rfl, _, E_ty3, fit3, ⟨rfl, _, E_ty22, fit22, ⟨rfl, _, E_ty23, fit23, rfl⟩⟩⟩⟩⟩
def shs : List (Bool × Sh) := [(false, shCode)]
theorem fit : argFit E shs [25] := ⟨⟨fit25, _, E_ty25, rfl⟩, trivial⟩
theorem ok (xs : List T) (h : argOk shs xs) : Ok E 4 (xs.map Arg.val) [.v (.bool true)] [] := by
 match xs, h with
 | [x0], h =>
  simp only [argOk, shs] at h
  obtain ⟨⟨p0, q0⟩, _⟩ := h
  obtain ⟨cs0, rfl, c0⟩ := q0 trivial; obtain ⟨v0, rfl, w0⟩ := dec_shCode c0
  exact laws_FnExactLent_ok v0 (law_Lent v0 w0)
 | [], h => simp [argOk, shs] at h
 | _ :: _ :: _, h => simp [argOk, shs] at h
theorem gl_of_shape {W : World} (h : W.ShapedOpen Tryd.prog) : E.Gl W := by
 intro g hg
 obtain rfl := List.mem_singleton.1 hg
 obtain ⟨m, hm⟩ := cell_of_shapedOpen_int (P := Tryd.prog) (g := 0) (t := 3) (zero := #[.int .i64 0]) h (of_decide_eq_true (by kernel_rfl)) (by kernel_rfl) rfl (by kernel_rfl) (by kernel_rfl) Tryd.underlying3
 simp only [World.cell?] at hm
 split at hm
 ·rename_i cs t fr hc
  exact ⟨cs, t, fr, hc, m, by simpa using hm⟩
 cases hm
/-- As the kit's law of this kind, the world's shape told too. -/
theorem returns_of_change {a : Assume} {C : Checked} {os : Os} {f : FuncId} {fn : Func} {H : Type} {enc : TypeId × Value → H} {s : ChangeSpec} {conds : List PathCond} {apart fresh handsOn again : Bool} {X : World → Array Value → Prop}
  (hX : ∀ (w w' : World) (args : Array Value), w.heap = w'.heap → X w args → X w' args)
  (own : ownKnob C.prog.godebug = none) (started : os.Started) (noInit : C.prog.inits.idxOf? f = none) (hfn : C.prog.funcs[f]? = some fn)
  (witness : ∃ (w : World) (tape : Tape) (i : Input), w.os = os ∧ (w.forCall tape i).Shaped C.prog ∧ i.vars = [] ∧ Input.okWide C.prog (w.forCall tape i) .any w.heap.size f i ∧
   ((s.pre enc C.prog fn conds apart (w.forCall tape i).memory i.args ∧ X (w.forCall tape i).memory i.args) ∧ sizedMet enc C.prog fn (OpenSpec.ofChange s) apart (w.forCall tape i).memory i.args) ∧ a.holds C.prog (lone (Frame.enter C.prog f i.args .normal) [] (w.forCall tape i)))
  (contract : ∀ (W : World) (base : Nat) (args : Array Value) (ds gs : List (DataW H)) (before : List MemPlace),
   (∀ (j : Nat) t v, fn.params[j]? = some t → args[j]? = some v → Value.okWide C.prog W .any base t v) →
   DataW.Whole enc C.prog fn.params.toList s.vars apart W args.toList ds gs before → X W args → W.ShapedOpen C.prog →
   Calls C.prog f args W fun e W' => ∃ v, e = .returned v ∧ s.post enc C.prog fn apart fresh handsOn again W args v W') :
  ReturnsInHanded a C os f .any (fun w args => (s.pre enc C.prog fn conds apart w args ∧ X w args) ∧ sizedMet enc C.prog fn (OpenSpec.ofChange s) apart w args) (s.post enc C.prog fn apart fresh handsOn again) := by
 refine returnsInHanded_of_calls own started noInit witness ?_
 intro w tape i _ hsh _ hok hpre hholds
 obtain ⟨_, _, _, fn', hfn', _, _, _, _, hval⟩ := hok
 have e : fn' = fn := Option.some.inj (hfn'.symm.trans hfn)
 subst e
 obtain ⟨⟨⟨ds, gs, before, hw, hc⟩, hx⟩, hz⟩ := hpre
 have hw' := DataW.Whole.of_heap (w' := w.forCall tape i) (by rfl) hw
 refine (contract (w.forCall tape i) w.heap.size i.args ds gs before hval hw' (hX _ _ _ (by rfl) hx) hsh).mono fun e W' ⟨v, he, hp⟩ => ?_
 subst he
 exact ChangeSpec.post_blind hp
set_option maxRecDepth 100000 in
theorem lifted (os : Os) (started : os.Started) (H : Type) (enc : TypeId × Value → H) :
  ReturnsInHanded {} Tryd.checked os 4 .any (fun w args => (Rows.fnExactLentSpec.pre enc Tryd.prog Tryd.f4 [] false w args ∧ laidMetH Tryd.prog Rows.fnExactLentRow.laid w) ∧ sizedMet enc Tryd.prog Tryd.f4 (OpenSpec.ofChange Rows.fnExactLentSpec) false w args) (Rows.fnExactLentSpec.post enc Tryd.prog Tryd.f4 false true false false) := by
 refine returns_of_change (C := Tryd.checked) (X := fun w _ => laidMetH Tryd.prog Rows.fnExactLentRow.laid w) (fun _ _ _ hh h => h.of_heap hh) Tryd.own started (by kernel_rfl) Tryd.func4
  (ChangeSpec.witness_shaped (enc := enc) (C := Tryd.checked) (os := os) (X := fun w _ => laidMetH Tryd.prog Rows.fnExactLentRow.laid w) false (World.laidAll Tryd.prog os Rows.fnExactLentRow.laid) #[.agg #[.string .empty, .int .i64 0, .slice none 0 0, .slice none 0 0]] 12 (World.laidAll_os _ _ _)
   (World.shaped_of_ZipB (by kernel_rfl) (by kernel_rfl)) (by kernel_rfl) (by kernel_rfl) (by kernel_rfl)
   (by rw [MakeChecks.laidMetH_plain _ _ _ (by kernel_rfl)]; exact laidMet_laidAll _ (by kernel_rfl) (by kernel_rfl))) ?_
 intro W base args ds gs before hval0 hW hLX hsh
 have hW' := hW
 obtain ⟨p, q, hA0, hV, rfl, hfz, hnd⟩ := hW
 have hpar : Tryd.f4.params.toList = [25] := rfl
 refine (law_calls (E := E) (f := 4) (gl_of_shape hsh) shs fit ok (ts := [25]) (fun j t v h1 h2 => hval0 j t v (by rw [← Array.getElem?_toList, hpar]; exact h1) h2) (by rw [← hpar]; exact hA0)).mono fun e W' ⟨he, hB⟩ => ?_
 refine ⟨_, he, post_law Tryd.laidOut (fun t ht => ?_) rfl hW' hB (by rfl) Tryd.underlying4 ?_⟩
 ·rw [hpar] at ht
  rcases List.mem_cons.1 ht with rfl | ht
  ·exact ⟨by kernel_rfl, of_decide_eq_true (by kernel_rfl)⟩
  cases ht
 rw [hpar] at hA0
 obtain ⟨v0, d0, _, rfl, _⟩ := trodAll_one hA0
 rfl
theorem fnExactLent_holds : Rows.FnExactLentSaid :=
 OpenClaim.holds_of_wide 4 Tryd.f4 rfl rfl rfl rfl rfl rfl rfl ⟨rfl, rfl, rfl, rfl, rfl⟩ rfl rfl rfl rfl rfl (by kernel_rfl) Tryd.func4 (by kernel_rfl)
  (of_decide_eq_true (by kernel_rfl)) (by unfold Func.isWrapper; first | (rw [if_pos (by decide +kernel)]; kernel_rfl) | (rw [if_neg (by decide +kernel)]; exact ⟨rfl, rfl⟩))
  (fun os started H enc _ => lifted os started H enc)
/-- The tied card. -/
theorem fnExactLentCard_holds : Rows.FnExactLentCardSaid :=
 Claim7.holds_tied_plain_at .later [] [.data, .pinned] true (true, "bd4f918f0ce435f77b5c36c2033cd0c315be76bee367f83f02bdce986d2604b5") false
  fnExactLent_holds (fun _ h => by cases h) (by kernel_rfl) (fun _ h => by cases h) fnExactLent_row_tie rfl ⟨rfl, rfl⟩ (by kernel_rfl) rfl
  (fun f fn hf hfn => by
   obtain rfl : f = 4 := Option.some.inj ((show Tryd.prog.funcNamed "loop.example/g00423/laws.FnExactLent" = some 4 by kernel_rfl).symm.trans hf) |>.symm
   obtain rfl : fn = Tryd.f4 := (Option.some.inj (Tryd.func4.symm.trans hfn)).symm
   exact ⟨by kernel_rfl, fun j t ht => by
    have hpar : Tryd.f4.params.toList = [25] := rfl
    rw [← Array.getElem?_toList, hpar] at ht
    have hm := List.mem_of_getElem? ht
    simp only [List.mem_cons, List.mem_nil_iff, or_false] at hm
    rcases hm with rfl
    ·exact (show Tryd.prog.wantsStandIn 25 = false by kernel_rfl)⟩)
  (by kernel_rfl)
#print axioms fnExactLentCard_holds
end Go.Proofs.YteimlhpimngjfaaDoor
