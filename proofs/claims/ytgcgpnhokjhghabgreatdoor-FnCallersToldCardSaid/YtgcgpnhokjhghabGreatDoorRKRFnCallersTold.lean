/- The law FnCallersTold of this program: for every input that can be read the call returns true, and each argument reads behind it as it read before. Condition: the tables of the library that the row lists hold what the program text lays into them; the card ties them to that text. -/
import Derived.Test.YtgcgpnhokjhghabGreatDoorPB
import Derived.Test.YtgcgpnhokjhghabGreatDoorW29
import Derived.Test.YtgcgpnhokjhghabGreatDoorCards
import Derived.Test.YtgcgpnhokjhghabGreatDoorTie
import Derived.Test.YtgcgpnhokjhghabGreatDoorRows
import Derived.ProofKit
import Derived.OpenShut
import Derived.LaidMore
import Derived.Lay
import Derived.SevenTiedAt
import Derived.Stop.Joined
import Derived.Shelf.Vars
import Derived.Lib.LaidTab
import Derived.LaidLaws
import Derived.LaidHandle
set_option linter.unusedVariables false
set_option linter.unusedSimpArgs false
set_option linter.unusedVariables false
set_option linter.unusedSimpArgs false
namespace Go.Proofs.YtgcgpnhokjhghabGreatDoor
open Go Go.ChangeShapes Go.WideShapes Go.ChangeAt Go.RowKit Go.OM Go.Proofs.T
theorem dec_list {α : Type} (f : α → T) (ok : α → Prop) : ∀ es : List T, (∀ y ∈ es, ∃ a, y = f a ∧ ok a) → ∃ l : List α, es = l.map f ∧ ∀ a ∈ l, ok a
 | [], _ => ⟨[], rfl, by simp⟩
 | y :: es, h => by
  obtain ⟨a, rfl, ha⟩ := h y (by simp)
  obtain ⟨l, rfl, hl⟩ := dec_list f ok es (fun z hz => h z (by simp [hz]))
  exact ⟨a :: l, rfl, by intro b hb; rcases List.mem_cons.1 hb with rfl | hb; exact ha; exact hl b hb⟩
theorem Tryz.own : ownKnob Tryz.prog.godebug = none := by kernel_rfl
theorem Tryz.laidOut : laidOutB Tryz.prog = true := by kernel_rfl
def aG7 : Sh := .int .u8
theorem dec_shIntu8 {l : List T} (h : Sh.ok aG7 l) : ∃ x : Int, l = [vk .u8 x] ∧ True := by
 simp only [aG7, Sh.ok] at h;obtain ⟨n, rfl, _⟩ := h;exact ⟨n, rfl, trivial⟩
def aKe : Sh := .sl 1 true aG7
theorem dec_shIntS {l : List T} (h : Sh.ok aKe l) : ∃ x : List Int, l = [.sl false 1 (x.map (vk .u8))] ∧ x.length ≤ maxLen := by
 simp only [aKe, Sh.ok] at h;obtain ⟨es, rfl, hlen, hes⟩ := h;obtain ⟨l, rfl, hl⟩ := dec_list (vk .u8) (fun x => True) es (fun y hy => by obtain ⟨x, hx, hb⟩ := dec_shIntu8 ((hes y hy).1 trivial); exact ⟨x, by simpa using hx, hb⟩)
 exact ⟨l, rfl, by simpa using hlen⟩
theorem fit5 : Sh.fits E aG7 5 := Tryz.underlying5
theorem fit22 : Sh.fits E aKe 22 := ⟨5, _, Tryz.underlying22, E_ty5, rfl, by decide, rfl, fit5⟩
def shs : List (Bool × Sh) := [(true, aKe)]
theorem fit : aIx E shs [22] := ⟨⟨fit22, _, E_ty22, rfl⟩, trivial⟩
theorem ok (xs : List T) (h : aJy shs xs) : Ok E 3 (xs.map Arg.val) [.v (.bool true)] [] := by
 match xs, h with
 | [x0], h =>
  simp only [aJy, shs] at h;obtain ⟨⟨p0, q0⟩, _⟩ := h;obtain ⟨v0, e0, w0⟩ := dec_shIntS (p0 trivial); simp only [List.cons.injEq, and_true] at e0; subst e0;exact wG v0 (aDm v0 w0)
 | [], h => simp [aJy, shs] at h
 | _ :: _ :: _, h => simp [aJy, shs] at h
theorem gl_of_shape {W : World} (h : W.ShapedOpen Tryz.prog) : E.Gl W := by
 intro g hg;obtain rfl := List.mem_singleton.1 hg;obtain ⟨m, hm⟩ := cell_of_shapedOpen_int (P := Tryz.prog) (g := 0) (t := 3) (zero := #[.int .i64 0]) h (of_decide_eq_true (by kernel_rfl)) (by kernel_rfl) rfl (by kernel_rfl) (by kernel_rfl) Tryz.underlying3
 simp only [World.cell?] at hm;split at hm
 ·rename_i cs t fr hc;exact ⟨cs, t, fr, hc, m, by simpa using hm⟩
 cases hm
/-- As the kit's law of this kind, the world's shape told too. -/
theorem returns_of_change {a : Assume} {C : Checked} {os : Os} {f : FuncId} {fn : Func} {H : Type} {enc : TypeId × Value → H} {s : ChangeSpec} {conds : List PathCond} {apart fresh handsOn again : Bool} {X : World → Array Value → Prop}
  (hX : ∀ (w w' : World) (args : Array Value), w.heap = w'.heap → X w args → X w' args)
  (own : ownKnob C.prog.godebug = none) (started : os.Started) (noInit : C.prog.inits.idxOf? f = none) (hfn : C.prog.funcs[f]? = some fn)
  (witness : ∃ (w : World) (tape : Tape) (i : Input), w.os = os ∧ (w.forCall tape i).Shaped C.prog ∧ i.vars = [] ∧ Input.okWide C.prog (w.forCall tape i) .any w.heap.size f i ∧
   ((s.pre enc C.prog fn conds apart (w.forCall tape i).memory i.args ∧ X (w.forCall tape i).memory i.args) ∧ sizedMet enc C.prog fn (OpenSpec.ofChange s) apart (w.forCall tape i).memory i.args) ∧ a.holds C.prog (lone (Frame.enter C.prog f i.args .normal) [] (w.forCall tape i)))
  (contract : ∀ (W : World) (base : Nat) (args : Array Value) (ds gs : List (DataW H)) (before : List MemPlace),
   (∀ (j : Nat) t v, fn.params[j]? = some t → args[j]? = some v → Value.okWide C.prog W .any base t v) →
   DataW.Whole enc C.prog fn.params.toList s.vars apart W args.toList ds gs before → X W args → W.ShapedOpen C.prog →
   Calls C.prog f args W fun e W' => ∃ v, e = .returned v ∧ s.post enc C.prog fn apart fresh handsOn again W args v W') :
  ReturnsInHanded a C os f .any (fun w args => (s.pre enc C.prog fn conds apart w args ∧ X w args) ∧ sizedMet enc C.prog fn (OpenSpec.ofChange s) apart w args) (s.post enc C.prog fn apart fresh handsOn again) := by
 refine returnsInHanded_of_calls own started noInit witness ?_;intro w tape i _ hsh _ hok hpre hholds;obtain ⟨_, _, _, fn', hfn', _, _, _, _, hval⟩ := hok;have e : fn' = fn := Option.some.inj (hfn'.symm.trans hfn);subst e;obtain ⟨⟨⟨ds, gs, before, hw, hc⟩, hx⟩, hz⟩ := hpre;have hw' := DataW.Whole.of_heap (w' := w.forCall tape i) (by rfl) hw
 refine (contract (w.forCall tape i) w.heap.size i.args ds gs before hval hw' (hX _ _ _ (by rfl) hx) hsh).mono fun e W' ⟨v, he, hp⟩ => ?_
 subst he;exact ChangeSpec.post_blind hp
set_option maxRecDepth 100000 in
theorem lifted (os : Os) (started : os.Started) (H : Type) (enc : TypeId × Value → H) :
  ReturnsInHanded {} Tryz.checked os 3 .any (fun w args => (Rows.fnCallersToldSpec.pre enc Tryz.prog Tryz.f3 [] false w args ∧ laidMetH Tryz.prog Rows.fnCallersToldRow.laid w) ∧ sizedMet enc Tryz.prog Tryz.f3 (OpenSpec.ofChange Rows.fnCallersToldSpec) false w args) (Rows.fnCallersToldSpec.post enc Tryz.prog Tryz.f3 false true false false) := by
 refine returns_of_change (C := Tryz.checked) (X := fun w _ => laidMetH Tryz.prog Rows.fnCallersToldRow.laid w) (fun _ _ _ hh h => h.of_heap hh) Tryz.own started (by kernel_rfl) Tryz.func3
  (ChangeSpec.witness_shaped (enc := enc) (C := Tryz.checked) (os := os) (X := fun w _ => laidMetH Tryz.prog Rows.fnCallersToldRow.laid w) false (World.laidAll Tryz.prog os Rows.fnCallersToldRow.laid) #[.slice none 0 0] 12 (World.laidAll_os _ _ _)
   (World.shaped_of_ZipB (by kernel_rfl) (by kernel_rfl)) (by kernel_rfl) (by kernel_rfl) (by kernel_rfl)
   (by rw [MakeChecks.laidMetH_plain _ _ _ (by kernel_rfl)]; exact laidMet_laidAll _ (by kernel_rfl) (by kernel_rfl))) ?_
 intro W base args ds gs before hval0 hW hLX hsh;have hW' := hW;obtain ⟨p, q, hA0, hV, rfl, hfz, hnd⟩ := hW;have hpar : Tryz.f3.params.toList = [22] := rfl;refine (aNx (E := E) (f := 3) (gl_of_shape hsh) shs fit ok (ts := [22]) (fun j t v h1 h2 => hval0 j t v (by rw [← Array.getElem?_toList, hpar]; exact h1) h2) (by rw [← hpar]; exact hA0)).mono fun e W' ⟨he, hB⟩ => ?_
 refine ⟨_, he, aPs Tryz.laidOut (fun t ht => ?_) rfl hW' hB (by rfl) Tryz.underlying4 ?_⟩
 ·rw [hpar] at ht;rcases List.mem_cons.1 ht with rfl | ht
  ·exact ⟨by kernel_rfl, of_decide_eq_true (by kernel_rfl)⟩
  cases ht
 rw [hpar] at hA0;obtain ⟨v0, d0, _, rfl, _⟩ := trodAll_one hA0
 rfl
theorem fnCallersTold_holds : Rows.FnCallersToldSaid :=
 OpenClaim.holds_of_wide 3 Tryz.f3 rfl rfl rfl rfl rfl rfl rfl ⟨rfl, rfl, rfl, rfl, rfl⟩ rfl rfl rfl rfl rfl (by kernel_rfl) Tryz.func3 (by kernel_rfl)
  (of_decide_eq_true (by kernel_rfl)) (by unfold Func.isWrapper; first | (rw [if_pos (by decide +kernel)]; kernel_rfl) | (rw [if_neg (by decide +kernel)]; exact ⟨rfl, rfl⟩))
  (fun os started H enc _ => lifted os started H enc)
/-- The tied card. -/
theorem fnCallersToldCard_holds : Rows.FnCallersToldCardSaid :=
 Claim7.holds_tied_plain_at .later [] [.data, .pinned] true (true, "861bd905cc20f251d4024e75ab892c0931c28e23030012d4c97c8b5c19ca0155") false
  fnCallersTold_holds (fun _ h => by cases h) (by kernel_rfl) (fun _ h => by cases h) fnCallersTold_row_tie rfl ⟨rfl, rfl⟩ (by kernel_rfl) rfl
  (fun f fn hf hfn => by
   obtain rfl : f = 3 := Option.some.inj ((show Tryz.prog.funcNamed "loop.example/g00423/laws.FnCallersTold" = some 3 by kernel_rfl).symm.trans hf) |>.symm
   obtain rfl : fn = Tryz.f3 := (Option.some.inj (Tryz.func3.symm.trans hfn)).symm;exact ⟨by kernel_rfl, fun j t ht => by
    have hpar : Tryz.f3.params.toList = [22] := rfl;rw [← Array.getElem?_toList, hpar] at ht;have hm := List.mem_of_getElem? ht;simp only [List.mem_cons, List.mem_nil_iff, or_false] at hm;rcases hm with rfl
    ·exact (show Tryz.prog.wantsStandIn 22 = false by kernel_rfl)⟩)
  (by kernel_rfl)
#print axioms fnCallersToldCard_holds
end Go.Proofs.YtgcgpnhokjhghabGreatDoor
