/- The law FnExactSameButNames of this program: for every input that can be read the call returns true, and each argument reads behind it as it read before. Condition: the tables of the library that the row lists hold what the program text lays into them; the card ties them to that text. -/
import Derived.Test.YtkbahglnleiepaaGreatDoorTD
import Derived.Test.YtkbahglnleiepaaGreatDoorCards
import Derived.Test.YtkbahglnleiepaaGreatDoorTie
import Derived.Test.YtkbahglnleiepaaGreatDoorRows
import Derived.ProofKit
import Derived.OpenShut
import Derived.LaidMore
import Derived.Lay
import Derived.SevenTiedAt
import Derived.Stop.Joined
import Derived.Shelf.Vars
import Derived.Lib.LaidTab
import Derived.LaidLaws
import Derived.LaidHandle
set_option linter.unusedVariables false
set_option linter.unusedSimpArgs false
set_option linter.unusedVariables false
set_option linter.unusedSimpArgs false
namespace Go.Proofs.YtkbahglnleiepaaGreatDoor
open Go Go.ChangeShapes Go.WideShapes Go.ChangeAt Go.RowKit Go.OM Go.Proofs.T
theorem dec_list {α : Type} (f : α → T) (ok : α → Prop) : ∀ es : List T, (∀ y ∈ es, ∃ a, y = f a ∧ ok a) → ∃ l : List α, es = l.map f ∧ ∀ a ∈ l, ok a
 | [], _ => ⟨[], rfl, by simp⟩
 | y :: es, h => by
  obtain ⟨a, rfl, ha⟩ := h y (by simp)
  obtain ⟨l, rfl, hl⟩ := dec_list f ok es (fun z hz => h z (by simp [hz]))
  exact ⟨a :: l, rfl, by intro b hb; rcases List.mem_cons.1 hb with rfl | hb; exact ha; exact hl b hb⟩
theorem Tryz.own : ownKnob Tryz.prog.godebug = none := by kernel_rfl
theorem Tryz.laidOut : laidOutB Tryz.prog = true := by kernel_rfl
def aB6 : Sh := .int .i64
theorem dec_shInt {l : List T} (h : Sh.ok aB6 l) : ∃ x : Int, l = [vi x] ∧ True := by
 simp only [aB6, Sh.ok] at h
 obtain ⟨n, rfl, _⟩ := h
 exact ⟨n, rfl, trivial⟩
def rV : Sh := .str
theorem dec_shString {l : List T} (h : Sh.ok rV l) : ∃ x : ByteArray, l = [vs x] ∧ x.size ≤ maxLen := by
 simp only [rV, Sh.ok] at h
 obtain ⟨n, rfl, hn⟩ := h
 exact ⟨n, rfl, hn⟩
def aHr : Sh := .sl 1 true aB6
theorem dec_shIntS {l : List T} (h : Sh.ok aHr l) : ∃ x : List Int, l = [.sl false 1 (x.map vi)] ∧ x.length ≤ maxLen := by
 simp only [aHr, Sh.ok] at h
 obtain ⟨es, rfl, hlen, hes⟩ := h
 obtain ⟨l, rfl, hl⟩ := dec_list vi (fun x => True) es (fun y hy => by obtain ⟨x, hx, hb⟩ := dec_shInt ((hes y hy).1 trivial); exact ⟨x, by simpa using hx, hb⟩)
 exact ⟨l, rfl, by simpa using hlen⟩
def aHq : Sh := .st [aB6, aB6, rV, aHr]
theorem dec_shNode {l : List T} (h : Sh.ok aHq l) : ∃ x : GNode, l = [vi x.Kind, vi x.Num, vs x.Name, .sl false 1 (x.Kids.map vi)] ∧ GNode.le maxLen x := by
 simp only [aHq, Sh.ok, Sh.okL] at h
 obtain ⟨a0, r0, rfl, h0, a1, r1, rfl, h1, a2, r2, rfl, h2, a3, r3, rfl, h3, rfl⟩ := h
 obtain ⟨x0, rfl, b0⟩ := dec_shInt h0
 obtain ⟨x1, rfl, b1⟩ := dec_shInt h1
 obtain ⟨x2, rfl, b2⟩ := dec_shString h2
 obtain ⟨x3, rfl, b3⟩ := dec_shIntS h3
 exact ⟨⟨x0, x1, x2, x3⟩, rfl, ⟨b2, b3⟩⟩
def aD8 : Sh := .sl 4 false aHq
theorem dec_shNodeS {l : List T} (h : Sh.ok aD8 l) : ∃ x : List GNode, l = [.sl false 4 (x.map (GNode.enc false))] ∧ x.length ≤ maxLen ∧ ∀ y ∈ x, GNode.le maxLen y := by
 simp only [aD8, Sh.ok] at h
 obtain ⟨es, rfl, hlen, hes⟩ := h
 obtain ⟨l, rfl, hl⟩ := dec_list (GNode.enc false) (fun x => GNode.le maxLen x) es (fun y hy => by obtain ⟨cs, rfl, hc⟩ := (hes y hy).2 trivial; obtain ⟨x, rfl, hb⟩ := dec_shNode hc; exact ⟨x, rfl, hb⟩)
 exact ⟨l, rfl, ⟨by simpa using hlen, hl⟩⟩
def aD7 : Sh := .st [rV, aB6]
theorem dec_shParam {l : List T} (h : Sh.ok aD7 l) : ∃ x : GParam, l = [vs x.Name, vi x.Typ] ∧ GParam.le maxLen x := by
 simp only [aD7, Sh.ok, Sh.okL] at h
 obtain ⟨a0, r0, rfl, h0, a1, r1, rfl, h1, rfl⟩ := h
 obtain ⟨x0, rfl, b0⟩ := dec_shString h0
 obtain ⟨x1, rfl, b1⟩ := dec_shInt h1
 exact ⟨⟨x0, x1⟩, rfl, b0⟩
def xX : Sh := .sl 2 false aD7
theorem dec_shParamS {l : List T} (h : Sh.ok xX l) : ∃ x : List GParam, l = [.sl false 2 (x.map GParam.enc)] ∧ x.length ≤ maxLen ∧ ∀ y ∈ x, GParam.le maxLen y := by
 simp only [xX, Sh.ok] at h
 obtain ⟨es, rfl, hlen, hes⟩ := h
 obtain ⟨l, rfl, hl⟩ := dec_list GParam.enc (fun x => GParam.le maxLen x) es (fun y hy => by obtain ⟨cs, rfl, hc⟩ := (hes y hy).2 trivial; obtain ⟨x, rfl, hb⟩ := dec_shParam hc; exact ⟨x, rfl, hb⟩)
 exact ⟨l, rfl, ⟨by simpa using hlen, hl⟩⟩
def shFn : Sh := .st [rV, xX, aB6, aB6, aB6]
theorem dec_shFn {l : List T} (h : Sh.ok shFn l) : ∃ x : GFn, l = [vs x.Name, .sl false 2 (x.Params.map GParam.enc), vi x.Res, vi x.Body, vi x.Ret] ∧ GFn.le maxLen x := by
 simp only [shFn, Sh.ok, Sh.okL] at h
 obtain ⟨a0, r0, rfl, h0, a1, r1, rfl, h1, a2, r2, rfl, h2, a3, r3, rfl, h3, a4, r4, rfl, h4, rfl⟩ := h
 obtain ⟨x0, rfl, b0⟩ := dec_shString h0
 obtain ⟨x1, rfl, b1⟩ := dec_shParamS h1
 obtain ⟨x2, rfl, b2⟩ := dec_shInt h2
 obtain ⟨x3, rfl, b3⟩ := dec_shInt h3
 obtain ⟨x4, rfl, b4⟩ := dec_shInt h4
 exact ⟨⟨x0, x1, x2, x3, x4⟩, rfl, ⟨b0, b1⟩⟩
def aMz : Sh := .sl 5 false shFn
theorem dec_shFnS {l : List T} (h : Sh.ok aMz l) : ∃ x : List GFn, l = [.sl false 5 (x.map (GFn.enc false))] ∧ x.length ≤ maxLen ∧ ∀ y ∈ x, GFn.le maxLen y := by
 simp only [aMz, Sh.ok] at h
 obtain ⟨es, rfl, hlen, hes⟩ := h
 obtain ⟨l, rfl, hl⟩ := dec_list (GFn.enc false) (fun x => GFn.le maxLen x) es (fun y hy => by obtain ⟨cs, rfl, hc⟩ := (hes y hy).2 trivial; obtain ⟨x, rfl, hb⟩ := dec_shFn hc; exact ⟨x, rfl, hb⟩)
 exact ⟨l, rfl, ⟨by simpa using hlen, hl⟩⟩
def qX : Sh := .st [aD8, aMz]
theorem dec_shProgram {l : List T} (h : Sh.ok qX l) : ∃ x : GProgram, l = [.sl false 4 (x.Nodes.map (GNode.enc false)), .sl false 5 (x.Fns.map (GFn.enc false))] ∧ GProgram.le maxLen x := by
 simp only [qX, Sh.ok, Sh.okL] at h
 obtain ⟨a0, r0, rfl, h0, a1, r1, rfl, h1, rfl⟩ := h
 obtain ⟨x0, rfl, b0⟩ := dec_shNodeS h0
 obtain ⟨x1, rfl, b1⟩ := dec_shFnS h1
 exact ⟨⟨x0, x1⟩, rfl, ⟨b0, b1⟩⟩
theorem fit3 : Sh.fits E aB6 3 := Tryz.underlying3
theorem fit9 : Sh.fits E rV 9 := Tryz.underlying9
theorem fit51 : Sh.fits E aHr 51 := ⟨3, _, Tryz.underlying51, aHi, rfl, by decide, rfl, fit3⟩
theorem fit62 : Sh.fits E aHq 62 := ⟨_, _, Tryz.underlying62, aOn, ⟨rfl, _, aHi, fit3, ⟨rfl, _, aHi, fit3, ⟨rfl, _, aPv, fit9, ⟨rfl, _, E_ty51, fit51, rfl⟩⟩⟩⟩⟩
theorem fit22 : Sh.fits E aD8 22 := ⟨62, _, Tryz.underlying22, aOn, rfl, by decide, rfl, fit62⟩
theorem fit109 : Sh.fits E aD7 109 := ⟨_, _, Tryz.underlying109, aMb, ⟨rfl, _, aPv, fit9, ⟨rfl, _, aHi, fit3, rfl⟩⟩⟩
theorem fit64 : Sh.fits E xX 64 := ⟨109, _, Tryz.underlying64, aMb, rfl, by decide, rfl, fit109⟩
theorem fit66 : Sh.fits E shFn 66 := ⟨_, _, Tryz.underlying66, aOm, ⟨rfl, _, aPv, fit9, ⟨rfl, _, E_ty64, fit64, ⟨rfl, _, aHi, fit3, ⟨rfl, _, aHi, fit3, ⟨rfl, _, aHi, fit3, rfl⟩⟩⟩⟩⟩⟩
theorem fit23 : Sh.fits E aMz 23 := ⟨66, _, Tryz.underlying23, aOm, rfl, by decide, rfl, fit66⟩
theorem fit25 : Sh.fits E qX 25 := ⟨_, _, Tryz.underlying25, aMa, ⟨rfl, _, E_ty22, fit22, ⟨rfl, _, E_ty23, fit23, rfl⟩⟩⟩
def shs : List (Bool × Sh) := [(false, qX), (false, qX)]
theorem fit : aGb E shs [25, 25] := ⟨⟨fit25, _, aMa, rfl⟩, ⟨fit25, _, aMa, rfl⟩, trivial⟩
theorem ok (xs : List T) (h : aGa shs xs) : Ok E 3 (xs.map Arg.val) [.v (.bool true)] [] := by
 match xs, h with
 | [x0, x1], h =>
  simp only [aGa, shs] at h
  obtain ⟨⟨p0, q0⟩, ⟨p1, q1⟩, _⟩ := h
  obtain ⟨cs0, rfl, c0⟩ := q0 trivial; obtain ⟨v0, rfl, w0⟩ := dec_shProgram c0
  obtain ⟨cs1, rfl, c1⟩ := q1 trivial; obtain ⟨v1, rfl, w1⟩ := dec_shProgram c1
  exact mW v0 v1 (xK v0 v1 w0 w1)
 | [], h => simp [aGa, shs] at h
 | [_], h => simp [aGa, shs] at h
 | _ :: _ :: _ :: _, h => simp [aGa, shs] at h
theorem laidMet_tail {P : Program} {x : String × DataW Unit} {rest : List (String × DataW Unit)} {W : World} (h : laidMet P (x :: rest) W) : laidMet P rest W := by
 obtain ⟨ps, h1, h2, h3⟩ := h
 obtain ⟨g, t, cs, fuel, p, q, e1, e2, e3, e4, e5, rfl⟩ := h1
 exact ⟨q, e5, (List.nodup_append.1 h2).2.1, fun b off hm => h3 b off (List.mem_append_right _ hm)⟩
theorem gTy : (Tryz.prog.globals[0]?).map (·.type) = some 137 := by kernel_rfl
theorem pow10_data : (Rows.laid_internal_strconv_uint64pow10 (H := Unit)) = Lib.tabData .u64 Lib.pow10Tab := by kernel_rfl
theorem pow10_of_laid {W : World} (h : laidMetH Tryz.prog Rows.fnExactSameButNamesRow.laid W) : Lib.TabIs Tryz.prog W "internal/strconv.uint64pow10" .u64 Lib.pow10Tab := by
 have h1 : laidMet Tryz.prog [("math/bits.deBruijn32tab", Rows.laid_math_bits_deBruijn32tab), ("math/bits.deBruijn64tab", Rows.laid_math_bits_deBruijn64tab), ("internal/strconv.uint64pow10", Rows.laid_internal_strconv_uint64pow10), ("unicode/utf8.acceptRanges", Rows.laid_unicode_utf8_acceptRanges), ("unicode/utf8.first", Rows.laid_unicode_utf8_first)] W := h
 have h2 := (laidMet_tail (laidMet_tail h1))
 rw [pow10_data] at h2
 exact Lib.tabIs_of_head Go.Proofs.T.pow10_named gTy Tryz.underlying137 Tryz.underlying125 (by kernel_rfl) (by kernel_rfl) h2
theorem gl2_of_laid {W : World} (h : laidMetH Tryz.prog Rows.fnExactSameButNamesRow.laid W) : ∃ cs t fr, W.heap[0]? = some (.cells cs t fr) ∧ cs = ((Lib.pow10Tab.map fun z => Value.int .u64 z).toArray) := by
 have h1 := pow10_of_laid h
 unfold Lib.TabIs World.var? at h1
 rw [Go.Proofs.T.pow10_named] at h1
 simp only [Option.bind_some] at h1
 split at h1
 ·rename_i cs t fr hc
  exact ⟨cs, t, fr, hc, Option.some.inj h1⟩
 ·cases h1
theorem gl_of_shape {W : World} (hL : laidMetH Tryz.prog Rows.fnExactSameButNamesRow.laid W) (h : W.ShapedOpen Tryz.prog) : E.Gl W := by
 intro g hg
 rcases List.mem_cons.1 hg with rfl | hg
 case inr =>
  obtain rfl := List.mem_singleton.1 hg
  exact gl2_of_laid hL
 obtain ⟨m, hm⟩ := cell_of_shapedOpen_int (P := Tryz.prog) (g := 3) (t := 3) (zero := #[.int .i64 0]) h (of_decide_eq_true (by kernel_rfl)) (by kernel_rfl) rfl (by kernel_rfl) (by kernel_rfl) Tryz.underlying3
 simp only [World.cell?] at hm
 split at hm
 ·rename_i cs t fr hc
  exact ⟨cs, t, fr, hc, m, by simpa using hm⟩
 ·cases hm
/-- As the kit's law of this kind, the world's shape told too. -/
theorem returns_of_change {a : Assume} {C : Checked} {os : Os} {f : FuncId} {fn : Func} {H : Type} {enc : TypeId × Value → H} {s : ChangeSpec} {conds : List PathCond} {apart fresh handsOn again : Bool} {X : World → Array Value → Prop}
  (hX : ∀ (w w' : World) (args : Array Value), w.heap = w'.heap → X w args → X w' args)
  (own : ownKnob C.prog.godebug = none) (started : os.Started) (noInit : C.prog.inits.idxOf? f = none) (hfn : C.prog.funcs[f]? = some fn)
  (witness : ∃ (w : World) (tape : Tape) (i : Input), w.os = os ∧ (w.forCall tape i).Shaped C.prog ∧ i.vars = [] ∧ Input.okWide C.prog (w.forCall tape i) .any w.heap.size f i ∧
   ((s.pre enc C.prog fn conds apart (w.forCall tape i).memory i.args ∧ X (w.forCall tape i).memory i.args) ∧ sizedMet enc C.prog fn (OpenSpec.ofChange s) apart (w.forCall tape i).memory i.args) ∧ a.holds C.prog (lone (Frame.enter C.prog f i.args .normal) [] (w.forCall tape i)))
  (contract : ∀ (W : World) (base : Nat) (args : Array Value) (ds gs : List (DataW H)) (before : List MemPlace),
   (∀ (j : Nat) t v, fn.params[j]? = some t → args[j]? = some v → Value.okWide C.prog W .any base t v) →
   DataW.Whole enc C.prog fn.params.toList s.vars apart W args.toList ds gs before → X W args → W.ShapedOpen C.prog →
   Calls C.prog f args W fun e W' => ∃ v, e = .returned v ∧ s.post enc C.prog fn apart fresh handsOn again W args v W') :
  ReturnsInHanded a C os f .any (fun w args => (s.pre enc C.prog fn conds apart w args ∧ X w args) ∧ sizedMet enc C.prog fn (OpenSpec.ofChange s) apart w args) (s.post enc C.prog fn apart fresh handsOn again) := by
 refine returnsInHanded_of_calls own started noInit witness ?_
 intro w tape i _ hsh _ hok hpre hholds
 obtain ⟨_, _, _, fn', hfn', _, _, _, _, hval⟩ := hok
 have e : fn' = fn := Option.some.inj (hfn'.symm.trans hfn)
 subst e
 obtain ⟨⟨⟨ds, gs, before, hw, hc⟩, hx⟩, hz⟩ := hpre
 have hw' := DataW.Whole.of_heap (w' := w.forCall tape i) (by rfl) hw
 refine (contract (w.forCall tape i) w.heap.size i.args ds gs before hval hw' (hX _ _ _ (by rfl) hx) hsh).mono fun e W' ⟨v, he, hp⟩ => ?_
 subst he
 exact ChangeSpec.post_blind hp
set_option maxRecDepth 100000 in
theorem lifted (os : Os) (started : os.Started) (H : Type) (enc : TypeId × Value → H) :
  ReturnsInHanded {} Tryz.checked os 3 .any (fun w args => (Rows.fnExactSameButNamesSpec.pre enc Tryz.prog Tryz.f3 [] false w args ∧ laidMetH Tryz.prog Rows.fnExactSameButNamesRow.laid w) ∧ sizedMet enc Tryz.prog Tryz.f3 (OpenSpec.ofChange Rows.fnExactSameButNamesSpec) false w args) (Rows.fnExactSameButNamesSpec.post enc Tryz.prog Tryz.f3 false true false false) := by
 refine returns_of_change (C := Tryz.checked) (X := fun w _ => laidMetH Tryz.prog Rows.fnExactSameButNamesRow.laid w) (fun _ _ _ hh h => h.of_heap hh) Tryz.own started (by kernel_rfl) Tryz.func3
  (ChangeSpec.witness_shaped (enc := enc) (C := Tryz.checked) (os := os) (X := fun w _ => laidMetH Tryz.prog Rows.fnExactSameButNamesRow.laid w) false (World.laidAll Tryz.prog os Rows.fnExactSameButNamesRow.laid) #[.agg #[.slice none 0 0, .slice none 0 0], .agg #[.slice none 0 0, .slice none 0 0]] 12 (World.laidAll_os _ _ _)
   (World.shaped_of_ZipB (by kernel_rfl) (by kernel_rfl)) (by kernel_rfl) (by kernel_rfl) (by kernel_rfl)
   (by rw [MakeChecks.laidMetH_plain _ _ _ (by kernel_rfl)]; exact laidMet_laidAll _ (by kernel_rfl) (by kernel_rfl))) ?_
 intro W base args ds gs before hval0 hW hLX hsh
 have hW' := hW
 obtain ⟨p, q, hA0, hV, rfl, hfz, hnd⟩ := hW
 have hpar : Tryz.f3.params.toList = [25, 25] := rfl
 refine (aLf (E := E) (f := 3) (gl_of_shape hLX hsh) shs fit ok (ts := [25, 25]) (fun j t v h1 h2 => hval0 j t v (by rw [← Array.getElem?_toList, hpar]; exact h1) h2) (by rw [← hpar]; exact hA0)).mono fun e W' ⟨he, hB⟩ => ?_
 refine ⟨_, he, aN9 Tryz.laidOut (fun t ht => ?_) rfl hW' hB (by rfl) Tryz.underlying4 ?_⟩
 ·rw [hpar] at ht
  rcases List.mem_cons.1 ht with rfl | ht
  ·exact ⟨by kernel_rfl, of_decide_eq_true (by kernel_rfl)⟩
  ·rcases List.mem_cons.1 ht with rfl | ht
   ·exact ⟨by kernel_rfl, of_decide_eq_true (by kernel_rfl)⟩
   ·cases ht
 ·rw [hpar] at hA0
  obtain ⟨v0, v1, d0, d1, p0, p1, _, rfl, _⟩ := trodAll_two hA0
  rfl
theorem fnExactSameButNames_holds : Rows.FnExactSameButNamesSaid :=
 OpenClaim.holds_of_wide 3 Tryz.f3 rfl rfl rfl rfl rfl rfl rfl ⟨rfl, rfl, rfl, rfl, rfl⟩ rfl rfl rfl rfl rfl (by kernel_rfl) Tryz.func3 (by kernel_rfl)
  (of_decide_eq_true (by kernel_rfl)) (by unfold Func.isWrapper; first | (rw [if_pos (by decide +kernel)]; kernel_rfl) | (rw [if_neg (by decide +kernel)]; exact ⟨rfl, rfl⟩))
  (fun os started H enc _ => lifted os started H enc)
/-- The tied card. -/
theorem fnExactSameButNamesCard_holds : Rows.FnExactSameButNamesCardSaid :=
 Claim7.holds_tied_plain_at .later [] [.data, .data, .data, .data, .pinned] true (true, "2b856fa5dda19472c01348d57a05f5f751f14480d18f31e18ebcc9f2da409d6a") false
  fnExactSameButNames_holds (fun _ h => by cases h) (by kernel_rfl) (fun _ h => by cases h) fnExactSameButNames_row_tie rfl ⟨rfl, rfl⟩ (by kernel_rfl) rfl
  (fun f fn hf hfn => by
   obtain rfl : f = 3 := Option.some.inj ((show Tryz.prog.funcNamed "loop.example/g00423/laws.FnExactSameButNames" = some 3 by kernel_rfl).symm.trans hf) |>.symm
   obtain rfl : fn = Tryz.f3 := (Option.some.inj (Tryz.func3.symm.trans hfn)).symm
   exact ⟨by kernel_rfl, fun j t ht => by
    have hpar : Tryz.f3.params.toList = [25, 25] := rfl
    rw [← Array.getElem?_toList, hpar] at ht
    have hm := List.mem_of_getElem? ht
    simp only [List.mem_cons, List.mem_nil_iff, or_false] at hm
    rcases hm with rfl | rfl
    ·exact (show Tryz.prog.wantsStandIn 25 = false by kernel_rfl)
    ·exact (show Tryz.prog.wantsStandIn 25 = false by kernel_rfl)⟩)
  (by kernel_rfl)
#print axioms fnExactSameButNamesCard_holds
end Go.Proofs.YtkbahglnleiepaaGreatDoor
