import Derived.Test.YtchcogjfmbfccaaOm28
import Derived.Below
import Derived.Carry
import Derived.WideKeyArgs
import Derived.ChangeSame
import Derived.RowKit
set_option linter.unusedVariables false
set_option linter.unusedSimpArgs false
namespace Go.OM
open Go.ChangeShapes Go.WideShapes Go.RowKit
variable {E : Env} {w W W' : World} {H : Type} {enc : TypeId × Value → H} {P : Program}

/-! ### A law: whatever it is given, it returns true; what it was given reads as before -/
def argOk : List (Bool × Sh) → List T → Prop
  | [], [] => True
  | (one, s) :: ps, x :: xs => ((one = true → s.ok [x]) ∧ (one = false → ∃ cs, x = .agg cs ∧ s.ok cs)) ∧ argOk ps xs
  | _, _ => False
def argFit (E : Env) : List (Bool × Sh) → List TypeId → Prop
  | [], [] => True
  | (one, s) :: ps, t :: ts => (s.fits E t ∧ ∃ ti, E.ty t = some ti ∧ ti.kind.isStruct = !one) ∧ argFit E ps ts
  | _, _ => False
theorem und_struct {t : TypeId} {ti : TI} (h : E.ty t = some ti) : (ti.kind.isStruct = true → ∃ fs, E.P.underlying t = some (.struct fs)) ∧ (ti.kind.isStruct = false → (∀ fs, E.P.underlying t ≠ some (.struct fs)) ∧ ∀ n e, E.P.underlying t ≠ some (.array n e)) := by
  have hk := (E.ok t ti h).2.1
  obtain ⟨d, hd, hs⟩ := (E.ok t ti h).und
  refine ⟨fun hh => ?_, fun hh => ⟨fun fs e => ?_, fun n e' e => ?_⟩⟩
  · cases hkind : ti.kind with
    | struct offs =>
      rw [hkind] at hk
      simp only [KindOk, structOffs] at hk
      split at hk
      · rename_i fs hfs; exact ⟨fs, hfs⟩
      · cases hk
    | _ => rw [hkind] at hh; cases hh
  · rw [hd] at e
    injection e with e
    subst e
    rw [hh] at hs; cases hs
  · rw [hd] at e
    injection e with e
    subst e
    rw [hh] at hs; cases hs
theorem arg_of_trod {one : Bool} {s : Sh} {t : TypeId} {v : Value} {d : DataW H} {p : List MemPlace} (hf : s.fits E t) (ht : ∃ ti, E.ty t = some ti ∧ ti.kind.isStruct = !one) (hv : Value.okWide E.P W .any 0 t v) (h : DataW.Trod enc E.P W 0 (fun _ => true) true t v d p) :
    ∃ x : TA, x.val = v ∧ x.Holds (fun k => k < W.heap.size) W.heap ∧ (∀ k, x.cnt k = 0) ∧ ((one = true → s.ok [x.er]) ∧ (one = false → ∃ cs, x.er = .agg cs ∧ s.ok cs)) := by
  obtain ⟨n, hn⟩ := h
  obtain ⟨l, q1, q2, q3, q4, q5⟩ := ro_of_trod s t n _ _ hf hn
  obtain ⟨ti, hti, hone⟩ := ht
  obtain ⟨u1, u2⟩ := und_struct hti
  cases one with
  | false =>
    obtain ⟨fs, hu⟩ := u1 (by rw [hone]; rfl)
    unfold Value.okWide at hv
    rw [hu] at hv
    obtain ⟨cs, rfl, _, _⟩ := hv
    refine ⟨.agg l, ?_, by simp only [TA.Holds]; exact ⟨q2, q3⟩, fun k => by simp only [TA.cnt]; exact q4 k, (fun h => by cases h), fun _ => ⟨TA.erL l, rfl, q5⟩⟩
    simp only [TA.val, q1, Value.cells]
  | true =>
    obtain ⟨v1, v2⟩ := u2 (by rw [hone]; rfl)
    have hc : Cell.okWide E.P W .any 0 t v := by
      unfold Value.okWide at hv
      split at hv
      · rename_i fs hfs; exact absurd hfs (v1 fs)
      · rename_i m e he; exact absurd he (v2 m e)
      · exact hv
    have hone1 : v.cells.toList = [v] := by
      cases v with
      | agg cs => exfalso; unfold Cell.okWide Cell.ok at hc; split at hc <;> simp_all
      | tuple cs => exfalso; unfold Cell.okWide Cell.ok at hc; split at hc <;> simp_all
      | _ => rfl
    rw [hone1] at q1
    have hl : l.length = 1 := by rw [← TA.vals_length, q1]; rfl
    obtain ⟨x, rfl⟩ := List.length_eq_one_iff.1 hl
    have hxc := q3 x (by simp)
    simp only [TA.vals, List.map_cons, List.map_nil, List.cons.injEq, and_true] at q1
    refine ⟨x, by cases x <;> first | (simp [TA.isCell] at hxc; done) | exact q1, by simpa [TA.HoldsL] using q2, fun k => by have := q4 k; simpa [TA.cntL] using this, fun _ => q5, fun h => by cases h⟩
theorem args_of_trod : ∀ (ps : List (Bool × Sh)) (ts : List TypeId) (vs : List Value) (ds : List (DataW H)) (p : List MemPlace), argFit E ps ts → (∀ (j : Nat) t v, ts[j]? = some t → vs[j]? = some v → Value.okWide E.P W .any 0 t v) → DataW.TrodAll enc E.P W 0 (fun _ => true) true ts vs ds p →
    ∃ xs : List TA, xs.map TA.val = vs ∧ TA.HoldsL (fun k => k < W.heap.size) W.heap xs ∧ (∀ k, TA.cntL k xs = 0) ∧ argOk ps (TA.erL xs)
  | [], [], vs, ds, p, _, _, h => by
    obtain ⟨rfl, rfl, rfl⟩ := trodAll_nil h
    exact ⟨[], rfl, trivial, fun k => rfl, trivial⟩
  | [], _ :: _, _, _, _, h, _, _ => h.elim
  | (_, _) :: _, [], _, _, _, h, _, _ => by simp [argFit] at h
  | (one, s) :: ps, t :: ts, vs, ds, p, hf, hv, h => by
    obtain ⟨v, vs1, d, ds1, a, b, rfl, rfl, rfl, h1, h2⟩ := trodAll_cons h
    obtain ⟨x, x1, x2, x3, x4⟩ := arg_of_trod hf.1.1 hf.1.2 (hv 0 t v rfl rfl) h1
    obtain ⟨xs, y1, y2, y3, y4⟩ := args_of_trod ps ts vs1 ds1 b hf.2 (fun j t v h1 h2 => hv (j + 1) t v (by simpa using h1) (by simpa using h2)) h2
    exact ⟨x :: xs, by simp [x1, y1], ⟨x2, y2⟩, fun k => by simp only [TA.cntL, x3, y3], x4, y4⟩
theorem law_calls {f : FuncId} (ps : List (Bool × Sh)) {ts : List TypeId} (hfit : argFit E ps ts) (hok : ∀ xs, argOk ps xs → Ok E.P f (xs.map Arg.val) [.v (.bool true)] []) {args : Array Value} {ds : List (DataW H)} {p : List MemPlace}
    (hv : ∀ (j : Nat) t v, ts[j]? = some t → args[j]? = some v → Value.okWide E.P W .any 0 t v) (hA : DataW.TrodAll enc E.P W 0 (fun _ => true) true ts args.toList ds p) : Calls E.P f args W fun e W' => e = .returned (.bool true) ∧ Below W.heap.size W W' := by
  obtain ⟨xs, x1, x2, x3, x4⟩ := args_of_trod ps ts args.toList ds p hfit (fun j t v h1 h2 => hv j t v h1 (by rw [← Array.getElem?_toList]; exact h2)) hA
  have hinn : ∀ k, innL k (xs.map ArgA.val) = 0 := by
    intro k
    have := x3 k
    clear x1 x2 x3 x4
    induction xs with
    | nil => rfl
    | cons x xs ih => simp only [TA.cntL] at this; simp only [List.map_cons, innL, ArgA.inn]; have := ih (by omega); omega
  have hpc : ∀ k, pcL k (xs.map ArgA.val) = 0 := by
    intro k
    clear x1 x2 x3 x4 hinn
    induction xs with
    | nil => rfl
    | cons x xs ih => simp only [List.map_cons, pcL, ArgA.pc, ih]
  have hargs : ArgsOk (fun k => k < W.heap.size) W.heap (xs.map ArgA.val) := ⟨fun a ha => by
      obtain ⟨x, hx, rfl⟩ := List.mem_map.1 ha
      exact TA.holdsL_iff.1 x2 x hx, fun k => by rw [hinn, hpc]; omega, fun k hk => by rw [hinn, hpc] at hk; omega, fun k hk => hk⟩
  have hcall := hok (TA.erL xs) x4 W (fun k => k < W.heap.size) (xs.map ArgA.val) (by rw [TA.erL_map]; simp [ArgA.er]) hargs
  have hvs : ((xs.map ArgA.val).map ArgA.value).toArray = args := by
    apply Array.toList_inj.1
    rw [← x1]
    simp [ArgA.value]
  rw [hvs] at hcall
  refine hcall.mono fun e W' ⟨Z', rs, ls, he, hrs, hls, B⟩ => ?_
  have hrs' : rs = [.v (.bool true)] := by
    cases rs with
    | nil => simp [TA.erL] at hrs
    | cons r rs =>
      cases rs with
      | nil =>
        simp only [TA.erL, List.cons.injEq, and_true] at hrs
        rw [er_v hrs]
      | cons r2 rs => simp [TA.erL] at hrs
  subst hrs'
  exact ⟨he, ⟨B.os, B.tape, B.output, B.grown, fun k hk => B.kept k hk (by rw [hinn, hpc])⟩⟩
theorem trodAll_stays (hl : laidOutB P = true) : ∀ {ts : List TypeId} {vs : List Value} {ds : List (DataW H)} {p : List MemPlace}, (∀ t ∈ ts, P.readableRec t = true ∧ t < P.types.size) → DataW.TrodAll enc P W 0 (fun _ => true) true ts vs ds p → Below W.heap.size W W' → (∀ x ∈ p, x.block < W.heap.size) → ∀ sp : Nat → Bool, (∀ x ∈ p, sp x.block = true) → DataW.TrodAll enc P W' 0 sp true ts vs ds p
  | [], vs, ds, p, _, h, _, _, _, _ => by
    obtain ⟨rfl, rfl, rfl⟩ := trodAll_nil h
    exact rfl
  | t :: ts, vs, ds, p, hr, h, hb, hlt, sp, hsp => by
    obtain ⟨v, vs1, d, ds1, a, b, rfl, rfl, rfl, h1, h2⟩ := trodAll_cons h
    exact ⟨a, b, WideElems.Trod_stays hl (hr t (by simp)).1 (hr t (by simp)).2 h1 (fun x hx => hb.same (hlt x (by simp [hx]))) (fun x hx => hsp x (by simp [hx])),
      trodAll_stays hl (fun t ht => hr t (by simp [ht])) h2 hb (fun x hx => hlt x (by simp [hx])) sp (fun x hx => hsp x (by simp [hx])), rfl⟩
/-- What stands behind such a law. -/
theorem post_law {f : Func} {s : ChangeSpec} {apart fresh handsOn again : Bool} {args : Array Value} {ds gs : List (DataW H)} {before : List MemPlace} {t : TypeId} (hl : laidOutB P = true) (hr : ∀ t ∈ f.params.toList, P.readableRec t = true ∧ t < P.types.size) (hvars : s.vars = [])
    (hW : DataW.Whole enc P f.params.toList s.vars apart W args.toList ds gs before) (hB : Below W.heap.size W W') (hres : f.resultTypes = #[t]) (ht : P.underlying t = some .bool) (hfn : s.fn H ds = { results := [.lit (.bool true)], args := ds }) : s.post enc P f apart fresh handsOn again W args (.bool true) W' := by
  have hlt := hW.lt
  obtain ⟨p, q, hA, hV, rfl, hz, hn⟩ := id hW
  have hV0 := hV
  rw [hvars] at hV0
  obtain ⟨rfl, rfl⟩ := trodVars_none hV0
  rw [List.append_nil] at hlt hn hz
  have hargs : ∀ sp : Nat → Bool, (∀ x ∈ p, sp x.block = true) → DataW.TrodAll enc P W' 0 sp true f.params.toList args.toList ds p := fun sp hsp => trodAll_stays hl hr hA hB hlt sp hsp
  have hvs : ∀ sp : Nat → Bool, DataW.TrodVars enc P W' sp s.vars ([] : List (DataW H)) [] := fun sp => by rw [hvars]; exact rfl
  have hrs : ∀ (b : Nat) (sp : Nat → Bool) (hd : Bool), DataW.TrodAll enc P W' b sp hd f.resultTypes.toList ((Value.bool true).resultList f.resultTypes.size) [.lit (.bool true)] [] := fun b sp hd => by
    rw [hres]; exact trodAll_mk1 (shut_bool ht true)
  have hfn' : s.fn H (ds ++ []) = { results := [.lit (.bool true)], args := ds } := by rw [List.append_nil]; exact hfn
  refine ⟨ds, [], p ++ [], [], p, [], hW, ?_, ?_, ?_, hB.frame _, fun _ => ?_⟩
  · rw [hfn']; exact hrs _ _ _
  · rw [hfn']; exact hargs _ (fun x hx => by simpa using hlt x hx)
  · rw [hfn']; exact hvs _
  · refine ⟨?_, [.lit (.bool true)] ++ ds, [], ([] ++ p) ++ [], ⟨[] ++ p, [], trodAll_append (hargs _ (fun _ _ => rfl)) (hrs _ _ _), hvs _, rfl, ?_, ?_⟩, ?_⟩
    · exact ok_one hres rfl (okWide_bool_mk ht _)
    · intro b off hp
      have hp' : MemPlace.cell b off ∈ p := by simpa using hp
      rw [hB.frozen (hlt _ hp')]
      exact hz b off hp'
    · intro ha
      simpa using hn ha
    · intro x hx _
      simpa using hx
end Go.OM
