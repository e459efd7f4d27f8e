import Derived.Test.YtchcogjfmbfccaaOm26
import Derived.IntWalk
set_option linter.unusedVariables false
set_option linter.unusedSimpArgs false
namespace Go.OM
variable {C : Ctx} {E : Env} {σ : St} {S : Exit → St → Prop} {d : Code}
theorem SWp.seqR {id : Nat} {ops : Array Oper} {l : List Oper} (hl : ops.toList = l) (h : ∀ K : St → Prop, (∀ σ', SWp E C d S σ' → K σ') → σ.wps E C.N l l K) : SWp E C (.seq (.region id ops false) d) S σ :=
  SWp.seq (SWp.region (by rw [hl]; exact h _ fun σ' h => h))
theorem SWp.reg {id : Nat} {ops : Array Oper} {l : List Oper} (hl : ops.toList = l) (h : ∀ K : St → Prop, (∀ σ', S .normal σ' → K σ') → σ.wps E C.N l l K) : SWp E C (.region id ops false) S σ :=
  SWp.region (by rw [hl]; exact h _ fun σ' h => h)
/-- One operation; what is behind it stands aside. -/
def St.stepK (E : Env) (N : Nat) (ops : List Oper) (o : Oper) (K : St → Prop) (σ : St) : Prop := match σ.wants ops o with
    | some false => ∃ σ1, σ.put? N o.dst .u = some σ1 ∧ K σ1
    | some true => ∃ σ1, σ.op1 E N o = some σ1 ∧ K σ1
    | none => False
theorem wps_cons {N : Nat} {ops os : List Oper} {o : Oper} {K : St → Prop} (hc : callOf o = none) (h : ∀ K' : St → Prop, (∀ σ1, σ1.wps E N ops os K → K' σ1) → σ.stepK E N ops o K') : σ.wps E N ops (o :: os) K := by
  have h' := h _ fun _ h => h
  unfold St.stepK at h'
  simp only [St.wps, hc]
  exact h'
theorem wps_nil {N : Nat} {ops : List Oper} {K : St → Prop} (h : K σ) : σ.wps E N ops [] K := h
def lendK (args : List Arg) (K : List Pl → St → Prop) : Option (List Arg × List Pl × St) → Prop
  | some z => z.1 = args ∧ K z.2.1 z.2.2
  | none => False
def optK (K : St → Prop) : Option St → Prop
  | some z => K z
  | none => False
/-- A call. -/
theorem wps_call {N : Nat} {ops os : List Oper} {o : Oper} {K : St → Prop} {g : Operand} {xs : List Operand} {f : FuncId} (ms : List (Mode × Operand)) {args : List Arg} {res : List T} {outs : List (List T)} (hc : callOf o = some (g, xs)) (hms : ms.map Prod.snd = xs) (he : Enters E.P f)
    (hok : Ok E.P f args res outs) (h : ∀ K' : St → Prop, (∀ σ1, σ1.wps E N ops os K → K' σ1) → σ.wants ops o = some true ∧ σ.fn g = some f ∧ lendK args (fun pls σ2 => optK K' (St.land N o.dst (ms.any fun m => m.1.isBor) pls res outs σ2)) (σ.lend N ms)) : σ.wps E N ops (o :: os) K := by
  obtain ⟨hw, hf, h3⟩ := h _ fun _ h => h
  unfold lendK at h3
  split at h3
  case h_2 => exact h3.elim
  rename_i z hz
  obtain ⟨h4, h5⟩ := h3
  unfold optK at h5
  split at h5
  case h_2 => exact h5.elim
  rename_i σ1 hσ1
  simp only [St.wps, hw, hc]
  exact ⟨f, hf, he, ms, args, z.2.1, z.2.2, hms, by rw [hz, ← h4], res, outs, hok, σ1, hσ1, h5⟩
theorem SWp.condT {x : Operand} {c : Code} (hx : σ.sc x = some (.bool true)) (h : SWp E C c S σ) : SWp E C (.cond x c d) S σ := SWp.cond hx h
theorem SWp.condF {x : Operand} {c : Code} (hx : σ.sc x = some (.bool false)) (h : SWp E C d S σ) : SWp E C (.cond x c d) S σ := SWp.cond hx (by simpa using h)
/-- Both ways, with what is known on each. -/
theorem SWp.condB {x : Operand} {c : Code} {b : Bool} (hx : σ.sc x = some (.bool b)) (h1 : b = true → SWp E C c S σ) (h2 : b = false → SWp E C d S σ) : SWp E C (.cond x c d) S σ := by
  cases b with
  | true => exact SWp.condT hx (h1 rfl)
  | false => exact SWp.condF hx (h2 rfl)
theorem hasOwnL_map {α : Type} (f : α → T) (h : ∀ x, (f x).hasOwn = false) : ∀ l : List α, T.hasOwnL (l.map f) = false
  | [] => rfl
  | x :: l => by simp [T.hasOwnL, h, hasOwnL_map f h l]
theorem noRoL_map {α : Type} (f : α → T) (h : ∀ x, (f x).noRo = true) : ∀ l : List α, T.noRoL (l.map f) = true
  | [] => rfl
  | x :: l => by simp [T.noRoL, h, noRoL_map f h l]
theorem roL_map' {α : Type} (f g : α → T) (h : ∀ x, (f x).ro = g x) (l : List α) : T.roL (l.map f) = l.map g := by
  rw [T.roL_map, List.map_map]
  exact List.map_congr_left fun x _ => h x
@[simp] theorem wrap64 {n : Int} (h1 : -9223372036854775808 ≤ n) (h2 : n ≤ 9223372036854775807) : IntKind.wrap .i64 n = n := by rw [IntKind.wrap_i64]; omega
@[simp] theorem cells_agg (cs : List T) : (T.agg cs).cells = cs := rfl
@[simp] theorem cells_v (x : Value) : (T.v x).cells = [.v x] := rfl
@[simp] theorem cells_sl (o : Bool) (s : Nat) (es : List T) : (T.sl o s es).cells = [.sl o s es] := rfl
@[simp] theorem cells_dead : T.dead.cells = [.dead] := rfl
@[simp] theorem with_agg (cs l : List T) : (T.agg cs).withCells l = .agg l := rfl
@[simp] theorem with_v (x : Value) (y : T) : (T.v x).withCells [y] = y := rfl
@[simp] theorem with_sl (o : Bool) (s : Nat) (es : List T) (y : T) : (T.sl o s es).withCells [y] = y := rfl
@[simp] theorem with_dead (y : T) : T.dead.withCells [y] = y := rfl
@[simp] theorem kOf_agg (cs : List T) : kOf (.agg cs) = some cs.length := rfl
@[simp] theorem kOf_v (x : Value) : kOf (.v x) = none := rfl
@[simp] theorem kOf_sl (o : Bool) (s : Nat) (es : List T) : kOf (.sl o s es) = none := rfl
@[simp] theorem bury_v (x : Value) : (T.v x).bury = .v x := rfl
@[simp] theorem bury_own (s : Nat) (es : List T) : (T.sl true s es).bury = .dead := rfl
@[simp] theorem bury_dead : T.dead.bury = .dead := rfl
theorem bury_ro {s : Nat} {es : List T} (h : T.hasOwnL es = false) : (T.sl false s es).bury = .sl false s es := by simp [T.bury, T.hasOwn, h]
@[simp] theorem buryV_agg (cs : List T) : (T.agg cs).buryV = .agg (cs.map T.bury) := rfl
@[simp] theorem buryV_sl (s : Nat) (es : List T) : (T.sl true s es).buryV = .dead := rfl
@[simp] theorem lendK_some (args : List Arg) (K : List Pl → St → Prop) (z : List Arg × List Pl × St) : lendK args K (some z) = (z.1 = args ∧ K z.2.1 z.2.2) := rfl
@[simp] theorem optK_some (K : St → Prop) (z : St) : optK K (some z) = K z := rfl
attribute [simp] St.stepK St.wants St.gives St.op1 stMove stAssign stPick stAlloc stBox stBuild stLit stLoad stStore stNilc stBin stUn stConv stFunc stMake stSlice stField stIdx stIndex stExtract stAppend stLen
attribute [simp] St.take St.takeRow St.takeAll St.bnd St.len St.isStr isLenT isBoolT kindOf elemSize nilT isNil St.op St.sc scal St.get St.put? St.set St.free St.kill St.killAll AV.kill AV.killAll AV.hasOwn AV.into AV.plain St.fn St.rootCells St.setRoot AV.killK St.newBox OM.look OM.put
attribute [simp] binV ibin ishift isShift sbin unV TI.kk TK.isStruct mkT T.hasOwn T.hasOwnL T.ro T.roL T.noRo T.noRoL T.getP T.setP TA.er TA.erL addOff fillT zeroE mkTA idxOk
attribute [simp] St.lend St.lendT St.lendP St.lendB St.view St.land St.back Mode.isBor retAV St.leave St.resL St.res1 St.outsAt St.keep AV.keep Root.kept St.keepOk entry entT entB entV
end Go.OM
