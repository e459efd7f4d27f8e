import Derived.Test.YtelnmegngpocjaaDoorOmC
import Derived.Lib.Split
import Derived.Lib.ItoaNum
import Derived.Test.YtelnmegngpocjaaDoorProg
import Derived.KernelRfl
set_option linter.unusedVariables false
noncomputable section
namespace Go.OM
def strings_Split (s sep : ByteArray) : Option (List ByteArray) := if s.size < 4294967281 ∧ 1 ≤ sep.size ∧ (Lib.splitB sep 0 (Lib.countB s sep) s).length = Lib.countB s sep + 1 then some (Lib.splitB sep 0 (Lib.countB s sep) s) else none
end Go.OM
end
set_option linter.unusedVariables false
set_option linter.unusedSimpArgs false
namespace Go.OM
abbrev vi (n : Int) : T := .v (.int .i64 n)
abbrev vk (k : IntKind) (n : Int) : T := .v (.int k n)
abbrev vb (b : Bool) : T := .v (.bool b)
abbrev vs (z : ByteArray) : T := .v (.string z)
abbrev eSl {α : Type} (o : Bool) (s : Nat) (f : α → T) (l : List α) : T := .sl o s (l.map f)
@[simp] theorem own_vi (l : List Int) : T.hasOwnL (l.map vi) = false := hasOwnL_map vi (fun _ => rfl) l
@[simp] theorem own_vk (k : IntKind) (l : List Int) : T.hasOwnL (l.map (vk k)) = false := hasOwnL_map _ (fun _ => rfl) l
@[simp] theorem own_vb (l : List Bool) : T.hasOwnL (l.map vb) = false := hasOwnL_map _ (fun _ => rfl) l
@[simp] theorem own_vs (l : List ByteArray) : T.hasOwnL (l.map vs) = false := hasOwnL_map _ (fun _ => rfl) l
@[simp] theorem ro_vi (l : List Int) : T.roL (l.map vi) = l.map vi := roL_map' _ _ (fun _ => rfl) l
@[simp] theorem ro_vk (k : IntKind) (l : List Int) : T.roL (l.map (vk k)) = l.map (vk k) := roL_map' _ _ (fun _ => rfl) l
@[simp] theorem ro_vb (l : List Bool) : T.roL (l.map vb) = l.map vb := roL_map' _ _ (fun _ => rfl) l
@[simp] theorem ro_vs (l : List ByteArray) : T.roL (l.map vs) = l.map vs := roL_map' _ _ (fun _ => rfl) l
@[simp] theorem noRo_vi (l : List Int) : T.noRoL (l.map vi) = true := noRoL_map _ (fun _ => rfl) l
@[simp] theorem noRo_vk (k : IntKind) (l : List Int) : T.noRoL (l.map (vk k)) = true := noRoL_map _ (fun _ => rfl) l
@[simp] theorem noRo_vb (l : List Bool) : T.noRoL (l.map vb) = true := noRoL_map _ (fun _ => rfl) l
@[simp] theorem noRo_vs (l : List ByteArray) : T.noRoL (l.map vs) = true := noRoL_map _ (fun _ => rfl) l
@[simp] theorem own_eSl {α : Type} {s : Nat} {f : α → T} (h : ∀ l : List α, T.hasOwnL (l.map f) = false) (l : List (List α)) : T.hasOwnL (l.map (eSl false s f)) = false := hasOwnL_map _ (fun x => by simp [h x]) l
@[simp] theorem ro_eSl {α : Type} {o : Bool} {s : Nat} {f : α → T} (h : ∀ l : List α, T.roL (l.map f) = l.map f) (l : List (List α)) : T.roL (l.map (eSl o s f)) = l.map (eSl false s f) := roL_map' _ _ (fun x => by simp [h x]) l
@[simp] theorem noRo_eSl {α : Type} {s : Nat} {f : α → T} (h : ∀ l : List α, T.noRoL (l.map f) = true) (l : List (List α)) : T.noRoL (l.map (eSl true s f)) = true := noRoL_map _ (fun x => by simp [h x]) l
theorem ite_or {α : Type} {c : Prop} [Decidable c] {a b : Option α} {r : α} (h : (if c then a else b) = some r) : (c ∧ a = some r) ∨ (¬ c ∧ b = some r) := by
  by_cases hc : c
  · rw [if_pos hc] at h; exact .inl ⟨hc, h⟩
  · rw [if_neg hc] at h; exact .inr ⟨hc, h⟩
structure GIns where
  Op : Int
  A : Int
  B : Int
  C : Int
  Num : Int
  Name : ByteArray
  Args : List Int
  deriving DecidableEq
def GIns.enc (o : Bool) (x : GIns) : T := .agg [vi x.Op, vi x.A, vi x.B, vi x.C, vi x.Num, vs x.Name, .sl o 1 (List.map vi x.Args)]
@[simp] theorem GIns.own (x : GIns) : (x.enc false).hasOwn = false := by simp [GIns.enc]
@[simp] theorem GIns.ownT (x : GIns) : (x.enc true).hasOwn = true := by simp [GIns.enc]
@[simp] theorem GIns.ownL (l : List GIns) : T.hasOwnL (l.map (GIns.enc false)) = false := hasOwnL_map _ (fun x => by simp) l
@[simp] theorem GIns.ro1 (o : Bool) (x : GIns) : (x.enc o).ro = x.enc false := by cases o <;> simp [GIns.enc, T.roL_map, Function.comp_def]
@[simp] theorem GIns.roL (o : Bool) (l : List GIns) : T.roL (l.map (GIns.enc o)) = l.map (GIns.enc false) := roL_map' _ _ (fun x => by simp) l
@[simp] theorem GIns.noRo (x : GIns) : (x.enc true).noRo = true := by simp [GIns.enc]
@[simp] theorem GIns.noRoL (l : List GIns) : T.noRoL (l.map (GIns.enc true)) = true := noRoL_map _ (fun x => by simp) l
structure GCode where
  Name : ByteArray
  Params : Int
  Locals : List Int
  Words : List GIns
  deriving DecidableEq
def GCode.enc (o : Bool) (x : GCode) : T := .agg [vs x.Name, vi x.Params, .sl o 1 (List.map vi x.Locals), .sl o 7 (List.map (GIns.enc o) x.Words)]
@[simp] theorem GCode.own (x : GCode) : (x.enc false).hasOwn = false := by simp [GCode.enc]
@[simp] theorem GCode.ownT (x : GCode) : (x.enc true).hasOwn = true := by simp [GCode.enc]
@[simp] theorem GCode.ownL (l : List GCode) : T.hasOwnL (l.map (GCode.enc false)) = false := hasOwnL_map _ (fun x => by simp) l
@[simp] theorem GCode.ro1 (o : Bool) (x : GCode) : (x.enc o).ro = x.enc false := by cases o <;> simp [GCode.enc, T.roL_map, Function.comp_def]
@[simp] theorem GCode.roL (o : Bool) (l : List GCode) : T.roL (l.map (GCode.enc o)) = l.map (GCode.enc false) := roL_map' _ _ (fun x => by simp) l
@[simp] theorem GCode.noRo (x : GCode) : (x.enc true).noRo = true := by simp [GCode.enc]
@[simp] theorem GCode.noRoL (l : List GCode) : T.noRoL (l.map (GCode.enc true)) = true := noRoL_map _ (fun x => by simp) l
structure GNode where
  Kind : Int
  Num : Int
  Name : ByteArray
  Kids : List Int
  deriving DecidableEq
def GNode.enc (o : Bool) (x : GNode) : T := .agg [vi x.Kind, vi x.Num, vs x.Name, .sl o 1 (List.map vi x.Kids)]
@[simp] theorem GNode.own (x : GNode) : (x.enc false).hasOwn = false := by simp [GNode.enc]
@[simp] theorem GNode.ownT (x : GNode) : (x.enc true).hasOwn = true := by simp [GNode.enc]
@[simp] theorem GNode.ownL (l : List GNode) : T.hasOwnL (l.map (GNode.enc false)) = false := hasOwnL_map _ (fun x => by simp) l
@[simp] theorem GNode.ro1 (o : Bool) (x : GNode) : (x.enc o).ro = x.enc false := by cases o <;> simp [GNode.enc, T.roL_map, Function.comp_def]
@[simp] theorem GNode.roL (o : Bool) (l : List GNode) : T.roL (l.map (GNode.enc o)) = l.map (GNode.enc false) := roL_map' _ _ (fun x => by simp) l
@[simp] theorem GNode.noRo (x : GNode) : (x.enc true).noRo = true := by simp [GNode.enc]
@[simp] theorem GNode.noRoL (l : List GNode) : T.noRoL (l.map (GNode.enc true)) = true := noRoL_map _ (fun x => by simp) l
structure GParam where
  Name : ByteArray
  Typ : Int
  deriving DecidableEq
def GParam.enc (x : GParam) : T := .agg [vs x.Name, vi x.Typ]
@[simp] theorem GParam.own (x : GParam) : x.enc.hasOwn = false := by simp [GParam.enc]
@[simp] theorem GParam.ownL (l : List GParam) : T.hasOwnL (l.map GParam.enc) = false := hasOwnL_map _ (fun x => by simp) l
@[simp] theorem GParam.ro1 (x : GParam) : x.enc.ro = x.enc := by simp [GParam.enc]
@[simp] theorem GParam.roL (l : List GParam) : T.roL (l.map GParam.enc) = l.map GParam.enc := roL_map' _ _ (fun x => by simp) l
@[simp] theorem GParam.noRo (x : GParam) : x.enc.noRo = true := by simp [GParam.enc]
@[simp] theorem GParam.noRoL (l : List GParam) : T.noRoL (l.map GParam.enc) = true := noRoL_map _ (fun x => by simp) l
structure GFn where
  Name : ByteArray
  Params : List GParam
  Res : Int
  Body : Int
  Ret : Int
  deriving DecidableEq
def GFn.enc (o : Bool) (x : GFn) : T := .agg [vs x.Name, .sl o 2 (List.map GParam.enc x.Params), vi x.Res, vi x.Body, vi x.Ret]
@[simp] theorem GFn.own (x : GFn) : (x.enc false).hasOwn = false := by simp [GFn.enc]
@[simp] theorem GFn.ownT (x : GFn) : (x.enc true).hasOwn = true := by simp [GFn.enc]
@[simp] theorem GFn.ownL (l : List GFn) : T.hasOwnL (l.map (GFn.enc false)) = false := hasOwnL_map _ (fun x => by simp) l
@[simp] theorem GFn.ro1 (o : Bool) (x : GFn) : (x.enc o).ro = x.enc false := by cases o <;> simp [GFn.enc, T.roL_map, Function.comp_def]
@[simp] theorem GFn.roL (o : Bool) (l : List GFn) : T.roL (l.map (GFn.enc o)) = l.map (GFn.enc false) := roL_map' _ _ (fun x => by simp) l
@[simp] theorem GFn.noRo (x : GFn) : (x.enc true).noRo = true := by simp [GFn.enc]
@[simp] theorem GFn.noRoL (l : List GFn) : T.noRoL (l.map (GFn.enc true)) = true := noRoL_map _ (fun x => by simp) l
structure GProgram where
  Nodes : List GNode
  Fns : List GFn
  deriving DecidableEq
def GProgram.enc (o : Bool) (x : GProgram) : T := .agg [.sl o 4 (List.map (GNode.enc o) x.Nodes), .sl o 5 (List.map (GFn.enc o) x.Fns)]
@[simp] theorem GProgram.own (x : GProgram) : (x.enc false).hasOwn = false := by simp [GProgram.enc]
@[simp] theorem GProgram.ownT (x : GProgram) : (x.enc true).hasOwn = true := by simp [GProgram.enc]
@[simp] theorem GProgram.ownL (l : List GProgram) : T.hasOwnL (l.map (GProgram.enc false)) = false := hasOwnL_map _ (fun x => by simp) l
@[simp] theorem GProgram.ro1 (o : Bool) (x : GProgram) : (x.enc o).ro = x.enc false := by cases o <;> simp [GProgram.enc, T.roL_map, Function.comp_def]
@[simp] theorem GProgram.roL (o : Bool) (l : List GProgram) : T.roL (l.map (GProgram.enc o)) = l.map (GProgram.enc false) := roL_map' _ _ (fun x => by simp) l
@[simp] theorem GProgram.noRo (x : GProgram) : (x.enc true).noRo = true := by simp [GProgram.enc]
@[simp] theorem GProgram.noRoL (l : List GProgram) : T.noRoL (l.map (GProgram.enc true)) = true := noRoL_map _ (fun x => by simp) l
structure GMeasure where
  Fns : Int
  Nodes : Int
  Steps : Int
  Values : Int
  Blocks : Int
  Lets : Int
  News : Int
  Lends : Int
  Deep : Int
  deriving DecidableEq
def GMeasure.enc (x : GMeasure) : T := .agg [vi x.Fns, vi x.Nodes, vi x.Steps, vi x.Values, vi x.Blocks, vi x.Lets, vi x.News, vi x.Lends, vi x.Deep]
@[simp] theorem GMeasure.own (x : GMeasure) : x.enc.hasOwn = false := by simp [GMeasure.enc]
@[simp] theorem GMeasure.ownL (l : List GMeasure) : T.hasOwnL (l.map GMeasure.enc) = false := hasOwnL_map _ (fun x => by simp) l
@[simp] theorem GMeasure.ro1 (x : GMeasure) : x.enc.ro = x.enc := by simp [GMeasure.enc]
@[simp] theorem GMeasure.roL (l : List GMeasure) : T.roL (l.map GMeasure.enc) = l.map GMeasure.enc := roL_map' _ _ (fun x => by simp) l
@[simp] theorem GMeasure.noRo (x : GMeasure) : x.enc.noRo = true := by simp [GMeasure.enc]
@[simp] theorem GMeasure.noRoL (l : List GMeasure) : T.noRoL (l.map GMeasure.enc) = true := noRoL_map _ (fun x => by simp) l
structure GBlock where
  From : Int
  To : Int
  Next : List Int
  deriving DecidableEq
def GBlock.enc (o : Bool) (x : GBlock) : T := .agg [vi x.From, vi x.To, .sl o 1 (List.map vi x.Next)]
@[simp] theorem GBlock.own (x : GBlock) : (x.enc false).hasOwn = false := by simp [GBlock.enc]
@[simp] theorem GBlock.ownT (x : GBlock) : (x.enc true).hasOwn = true := by simp [GBlock.enc]
@[simp] theorem GBlock.ownL (l : List GBlock) : T.hasOwnL (l.map (GBlock.enc false)) = false := hasOwnL_map _ (fun x => by simp) l
@[simp] theorem GBlock.ro1 (o : Bool) (x : GBlock) : (x.enc o).ro = x.enc false := by cases o <;> simp [GBlock.enc, T.roL_map, Function.comp_def]
@[simp] theorem GBlock.roL (o : Bool) (l : List GBlock) : T.roL (l.map (GBlock.enc o)) = l.map (GBlock.enc false) := roL_map' _ _ (fun x => by simp) l
@[simp] theorem GBlock.noRo (x : GBlock) : (x.enc true).noRo = true := by simp [GBlock.enc]
@[simp] theorem GBlock.noRoL (l : List GBlock) : T.noRoL (l.map (GBlock.enc true)) = true := noRoL_map _ (fun x => by simp) l
structure GLoan where
  At : Int
  Of : Int
  Mut : Bool
  deriving DecidableEq
def GLoan.enc (x : GLoan) : T := .agg [vi x.At, vi x.Of, vb x.Mut]
@[simp] theorem GLoan.own (x : GLoan) : x.enc.hasOwn = false := by simp [GLoan.enc]
@[simp] theorem GLoan.ownL (l : List GLoan) : T.hasOwnL (l.map GLoan.enc) = false := hasOwnL_map _ (fun x => by simp) l
@[simp] theorem GLoan.ro1 (x : GLoan) : x.enc.ro = x.enc := by simp [GLoan.enc]
@[simp] theorem GLoan.roL (l : List GLoan) : T.roL (l.map GLoan.enc) = l.map GLoan.enc := roL_map' _ _ (fun x => by simp) l
@[simp] theorem GLoan.noRo (x : GLoan) : x.enc.noRo = true := by simp [GLoan.enc]
@[simp] theorem GLoan.noRoL (l : List GLoan) : T.noRoL (l.map GLoan.enc) = true := noRoL_map _ (fun x => by simp) l
attribute [simp] GIns.enc GCode.enc GNode.enc GParam.enc GFn.enc GProgram.enc GMeasure.enc GBlock.enc GLoan.enc
end Go.OM
set_option linter.unusedVariables false
noncomputable section
namespace Go.OM
def laws_szIntS (a1 : List Int) (left2 : Int) : Option (Int) :=
  if (decide (IntKind.wrap .i64 (left2 - (a1.length : Int)) < 0)) = true then
    some (-1)
  else
    some (IntKind.wrap .i64 (left2 - (a1.length : Int)))
def laws_szIns (a1 : GIns) (left2 : Int) : Option (Int) :=
  if (decide (IntKind.wrap .i64 (left2 - (a1.Name.size : Int)) < 0)) = true then
    some (-1)
  else
    (laws_szIntS a1.Args (IntKind.wrap .i64 (left2 - (a1.Name.size : Int)))).bind fun r5 =>
    if (decide (r5 < 0)) = true then
      some (-1)
    else
      some r5
def laws_szInsS_l1 (a1 : List GIns) : (Int × Int) → Option ((Int × Int) ⊕ ((Int) ⊕ (Int))) := fun ⟨left8, i9⟩ =>
  if (decide (i9 < (a1.length : Int))) = true then
    (getI a1 i9).bind fun e15 =>
    (laws_szIns e15 left8).bind fun r16 =>
    if (decide (r16 < 0)) = true then
      some (Sum.inr (Sum.inr (-1)))
    else
      some (Sum.inl (r16, IntKind.wrap .i64 (i9 + 1)))
  else
    some (Sum.inr (Sum.inl left8))
def laws_szInsS (a1 : List GIns) (left2 : Int) : Option (Int) :=
  if (decide (IntKind.wrap .i64 (left2 - (a1.length : Int)) < 0)) = true then
    some (-1)
  else
    Option.bind (
      loopP (laws_szInsS_l1 a1) (IntKind.wrap .i64 (left2 - (a1.length : Int)), 0)) fun j7 =>
    match j7 with
    | Sum.inr z => some z
    | Sum.inl left22 =>
      some left22
def laws_szCode (a1 : GCode) (left2 : Int) : Option (Int) :=
  if (decide (IntKind.wrap .i64 (left2 - (a1.Name.size : Int)) < 0)) = true then
    some (-1)
  else
    (laws_szIntS a1.Locals (IntKind.wrap .i64 (left2 - (a1.Name.size : Int)))).bind fun r5 =>
    if (decide (r5 < 0)) = true then
      some (-1)
    else
      (laws_szInsS a1.Words r5).bind fun r9 =>
      if (decide (r9 < 0)) = true then
        some (-1)
      else
        some r9
def spec_l01In (x1 : Int) (least2 : Int) (most3 : Int) : Option (Bool) :=
  Option.bind (
    if (decide (x1 ≥ least2)) = true then
      some (decide (x1 ≤ most3))
    else
      some false) fun v8 =>
  some v8
def spec_l03Letter (b1 : Int) : Option (Bool) :=
  Option.bind (
    if (decide (b1 ≥ 97)) = true then
      some (decide (b1 ≤ 122))
    else
      some false) fun v6 =>
  some v6
def spec_l03Keys : Option (List ByteArray) :=
  some [(⟨#[102, 110]⟩ : ByteArray), (⟨#[108, 101, 116]⟩ : ByteArray), (⟨#[105, 102]⟩ : ByteArray), (⟨#[101, 108, 115, 101]⟩ : ByteArray), (⟨#[119, 104, 105, 108, 101]⟩ : ByteArray), (⟨#[112, 114, 105, 110, 116]⟩ : ByteArray), (⟨#[100, 111]⟩ : ByteArray), (⟨#[110, 101, 119]⟩ : ByteArray), (⟨#[99, 108, 111, 110, 101]⟩ : ByteArray), (⟨#[109, 117, 116]⟩ : ByteArray), (⟨#[105, 110, 112, 117, 116]⟩ : ByteArray), (⟨#[105, 110, 116]⟩ : ByteArray), (⟨#[98, 111, 120]⟩ : ByteArray), (⟨#[114, 101, 116]⟩ : ByteArray)]
def spec_KeyWord_l1 (s1 : ByteArray) (r2 : List ByteArray) : Int → Option ((Int) ⊕ ((Unit) ⊕ (Bool))) := fun i7 =>
  if (decide (i7 < (r2.length : Int))) = true then
    (getI r2 i7).bind fun e13 =>
    if (sEq e13 s1) = true then
      some (Sum.inr (Sum.inr true))
    else
      some (Sum.inl (IntKind.wrap .i64 (i7 + 1)))
  else
    some (Sum.inr (Sum.inl ()))
def spec_KeyWord (s1 : ByteArray) : Option (Bool) :=
  (spec_l03Keys ).bind fun r2 =>
  Option.bind (
    loopP (spec_KeyWord_l1 s1 r2) 0) fun j6 =>
  match j6 with
  | Sum.inr z => some z
  | Sum.inl () =>
    some false
def spec_l03Figure (b1 : Int) : Option (Bool) :=
  Option.bind (
    if (decide (b1 ≥ 48)) = true then
      some (decide (b1 ≤ 57))
    else
      some false) fun v6 =>
  some v6
def spec_NameOk_l1 (s1 : ByteArray) : Int → Option ((Int) ⊕ ((Unit) ⊕ (Bool))) := fun i21 =>
  if (decide (i21 < (s1.size : Int))) = true then
    Option.bind (
      (sAt s1 i21).bind fun c29 =>
      (spec_l03Letter c29).bind fun r30 =>
      if (!r30) = true then
        (spec_l03Figure c29).bind fun r34 =>
        some (!r34)
      else
        some false) fun v36 =>
    if v36 = true then
      some (Sum.inr (Sum.inr false))
    else
      some (Sum.inl (IntKind.wrap .i64 (i21 + 1)))
  else
    some (Sum.inr (Sum.inl ()))
def spec_NameOk (s1 : ByteArray) : Option (Bool) :=
  Option.bind (
    (spec_l01In (s1.size : Int) 1 8).bind fun r4 =>
    if (!r4) = true then
      some true
    else
      (sAt s1 0).bind fun c8 =>
      (spec_l03Letter c8).bind fun r9 =>
      if (!r9) = true then
        some true
      else
        (spec_KeyWord s1).bind fun r13 =>
        some r13) fun v15 =>
  if v15 = true then
    some false
  else
    Option.bind (
      loopP (spec_NameOk_l1 s1) 0) fun j20 =>
    match j20 with
    | Sum.inr z => some z
    | Sum.inl () =>
      some true
def spec_l11Place (c1 : GCode) (n2 : Int) : Option (Bool) :=
  (spec_l01In n2 0 (IntKind.wrap .i64 ((c1.Locals.length : Int) - 1))).bind fun r3 =>
  some r3
def spec_l11A (c1 : GCode) (x2 : GIns) : Option (Bool) :=
  Option.bind (
    if (x2.Op == 13) = true then
      some true
    else
      some (x2.Op == 20)) fun v7 =>
  if v7 = true then
    Option.bind (
      if (x2.A == (-1)) = true then
        some true
      else
        (spec_l11Place c1 x2.A).bind fun r14 =>
        some r14) fun v16 =>
    some v16
  else
    if (x2.Op == 18) = true then
      some (x2.A == 0)
    else
      (spec_l11Place c1 x2.A).bind fun r19 =>
      some r19
def spec_l11HasB (op1 : Int) : Option (Bool) :=
  Option.bind (
    (spec_l01In op1 2 7).bind fun r4 =>
    if r4 = true then
      some true
    else
      (spec_l01In op1 9 12).bind fun r8 =>
      if r8 = true then
        some true
      else
        if (op1 == 14) = true then
          some true
        else
          some (op1 == 15)) fun v14 =>
  some v14
def spec_l11HasC (op1 : Int) : Option (Bool) :=
  (spec_l01In op1 10 12).bind fun r2 =>
  some r2
def spec_WordOk_l1 (c1 : GCode) (x2 : GIns) : Int → Option ((Int) ⊕ ((Unit) ⊕ (Bool))) := fun i89 =>
  if (decide (i89 < (x2.Args.length : Int))) = true then
    (getI x2.Args i89).bind fun e96 =>
    (spec_l11Place c1 e96).bind fun r97 =>
    if (!r97) = true then
      some (Sum.inr (Sum.inr false))
    else
      some (Sum.inl (IntKind.wrap .i64 (i89 + 1)))
  else
    some (Sum.inr (Sum.inl ()))
def spec_WordOk (c1 : GCode) (x2 : GIns) : Option (Bool) :=
  Option.bind (
    (spec_l01In x2.Op 1 20).bind fun r5 =>
    if (!r5) = true then
      some true
    else
      (spec_l11A c1 x2).bind fun r9 =>
      some (!r9)) fun v11 =>
  if v11 = true then
    some false
  else
    Option.bind (
      (spec_l11HasB x2.Op).bind fun r16 =>
      if r16 = true then
        (spec_l11Place c1 x2.B).bind fun r20 =>
        if (!r20) = true then
          some true
        else
          (spec_l11HasB x2.Op).bind fun r24 =>
          if (!r24) = true then
            some (x2.B != 0)
          else
            some false
      else
        (spec_l11HasB x2.Op).bind fun r28 =>
        if (!r28) = true then
          some (x2.B != 0)
        else
          some false) fun v32 =>
    if v32 = true then
      some false
    else
      Option.bind (
        (spec_l11HasC x2.Op).bind fun r37 =>
        if r37 = true then
          (spec_l11Place c1 x2.C).bind fun r41 =>
          if (!r41) = true then
            some true
          else
            (spec_l11HasC x2.Op).bind fun r45 =>
            if (!r45) = true then
              some (x2.C != 0)
            else
              some false
        else
          (spec_l11HasC x2.Op).bind fun r49 =>
          if (!r49) = true then
            some (x2.C != 0)
          else
            some false) fun v53 =>
      if v53 = true then
        some false
      else
        Option.bind (
          if (x2.Op == 1) = true then
            (spec_l01In x2.Num 0 1000000000).bind fun r61 =>
            if (!r61) = true then
              some (Sum.inr false)
            else
              some (Sum.inl ())
          else
            Option.bind (
              if (x2.Op == 18) = true then
                some (x2.Op == 18)
              else
                some (x2.Op == 19)) fun v70 =>
            if v70 = true then
              (spec_l01In x2.Num 0 (IntKind.wrap .i64 ((c1.Words.length : Int) - 1))).bind fun r73 =>
              if (!r73) = true then
                some (Sum.inr false)
              else
                some (Sum.inl ())
            else
              if (x2.Num != 0) = true then
                some (Sum.inr false)
              else
                some (Sum.inl ())) fun j58 =>
        match j58 with
        | Sum.inr z => some z
        | Sum.inl () =>
          if (x2.Op != 13) = true then
            Option.bind (
              if (sEq x2.Name (⟨#[]⟩ : ByteArray)) = true then
                some ((x2.Args.length : Int) == 0)
              else
                some false) fun v85 =>
            some v85
          else
            Option.bind (
              loopP (spec_WordOk_l1 c1 x2) 0) fun j88 =>
            match j88 with
            | Sum.inr z => some z
            | Sum.inl () =>
              Option.bind (
                (spec_NameOk x2.Name).bind fun r105 =>
                if r105 = true then
                  some (decide ((x2.Args.length : Int) ≤ 3))
                else
                  some false) fun v109 =>
              some v109
def spec_CodeOk_l1 (c1 : GCode) : Int → Option ((Int) ⊕ ((Unit) ⊕ (Bool))) := fun i25 =>
  if (decide (i25 < (c1.Locals.length : Int))) = true then
    (getI c1.Locals i25).bind fun e31 =>
    (spec_l01In e31 1 4).bind fun r32 =>
    if (!r32) = true then
      some (Sum.inr (Sum.inr false))
    else
      some (Sum.inl (IntKind.wrap .i64 (i25 + 1)))
  else
    some (Sum.inr (Sum.inl ()))
def spec_CodeOk_l2 (c1 : GCode) : Int → Option ((Int) ⊕ ((Unit) ⊕ (Bool))) := fun i41 =>
  if (decide (i41 < (c1.Words.length : Int))) = true then
    (getI c1.Words i41).bind fun e48 =>
    (spec_WordOk c1 e48).bind fun r49 =>
    if (!r49) = true then
      some (Sum.inr (Sum.inr false))
    else
      some (Sum.inl (IntKind.wrap .i64 (i41 + 1)))
  else
    some (Sum.inr (Sum.inl ()))
def spec_CodeOk (c1 : GCode) : Option (Bool) :=
  Option.bind (
    (spec_NameOk c1.Name).bind fun r4 =>
    if (!r4) = true then
      some true
    else
      if (decide ((c1.Locals.length : Int) > 200)) = true then
        some true
      else
        (spec_l01In c1.Params 0 (c1.Locals.length : Int)).bind fun r10 =>
        if (!r10) = true then
          some true
        else
          (spec_l01In (c1.Words.length : Int) 1 400).bind fun r14 =>
          if (!r14) = true then
            some true
          else
            (getI c1.Words (IntKind.wrap .i64 ((c1.Words.length : Int) - 1))).bind fun e18 =>
            some (e18.Op != 20)) fun v19 =>
  if v19 = true then
    some false
  else
    Option.bind (
      loopP (spec_CodeOk_l1 c1) 0) fun j24 =>
    match j24 with
    | Sum.inr z => some z
    | Sum.inl () =>
      Option.bind (
        loopP (spec_CodeOk_l2 c1) 0) fun j40 =>
      match j40 with
      | Sum.inr z => some z
      | Sum.inl () =>
        some true
def spec_l29Heads_l1 (c1 : GCode) : ((List Bool) × Int) → Option (((List Bool) × Int) ⊕ (List Bool)) := fun ⟨out8, i9⟩ =>
  if (decide (i9 < (c1.Words.length : Int))) = true then
    (getI c1.Words i9).bind fun e15 =>
    Option.bind (
      Option.bind (
        if (e15.Op == 18) = true then
          some true
        else
          some (e15.Op == 19)) fun v23 =>
      if v23 = true then
        (getI out8 e15.Num).bind fun e26 =>
        bindS (List.set out8 e15.Num.toNat true) fun l27 =>
        some l27
      else
        some out8) fun out28 =>
    Option.bind (
      if (e15.Op == 18) = true then
        some true
      else
        if (e15.Op == 19) = true then
          some true
        else
          some (e15.Op == 20)) fun v35 =>
    if v35 = true then
      (getI out28 (IntKind.wrap .i64 (i9 + 1))).bind fun e38 =>
      bindS (List.set out28 ((IntKind.wrap .i64 (i9 + 1)).toNat) true) fun l39 =>
      some (Sum.inl (l39, IntKind.wrap .i64 (i9 + 1)))
    else
      some (Sum.inl (out28, IntKind.wrap .i64 (i9 + 1)))
  else
    some (Sum.inr out8)
def spec_l29Heads (c1 : GCode) : Option (List Bool) :=
  (mkI 1 (IntKind.wrap .i64 ((c1.Words.length : Int) + 1)) false).bind fun l2 =>
  (getI l2 0).bind fun e3 =>
  bindS (List.set l2 0 true) fun l4 =>
  Option.bind (
    loopP (spec_l29Heads_l1 c1) (l4, 0)) fun out41 =>
  (getI out41 (c1.Words.length : Int)).bind fun e42 =>
  bindS (List.set out41 ((c1.Words.length : Int).toNat) true) fun l43 =>
  some l43
def spec_l11Add_l1 (list1 : List Int) (n2 : Int) : Int → Option ((Int) ⊕ ((Unit) ⊕ (List Int))) := fun i6 =>
  if (decide (i6 < (list1.length : Int))) = true then
    (getI list1 i6).bind fun e12 =>
    if (e12 == n2) = true then
      some (Sum.inr (Sum.inr list1))
    else
      some (Sum.inl (IntKind.wrap .i64 (i6 + 1)))
  else
    some (Sum.inr (Sum.inl ()))
def spec_l11Add (list1 : List Int) (n2 : Int) : Option (List Int) :=
  Option.bind (
    loopP (spec_l11Add_l1 list1 n2) 0) fun j5 =>
  match j5 with
  | Sum.inr z => some z
  | Sum.inl () =>
    (appI 8 list1 [n2]).bind fun l17 =>
    some l17
def spec_Next_l1 (c1 : GCode) (list17 : List Int) : ((List Int) × Int) → Option (((List Int) × Int) ⊕ (List Int)) := fun ⟨out21, k22⟩ =>
  if (decide (k22 < (list17.length : Int))) = true then
    (getI list17 k22).bind fun e29 =>
    (spec_l01In e29 0 (IntKind.wrap .i64 ((c1.Words.length : Int) - 1))).bind fun r30 =>
    if r30 = true then
      (getI list17 k22).bind fun e34 =>
      (spec_l11Add out21 e34).bind fun r35 =>
      some (Sum.inl (r35, IntKind.wrap .i64 (k22 + 1)))
    else
      some (Sum.inl (out21, IntKind.wrap .i64 (k22 + 1)))
  else
    some (Sum.inr out21)
def spec_Next (c1 : GCode) (i2 : Int) : Option (List Int) :=
  (spec_l01In i2 0 (IntKind.wrap .i64 ((c1.Words.length : Int) - 1))).bind fun r3 =>
  if (!r3) = true then
    some []
  else
    (getI c1.Words i2).bind fun e7 =>
    Option.bind (
      if (e7.Op == 20) = true then
        some []
      else
        if (e7.Op == 18) = true then
          some [e7.Num]
        else
          if (e7.Op == 19) = true then
            some [IntKind.wrap .i64 (i2 + 1), e7.Num]
          else
            some [IntKind.wrap .i64 (i2 + 1)]) fun list17 =>
    Option.bind (
      loopP (spec_Next_l1 c1 list17) ([], 0)) fun out38 =>
    some out38
def spec_BlockAt_l1 (list1 : List GBlock) (i2 : Int) : Int → Option ((Int) ⊕ ((Unit) ⊕ (Int))) := fun k6 =>
  if (decide (k6 < (list1.length : Int))) = true then
    Option.bind (
      (getI list1 k6).bind fun e14 =>
      if (decide (e14.From ≤ i2)) = true then
        some (decide (i2 < e14.To))
      else
        some false) fun v17 =>
    if v17 = true then
      some (Sum.inr (Sum.inr k6))
    else
      some (Sum.inl (IntKind.wrap .i64 (k6 + 1)))
  else
    some (Sum.inr (Sum.inl ()))
def spec_BlockAt (list1 : List GBlock) (i2 : Int) : Option (Int) :=
  Option.bind (
    loopP (spec_BlockAt_l1 list1 i2) 0) fun j5 =>
  match j5 with
  | Sum.inr z => some z
  | Sum.inl () =>
    some (-1)
def spec_BlocksOf_l1 (r6 : List Bool) : ((List GBlock) × Int × Int) → Option (((List GBlock) × Int × Int) ⊕ (List GBlock)) := fun ⟨out11, from12, i13⟩ =>
  if (decide (i13 < (r6.length : Int))) = true then
    (getI r6 i13).bind fun e19 =>
    if e19 = true then
      (appI 40 out11 [(⟨from12, i13, []⟩ : GBlock)]).bind fun l22 =>
      some (Sum.inl (l22, i13, IntKind.wrap .i64 (i13 + 1)))
    else
      some (Sum.inl (out11, from12, IntKind.wrap .i64 (i13 + 1)))
  else
    some (Sum.inr out11)
def spec_BlocksOf_l3 (out28 : List GBlock) (r40 : List Int) : ((List Bool) × Int) → Option (((List Bool) × Int) ⊕ (List Bool)) := fun ⟨has46, i47⟩ =>
  if (decide (i47 < (r40.length : Int))) = true then
    (getI r40 i47).bind fun e53 =>
    (spec_BlockAt out28 e53).bind fun r54 =>
    (getI has46 r54).bind fun e56 =>
    bindS (List.set has46 r54.toNat true) fun l57 =>
    some (Sum.inl (l57, IntKind.wrap .i64 (i47 + 1)))
  else
    some (Sum.inr has46)
def spec_BlocksOf_l4 (k29 : Int) (has59 : List Bool) : ((List GBlock) × Int) → Option (((List GBlock) × Int) ⊕ (List GBlock)) := fun ⟨out60, i61⟩ =>
  if (decide (i61 < (has59.length : Int))) = true then
    (getI has59 i61).bind fun e67 =>
    if e67 = true then
      (getI out60 k29).bind fun e70 =>
      (appI 8 e70.Next [i61]).bind fun l71 =>
      bindS (List.set out60 k29.toNat (⟨e70.From, e70.To, l71⟩ : GBlock)) fun l72 =>
      some (Sum.inl (l72, IntKind.wrap .i64 (i61 + 1)))
    else
      some (Sum.inl (out60, IntKind.wrap .i64 (i61 + 1)))
  else
    some (Sum.inr out60)
def spec_BlocksOf_l2 (c1 : GCode) : ((List GBlock) × Int) → Option (((List GBlock) × Int) ⊕ (List GBlock)) := fun ⟨out28, k29⟩ =>
  if (decide (k29 < (out28.length : Int))) = true then
    Option.bind (
      (getI out28 k29).bind fun e39 =>
      (spec_Next c1 (IntKind.wrap .i64 (e39.To - 1))).bind fun r40 =>
      (mkI 1 (out28.length : Int) false).bind fun l42 =>
      Option.bind (
        loopP (spec_BlocksOf_l3 out28 r40) (l42, 0)) fun has59 =>
      loopP (spec_BlocksOf_l4 k29 has59) (out28, 0)) fun out74 =>
    some (Sum.inl (out74, IntKind.wrap .i64 (k29 + 1)))
  else
    some (Sum.inr out28)
def spec_BlocksOf (c1 : GCode) : Option (List GBlock) :=
  (spec_CodeOk c1).bind fun r2 =>
  if (!r2) = true then
    some []
  else
    (spec_l29Heads c1).bind fun r6 =>
    Option.bind (
      loopP (spec_BlocksOf_l1 r6) ([], 0, 1)) fun out24 =>
    Option.bind (
      loopP (spec_BlocksOf_l2 c1) (out24, 0)) fun out76 =>
    some out76
def spec_l29Reached_l2 (e20 : GBlock) : ((List Bool) × (List Int) × Int) → Option (((List Bool) × (List Int) × Int) ⊕ ((List Bool) × (List Int))) := fun ⟨has21, all22, k23⟩ =>
  if (decide (k23 < (e20.Next.length : Int))) = true then
    (getI e20.Next k23).bind fun e29 =>
    (getI has21 e29).bind fun e30 =>
    if (!e30) = true then
      (getI e20.Next k23).bind fun e33 =>
      (getI has21 e33).bind fun e34 =>
      bindS (List.set has21 e33.toNat true) fun l35 =>
      (getI e20.Next k23).bind fun e36 =>
      (appI 8 all22 [e36]).bind fun l37 =>
      some (Sum.inl (l35, l37, IntKind.wrap .i64 (k23 + 1)))
    else
      some (Sum.inl (has21, all22, IntKind.wrap .i64 (k23 + 1)))
  else
    some (Sum.inr (has21, all22))
def spec_l29Reached_l1 (list1 : List GBlock) : ((List Bool) × (List Int) × Int) → Option (((List Bool) × (List Int) × Int) ⊕ (List Bool)) := fun ⟨has8, all9, i10⟩ =>
  if (decide (i10 < (all9.length : Int))) = true then
    Option.bind (
      (getI all9 i10).bind fun e19 =>
      (getI list1 e19).bind fun e20 =>
      loopP (spec_l29Reached_l2 e20) (has8, all9, 0)) fun ⟨has39, all40⟩ =>
    some (Sum.inl (has39, all40, IntKind.wrap .i64 (i10 + 1)))
  else
    some (Sum.inr has8)
def spec_l29Reached (list1 : List GBlock) : Option (List Bool) :=
  (mkI 1 (list1.length : Int) false).bind fun l2 =>
  (getI l2 0).bind fun e3 =>
  bindS (List.set l2 0 true) fun l4 =>
  Option.bind (
    loopP (spec_l29Reached_l1 list1) (l4, [0], 0)) fun has42 =>
  some has42
def spec_l29Meet_l1 (to2 : Int) (from3 : Int) : ((List (List Bool)) × Bool × Int) → Option (((List (List Bool)) × Bool × Int) ⊕ ((List (List Bool)) × Bool)) := fun ⟨doms7, some8, k9⟩ =>
  if (decide (k9 < (doms7.length : Int))) = true then
    Option.bind (
      if (k9 != to2) = true then
        (getI doms7 to2).bind fun e19 =>
        (getI e19 k9).bind fun e20 =>
        if e20 = true then
          (getI doms7 from3).bind fun e23 =>
          (getI e23 k9).bind fun e24 =>
          some (!e24)
        else
          some false
      else
        some false) fun v25 =>
    if v25 = true then
      (getI doms7 to2).bind fun e28 =>
      (getI e28 k9).bind fun e29 =>
      bindS (List.set e28 k9.toNat false) fun l30 =>
      bindS (List.set doms7 to2.toNat l30) fun l31 =>
      some (Sum.inl (l31, true, IntKind.wrap .i64 (k9 + 1)))
    else
      some (Sum.inl (doms7, some8, IntKind.wrap .i64 (k9 + 1)))
  else
    some (Sum.inr (doms7, some8))
def spec_l29Meet (doms1 : List (List Bool)) (to2 : Int) (from3 : Int) : Option (Bool × (List (List Bool))) :=
  Option.bind (
    loopP (spec_l29Meet_l1 to2 from3) (doms1, false, 0)) fun ⟨doms33, some34⟩ =>
  some (some34, doms33)
def spec_DomsOf_l2 (r2 : List GBlock) (i8 : Int) : ((List Bool) × Int) → Option (((List Bool) × Int) ⊕ (List Bool)) := fun ⟨row21, k22⟩ =>
  if (decide (k22 < (r2.length : Int))) = true then
    if (decide (i8 > 0)) = true then
      (getI row21 k22).bind fun e30 =>
      bindS (List.set row21 k22.toNat true) fun l31 =>
      some (Sum.inl (l31, IntKind.wrap .i64 (k22 + 1)))
    else
      (getI row21 k22).bind fun e32 =>
      bindS (List.set row21 k22.toNat (k22 == 0)) fun l33 =>
      some (Sum.inl (l33, IntKind.wrap .i64 (k22 + 1)))
  else
    some (Sum.inr row21)
def spec_DomsOf_l1 (r2 : List GBlock) : ((List (List Bool)) × Int) → Option (((List (List Bool)) × Int) ⊕ (List (List Bool))) := fun ⟨doms7, i8⟩ =>
  if (decide (i8 < (r2.length : Int))) = true then
    Option.bind (
      (mkI 1 (r2.length : Int) false).bind fun l17 =>
      Option.bind (
        loopP (spec_DomsOf_l2 r2 i8) (l17, 0)) fun row35 =>
      (appI 24 doms7 [row35]).bind fun l36 =>
      some l36) fun doms37 =>
    some (Sum.inl (doms37, IntKind.wrap .i64 (i8 + 1)))
  else
    some (Sum.inr doms7)
def spec_DomsOf_l5 (r2 : List GBlock) (r42 : List Bool) (i56 : Int) : ((List (List Bool)) × Bool × Int) → Option (((List (List Bool)) × Bool × Int) ⊕ ((List (List Bool)) × Bool)) := fun ⟨doms65, some66, k67⟩ =>
  Option.bind (
    (getI r2 i56).bind fun e73 =>
    if (decide (k67 < (e73.Next.length : Int))) = true then
      (getI r42 i56).bind fun e76 =>
      some e76
    else
      some false) fun v77 =>
  if v77 = true then
    Option.bind (
      (getI r2 i56).bind fun e82 =>
      (getI e82.Next k67).bind fun e83 =>
      if (decide (e83 > 0)) = true then
        (spec_l29Meet doms65 e83 i56).bind fun ⟨r86, q87⟩ =>
        some (q87, r86)
      else
        some (doms65, false)) fun ⟨doms89, v90⟩ =>
    if v90 = true then
      some (Sum.inl (doms89, true, IntKind.wrap .i64 (k67 + 1)))
    else
      some (Sum.inl (doms89, some66, IntKind.wrap .i64 (k67 + 1)))
  else
    some (Sum.inr (doms65, some66))
def spec_DomsOf_l4 (r2 : List GBlock) (r42 : List Bool) : ((List (List Bool)) × Bool × Int) → Option (((List (List Bool)) × Bool × Int) ⊕ (((List (List Bool)) × Bool) ⊕ (List (List Bool)))) := fun ⟨doms54, some55, i56⟩ =>
  if (decide (i56 < (r2.length : Int))) = true then
    Option.bind (
      loopP (spec_DomsOf_l5 r2 r42 i56) (doms54, some55, 0)) fun ⟨doms94, some95⟩ =>
    some (Sum.inl (doms94, some95, IntKind.wrap .i64 (i56 + 1)))
  else
    some (Sum.inr (Sum.inl (doms54, some55)))
def spec_DomsOf_l3 (r2 : List GBlock) (r42 : List Bool) : ((List (List Bool)) × Bool) → Option (((List (List Bool)) × Bool) ⊕ (List (List Bool))) := fun ⟨doms47, some48⟩ =>
  if some48 = true then
    loopP (spec_DomsOf_l4 r2 r42) (doms47, false, 0)
  else
    some (Sum.inr doms47)
def spec_DomsOf (c1 : GCode) : Option (List (List Bool)) :=
  (spec_BlocksOf c1).bind fun r2 =>
  Option.bind (
    loopP (spec_DomsOf_l1 r2) ([], 0)) fun doms39 =>
  if ((r2.length : Int) == 0) = true then
    some doms39
  else
    (spec_l29Reached r2).bind fun r42 =>
    Option.bind (
      loopP (spec_DomsOf_l3 r2 r42) (doms39, true)) fun doms98 =>
    some doms98
def spec_LoopHeads_l3 (r2 : List GBlock) (r6 : List (List Bool)) (r8 : List Bool) (h14 : Int) (i27 : Int) : (Bool × Int) → Option ((Bool × Int) ⊕ (Bool)) := fun ⟨has42, k43⟩ =>
  Option.bind (
    (getI r2 i27).bind fun e49 =>
    if (decide (k43 < (e49.Next.length : Int))) = true then
      (getI r8 i27).bind fun e52 =>
      some e52
    else
      some false) fun v53 =>
  if v53 = true then
    if has42 = true then
      some (Sum.inl (true, IntKind.wrap .i64 (k43 + 1)))
    else
      (getI r2 i27).bind fun e58 =>
      (getI e58.Next k43).bind fun e59 =>
      if (e59 == h14) = true then
        (getI r6 i27).bind fun e62 =>
        (getI e62 h14).bind fun e63 =>
        some (Sum.inl (e63, IntKind.wrap .i64 (k43 + 1)))
      else
        some (Sum.inl (false, IntKind.wrap .i64 (k43 + 1)))
  else
    some (Sum.inr has42)
def spec_LoopHeads_l2 (r2 : List GBlock) (r6 : List (List Bool)) (r8 : List Bool) (h14 : Int) : (Bool × Int) → Option ((Bool × Int) ⊕ (Bool)) := fun ⟨has26, i27⟩ =>
  Option.bind (
    if (decide (i27 < (r2.length : Int))) = true then
      (getI r8 h14).bind fun e35 =>
      some e35
    else
      some false) fun v36 =>
  if v36 = true then
    Option.bind (
      loopP (spec_LoopHeads_l3 r2 r6 r8 h14 i27) (has26, 0)) fun has65 =>
    some (Sum.inl (has65, IntKind.wrap .i64 (i27 + 1)))
  else
    some (Sum.inr has26)
def spec_LoopHeads_l1 (r2 : List GBlock) (r6 : List (List Bool)) (r8 : List Bool) : ((List Int) × Int) → Option (((List Int) × Int) ⊕ (List Int)) := fun ⟨out13, h14⟩ =>
  if (decide (h14 < (r2.length : Int))) = true then
    Option.bind (
      Option.bind (
        loopP (spec_LoopHeads_l2 r2 r6 r8 h14) (false, 0)) fun has67 =>
      if has67 = true then
        (appI 8 out13 [h14]).bind fun l70 =>
        some l70
      else
        some out13) fun out71 =>
    some (Sum.inl (out71, IntKind.wrap .i64 (h14 + 1)))
  else
    some (Sum.inr out13)
def spec_LoopHeads (c1 : GCode) : Option (List Int) :=
  (spec_BlocksOf c1).bind fun r2 =>
  if ((r2.length : Int) == 0) = true then
    some []
  else
    (spec_DomsOf c1).bind fun r6 =>
    (spec_l29Reached r2).bind fun r8 =>
    Option.bind (
      loopP (spec_LoopHeads_l1 r2 r6 r8) ([], 0)) fun out73 =>
    some out73
def laws_toIntS_l1 (a1 : List Int) : ((List Int) × Int) → Option (((List Int) × Int) ⊕ (List Int)) := fun ⟨out6, i7⟩ =>
  if (decide (i7 < (a1.length : Int))) = true then
    (getI a1 i7).bind fun e13 =>
    (getI out6 i7).bind fun e14 =>
    bindS (List.set out6 i7.toNat e13) fun l15 =>
    some (Sum.inl (l15, IntKind.wrap .i64 (i7 + 1)))
  else
    some (Sum.inr out6)
def laws_toIntS (a1 : List Int) : Option (List Int) :=
  (mkI 8 (a1.length : Int) 0).bind fun l2 =>
  Option.bind (
    loopP (laws_toIntS_l1 a1) (l2, 0)) fun out17 =>
  some out17
def laws_toIns (a1 : GIns) : Option (GIns) :=
  (laws_toIntS a1.Args).bind fun r2 =>
  some (⟨a1.Op, a1.A, a1.B, a1.C, a1.Num, a1.Name, r2⟩ : GIns)
def laws_toInsS_l1 (a1 : List GIns) : ((List GIns) × Int) → Option (((List GIns) × Int) ⊕ (List GIns)) := fun ⟨out6, i7⟩ =>
  if (decide (i7 < (a1.length : Int))) = true then
    (getI a1 i7).bind fun e13 =>
    (laws_toIns e13).bind fun r14 =>
    (getI out6 i7).bind fun e16 =>
    bindS (List.set out6 i7.toNat r14) fun l17 =>
    some (Sum.inl (l17, IntKind.wrap .i64 (i7 + 1)))
  else
    some (Sum.inr out6)
def laws_toInsS (a1 : List GIns) : Option (List GIns) :=
  (mkI 80 (a1.length : Int) (⟨0, 0, 0, 0, 0, ByteArray.empty, []⟩ : GIns)).bind fun l2 =>
  Option.bind (
    loopP (laws_toInsS_l1 a1) (l2, 0)) fun out19 =>
  some out19
def laws_toCode (a1 : GCode) : Option (GCode) :=
  (laws_toIntS a1.Locals).bind fun r2 =>
  (laws_toInsS a1.Words).bind fun r4 =>
  some (⟨a1.Name, a1.Params, r2, r4⟩ : GCode)
def impl_hasInt_l1 (l1 : List Int) (n2 : Int) : Int → Option ((Int) ⊕ ((Unit) ⊕ (Bool))) := fun v6 =>
  if (decide (v6 < (l1.length : Int))) = true then
    (getI l1 v6).bind fun e12 =>
    if (e12 == n2) = true then
      some (Sum.inr (Sum.inr true))
    else
      some (Sum.inl (IntKind.wrap .i64 (v6 + 1)))
  else
    some (Sum.inr (Sum.inl ()))
def impl_hasInt (l1 : List Int) (n2 : Int) : Option (Bool) :=
  Option.bind (
    loopP (impl_hasInt_l1 l1 n2) 0) fun j5 =>
  match j5 with
  | Sum.inr z => some z
  | Sum.inl () =>
    some false
def impl_in (n1 : Int) (low2 : Int) (high3 : Int) : Option (Bool) :=
  Option.bind (
    if (decide (n1 ≥ low2)) = true then
      some (decide (n1 ≤ high3))
    else
      some false) fun v8 =>
  some v8
def impl_isLetter (b1 : Int) : Option (Bool) :=
  Option.bind (
    if (decide (b1 ≥ 97)) = true then
      some (decide (b1 ≤ 122))
    else
      some false) fun v6 =>
  some v6
def impl_isFigure (b1 : Int) : Option (Bool) :=
  Option.bind (
    if (decide (b1 ≥ 48)) = true then
      some (decide (b1 ≤ 57))
    else
      some false) fun v6 =>
  some v6
def impl_oneOf_l1 (s1 : ByteArray) (r6 : List ByteArray) : Int → Option ((Int) ⊕ ((Unit) ⊕ (Bool))) := fun v8 =>
  if (decide (v8 < (r6.length : Int))) = true then
    (getI r6 v8).bind fun e14 =>
    if (sEq e14 s1) = true then
      some (Sum.inr (Sum.inr true))
    else
      some (Sum.inl (IntKind.wrap .i64 (v8 + 1)))
  else
    some (Sum.inr (Sum.inl ()))
def impl_oneOf (s1 : ByteArray) (words2 : ByteArray) : Option (Bool) :=
  Option.bind (
    (strings_Split words2 (⟨#[32]⟩ : ByteArray)).bind fun r6 =>
    loopP (impl_oneOf_l1 s1 r6) 0) fun j5 =>
  match j5 with
  | Sum.inr z => some z
  | Sum.inl () =>
    some false
def impl_KeyWord (s1 : ByteArray) : Option (Bool) :=
  (impl_oneOf s1 (⟨#[102, 110, 32, 108, 101, 116, 32, 105, 102, 32, 101, 108, 115, 101, 32, 119, 104, 105, 108, 101, 32, 112, 114, 105, 110, 116, 32, 100, 111, 32, 110, 101, 119, 32, 99, 108, 111, 110, 101, 32, 109, 117, 116, 32, 105, 110, 112, 117, 116, 32, 105, 110, 116, 32, 98, 111, 120, 32, 114, 101, 116]⟩ : ByteArray)).bind fun r2 =>
  some r2
def impl_NameOk_l1 (s1 : ByteArray) : Int → Option ((Int) ⊕ ((Unit) ⊕ (Bool))) := fun i17 =>
  if (decide (i17 < (s1.size : Int))) = true then
    Option.bind (
      (sAt s1 i17).bind fun c25 =>
      (impl_isLetter c25).bind fun r26 =>
      if (!r26) = true then
        (impl_isFigure c25).bind fun r30 =>
        some (!r30)
      else
        some false) fun v32 =>
    if v32 = true then
      some (Sum.inr (Sum.inr false))
    else
      some (Sum.inl (IntKind.wrap .i64 (i17 + 1)))
  else
    some (Sum.inr (Sum.inl ()))
def impl_NameOk (s1 : ByteArray) : Option (Bool) :=
  Option.bind (
    (impl_in (s1.size : Int) 1 8).bind fun r4 =>
    if (!r4) = true then
      some true
    else
      (sAt s1 0).bind fun c8 =>
      (impl_isLetter c8).bind fun r9 =>
      some (!r9)) fun v11 =>
  if v11 = true then
    some false
  else
    Option.bind (
      loopP (impl_NameOk_l1 s1) 0) fun j16 =>
    match j16 with
    | Sum.inr z => some z
    | Sum.inl () =>
      (impl_KeyWord s1).bind fun r37 =>
      some (!r37)
def impl_isPlace (c1 : GCode) (n2 : Int) (has3 : Bool) : Option (Bool) :=
  if has3 = true then
    (impl_in n2 0 (IntKind.wrap .i64 ((c1.Locals.length : Int) - 1))).bind fun r6 =>
    some r6
  else
    some (n2 == 0)
def impl_hasA (op1 : Int) : Option (Bool) :=
  Option.bind (
    (impl_in op1 1 17).bind fun r4 =>
    if r4 = true then
      some true
    else
      if (op1 == 19) = true then
        some true
      else
        some (op1 == 20)) fun v10 =>
  some v10
def impl_hasB (op1 : Int) : Option (Bool) :=
  Option.bind (
    (impl_in op1 2 7).bind fun r4 =>
    if r4 = true then
      some true
    else
      (impl_in op1 9 12).bind fun r8 =>
      if r8 = true then
        some true
      else
        if (op1 == 14) = true then
          some true
        else
          some (op1 == 15)) fun v14 =>
  some v14
def impl_hasC (op1 : Int) : Option (Bool) :=
  (impl_in op1 10 12).bind fun r2 =>
  some r2
def impl_WordOk_l1 (c1 : GCode) (x2 : GIns) : Int → Option ((Int) ⊕ ((Unit) ⊕ (Bool))) := fun v75 =>
  if (decide (v75 < (x2.Args.length : Int))) = true then
    (getI x2.Args v75).bind fun e81 =>
    (impl_isPlace c1 e81 true).bind fun r82 =>
    if (!r82) = true then
      some (Sum.inr (Sum.inr false))
    else
      some (Sum.inl (IntKind.wrap .i64 (v75 + 1)))
  else
    some (Sum.inr (Sum.inl ()))
def impl_WordOk (c1 : GCode) (x2 : GIns) : Option (Bool) :=
  (impl_in x2.Op 1 20).bind fun r3 =>
  if (!r3) = true then
    some false
  else
    Option.bind (
      if (x2.Op == 13) = true then
        some (x2.A == (-1))
      else
        if (x2.Op == 20) = true then
          some (x2.A == (-1))
        else
          some false) fun none13 =>
    Option.bind (
      if (!none13) = true then
        (impl_hasA x2.Op).bind fun r18 =>
        (impl_isPlace c1 x2.A r18).bind fun r20 =>
        if (!r20) = true then
          some true
        else
          (impl_hasB x2.Op).bind fun r24 =>
          (impl_isPlace c1 x2.B r24).bind fun r26 =>
          if (!r26) = true then
            some true
          else
            (impl_hasC x2.Op).bind fun r30 =>
            (impl_isPlace c1 x2.C r30).bind fun r32 =>
            some (!r32)
      else
        (impl_hasB x2.Op).bind fun r34 =>
        (impl_isPlace c1 x2.B r34).bind fun r36 =>
        if (!r36) = true then
          some true
        else
          (impl_hasC x2.Op).bind fun r40 =>
          (impl_isPlace c1 x2.C r40).bind fun r42 =>
          some (!r42)) fun v44 =>
    if v44 = true then
      some false
    else
      Option.bind (
        if (x2.Op == 1) = true then
          some 1000000000
        else
          Option.bind (
            if (x2.Op == 18) = true then
              some (x2.Op == 18)
            else
              some (x2.Op == 19)) fun v57 =>
          if v57 = true then
            some (IntKind.wrap .i64 ((c1.Words.length : Int) - 1))
          else
            some 0) fun high60 =>
      (impl_in x2.Num 0 high60).bind fun r61 =>
      if (!r61) = true then
        some false
      else
        if (x2.Op != 13) = true then
          Option.bind (
            if (sEq x2.Name (⟨#[]⟩ : ByteArray)) = true then
              some ((x2.Args.length : Int) == 0)
            else
              some false) fun v71 =>
          some v71
        else
          Option.bind (
            loopP (impl_WordOk_l1 c1 x2) 0) fun j74 =>
          match j74 with
          | Sum.inr z => some z
          | Sum.inl () =>
            Option.bind (
              (impl_NameOk x2.Name).bind fun r90 =>
              if r90 = true then
                some (decide ((x2.Args.length : Int) ≤ 3))
              else
                some false) fun v94 =>
            some v94
def impl_CodeOk_l1 (c1 : GCode) : Int → Option ((Int) ⊕ ((Unit) ⊕ (Bool))) := fun v25 =>
  if (decide (v25 < (c1.Locals.length : Int))) = true then
    (getI c1.Locals v25).bind fun e31 =>
    (impl_in e31 1 4).bind fun r32 =>
    if (!r32) = true then
      some (Sum.inr (Sum.inr false))
    else
      some (Sum.inl (IntKind.wrap .i64 (v25 + 1)))
  else
    some (Sum.inr (Sum.inl ()))
def impl_CodeOk_l2 (c1 : GCode) : Int → Option ((Int) ⊕ ((Unit) ⊕ (Bool))) := fun v41 =>
  if (decide (v41 < (c1.Words.length : Int))) = true then
    (getI c1.Words v41).bind fun e47 =>
    (impl_WordOk c1 e47).bind fun r48 =>
    if (!r48) = true then
      some (Sum.inr (Sum.inr false))
    else
      some (Sum.inl (IntKind.wrap .i64 (v41 + 1)))
  else
    some (Sum.inr (Sum.inl ()))
def impl_CodeOk (c1 : GCode) : Option (Bool) :=
  Option.bind (
    (impl_NameOk c1.Name).bind fun r4 =>
    if (!r4) = true then
      some true
    else
      if (decide ((c1.Locals.length : Int) > 200)) = true then
        some true
      else
        (impl_in c1.Params 0 (c1.Locals.length : Int)).bind fun r10 =>
        if (!r10) = true then
          some true
        else
          (impl_in (c1.Words.length : Int) 1 400).bind fun r14 =>
          if (!r14) = true then
            some true
          else
            (getI c1.Words (IntKind.wrap .i64 ((c1.Words.length : Int) - 1))).bind fun e18 =>
            some (e18.Op != 20)) fun v19 =>
  if v19 = true then
    some false
  else
    Option.bind (
      loopP (impl_CodeOk_l1 c1) 0) fun j24 =>
    match j24 with
    | Sum.inr z => some z
    | Sum.inl () =>
      Option.bind (
        loopP (impl_CodeOk_l2 c1) 0) fun j40 =>
      match j40 with
      | Sum.inr z => some z
      | Sum.inl () =>
        some true
def impl_Next_l1 (c1 : GCode) (l18 : List Int) : ((List Int) × Int) → Option (((List Int) × Int) ⊕ (List Int)) := fun ⟨out22, v23⟩ =>
  if (decide (v23 < (l18.length : Int))) = true then
    (getI l18 v23).bind fun e29 =>
    (impl_in e29 0 (IntKind.wrap .i64 ((c1.Words.length : Int) - 1))).bind fun r30 =>
    if r30 = true then
      (appI 8 out22 [e29]).bind fun l34 =>
      some (Sum.inl (l34, IntKind.wrap .i64 (v23 + 1)))
    else
      some (Sum.inl (out22, IntKind.wrap .i64 (v23 + 1)))
  else
    some (Sum.inr out22)
def impl_Next (c1 : GCode) (i2 : Int) : Option (List Int) :=
  (impl_in i2 0 (IntKind.wrap .i64 ((c1.Words.length : Int) - 1))).bind fun r3 =>
  if (!r3) = true then
    some []
  else
    (getI c1.Words i2).bind fun e7 =>
    Option.bind (
      if (e7.Op == 20) = true then
        some []
      else
        if (e7.Op == 18) = true then
          some [e7.Num]
        else
          if (e7.Op == 19) = true then
            (appI 8 [IntKind.wrap .i64 (i2 + 1)] [e7.Num]).bind fun l17 =>
            some l17
          else
            some [IntKind.wrap .i64 (i2 + 1)]) fun l18 =>
    Option.bind (
      loopP (impl_Next_l1 c1 l18) ([], 0)) fun out36 =>
    some out36
def impl_BlocksOf_l1 (c1 : GCode) : ((List Bool) × Int) → Option (((List Bool) × Int) ⊕ (List Bool)) := fun ⟨begins14, v15⟩ =>
  if (decide (v15 < (c1.Words.length : Int))) = true then
    (getI c1.Words v15).bind fun e21 =>
    Option.bind (
      Option.bind (
        if (e21.Op == 18) = true then
          some true
        else
          some (e21.Op == 19)) fun v29 =>
      if v29 = true then
        (getI begins14 e21.Num).bind fun e32 =>
        bindS (List.set begins14 e21.Num.toNat true) fun l33 =>
        some l33
      else
        some begins14) fun begins34 =>
    Option.bind (
      if (e21.Op == 18) = true then
        some true
      else
        if (e21.Op == 19) = true then
          some true
        else
          some (e21.Op == 20)) fun v41 =>
    if v41 = true then
      (getI begins34 (IntKind.wrap .i64 (v15 + 1))).bind fun e44 =>
      bindS (List.set begins34 ((IntKind.wrap .i64 (v15 + 1)).toNat) true) fun l45 =>
      some (Sum.inl (l45, IntKind.wrap .i64 (v15 + 1)))
    else
      some (Sum.inl (begins34, IntKind.wrap .i64 (v15 + 1)))
  else
    some (Sum.inr begins14)
def impl_BlocksOf_l2 (c1 : GCode) (begins47 : List Bool) : ((List GBlock) × Int × Int) → Option (((List GBlock) × Int × Int) ⊕ (List GBlock)) := fun ⟨out51, from52, i53⟩ =>
  if (decide (i53 ≤ (c1.Words.length : Int))) = true then
    (getI begins47 i53).bind fun e59 =>
    if e59 = true then
      (appI 40 out51 [(⟨from52, i53, []⟩ : GBlock)]).bind fun l62 =>
      some (Sum.inl (l62, i53, IntKind.wrap .i64 (i53 + 1)))
    else
      some (Sum.inl (out51, from52, IntKind.wrap .i64 (i53 + 1)))
  else
    some (Sum.inr out51)
def impl_BlocksOf_l4 (out68 : List GBlock) (v69 : Int) (r80 : List Int) : ((List GBlock) × Int) → Option (((List GBlock) × Int) ⊕ (List GBlock)) := fun ⟨out82, v83⟩ =>
  if (decide (v83 < (out68.length : Int))) = true then
    (getI out82 v83).bind fun e89 =>
    (impl_hasInt r80 e89.From).bind fun r90 =>
    if r90 = true then
      (getI out82 v69).bind fun e94 =>
      (appI 8 e94.Next [v83]).bind fun l95 =>
      bindS (List.set out82 v69.toNat (⟨e94.From, e94.To, l95⟩ : GBlock)) fun l96 =>
      some (Sum.inl (l96, IntKind.wrap .i64 (v83 + 1)))
    else
      some (Sum.inl (out82, IntKind.wrap .i64 (v83 + 1)))
  else
    some (Sum.inr out82)
def impl_BlocksOf_l3 (c1 : GCode) (out64 : List GBlock) : ((List GBlock) × Int) → Option (((List GBlock) × Int) ⊕ (List GBlock)) := fun ⟨out68, v69⟩ =>
  if (decide (v69 < (out64.length : Int))) = true then
    Option.bind (
      (getI out68 v69).bind fun e79 =>
      (impl_Next c1 (IntKind.wrap .i64 (e79.To - 1))).bind fun r80 =>
      loopP (impl_BlocksOf_l4 out68 v69 r80) (out68, 0)) fun out98 =>
    some (Sum.inl (out98, IntKind.wrap .i64 (v69 + 1)))
  else
    some (Sum.inr out68)
def impl_BlocksOf (c1 : GCode) : Option (List GBlock) :=
  (impl_CodeOk c1).bind fun r2 =>
  if (!r2) = true then
    some []
  else
    (mkI 1 (IntKind.wrap .i64 ((c1.Words.length : Int) + 1)) false).bind fun l6 =>
    (getI l6 0).bind fun e7 =>
    bindS (List.set l6 0 true) fun l8 =>
    (getI l8 (c1.Words.length : Int)).bind fun e9 =>
    bindS (List.set l8 ((c1.Words.length : Int).toNat) true) fun l10 =>
    Option.bind (
      loopP (impl_BlocksOf_l1 c1) (l10, 0)) fun begins47 =>
    Option.bind (
      loopP (impl_BlocksOf_l2 c1 begins47) ([], 0, 1)) fun out64 =>
    Option.bind (
      loopP (impl_BlocksOf_l3 c1 out64) (out64, 0)) fun out100 =>
    some out100
def impl_reachedBlocks_l2 (without2 : Int) (e25 : GBlock) : ((List Bool) × (List Int) × Int) → Option (((List Bool) × (List Int) × Int) ⊕ (((List Bool) × (List Int)) ⊕ (List Bool))) := fun ⟨out26, todo27, v28⟩ =>
  if (decide (v28 < (e25.Next.length : Int))) = true then
    (getI e25.Next v28).bind fun e34 =>
    Option.bind (
      if (e34 != without2) = true then
        (getI out26 e34).bind fun e39 =>
        some (!e39)
      else
        some false) fun v40 =>
    if v40 = true then
      (getI out26 e34).bind fun e43 =>
      bindS (List.set out26 e34.toNat true) fun l44 =>
      (appI 8 todo27 [e34]).bind fun l45 =>
      some (Sum.inl (l44, l45, IntKind.wrap .i64 (v28 + 1)))
    else
      some (Sum.inl (out26, todo27, IntKind.wrap .i64 (v28 + 1)))
  else
    some (Sum.inr (Sum.inl (out26, todo27)))
def impl_reachedBlocks_l1 (list1 : List GBlock) (without2 : Int) : ((List Bool) × (List Int)) → Option (((List Bool) × (List Int)) ⊕ (List Bool)) := fun ⟨out16, todo17⟩ =>
  if (decide ((todo17.length : Int) > 0)) = true then
    (getI todo17 0).bind fun e23 =>
    (subI todo17 1 (todo17.length : Int)).bind fun l24 =>
    (getI list1 e23).bind fun e25 =>
    loopP (impl_reachedBlocks_l2 without2 e25) (out16, l24, 0)
  else
    some (Sum.inr out16)
def impl_reachedBlocks (list1 : List GBlock) (without2 : Int) : Option (List Bool) :=
  (mkI 1 (list1.length : Int) false).bind fun l3 =>
  Option.bind (
    if (without2 == 0) = true then
      some true
    else
      some ((list1.length : Int) == 0)) fun v8 =>
  if v8 = true then
    some l3
  else
    (getI l3 0).bind fun e11 =>
    bindS (List.set l3 0 true) fun l12 =>
    Option.bind (
      loopP (impl_reachedBlocks_l1 list1 without2) (l12, [0])) fun out48 =>
    some out48
def impl_table_l2 (is3 : Bool) (l17 : List Bool) : ((List Bool) × Int) → Option (((List Bool) × Int) ⊕ (List Bool)) := fun ⟨row21, v22⟩ =>
  if (decide (v22 < (l17.length : Int))) = true then
    (getI row21 v22).bind fun e28 =>
    bindS (List.set row21 v22.toNat is3) fun l29 =>
    some (Sum.inl (l29, IntKind.wrap .i64 (v22 + 1)))
  else
    some (Sum.inr row21)
def impl_table_l1 (rows1 : Int) (columns2 : Int) (is3 : Bool) : ((List (List Bool)) × Int) → Option (((List (List Bool)) × Int) ⊕ (List (List Bool))) := fun ⟨out7, v8⟩ =>
  if (decide (v8 < rows1)) = true then
    Option.bind (
      (mkI 1 columns2 false).bind fun l17 =>
      Option.bind (
        loopP (impl_table_l2 is3 l17) (l17, 0)) fun row31 =>
      (appI 24 out7 [row31]).bind fun l32 =>
      some l32) fun out33 =>
    some (Sum.inl (out33, IntKind.wrap .i64 (v8 + 1)))
  else
    some (Sum.inr out7)
def impl_table (rows1 : Int) (columns2 : Int) (is3 : Bool) : Option (List (List Bool)) :=
  Option.bind (
    loopP (impl_table_l1 rows1 columns2 is3) ([], 0)) fun out35 =>
  some out35
def impl_DomsOf_l2 (r2 : List GBlock) (r4 : List Bool) (v12 : Int) (r21 : List Bool) : ((List (List Bool)) × Int) → Option (((List (List Bool)) × Int) ⊕ (List (List Bool))) := fun ⟨out23, v24⟩ =>
  if (decide (v24 < (r2.length : Int))) = true then
    (getI out23 v24).bind fun e32 =>
    (getI r4 v24).bind fun e33 =>
    if (!e33) = true then
      (getI e32 v12).bind fun e36 =>
      bindS (List.set e32 v12.toNat true) fun l37 =>
      bindS (List.set out23 v24.toNat l37) fun l38 =>
      some (Sum.inl (l38, IntKind.wrap .i64 (v24 + 1)))
    else
      (getI r21 v24).bind fun e39 =>
      (getI e32 v12).bind fun e40 =>
      bindS (List.set e32 v12.toNat (!e39)) fun l41 =>
      bindS (List.set out23 v24.toNat l41) fun l42 =>
      some (Sum.inl (l42, IntKind.wrap .i64 (v24 + 1)))
  else
    some (Sum.inr out23)
def impl_DomsOf_l1 (r2 : List GBlock) (r4 : List Bool) : ((List (List Bool)) × Int) → Option (((List (List Bool)) × Int) ⊕ (List (List Bool))) := fun ⟨out11, v12⟩ =>
  if (decide (v12 < (r2.length : Int))) = true then
    Option.bind (
      (impl_reachedBlocks r2 v12).bind fun r21 =>
      loopP (impl_DomsOf_l2 r2 r4 v12 r21) (out11, 0)) fun out44 =>
    some (Sum.inl (out44, IntKind.wrap .i64 (v12 + 1)))
  else
    some (Sum.inr out11)
def impl_DomsOf (c1 : GCode) : Option (List (List Bool)) :=
  (impl_BlocksOf c1).bind fun r2 =>
  (impl_reachedBlocks r2 (-1)).bind fun r4 =>
  (impl_table (r2.length : Int) (r2.length : Int) true).bind fun r6 =>
  Option.bind (
    loopP (impl_DomsOf_l1 r2 r4) (r6, 0)) fun out46 =>
  some out46
def impl_LoopHeads_l2 (r2 : List GBlock) (r4 : List Bool) (r6 : List (List Bool)) (v12 : Int) : (Bool × Int) → Option ((Bool × Int) ⊕ (Bool)) := fun ⟨is24, v25⟩ =>
  if (decide (v25 < (r2.length : Int))) = true then
    if is24 = true then
      some (Sum.inl (true, IntKind.wrap .i64 (v25 + 1)))
    else
      (getI r4 v25).bind fun e33 =>
      if e33 = true then
        (getI r2 v25).bind fun e36 =>
        (impl_hasInt e36.Next v12).bind fun r37 =>
        if r37 = true then
          (getI r6 v25).bind fun e41 =>
          (getI e41 v12).bind fun e42 =>
          some (Sum.inl (e42, IntKind.wrap .i64 (v25 + 1)))
        else
          some (Sum.inl (false, IntKind.wrap .i64 (v25 + 1)))
      else
        some (Sum.inl (false, IntKind.wrap .i64 (v25 + 1)))
  else
    some (Sum.inr is24)
def impl_LoopHeads_l1 (r2 : List GBlock) (r4 : List Bool) (r6 : List (List Bool)) : ((List Int) × Int) → Option (((List Int) × Int) ⊕ (List Int)) := fun ⟨out11, v12⟩ =>
  if (decide (v12 < (r2.length : Int))) = true then
    Option.bind (
      Option.bind (
        loopP (impl_LoopHeads_l2 r2 r4 r6 v12) (false, 0)) fun is44 =>
      Option.bind (
        if is44 = true then
          (getI r4 v12).bind fun e49 =>
          some e49
        else
          some false) fun v50 =>
      if v50 = true then
        (appI 8 out11 [v12]).bind fun l53 =>
        some l53
      else
        some out11) fun out54 =>
    some (Sum.inl (out54, IntKind.wrap .i64 (v12 + 1)))
  else
    some (Sum.inr out11)
def impl_LoopHeads (c1 : GCode) : Option (List Int) :=
  (impl_BlocksOf c1).bind fun r2 =>
  (impl_reachedBlocks r2 (-1)).bind fun r4 =>
  (impl_DomsOf c1).bind fun r6 =>
  Option.bind (
    loopP (impl_LoopHeads_l1 r2 r4 r6) ([], 0)) fun out56 =>
  some out56
def laws_eqIntS_l1 (a1 : List Int) (b2 : List Int) : Int → Option ((Int) ⊕ ((Unit) ⊕ (Bool))) := fun i8 =>
  if (decide (i8 < (a1.length : Int))) = true then
    (getI a1 i8).bind fun e15 =>
    (getI b2 i8).bind fun e16 =>
    if (e15 != e16) = true then
      some (Sum.inr (Sum.inr false))
    else
      some (Sum.inl (IntKind.wrap .i64 (i8 + 1)))
  else
    some (Sum.inr (Sum.inl ()))
def laws_eqIntS (a1 : List Int) (b2 : List Int) : Option (Bool) :=
  if ((a1.length : Int) != (b2.length : Int)) = true then
    some false
  else
    Option.bind (
      loopP (laws_eqIntS_l1 a1 b2) 0) fun j7 =>
    match j7 with
    | Sum.inr z => some z
    | Sum.inl () =>
      some true
def laws_eqIns (a1 : GIns) (b2 : GIns) : Option (Bool) :=
  if (a1.Op != b2.Op) = true then
    some false
  else
    if (a1.A != b2.A) = true then
      some false
    else
      if (a1.B != b2.B) = true then
        some false
      else
        if (a1.C != b2.C) = true then
          some false
        else
          if (a1.Num != b2.Num) = true then
            some false
          else
            if (!(sEq a1.Name b2.Name)) = true then
              some false
            else
              (laws_eqIntS a1.Args b2.Args).bind fun r15 =>
              if (!r15) = true then
                some false
              else
                some true
def laws_eqInsS_l1 (a1 : List GIns) (b2 : List GIns) : Int → Option ((Int) ⊕ ((Unit) ⊕ (Bool))) := fun i8 =>
  if (decide (i8 < (a1.length : Int))) = true then
    (getI a1 i8).bind fun e15 =>
    (getI b2 i8).bind fun e16 =>
    (laws_eqIns e15 e16).bind fun r17 =>
    if (!r17) = true then
      some (Sum.inr (Sum.inr false))
    else
      some (Sum.inl (IntKind.wrap .i64 (i8 + 1)))
  else
    some (Sum.inr (Sum.inl ()))
def laws_eqInsS (a1 : List GIns) (b2 : List GIns) : Option (Bool) :=
  if ((a1.length : Int) != (b2.length : Int)) = true then
    some false
  else
    Option.bind (
      loopP (laws_eqInsS_l1 a1 b2) 0) fun j7 =>
    match j7 with
    | Sum.inr z => some z
    | Sum.inl () =>
      some true
def laws_eqCode (a1 : GCode) (b2 : GCode) : Option (Bool) :=
  if (!(sEq a1.Name b2.Name)) = true then
    some false
  else
    if (a1.Params != b2.Params) = true then
      some false
    else
      (laws_eqIntS a1.Locals b2.Locals).bind fun r7 =>
      if (!r7) = true then
        some false
      else
        (laws_eqInsS a1.Words b2.Words).bind fun r11 =>
        if (!r11) = true then
          some false
        else
          some true
def laws_markIntS_l1 : ((List Int) × Int × Int) → Option (((List Int) × Int × Int) ⊕ ((List Int) × Int)) := fun ⟨a6, k7, i8⟩ =>
  if (decide (i8 < (a6.length : Int))) = true then
    (getI a6 i8).bind fun e14 =>
    bindS (List.set a6 i8.toNat k7) fun l15 =>
    some (Sum.inl (l15, IntKind.wrap .i64 (k7 + 1), IntKind.wrap .i64 (i8 + 1)))
  else
    some (Sum.inr (a6, k7))
def laws_markIntS (a1 : List Int) (k2 : Int) : Option (Int × (List Int)) :=
  Option.bind (
    loopP (laws_markIntS_l1) (a1, k2, 0)) fun ⟨a17, k18⟩ =>
  some (k18, a17)
def laws_markText_l1 : (Int × ByteArray) → Option ((Int × ByteArray) ⊕ (ByteArray)) := fun ⟨k7, out8⟩ =>
  if (decide (k7 > 0)) = true then
    (sCat (bytesOf [IntKind.wrap .u8 (IntKind.wrap .i64 (48 + (Int.tmod k7 10)))]) out8).bind fun t14 =>
    some (Sum.inl (IntKind.wrap .i64 (Int.tdiv k7 10), t14))
  else
    some (Sum.inr out8)
def laws_markText (k1 : Int) : Option (ByteArray) :=
  if (decide (k1 ≤ 0)) = true then
    some (⟨#[109, 48]⟩ : ByteArray)
  else
    Option.bind (
      loopP (laws_markText_l1) (k1, (⟨#[]⟩ : ByteArray))) fun out16 =>
    (sCat (⟨#[109]⟩ : ByteArray) out16).bind fun t17 =>
    some t17
def laws_markInsS_l1 : ((List GIns) × Int × Int) → Option (((List GIns) × Int × Int) ⊕ ((List GIns) × Int)) := fun ⟨a6, k7, i8⟩ =>
  if (decide (i8 < (a6.length : Int))) = true then
    (getI a6 i8).bind fun e14 =>
    bindS (List.set a6 i8.toNat (⟨k7, e14.A, e14.B, e14.C, e14.Num, e14.Name, e14.Args⟩ : GIns)) fun l15 =>
    (getI l15 i8).bind fun e16 =>
    bindS (List.set l15 i8.toNat (⟨e16.Op, IntKind.wrap .i64 (k7 + 1), e16.B, e16.C, e16.Num, e16.Name, e16.Args⟩ : GIns)) fun l17 =>
    (getI l17 i8).bind fun e18 =>
    bindS (List.set l17 i8.toNat (⟨e18.Op, e18.A, IntKind.wrap .i64 ((IntKind.wrap .i64 (k7 + 1)) + 1), e18.C, e18.Num, e18.Name, e18.Args⟩ : GIns)) fun l19 =>
    (getI l19 i8).bind fun e20 =>
    bindS (List.set l19 i8.toNat (⟨e20.Op, e20.A, e20.B, IntKind.wrap .i64 ((IntKind.wrap .i64 ((IntKind.wrap .i64 (k7 + 1)) + 1)) + 1), e20.Num, e20.Name, e20.Args⟩ : GIns)) fun l21 =>
    (getI l21 i8).bind fun e22 =>
    bindS (List.set l21 i8.toNat (⟨e22.Op, e22.A, e22.B, e22.C, IntKind.wrap .i64 ((IntKind.wrap .i64 ((IntKind.wrap .i64 ((IntKind.wrap .i64 (k7 + 1)) + 1)) + 1)) + 1), e22.Name, e22.Args⟩ : GIns)) fun l23 =>
    (laws_markText (IntKind.wrap .i64 ((IntKind.wrap .i64 ((IntKind.wrap .i64 ((IntKind.wrap .i64 ((IntKind.wrap .i64 (k7 + 1)) + 1)) + 1)) + 1)) + 1))).bind fun r24 =>
    (getI l23 i8).bind fun e26 =>
    bindS (List.set l23 i8.toNat (⟨e26.Op, e26.A, e26.B, e26.C, e26.Num, r24, e26.Args⟩ : GIns)) fun l27 =>
    (getI l27 i8).bind fun e28 =>
    (laws_markIntS e28.Args (IntKind.wrap .i64 ((IntKind.wrap .i64 ((IntKind.wrap .i64 ((IntKind.wrap .i64 ((IntKind.wrap .i64 ((IntKind.wrap .i64 (k7 + 1)) + 1)) + 1)) + 1)) + 1)) + 1))).bind fun ⟨r29, q30⟩ =>
    bindS (List.set l27 i8.toNat (⟨e28.Op, e28.A, e28.B, e28.C, e28.Num, e28.Name, q30⟩ : GIns)) fun l32 =>
    some (Sum.inl (l32, r29, IntKind.wrap .i64 (i8 + 1)))
  else
    some (Sum.inr (a6, k7))
def laws_markInsS (a1 : List GIns) (k2 : Int) : Option (Int × (List GIns)) :=
  Option.bind (
    loopP (laws_markInsS_l1) (a1, k2, 0)) fun ⟨a34, k35⟩ =>
  some (k35, a34)
def laws_markCode (a1 : GCode) (k2 : Int) : Option (Int × GCode) :=
  (laws_markIntS a1.Locals k2).bind fun ⟨r3, q4⟩ =>
  (laws_markInsS a1.Words r3).bind fun ⟨r6, q7⟩ =>
  some (r6, (⟨a1.Name, a1.Params, q4, q7⟩ : GCode))
def laws_heldIntS_l1 (a1 : List Int) : (Int × Int) → Option ((Int × Int) ⊕ ((Int) ⊕ (Int))) := fun ⟨k6, i7⟩ =>
  if (decide (i7 < (a1.length : Int))) = true then
    (getI a1 i7).bind fun e13 =>
    if (e13 != k6) = true then
      some (Sum.inr (Sum.inr (-1)))
    else
      some (Sum.inl (IntKind.wrap .i64 (k6 + 1), IntKind.wrap .i64 (i7 + 1)))
  else
    some (Sum.inr (Sum.inl k6))
def laws_heldIntS (a1 : List Int) (k2 : Int) : Option (Int) :=
  Option.bind (
    loopP (laws_heldIntS_l1 a1) (k2, 0)) fun j5 =>
  match j5 with
  | Sum.inr z => some z
  | Sum.inl k18 =>
    some k18
def laws_FnExactLoopHeads (aC1 : GCode) : Option (Bool) :=
  (laws_szCode aC1 1048576).bind fun r2 =>
  if (decide (r2 < 0)) = true then
    some true
  else
    (laws_toCode aC1).bind fun r6 =>
    (spec_LoopHeads r6).bind fun r8 =>
    (laws_toCode aC1).bind fun r10 =>
    (impl_LoopHeads r10).bind fun r12 =>
    (laws_eqIntS r12 r8).bind fun r14 =>
    if (!r14) = true then
      some false
    else
      (laws_toCode aC1).bind fun r19 =>
      (laws_eqCode r10 r19).bind fun r21 =>
      if (!r21) = true then
        some false
      else
        (laws_markCode r10 1).bind fun ⟨r25, q26⟩ =>
        Option.bind (
          if (decide (r25 < 0)) = true then
            some true
          else
            (laws_eqIntS r12 r8).bind fun r32 =>
            some (!r32)) fun v34 =>
        if v34 = true then
          some false
        else
          (laws_markIntS r12 1).bind fun ⟨r37, q38⟩ =>
          (laws_heldIntS q38 1).bind fun r40 =>
          if (decide (r40 < 0)) = true then
            some false
          else
            if (r40 != r37) = true then
              some false
            else
              (laws_toCode aC1).bind fun r46 =>
              (impl_LoopHeads r46).bind fun r48 =>
              (laws_eqIntS r48 r8).bind fun r50 =>
              if (!r50) = true then
                some false
              else
                (laws_heldIntS q38 1).bind fun r54 =>
                if (decide (r54 < 0)) = true then
                  some false
                else
                  if (r54 != r37) = true then
                    some false
                  else
                    some true
end Go.OM
end
set_option maxRecDepth 100000
namespace Go.Proofs.T
open Go.OM
noncomputable def ty : TypeId → Option TI
  | 2 => some ⟨1, 8, .int .i64, [.v (.int .i64 0)]⟩
  | 3 => some ⟨1, 8, .int .i64, [.v (.int .i64 0)]⟩
  | 4 => some ⟨1, 1, .bool, [.v (.bool false)]⟩
  | 5 => some ⟨1, 1, .int .u8, [.v (.int .u8 0)]⟩
  | 7 => some ⟨4, 24, .struct [(0, 1), (1, 1), (2, 1), (3, 1)], [.v (.int .i64 0), .v (.int .i64 0), .v (.bool false), .v (.int .u8 0)]⟩
  | 9 => some ⟨1, 16, .str, [.v (.string .empty)]⟩
  | 12 => some ⟨1, 8, .int .u64, [.v (.int .u64 0)]⟩
  | 13 => some ⟨2, 24, .struct [(0, 1), (1, 1)], [.v (.string .empty), .v (.int .u64 0)]⟩
  | 15 => some ⟨1, 8, .ptr, [.v (.pointer none)]⟩
  | 16 => some ⟨1, 8, .ptr, [.v (.pointer none)]⟩
  | 17 => some ⟨1, 8, .ptr, [.v (.pointer none)]⟩
  | 18 => some ⟨1, 8, .struct [(0, 1)], [.v (.pointer none)]⟩
  | 20 => some ⟨1, 16, .iface, [.v .nilIface]⟩
  | 21 => some ⟨1, 4, .int .i32, [.v (.int .i32 0)]⟩
  | 22 => some ⟨1, 24, .slice 3, [.nl true 1 none]⟩
  | 23 => some ⟨1, 24, .slice 112, [.nl true 7 none]⟩
  | 24 => some ⟨4, 72, .struct [(0, 1), (1, 1), (2, 1), (3, 1)], [.v (.string .empty), .v (.int .i64 0), .nl true 1 none, .nl true 7 none]⟩
  | 25 => some ⟨4, 72, .struct [(0, 1), (1, 1), (2, 1), (3, 1)], [.v (.string .empty), .v (.int .i64 0), .nl true 1 none, .nl true 7 none]⟩
  | 26 => some ⟨1, 8, .func, [.v .nilFunc]⟩
  | 27 => some ⟨1, 8, .func, [.v .nilFunc]⟩
  | 28 => some ⟨1, 24, .slice 103, [.nl true 7 none]⟩
  | 29 => some ⟨4, 72, .struct [(0, 1), (1, 1), (2, 1), (3, 1)], [.v (.string .empty), .v (.int .i64 0), .nl true 1 none, .nl true 7 none]⟩
  | 30 => some ⟨4, 72, .struct [(0, 1), (1, 1), (2, 1), (3, 1)], [.v (.string .empty), .v (.int .i64 0), .nl true 1 none, .nl true 7 none]⟩
  | 31 => some ⟨1, 8, .func, [.v .nilFunc]⟩
  | 32 => some ⟨1, 8, .func, [.v .nilFunc]⟩
  | 33 => some ⟨1, 8, .func, [.v .nilFunc]⟩
  | 34 => some ⟨1, 8, .func, [.v .nilFunc]⟩
  | 35 => some ⟨1, 8, .func, [.v .nilFunc]⟩
  | 36 => some ⟨1, 8, .func, [.v .nilFunc]⟩
  | 37 => some ⟨1, 24, .slice 63, [.nl true 1 none]⟩
  | 38 => some ⟨1, 8, .func, [.v .nilFunc]⟩
  | 39 => some ⟨1, 8, .func, [.v .nilFunc]⟩
  | 40 => some ⟨1, 8, .func, [.v .nilFunc]⟩
  | 41 => some ⟨1, 24, .slice 118, [.nl true 4 none]⟩
  | 42 => some ⟨1, 24, .slice 122, [.nl true 5 none]⟩
  | 43 => some ⟨2, 48, .struct [(0, 1), (1, 1)], [.nl true 4 none, .nl true 5 none]⟩
  | 44 => some ⟨2, 48, .struct [(0, 1), (1, 1)], [.nl true 4 none, .nl true 5 none]⟩
  | 45 => some ⟨1, 8, .func, [.v .nilFunc]⟩
  | 46 => some ⟨9, 72, .struct [(0, 1), (1, 1), (2, 1), (3, 1), (4, 1), (5, 1), (6, 1), (7, 1), (8, 1)], [.v (.int .i64 0), .v (.int .i64 0), .v (.int .i64 0), .v (.int .i64 0), .v (.int .i64 0), .v (.int .i64 0), .v (.int .i64 0), .v (.int .i64 0), .v (.int .i64 0)]⟩
  | 47 => some ⟨9, 72, .struct [(0, 1), (1, 1), (2, 1), (3, 1), (4, 1), (5, 1), (6, 1), (7, 1), (8, 1)], [.v (.int .i64 0), .v (.int .i64 0), .v (.int .i64 0), .v (.int .i64 0), .v (.int .i64 0), .v (.int .i64 0), .v (.int .i64 0), .v (.int .i64 0), .v (.int .i64 0)]⟩
  | 48 => some ⟨1, 8, .func, [.v .nilFunc]⟩
  | 49 => some ⟨1, 24, .slice 88, [.nl true 4 none]⟩
  | 50 => some ⟨1, 24, .slice 128, [.nl true 5 none]⟩
  | 51 => some ⟨2, 48, .struct [(0, 1), (1, 1)], [.nl true 4 none, .nl true 5 none]⟩
  | 52 => some ⟨2, 48, .struct [(0, 1), (1, 1)], [.nl true 4 none, .nl true 5 none]⟩
  | 53 => some ⟨1, 8, .func, [.v .nilFunc]⟩
  | 54 => some ⟨1, 8, .func, [.v .nilFunc]⟩
  | 55 => some ⟨1, 8, .func, [.v .nilFunc]⟩
  | 56 => some ⟨1, 8, .func, [.v .nilFunc]⟩
  | 57 => some ⟨1, 8, .func, [.v .nilFunc]⟩
  | 58 => some ⟨1, 24, .slice 37, [.nl true 1 none]⟩
  | 59 => some ⟨1, 8, .func, [.v .nilFunc]⟩
  | 60 => some ⟨1, 8, .func, [.v .nilFunc]⟩
  | 61 => some ⟨1, 8, .func, [.v .nilFunc]⟩
  | 62 => some ⟨1, 8, .func, [.v .nilFunc]⟩
  | 63 => some ⟨1, 24, .slice 4, [.nl true 1 none]⟩
  | 64 => some ⟨1, 8, .func, [.v .nilFunc]⟩
  | 65 => some ⟨1, 8, .func, [.v .nilFunc]⟩
  | 66 => some ⟨1, 8, .func, [.v .nilFunc]⟩
  | 67 => some ⟨1, 8, .func, [.v .nilFunc]⟩
  | 68 => some ⟨1, 8, .func, [.v .nilFunc]⟩
  | 69 => some ⟨1, 24, .slice 73, [.nl true 3 none]⟩
  | 70 => some ⟨1, 8, .func, [.v .nilFunc]⟩
  | 71 => some ⟨1, 8, .func, [.v .nilFunc]⟩
  | 72 => some ⟨3, 40, .struct [(0, 1), (1, 1), (2, 1)], [.v (.int .i64 0), .v (.int .i64 0), .nl true 1 none]⟩
  | 73 => some ⟨3, 40, .struct [(0, 1), (1, 1), (2, 1)], [.v (.int .i64 0), .v (.int .i64 0), .nl true 1 none]⟩
  | 74 => some ⟨1, 8, .func, [.v .nilFunc]⟩
  | 75 => some ⟨1, 8, .func, [.v .nilFunc]⟩
  | 76 => some ⟨1, 8, .func, [.v .nilFunc]⟩
  | 77 => some ⟨1, 8, .func, [.v .nilFunc]⟩
  | 78 => some ⟨1, 8, .func, [.v .nilFunc]⟩
  | 79 => some ⟨1, 8, .func, [.v .nilFunc]⟩
  | 80 => some ⟨1, 8, .func, [.v .nilFunc]⟩
  | 81 => some ⟨1, 8, .func, [.v .nilFunc]⟩
  | 82 => some ⟨1, 8, .func, [.v .nilFunc]⟩
  | 83 => some ⟨1, 8, .func, [.v .nilFunc]⟩
  | 84 => some ⟨1, 8, .func, [.v .nilFunc]⟩
  | 85 => some ⟨1, 8, .func, [.v .nilFunc]⟩
  | 86 => some ⟨1, 8, .func, [.v .nilFunc]⟩
  | 87 => some ⟨4, 56, .struct [(0, 1), (1, 1), (2, 1), (3, 1)], [.v (.int .i64 0), .v (.int .i64 0), .v (.string .empty), .nl true 1 none]⟩
  | 88 => some ⟨4, 56, .struct [(0, 1), (1, 1), (2, 1), (3, 1)], [.v (.int .i64 0), .v (.int .i64 0), .v (.string .empty), .nl true 1 none]⟩
  | 89 => some ⟨1, 8, .func, [.v .nilFunc]⟩
  | 90 => some ⟨1, 8, .func, [.v .nilFunc]⟩
  | 91 => some ⟨1, 8, .func, [.v .nilFunc]⟩
  | 93 => some ⟨1, 8, .func, [.v .nilFunc]⟩
  | 94 => some ⟨1, 8, .func, [.v .nilFunc]⟩
  | 95 => some ⟨1, 8, .func, [.v .nilFunc]⟩
  | 96 => some ⟨1, 8, .func, [.v .nilFunc]⟩
  | 97 => some ⟨1, 8, .func, [.v .nilFunc]⟩
  | 98 => some ⟨1, 8, .func, [.v .nilFunc]⟩
  | 99 => some ⟨1, 24, .slice 108, [.nl true 3 none]⟩
  | 100 => some ⟨1, 8, .func, [.v .nilFunc]⟩
  | 101 => some ⟨1, 8, .func, [.v .nilFunc]⟩
  | 102 => some ⟨7, 80, .struct [(0, 1), (1, 1), (2, 1), (3, 1), (4, 1), (5, 1), (6, 1)], [.v (.int .i64 0), .v (.int .i64 0), .v (.int .i64 0), .v (.int .i64 0), .v (.int .i64 0), .v (.string .empty), .nl true 1 none]⟩
  | 103 => some ⟨7, 80, .struct [(0, 1), (1, 1), (2, 1), (3, 1), (4, 1), (5, 1), (6, 1)], [.v (.int .i64 0), .v (.int .i64 0), .v (.int .i64 0), .v (.int .i64 0), .v (.int .i64 0), .v (.string .empty), .nl true 1 none]⟩
  | 104 => some ⟨1, 8, .func, [.v .nilFunc]⟩
  | 105 => some ⟨1, 8, .func, [.v .nilFunc]⟩
  | 106 => some ⟨1, 8, .func, [.v .nilFunc]⟩
  | 107 => some ⟨3, 24, .struct [(0, 1), (1, 1), (2, 1)], [.v (.int .i64 0), .v (.int .i64 0), .v (.bool false)]⟩
  | 108 => some ⟨3, 24, .struct [(0, 1), (1, 1), (2, 1)], [.v (.int .i64 0), .v (.int .i64 0), .v (.bool false)]⟩
  | 109 => some ⟨1, 8, .func, [.v .nilFunc]⟩
  | 110 => some ⟨1, 8, .func, [.v .nilFunc]⟩
  | 111 => some ⟨1, 8, .func, [.v .nilFunc]⟩
  | 112 => some ⟨7, 80, .struct [(0, 1), (1, 1), (2, 1), (3, 1), (4, 1), (5, 1), (6, 1)], [.v (.int .i64 0), .v (.int .i64 0), .v (.int .i64 0), .v (.int .i64 0), .v (.int .i64 0), .v (.string .empty), .nl true 1 none]⟩
  | 113 => some ⟨1, 8, .func, [.v .nilFunc]⟩
  | 114 => some ⟨1, 8, .func, [.v .nilFunc]⟩
  | 115 => some ⟨1, 8, .func, [.v .nilFunc]⟩
  | 116 => some ⟨1, 8, .func, [.v .nilFunc]⟩
  | 117 => some ⟨1, 8, .func, [.v .nilFunc]⟩
  | 118 => some ⟨4, 56, .struct [(0, 1), (1, 1), (2, 1), (3, 1)], [.v (.int .i64 0), .v (.int .i64 0), .v (.string .empty), .nl true 1 none]⟩
  | 119 => some ⟨1, 8, .func, [.v .nilFunc]⟩
  | 120 => some ⟨1, 24, .slice 158, [.nl true 2 none]⟩
  | 121 => some ⟨5, 64, .struct [(0, 1), (1, 1), (2, 1), (3, 1), (4, 1)], [.v (.string .empty), .nl true 2 none, .v (.int .i64 0), .v (.int .i64 0), .v (.int .i64 0)]⟩
  | 122 => some ⟨5, 64, .struct [(0, 1), (1, 1), (2, 1), (3, 1), (4, 1)], [.v (.string .empty), .nl true 2 none, .v (.int .i64 0), .v (.int .i64 0), .v (.int .i64 0)]⟩
  | 123 => some ⟨1, 8, .func, [.v .nilFunc]⟩
  | 124 => some ⟨1, 8, .func, [.v .nilFunc]⟩
  | 125 => some ⟨1, 8, .func, [.v .nilFunc]⟩
  | 126 => some ⟨1, 24, .slice 148, [.nl true 2 none]⟩
  | 127 => some ⟨5, 64, .struct [(0, 1), (1, 1), (2, 1), (3, 1), (4, 1)], [.v (.string .empty), .nl true 2 none, .v (.int .i64 0), .v (.int .i64 0), .v (.int .i64 0)]⟩
  | 128 => some ⟨5, 64, .struct [(0, 1), (1, 1), (2, 1), (3, 1), (4, 1)], [.v (.string .empty), .nl true 2 none, .v (.int .i64 0), .v (.int .i64 0), .v (.int .i64 0)]⟩
  | 129 => some ⟨1, 8, .func, [.v .nilFunc]⟩
  | 130 => some ⟨1, 8, .func, [.v .nilFunc]⟩
  | 131 => some ⟨1, 8, .func, [.v .nilFunc]⟩
  | 132 => some ⟨1, 8, .func, [.v .nilFunc]⟩
  | 133 => some ⟨1, 8, .func, [.v .nilFunc]⟩
  | 134 => some ⟨1, 8, .func, [.v .nilFunc]⟩
  | 135 => some ⟨1, 8, .func, [.v .nilFunc]⟩
  | 137 => some ⟨1, 8, .func, [.v .nilFunc]⟩
  | 138 => some ⟨1, 8, .func, [.v .nilFunc]⟩
  | 139 => some ⟨1, 8, .func, [.v .nilFunc]⟩
  | 140 => some ⟨1, 8, .func, [.v .nilFunc]⟩
  | 141 => some ⟨1, 8, .func, [.v .nilFunc]⟩
  | 142 => some ⟨1, 8, .func, [.v .nilFunc]⟩
  | 143 => some ⟨1, 8, .func, [.v .nilFunc]⟩
  | 144 => some ⟨1, 8, .func, [.v .nilFunc]⟩
  | 145 => some ⟨1, 24, .slice 5, [.nl true 1 none]⟩
  | 146 => some ⟨1, 8, .func, [.v .nilFunc]⟩
  | 147 => some ⟨2, 24, .struct [(0, 1), (1, 1)], [.v (.string .empty), .v (.int .i64 0)]⟩
  | 148 => some ⟨2, 24, .struct [(0, 1), (1, 1)], [.v (.string .empty), .v (.int .i64 0)]⟩
  | 149 => some ⟨1, 8, .func, [.v .nilFunc]⟩
  | 151 => some ⟨1, 8, .func, [.v .nilFunc]⟩
  | 152 => some ⟨1, 8, .func, [.v .nilFunc]⟩
  | 153 => some ⟨1, 8, .func, [.v .nilFunc]⟩
  | 154 => some ⟨1, 8, .func, [.v .nilFunc]⟩
  | 155 => some ⟨1, 8, .func, [.v .nilFunc]⟩
  | 156 => some ⟨1, 8, .func, [.v .nilFunc]⟩
  | 157 => some ⟨1, 8, .func, [.v .nilFunc]⟩
  | 158 => some ⟨2, 24, .struct [(0, 1), (1, 1)], [.v (.string .empty), .v (.int .i64 0)]⟩
  | 159 => some ⟨1, 8, .func, [.v .nilFunc]⟩
  | 160 => some ⟨1, 8, .func, [.v .nilFunc]⟩
  | 161 => some ⟨1, 24, .slice 9, [.nl true 1 none]⟩
  | 162 => some ⟨1, 8, .func, [.v .nilFunc]⟩
  | 163 => some ⟨1, 8, .func, [.v .nilFunc]⟩
  | 164 => some ⟨1, 8, .func, [.v .nilFunc]⟩
  | 165 => some ⟨1, 8, .func, [.v .nilFunc]⟩
  | 166 => some ⟨1, 8, .func, [.v .nilFunc]⟩
  | 167 => some ⟨1, 8, .func, [.v .nilFunc]⟩
  | 168 => some ⟨1, 8, .func, [.v .nilFunc]⟩
  | 169 => some ⟨1, 8, .func, [.v .nilFunc]⟩
  | 171 => some ⟨1, 8, .func, [.v .nilFunc]⟩
  | 172 => some ⟨1, 8, .func, [.v .nilFunc]⟩
  | 173 => some ⟨1, 8, .func, [.v .nilFunc]⟩
  | 174 => some ⟨1, 8, .int .u64, [.v (.int .u64 0)]⟩
  | 176 => some ⟨2, 2, .struct [(0, 1), (1, 1)], [.v (.int .u8 0), .v (.int .u8 0)]⟩
  | 177 => some ⟨2, 2, .struct [(0, 1), (1, 1)], [.v (.int .u8 0), .v (.int .u8 0)]⟩
  | 179 => some ⟨1, 4, .int .u32, [.v (.int .u32 0)]⟩
  | 181 => some ⟨1, 8, .func, [.v .nilFunc]⟩
  | 182 => some ⟨1, 8, .func, [.v .nilFunc]⟩
  | 183 => some ⟨4, 40, .struct [(0, 1), (1, 1), (2, 1), (3, 1)], [.v (.pointer none), .v (.pointer none), .v (.pointer none), .v (.string .empty)]⟩
  | 188 => some ⟨1, 8, .func, [.v .nilFunc]⟩
  | 191 => some ⟨1, 8, .func, [.v .nilFunc]⟩
  | 192 => some ⟨1, 8, .ptr, [.v (.pointer none)]⟩
  | 195 => some ⟨11, 48, .struct [(0, 1), (1, 1), (2, 1), (3, 1), (4, 1), (5, 1), (6, 1), (7, 1), (8, 1), (9, 1), (10, 1)], [.v (.int .u64 0), .v (.int .u64 0), .v (.int .u32 0), .v (.int .u8 0), .v (.int .u8 0), .v (.int .u8 0), .v (.int .u8 0), .v .nilFunc, .v (.pointer none), .v (.int .i32 0), .v (.int .i32 0)]⟩
  | _ => none
theorem ty_ok (t : TypeId) (ti : TI) (h : ty t = some ti) : TIok Tryd.prog t ti := by
  unfold ty at h
  split at h
  · cases h; exact ⟨by kernel_rfl, Tryd.underlying2, rfl⟩
  · cases h; exact ⟨by kernel_rfl, Tryd.underlying3, rfl⟩
  · cases h; exact ⟨by kernel_rfl, Tryd.underlying4, rfl⟩
  · cases h; exact ⟨by kernel_rfl, Tryd.underlying5, rfl⟩
  · cases h; exact ⟨by kernel_rfl, (show structOffs Tryd.prog 7 = some [(0, 1), (1, 1), (2, 1), (3, 1)] by kernel_rfl), rfl⟩
  · cases h; exact ⟨by kernel_rfl, Tryd.underlying9, rfl⟩
  · cases h; exact ⟨by kernel_rfl, Tryd.underlying12, rfl⟩
  · cases h; exact ⟨by kernel_rfl, (show structOffs Tryd.prog 13 = some [(0, 1), (1, 1)] by kernel_rfl), rfl⟩
  · cases h; exact ⟨by kernel_rfl, ⟨_, Tryd.underlying15⟩, rfl⟩
  · cases h; exact ⟨by kernel_rfl, ⟨_, Tryd.underlying16⟩, rfl⟩
  · cases h; exact ⟨by kernel_rfl, ⟨_, Tryd.underlying17⟩, rfl⟩
  · cases h; exact ⟨by kernel_rfl, (show structOffs Tryd.prog 18 = some [(0, 1)] by kernel_rfl), rfl⟩
  · cases h; exact ⟨by kernel_rfl, ⟨_, Tryd.underlying20⟩, rfl⟩
  · cases h; exact ⟨by kernel_rfl, Tryd.underlying21, rfl⟩
  · cases h; exact ⟨by kernel_rfl, Tryd.underlying22, rfl⟩
  · cases h; exact ⟨by kernel_rfl, Tryd.underlying23, rfl⟩
  · cases h; exact ⟨by kernel_rfl, (show structOffs Tryd.prog 24 = some [(0, 1), (1, 1), (2, 1), (3, 1)] by kernel_rfl), rfl⟩
  · cases h; exact ⟨by kernel_rfl, (show structOffs Tryd.prog 25 = some [(0, 1), (1, 1), (2, 1), (3, 1)] by kernel_rfl), rfl⟩
  · cases h; exact ⟨by kernel_rfl, ⟨_, _, _, Tryd.underlying26⟩, rfl⟩
  · cases h; exact ⟨by kernel_rfl, ⟨_, _, _, Tryd.underlying27⟩, rfl⟩
  · cases h; exact ⟨by kernel_rfl, Tryd.underlying28, rfl⟩
  · cases h; exact ⟨by kernel_rfl, (show structOffs Tryd.prog 29 = some [(0, 1), (1, 1), (2, 1), (3, 1)] by kernel_rfl), rfl⟩
  · cases h; exact ⟨by kernel_rfl, (show structOffs Tryd.prog 30 = some [(0, 1), (1, 1), (2, 1), (3, 1)] by kernel_rfl), rfl⟩
  · cases h; exact ⟨by kernel_rfl, ⟨_, _, _, Tryd.underlying31⟩, rfl⟩
  · cases h; exact ⟨by kernel_rfl, ⟨_, _, _, Tryd.underlying32⟩, rfl⟩
  · cases h; exact ⟨by kernel_rfl, ⟨_, _, _, Tryd.underlying33⟩, rfl⟩
  · cases h; exact ⟨by kernel_rfl, ⟨_, _, _, Tryd.underlying34⟩, rfl⟩
  · cases h; exact ⟨by kernel_rfl, ⟨_, _, _, Tryd.underlying35⟩, rfl⟩
  · cases h; exact ⟨by kernel_rfl, ⟨_, _, _, Tryd.underlying36⟩, rfl⟩
  · cases h; exact ⟨by kernel_rfl, Tryd.underlying37, rfl⟩
  · cases h; exact ⟨by kernel_rfl, ⟨_, _, _, Tryd.underlying38⟩, rfl⟩
  · cases h; exact ⟨by kernel_rfl, ⟨_, _, _, Tryd.underlying39⟩, rfl⟩
  · cases h; exact ⟨by kernel_rfl, ⟨_, _, _, Tryd.underlying40⟩, rfl⟩
  · cases h; exact ⟨by kernel_rfl, Tryd.underlying41, rfl⟩
  · cases h; exact ⟨by kernel_rfl, Tryd.underlying42, rfl⟩
  · cases h; exact ⟨by kernel_rfl, (show structOffs Tryd.prog 43 = some [(0, 1), (1, 1)] by kernel_rfl), rfl⟩
  · cases h; exact ⟨by kernel_rfl, (show structOffs Tryd.prog 44 = some [(0, 1), (1, 1)] by kernel_rfl), rfl⟩
  · cases h; exact ⟨by kernel_rfl, ⟨_, _, _, Tryd.underlying45⟩, rfl⟩
  · cases h; exact ⟨by kernel_rfl, (show structOffs Tryd.prog 46 = some [(0, 1), (1, 1), (2, 1), (3, 1), (4, 1), (5, 1), (6, 1), (7, 1), (8, 1)] by kernel_rfl), rfl⟩
  · cases h; exact ⟨by kernel_rfl, (show structOffs Tryd.prog 47 = some [(0, 1), (1, 1), (2, 1), (3, 1), (4, 1), (5, 1), (6, 1), (7, 1), (8, 1)] by kernel_rfl), rfl⟩
  · cases h; exact ⟨by kernel_rfl, ⟨_, _, _, Tryd.underlying48⟩, rfl⟩
  · cases h; exact ⟨by kernel_rfl, Tryd.underlying49, rfl⟩
  · cases h; exact ⟨by kernel_rfl, Tryd.underlying50, rfl⟩
  · cases h; exact ⟨by kernel_rfl, (show structOffs Tryd.prog 51 = some [(0, 1), (1, 1)] by kernel_rfl), rfl⟩
  · cases h; exact ⟨by kernel_rfl, (show structOffs Tryd.prog 52 = some [(0, 1), (1, 1)] by kernel_rfl), rfl⟩
  · cases h; exact ⟨by kernel_rfl, ⟨_, _, _, Tryd.underlying53⟩, rfl⟩
  · cases h; exact ⟨by kernel_rfl, ⟨_, _, _, Tryd.underlying54⟩, rfl⟩
  · cases h; exact ⟨by kernel_rfl, ⟨_, _, _, Tryd.underlying55⟩, rfl⟩
  · cases h; exact ⟨by kernel_rfl, ⟨_, _, _, Tryd.underlying56⟩, rfl⟩
  · cases h; exact ⟨by kernel_rfl, ⟨_, _, _, Tryd.underlying57⟩, rfl⟩
  · cases h; exact ⟨by kernel_rfl, Tryd.underlying58, rfl⟩
  · cases h; exact ⟨by kernel_rfl, ⟨_, _, _, Tryd.underlying59⟩, rfl⟩
  · cases h; exact ⟨by kernel_rfl, ⟨_, _, _, Tryd.underlying60⟩, rfl⟩
  · cases h; exact ⟨by kernel_rfl, ⟨_, _, _, Tryd.underlying61⟩, rfl⟩
  · cases h; exact ⟨by kernel_rfl, ⟨_, _, _, Tryd.underlying62⟩, rfl⟩
  · cases h; exact ⟨by kernel_rfl, Tryd.underlying63, rfl⟩
  · cases h; exact ⟨by kernel_rfl, ⟨_, _, _, Tryd.underlying64⟩, rfl⟩
  · cases h; exact ⟨by kernel_rfl, ⟨_, _, _, Tryd.underlying65⟩, rfl⟩
  · cases h; exact ⟨by kernel_rfl, ⟨_, _, _, Tryd.underlying66⟩, rfl⟩
  · cases h; exact ⟨by kernel_rfl, ⟨_, _, _, Tryd.underlying67⟩, rfl⟩
  · cases h; exact ⟨by kernel_rfl, ⟨_, _, _, Tryd.underlying68⟩, rfl⟩
  · cases h; exact ⟨by kernel_rfl, Tryd.underlying69, rfl⟩
  · cases h; exact ⟨by kernel_rfl, ⟨_, _, _, Tryd.underlying70⟩, rfl⟩
  · cases h; exact ⟨by kernel_rfl, ⟨_, _, _, Tryd.underlying71⟩, rfl⟩
  · cases h; exact ⟨by kernel_rfl, (show structOffs Tryd.prog 72 = some [(0, 1), (1, 1), (2, 1)] by kernel_rfl), rfl⟩
  · cases h; exact ⟨by kernel_rfl, (show structOffs Tryd.prog 73 = some [(0, 1), (1, 1), (2, 1)] by kernel_rfl), rfl⟩
  · cases h; exact ⟨by kernel_rfl, ⟨_, _, _, Tryd.underlying74⟩, rfl⟩
  · cases h; exact ⟨by kernel_rfl, ⟨_, _, _, Tryd.underlying75⟩, rfl⟩
  · cases h; exact ⟨by kernel_rfl, ⟨_, _, _, Tryd.underlying76⟩, rfl⟩
  · cases h; exact ⟨by kernel_rfl, ⟨_, _, _, Tryd.underlying77⟩, rfl⟩
  · cases h; exact ⟨by kernel_rfl, ⟨_, _, _, Tryd.underlying78⟩, rfl⟩
  · cases h; exact ⟨by kernel_rfl, ⟨_, _, _, Tryd.underlying79⟩, rfl⟩
  · cases h; exact ⟨by kernel_rfl, ⟨_, _, _, Tryd.underlying80⟩, rfl⟩
  · cases h; exact ⟨by kernel_rfl, ⟨_, _, _, Tryd.underlying81⟩, rfl⟩
  · cases h; exact ⟨by kernel_rfl, ⟨_, _, _, Tryd.underlying82⟩, rfl⟩
  · cases h; exact ⟨by kernel_rfl, ⟨_, _, _, Tryd.underlying83⟩, rfl⟩
  · cases h; exact ⟨by kernel_rfl, ⟨_, _, _, Tryd.underlying84⟩, rfl⟩
  · cases h; exact ⟨by kernel_rfl, ⟨_, _, _, Tryd.underlying85⟩, rfl⟩
  · cases h; exact ⟨by kernel_rfl, ⟨_, _, _, Tryd.underlying86⟩, rfl⟩
  · cases h; exact ⟨by kernel_rfl, (show structOffs Tryd.prog 87 = some [(0, 1), (1, 1), (2, 1), (3, 1)] by kernel_rfl), rfl⟩
  · cases h; exact ⟨by kernel_rfl, (show structOffs Tryd.prog 88 = some [(0, 1), (1, 1), (2, 1), (3, 1)] by kernel_rfl), rfl⟩
  · cases h; exact ⟨by kernel_rfl, ⟨_, _, _, Tryd.underlying89⟩, rfl⟩
  · cases h; exact ⟨by kernel_rfl, ⟨_, _, _, Tryd.underlying90⟩, rfl⟩
  · cases h; exact ⟨by kernel_rfl, ⟨_, _, _, Tryd.underlying91⟩, rfl⟩
  · cases h; exact ⟨by kernel_rfl, ⟨_, _, _, Tryd.underlying93⟩, rfl⟩
  · cases h; exact ⟨by kernel_rfl, ⟨_, _, _, Tryd.underlying94⟩, rfl⟩
  · cases h; exact ⟨by kernel_rfl, ⟨_, _, _, Tryd.underlying95⟩, rfl⟩
  · cases h; exact ⟨by kernel_rfl, ⟨_, _, _, Tryd.underlying96⟩, rfl⟩
  · cases h; exact ⟨by kernel_rfl, ⟨_, _, _, Tryd.underlying97⟩, rfl⟩
  · cases h; exact ⟨by kernel_rfl, ⟨_, _, _, Tryd.underlying98⟩, rfl⟩
  · cases h; exact ⟨by kernel_rfl, Tryd.underlying99, rfl⟩
  · cases h; exact ⟨by kernel_rfl, ⟨_, _, _, Tryd.underlying100⟩, rfl⟩
  · cases h; exact ⟨by kernel_rfl, ⟨_, _, _, Tryd.underlying101⟩, rfl⟩
  · cases h; exact ⟨by kernel_rfl, (show structOffs Tryd.prog 102 = some [(0, 1), (1, 1), (2, 1), (3, 1), (4, 1), (5, 1), (6, 1)] by kernel_rfl), rfl⟩
  · cases h; exact ⟨by kernel_rfl, (show structOffs Tryd.prog 103 = some [(0, 1), (1, 1), (2, 1), (3, 1), (4, 1), (5, 1), (6, 1)] by kernel_rfl), rfl⟩
  · cases h; exact ⟨by kernel_rfl, ⟨_, _, _, Tryd.underlying104⟩, rfl⟩
  · cases h; exact ⟨by kernel_rfl, ⟨_, _, _, Tryd.underlying105⟩, rfl⟩
  · cases h; exact ⟨by kernel_rfl, ⟨_, _, _, Tryd.underlying106⟩, rfl⟩
  · cases h; exact ⟨by kernel_rfl, (show structOffs Tryd.prog 107 = some [(0, 1), (1, 1), (2, 1)] by kernel_rfl), rfl⟩
  · cases h; exact ⟨by kernel_rfl, (show structOffs Tryd.prog 108 = some [(0, 1), (1, 1), (2, 1)] by kernel_rfl), rfl⟩
  · cases h; exact ⟨by kernel_rfl, ⟨_, _, _, Tryd.underlying109⟩, rfl⟩
  · cases h; exact ⟨by kernel_rfl, ⟨_, _, _, Tryd.underlying110⟩, rfl⟩
  · cases h; exact ⟨by kernel_rfl, ⟨_, _, _, Tryd.underlying111⟩, rfl⟩
  · cases h; exact ⟨by kernel_rfl, (show structOffs Tryd.prog 112 = some [(0, 1), (1, 1), (2, 1), (3, 1), (4, 1), (5, 1), (6, 1)] by kernel_rfl), rfl⟩
  · cases h; exact ⟨by kernel_rfl, ⟨_, _, _, Tryd.underlying113⟩, rfl⟩
  · cases h; exact ⟨by kernel_rfl, ⟨_, _, _, Tryd.underlying114⟩, rfl⟩
  · cases h; exact ⟨by kernel_rfl, ⟨_, _, _, Tryd.underlying115⟩, rfl⟩
  · cases h; exact ⟨by kernel_rfl, ⟨_, _, _, Tryd.underlying116⟩, rfl⟩
  · cases h; exact ⟨by kernel_rfl, ⟨_, _, _, Tryd.underlying117⟩, rfl⟩
  · cases h; exact ⟨by kernel_rfl, (show structOffs Tryd.prog 118 = some [(0, 1), (1, 1), (2, 1), (3, 1)] by kernel_rfl), rfl⟩
  · cases h; exact ⟨by kernel_rfl, ⟨_, _, _, Tryd.underlying119⟩, rfl⟩
  · cases h; exact ⟨by kernel_rfl, Tryd.underlying120, rfl⟩
  · cases h; exact ⟨by kernel_rfl, (show structOffs Tryd.prog 121 = some [(0, 1), (1, 1), (2, 1), (3, 1), (4, 1)] by kernel_rfl), rfl⟩
  · cases h; exact ⟨by kernel_rfl, (show structOffs Tryd.prog 122 = some [(0, 1), (1, 1), (2, 1), (3, 1), (4, 1)] by kernel_rfl), rfl⟩
  · cases h; exact ⟨by kernel_rfl, ⟨_, _, _, Tryd.underlying123⟩, rfl⟩
  · cases h; exact ⟨by kernel_rfl, ⟨_, _, _, Tryd.underlying124⟩, rfl⟩
  · cases h; exact ⟨by kernel_rfl, ⟨_, _, _, Tryd.underlying125⟩, rfl⟩
  · cases h; exact ⟨by kernel_rfl, Tryd.underlying126, rfl⟩
  · cases h; exact ⟨by kernel_rfl, (show structOffs Tryd.prog 127 = some [(0, 1), (1, 1), (2, 1), (3, 1), (4, 1)] by kernel_rfl), rfl⟩
  · cases h; exact ⟨by kernel_rfl, (show structOffs Tryd.prog 128 = some [(0, 1), (1, 1), (2, 1), (3, 1), (4, 1)] by kernel_rfl), rfl⟩
  · cases h; exact ⟨by kernel_rfl, ⟨_, _, _, Tryd.underlying129⟩, rfl⟩
  · cases h; exact ⟨by kernel_rfl, ⟨_, _, _, Tryd.underlying130⟩, rfl⟩
  · cases h; exact ⟨by kernel_rfl, ⟨_, _, _, Tryd.underlying131⟩, rfl⟩
  · cases h; exact ⟨by kernel_rfl, ⟨_, _, _, Tryd.underlying132⟩, rfl⟩
  · cases h; exact ⟨by kernel_rfl, ⟨_, _, _, Tryd.underlying133⟩, rfl⟩
  · cases h; exact ⟨by kernel_rfl, ⟨_, _, _, Tryd.underlying134⟩, rfl⟩
  · cases h; exact ⟨by kernel_rfl, ⟨_, _, _, Tryd.underlying135⟩, rfl⟩
  · cases h; exact ⟨by kernel_rfl, ⟨_, _, _, Tryd.underlying137⟩, rfl⟩
  · cases h; exact ⟨by kernel_rfl, ⟨_, _, _, Tryd.underlying138⟩, rfl⟩
  · cases h; exact ⟨by kernel_rfl, ⟨_, _, _, Tryd.underlying139⟩, rfl⟩
  · cases h; exact ⟨by kernel_rfl, ⟨_, _, _, Tryd.underlying140⟩, rfl⟩
  · cases h; exact ⟨by kernel_rfl, ⟨_, _, _, Tryd.underlying141⟩, rfl⟩
  · cases h; exact ⟨by kernel_rfl, ⟨_, _, _, Tryd.underlying142⟩, rfl⟩
  · cases h; exact ⟨by kernel_rfl, ⟨_, _, _, Tryd.underlying143⟩, rfl⟩
  · cases h; exact ⟨by kernel_rfl, ⟨_, _, _, Tryd.underlying144⟩, rfl⟩
  · cases h; exact ⟨by kernel_rfl, Tryd.underlying145, rfl⟩
  · cases h; exact ⟨by kernel_rfl, ⟨_, _, _, Tryd.underlying146⟩, rfl⟩
  · cases h; exact ⟨by kernel_rfl, (show structOffs Tryd.prog 147 = some [(0, 1), (1, 1)] by kernel_rfl), rfl⟩
  · cases h; exact ⟨by kernel_rfl, (show structOffs Tryd.prog 148 = some [(0, 1), (1, 1)] by kernel_rfl), rfl⟩
  · cases h; exact ⟨by kernel_rfl, ⟨_, _, _, Tryd.underlying149⟩, rfl⟩
  · cases h; exact ⟨by kernel_rfl, ⟨_, _, _, Tryd.underlying151⟩, rfl⟩
  · cases h; exact ⟨by kernel_rfl, ⟨_, _, _, Tryd.underlying152⟩, rfl⟩
  · cases h; exact ⟨by kernel_rfl, ⟨_, _, _, Tryd.underlying153⟩, rfl⟩
  · cases h; exact ⟨by kernel_rfl, ⟨_, _, _, Tryd.underlying154⟩, rfl⟩
  · cases h; exact ⟨by kernel_rfl, ⟨_, _, _, Tryd.underlying155⟩, rfl⟩
  · cases h; exact ⟨by kernel_rfl, ⟨_, _, _, Tryd.underlying156⟩, rfl⟩
  · cases h; exact ⟨by kernel_rfl, ⟨_, _, _, Tryd.underlying157⟩, rfl⟩
  · cases h; exact ⟨by kernel_rfl, (show structOffs Tryd.prog 158 = some [(0, 1), (1, 1)] by kernel_rfl), rfl⟩
  · cases h; exact ⟨by kernel_rfl, ⟨_, _, _, Tryd.underlying159⟩, rfl⟩
  · cases h; exact ⟨by kernel_rfl, ⟨_, _, _, Tryd.underlying160⟩, rfl⟩
  · cases h; exact ⟨by kernel_rfl, Tryd.underlying161, rfl⟩
  · cases h; exact ⟨by kernel_rfl, ⟨_, _, _, Tryd.underlying162⟩, rfl⟩
  · cases h; exact ⟨by kernel_rfl, ⟨_, _, _, Tryd.underlying163⟩, rfl⟩
  · cases h; exact ⟨by kernel_rfl, ⟨_, _, _, Tryd.underlying164⟩, rfl⟩
  · cases h; exact ⟨by kernel_rfl, ⟨_, _, _, Tryd.underlying165⟩, rfl⟩
  · cases h; exact ⟨by kernel_rfl, ⟨_, _, _, Tryd.underlying166⟩, rfl⟩
  · cases h; exact ⟨by kernel_rfl, ⟨_, _, _, Tryd.underlying167⟩, rfl⟩
  · cases h; exact ⟨by kernel_rfl, ⟨_, _, _, Tryd.underlying168⟩, rfl⟩
  · cases h; exact ⟨by kernel_rfl, ⟨_, _, _, Tryd.underlying169⟩, rfl⟩
  · cases h; exact ⟨by kernel_rfl, ⟨_, _, _, Tryd.underlying171⟩, rfl⟩
  · cases h; exact ⟨by kernel_rfl, ⟨_, _, _, Tryd.underlying172⟩, rfl⟩
  · cases h; exact ⟨by kernel_rfl, ⟨_, _, _, Tryd.underlying173⟩, rfl⟩
  · cases h; exact ⟨by kernel_rfl, Tryd.underlying174, rfl⟩
  · cases h; exact ⟨by kernel_rfl, (show structOffs Tryd.prog 176 = some [(0, 1), (1, 1)] by kernel_rfl), rfl⟩
  · cases h; exact ⟨by kernel_rfl, (show structOffs Tryd.prog 177 = some [(0, 1), (1, 1)] by kernel_rfl), rfl⟩
  · cases h; exact ⟨by kernel_rfl, Tryd.underlying179, rfl⟩
  · cases h; exact ⟨by kernel_rfl, ⟨_, _, _, Tryd.underlying181⟩, rfl⟩
  · cases h; exact ⟨by kernel_rfl, ⟨_, _, _, Tryd.underlying182⟩, rfl⟩
  · cases h; exact ⟨by kernel_rfl, (show structOffs Tryd.prog 183 = some [(0, 1), (1, 1), (2, 1), (3, 1)] by kernel_rfl), rfl⟩
  · cases h; exact ⟨by kernel_rfl, ⟨_, _, _, Tryd.underlying188⟩, rfl⟩
  · cases h; exact ⟨by kernel_rfl, ⟨_, _, _, Tryd.underlying191⟩, rfl⟩
  · cases h; exact ⟨by kernel_rfl, ⟨_, Tryd.underlying192⟩, rfl⟩
  · cases h; exact ⟨by kernel_rfl, (show structOffs Tryd.prog 195 = some [(0, 1), (1, 1), (2, 1), (3, 1), (4, 1), (5, 1), (6, 1), (7, 1), (8, 1), (9, 1), (10, 1)] by kernel_rfl), rfl⟩
  · cases h
noncomputable def E : Env := ⟨Tryd.prog, ty, ty_ok, by kernel_rfl, [(0, fun cs => ∃ m, cs[0]? = some (.int .i64 m))]⟩
@[simp] theorem E_ty2 : E.ty 2 = some ⟨1, 8, .int .i64, [.v (.int .i64 0)]⟩ := rfl
@[simp] theorem E_ty3 : E.ty 3 = some ⟨1, 8, .int .i64, [.v (.int .i64 0)]⟩ := rfl
@[simp] theorem E_ty4 : E.ty 4 = some ⟨1, 1, .bool, [.v (.bool false)]⟩ := rfl
@[simp] theorem E_ty5 : E.ty 5 = some ⟨1, 1, .int .u8, [.v (.int .u8 0)]⟩ := rfl
@[simp] theorem E_ty7 : E.ty 7 = some ⟨4, 24, .struct [(0, 1), (1, 1), (2, 1), (3, 1)], [.v (.int .i64 0), .v (.int .i64 0), .v (.bool false), .v (.int .u8 0)]⟩ := rfl
@[simp] theorem E_ty9 : E.ty 9 = some ⟨1, 16, .str, [.v (.string .empty)]⟩ := rfl
@[simp] theorem E_ty12 : E.ty 12 = some ⟨1, 8, .int .u64, [.v (.int .u64 0)]⟩ := rfl
@[simp] theorem E_ty13 : E.ty 13 = some ⟨2, 24, .struct [(0, 1), (1, 1)], [.v (.string .empty), .v (.int .u64 0)]⟩ := rfl
@[simp] theorem E_ty15 : E.ty 15 = some ⟨1, 8, .ptr, [.v (.pointer none)]⟩ := rfl
@[simp] theorem E_ty16 : E.ty 16 = some ⟨1, 8, .ptr, [.v (.pointer none)]⟩ := rfl
@[simp] theorem E_ty17 : E.ty 17 = some ⟨1, 8, .ptr, [.v (.pointer none)]⟩ := rfl
@[simp] theorem E_ty18 : E.ty 18 = some ⟨1, 8, .struct [(0, 1)], [.v (.pointer none)]⟩ := rfl
@[simp] theorem E_ty20 : E.ty 20 = some ⟨1, 16, .iface, [.v .nilIface]⟩ := rfl
@[simp] theorem E_ty21 : E.ty 21 = some ⟨1, 4, .int .i32, [.v (.int .i32 0)]⟩ := rfl
@[simp] theorem E_ty22 : E.ty 22 = some ⟨1, 24, .slice 3, [.nl true 1 none]⟩ := rfl
@[simp] theorem E_ty23 : E.ty 23 = some ⟨1, 24, .slice 112, [.nl true 7 none]⟩ := rfl
@[simp] theorem E_ty24 : E.ty 24 = some ⟨4, 72, .struct [(0, 1), (1, 1), (2, 1), (3, 1)], [.v (.string .empty), .v (.int .i64 0), .nl true 1 none, .nl true 7 none]⟩ := rfl
@[simp] theorem E_ty25 : E.ty 25 = some ⟨4, 72, .struct [(0, 1), (1, 1), (2, 1), (3, 1)], [.v (.string .empty), .v (.int .i64 0), .nl true 1 none, .nl true 7 none]⟩ := rfl
@[simp] theorem E_ty26 : E.ty 26 = some ⟨1, 8, .func, [.v .nilFunc]⟩ := rfl
@[simp] theorem E_ty27 : E.ty 27 = some ⟨1, 8, .func, [.v .nilFunc]⟩ := rfl
@[simp] theorem E_ty28 : E.ty 28 = some ⟨1, 24, .slice 103, [.nl true 7 none]⟩ := rfl
@[simp] theorem E_ty29 : E.ty 29 = some ⟨4, 72, .struct [(0, 1), (1, 1), (2, 1), (3, 1)], [.v (.string .empty), .v (.int .i64 0), .nl true 1 none, .nl true 7 none]⟩ := rfl
@[simp] theorem E_ty30 : E.ty 30 = some ⟨4, 72, .struct [(0, 1), (1, 1), (2, 1), (3, 1)], [.v (.string .empty), .v (.int .i64 0), .nl true 1 none, .nl true 7 none]⟩ := rfl
@[simp] theorem E_ty31 : E.ty 31 = some ⟨1, 8, .func, [.v .nilFunc]⟩ := rfl
@[simp] theorem E_ty32 : E.ty 32 = some ⟨1, 8, .func, [.v .nilFunc]⟩ := rfl
@[simp] theorem E_ty33 : E.ty 33 = some ⟨1, 8, .func, [.v .nilFunc]⟩ := rfl
@[simp] theorem E_ty34 : E.ty 34 = some ⟨1, 8, .func, [.v .nilFunc]⟩ := rfl
@[simp] theorem E_ty35 : E.ty 35 = some ⟨1, 8, .func, [.v .nilFunc]⟩ := rfl
@[simp] theorem E_ty36 : E.ty 36 = some ⟨1, 8, .func, [.v .nilFunc]⟩ := rfl
@[simp] theorem E_ty37 : E.ty 37 = some ⟨1, 24, .slice 63, [.nl true 1 none]⟩ := rfl
@[simp] theorem E_ty38 : E.ty 38 = some ⟨1, 8, .func, [.v .nilFunc]⟩ := rfl
@[simp] theorem E_ty39 : E.ty 39 = some ⟨1, 8, .func, [.v .nilFunc]⟩ := rfl
@[simp] theorem E_ty40 : E.ty 40 = some ⟨1, 8, .func, [.v .nilFunc]⟩ := rfl
@[simp] theorem E_ty41 : E.ty 41 = some ⟨1, 24, .slice 118, [.nl true 4 none]⟩ := rfl
@[simp] theorem E_ty42 : E.ty 42 = some ⟨1, 24, .slice 122, [.nl true 5 none]⟩ := rfl
@[simp] theorem E_ty43 : E.ty 43 = some ⟨2, 48, .struct [(0, 1), (1, 1)], [.nl true 4 none, .nl true 5 none]⟩ := rfl
@[simp] theorem E_ty44 : E.ty 44 = some ⟨2, 48, .struct [(0, 1), (1, 1)], [.nl true 4 none, .nl true 5 none]⟩ := rfl
@[simp] theorem E_ty45 : E.ty 45 = some ⟨1, 8, .func, [.v .nilFunc]⟩ := rfl
@[simp] theorem E_ty46 : E.ty 46 = some ⟨9, 72, .struct [(0, 1), (1, 1), (2, 1), (3, 1), (4, 1), (5, 1), (6, 1), (7, 1), (8, 1)], [.v (.int .i64 0), .v (.int .i64 0), .v (.int .i64 0), .v (.int .i64 0), .v (.int .i64 0), .v (.int .i64 0), .v (.int .i64 0), .v (.int .i64 0), .v (.int .i64 0)]⟩ := rfl
@[simp] theorem E_ty47 : E.ty 47 = some ⟨9, 72, .struct [(0, 1), (1, 1), (2, 1), (3, 1), (4, 1), (5, 1), (6, 1), (7, 1), (8, 1)], [.v (.int .i64 0), .v (.int .i64 0), .v (.int .i64 0), .v (.int .i64 0), .v (.int .i64 0), .v (.int .i64 0), .v (.int .i64 0), .v (.int .i64 0), .v (.int .i64 0)]⟩ := rfl
@[simp] theorem E_ty48 : E.ty 48 = some ⟨1, 8, .func, [.v .nilFunc]⟩ := rfl
@[simp] theorem E_ty49 : E.ty 49 = some ⟨1, 24, .slice 88, [.nl true 4 none]⟩ := rfl
@[simp] theorem E_ty50 : E.ty 50 = some ⟨1, 24, .slice 128, [.nl true 5 none]⟩ := rfl
@[simp] theorem E_ty51 : E.ty 51 = some ⟨2, 48, .struct [(0, 1), (1, 1)], [.nl true 4 none, .nl true 5 none]⟩ := rfl
@[simp] theorem E_ty52 : E.ty 52 = some ⟨2, 48, .struct [(0, 1), (1, 1)], [.nl true 4 none, .nl true 5 none]⟩ := rfl
@[simp] theorem E_ty53 : E.ty 53 = some ⟨1, 8, .func, [.v .nilFunc]⟩ := rfl
@[simp] theorem E_ty54 : E.ty 54 = some ⟨1, 8, .func, [.v .nilFunc]⟩ := rfl
@[simp] theorem E_ty55 : E.ty 55 = some ⟨1, 8, .func, [.v .nilFunc]⟩ := rfl
@[simp] theorem E_ty56 : E.ty 56 = some ⟨1, 8, .func, [.v .nilFunc]⟩ := rfl
@[simp] theorem E_ty57 : E.ty 57 = some ⟨1, 8, .func, [.v .nilFunc]⟩ := rfl
@[simp] theorem E_ty58 : E.ty 58 = some ⟨1, 24, .slice 37, [.nl true 1 none]⟩ := rfl
@[simp] theorem E_ty59 : E.ty 59 = some ⟨1, 8, .func, [.v .nilFunc]⟩ := rfl
@[simp] theorem E_ty60 : E.ty 60 = some ⟨1, 8, .func, [.v .nilFunc]⟩ := rfl
@[simp] theorem E_ty61 : E.ty 61 = some ⟨1, 8, .func, [.v .nilFunc]⟩ := rfl
@[simp] theorem E_ty62 : E.ty 62 = some ⟨1, 8, .func, [.v .nilFunc]⟩ := rfl
@[simp] theorem E_ty63 : E.ty 63 = some ⟨1, 24, .slice 4, [.nl true 1 none]⟩ := rfl
@[simp] theorem E_ty64 : E.ty 64 = some ⟨1, 8, .func, [.v .nilFunc]⟩ := rfl
@[simp] theorem E_ty65 : E.ty 65 = some ⟨1, 8, .func, [.v .nilFunc]⟩ := rfl
@[simp] theorem E_ty66 : E.ty 66 = some ⟨1, 8, .func, [.v .nilFunc]⟩ := rfl
@[simp] theorem E_ty67 : E.ty 67 = some ⟨1, 8, .func, [.v .nilFunc]⟩ := rfl
@[simp] theorem E_ty68 : E.ty 68 = some ⟨1, 8, .func, [.v .nilFunc]⟩ := rfl
@[simp] theorem E_ty69 : E.ty 69 = some ⟨1, 24, .slice 73, [.nl true 3 none]⟩ := rfl
@[simp] theorem E_ty70 : E.ty 70 = some ⟨1, 8, .func, [.v .nilFunc]⟩ := rfl
@[simp] theorem E_ty71 : E.ty 71 = some ⟨1, 8, .func, [.v .nilFunc]⟩ := rfl
@[simp] theorem E_ty72 : E.ty 72 = some ⟨3, 40, .struct [(0, 1), (1, 1), (2, 1)], [.v (.int .i64 0), .v (.int .i64 0), .nl true 1 none]⟩ := rfl
@[simp] theorem E_ty73 : E.ty 73 = some ⟨3, 40, .struct [(0, 1), (1, 1), (2, 1)], [.v (.int .i64 0), .v (.int .i64 0), .nl true 1 none]⟩ := rfl
@[simp] theorem E_ty74 : E.ty 74 = some ⟨1, 8, .func, [.v .nilFunc]⟩ := rfl
@[simp] theorem E_ty75 : E.ty 75 = some ⟨1, 8, .func, [.v .nilFunc]⟩ := rfl
@[simp] theorem E_ty76 : E.ty 76 = some ⟨1, 8, .func, [.v .nilFunc]⟩ := rfl
@[simp] theorem E_ty77 : E.ty 77 = some ⟨1, 8, .func, [.v .nilFunc]⟩ := rfl
@[simp] theorem E_ty78 : E.ty 78 = some ⟨1, 8, .func, [.v .nilFunc]⟩ := rfl
@[simp] theorem E_ty79 : E.ty 79 = some ⟨1, 8, .func, [.v .nilFunc]⟩ := rfl
@[simp] theorem E_ty80 : E.ty 80 = some ⟨1, 8, .func, [.v .nilFunc]⟩ := rfl
@[simp] theorem E_ty81 : E.ty 81 = some ⟨1, 8, .func, [.v .nilFunc]⟩ := rfl
@[simp] theorem E_ty82 : E.ty 82 = some ⟨1, 8, .func, [.v .nilFunc]⟩ := rfl
@[simp] theorem E_ty83 : E.ty 83 = some ⟨1, 8, .func, [.v .nilFunc]⟩ := rfl
@[simp] theorem E_ty84 : E.ty 84 = some ⟨1, 8, .func, [.v .nilFunc]⟩ := rfl
@[simp] theorem E_ty85 : E.ty 85 = some ⟨1, 8, .func, [.v .nilFunc]⟩ := rfl
@[simp] theorem E_ty86 : E.ty 86 = some ⟨1, 8, .func, [.v .nilFunc]⟩ := rfl
@[simp] theorem E_ty87 : E.ty 87 = some ⟨4, 56, .struct [(0, 1), (1, 1), (2, 1), (3, 1)], [.v (.int .i64 0), .v (.int .i64 0), .v (.string .empty), .nl true 1 none]⟩ := rfl
@[simp] theorem E_ty88 : E.ty 88 = some ⟨4, 56, .struct [(0, 1), (1, 1), (2, 1), (3, 1)], [.v (.int .i64 0), .v (.int .i64 0), .v (.string .empty), .nl true 1 none]⟩ := rfl
@[simp] theorem E_ty89 : E.ty 89 = some ⟨1, 8, .func, [.v .nilFunc]⟩ := rfl
@[simp] theorem E_ty90 : E.ty 90 = some ⟨1, 8, .func, [.v .nilFunc]⟩ := rfl
@[simp] theorem E_ty91 : E.ty 91 = some ⟨1, 8, .func, [.v .nilFunc]⟩ := rfl
@[simp] theorem E_ty93 : E.ty 93 = some ⟨1, 8, .func, [.v .nilFunc]⟩ := rfl
@[simp] theorem E_ty94 : E.ty 94 = some ⟨1, 8, .func, [.v .nilFunc]⟩ := rfl
@[simp] theorem E_ty95 : E.ty 95 = some ⟨1, 8, .func, [.v .nilFunc]⟩ := rfl
@[simp] theorem E_ty96 : E.ty 96 = some ⟨1, 8, .func, [.v .nilFunc]⟩ := rfl
@[simp] theorem E_ty97 : E.ty 97 = some ⟨1, 8, .func, [.v .nilFunc]⟩ := rfl
@[simp] theorem E_ty98 : E.ty 98 = some ⟨1, 8, .func, [.v .nilFunc]⟩ := rfl
@[simp] theorem E_ty99 : E.ty 99 = some ⟨1, 24, .slice 108, [.nl true 3 none]⟩ := rfl
@[simp] theorem E_ty100 : E.ty 100 = some ⟨1, 8, .func, [.v .nilFunc]⟩ := rfl
@[simp] theorem E_ty101 : E.ty 101 = some ⟨1, 8, .func, [.v .nilFunc]⟩ := rfl
@[simp] theorem E_ty102 : E.ty 102 = some ⟨7, 80, .struct [(0, 1), (1, 1), (2, 1), (3, 1), (4, 1), (5, 1), (6, 1)], [.v (.int .i64 0), .v (.int .i64 0), .v (.int .i64 0), .v (.int .i64 0), .v (.int .i64 0), .v (.string .empty), .nl true 1 none]⟩ := rfl
@[simp] theorem E_ty103 : E.ty 103 = some ⟨7, 80, .struct [(0, 1), (1, 1), (2, 1), (3, 1), (4, 1), (5, 1), (6, 1)], [.v (.int .i64 0), .v (.int .i64 0), .v (.int .i64 0), .v (.int .i64 0), .v (.int .i64 0), .v (.string .empty), .nl true 1 none]⟩ := rfl
@[simp] theorem E_ty104 : E.ty 104 = some ⟨1, 8, .func, [.v .nilFunc]⟩ := rfl
@[simp] theorem E_ty105 : E.ty 105 = some ⟨1, 8, .func, [.v .nilFunc]⟩ := rfl
@[simp] theorem E_ty106 : E.ty 106 = some ⟨1, 8, .func, [.v .nilFunc]⟩ := rfl
@[simp] theorem E_ty107 : E.ty 107 = some ⟨3, 24, .struct [(0, 1), (1, 1), (2, 1)], [.v (.int .i64 0), .v (.int .i64 0), .v (.bool false)]⟩ := rfl
@[simp] theorem E_ty108 : E.ty 108 = some ⟨3, 24, .struct [(0, 1), (1, 1), (2, 1)], [.v (.int .i64 0), .v (.int .i64 0), .v (.bool false)]⟩ := rfl
@[simp] theorem E_ty109 : E.ty 109 = some ⟨1, 8, .func, [.v .nilFunc]⟩ := rfl
@[simp] theorem E_ty110 : E.ty 110 = some ⟨1, 8, .func, [.v .nilFunc]⟩ := rfl
@[simp] theorem E_ty111 : E.ty 111 = some ⟨1, 8, .func, [.v .nilFunc]⟩ := rfl
@[simp] theorem E_ty112 : E.ty 112 = some ⟨7, 80, .struct [(0, 1), (1, 1), (2, 1), (3, 1), (4, 1), (5, 1), (6, 1)], [.v (.int .i64 0), .v (.int .i64 0), .v (.int .i64 0), .v (.int .i64 0), .v (.int .i64 0), .v (.string .empty), .nl true 1 none]⟩ := rfl
@[simp] theorem E_ty113 : E.ty 113 = some ⟨1, 8, .func, [.v .nilFunc]⟩ := rfl
@[simp] theorem E_ty114 : E.ty 114 = some ⟨1, 8, .func, [.v .nilFunc]⟩ := rfl
@[simp] theorem E_ty115 : E.ty 115 = some ⟨1, 8, .func, [.v .nilFunc]⟩ := rfl
@[simp] theorem E_ty116 : E.ty 116 = some ⟨1, 8, .func, [.v .nilFunc]⟩ := rfl
@[simp] theorem E_ty117 : E.ty 117 = some ⟨1, 8, .func, [.v .nilFunc]⟩ := rfl
@[simp] theorem E_ty118 : E.ty 118 = some ⟨4, 56, .struct [(0, 1), (1, 1), (2, 1), (3, 1)], [.v (.int .i64 0), .v (.int .i64 0), .v (.string .empty), .nl true 1 none]⟩ := rfl
@[simp] theorem E_ty119 : E.ty 119 = some ⟨1, 8, .func, [.v .nilFunc]⟩ := rfl
@[simp] theorem E_ty120 : E.ty 120 = some ⟨1, 24, .slice 158, [.nl true 2 none]⟩ := rfl
@[simp] theorem E_ty121 : E.ty 121 = some ⟨5, 64, .struct [(0, 1), (1, 1), (2, 1), (3, 1), (4, 1)], [.v (.string .empty), .nl true 2 none, .v (.int .i64 0), .v (.int .i64 0), .v (.int .i64 0)]⟩ := rfl
@[simp] theorem E_ty122 : E.ty 122 = some ⟨5, 64, .struct [(0, 1), (1, 1), (2, 1), (3, 1), (4, 1)], [.v (.string .empty), .nl true 2 none, .v (.int .i64 0), .v (.int .i64 0), .v (.int .i64 0)]⟩ := rfl
@[simp] theorem E_ty123 : E.ty 123 = some ⟨1, 8, .func, [.v .nilFunc]⟩ := rfl
@[simp] theorem E_ty124 : E.ty 124 = some ⟨1, 8, .func, [.v .nilFunc]⟩ := rfl
@[simp] theorem E_ty125 : E.ty 125 = some ⟨1, 8, .func, [.v .nilFunc]⟩ := rfl
@[simp] theorem E_ty126 : E.ty 126 = some ⟨1, 24, .slice 148, [.nl true 2 none]⟩ := rfl
@[simp] theorem E_ty127 : E.ty 127 = some ⟨5, 64, .struct [(0, 1), (1, 1), (2, 1), (3, 1), (4, 1)], [.v (.string .empty), .nl true 2 none, .v (.int .i64 0), .v (.int .i64 0), .v (.int .i64 0)]⟩ := rfl
@[simp] theorem E_ty128 : E.ty 128 = some ⟨5, 64, .struct [(0, 1), (1, 1), (2, 1), (3, 1), (4, 1)], [.v (.string .empty), .nl true 2 none, .v (.int .i64 0), .v (.int .i64 0), .v (.int .i64 0)]⟩ := rfl
@[simp] theorem E_ty129 : E.ty 129 = some ⟨1, 8, .func, [.v .nilFunc]⟩ := rfl
@[simp] theorem E_ty130 : E.ty 130 = some ⟨1, 8, .func, [.v .nilFunc]⟩ := rfl
@[simp] theorem E_ty131 : E.ty 131 = some ⟨1, 8, .func, [.v .nilFunc]⟩ := rfl
@[simp] theorem E_ty132 : E.ty 132 = some ⟨1, 8, .func, [.v .nilFunc]⟩ := rfl
@[simp] theorem E_ty133 : E.ty 133 = some ⟨1, 8, .func, [.v .nilFunc]⟩ := rfl
@[simp] theorem E_ty134 : E.ty 134 = some ⟨1, 8, .func, [.v .nilFunc]⟩ := rfl
@[simp] theorem E_ty135 : E.ty 135 = some ⟨1, 8, .func, [.v .nilFunc]⟩ := rfl
@[simp] theorem E_ty137 : E.ty 137 = some ⟨1, 8, .func, [.v .nilFunc]⟩ := rfl
@[simp] theorem E_ty138 : E.ty 138 = some ⟨1, 8, .func, [.v .nilFunc]⟩ := rfl
@[simp] theorem E_ty139 : E.ty 139 = some ⟨1, 8, .func, [.v .nilFunc]⟩ := rfl
@[simp] theorem E_ty140 : E.ty 140 = some ⟨1, 8, .func, [.v .nilFunc]⟩ := rfl
@[simp] theorem E_ty141 : E.ty 141 = some ⟨1, 8, .func, [.v .nilFunc]⟩ := rfl
@[simp] theorem E_ty142 : E.ty 142 = some ⟨1, 8, .func, [.v .nilFunc]⟩ := rfl
@[simp] theorem E_ty143 : E.ty 143 = some ⟨1, 8, .func, [.v .nilFunc]⟩ := rfl
@[simp] theorem E_ty144 : E.ty 144 = some ⟨1, 8, .func, [.v .nilFunc]⟩ := rfl
@[simp] theorem E_ty145 : E.ty 145 = some ⟨1, 24, .slice 5, [.nl true 1 none]⟩ := rfl
@[simp] theorem E_ty146 : E.ty 146 = some ⟨1, 8, .func, [.v .nilFunc]⟩ := rfl
@[simp] theorem E_ty147 : E.ty 147 = some ⟨2, 24, .struct [(0, 1), (1, 1)], [.v (.string .empty), .v (.int .i64 0)]⟩ := rfl
@[simp] theorem E_ty148 : E.ty 148 = some ⟨2, 24, .struct [(0, 1), (1, 1)], [.v (.string .empty), .v (.int .i64 0)]⟩ := rfl
@[simp] theorem E_ty149 : E.ty 149 = some ⟨1, 8, .func, [.v .nilFunc]⟩ := rfl
@[simp] theorem E_ty151 : E.ty 151 = some ⟨1, 8, .func, [.v .nilFunc]⟩ := rfl
@[simp] theorem E_ty152 : E.ty 152 = some ⟨1, 8, .func, [.v .nilFunc]⟩ := rfl
@[simp] theorem E_ty153 : E.ty 153 = some ⟨1, 8, .func, [.v .nilFunc]⟩ := rfl
@[simp] theorem E_ty154 : E.ty 154 = some ⟨1, 8, .func, [.v .nilFunc]⟩ := rfl
@[simp] theorem E_ty155 : E.ty 155 = some ⟨1, 8, .func, [.v .nilFunc]⟩ := rfl
@[simp] theorem E_ty156 : E.ty 156 = some ⟨1, 8, .func, [.v .nilFunc]⟩ := rfl
@[simp] theorem E_ty157 : E.ty 157 = some ⟨1, 8, .func, [.v .nilFunc]⟩ := rfl
@[simp] theorem E_ty158 : E.ty 158 = some ⟨2, 24, .struct [(0, 1), (1, 1)], [.v (.string .empty), .v (.int .i64 0)]⟩ := rfl
@[simp] theorem E_ty159 : E.ty 159 = some ⟨1, 8, .func, [.v .nilFunc]⟩ := rfl
@[simp] theorem E_ty160 : E.ty 160 = some ⟨1, 8, .func, [.v .nilFunc]⟩ := rfl
@[simp] theorem E_ty161 : E.ty 161 = some ⟨1, 24, .slice 9, [.nl true 1 none]⟩ := rfl
@[simp] theorem E_ty162 : E.ty 162 = some ⟨1, 8, .func, [.v .nilFunc]⟩ := rfl
@[simp] theorem E_ty163 : E.ty 163 = some ⟨1, 8, .func, [.v .nilFunc]⟩ := rfl
@[simp] theorem E_ty164 : E.ty 164 = some ⟨1, 8, .func, [.v .nilFunc]⟩ := rfl
@[simp] theorem E_ty165 : E.ty 165 = some ⟨1, 8, .func, [.v .nilFunc]⟩ := rfl
@[simp] theorem E_ty166 : E.ty 166 = some ⟨1, 8, .func, [.v .nilFunc]⟩ := rfl
@[simp] theorem E_ty167 : E.ty 167 = some ⟨1, 8, .func, [.v .nilFunc]⟩ := rfl
@[simp] theorem E_ty168 : E.ty 168 = some ⟨1, 8, .func, [.v .nilFunc]⟩ := rfl
@[simp] theorem E_ty169 : E.ty 169 = some ⟨1, 8, .func, [.v .nilFunc]⟩ := rfl
@[simp] theorem E_ty171 : E.ty 171 = some ⟨1, 8, .func, [.v .nilFunc]⟩ := rfl
@[simp] theorem E_ty172 : E.ty 172 = some ⟨1, 8, .func, [.v .nilFunc]⟩ := rfl
@[simp] theorem E_ty173 : E.ty 173 = some ⟨1, 8, .func, [.v .nilFunc]⟩ := rfl
@[simp] theorem E_ty174 : E.ty 174 = some ⟨1, 8, .int .u64, [.v (.int .u64 0)]⟩ := rfl
@[simp] theorem E_ty176 : E.ty 176 = some ⟨2, 2, .struct [(0, 1), (1, 1)], [.v (.int .u8 0), .v (.int .u8 0)]⟩ := rfl
@[simp] theorem E_ty177 : E.ty 177 = some ⟨2, 2, .struct [(0, 1), (1, 1)], [.v (.int .u8 0), .v (.int .u8 0)]⟩ := rfl
@[simp] theorem E_ty179 : E.ty 179 = some ⟨1, 4, .int .u32, [.v (.int .u32 0)]⟩ := rfl
@[simp] theorem E_ty181 : E.ty 181 = some ⟨1, 8, .func, [.v .nilFunc]⟩ := rfl
@[simp] theorem E_ty182 : E.ty 182 = some ⟨1, 8, .func, [.v .nilFunc]⟩ := rfl
@[simp] theorem E_ty183 : E.ty 183 = some ⟨4, 40, .struct [(0, 1), (1, 1), (2, 1), (3, 1)], [.v (.pointer none), .v (.pointer none), .v (.pointer none), .v (.string .empty)]⟩ := rfl
@[simp] theorem E_ty188 : E.ty 188 = some ⟨1, 8, .func, [.v .nilFunc]⟩ := rfl
@[simp] theorem E_ty191 : E.ty 191 = some ⟨1, 8, .func, [.v .nilFunc]⟩ := rfl
@[simp] theorem E_ty192 : E.ty 192 = some ⟨1, 8, .ptr, [.v (.pointer none)]⟩ := rfl
@[simp] theorem E_ty195 : E.ty 195 = some ⟨11, 48, .struct [(0, 1), (1, 1), (2, 1), (3, 1), (4, 1), (5, 1), (6, 1), (7, 1), (8, 1), (9, 1), (10, 1)], [.v (.int .u64 0), .v (.int .u64 0), .v (.int .u32 0), .v (.int .u8 0), .v (.int .u8 0), .v (.int .u8 0), .v (.int .u8 0), .v .nilFunc, .v (.pointer none), .v (.int .i32 0), .v (.int .i32 0)]⟩ := rfl
end Go.Proofs.T
set_option linter.unusedVariables false
set_option linter.unusedSimpArgs false
set_option maxHeartbeats 1000000
namespace Go.Proofs.T
open Go.OM
theorem res44 : Tryd.f44.results.toList = [.tmp 4] := rfl
theorem ent44 : Enters E.P 44 := enters_of Tryd.func44 (by simp [Tryd.f44]) rfl
theorem laws_szIntS_ok (a1 : List Int) (left2 : Int) {r0 : Int} (h : laws_szIntS a1 left2 = some r0) : Ok E 44 [.val (.sl false 1 (List.map vi a1)), .val (vi left2)] [vi r0] [] := by
  refine ok_of_body (fn := Tryd.f44) Tryd.func44 rfl (by simp [Tryd.f44]) fun C hN hP => ?_
  have hPB : ∀ l, pinK [] l = true → pinB C.pin l = true := pinB_of (by rw [hP]; rfl)
  have hN' : C.N = 12 := hN
  clear hN
  unfold laws_szIntS at h
  refine SWp.seqR rfl (hPB _ rfl) fun K hK => ?_
  refine wps_cons rfl fun K hK => ?_; simp [hN']; refine hK _ ?_; clear hK
  refine wps_nil (hK _ ?_); clear hK
  refine SWp.seqR rfl (hPB _ rfl) fun K hK => ?_
  iterate 5 (refine wps_cons rfl fun K hK => ?_; simp [hN']; refine hK _ ?_; clear hK)
  refine wps_nil (hK _ ?_); clear hK
  refine SWp.seq ?_
  refine SWp.seqR rfl (hPB _ rfl) fun K hK => ?_
  iterate 2 (refine wps_cons rfl fun K hK => ?_; simp [hN']; refine hK _ ?_; clear hK)
  refine wps_nil (hK _ ?_); clear hK
  rcases ite_or h with ⟨hb3, h⟩ | ⟨hb4, h⟩
  · refine SWp.condT' (b := decide (IntKind.wrap .i64 (left2 - (a1.length : Int)) < 0)) (by simp) hb3 ?_
    refine SWp.seqR rfl (hPB _ rfl) fun K hK => ?_
    refine wps_cons rfl fun K hK => ?_; simp [hN']; refine hK _ ?_; clear hK
    refine wps_nil (hK _ ?_); clear hK
    cases h
    refine SWp.ret ?_
    simp [thenS, inBlockS, res44]
  · refine SWp.condF' (b := decide (IntKind.wrap .i64 (left2 - (a1.length : Int)) < 0)) (by simp) hb4 ?_
    refine SWp.skip ?_
    show SWp E C _ _ _
    refine SWp.seqR rfl (hPB _ rfl) fun K hK => ?_
    iterate 2 (refine wps_cons rfl fun K hK => ?_; simp [hN']; refine hK _ ?_; clear hK)
    refine wps_nil (hK _ ?_); clear hK
    cases h
    refine SWp.ret ?_
    simp [thenS, inBlockS, res44]
end Go.Proofs.T
set_option linter.unusedVariables false
set_option linter.unusedSimpArgs false
set_option maxHeartbeats 1000000
namespace Go.Proofs.T
open Go.OM
theorem res92 : Tryd.f92.results.toList = [.tmp 4] := rfl
theorem ent92 : Enters E.P 92 := enters_of Tryd.func92 (by simp [Tryd.f92]) rfl
theorem laws_szIns_ok (a1 : GIns) (left2 : Int) {r0 : Int} (h : laws_szIns a1 left2 = some r0) : Ok E 92 [.val (GIns.enc false a1), .val (vi left2)] [vi r0] [] := by
  refine ok_of_body (fn := Tryd.f92) Tryd.func92 rfl (by simp [Tryd.f92]) fun C hN hP => ?_
  have hPB : ∀ l, pinK [] l = true → pinB C.pin l = true := pinB_of (by rw [hP]; rfl)
  have hN' : C.N = 19 := hN
  clear hN
  unfold laws_szIns at h
  refine SWp.seqR rfl (hPB _ rfl) fun K hK => ?_
  iterate 2 (refine wps_cons rfl fun K hK => ?_; simp [hN']; refine hK _ ?_; clear hK)
  refine wps_nil (hK _ ?_); clear hK
  refine SWp.seqR rfl (hPB _ rfl) fun K hK => ?_
  iterate 6 (refine wps_cons rfl fun K hK => ?_; simp [hN']; refine hK _ ?_; clear hK)
  refine wps_nil (hK _ ?_); clear hK
  refine SWp.seq ?_
  refine SWp.seqR rfl (hPB _ rfl) fun K hK => ?_
  iterate 2 (refine wps_cons rfl fun K hK => ?_; simp [hN']; refine hK _ ?_; clear hK)
  refine wps_nil (hK _ ?_); clear hK
  rcases ite_or h with ⟨hb3, h⟩ | ⟨hb4, h⟩
  · refine SWp.condT' (b := decide (IntKind.wrap .i64 (left2 - (a1.Name.size : Int)) < 0)) (by simp) hb3 ?_
    refine SWp.seqR rfl (hPB _ rfl) fun K hK => ?_
    refine wps_cons rfl fun K hK => ?_; simp [hN']; refine hK _ ?_; clear hK
    refine wps_nil (hK _ ?_); clear hK
    cases h
    refine SWp.ret ?_
    simp [thenS, inBlockS, res92]
  · refine SWp.condF' (b := decide (IntKind.wrap .i64 (left2 - (a1.Name.size : Int)) < 0)) (by simp) hb4 ?_
    refine SWp.skip ?_
    show SWp E C _ _ _
    refine SWp.seqR rfl (hPB _ rfl) fun K hK => ?_
    iterate 3 (refine wps_cons rfl fun K hK => ?_; simp [hN']; refine hK _ ?_; clear hK)
    obtain ⟨r5, hc6, h⟩ := bind_some h
    refine wps_call [(.take, .tmp 13), (.take, .tmp 14)] rfl rfl ent44 (laws_szIntS_ok _ _ hc6) fun K hK => ?_; simp [hN']; refine hK _ ?_; clear hK
    refine wps_cons rfl fun K hK => ?_; simp [hN']; refine hK _ ?_; clear hK
    refine wps_nil (hK _ ?_); clear hK
    refine SWp.seq ?_
    refine SWp.seqR rfl (hPB _ rfl) fun K hK => ?_
    iterate 2 (refine wps_cons rfl fun K hK => ?_; simp [hN']; refine hK _ ?_; clear hK)
    refine wps_nil (hK _ ?_); clear hK
    rcases ite_or h with ⟨hb7, h⟩ | ⟨hb8, h⟩
    · refine SWp.condT' (b := decide (r5 < 0)) (by simp) hb7 ?_
      refine SWp.seqR rfl (hPB _ rfl) fun K hK => ?_
      refine wps_cons rfl fun K hK => ?_; simp [hN']; refine hK _ ?_; clear hK
      refine wps_nil (hK _ ?_); clear hK
      cases h
      refine SWp.ret ?_
      simp [thenS, inBlockS, res92]
    · refine SWp.condF' (b := decide (r5 < 0)) (by simp) hb8 ?_
      refine SWp.skip ?_
      show SWp E C _ _ _
      refine SWp.seqR rfl (hPB _ rfl) fun K hK => ?_
      iterate 2 (refine wps_cons rfl fun K hK => ?_; simp [hN']; refine hK _ ?_; clear hK)
      refine wps_nil (hK _ ?_); clear hK
      cases h
      refine SWp.ret ?_
      simp [thenS, inBlockS, res92]
end Go.Proofs.T
set_option linter.unusedVariables false
set_option linter.unusedSimpArgs false
set_option maxHeartbeats 1000000
namespace Go.Proofs.T
open Go.OM
theorem res45 : Tryd.f45.results.toList = [.tmp 4] := rfl
theorem ent45 : Enters E.P 45 := enters_of Tryd.func45 (by simp [Tryd.f45]) rfl
theorem laws_szInsS_ok (a1 : List GIns) (left2 : Int) {r0 : Int} (h : laws_szInsS a1 left2 = some r0) : Ok E 45 [.val (.sl false 7 (List.map (GIns.enc false) a1)), .val (vi left2)] [vi r0] [] := by
  refine ok_of_body (fn := Tryd.f45) Tryd.func45 rfl (by simp [Tryd.f45]) fun C hN hP => ?_
  have hPB : ∀ l, pinK [] l = true → pinB C.pin l = true := pinB_of (by rw [hP]; rfl)
  have hN' : C.N = 27 := hN
  clear hN
  unfold laws_szInsS at h
  refine SWp.seqR rfl (hPB _ rfl) fun K hK => ?_
  refine wps_cons rfl fun K hK => ?_; simp [hN']; refine hK _ ?_; clear hK
  refine wps_nil (hK _ ?_); clear hK
  refine SWp.seqR rfl (hPB _ rfl) fun K hK => ?_
  iterate 5 (refine wps_cons rfl fun K hK => ?_; simp [hN']; refine hK _ ?_; clear hK)
  refine wps_nil (hK _ ?_); clear hK
  refine SWp.seq ?_
  refine SWp.seqR rfl (hPB _ rfl) fun K hK => ?_
  iterate 2 (refine wps_cons rfl fun K hK => ?_; simp [hN']; refine hK _ ?_; clear hK)
  refine wps_nil (hK _ ?_); clear hK
  rcases ite_or h with ⟨hb3, h⟩ | ⟨hb4, h⟩
  · refine SWp.condT' (b := decide (IntKind.wrap .i64 (left2 - (a1.length : Int)) < 0)) (by simp) hb3 ?_
    refine SWp.seqR rfl (hPB _ rfl) fun K hK => ?_
    refine wps_cons rfl fun K hK => ?_; simp [hN']; refine hK _ ?_; clear hK
    refine wps_nil (hK _ ?_); clear hK
    cases h
    refine SWp.ret ?_
    simp [thenS, inBlockS, res45]
  · refine SWp.condF' (b := decide (IntKind.wrap .i64 (left2 - (a1.length : Int)) < 0)) (by simp) hb4 ?_
    refine SWp.skip ?_
    show SWp E C _ _ _
    obtain ⟨j7, hj5, h⟩ := bind_some h
    refine SWp.seqC [1] [] (fun v : Int => ⟨[(1, .t (vi v))], []⟩) (fun v => j7 = Sum.inl v) (fun v hv => ?_) fun K6 hK6 => ?_
    rotate_left
    · refine SWp.seqR rfl (hPB _ rfl) fun K hK => ?_
      refine wps_cons rfl fun K hK => ?_; simp [hN']; refine hK _ ?_; clear hK
      refine wps_nil (hK _ ?_); clear hK
      refine SWp.block ?_
      refine SWp.loopO [] [0, 1, 5] [] (fun v : Int × Int => ⟨[(0, .t (.sl false 7 (List.map (GIns.enc false) a1))), (1, .t (vi v.1)), (5, .t (vi v.2))], []⟩) (laws_szInsS_l1 a1) _ (IntKind.wrap .i64 (left2 - (a1.length : Int)), 0) hj5 (by simp [hN']) ?_
      intro g s12 h10 ho11
      obtain ⟨left8, i9⟩ := g
      simp only [laws_szInsS_l1] at h10
      try dsimp only
      refine SWp.seq ?_
      refine SWp.seqR rfl (hPB _ rfl) fun K hK => ?_
      iterate 4 (refine wps_cons rfl fun K hK => ?_; simp [hN']; refine hK _ ?_; clear hK)
      refine wps_nil (hK _ ?_); clear hK
      rcases ite_or h10 with ⟨hb13, h10⟩ | ⟨hb14, h10⟩
      · refine SWp.condT' (b := decide (i9 < (a1.length : Int))) (by simp) hb13 ?_
        refine SWp.skip ?_
        show SWp E C _ _ _
        refine SWp.seq ?_
        refine SWp.block ?_
        refine SWp.seqR rfl (hPB _ rfl) fun K hK => ?_
        iterate 2 (refine wps_cons rfl fun K hK => ?_; simp [hN']; refine hK _ ?_; clear hK)
        obtain ⟨e15, he15, h10⟩ := bind_some h10
        obtain ⟨he15a, he15b, he15c, he15d⟩ := getI_some he15
        iterate 3 (refine wps_cons rfl fun K hK => ?_; simp [hN', he15a, he15b, he15c, he15d]; refine hK _ ?_; clear hK)
        obtain ⟨r16, hc17, h10⟩ := bind_some h10
        refine wps_call [(.take, .tmp 21), (.take, .tmp 22)] rfl rfl ent92 (laws_szIns_ok _ _ hc17) fun K hK => ?_; simp [hN', he15a, he15b, he15c, he15d]; refine hK _ ?_; clear hK
        refine wps_cons rfl fun K hK => ?_; simp [hN', he15a, he15b, he15c, he15d]; refine hK _ ?_; clear hK
        refine wps_nil (hK _ ?_); clear hK
        refine SWp.seqR rfl (hPB _ rfl) fun K hK => ?_
        iterate 2 (refine wps_cons rfl fun K hK => ?_; simp [hN']; refine hK _ ?_; clear hK)
        refine wps_nil (hK _ ?_); clear hK
        rcases ite_or h10 with ⟨hb18, h10⟩ | ⟨hb19, h10⟩
        · refine SWp.condT' (b := decide (r16 < 0)) (by simp) hb18 ?_
          refine SWp.seqR rfl (hPB _ rfl) fun K hK => ?_
          refine wps_cons rfl fun K hK => ?_; simp [hN']; refine hK _ ?_; clear hK
          refine wps_nil (hK _ ?_); clear hK
          have h20 := congrArg some (ho11 _ (Option.some.inj h10).symm)
          cases h20
          try dsimp only at h
          cases h
          refine SWp.ret ?_
          simp [thenS, inBlockS, res45]
        · refine SWp.condF' (b := decide (r16 < 0)) (by simp) hb19 ?_
          refine SWp.skip ?_
          show SWp E C _ _ _
          refine SWp.reg rfl (hPB _ rfl) fun K hK => ?_
          iterate 3 (refine wps_cons rfl fun K hK => ?_; simp [hN']; refine hK _ ?_; clear hK)
          refine wps_nil (hK _ ?_); clear hK
          cases h10
          exact ⟨_, [], rfl, by simp [hN']⟩
      · refine SWp.condF' (b := decide (i9 < (a1.length : Int))) (by simp) hb14 ?_
        refine SWp.exit ?_
        have h21 := congrArg some (ho11 _ (Option.some.inj h10).symm)
        cases h21
        exact hK6 _ _ [] rfl (by simp [hN'])
    subst hv
    obtain ⟨left22, hv⟩ : ∃ y, y = v := ⟨_, rfl⟩
    subst hv
    try dsimp only at h ⊢
    refine SWp.seqR rfl (hPB _ rfl) fun K hK => ?_
    iterate 2 (refine wps_cons rfl fun K hK => ?_; simp [hN']; refine hK _ ?_; clear hK)
    refine wps_nil (hK _ ?_); clear hK
    cases h
    refine SWp.ret ?_
    simp [thenS, inBlockS, res45]
end Go.Proofs.T
set_option linter.unusedVariables false
set_option linter.unusedSimpArgs false
set_option maxHeartbeats 1000000
namespace Go.Proofs.T
open Go.OM
theorem res10 : Tryd.f10.results.toList = [.tmp 4] := rfl
theorem ent10 : Enters E.P 10 := enters_of Tryd.func10 (by simp [Tryd.f10]) rfl
theorem laws_szCode_ok (a1 : GCode) (left2 : Int) {r0 : Int} (h : laws_szCode a1 left2 = some r0) : Ok E 10 [.val (GCode.enc false a1), .val (vi left2)] [vi r0] [] := by
  refine ok_of_body (fn := Tryd.f10) Tryd.func10 rfl (by simp [Tryd.f10]) fun C hN hP => ?_
  have hPB : ∀ l, pinK [] l = true → pinB C.pin l = true := pinB_of (by rw [hP]; rfl)
  have hN' : C.N = 25 := hN
  clear hN
  unfold laws_szCode at h
  refine SWp.seqR rfl (hPB _ rfl) fun K hK => ?_
  iterate 2 (refine wps_cons rfl fun K hK => ?_; simp [hN']; refine hK _ ?_; clear hK)
  refine wps_nil (hK _ ?_); clear hK
  refine SWp.seqR rfl (hPB _ rfl) fun K hK => ?_
  iterate 6 (refine wps_cons rfl fun K hK => ?_; simp [hN']; refine hK _ ?_; clear hK)
  refine wps_nil (hK _ ?_); clear hK
  refine SWp.seq ?_
  refine SWp.seqR rfl (hPB _ rfl) fun K hK => ?_
  iterate 2 (refine wps_cons rfl fun K hK => ?_; simp [hN']; refine hK _ ?_; clear hK)
  refine wps_nil (hK _ ?_); clear hK
  rcases ite_or h with ⟨hb3, h⟩ | ⟨hb4, h⟩
  · refine SWp.condT' (b := decide (IntKind.wrap .i64 (left2 - (a1.Name.size : Int)) < 0)) (by simp) hb3 ?_
    refine SWp.seqR rfl (hPB _ rfl) fun K hK => ?_
    refine wps_cons rfl fun K hK => ?_; simp [hN']; refine hK _ ?_; clear hK
    refine wps_nil (hK _ ?_); clear hK
    cases h
    refine SWp.ret ?_
    simp [thenS, inBlockS, res10]
  · refine SWp.condF' (b := decide (IntKind.wrap .i64 (left2 - (a1.Name.size : Int)) < 0)) (by simp) hb4 ?_
    refine SWp.skip ?_
    show SWp E C _ _ _
    refine SWp.seqR rfl (hPB _ rfl) fun K hK => ?_
    iterate 3 (refine wps_cons rfl fun K hK => ?_; simp [hN']; refine hK _ ?_; clear hK)
    obtain ⟨r5, hc6, h⟩ := bind_some h
    refine wps_call [(.take, .tmp 13), (.take, .tmp 14)] rfl rfl ent44 (laws_szIntS_ok _ _ hc6) fun K hK => ?_; simp [hN']; refine hK _ ?_; clear hK
    refine wps_cons rfl fun K hK => ?_; simp [hN']; refine hK _ ?_; clear hK
    refine wps_nil (hK _ ?_); clear hK
    refine SWp.seq ?_
    refine SWp.seqR rfl (hPB _ rfl) fun K hK => ?_
    iterate 2 (refine wps_cons rfl fun K hK => ?_; simp [hN']; refine hK _ ?_; clear hK)
    refine wps_nil (hK _ ?_); clear hK
    rcases ite_or h with ⟨hb7, h⟩ | ⟨hb8, h⟩
    · refine SWp.condT' (b := decide (r5 < 0)) (by simp) hb7 ?_
      refine SWp.seqR rfl (hPB _ rfl) fun K hK => ?_
      refine wps_cons rfl fun K hK => ?_; simp [hN']; refine hK _ ?_; clear hK
      refine wps_nil (hK _ ?_); clear hK
      cases h
      refine SWp.ret ?_
      simp [thenS, inBlockS, res10]
    · refine SWp.condF' (b := decide (r5 < 0)) (by simp) hb8 ?_
      refine SWp.skip ?_
      show SWp E C _ _ _
      refine SWp.seqR rfl (hPB _ rfl) fun K hK => ?_
      iterate 3 (refine wps_cons rfl fun K hK => ?_; simp [hN']; refine hK _ ?_; clear hK)
      obtain ⟨r9, hc10, h⟩ := bind_some h
      refine wps_call [(.take, .tmp 19), (.take, .tmp 20)] rfl rfl ent45 (laws_szInsS_ok _ _ hc10) fun K hK => ?_; simp [hN']; refine hK _ ?_; clear hK
      refine wps_cons rfl fun K hK => ?_; simp [hN']; refine hK _ ?_; clear hK
      refine wps_nil (hK _ ?_); clear hK
      refine SWp.seq ?_
      refine SWp.seqR rfl (hPB _ rfl) fun K hK => ?_
      iterate 2 (refine wps_cons rfl fun K hK => ?_; simp [hN']; refine hK _ ?_; clear hK)
      refine wps_nil (hK _ ?_); clear hK
      rcases ite_or h with ⟨hb11, h⟩ | ⟨hb12, h⟩
      · refine SWp.condT' (b := decide (r9 < 0)) (by simp) hb11 ?_
        refine SWp.seqR rfl (hPB _ rfl) fun K hK => ?_
        refine wps_cons rfl fun K hK => ?_; simp [hN']; refine hK _ ?_; clear hK
        refine wps_nil (hK _ ?_); clear hK
        cases h
        refine SWp.ret ?_
        simp [thenS, inBlockS, res10]
      · refine SWp.condF' (b := decide (r9 < 0)) (by simp) hb12 ?_
        refine SWp.skip ?_
        show SWp E C _ _ _
        refine SWp.seqR rfl (hPB _ rfl) fun K hK => ?_
        iterate 2 (refine wps_cons rfl fun K hK => ?_; simp [hN']; refine hK _ ?_; clear hK)
        refine wps_nil (hK _ ?_); clear hK
        cases h
        refine SWp.ret ?_
        simp [thenS, inBlockS, res10]
end Go.Proofs.T
set_option linter.unusedVariables false
set_option linter.unusedSimpArgs false
set_option maxHeartbeats 1000000
namespace Go.Proofs.T
open Go.OM
theorem res90 : Tryd.f90.results.toList = [.tmp 6] := rfl
theorem ent90 : Enters E.P 90 := enters_of Tryd.func90 (by simp [Tryd.f90]) rfl
theorem spec_l01In_ok (x1 : Int) (least2 : Int) (most3 : Int) {r0 : Bool} (h : spec_l01In x1 least2 most3 = some r0) : Ok E 90 [.val (vi x1), .val (vi least2), .val (vi most3)] [vb r0] [] := by
  refine ok_of_body (fn := Tryd.f90) Tryd.func90 rfl (by simp [Tryd.f90]) fun C hN hP => ?_
  have hPB : ∀ l, pinK [] l = true → pinB C.pin l = true := pinB_of (by rw [hP]; rfl)
  have hN' : C.N = 15 := hN
  clear hN
  unfold spec_l01In at h
  refine SWp.seqR rfl (hPB _ rfl) fun K hK => ?_
  refine wps_cons rfl fun K hK => ?_; simp [hN']; refine hK _ ?_; clear hK
  refine wps_nil (hK _ ?_); clear hK
  obtain ⟨v8, hj4, h⟩ := bind_some h
  refine SWp.seqRC rfl (hPB _ rfl) [6] [] (fun _ : Unit => ⟨[(6, .t (vb v8))], []⟩) (fun _ => True) (fun _ _ => ?_) fun K5 hK5 => ?_
  rotate_left
  · refine wps_cons rfl fun K hK => ?_; simp [hN']; refine hK _ ?_; clear hK
    iterate 3 (refine wps_cons rfl fun K hK => ?_; simp [hN']; refine hK _ ?_; clear hK)
    rcases ite_or hj4 with ⟨hb6, hj4⟩ | ⟨hb7, hj4⟩
    · have hb6s := hb6
      try simp at hb6s
      iterate 5 (refine wps_cons rfl fun K hK => ?_; simp [hN', hb6, hb6s]; refine hK _ ?_; clear hK)
      refine wps_nil ?_
      cases hj4
      exact hK5 _ () [] trivial (by simp [hN', hb6, hb6s])
    · have hb7s := hb7
      try simp at hb7s
      iterate 3 (refine wps_off fun K hK => ?_; simp [hN', hb7, hb7s]; refine hK _ ?_; clear hK)
      iterate 2 (refine wps_cons rfl fun K hK => ?_; simp [hN', hb7, hb7s]; refine hK _ ?_; clear hK)
      refine wps_nil ?_
      cases hj4
      exact hK5 _ () [] trivial (by simp [hN', hb7, hb7s])
  cases h
  refine SWp.ret ?_
  simp [thenS, inBlockS, res90]
end Go.Proofs.T
set_option linter.unusedVariables false
set_option linter.unusedSimpArgs false
set_option maxHeartbeats 1000000
namespace Go.Proofs.T
open Go.OM
theorem res135 : Tryd.f135.results.toList = [.tmp 2] := rfl
theorem ent135 : Enters E.P 135 := enters_of Tryd.func135 (by simp [Tryd.f135]) rfl
theorem spec_l03Letter_ok (b1 : Int) {r0 : Bool} (h : spec_l03Letter b1 = some r0) : Ok E 135 [.val (vk .u8 b1)] [vb r0] [] := by
  refine ok_of_body (fn := Tryd.f135) Tryd.func135 rfl (by simp [Tryd.f135]) fun C hN hP => ?_
  have hPB : ∀ l, pinK [] l = true → pinB C.pin l = true := pinB_of (by rw [hP]; rfl)
  have hN' : C.N = 9 := hN
  clear hN
  unfold spec_l03Letter at h
  refine SWp.seqR rfl (hPB _ rfl) fun K hK => ?_
  refine wps_cons rfl fun K hK => ?_; simp [hN']; refine hK _ ?_; clear hK
  refine wps_nil (hK _ ?_); clear hK
  obtain ⟨v6, hj2, h⟩ := bind_some h
  refine SWp.seqRC rfl (hPB _ rfl) [2] [] (fun _ : Unit => ⟨[(2, .t (vb v6))], []⟩) (fun _ => True) (fun _ _ => ?_) fun K3 hK3 => ?_
  rotate_left
  · refine wps_cons rfl fun K hK => ?_; simp [hN']; refine hK _ ?_; clear hK
    iterate 2 (refine wps_cons rfl fun K hK => ?_; simp [hN']; refine hK _ ?_; clear hK)
    rcases ite_or hj2 with ⟨hb4, hj2⟩ | ⟨hb5, hj2⟩
    · have hb4s := hb4
      try simp at hb4s
      iterate 4 (refine wps_cons rfl fun K hK => ?_; simp [hN', hb4, hb4s]; refine hK _ ?_; clear hK)
      refine wps_nil ?_
      cases hj2
      exact hK3 _ () [] trivial (by simp [hN', hb4, hb4s])
    · have hb5s := hb5
      try simp at hb5s
      iterate 2 (refine wps_off fun K hK => ?_; simp [hN', hb5, hb5s]; refine hK _ ?_; clear hK)
      iterate 2 (refine wps_cons rfl fun K hK => ?_; simp [hN', hb5, hb5s]; refine hK _ ?_; clear hK)
      refine wps_nil ?_
      cases hj2
      exact hK3 _ () [] trivial (by simp [hN', hb5, hb5s])
  cases h
  refine SWp.ret ?_
  simp [thenS, inBlockS, res135]
end Go.Proofs.T
set_option linter.unusedVariables false
set_option linter.unusedSimpArgs false
set_option maxHeartbeats 1000000
namespace Go.Proofs.T
open Go.OM
theorem res156 : Tryd.f156.results.toList = [.tmp 0] := rfl
theorem ent156 : Enters E.P 156 := enters_of Tryd.func156 (by simp [Tryd.f156]) rfl
theorem spec_l03Keys_ok {r0 : List ByteArray} (h : spec_l03Keys = some r0) : Ok E 156 [] [.sl true 1 (List.map vs r0)] [] := by
  refine ok_of_body (fn := Tryd.f156) Tryd.func156 rfl (by simp [Tryd.f156]) fun C hN hP => ?_
  have hPB : ∀ l, pinK [] l = true → pinB C.pin l = true := pinB_of (by rw [hP]; rfl)
  have hN' : C.N = 2 := hN
  clear hN
  unfold spec_l03Keys at h
  refine SWp.seqR rfl (hPB _ rfl) fun K hK => ?_
  refine wps_cons rfl fun K hK => ?_; simp [hN']; refine hK _ ?_; clear hK
  refine wps_nil (hK _ ?_); clear hK
  refine SWp.seqR rfl (hPB _ rfl) fun K hK => ?_
  iterate 2 (refine wps_cons rfl fun K hK => ?_; simp [hN']; refine hK _ ?_; clear hK)
  refine wps_nil (hK _ ?_); clear hK
  cases h
  refine SWp.ret ?_
  simp [thenS, inBlockS, res156]
end Go.Proofs.T
set_option linter.unusedVariables false
set_option linter.unusedSimpArgs false
set_option maxHeartbeats 1000000
namespace Go.Proofs.T
open Go.OM
theorem res136 : Tryd.f136.results.toList = [.tmp 2] := rfl
theorem ent136 : Enters E.P 136 := enters_of Tryd.func136 (by simp [Tryd.f136]) rfl
theorem spec_KeyWord_ok (s1 : ByteArray) {r0 : Bool} (h : spec_KeyWord s1 = some r0) : Ok E 136 [.val (vs s1)] [vb r0] [] := by
  refine ok_of_body (fn := Tryd.f136) Tryd.func136 rfl (by simp [Tryd.f136]) fun C hN hP => ?_
  have hPB : ∀ l, pinK [] l = true → pinB C.pin l = true := pinB_of (by rw [hP]; rfl)
  have hN' : C.N = 18 := hN
  clear hN
  unfold spec_KeyWord at h
  refine SWp.seqR rfl (hPB _ rfl) fun K hK => ?_
  refine wps_cons rfl fun K hK => ?_; simp [hN']; refine hK _ ?_; clear hK
  refine wps_nil (hK _ ?_); clear hK
  refine SWp.seqR rfl (hPB _ rfl) fun K hK => ?_
  obtain ⟨r2, hc3, h⟩ := bind_some h
  refine wps_call [] rfl rfl ent156 (spec_l03Keys_ok hc3) fun K hK => ?_; simp [hN']; refine hK _ ?_; clear hK
  refine wps_cons rfl fun K hK => ?_; simp [hN']; refine hK _ ?_; clear hK
  refine wps_nil (hK _ ?_); clear hK
  obtain ⟨j6, hj4, h⟩ := bind_some h
  refine SWp.seqC [] [] (fun v : Unit => ⟨[], []⟩) (fun v => j6 = Sum.inl v) (fun v hv => ?_) fun K5 hK5 => ?_
  rotate_left
  · refine SWp.seqR rfl (hPB _ rfl) fun K hK => ?_
    refine wps_cons rfl fun K hK => ?_; simp [hN']; refine hK _ ?_; clear hK
    refine wps_nil (hK _ ?_); clear hK
    refine SWp.block ?_
    refine SWp.loopO [] [0, 3, 4] [] (fun v : Int => ⟨[(0, .t (vs s1)), (3, .t (.sl true 1 (List.map vs r2))), (4, .t (vi v))], []⟩) (spec_KeyWord_l1 s1 r2) _ 0 hj4 (by simp [hN']) ?_
    intro g s10 h8 ho9
    obtain ⟨i7, hg⟩ : ∃ y, y = g := ⟨_, rfl⟩
    subst hg
    simp only [spec_KeyWord_l1] at h8
    try dsimp only
    refine SWp.seq ?_
    refine SWp.seqR rfl (hPB _ rfl) fun K hK => ?_
    iterate 4 (refine wps_cons rfl fun K hK => ?_; simp [hN']; refine hK _ ?_; clear hK)
    refine wps_nil (hK _ ?_); clear hK
    rcases ite_or h8 with ⟨hb11, h8⟩ | ⟨hb12, h8⟩
    · refine SWp.condT' (b := decide (i7 < (r2.length : Int))) (by simp) hb11 ?_
      refine SWp.skip ?_
      show SWp E C _ _ _
      refine SWp.seq ?_
      refine SWp.block ?_
      refine SWp.seqR rfl (hPB _ rfl) fun K hK => ?_
      iterate 2 (refine wps_cons rfl fun K hK => ?_; simp [hN']; refine hK _ ?_; clear hK)
      obtain ⟨e13, he13, h8⟩ := bind_some h8
      obtain ⟨he13a, he13b, he13c, he13d⟩ := getI_some he13
      iterate 4 (refine wps_cons rfl fun K hK => ?_; simp [hN', he13a, he13b, he13c, he13d]; refine hK _ ?_; clear hK)
      refine wps_nil (hK _ ?_); clear hK
      rcases ite_or h8 with ⟨hb14, h8⟩ | ⟨hb15, h8⟩
      · refine SWp.condT' (b := sEq e13 s1) (by simp) hb14 ?_
        refine SWp.seqR rfl (hPB _ rfl) fun K hK => ?_
        refine wps_cons rfl fun K hK => ?_; simp [hN']; refine hK _ ?_; clear hK
        refine wps_nil (hK _ ?_); clear hK
        have h16 := congrArg some (ho9 _ (Option.some.inj h8).symm)
        cases h16
        try dsimp only at h
        cases h
        refine SWp.ret ?_
        simp [thenS, inBlockS, res136]
      · refine SWp.condF' (b := sEq e13 s1) (by simp) hb15 ?_
        refine SWp.skip ?_
        show SWp E C _ _ _
        refine SWp.reg rfl (hPB _ rfl) fun K hK => ?_
        iterate 3 (refine wps_cons rfl fun K hK => ?_; simp [hN']; refine hK _ ?_; clear hK)
        refine wps_nil (hK _ ?_); clear hK
        cases h8
        exact ⟨_, [], rfl, by simp [hN']⟩
    · refine SWp.condF' (b := decide (i7 < (r2.length : Int))) (by simp) hb12 ?_
      refine SWp.exit ?_
      have h17 := congrArg some (ho9 _ (Option.some.inj h8).symm)
      cases h17
      exact hK5 _ _ [] rfl (by simp [hN'])
  subst hv
  obtain ⟨⟩ := v
  try dsimp only at h ⊢
  refine SWp.seqR rfl (hPB _ rfl) fun K hK => ?_
  refine wps_cons rfl fun K hK => ?_; simp [hN']; refine hK _ ?_; clear hK
  refine wps_nil (hK _ ?_); clear hK
  cases h
  refine SWp.ret ?_
  simp [thenS, inBlockS, res136]
end Go.Proofs.T
set_option linter.unusedVariables false
set_option linter.unusedSimpArgs false
set_option maxHeartbeats 1000000
namespace Go.Proofs.T
open Go.OM
theorem res137 : Tryd.f137.results.toList = [.tmp 2] := rfl
theorem ent137 : Enters E.P 137 := enters_of Tryd.func137 (by simp [Tryd.f137]) rfl
theorem spec_l03Figure_ok (b1 : Int) {r0 : Bool} (h : spec_l03Figure b1 = some r0) : Ok E 137 [.val (vk .u8 b1)] [vb r0] [] := by
  refine ok_of_body (fn := Tryd.f137) Tryd.func137 rfl (by simp [Tryd.f137]) fun C hN hP => ?_
  have hPB : ∀ l, pinK [] l = true → pinB C.pin l = true := pinB_of (by rw [hP]; rfl)
  have hN' : C.N = 9 := hN
  clear hN
  unfold spec_l03Figure at h
  refine SWp.seqR rfl (hPB _ rfl) fun K hK => ?_
  refine wps_cons rfl fun K hK => ?_; simp [hN']; refine hK _ ?_; clear hK
  refine wps_nil (hK _ ?_); clear hK
  obtain ⟨v6, hj2, h⟩ := bind_some h
  refine SWp.seqRC rfl (hPB _ rfl) [2] [] (fun _ : Unit => ⟨[(2, .t (vb v6))], []⟩) (fun _ => True) (fun _ _ => ?_) fun K3 hK3 => ?_
  rotate_left
  · refine wps_cons rfl fun K hK => ?_; simp [hN']; refine hK _ ?_; clear hK
    iterate 2 (refine wps_cons rfl fun K hK => ?_; simp [hN']; refine hK _ ?_; clear hK)
    rcases ite_or hj2 with ⟨hb4, hj2⟩ | ⟨hb5, hj2⟩
    · have hb4s := hb4
      try simp at hb4s
      iterate 4 (refine wps_cons rfl fun K hK => ?_; simp [hN', hb4, hb4s]; refine hK _ ?_; clear hK)
      refine wps_nil ?_
      cases hj2
      exact hK3 _ () [] trivial (by simp [hN', hb4, hb4s])
    · have hb5s := hb5
      try simp at hb5s
      iterate 2 (refine wps_off fun K hK => ?_; simp [hN', hb5, hb5s]; refine hK _ ?_; clear hK)
      iterate 2 (refine wps_cons rfl fun K hK => ?_; simp [hN', hb5, hb5s]; refine hK _ ?_; clear hK)
      refine wps_nil ?_
      cases hj2
      exact hK3 _ () [] trivial (by simp [hN', hb5, hb5s])
  cases h
  refine SWp.ret ?_
  simp [thenS, inBlockS, res137]
end Go.Proofs.T
set_option linter.unusedVariables false
set_option linter.unusedSimpArgs false
set_option maxHeartbeats 1000000
namespace Go.Proofs.T
open Go.OM
theorem res114 : Tryd.f114.results.toList = [.tmp 2] := rfl
theorem ent114 : Enters E.P 114 := enters_of Tryd.func114 (by simp [Tryd.f114]) rfl
theorem spec_NameOk_ok (s1 : ByteArray) {r0 : Bool} (h : spec_NameOk s1 = some r0) : Ok E 114 [.val (vs s1)] [vb r0] [] := by
  refine ok_of_body (fn := Tryd.f114) Tryd.func114 rfl (by simp [Tryd.f114]) fun C hN hP => ?_
  have hPB : ∀ l, pinK [] l = true → pinB C.pin l = true := pinB_of (by rw [hP]; rfl)
  have hN' : C.N = 36 := hN
  clear hN
  unfold spec_NameOk at h
  refine SWp.seqR rfl (hPB _ rfl) fun K hK => ?_
  refine wps_cons rfl fun K hK => ?_; simp [hN']; refine hK _ ?_; clear hK
  refine wps_nil (hK _ ?_); clear hK
  refine SWp.seq ?_
  obtain ⟨v15, hj2, h⟩ := bind_some h
  refine SWp.seqRC rfl (hPB _ rfl) [0, 17] [] (fun _ : Unit => ⟨[(0, .t (vs s1)), (17, .t (vb v15))], []⟩) (fun _ => True) (fun _ _ => ?_) fun K3 hK3 => ?_
  rotate_left
  · refine wps_cons rfl fun K hK => ?_; simp [hN']; refine hK _ ?_; clear hK
    refine wps_cons rfl fun K hK => ?_; simp [hN']; refine hK _ ?_; clear hK
    obtain ⟨r4, hc5, hj2⟩ := bind_some hj2
    refine wps_call [(.take, .tmp 5), (.take, .const (.int .i64 1)), (.take, .const (.int .i64 8))] rfl rfl ent90 (spec_l01In_ok _ _ _ hc5) fun K hK => ?_; simp [hN']; refine hK _ ?_; clear hK
    iterate 2 (refine wps_cons rfl fun K hK => ?_; simp [hN']; refine hK _ ?_; clear hK)
    rcases ite_or hj2 with ⟨hb6, hj2⟩ | ⟨hb7, hj2⟩
    · have hb6s := hb6
      try simp at hb6s
      iterate 4 (refine wps_off fun K hK => ?_; simp [hN', hb6, hb6s]; refine hK _ ?_; clear hK)
      iterate 2 (refine wps_cons rfl fun K hK => ?_; simp [hN', hb6, hb6s]; refine hK _ ?_; clear hK)
      iterate 2 (refine wps_off fun K hK => ?_; simp [hN', hb6, hb6s]; refine hK _ ?_; clear hK)
      refine wps_cons rfl fun K hK => ?_; simp [hN', hb6, hb6s]; refine hK _ ?_; clear hK
      refine wps_nil ?_
      cases hj2
      exact hK3 _ () [] trivial (by simp [hN', hb6, hb6s])
    · have hb7s := hb7
      try simp at hb7s
      refine wps_cons rfl fun K hK => ?_; simp [hN', hb7, hb7s]; refine hK _ ?_; clear hK
      obtain ⟨c8, hc8, hj2⟩ := bind_some hj2
      obtain ⟨hc8a, hc8b, hc8c⟩ := sAt_some hc8
      have hc8e : 0 < s1.size := by omega
      refine wps_cons rfl fun K hK => ?_; simp [hN', hb7, hb7s, hc8a, hc8b, hc8c, hc8e]; refine hK _ ?_; clear hK
      obtain ⟨r9, hc10, hj2⟩ := bind_some hj2
      refine wps_call [(.take, .tmp 10)] rfl rfl ent135 (spec_l03Letter_ok _ hc10) fun K hK => ?_; simp [hN', hb7, hb7s, hc8a, hc8b, hc8c, hc8e]; refine hK _ ?_; clear hK
      iterate 3 (refine wps_cons rfl fun K hK => ?_; simp [hN', hb7, hb7s, hc8a, hc8b, hc8c, hc8e]; refine hK _ ?_; clear hK)
      rcases ite_or hj2 with ⟨hb11, hj2⟩ | ⟨hb12, hj2⟩
      · have hb11s := hb11
        try simp at hb11s
        iterate 2 (refine wps_off fun K hK => ?_; simp [hN', hb7, hb7s, hc8a, hc8b, hc8c, hc8e, hb11, hb11s]; refine hK _ ?_; clear hK)
        refine wps_cons rfl fun K hK => ?_; simp [hN', hb7, hb7s, hc8a, hc8b, hc8c, hc8e, hb11, hb11s]; refine hK _ ?_; clear hK
        refine wps_nil ?_
        cases hj2
        exact hK3 _ () [] trivial (by simp [hN', hb7, hb7s, hc8a, hc8b, hc8c, hc8e, hb11, hb11s])
      · have hb12s := hb12
        try simp at hb12s
        refine wps_cons rfl fun K hK => ?_; simp [hN', hb7, hb7s, hc8a, hc8b, hc8c, hc8e, hb12, hb12s]; refine hK _ ?_; clear hK
        obtain ⟨r13, hc14, hj2⟩ := bind_some hj2
        refine wps_call [(.take, .tmp 15)] rfl rfl ent136 (spec_KeyWord_ok _ hc14) fun K hK => ?_; simp [hN', hb7, hb7s, hc8a, hc8b, hc8c, hc8e, hb12, hb12s]; refine hK _ ?_; clear hK
        refine wps_cons rfl fun K hK => ?_; simp [hN', hb7, hb7s, hc8a, hc8b, hc8c, hc8e, hb12, hb12s]; refine hK _ ?_; clear hK
        refine wps_nil ?_
        cases hj2
        exact hK3 _ () [] trivial (by simp [hN', hb7, hb7s, hc8a, hc8b, hc8c, hc8e, hb12, hb12s])
  rcases ite_or h with ⟨hb16, h⟩ | ⟨hb17, h⟩
  · refine SWp.condT' (b := v15) (by simp) hb16 ?_
    refine SWp.seqR rfl (hPB _ rfl) fun K hK => ?_
    refine wps_cons rfl fun K hK => ?_; simp [hN']; refine hK _ ?_; clear hK
    refine wps_nil (hK _ ?_); clear hK
    cases h
    refine SWp.ret ?_
    simp [thenS, inBlockS, res114]
  · refine SWp.condF' (b := v15) (by simp) hb17 ?_
    refine SWp.skip ?_
    show SWp E C _ _ _
    obtain ⟨j20, hj18, h⟩ := bind_some h
    refine SWp.seqC [] [] (fun v : Unit => ⟨[], []⟩) (fun v => j20 = Sum.inl v) (fun v hv => ?_) fun K19 hK19 => ?_
    rotate_left
    · refine SWp.seqR rfl (hPB _ rfl) fun K hK => ?_
      refine wps_cons rfl fun K hK => ?_; simp [hN']; refine hK _ ?_; clear hK
      refine wps_nil (hK _ ?_); clear hK
      refine SWp.block ?_
      refine SWp.loopO [] [0, 3] [] (fun v : Int => ⟨[(0, .t (vs s1)), (3, .t (vi v))], []⟩) (spec_NameOk_l1 s1) _ 0 hj18 (by simp [hN']) ?_
      intro g s24 h22 ho23
      obtain ⟨i21, hg⟩ : ∃ y, y = g := ⟨_, rfl⟩
      subst hg
      simp only [spec_NameOk_l1] at h22
      try dsimp only
      refine SWp.seq ?_
      refine SWp.seqR rfl (hPB _ rfl) fun K hK => ?_
      iterate 4 (refine wps_cons rfl fun K hK => ?_; simp [hN']; refine hK _ ?_; clear hK)
      refine wps_nil (hK _ ?_); clear hK
      rcases ite_or h22 with ⟨hb25, h22⟩ | ⟨hb26, h22⟩
      · refine SWp.condT' (b := decide (i21 < (s1.size : Int))) (by simp) hb25 ?_
        refine SWp.skip ?_
        show SWp E C _ _ _
        refine SWp.seq ?_
        refine SWp.block ?_
        obtain ⟨v36, hj27, h22⟩ := bind_some h22
        refine SWp.seqRC rfl (hPB _ rfl) [0, 3, 35] [] (fun _ : Unit => ⟨[(0, .t (vs s1)), (3, .t (vi i21)), (35, .t (vb v36))], []⟩) (fun _ => True) (fun _ _ => ?_) fun K28 hK28 => ?_
        rotate_left
        · refine wps_cons rfl fun K hK => ?_; simp [hN']; refine hK _ ?_; clear hK
          refine wps_cons rfl fun K hK => ?_; simp [hN']; refine hK _ ?_; clear hK
          obtain ⟨c29, hc29, hj27⟩ := bind_some hj27
          obtain ⟨hc29a, hc29b, hc29c⟩ := sAt_some hc29
          refine wps_cons rfl fun K hK => ?_; simp [hN', hc29a, hc29b, hc29c]; refine hK _ ?_; clear hK
          obtain ⟨r30, hc31, hj27⟩ := bind_some hj27
          refine wps_call [(.take, .tmp 26)] rfl rfl ent135 (spec_l03Letter_ok _ hc31) fun K hK => ?_; simp [hN', hc29a, hc29b, hc29c]; refine hK _ ?_; clear hK
          iterate 2 (refine wps_cons rfl fun K hK => ?_; simp [hN', hc29a, hc29b, hc29c]; refine hK _ ?_; clear hK)
          rcases ite_or hj27 with ⟨hb32, hj27⟩ | ⟨hb33, hj27⟩
          · have hb32s := hb32
            try simp at hb32s
            iterate 3 (refine wps_cons rfl fun K hK => ?_; simp [hN', hc29a, hc29b, hc29c, hb32, hb32s]; refine hK _ ?_; clear hK)
            obtain ⟨r34, hc35, hj27⟩ := bind_some hj27
            refine wps_call [(.take, .tmp 32)] rfl rfl ent137 (spec_l03Figure_ok _ hc35) fun K hK => ?_; simp [hN', hc29a, hc29b, hc29c, hb32, hb32s]; refine hK _ ?_; clear hK
            iterate 2 (refine wps_cons rfl fun K hK => ?_; simp [hN', hc29a, hc29b, hc29c, hb32, hb32s]; refine hK _ ?_; clear hK)
            refine wps_nil ?_
            cases hj27
            exact hK28 _ () [] trivial (by simp [hN', hc29a, hc29b, hc29c, hb32, hb32s])
          · have hb33s := hb33
            try simp at hb33s
            iterate 5 (refine wps_off fun K hK => ?_; simp [hN', hc29a, hc29b, hc29c, hb33, hb33s]; refine hK _ ?_; clear hK)
            refine wps_cons rfl fun K hK => ?_; simp [hN', hc29a, hc29b, hc29c, hb33, hb33s]; refine hK _ ?_; clear hK
            refine wps_nil ?_
            cases hj27
            exact hK28 _ () [] trivial (by simp [hN', hc29a, hc29b, hc29c, hb33, hb33s])
        rcases ite_or h22 with ⟨hb37, h22⟩ | ⟨hb38, h22⟩
        · refine SWp.condT' (b := v36) (by simp) hb37 ?_
          refine SWp.seqR rfl (hPB _ rfl) fun K hK => ?_
          refine wps_cons rfl fun K hK => ?_; simp [hN']; refine hK _ ?_; clear hK
          refine wps_nil (hK _ ?_); clear hK
          have h39 := congrArg some (ho23 _ (Option.some.inj h22).symm)
          cases h39
          try dsimp only at h
          cases h
          refine SWp.ret ?_
          simp [thenS, inBlockS, res114]
        · refine SWp.condF' (b := v36) (by simp) hb38 ?_
          refine SWp.skip ?_
          show SWp E C _ _ _
          refine SWp.reg rfl (hPB _ rfl) fun K hK => ?_
          iterate 3 (refine wps_cons rfl fun K hK => ?_; simp [hN']; refine hK _ ?_; clear hK)
          refine wps_nil (hK _ ?_); clear hK
          cases h22
          exact ⟨_, [], rfl, by simp [hN']⟩
      · refine SWp.condF' (b := decide (i21 < (s1.size : Int))) (by simp) hb26 ?_
        refine SWp.exit ?_
        have h40 := congrArg some (ho23 _ (Option.some.inj h22).symm)
        cases h40
        exact hK19 _ _ [] rfl (by simp [hN'])
    subst hv
    obtain ⟨⟩ := v
    try dsimp only at h ⊢
    refine SWp.seqR rfl (hPB _ rfl) fun K hK => ?_
    refine wps_cons rfl fun K hK => ?_; simp [hN']; refine hK _ ?_; clear hK
    refine wps_nil (hK _ ?_); clear hK
    cases h
    refine SWp.ret ?_
    simp [thenS, inBlockS, res114]
end Go.Proofs.T
set_option linter.unusedVariables false
set_option linter.unusedSimpArgs false
set_option maxHeartbeats 1000000
namespace Go.Proofs.T
open Go.OM
theorem res140 : Tryd.f140.results.toList = [.tmp 4] := rfl
theorem ent140 : Enters E.P 140 := enters_of Tryd.func140 (by simp [Tryd.f140]) rfl
theorem spec_l11Place_ok (c1 : GCode) (n2 : Int) {r0 : Bool} (h : spec_l11Place c1 n2 = some r0) : Ok E 140 [.val (GCode.enc false c1), .val (vi n2)] [vb r0] [] := by
  refine ok_of_body (fn := Tryd.f140) Tryd.func140 rfl (by simp [Tryd.f140]) fun C hN hP => ?_
  have hPB : ∀ l, pinK [] l = true → pinB C.pin l = true := pinB_of (by rw [hP]; rfl)
  have hN' : C.N = 11 := hN
  clear hN
  unfold spec_l11Place at h
  refine SWp.seqR rfl (hPB _ rfl) fun K hK => ?_
  iterate 2 (refine wps_cons rfl fun K hK => ?_; simp [hN']; refine hK _ ?_; clear hK)
  refine wps_nil (hK _ ?_); clear hK
  refine SWp.seqR rfl (hPB _ rfl) fun K hK => ?_
  iterate 5 (refine wps_cons rfl fun K hK => ?_; simp [hN']; refine hK _ ?_; clear hK)
  obtain ⟨r3, hc4, h⟩ := bind_some h
  refine wps_call [(.take, .tmp 5), (.take, .const (.int .i64 0)), (.take, .tmp 9)] rfl rfl ent90 (spec_l01In_ok _ _ _ hc4) fun K hK => ?_; simp [hN']; refine hK _ ?_; clear hK
  refine wps_cons rfl fun K hK => ?_; simp [hN']; refine hK _ ?_; clear hK
  refine wps_nil (hK _ ?_); clear hK
  cases h
  refine SWp.ret ?_
  simp [thenS, inBlockS, res140]
end Go.Proofs.T
set_option linter.unusedVariables false
set_option linter.unusedSimpArgs false
set_option maxHeartbeats 1000000
namespace Go.Proofs.T
open Go.OM
theorem res138 : Tryd.f138.results.toList = [.tmp 4] := rfl
theorem ent138 : Enters E.P 138 := enters_of Tryd.func138 (by simp [Tryd.f138]) rfl
theorem spec_l11A_ok (c1 : GCode) (x2 : GIns) {r0 : Bool} (h : spec_l11A c1 x2 = some r0) : Ok E 138 [.val (GCode.enc false c1), .val (GIns.enc false x2)] [vb r0] [] := by
  refine ok_of_body (fn := Tryd.f138) Tryd.func138 rfl (by simp [Tryd.f138]) fun C hN hP => ?_
  have hPB : ∀ l, pinK [] l = true → pinB C.pin l = true := pinB_of (by rw [hP]; rfl)
  have hN' : C.N = 34 := hN
  clear hN
  unfold spec_l11A at h
  refine SWp.seqR rfl (hPB _ rfl) fun K hK => ?_
  iterate 3 (refine wps_cons rfl fun K hK => ?_; simp [hN']; refine hK _ ?_; clear hK)
  refine wps_nil (hK _ ?_); clear hK
  refine SWp.seq ?_
  refine SWp.block ?_
  obtain ⟨v7, hj3, h⟩ := bind_some h
  refine SWp.seqRC rfl (hPB _ rfl) [2, 3, 5] [2, 3] (fun _ : Unit => ⟨[(2, .ref (.box 2) 0 []), (3, .ref (.box 3) 0 []), (5, .t (vb v7))], [(2, [vs c1.Name, vi c1.Params, .sl false 1 (List.map vi c1.Locals), .sl false 7 (List.map (GIns.enc false) c1.Words)]), (3, [vi x2.Op, vi x2.A, vi x2.B, vi x2.C, vi x2.Num, vs x2.Name, .sl false 1 (List.map vi x2.Args)])]⟩) (fun _ => True) (fun _ _ => ?_) fun K4 hK4 => ?_
  rotate_left
  · refine wps_cons rfl fun K hK => ?_; simp [hN']; refine hK _ ?_; clear hK
    iterate 3 (refine wps_cons rfl fun K hK => ?_; simp [hN']; refine hK _ ?_; clear hK)
    rcases ite_or hj3 with ⟨hb5, hj3⟩ | ⟨hb6, hj3⟩
    · have hb5s := hb5
      try simp at hb5s
      iterate 3 (refine wps_off fun K hK => ?_; simp [hN', hb5, hb5s]; refine hK _ ?_; clear hK)
      iterate 2 (refine wps_cons rfl fun K hK => ?_; simp [hN', hb5, hb5s]; refine hK _ ?_; clear hK)
      refine wps_nil ?_
      cases hj3
      exact hK4 _ () [] trivial (by simp [hN', hb5, hb5s])
    · have hb6s := hb6
      try simp at hb6s
      iterate 5 (refine wps_cons rfl fun K hK => ?_; simp [hN', hb6, hb6s]; refine hK _ ?_; clear hK)
      refine wps_nil ?_
      cases hj3
      exact hK4 _ () [] trivial (by simp [hN', hb6, hb6s])
  rcases ite_or h with ⟨hb8, h⟩ | ⟨hb9, h⟩
  · refine SWp.condT' (b := v7) (by simp) hb8 ?_
    obtain ⟨v16, hj10, h⟩ := bind_some h
    refine SWp.seqRC rfl (hPB _ rfl) [4] [] (fun _ : Unit => ⟨[(4, .t (vb v16))], []⟩) (fun _ => True) (fun _ _ => ?_) fun K11 hK11 => ?_
    rotate_left
    · refine wps_cons rfl fun K hK => ?_; simp [hN']; refine hK _ ?_; clear hK
      iterate 3 (refine wps_cons rfl fun K hK => ?_; simp [hN']; refine hK _ ?_; clear hK)
      rcases ite_or hj10 with ⟨hb12, hj10⟩ | ⟨hb13, hj10⟩
      · have hb12s := hb12
        try simp at hb12s
        iterate 4 (refine wps_off fun K hK => ?_; simp [hN', hb12, hb12s]; refine hK _ ?_; clear hK)
        iterate 2 (refine wps_cons rfl fun K hK => ?_; simp [hN', hb12, hb12s]; refine hK _ ?_; clear hK)
        refine wps_nil ?_
        cases hj10
        exact hK11 _ () [] trivial (by simp [hN', hb12, hb12s])
      · have hb13s := hb13
        try simp at hb13s
        iterate 3 (refine wps_cons rfl fun K hK => ?_; simp [hN', hb13, hb13s]; refine hK _ ?_; clear hK)
        obtain ⟨r14, hc15, hj10⟩ := bind_some hj10
        refine wps_call [(.take, .tmp 18), (.take, .tmp 20)] rfl rfl ent140 (spec_l11Place_ok _ _ hc15) fun K hK => ?_; simp [hN', hb13, hb13s]; refine hK _ ?_; clear hK
        iterate 2 (refine wps_cons rfl fun K hK => ?_; simp [hN', hb13, hb13s]; refine hK _ ?_; clear hK)
        refine wps_nil ?_
        cases hj10
        exact hK11 _ () [] trivial (by simp [hN', hb13, hb13s])
    cases h
    refine SWp.ret ?_
    simp [thenS, inBlockS, res138]
  · refine SWp.condF' (b := v7) (by simp) hb9 ?_
    refine SWp.seqR rfl (hPB _ rfl) fun K hK => ?_
    iterate 4 (refine wps_cons rfl fun K hK => ?_; simp [hN']; refine hK _ ?_; clear hK)
    refine wps_nil (hK _ ?_); clear hK
    rcases ite_or h with ⟨hb17, h⟩ | ⟨hb18, h⟩
    · refine SWp.condT' (b := x2.Op == 18) (by simp) hb17 ?_
      refine SWp.seqR rfl (hPB _ rfl) fun K hK => ?_
      iterate 4 (refine wps_cons rfl fun K hK => ?_; simp [hN']; refine hK _ ?_; clear hK)
      refine wps_nil (hK _ ?_); clear hK
      cases h
      refine SWp.ret ?_
      simp [thenS, inBlockS, res138]
    · refine SWp.condF' (b := x2.Op == 18) (by simp) hb18 ?_
      refine SWp.skip ?_
      show SWp E C _ _ _
      refine SWp.seqR rfl (hPB _ rfl) fun K hK => ?_
      iterate 3 (refine wps_cons rfl fun K hK => ?_; simp [hN']; refine hK _ ?_; clear hK)
      obtain ⟨r19, hc20, h⟩ := bind_some h
      refine wps_call [(.take, .tmp 30), (.take, .tmp 32)] rfl rfl ent140 (spec_l11Place_ok _ _ hc20) fun K hK => ?_; simp [hN']; refine hK _ ?_; clear hK
      refine wps_cons rfl fun K hK => ?_; simp [hN']; refine hK _ ?_; clear hK
      refine wps_nil (hK _ ?_); clear hK
      cases h
      refine SWp.ret ?_
      simp [thenS, inBlockS, res138]
end Go.Proofs.T
set_option linter.unusedVariables false
set_option linter.unusedSimpArgs false
set_option maxHeartbeats 1000000
namespace Go.Proofs.T
open Go.OM
theorem res139 : Tryd.f139.results.toList = [.tmp 2] := rfl
theorem ent139 : Enters E.P 139 := enters_of Tryd.func139 (by simp [Tryd.f139]) rfl
theorem spec_l11HasB_ok (op1 : Int) {r0 : Bool} (h : spec_l11HasB op1 = some r0) : Ok E 139 [.val (vi op1)] [vb r0] [] := by
  refine ok_of_body (fn := Tryd.f139) Tryd.func139 rfl (by simp [Tryd.f139]) fun C hN hP => ?_
  have hPB : ∀ l, pinK [] l = true → pinB C.pin l = true := pinB_of (by rw [hP]; rfl)
  have hN' : C.N = 17 := hN
  clear hN
  unfold spec_l11HasB at h
  refine SWp.seqR rfl (hPB _ rfl) fun K hK => ?_
  refine wps_cons rfl fun K hK => ?_; simp [hN']; refine hK _ ?_; clear hK
  refine wps_nil (hK _ ?_); clear hK
  obtain ⟨v14, hj2, h⟩ := bind_some h
  refine SWp.seqRC rfl (hPB _ rfl) [2] [] (fun _ : Unit => ⟨[(2, .t (vb v14))], []⟩) (fun _ => True) (fun _ _ => ?_) fun K3 hK3 => ?_
  rotate_left
  · refine wps_cons rfl fun K hK => ?_; simp [hN']; refine hK _ ?_; clear hK
    obtain ⟨r4, hc5, hj2⟩ := bind_some hj2
    refine wps_call [(.take, .tmp 3), (.take, .const (.int .i64 2)), (.take, .const (.int .i64 7))] rfl rfl ent90 (spec_l01In_ok _ _ _ hc5) fun K hK => ?_; simp [hN']; refine hK _ ?_; clear hK
    refine wps_cons rfl fun K hK => ?_; simp [hN']; refine hK _ ?_; clear hK
    rcases ite_or hj2 with ⟨hb6, hj2⟩ | ⟨hb7, hj2⟩
    · have hb6s := hb6
      try simp at hb6s
      iterate 2 (refine wps_off fun K hK => ?_; simp [hN', hb6, hb6s]; refine hK _ ?_; clear hK)
      iterate 2 (refine wps_cons rfl fun K hK => ?_; simp [hN', hb6, hb6s]; refine hK _ ?_; clear hK)
      iterate 2 (refine wps_off fun K hK => ?_; simp [hN', hb6, hb6s]; refine hK _ ?_; clear hK)
      iterate 2 (refine wps_cons rfl fun K hK => ?_; simp [hN', hb6, hb6s]; refine hK _ ?_; clear hK)
      iterate 2 (refine wps_off fun K hK => ?_; simp [hN', hb6, hb6s]; refine hK _ ?_; clear hK)
      iterate 2 (refine wps_cons rfl fun K hK => ?_; simp [hN', hb6, hb6s]; refine hK _ ?_; clear hK)
      refine wps_nil ?_
      cases hj2
      exact hK3 _ () [] trivial (by simp [hN', hb6, hb6s])
    · have hb7s := hb7
      try simp at hb7s
      refine wps_cons rfl fun K hK => ?_; simp [hN', hb7, hb7s]; refine hK _ ?_; clear hK
      obtain ⟨r8, hc9, hj2⟩ := bind_some hj2
      refine wps_call [(.take, .tmp 6), (.take, .const (.int .i64 9)), (.take, .const (.int .i64 12))] rfl rfl ent90 (spec_l01In_ok _ _ _ hc9) fun K hK => ?_; simp [hN', hb7, hb7s]; refine hK _ ?_; clear hK
      iterate 2 (refine wps_cons rfl fun K hK => ?_; simp [hN', hb7, hb7s]; refine hK _ ?_; clear hK)
      rcases ite_or hj2 with ⟨hb10, hj2⟩ | ⟨hb11, hj2⟩
      · have hb10s := hb10
        try simp at hb10s
        iterate 2 (refine wps_off fun K hK => ?_; simp [hN', hb7, hb7s, hb10, hb10s]; refine hK _ ?_; clear hK)
        iterate 2 (refine wps_cons rfl fun K hK => ?_; simp [hN', hb7, hb7s, hb10, hb10s]; refine hK _ ?_; clear hK)
        iterate 2 (refine wps_off fun K hK => ?_; simp [hN', hb7, hb7s, hb10, hb10s]; refine hK _ ?_; clear hK)
        iterate 2 (refine wps_cons rfl fun K hK => ?_; simp [hN', hb7, hb7s, hb10, hb10s]; refine hK _ ?_; clear hK)
        refine wps_nil ?_
        cases hj2
        exact hK3 _ () [] trivial (by simp [hN', hb7, hb7s, hb10, hb10s])
      · have hb11s := hb11
        try simp at hb11s
        iterate 4 (refine wps_cons rfl fun K hK => ?_; simp [hN', hb7, hb7s, hb11, hb11s]; refine hK _ ?_; clear hK)
        rcases ite_or hj2 with ⟨hb12, hj2⟩ | ⟨hb13, hj2⟩
        · have hb12s := hb12
          try simp at hb12s
          iterate 2 (refine wps_off fun K hK => ?_; simp [hN', hb7, hb7s, hb11, hb11s, hb12, hb12s]; refine hK _ ?_; clear hK)
          iterate 2 (refine wps_cons rfl fun K hK => ?_; simp [hN', hb7, hb7s, hb11, hb11s, hb12, hb12s]; refine hK _ ?_; clear hK)
          refine wps_nil ?_
          cases hj2
          exact hK3 _ () [] trivial (by simp [hN', hb7, hb7s, hb11, hb11s, hb12, hb12s])
        · have hb13s := hb13
          try simp at hb13s
          iterate 4 (refine wps_cons rfl fun K hK => ?_; simp [hN', hb7, hb7s, hb11, hb11s, hb13, hb13s]; refine hK _ ?_; clear hK)
          refine wps_nil ?_
          cases hj2
          exact hK3 _ () [] trivial (by simp [hN', hb7, hb7s, hb11, hb11s, hb13, hb13s])
  cases h
  refine SWp.ret ?_
  simp [thenS, inBlockS, res139]
end Go.Proofs.T
set_option linter.unusedVariables false
set_option linter.unusedSimpArgs false
set_option maxHeartbeats 1000000
namespace Go.Proofs.T
open Go.OM
theorem res141 : Tryd.f141.results.toList = [.tmp 2] := rfl
theorem ent141 : Enters E.P 141 := enters_of Tryd.func141 (by simp [Tryd.f141]) rfl
theorem spec_l11HasC_ok (op1 : Int) {r0 : Bool} (h : spec_l11HasC op1 = some r0) : Ok E 141 [.val (vi op1)] [vb r0] [] := by
  refine ok_of_body (fn := Tryd.f141) Tryd.func141 rfl (by simp [Tryd.f141]) fun C hN hP => ?_
  have hPB : ∀ l, pinK [] l = true → pinB C.pin l = true := pinB_of (by rw [hP]; rfl)
  have hN' : C.N = 5 := hN
  clear hN
  unfold spec_l11HasC at h
  refine SWp.seqR rfl (hPB _ rfl) fun K hK => ?_
  refine wps_cons rfl fun K hK => ?_; simp [hN']; refine hK _ ?_; clear hK
  refine wps_nil (hK _ ?_); clear hK
  refine SWp.seqR rfl (hPB _ rfl) fun K hK => ?_
  refine wps_cons rfl fun K hK => ?_; simp [hN']; refine hK _ ?_; clear hK
  obtain ⟨r2, hc3, h⟩ := bind_some h
  refine wps_call [(.take, .tmp 3), (.take, .const (.int .i64 10)), (.take, .const (.int .i64 12))] rfl rfl ent90 (spec_l01In_ok _ _ _ hc3) fun K hK => ?_; simp [hN']; refine hK _ ?_; clear hK
  refine wps_cons rfl fun K hK => ?_; simp [hN']; refine hK _ ?_; clear hK
  refine wps_nil (hK _ ?_); clear hK
  cases h
  refine SWp.ret ?_
  simp [thenS, inBlockS, res141]
end Go.Proofs.T
set_option linter.unusedVariables false
set_option linter.unusedSimpArgs false
set_option maxHeartbeats 1000000
namespace Go.Proofs.T
open Go.OM
theorem res115 : Tryd.f115.results.toList = [.tmp 4] := rfl
theorem ent115 : Enters E.P 115 := enters_of Tryd.func115 (by simp [Tryd.f115]) rfl
theorem spec_WordOk_ok (c1 : GCode) (x2 : GIns) {r0 : Bool} (h : spec_WordOk c1 x2 = some r0) : Ok E 115 [.val (GCode.enc false c1), .val (GIns.enc false x2)] [vb r0] [] := by
  refine ok_of_body (fn := Tryd.f115) Tryd.func115 rfl (by simp [Tryd.f115]) fun C hN hP => ?_
  have hPB : ∀ l, pinK [] l = true → pinB C.pin l = true := pinB_of (by rw [hP]; rfl)
  have hN' : C.N = 116 := hN
  clear hN
  unfold spec_WordOk at h
  refine SWp.seqR rfl (hPB _ rfl) fun K hK => ?_
  iterate 3 (refine wps_cons rfl fun K hK => ?_; simp [hN']; refine hK _ ?_; clear hK)
  refine wps_nil (hK _ ?_); clear hK
  refine SWp.seq ?_
  obtain ⟨v11, hj3, h⟩ := bind_some h
  refine SWp.seqRC rfl (hPB _ rfl) [2, 3, 15] [2, 3] (fun _ : Unit => ⟨[(2, .ref (.box 2) 0 []), (3, .ref (.box 3) 0 []), (15, .t (vb v11))], [(2, [vs c1.Name, vi c1.Params, .sl false 1 (List.map vi c1.Locals), .sl false 7 (List.map (GIns.enc false) c1.Words)]), (3, [vi x2.Op, vi x2.A, vi x2.B, vi x2.C, vi x2.Num, vs x2.Name, .sl false 1 (List.map vi x2.Args)])]⟩) (fun _ => True) (fun _ _ => ?_) fun K4 hK4 => ?_
  rotate_left
  · refine wps_cons rfl fun K hK => ?_; simp [hN']; refine hK _ ?_; clear hK
    refine wps_cons rfl fun K hK => ?_; simp [hN']; refine hK _ ?_; clear hK
    obtain ⟨r5, hc6, hj3⟩ := bind_some hj3
    refine wps_call [(.take, .tmp 7), (.take, .const (.int .i64 1)), (.take, .const (.int .i64 20))] rfl rfl ent90 (spec_l01In_ok _ _ _ hc6) fun K hK => ?_; simp [hN']; refine hK _ ?_; clear hK
    iterate 2 (refine wps_cons rfl fun K hK => ?_; simp [hN']; refine hK _ ?_; clear hK)
    rcases ite_or hj3 with ⟨hb7, hj3⟩ | ⟨hb8, hj3⟩
    · have hb7s := hb7
      try simp at hb7s
      iterate 4 (refine wps_off fun K hK => ?_; simp [hN', hb7, hb7s]; refine hK _ ?_; clear hK)
      refine wps_cons rfl fun K hK => ?_; simp [hN', hb7, hb7s]; refine hK _ ?_; clear hK
      refine wps_nil ?_
      cases hj3
      exact hK4 _ () [] trivial (by simp [hN', hb7, hb7s])
    · have hb8s := hb8
      try simp at hb8s
      iterate 2 (refine wps_cons rfl fun K hK => ?_; simp [hN', hb8, hb8s]; refine hK _ ?_; clear hK)
      obtain ⟨r9, hc10, hj3⟩ := bind_some hj3
      refine wps_call [(.take, .tmp 11), (.take, .tmp 12)] rfl rfl ent138 (spec_l11A_ok _ _ hc10) fun K hK => ?_; simp [hN', hb8, hb8s]; refine hK _ ?_; clear hK
      iterate 2 (refine wps_cons rfl fun K hK => ?_; simp [hN', hb8, hb8s]; refine hK _ ?_; clear hK)
      refine wps_nil ?_
      cases hj3
      exact hK4 _ () [] trivial (by simp [hN', hb8, hb8s])
  rcases ite_or h with ⟨hb12, h⟩ | ⟨hb13, h⟩
  · refine SWp.condT' (b := v11) (by simp) hb12 ?_
    refine SWp.seqR rfl (hPB _ rfl) fun K hK => ?_
    refine wps_cons rfl fun K hK => ?_; simp [hN']; refine hK _ ?_; clear hK
    refine wps_nil (hK _ ?_); clear hK
    cases h
    refine SWp.ret ?_
    simp [thenS, inBlockS, res115]
  · refine SWp.condF' (b := v11) (by simp) hb13 ?_
    refine SWp.skip ?_
    show SWp E C _ _ _
    refine SWp.seq ?_
    obtain ⟨v32, hj14, h⟩ := bind_some h
    refine SWp.seqRC rfl (hPB _ rfl) [2, 3, 36] [2, 3] (fun _ : Unit => ⟨[(2, .ref (.box 2) 0 []), (3, .ref (.box 3) 0 []), (36, .t (vb v32))], [(2, [vs c1.Name, vi c1.Params, .sl false 1 (List.map vi c1.Locals), .sl false 7 (List.map (GIns.enc false) c1.Words)]), (3, [vi x2.Op, vi x2.A, vi x2.B, vi x2.C, vi x2.Num, vs x2.Name, .sl false 1 (List.map vi x2.Args)])]⟩) (fun _ => True) (fun _ _ => ?_) fun K15 hK15 => ?_
    rotate_left
    · refine wps_cons rfl fun K hK => ?_; simp [hN']; refine hK _ ?_; clear hK
      refine wps_cons rfl fun K hK => ?_; simp [hN']; refine hK _ ?_; clear hK
      obtain ⟨r16, hc17, hj14⟩ := bind_some hj14
      refine wps_call [(.take, .tmp 17)] rfl rfl ent139 (spec_l11HasB_ok _ hc17) fun K hK => ?_; simp [hN']; refine hK _ ?_; clear hK
      refine wps_cons rfl fun K hK => ?_; simp [hN']; refine hK _ ?_; clear hK
      rcases ite_or hj14 with ⟨hb18, hj14⟩ | ⟨hb19, hj14⟩
      · have hb18s := hb18
        try simp at hb18s
        iterate 3 (refine wps_cons rfl fun K hK => ?_; simp [hN', hb18, hb18s]; refine hK _ ?_; clear hK)
        obtain ⟨r20, hc21, hj14⟩ := bind_some hj14
        refine wps_call [(.take, .tmp 20), (.take, .tmp 22)] rfl rfl ent140 (spec_l11Place_ok _ _ hc21) fun K hK => ?_; simp [hN', hb18, hb18s]; refine hK _ ?_; clear hK
        iterate 3 (refine wps_cons rfl fun K hK => ?_; simp [hN', hb18, hb18s]; refine hK _ ?_; clear hK)
        rcases ite_or hj14 with ⟨hb22, hj14⟩ | ⟨hb23, hj14⟩
        · have hb22s := hb22
          try simp at hb22s
          iterate 9 (refine wps_off fun K hK => ?_; simp [hN', hb18, hb18s, hb22, hb22s]; refine hK _ ?_; clear hK)
          refine wps_cons rfl fun K hK => ?_; simp [hN', hb18, hb18s, hb22, hb22s]; refine hK _ ?_; clear hK
          refine wps_nil ?_
          cases hj14
          exact hK15 _ () [] trivial (by simp [hN', hb18, hb18s, hb22, hb22s])
        · have hb23s := hb23
          try simp at hb23s
          iterate 2 (refine wps_cons rfl fun K hK => ?_; simp [hN', hb18, hb18s, hb23, hb23s]; refine hK _ ?_; clear hK)
          obtain ⟨r24, hc25, hj14⟩ := bind_some hj14
          refine wps_call [(.take, .tmp 28)] rfl rfl ent139 (spec_l11HasB_ok _ hc25) fun K hK => ?_; simp [hN', hb18, hb18s, hb23, hb23s]; refine hK _ ?_; clear hK
          iterate 2 (refine wps_cons rfl fun K hK => ?_; simp [hN', hb18, hb18s, hb23, hb23s]; refine hK _ ?_; clear hK)
          rcases ite_or hj14 with ⟨hb26, hj14⟩ | ⟨hb27, hj14⟩
          · have hb26s := hb26
            try simp at hb26s
            iterate 5 (refine wps_cons rfl fun K hK => ?_; simp [hN', hb18, hb18s, hb23, hb23s, hb26, hb26s]; refine hK _ ?_; clear hK)
            refine wps_nil ?_
            cases hj14
            exact hK15 _ () [] trivial (by simp [hN', hb18, hb18s, hb23, hb23s, hb26, hb26s])
          · have hb27s := hb27
            try simp at hb27s
            iterate 3 (refine wps_off fun K hK => ?_; simp [hN', hb18, hb18s, hb23, hb23s, hb27, hb27s]; refine hK _ ?_; clear hK)
            iterate 2 (refine wps_cons rfl fun K hK => ?_; simp [hN', hb18, hb18s, hb23, hb23s, hb27, hb27s]; refine hK _ ?_; clear hK)
            refine wps_nil ?_
            cases hj14
            exact hK15 _ () [] trivial (by simp [hN', hb18, hb18s, hb23, hb23s, hb27, hb27s])
      · have hb19s := hb19
        try simp at hb19s
        iterate 5 (refine wps_off fun K hK => ?_; simp [hN', hb19, hb19s]; refine hK _ ?_; clear hK)
        iterate 4 (refine wps_cons rfl fun K hK => ?_; simp [hN', hb19, hb19s]; refine hK _ ?_; clear hK)
        obtain ⟨r28, hc29, hj14⟩ := bind_some hj14
        refine wps_call [(.take, .tmp 28)] rfl rfl ent139 (spec_l11HasB_ok _ hc29) fun K hK => ?_; simp [hN', hb19, hb19s]; refine hK _ ?_; clear hK
        iterate 2 (refine wps_cons rfl fun K hK => ?_; simp [hN', hb19, hb19s]; refine hK _ ?_; clear hK)
        rcases ite_or hj14 with ⟨hb30, hj14⟩ | ⟨hb31, hj14⟩
        · have hb30s := hb30
          try simp at hb30s
          iterate 5 (refine wps_cons rfl fun K hK => ?_; simp [hN', hb19, hb19s, hb30, hb30s]; refine hK _ ?_; clear hK)
          refine wps_nil ?_
          cases hj14
          exact hK15 _ () [] trivial (by simp [hN', hb19, hb19s, hb30, hb30s])
        · have hb31s := hb31
          try simp at hb31s
          iterate 3 (refine wps_off fun K hK => ?_; simp [hN', hb19, hb19s, hb31, hb31s]; refine hK _ ?_; clear hK)
          iterate 2 (refine wps_cons rfl fun K hK => ?_; simp [hN', hb19, hb19s, hb31, hb31s]; refine hK _ ?_; clear hK)
          refine wps_nil ?_
          cases hj14
          exact hK15 _ () [] trivial (by simp [hN', hb19, hb19s, hb31, hb31s])
    rcases ite_or h with ⟨hb33, h⟩ | ⟨hb34, h⟩
    · refine SWp.condT' (b := v32) (by simp) hb33 ?_
      refine SWp.seqR rfl (hPB _ rfl) fun K hK => ?_
      refine wps_cons rfl fun K hK => ?_; simp [hN']; refine hK _ ?_; clear hK
      refine wps_nil (hK _ ?_); clear hK
      cases h
      refine SWp.ret ?_
      simp [thenS, inBlockS, res115]
    · refine SWp.condF' (b := v32) (by simp) hb34 ?_
      refine SWp.skip ?_
      show SWp E C _ _ _
      refine SWp.seq ?_
      obtain ⟨v53, hj35, h⟩ := bind_some h
      refine SWp.seqRC rfl (hPB _ rfl) [2, 3, 57] [2, 3] (fun _ : Unit => ⟨[(2, .ref (.box 2) 0 []), (3, .ref (.box 3) 0 []), (57, .t (vb v53))], [(2, [vs c1.Name, vi c1.Params, .sl false 1 (List.map vi c1.Locals), .sl false 7 (List.map (GIns.enc false) c1.Words)]), (3, [vi x2.Op, vi x2.A, vi x2.B, vi x2.C, vi x2.Num, vs x2.Name, .sl false 1 (List.map vi x2.Args)])]⟩) (fun _ => True) (fun _ _ => ?_) fun K36 hK36 => ?_
      rotate_left
      · refine wps_cons rfl fun K hK => ?_; simp [hN']; refine hK _ ?_; clear hK
        refine wps_cons rfl fun K hK => ?_; simp [hN']; refine hK _ ?_; clear hK
        obtain ⟨r37, hc38, hj35⟩ := bind_some hj35
        refine wps_call [(.take, .tmp 38)] rfl rfl ent141 (spec_l11HasC_ok _ hc38) fun K hK => ?_; simp [hN']; refine hK _ ?_; clear hK
        refine wps_cons rfl fun K hK => ?_; simp [hN']; refine hK _ ?_; clear hK
        rcases ite_or hj35 with ⟨hb39, hj35⟩ | ⟨hb40, hj35⟩
        · have hb39s := hb39
          try simp at hb39s
          iterate 3 (refine wps_cons rfl fun K hK => ?_; simp [hN', hb39, hb39s]; refine hK _ ?_; clear hK)
          obtain ⟨r41, hc42, hj35⟩ := bind_some hj35
          refine wps_call [(.take, .tmp 41), (.take, .tmp 43)] rfl rfl ent140 (spec_l11Place_ok _ _ hc42) fun K hK => ?_; simp [hN', hb39, hb39s]; refine hK _ ?_; clear hK
          iterate 3 (refine wps_cons rfl fun K hK => ?_; simp [hN', hb39, hb39s]; refine hK _ ?_; clear hK)
          rcases ite_or hj35 with ⟨hb43, hj35⟩ | ⟨hb44, hj35⟩
          · have hb43s := hb43
            try simp at hb43s
            iterate 9 (refine wps_off fun K hK => ?_; simp [hN', hb39, hb39s, hb43, hb43s]; refine hK _ ?_; clear hK)
            refine wps_cons rfl fun K hK => ?_; simp [hN', hb39, hb39s, hb43, hb43s]; refine hK _ ?_; clear hK
            refine wps_nil ?_
            cases hj35
            exact hK36 _ () [] trivial (by simp [hN', hb39, hb39s, hb43, hb43s])
          · have hb44s := hb44
            try simp at hb44s
            iterate 2 (refine wps_cons rfl fun K hK => ?_; simp [hN', hb39, hb39s, hb44, hb44s]; refine hK _ ?_; clear hK)
            obtain ⟨r45, hc46, hj35⟩ := bind_some hj35
            refine wps_call [(.take, .tmp 49)] rfl rfl ent141 (spec_l11HasC_ok _ hc46) fun K hK => ?_; simp [hN', hb39, hb39s, hb44, hb44s]; refine hK _ ?_; clear hK
            iterate 2 (refine wps_cons rfl fun K hK => ?_; simp [hN', hb39, hb39s, hb44, hb44s]; refine hK _ ?_; clear hK)
            rcases ite_or hj35 with ⟨hb47, hj35⟩ | ⟨hb48, hj35⟩
            · have hb47s := hb47
              try simp at hb47s
              iterate 5 (refine wps_cons rfl fun K hK => ?_; simp [hN', hb39, hb39s, hb44, hb44s, hb47, hb47s]; refine hK _ ?_; clear hK)
              refine wps_nil ?_
              cases hj35
              exact hK36 _ () [] trivial (by simp [hN', hb39, hb39s, hb44, hb44s, hb47, hb47s])
            · have hb48s := hb48
              try simp at hb48s
              iterate 3 (refine wps_off fun K hK => ?_; simp [hN', hb39, hb39s, hb44, hb44s, hb48, hb48s]; refine hK _ ?_; clear hK)
              iterate 2 (refine wps_cons rfl fun K hK => ?_; simp [hN', hb39, hb39s, hb44, hb44s, hb48, hb48s]; refine hK _ ?_; clear hK)
              refine wps_nil ?_
              cases hj35
              exact hK36 _ () [] trivial (by simp [hN', hb39, hb39s, hb44, hb44s, hb48, hb48s])
        · have hb40s := hb40
          try simp at hb40s
          iterate 5 (refine wps_off fun K hK => ?_; simp [hN', hb40, hb40s]; refine hK _ ?_; clear hK)
          iterate 4 (refine wps_cons rfl fun K hK => ?_; simp [hN', hb40, hb40s]; refine hK _ ?_; clear hK)
          obtain ⟨r49, hc50, hj35⟩ := bind_some hj35
          refine wps_call [(.take, .tmp 49)] rfl rfl ent141 (spec_l11HasC_ok _ hc50) fun K hK => ?_; simp [hN', hb40, hb40s]; refine hK _ ?_; clear hK
          iterate 2 (refine wps_cons rfl fun K hK => ?_; simp [hN', hb40, hb40s]; refine hK _ ?_; clear hK)
          rcases ite_or hj35 with ⟨hb51, hj35⟩ | ⟨hb52, hj35⟩
          · have hb51s := hb51
            try simp at hb51s
            iterate 5 (refine wps_cons rfl fun K hK => ?_; simp [hN', hb40, hb40s, hb51, hb51s]; refine hK _ ?_; clear hK)
            refine wps_nil ?_
            cases hj35
            exact hK36 _ () [] trivial (by simp [hN', hb40, hb40s, hb51, hb51s])
          · have hb52s := hb52
            try simp at hb52s
            iterate 3 (refine wps_off fun K hK => ?_; simp [hN', hb40, hb40s, hb52, hb52s]; refine hK _ ?_; clear hK)
            iterate 2 (refine wps_cons rfl fun K hK => ?_; simp [hN', hb40, hb40s, hb52, hb52s]; refine hK _ ?_; clear hK)
            refine wps_nil ?_
            cases hj35
            exact hK36 _ () [] trivial (by simp [hN', hb40, hb40s, hb52, hb52s])
      rcases ite_or h with ⟨hb54, h⟩ | ⟨hb55, h⟩
      · refine SWp.condT' (b := v53) (by simp) hb54 ?_
        refine SWp.seqR rfl (hPB _ rfl) fun K hK => ?_
        refine wps_cons rfl fun K hK => ?_; simp [hN']; refine hK _ ?_; clear hK
        refine wps_nil (hK _ ?_); clear hK
        cases h
        refine SWp.ret ?_
        simp [thenS, inBlockS, res115]
      · refine SWp.condF' (b := v53) (by simp) hb55 ?_
        refine SWp.skip ?_
        show SWp E C _ _ _
        obtain ⟨j58, hj56, h⟩ := bind_some h
        refine SWp.seqC [2, 3] [2, 3] (fun v : Unit => ⟨[(2, .ref (.box 2) 0 []), (3, .ref (.box 3) 0 [])], [(2, [vs c1.Name, vi c1.Params, .sl false 1 (List.map vi c1.Locals), .sl false 7 (List.map (GIns.enc false) c1.Words)]), (3, [vi x2.Op, vi x2.A, vi x2.B, vi x2.C, vi x2.Num, vs x2.Name, .sl false 1 (List.map vi x2.Args)])]⟩) (fun v => j58 = Sum.inl v) (fun v hv => ?_) fun K57 hK57 => ?_
        rotate_left
        · refine SWp.seqR rfl (hPB _ rfl) fun K hK => ?_
          iterate 2 (refine wps_cons rfl fun K hK => ?_; simp [hN']; refine hK _ ?_; clear hK)
          refine wps_nil (hK _ ?_); clear hK
          refine SWp.block ?_
          refine SWp.seqR rfl (hPB _ rfl) fun K hK => ?_
          iterate 2 (refine wps_cons rfl fun K hK => ?_; simp [hN']; refine hK _ ?_; clear hK)
          refine wps_nil (hK _ ?_); clear hK
          rcases ite_or hj56 with ⟨hb59, hj56⟩ | ⟨hb60, hj56⟩
          · refine SWp.condT' (b := x2.Op == 1) (by simp) hb59 ?_
            refine SWp.seqR rfl (hPB _ rfl) fun K hK => ?_
            iterate 2 (refine wps_cons rfl fun K hK => ?_; simp [hN']; refine hK _ ?_; clear hK)
            obtain ⟨r61, hc62, hj56⟩ := bind_some hj56
            refine wps_call [(.take, .tmp 66), (.take, .const (.int .i64 0)), (.take, .const (.int .i64 1000000000))] rfl rfl ent90 (spec_l01In_ok _ _ _ hc62) fun K hK => ?_; simp [hN']; refine hK _ ?_; clear hK
            refine wps_cons rfl fun K hK => ?_; simp [hN']; refine hK _ ?_; clear hK
            refine wps_nil (hK _ ?_); clear hK
            rcases ite_or hj56 with ⟨hb63, hj56⟩ | ⟨hb64, hj56⟩
            · refine SWp.condT' (b := !r61) (by simp) hb63 ?_
              refine SWp.seqR rfl (hPB _ rfl) fun K hK => ?_
              refine wps_cons rfl fun K hK => ?_; simp [hN']; refine hK _ ?_; clear hK
              refine wps_nil (hK _ ?_); clear hK
              cases hj56
              try dsimp only at h
              cases h
              refine SWp.ret ?_
              simp [thenS, inBlockS, res115]
            · refine SWp.condF' (b := !r61) (by simp) hb64 ?_
              refine SWp.skip ?_
              cases hj56
              exact hK57 _ _ [] rfl (by simp [hN'])
          · refine SWp.condF' (b := x2.Op == 1) (by simp) hb60 ?_
            obtain ⟨v70, hj65, hj56⟩ := bind_some hj56
            refine SWp.seqC [2, 3, 69] [2, 3] (fun _ : Unit => ⟨[(2, .ref (.box 2) 0 []), (3, .ref (.box 3) 0 []), (69, .t (vb v70))], [(2, [vs c1.Name, vi c1.Params, .sl false 1 (List.map vi c1.Locals), .sl false 7 (List.map (GIns.enc false) c1.Words)]), (3, [vi x2.Op, vi x2.A, vi x2.B, vi x2.C, vi x2.Num, vs x2.Name, .sl false 1 (List.map vi x2.Args)])]⟩) (fun _ => True) (fun _ _ => ?_) fun K66 hK66 => ?_
            rotate_left
            · refine SWp.seqR rfl (hPB _ rfl) fun K hK => ?_
              iterate 2 (refine wps_cons rfl fun K hK => ?_; simp [hN']; refine hK _ ?_; clear hK)
              refine wps_nil (hK _ ?_); clear hK
              rcases ite_or hj65 with ⟨hb68, hj65⟩ | ⟨hb69, hj65⟩
              · refine SWp.condT' (b := x2.Op == 18) (by simp) hb68 ?_
                refine SWp.skip ?_
                cases hj65
                exact hK66 _ () [] trivial (by simp [hN'])
              · refine SWp.condF' (b := x2.Op == 18) (by simp) hb69 ?_
                refine SWp.reg rfl (hPB _ rfl) fun K hK => ?_
                iterate 2 (refine wps_cons rfl fun K hK => ?_; simp [hN']; refine hK _ ?_; clear hK)
                refine wps_nil (hK _ ?_); clear hK
                cases hj65
                exact hK66 _ () [] trivial (by simp [hN'])
            rcases ite_or hj56 with ⟨hb71, hj56⟩ | ⟨hb72, hj56⟩
            · refine SWp.condT' (b := v70) (by simp) hb71 ?_
              refine SWp.seqR rfl (hPB _ rfl) fun K hK => ?_
              iterate 6 (refine wps_cons rfl fun K hK => ?_; simp [hN']; refine hK _ ?_; clear hK)
              obtain ⟨r73, hc74, hj56⟩ := bind_some hj56
              refine wps_call [(.take, .tmp 73), (.take, .const (.int .i64 0)), (.take, .tmp 77)] rfl rfl ent90 (spec_l01In_ok _ _ _ hc74) fun K hK => ?_; simp [hN']; refine hK _ ?_; clear hK
              refine wps_cons rfl fun K hK => ?_; simp [hN']; refine hK _ ?_; clear hK
              refine wps_nil (hK _ ?_); clear hK
              rcases ite_or hj56 with ⟨hb75, hj56⟩ | ⟨hb76, hj56⟩
              · refine SWp.condT' (b := !r73) (by simp) hb75 ?_
                refine SWp.seqR rfl (hPB _ rfl) fun K hK => ?_
                refine wps_cons rfl fun K hK => ?_; simp [hN']; refine hK _ ?_; clear hK
                refine wps_nil (hK _ ?_); clear hK
                cases hj56
                try dsimp only at h
                cases h
                refine SWp.ret ?_
                simp [thenS, inBlockS, res115]
              · refine SWp.condF' (b := !r73) (by simp) hb76 ?_
                refine SWp.skip ?_
                cases hj56
                exact hK57 _ _ [] rfl (by simp [hN'])
            · refine SWp.condF' (b := v70) (by simp) hb72 ?_
              refine SWp.seqR rfl (hPB _ rfl) fun K hK => ?_
              iterate 3 (refine wps_cons rfl fun K hK => ?_; simp [hN']; refine hK _ ?_; clear hK)
              refine wps_nil (hK _ ?_); clear hK
              rcases ite_or hj56 with ⟨hb77, hj56⟩ | ⟨hb78, hj56⟩
              · refine SWp.condT' (b := x2.Num != 0) (by simp) hb77 ?_
                refine SWp.seqR rfl (hPB _ rfl) fun K hK => ?_
                refine wps_cons rfl fun K hK => ?_; simp [hN']; refine hK _ ?_; clear hK
                refine wps_nil (hK _ ?_); clear hK
                cases hj56
                try dsimp only at h
                cases h
                refine SWp.ret ?_
                simp [thenS, inBlockS, res115]
              · refine SWp.condF' (b := x2.Num != 0) (by simp) hb78 ?_
                refine SWp.skip ?_
                cases hj56
                exact hK57 _ _ [] rfl (by simp [hN'])
        subst hv
        obtain ⟨⟩ := v
        try dsimp only at h ⊢
        refine SWp.seq ?_
        refine SWp.seqR rfl (hPB _ rfl) fun K hK => ?_
        iterate 3 (refine wps_cons rfl fun K hK => ?_; simp [hN']; refine hK _ ?_; clear hK)
        refine wps_nil (hK _ ?_); clear hK
        rcases ite_or h with ⟨hb79, h⟩ | ⟨hb80, h⟩
        · refine SWp.condT' (b := x2.Op != 13) (by simp) hb79 ?_
          obtain ⟨v85, hj81, h⟩ := bind_some h
          refine SWp.seqRC rfl (hPB _ rfl) [4] [] (fun _ : Unit => ⟨[(4, .t (vb v85))], []⟩) (fun _ => True) (fun _ _ => ?_) fun K82 hK82 => ?_
          rotate_left
          · refine wps_cons rfl fun K hK => ?_; simp [hN']; refine hK _ ?_; clear hK
            iterate 3 (refine wps_cons rfl fun K hK => ?_; simp [hN']; refine hK _ ?_; clear hK)
            rcases ite_or hj81 with ⟨hb83, hj81⟩ | ⟨hb84, hj81⟩
            · have hb83s := hb83
              try simp at hb83s
              iterate 6 (refine wps_cons rfl fun K hK => ?_; simp [hN', hb83, hb83s]; refine hK _ ?_; clear hK)
              refine wps_nil ?_
              cases hj81
              exact hK82 _ () [] trivial (by simp [hN', hb83, hb83s])
            · have hb84s := hb84
              try simp at hb84s
              iterate 4 (refine wps_off fun K hK => ?_; simp [hN', hb84, hb84s]; refine hK _ ?_; clear hK)
              iterate 2 (refine wps_cons rfl fun K hK => ?_; simp [hN', hb84, hb84s]; refine hK _ ?_; clear hK)
              refine wps_nil ?_
              cases hj81
              exact hK82 _ () [] trivial (by simp [hN', hb84, hb84s])
          cases h
          refine SWp.ret ?_
          simp [thenS, inBlockS, res115]
        · refine SWp.condF' (b := x2.Op != 13) (by simp) hb80 ?_
          refine SWp.skip ?_
          show SWp E C _ _ _
          obtain ⟨j88, hj86, h⟩ := bind_some h
          refine SWp.seqC [3] [3] (fun v : Unit => ⟨[(3, .ref (.box 3) 0 [])], [(3, [vi x2.Op, vi x2.A, vi x2.B, vi x2.C, vi x2.Num, vs x2.Name, .sl false 1 (List.map vi x2.Args)])]⟩) (fun v => j88 = Sum.inl v) (fun v hv => ?_) fun K87 hK87 => ?_
          rotate_left
          · refine SWp.seqR rfl (hPB _ rfl) fun K hK => ?_
            refine wps_cons rfl fun K hK => ?_; simp [hN']; refine hK _ ?_; clear hK
            refine wps_nil (hK _ ?_); clear hK
            refine SWp.block ?_
            refine SWp.loopO [] [2, 3, 5] [2, 3] (fun v : Int => ⟨[(2, .ref (.box 2) 0 []), (3, .ref (.box 3) 0 []), (5, .t (vi v))], [(2, [vs c1.Name, vi c1.Params, .sl false 1 (List.map vi c1.Locals), .sl false 7 (List.map (GIns.enc false) c1.Words)]), (3, [vi x2.Op, vi x2.A, vi x2.B, vi x2.C, vi x2.Num, vs x2.Name, .sl false 1 (List.map vi x2.Args)])]⟩) (spec_WordOk_l1 c1 x2) _ 0 hj86 (by simp [hN']) ?_
            intro g s92 h90 ho91
            obtain ⟨i89, hg⟩ : ∃ y, y = g := ⟨_, rfl⟩
            subst hg
            simp only [spec_WordOk_l1] at h90
            try dsimp only
            refine SWp.seq ?_
            refine SWp.seqR rfl (hPB _ rfl) fun K hK => ?_
            iterate 5 (refine wps_cons rfl fun K hK => ?_; simp [hN']; refine hK _ ?_; clear hK)
            refine wps_nil (hK _ ?_); clear hK
            rcases ite_or h90 with ⟨hb93, h90⟩ | ⟨hb94, h90⟩
            · refine SWp.condT' (b := decide (i89 < (x2.Args.length : Int))) (by simp) hb93 ?_
              refine SWp.skip ?_
              show SWp E C _ _ _
              refine SWp.seq ?_
              refine SWp.block ?_
              refine SWp.seq ?_
              obtain ⟨e96, he96, h90⟩ := bind_some h90
              obtain ⟨he96a, he96b, he96c, he96d⟩ := getI_some he96
              refine SWp.drawT rfl (hPB _ rfl) [(99, .t (GCode.enc false c1)), (100, .ref (.box 3) 6 []), (101, .t (.sl false 1 (List.map vi x2.Args))), (102, .t (vi i89)), (103, .rop [vi e96] 0), (104, .t (vi e96))] [[], [], [1], [], [1, 2, 3], [1, 2, 3, 4], [0, 1, 2, 3, 4, 5], [0, 1, 2, 3, 4, 5, 6]] (by simp) (by simp) (by simp [look]) rfl rfl rfl ?_ fun K hK => ?_
              · refine ⟨?_, ?_, ?_, ?_, ?_, ?_, trivial⟩
                all_goals (intro τ hbx hb hd hf K hK; try simp [vsAt] at hd; simp [vsAt] at hf; first | (refine wps_cons rfl fun K' hK' => ?_; simp [hN', hbx, hb, hd, hf, he96a, he96b, he96c, he96d]; exact hK' _ (wps_nil (hK _ (by simp [vsAt, hbx, he96a, he96b, he96c, he96d])))))
              obtain ⟨r97, hc98, h90⟩ := bind_some h90
              refine wps_call [(.take, .tmp 99), (.take, .tmp 104)] rfl rfl ent140 (spec_l11Place_ok _ _ hc98) fun K hK => ?_; simp [hN', he96a, he96b, he96c, he96d]; refine hK _ ?_; clear hK
              refine wps_cons rfl fun K hK => ?_; simp [hN', he96a, he96b, he96c, he96d]; refine hK _ ?_; clear hK
              refine wps_nil (hK _ ?_); clear hK
              show SWp E C _ _ _
              rcases ite_or h90 with ⟨hb99, h90⟩ | ⟨hb100, h90⟩
              · refine SWp.condT' (b := !r97) (by simp) hb99 ?_
                refine SWp.seqR rfl (hPB _ rfl) fun K hK => ?_
                refine wps_cons rfl fun K hK => ?_; simp [hN']; refine hK _ ?_; clear hK
                refine wps_nil (hK _ ?_); clear hK
                have h101 := congrArg some (ho91 _ (Option.some.inj h90).symm)
                cases h101
                try dsimp only at h
                cases h
                refine SWp.ret ?_
                simp [thenS, inBlockS, res115]
              · refine SWp.condF' (b := !r97) (by simp) hb100 ?_
                refine SWp.skip ?_
                show SWp E C _ _ _
                refine SWp.reg rfl (hPB _ rfl) fun K hK => ?_
                iterate 3 (refine wps_cons rfl fun K hK => ?_; simp [hN']; refine hK _ ?_; clear hK)
                refine wps_nil (hK _ ?_); clear hK
                cases h90
                exact ⟨_, [], rfl, by simp [hN']⟩
            · refine SWp.condF' (b := decide (i89 < (x2.Args.length : Int))) (by simp) hb94 ?_
              refine SWp.exit ?_
              have h102 := congrArg some (ho91 _ (Option.some.inj h90).symm)
              cases h102
              exact hK87 _ _ [] rfl (by simp [hN'])
          subst hv
          obtain ⟨⟩ := v
          try dsimp only at h ⊢
          obtain ⟨v109, hj103, h⟩ := bind_some h
          refine SWp.seqRC rfl (hPB _ rfl) [4] [] (fun _ : Unit => ⟨[(4, .t (vb v109))], []⟩) (fun _ => True) (fun _ _ => ?_) fun K104 hK104 => ?_
          rotate_left
          · refine wps_cons rfl fun K hK => ?_; simp [hN']; refine hK _ ?_; clear hK
            refine wps_cons rfl fun K hK => ?_; simp [hN']; refine hK _ ?_; clear hK
            obtain ⟨r105, hc106, hj103⟩ := bind_some hj103
            refine wps_call [(.take, .tmp 108)] rfl rfl ent114 (spec_NameOk_ok _ hc106) fun K hK => ?_; simp [hN']; refine hK _ ?_; clear hK
            refine wps_cons rfl fun K hK => ?_; simp [hN']; refine hK _ ?_; clear hK
            rcases ite_or hj103 with ⟨hb107, hj103⟩ | ⟨hb108, hj103⟩
            · have hb107s := hb107
              try simp at hb107s
              iterate 6 (refine wps_cons rfl fun K hK => ?_; simp [hN', hb107, hb107s]; refine hK _ ?_; clear hK)
              refine wps_nil ?_
              cases hj103
              exact hK104 _ () [] trivial (by simp [hN', hb107, hb107s])
            · have hb108s := hb108
              try simp at hb108s
              iterate 4 (refine wps_off fun K hK => ?_; simp [hN', hb108, hb108s]; refine hK _ ?_; clear hK)
              iterate 2 (refine wps_cons rfl fun K hK => ?_; simp [hN', hb108, hb108s]; refine hK _ ?_; clear hK)
              refine wps_nil ?_
              cases hj103
              exact hK104 _ () [] trivial (by simp [hN', hb108, hb108s])
          cases h
          refine SWp.ret ?_
          simp [thenS, inBlockS, res115]
end Go.Proofs.T
set_option linter.unusedVariables false
set_option linter.unusedSimpArgs false
set_option maxHeartbeats 1000000
namespace Go.Proofs.T
open Go.OM
theorem res75 : Tryd.f75.results.toList = [.tmp 2] := rfl
theorem ent75 : Enters E.P 75 := enters_of Tryd.func75 (by simp [Tryd.f75]) rfl
theorem spec_CodeOk_ok (c1 : GCode) {r0 : Bool} (h : spec_CodeOk c1 = some r0) : Ok E 75 [.val (GCode.enc false c1)] [vb r0] [] := by
  refine ok_of_body (fn := Tryd.f75) Tryd.func75 rfl (by simp [Tryd.f75]) fun C hN hP => ?_
  have hPB : ∀ l, pinK [] l = true → pinB C.pin l = true := pinB_of (by rw [hP]; rfl)
  have hN' : C.N = 72 := hN
  clear hN
  unfold spec_CodeOk at h
  refine SWp.seqR rfl (hPB _ rfl) fun K hK => ?_
  iterate 2 (refine wps_cons rfl fun K hK => ?_; simp [hN']; refine hK _ ?_; clear hK)
  refine wps_nil (hK _ ?_); clear hK
  refine SWp.seq ?_
  obtain ⟨v19, hj2, h⟩ := bind_some h
  refine SWp.seqRC rfl (hPB _ rfl) [1, 42] [1] (fun _ : Unit => ⟨[(1, .ref (.box 1) 0 []), (42, .t (vb v19))], [(1, [vs c1.Name, vi c1.Params, .sl false 1 (List.map vi c1.Locals), .sl false 7 (List.map (GIns.enc false) c1.Words)])]⟩) (fun _ => True) (fun _ _ => ?_) fun K3 hK3 => ?_
  rotate_left
  · refine wps_cons rfl fun K hK => ?_; simp [hN']; refine hK _ ?_; clear hK
    refine wps_cons rfl fun K hK => ?_; simp [hN']; refine hK _ ?_; clear hK
    obtain ⟨r4, hc5, hj2⟩ := bind_some hj2
    refine wps_call [(.take, .tmp 6)] rfl rfl ent114 (spec_NameOk_ok _ hc5) fun K hK => ?_; simp [hN']; refine hK _ ?_; clear hK
    iterate 2 (refine wps_cons rfl fun K hK => ?_; simp [hN']; refine hK _ ?_; clear hK)
    rcases ite_or hj2 with ⟨hb6, hj2⟩ | ⟨hb7, hj2⟩
    · have hb6s := hb6
      try simp at hb6s
      iterate 4 (refine wps_off fun K hK => ?_; simp [hN', hb6, hb6s]; refine hK _ ?_; clear hK)
      iterate 2 (refine wps_cons rfl fun K hK => ?_; simp [hN', hb6, hb6s]; refine hK _ ?_; clear hK)
      iterate 7 (refine wps_off fun K hK => ?_; simp [hN', hb6, hb6s]; refine hK _ ?_; clear hK)
      iterate 2 (refine wps_cons rfl fun K hK => ?_; simp [hN', hb6, hb6s]; refine hK _ ?_; clear hK)
      iterate 5 (refine wps_off fun K hK => ?_; simp [hN', hb6, hb6s]; refine hK _ ?_; clear hK)
      iterate 2 (refine wps_cons rfl fun K hK => ?_; simp [hN', hb6, hb6s]; refine hK _ ?_; clear hK)
      iterate 10 (refine wps_off fun K hK => ?_; simp [hN', hb6, hb6s]; refine hK _ ?_; clear hK)
      refine wps_cons rfl fun K hK => ?_; simp [hN', hb6, hb6s]; refine hK _ ?_; clear hK
      refine wps_nil ?_
      cases hj2
      exact hK3 _ () [] trivial (by simp [hN', hb6, hb6s])
    · have hb7s := hb7
      try simp at hb7s
      iterate 6 (refine wps_cons rfl fun K hK => ?_; simp [hN', hb7, hb7s]; refine hK _ ?_; clear hK)
      rcases ite_or hj2 with ⟨hb8, hj2⟩ | ⟨hb9, hj2⟩
      · have hb8s := hb8
        try simp at hb8s
        iterate 7 (refine wps_off fun K hK => ?_; simp [hN', hb7, hb7s, hb8, hb8s]; refine hK _ ?_; clear hK)
        iterate 2 (refine wps_cons rfl fun K hK => ?_; simp [hN', hb7, hb7s, hb8, hb8s]; refine hK _ ?_; clear hK)
        iterate 5 (refine wps_off fun K hK => ?_; simp [hN', hb7, hb7s, hb8, hb8s]; refine hK _ ?_; clear hK)
        iterate 2 (refine wps_cons rfl fun K hK => ?_; simp [hN', hb7, hb7s, hb8, hb8s]; refine hK _ ?_; clear hK)
        iterate 10 (refine wps_off fun K hK => ?_; simp [hN', hb7, hb7s, hb8, hb8s]; refine hK _ ?_; clear hK)
        refine wps_cons rfl fun K hK => ?_; simp [hN', hb7, hb7s, hb8, hb8s]; refine hK _ ?_; clear hK
        refine wps_nil ?_
        cases hj2
        exact hK3 _ () [] trivial (by simp [hN', hb7, hb7s, hb8, hb8s])
      · have hb9s := hb9
        try simp at hb9s
        iterate 5 (refine wps_cons rfl fun K hK => ?_; simp [hN', hb7, hb7s, hb9, hb9s]; refine hK _ ?_; clear hK)
        obtain ⟨r10, hc11, hj2⟩ := bind_some hj2
        refine wps_call [(.take, .tmp 17), (.take, .const (.int .i64 0)), (.take, .tmp 20)] rfl rfl ent90 (spec_l01In_ok _ _ _ hc11) fun K hK => ?_; simp [hN', hb7, hb7s, hb9, hb9s]; refine hK _ ?_; clear hK
        iterate 3 (refine wps_cons rfl fun K hK => ?_; simp [hN', hb7, hb7s, hb9, hb9s]; refine hK _ ?_; clear hK)
        rcases ite_or hj2 with ⟨hb12, hj2⟩ | ⟨hb13, hj2⟩
        · have hb12s := hb12
          try simp at hb12s
          iterate 5 (refine wps_off fun K hK => ?_; simp [hN', hb7, hb7s, hb9, hb9s, hb12, hb12s]; refine hK _ ?_; clear hK)
          iterate 2 (refine wps_cons rfl fun K hK => ?_; simp [hN', hb7, hb7s, hb9, hb9s, hb12, hb12s]; refine hK _ ?_; clear hK)
          iterate 10 (refine wps_off fun K hK => ?_; simp [hN', hb7, hb7s, hb9, hb9s, hb12, hb12s]; refine hK _ ?_; clear hK)
          refine wps_cons rfl fun K hK => ?_; simp [hN', hb7, hb7s, hb9, hb9s, hb12, hb12s]; refine hK _ ?_; clear hK
          refine wps_nil ?_
          cases hj2
          exact hK3 _ () [] trivial (by simp [hN', hb7, hb7s, hb9, hb9s, hb12, hb12s])
        · have hb13s := hb13
          try simp at hb13s
          iterate 3 (refine wps_cons rfl fun K hK => ?_; simp [hN', hb7, hb7s, hb9, hb9s, hb13, hb13s]; refine hK _ ?_; clear hK)
          obtain ⟨r14, hc15, hj2⟩ := bind_some hj2
          refine wps_call [(.take, .tmp 27), (.take, .const (.int .i64 1)), (.take, .const (.int .i64 400))] rfl rfl ent90 (spec_l01In_ok _ _ _ hc15) fun K hK => ?_; simp [hN', hb7, hb7s, hb9, hb9s, hb13, hb13s]; refine hK _ ?_; clear hK
          iterate 3 (refine wps_cons rfl fun K hK => ?_; simp [hN', hb7, hb7s, hb9, hb9s, hb13, hb13s]; refine hK _ ?_; clear hK)
          rcases ite_or hj2 with ⟨hb16, hj2⟩ | ⟨hb17, hj2⟩
          · have hb16s := hb16
            try simp at hb16s
            iterate 10 (refine wps_off fun K hK => ?_; simp [hN', hb7, hb7s, hb9, hb9s, hb13, hb13s, hb16, hb16s]; refine hK _ ?_; clear hK)
            refine wps_cons rfl fun K hK => ?_; simp [hN', hb7, hb7s, hb9, hb9s, hb13, hb13s, hb16, hb16s]; refine hK _ ?_; clear hK
            refine wps_nil ?_
            cases hj2
            exact hK3 _ () [] trivial (by simp [hN', hb7, hb7s, hb9, hb9s, hb13, hb13s, hb16, hb16s])
          · have hb17s := hb17
            try simp at hb17s
            iterate 6 (refine wps_cons rfl fun K hK => ?_; simp [hN', hb7, hb7s, hb9, hb9s, hb13, hb13s, hb17, hb17s]; refine hK _ ?_; clear hK)
            obtain ⟨e18, he18, hj2⟩ := bind_some hj2
            obtain ⟨he18a, he18b, he18c, he18d⟩ := getI_some he18
            have he18j := he18b; try simp at he18j
            try simp only [Int.toNat_natCast] at he18c he18d
            iterate 5 (refine wps_cons rfl fun K hK => ?_; simp [hN', hb7, hb7s, hb9, hb9s, hb13, hb13s, hb17, hb17s, he18a, he18b, he18c, he18d, he18j]; refine hK _ ?_; clear hK)
            refine wps_nil ?_
            cases hj2
            exact hK3 _ () [] trivial (by simp [hN', hb7, hb7s, hb9, hb9s, hb13, hb13s, hb17, hb17s, he18a, he18b, he18c, he18d, he18j])
  rcases ite_or h with ⟨hb20, h⟩ | ⟨hb21, h⟩
  · refine SWp.condT' (b := v19) (by simp) hb20 ?_
    refine SWp.seqR rfl (hPB _ rfl) fun K hK => ?_
    refine wps_cons rfl fun K hK => ?_; simp [hN']; refine hK _ ?_; clear hK
    refine wps_nil (hK _ ?_); clear hK
    cases h
    refine SWp.ret ?_
    simp [thenS, inBlockS, res75]
  · refine SWp.condF' (b := v19) (by simp) hb21 ?_
    refine SWp.skip ?_
    show SWp E C _ _ _
    obtain ⟨j24, hj22, h⟩ := bind_some h
    refine SWp.seqC [1] [1] (fun v : Unit => ⟨[(1, .ref (.box 1) 0 [])], [(1, [vs c1.Name, vi c1.Params, .sl false 1 (List.map vi c1.Locals), .sl false 7 (List.map (GIns.enc false) c1.Words)])]⟩) (fun v => j24 = Sum.inl v) (fun v hv => ?_) fun K23 hK23 => ?_
    rotate_left
    · refine SWp.seqR rfl (hPB _ rfl) fun K hK => ?_
      refine wps_cons rfl fun K hK => ?_; simp [hN']; refine hK _ ?_; clear hK
      refine wps_nil (hK _ ?_); clear hK
      refine SWp.block ?_
      refine SWp.loopO [] [1, 3] [1] (fun v : Int => ⟨[(1, .ref (.box 1) 0 []), (3, .t (vi v))], [(1, [vs c1.Name, vi c1.Params, .sl false 1 (List.map vi c1.Locals), .sl false 7 (List.map (GIns.enc false) c1.Words)])]⟩) (spec_CodeOk_l1 c1) _ 0 hj22 (by simp [hN']) ?_
      intro g s28 h26 ho27
      obtain ⟨i25, hg⟩ : ∃ y, y = g := ⟨_, rfl⟩
      subst hg
      simp only [spec_CodeOk_l1] at h26
      try dsimp only
      refine SWp.seq ?_
      refine SWp.seqR rfl (hPB _ rfl) fun K hK => ?_
      iterate 5 (refine wps_cons rfl fun K hK => ?_; simp [hN']; refine hK _ ?_; clear hK)
      refine wps_nil (hK _ ?_); clear hK
      rcases ite_or h26 with ⟨hb29, h26⟩ | ⟨hb30, h26⟩
      · refine SWp.condT' (b := decide (i25 < (c1.Locals.length : Int))) (by simp) hb29 ?_
        refine SWp.skip ?_
        show SWp E C _ _ _
        refine SWp.seq ?_
        refine SWp.block ?_
        refine SWp.seqR rfl (hPB _ rfl) fun K hK => ?_
        iterate 3 (refine wps_cons rfl fun K hK => ?_; simp [hN']; refine hK _ ?_; clear hK)
        obtain ⟨e31, he31, h26⟩ := bind_some h26
        obtain ⟨he31a, he31b, he31c, he31d⟩ := getI_some he31
        iterate 2 (refine wps_cons rfl fun K hK => ?_; simp [hN', he31a, he31b, he31c, he31d]; refine hK _ ?_; clear hK)
        obtain ⟨r32, hc33, h26⟩ := bind_some h26
        refine wps_call [(.take, .tmp 54), (.take, .const (.int .i64 1)), (.take, .const (.int .i64 4))] rfl rfl ent90 (spec_l01In_ok _ _ _ hc33) fun K hK => ?_; simp [hN', he31a, he31b, he31c, he31d]; refine hK _ ?_; clear hK
        refine wps_cons rfl fun K hK => ?_; simp [hN', he31a, he31b, he31c, he31d]; refine hK _ ?_; clear hK
        refine wps_nil (hK _ ?_); clear hK
        rcases ite_or h26 with ⟨hb34, h26⟩ | ⟨hb35, h26⟩
        · refine SWp.condT' (b := !r32) (by simp) hb34 ?_
          refine SWp.seqR rfl (hPB _ rfl) fun K hK => ?_
          refine wps_cons rfl fun K hK => ?_; simp [hN']; refine hK _ ?_; clear hK
          refine wps_nil (hK _ ?_); clear hK
          have h36 := congrArg some (ho27 _ (Option.some.inj h26).symm)
          cases h36
          try dsimp only at h
          cases h
          refine SWp.ret ?_
          simp [thenS, inBlockS, res75]
        · refine SWp.condF' (b := !r32) (by simp) hb35 ?_
          refine SWp.skip ?_
          show SWp E C _ _ _
          refine SWp.reg rfl (hPB _ rfl) fun K hK => ?_
          iterate 3 (refine wps_cons rfl fun K hK => ?_; simp [hN']; refine hK _ ?_; clear hK)
          refine wps_nil (hK _ ?_); clear hK
          cases h26
          exact ⟨_, [], rfl, by simp [hN']⟩
      · refine SWp.condF' (b := decide (i25 < (c1.Locals.length : Int))) (by simp) hb30 ?_
        refine SWp.exit ?_
        have h37 := congrArg some (ho27 _ (Option.some.inj h26).symm)
        cases h37
        exact hK23 _ _ [] rfl (by simp [hN'])
    subst hv
    obtain ⟨⟩ := v
    try dsimp only at h ⊢
    obtain ⟨j40, hj38, h⟩ := bind_some h
    refine SWp.seqC [] [] (fun v : Unit => ⟨[], []⟩) (fun v => j40 = Sum.inl v) (fun v hv => ?_) fun K39 hK39 => ?_
    rotate_left
    · refine SWp.seqR rfl (hPB _ rfl) fun K hK => ?_
      refine wps_cons rfl fun K hK => ?_; simp [hN']; refine hK _ ?_; clear hK
      refine wps_nil (hK _ ?_); clear hK
      refine SWp.block ?_
      refine SWp.loopO [] [1, 4] [1] (fun v : Int => ⟨[(1, .ref (.box 1) 0 []), (4, .t (vi v))], [(1, [vs c1.Name, vi c1.Params, .sl false 1 (List.map vi c1.Locals), .sl false 7 (List.map (GIns.enc false) c1.Words)])]⟩) (spec_CodeOk_l2 c1) _ 0 hj38 (by simp [hN']) ?_
      intro g s44 h42 ho43
      obtain ⟨i41, hg⟩ : ∃ y, y = g := ⟨_, rfl⟩
      subst hg
      simp only [spec_CodeOk_l2] at h42
      try dsimp only
      refine SWp.seq ?_
      refine SWp.seqR rfl (hPB _ rfl) fun K hK => ?_
      iterate 5 (refine wps_cons rfl fun K hK => ?_; simp [hN']; refine hK _ ?_; clear hK)
      refine wps_nil (hK _ ?_); clear hK
      rcases ite_or h42 with ⟨hb45, h42⟩ | ⟨hb46, h42⟩
      · refine SWp.condT' (b := decide (i41 < (c1.Words.length : Int))) (by simp) hb45 ?_
        refine SWp.skip ?_
        show SWp E C _ _ _
        refine SWp.seq ?_
        refine SWp.block ?_
        refine SWp.seq ?_
        obtain ⟨e48, he48, h42⟩ := bind_some h42
        obtain ⟨he48a, he48b, he48c, he48d⟩ := getI_some he48
        refine SWp.drawT rfl (hPB _ rfl) [(64, .t (GCode.enc false c1)), (65, .ref (.box 1) 3 []), (66, .t (.sl false 7 (List.map (GIns.enc false) c1.Words))), (67, .t (vi i41)), (68, .rop [vi e48.Op, vi e48.A, vi e48.B, vi e48.C, vi e48.Num, vs e48.Name, .sl false 1 (List.map vi e48.Args)] 0), (69, .t (GIns.enc false e48))] [[], [], [1], [], [1, 2, 3], [1, 2, 3, 4], [0, 1, 2, 3, 4, 5], [0, 1, 2, 3, 4, 5, 6]] (by simp) (by simp) (by simp [look]) rfl rfl rfl ?_ fun K hK => ?_
        · refine ⟨?_, ?_, ?_, ?_, ?_, ?_, trivial⟩
          all_goals (intro τ hbx hb hd hf K hK; try simp [vsAt] at hd; simp [vsAt] at hf; first | (refine wps_cons rfl fun K' hK' => ?_; simp [hN', hbx, hb, hd, hf, he48a, he48b, he48c, he48d]; exact hK' _ (wps_nil (hK _ (by simp [vsAt, hbx, he48a, he48b, he48c, he48d])))))
        obtain ⟨r49, hc50, h42⟩ := bind_some h42
        refine wps_call [(.take, .tmp 64), (.take, .tmp 69)] rfl rfl ent115 (spec_WordOk_ok _ _ hc50) fun K hK => ?_; simp [hN', he48a, he48b, he48c, he48d]; refine hK _ ?_; clear hK
        refine wps_cons rfl fun K hK => ?_; simp [hN', he48a, he48b, he48c, he48d]; refine hK _ ?_; clear hK
        refine wps_nil (hK _ ?_); clear hK
        show SWp E C _ _ _
        rcases ite_or h42 with ⟨hb51, h42⟩ | ⟨hb52, h42⟩
        · refine SWp.condT' (b := !r49) (by simp) hb51 ?_
          refine SWp.seqR rfl (hPB _ rfl) fun K hK => ?_
          refine wps_cons rfl fun K hK => ?_; simp [hN']; refine hK _ ?_; clear hK
          refine wps_nil (hK _ ?_); clear hK
          have h53 := congrArg some (ho43 _ (Option.some.inj h42).symm)
          cases h53
          try dsimp only at h
          cases h
          refine SWp.ret ?_
          simp [thenS, inBlockS, res75]
        · refine SWp.condF' (b := !r49) (by simp) hb52 ?_
          refine SWp.skip ?_
          show SWp E C _ _ _
          refine SWp.reg rfl (hPB _ rfl) fun K hK => ?_
          iterate 3 (refine wps_cons rfl fun K hK => ?_; simp [hN']; refine hK _ ?_; clear hK)
          refine wps_nil (hK _ ?_); clear hK
          cases h42
          exact ⟨_, [], rfl, by simp [hN']⟩
      · refine SWp.condF' (b := decide (i41 < (c1.Words.length : Int))) (by simp) hb46 ?_
        refine SWp.exit ?_
        have h54 := congrArg some (ho43 _ (Option.some.inj h42).symm)
        cases h54
        exact hK39 _ _ [] rfl (by simp [hN'])
    subst hv
    obtain ⟨⟩ := v
    try dsimp only at h ⊢
    refine SWp.seqR rfl (hPB _ rfl) fun K hK => ?_
    refine wps_cons rfl fun K hK => ?_; simp [hN']; refine hK _ ?_; clear hK
    refine wps_nil (hK _ ?_); clear hK
    cases h
    refine SWp.ret ?_
    simp [thenS, inBlockS, res75]
end Go.Proofs.T
set_option linter.unusedVariables false
set_option linter.unusedSimpArgs false
set_option maxHeartbeats 1000000
namespace Go.Proofs.T
open Go.OM
theorem res93 : Tryd.f93.results.toList = [.tmp 2] := rfl
theorem ent93 : Enters E.P 93 := enters_of Tryd.func93 (by simp [Tryd.f93]) rfl
theorem spec_l29Heads_ok (c1 : GCode) {r0 : List Bool} (h : spec_l29Heads c1 = some r0) : Ok E 93 [.val (GCode.enc false c1)] [.sl true 1 (List.map vb r0)] [] := by
  refine ok_of_body (fn := Tryd.f93) Tryd.func93 rfl (by simp [Tryd.f93]) fun C hN hP => ?_
  have hPB : ∀ l, pinK [] l = true → pinB C.pin l = true := pinB_of (by rw [hP]; rfl)
  have hN' : C.N = 60 := hN
  clear hN
  unfold spec_l29Heads at h
  refine SWp.seqR rfl (hPB _ rfl) fun K hK => ?_
  iterate 2 (refine wps_cons rfl fun K hK => ?_; simp [hN']; refine hK _ ?_; clear hK)
  refine wps_nil (hK _ ?_); clear hK
  refine SWp.seqR rfl (hPB _ rfl) fun K hK => ?_
  iterate 4 (refine wps_cons rfl fun K hK => ?_; simp [hN']; refine hK _ ?_; clear hK)
  obtain ⟨l2, hl2, h⟩ := bind_some h
  obtain ⟨hl2a, hl2b, hl2c, hl2d⟩ := mkI_some hl2
  have hl2f : List.replicate (IntKind.wrap .i64 ((c1.Words.length : Int) + 1)).toNat (vb false) = List.map vb l2 := rep_map (f := vb) hl2d
  try simp only [Int.toNat_natCast] at hl2f
  iterate 2 (refine wps_cons rfl fun K hK => ?_; simp [hN', hl2a, hl2b, hl2c, hl2f]; refine hK _ ?_; clear hK)
  refine wps_nil (hK _ ?_); clear hK
  refine SWp.seqR rfl (hPB _ rfl) fun K hK => ?_
  refine wps_cons rfl fun K hK => ?_; simp [hN']; refine hK _ ?_; clear hK
  obtain ⟨e3, he3, h⟩ := bind_some h
  obtain ⟨he3a, he3b, he3c, he3d⟩ := getI_some he3
  have he3e : 0 < l2.length := by omega
  have he3g : l2[0]? = some e3 := he3c
  have he3i : l2[0] = e3 := he3d he3e
  refine wps_cons rfl fun K hK => ?_; simp [hN', he3a, he3b, he3c, he3d, he3e, he3g, he3i]; refine hK _ ?_; clear hK
  obtain ⟨l4, hl4, h⟩ := bindS_some h
  have hl4f : (List.map vb l2).set 0 (vb true) = List.map vb l4 := set_map (f := vb) hl4
  try simp only [Int.toNat_natCast] at hl4f
  refine wps_cons rfl fun K hK => ?_; simp [hN', he3a, he3b, he3c, he3d, he3e, he3g, he3i, hl4f]; refine hK _ ?_; clear hK
  refine wps_nil (hK _ ?_); clear hK
  obtain ⟨out41, hj5, h⟩ := bind_some h
  refine SWp.seqC [1, 3] [1] (fun _ : Unit => ⟨[(1, .ref (.box 1) 0 []), (3, .t (.sl true 1 (List.map vb out41)))], [(1, [vs c1.Name, vi c1.Params, .sl false 1 (List.map vi c1.Locals), .sl false 7 (List.map (GIns.enc false) c1.Words)])]⟩) (fun _ => True) (fun _ _ => ?_) fun K6 hK6 => ?_
  rotate_left
  · refine SWp.seqR rfl (hPB _ rfl) fun K hK => ?_
    refine wps_cons rfl fun K hK => ?_; simp [hN']; refine hK _ ?_; clear hK
    refine wps_nil (hK _ ?_); clear hK
    refine SWp.block ?_
    refine SWp.loopO [] [1, 3, 4] [1] (fun v : (List Bool) × Int => ⟨[(1, .ref (.box 1) 0 []), (3, .t (.sl true 1 (List.map vb v.1))), (4, .t (vi v.2))], [(1, [vs c1.Name, vi c1.Params, .sl false 1 (List.map vi c1.Locals), .sl false 7 (List.map (GIns.enc false) c1.Words)])]⟩) (spec_l29Heads_l1 c1) _ (l4, 0) hj5 (by simp [hN']) ?_
    intro g s12 h10 ho11
    obtain ⟨out8, i9⟩ := g
    simp only [spec_l29Heads_l1] at h10
    try dsimp only
    refine SWp.seq ?_
    refine SWp.seqR rfl (hPB _ rfl) fun K hK => ?_
    iterate 5 (refine wps_cons rfl fun K hK => ?_; simp [hN']; refine hK _ ?_; clear hK)
    refine wps_nil (hK _ ?_); clear hK
    rcases ite_or h10 with ⟨hb13, h10⟩ | ⟨hb14, h10⟩
    · refine SWp.condT' (b := decide (i9 < (c1.Words.length : Int))) (by simp) hb13 ?_
      refine SWp.skip ?_
      show SWp E C _ _ _
      refine SWp.seq ?_
      refine SWp.block ?_
      refine SWp.seqR rfl (hPB _ rfl) fun K hK => ?_
      iterate 3 (refine wps_cons rfl fun K hK => ?_; simp [hN']; refine hK _ ?_; clear hK)
      obtain ⟨e15, he15, h10⟩ := bind_some h10
      obtain ⟨he15a, he15b, he15c, he15d⟩ := getI_some he15
      iterate 4 (refine wps_cons rfl fun K hK => ?_; simp [hN', he15a, he15b, he15c, he15d]; refine hK _ ?_; clear hK)
      refine wps_nil (hK _ ?_); clear hK
      obtain ⟨out28, hj16, h10⟩ := bind_some h10
      refine SWp.seqC [1, 3, 4, 5] [1, 5] (fun _ : Unit => ⟨[(1, .ref (.box 1) 0 []), (3, .t (.sl true 1 (List.map vb out28))), (4, .t (vi i9)), (5, .ref (.box 5) 0 [])], [(1, [vs c1.Name, vi c1.Params, .sl false 1 (List.map vi c1.Locals), .sl false 7 (List.map (GIns.enc false) c1.Words)]), (5, [vi e15.Op, vi e15.A, vi e15.B, vi e15.C, vi e15.Num, vs e15.Name, .sl false 1 (List.map vi e15.Args)])]⟩) (fun _ => True) (fun _ _ => ?_) fun K17 hK17 => ?_
      rotate_left
      · obtain ⟨v23, hj19, hj16⟩ := bind_some hj16
        refine SWp.seqRC rfl (hPB _ rfl) [1, 3, 4, 5, 32] [1, 5] (fun _ : Unit => ⟨[(1, .ref (.box 1) 0 []), (3, .t (.sl true 1 (List.map vb out8))), (4, .t (vi i9)), (5, .ref (.box 5) 0 []), (32, .t (vb v23))], [(1, [vs c1.Name, vi c1.Params, .sl false 1 (List.map vi c1.Locals), .sl false 7 (List.map (GIns.enc false) c1.Words)]), (5, [vi e15.Op, vi e15.A, vi e15.B, vi e15.C, vi e15.Num, vs e15.Name, .sl false 1 (List.map vi e15.Args)])]⟩) (fun _ => True) (fun _ _ => ?_) fun K20 hK20 => ?_
        rotate_left
        · refine wps_cons rfl fun K hK => ?_; simp [hN']; refine hK _ ?_; clear hK
          iterate 3 (refine wps_cons rfl fun K hK => ?_; simp [hN']; refine hK _ ?_; clear hK)
          rcases ite_or hj19 with ⟨hb21, hj19⟩ | ⟨hb22, hj19⟩
          · have hb21s := hb21
            try simp at hb21s
            iterate 3 (refine wps_off fun K hK => ?_; simp [hN', hb21, hb21s]; refine hK _ ?_; clear hK)
            refine wps_cons rfl fun K hK => ?_; simp [hN', hb21, hb21s]; refine hK _ ?_; clear hK
            refine wps_nil ?_
            cases hj19
            exact hK20 _ () [] trivial (by simp [hN', hb21, hb21s])
          · have hb22s := hb22
            try simp at hb22s
            iterate 4 (refine wps_cons rfl fun K hK => ?_; simp [hN', hb22, hb22s]; refine hK _ ?_; clear hK)
            refine wps_nil ?_
            cases hj19
            exact hK20 _ () [] trivial (by simp [hN', hb22, hb22s])
        rcases ite_or hj16 with ⟨hb24, hj16⟩ | ⟨hb25, hj16⟩
        · refine SWp.condT' (b := v23) (by simp) hb24 ?_
          refine SWp.reg rfl (hPB _ rfl) fun K hK => ?_
          iterate 3 (refine wps_cons rfl fun K hK => ?_; simp [hN']; refine hK _ ?_; clear hK)
          obtain ⟨e26, he26, hj16⟩ := bind_some hj16
          obtain ⟨he26a, he26b, he26c, he26d⟩ := getI_some he26
          have he26j := he26b; try simp at he26j
          try simp only [Int.toNat_natCast] at he26c he26d
          refine wps_cons rfl fun K hK => ?_; simp [hN', he26a, he26b, he26c, he26d, he26j]; refine hK _ ?_; clear hK
          obtain ⟨l27, hl27, hj16⟩ := bindS_some hj16
          have hl27f : (List.map vb out8).set e15.Num.toNat (vb true) = List.map vb l27 := set_map (f := vb) hl27
          try simp only [Int.toNat_natCast] at hl27f
          refine wps_cons rfl fun K hK => ?_; simp [hN', he26a, he26b, he26c, he26d, he26j, hl27f]; refine hK _ ?_; clear hK
          refine wps_nil (hK _ ?_); clear hK
          cases hj16
          exact hK17 _ () [] trivial (by simp [hN'])
        · refine SWp.condF' (b := v23) (by simp) hb25 ?_
          refine SWp.skip ?_
          cases hj16
          exact hK17 _ () [] trivial (by simp [hN'])
      obtain ⟨v35, hj29, h10⟩ := bind_some h10
      refine SWp.seqRC rfl (hPB _ rfl) [1, 3, 4, 49] [1] (fun _ : Unit => ⟨[(1, .ref (.box 1) 0 []), (3, .t (.sl true 1 (List.map vb out28))), (4, .t (vi i9)), (49, .t (vb v35))], [(1, [vs c1.Name, vi c1.Params, .sl false 1 (List.map vi c1.Locals), .sl false 7 (List.map (GIns.enc false) c1.Words)])]⟩) (fun _ => True) (fun _ _ => ?_) fun K30 hK30 => ?_
      rotate_left
      · refine wps_cons rfl fun K hK => ?_; simp [hN']; refine hK _ ?_; clear hK
        iterate 3 (refine wps_cons rfl fun K hK => ?_; simp [hN']; refine hK _ ?_; clear hK)
        rcases ite_or hj29 with ⟨hb31, hj29⟩ | ⟨hb32, hj29⟩
        · have hb31s := hb31
          try simp at hb31s
          iterate 3 (refine wps_off fun K hK => ?_; simp [hN', hb31, hb31s]; refine hK _ ?_; clear hK)
          iterate 2 (refine wps_cons rfl fun K hK => ?_; simp [hN', hb31, hb31s]; refine hK _ ?_; clear hK)
          iterate 3 (refine wps_off fun K hK => ?_; simp [hN', hb31, hb31s]; refine hK _ ?_; clear hK)
          refine wps_cons rfl fun K hK => ?_; simp [hN', hb31, hb31s]; refine hK _ ?_; clear hK
          refine wps_nil ?_
          cases hj29
          exact hK30 _ () [] trivial (by simp [hN', hb31, hb31s])
        · have hb32s := hb32
          try simp at hb32s
          iterate 5 (refine wps_cons rfl fun K hK => ?_; simp [hN', hb32, hb32s]; refine hK _ ?_; clear hK)
          rcases ite_or hj29 with ⟨hb33, hj29⟩ | ⟨hb34, hj29⟩
          · have hb33s := hb33
            try simp at hb33s
            iterate 3 (refine wps_off fun K hK => ?_; simp [hN', hb32, hb32s, hb33, hb33s]; refine hK _ ?_; clear hK)
            refine wps_cons rfl fun K hK => ?_; simp [hN', hb32, hb32s, hb33, hb33s]; refine hK _ ?_; clear hK
            refine wps_nil ?_
            cases hj29
            exact hK30 _ () [] trivial (by simp [hN', hb32, hb32s, hb33, hb33s])
          · have hb34s := hb34
            try simp at hb34s
            iterate 4 (refine wps_cons rfl fun K hK => ?_; simp [hN', hb32, hb32s, hb34, hb34s]; refine hK _ ?_; clear hK)
            refine wps_nil ?_
            cases hj29
            exact hK30 _ () [] trivial (by simp [hN', hb32, hb32s, hb34, hb34s])
      rcases ite_or h10 with ⟨hb36, h10⟩ | ⟨hb37, h10⟩
      · refine SWp.condT' (b := v35) (by simp) hb36 ?_
        refine SWp.reg rfl (hPB _ rfl) fun K hK => ?_
        iterate 3 (refine wps_cons rfl fun K hK => ?_; simp [hN']; refine hK _ ?_; clear hK)
        obtain ⟨e38, he38, h10⟩ := bind_some h10
        obtain ⟨he38a, he38b, he38c, he38d⟩ := getI_some he38
        have he38j := he38b; try simp at he38j
        try simp only [Int.toNat_natCast] at he38c he38d
        refine wps_cons rfl fun K hK => ?_; simp [hN', he38a, he38b, he38c, he38d, he38j]; refine hK _ ?_; clear hK
        obtain ⟨l39, hl39, h10⟩ := bindS_some h10
        have hl39f : (List.map vb out28).set (IntKind.wrap .i64 (i9 + 1)).toNat (vb true) = List.map vb l39 := set_map (f := vb) hl39
        try simp only [Int.toNat_natCast] at hl39f
        refine wps_cons rfl fun K hK => ?_; simp [hN', he38a, he38b, he38c, he38d, he38j, hl39f]; refine hK _ ?_; clear hK
        refine wps_nil (hK _ ?_); clear hK
        show SWp E C _ _ _
        refine SWp.reg rfl (hPB _ rfl) fun K hK => ?_
        iterate 3 (refine wps_cons rfl fun K hK => ?_; simp [hN']; refine hK _ ?_; clear hK)
        refine wps_nil (hK _ ?_); clear hK
        cases h10
        exact ⟨_, [], rfl, by simp [hN']⟩
      · refine SWp.condF' (b := v35) (by simp) hb37 ?_
        refine SWp.skip ?_
        show SWp E C _ _ _
        refine SWp.reg rfl (hPB _ rfl) fun K hK => ?_
        iterate 3 (refine wps_cons rfl fun K hK => ?_; simp [hN']; refine hK _ ?_; clear hK)
        refine wps_nil (hK _ ?_); clear hK
        cases h10
        exact ⟨_, [], rfl, by simp [hN']⟩
    · refine SWp.condF' (b := decide (i9 < (c1.Words.length : Int))) (by simp) hb14 ?_
      refine SWp.exit ?_
      have h40 := congrArg some (ho11 _ (Option.some.inj h10).symm)
      cases h40
      exact hK6 _ () [] trivial (by simp [hN'])
  refine SWp.seqR rfl (hPB _ rfl) fun K hK => ?_
  iterate 4 (refine wps_cons rfl fun K hK => ?_; simp [hN']; refine hK _ ?_; clear hK)
  obtain ⟨e42, he42, h⟩ := bind_some h
  obtain ⟨he42a, he42b, he42c, he42d⟩ := getI_some he42
  have he42j := he42b; try simp at he42j
  try simp only [Int.toNat_natCast] at he42c he42d
  refine wps_cons rfl fun K hK => ?_; simp [hN', he42a, he42b, he42c, he42d, he42j]; refine hK _ ?_; clear hK
  obtain ⟨l43, hl43, h⟩ := bindS_some h
  have hl43f : (List.map vb out41).set (c1.Words.length : Int).toNat (vb true) = List.map vb l43 := set_map (f := vb) hl43
  try simp only [Int.toNat_natCast] at hl43f
  refine wps_cons rfl fun K hK => ?_; simp [hN', he42a, he42b, he42c, he42d, he42j, hl43f]; refine hK _ ?_; clear hK
  refine wps_nil (hK _ ?_); clear hK
  refine SWp.seqR rfl (hPB _ rfl) fun K hK => ?_
  iterate 2 (refine wps_cons rfl fun K hK => ?_; simp [hN']; refine hK _ ?_; clear hK)
  refine wps_nil (hK _ ?_); clear hK
  cases h
  refine SWp.ret ?_
  simp [thenS, inBlockS, res93]
end Go.Proofs.T
set_option linter.unusedVariables false
set_option linter.unusedSimpArgs false
set_option maxHeartbeats 1000000
namespace Go.Proofs.T
open Go.OM
theorem res125 : Tryd.f125.results.toList = [.tmp 4] := rfl
theorem ent125 : Enters E.P 125 := enters_of Tryd.func125 (by simp [Tryd.f125]) rfl
theorem spec_l11Add_ok (list1 : List Int) (n2 : Int) {r0 : List Int} (h : spec_l11Add list1 n2 = some r0) : Ok E 125 [.val (.sl true 1 (List.map vi list1)), .val (vi n2)] [.sl true 1 (List.map vi r0)] [] := by
  refine ok_of_body (fn := Tryd.f125) Tryd.func125 rfl (by simp [Tryd.f125]) fun C hN hP => ?_
  have hPB : ∀ l, pinK [] l = true → pinB C.pin l = true := pinB_of (by rw [hP]; rfl)
  have hN' : C.N = 23 := hN
  clear hN
  unfold spec_l11Add at h
  refine SWp.seqR rfl (hPB _ rfl) fun K hK => ?_
  refine wps_cons rfl fun K hK => ?_; simp [hN']; refine hK _ ?_; clear hK
  refine wps_nil (hK _ ?_); clear hK
  obtain ⟨j5, hj3, h⟩ := bind_some h
  refine SWp.seqC [0, 1] [] (fun v : Unit => ⟨[(0, .t (.sl true 1 (List.map vi list1))), (1, .t (vi n2))], []⟩) (fun v => j5 = Sum.inl v) (fun v hv => ?_) fun K4 hK4 => ?_
  rotate_left
  · refine SWp.seqR rfl (hPB _ rfl) fun K hK => ?_
    refine wps_cons rfl fun K hK => ?_; simp [hN']; refine hK _ ?_; clear hK
    refine wps_nil (hK _ ?_); clear hK
    refine SWp.block ?_
    refine SWp.loopO [] [0, 1, 5] [] (fun v : Int => ⟨[(0, .t (.sl true 1 (List.map vi list1))), (1, .t (vi n2)), (5, .t (vi v))], []⟩) (spec_l11Add_l1 list1 n2) _ 0 hj3 (by simp [hN']) ?_
    intro g s9 h7 ho8
    obtain ⟨i6, hg⟩ : ∃ y, y = g := ⟨_, rfl⟩
    subst hg
    simp only [spec_l11Add_l1] at h7
    try dsimp only
    refine SWp.seq ?_
    refine SWp.seqR rfl (hPB _ rfl) fun K hK => ?_
    iterate 4 (refine wps_cons rfl fun K hK => ?_; simp [hN']; refine hK _ ?_; clear hK)
    refine wps_nil (hK _ ?_); clear hK
    rcases ite_or h7 with ⟨hb10, h7⟩ | ⟨hb11, h7⟩
    · refine SWp.condT' (b := decide (i6 < (list1.length : Int))) (by simp) hb10 ?_
      refine SWp.skip ?_
      show SWp E C _ _ _
      refine SWp.seq ?_
      refine SWp.block ?_
      refine SWp.seqR rfl (hPB _ rfl) fun K hK => ?_
      iterate 2 (refine wps_cons rfl fun K hK => ?_; simp [hN']; refine hK _ ?_; clear hK)
      obtain ⟨e12, he12, h7⟩ := bind_some h7
      obtain ⟨he12a, he12b, he12c, he12d⟩ := getI_some he12
      iterate 4 (refine wps_cons rfl fun K hK => ?_; simp [hN', he12a, he12b, he12c, he12d]; refine hK _ ?_; clear hK)
      refine wps_nil (hK _ ?_); clear hK
      rcases ite_or h7 with ⟨hb13, h7⟩ | ⟨hb14, h7⟩
      · refine SWp.condT' (b := e12 == n2) (by simp) hb13 ?_
        refine SWp.seqR rfl (hPB _ rfl) fun K hK => ?_
        iterate 2 (refine wps_cons rfl fun K hK => ?_; simp [hN']; refine hK _ ?_; clear hK)
        refine wps_nil (hK _ ?_); clear hK
        have h15 := congrArg some (ho8 _ (Option.some.inj h7).symm)
        cases h15
        try dsimp only at h
        cases h
        refine SWp.ret ?_
        simp [thenS, inBlockS, res125]
      · refine SWp.condF' (b := e12 == n2) (by simp) hb14 ?_
        refine SWp.skip ?_
        show SWp E C _ _ _
        refine SWp.reg rfl (hPB _ rfl) fun K hK => ?_
        iterate 3 (refine wps_cons rfl fun K hK => ?_; simp [hN']; refine hK _ ?_; clear hK)
        refine wps_nil (hK _ ?_); clear hK
        cases h7
        exact ⟨_, [], rfl, by simp [hN']⟩
    · refine SWp.condF' (b := decide (i6 < (list1.length : Int))) (by simp) hb11 ?_
      refine SWp.exit ?_
      have h16 := congrArg some (ho8 _ (Option.some.inj h7).symm)
      cases h16
      exact hK4 _ _ [] rfl (by simp [hN'])
  subst hv
  obtain ⟨⟩ := v
  try dsimp only at h ⊢
  refine SWp.seqR rfl (hPB _ rfl) fun K hK => ?_
  iterate 3 (refine wps_cons rfl fun K hK => ?_; simp [hN']; refine hK _ ?_; clear hK)
  obtain ⟨l17, hl17, h⟩ := bind_some h
  obtain ⟨hl17a, hl17b, hl17d⟩ := appI_some hl17
  have hl17f : List.map vi list1 ++ List.map vi [n2] = List.map vi l17 := app_map (f := vi) hl17d
  simp [eSl] at hl17a hl17b hl17f
  iterate 2 (refine wps_cons rfl fun K hK => ?_; simp [hN', hl17a, hl17b, hl17f]; refine hK _ ?_; clear hK)
  refine wps_nil (hK _ ?_); clear hK
  cases h
  refine SWp.ret ?_
  simp [thenS, inBlockS, res125]
end Go.Proofs.T
set_option linter.unusedVariables false
set_option linter.unusedSimpArgs false
set_option maxHeartbeats 1000000
namespace Go.Proofs.T
open Go.OM
theorem res94 : Tryd.f94.results.toList = [.tmp 4] := rfl
theorem ent94 : Enters E.P 94 := enters_of Tryd.func94 (by simp [Tryd.f94]) rfl
theorem spec_Next_ok (c1 : GCode) (i2 : Int) {r0 : List Int} (h : spec_Next c1 i2 = some r0) : Ok E 94 [.val (GCode.enc false c1), .val (vi i2)] [.sl true 1 (List.map vi r0)] [] := by
  refine ok_of_body (fn := Tryd.f94) Tryd.func94 rfl (by simp [Tryd.f94]) fun C hN hP => ?_
  have hPB : ∀ l, pinK [] l = true → pinB C.pin l = true := pinB_of (by rw [hP]; rfl)
  have hN' : C.N = 65 := hN
  clear hN
  unfold spec_Next at h
  refine SWp.seqR rfl (hPB _ rfl) fun K hK => ?_
  iterate 2 (refine wps_cons rfl fun K hK => ?_; simp [hN']; refine hK _ ?_; clear hK)
  refine wps_nil (hK _ ?_); clear hK
  refine SWp.seqR rfl (hPB _ rfl) fun K hK => ?_
  iterate 2 (refine wps_cons rfl fun K hK => ?_; simp [hN']; refine hK _ ?_; clear hK)
  refine wps_nil (hK _ ?_); clear hK
  refine SWp.seq ?_
  refine SWp.seqR rfl (hPB _ rfl) fun K hK => ?_
  iterate 5 (refine wps_cons rfl fun K hK => ?_; simp [hN']; refine hK _ ?_; clear hK)
  obtain ⟨r3, hc4, h⟩ := bind_some h
  refine wps_call [(.take, .tmp 10), (.take, .const (.int .i64 0)), (.take, .tmp 14)] rfl rfl ent90 (spec_l01In_ok _ _ _ hc4) fun K hK => ?_; simp [hN']; refine hK _ ?_; clear hK
  refine wps_cons rfl fun K hK => ?_; simp [hN']; refine hK _ ?_; clear hK
  refine wps_nil (hK _ ?_); clear hK
  rcases ite_or h with ⟨hb5, h⟩ | ⟨hb6, h⟩
  · refine SWp.condT' (b := !r3) (by simp) hb5 ?_
    refine SWp.seqR rfl (hPB _ rfl) fun K hK => ?_
    iterate 2 (refine wps_cons rfl fun K hK => ?_; simp [hN']; refine hK _ ?_; clear hK)
    refine wps_nil (hK _ ?_); clear hK
    cases h
    refine SWp.ret ?_
    simp [thenS, inBlockS, res94]
  · refine SWp.condF' (b := !r3) (by simp) hb6 ?_
    refine SWp.skip ?_
    show SWp E C _ _ _
    refine SWp.seqR rfl (hPB _ rfl) fun K hK => ?_
    iterate 3 (refine wps_cons rfl fun K hK => ?_; simp [hN']; refine hK _ ?_; clear hK)
    obtain ⟨e7, he7, h⟩ := bind_some h
    obtain ⟨he7a, he7b, he7c, he7d⟩ := getI_some he7
    iterate 4 (refine wps_cons rfl fun K hK => ?_; simp [hN', he7a, he7b, he7c, he7d]; refine hK _ ?_; clear hK)
    refine wps_nil (hK _ ?_); clear hK
    refine SWp.seqR rfl (hPB _ rfl) fun K hK => ?_
    iterate 4 (refine wps_cons rfl fun K hK => ?_; simp [hN']; refine hK _ ?_; clear hK)
    refine wps_nil (hK _ ?_); clear hK
    obtain ⟨list17, hj8, h⟩ := bind_some h
    refine SWp.seqC [2, 5, 7] [2] (fun _ : Unit => ⟨[(2, .ref (.box 2) 0 []), (5, .t (.sl true 1 [])), (7, .t (.sl true 1 (List.map vi list17)))], [(2, [vs c1.Name, vi c1.Params, .sl false 1 (List.map vi c1.Locals), .sl false 7 (List.map (GIns.enc false) c1.Words)])]⟩) (fun _ => True) (fun _ _ => ?_) fun K9 hK9 => ?_
    rotate_left
    · refine SWp.seqR rfl (hPB _ rfl) fun K hK => ?_
      iterate 2 (refine wps_cons rfl fun K hK => ?_; simp [hN']; refine hK _ ?_; clear hK)
      refine wps_nil (hK _ ?_); clear hK
      refine SWp.block ?_
      refine SWp.seqR rfl (hPB _ rfl) fun K hK => ?_
      iterate 2 (refine wps_cons rfl fun K hK => ?_; simp [hN']; refine hK _ ?_; clear hK)
      refine wps_nil (hK _ ?_); clear hK
      rcases ite_or hj8 with ⟨hb11, hj8⟩ | ⟨hb12, hj8⟩
      · refine SWp.condT' (b := e7.Op == 20) (by simp) hb11 ?_
        refine SWp.reg rfl (hPB _ rfl) fun K hK => ?_
        iterate 2 (refine wps_cons rfl fun K hK => ?_; simp [hN']; refine hK _ ?_; clear hK)
        refine wps_nil (hK _ ?_); clear hK
        cases hj8
        exact hK9 _ () [] trivial (by simp [hN'])
      · refine SWp.condF' (b := e7.Op == 20) (by simp) hb12 ?_
        refine SWp.seqR rfl (hPB _ rfl) fun K hK => ?_
        iterate 2 (refine wps_cons rfl fun K hK => ?_; simp [hN']; refine hK _ ?_; clear hK)
        refine wps_nil (hK _ ?_); clear hK
        rcases ite_or hj8 with ⟨hb13, hj8⟩ | ⟨hb14, hj8⟩
        · refine SWp.condT' (b := e7.Op == 18) (by simp) hb13 ?_
          refine SWp.reg rfl (hPB _ rfl) fun K hK => ?_
          iterate 4 (refine wps_cons rfl fun K hK => ?_; simp [hN']; refine hK _ ?_; clear hK)
          refine wps_nil (hK _ ?_); clear hK
          cases hj8
          exact hK9 _ () [] trivial (by simp [hN'])
        · refine SWp.condF' (b := e7.Op == 18) (by simp) hb14 ?_
          refine SWp.seqR rfl (hPB _ rfl) fun K hK => ?_
          iterate 2 (refine wps_cons rfl fun K hK => ?_; simp [hN']; refine hK _ ?_; clear hK)
          refine wps_nil (hK _ ?_); clear hK
          rcases ite_or hj8 with ⟨hb15, hj8⟩ | ⟨hb16, hj8⟩
          · refine SWp.condT' (b := e7.Op == 19) (by simp) hb15 ?_
            refine SWp.reg rfl (hPB _ rfl) fun K hK => ?_
            iterate 6 (refine wps_cons rfl fun K hK => ?_; simp [hN']; refine hK _ ?_; clear hK)
            refine wps_nil (hK _ ?_); clear hK
            cases hj8
            exact hK9 _ () [] trivial (by simp [hN'])
          · refine SWp.condF' (b := e7.Op == 19) (by simp) hb16 ?_
            refine SWp.skip ?_
            cases hj8
            exact hK9 _ () [] trivial (by simp [hN'])
    obtain ⟨out38, hj18, h⟩ := bind_some h
    refine SWp.seqC [5] [] (fun _ : Unit => ⟨[(5, .t (.sl true 1 (List.map vi out38)))], []⟩) (fun _ => True) (fun _ _ => ?_) fun K19 hK19 => ?_
    rotate_left
    · refine SWp.seqR rfl (hPB _ rfl) fun K hK => ?_
      refine wps_cons rfl fun K hK => ?_; simp [hN']; refine hK _ ?_; clear hK
      refine wps_nil (hK _ ?_); clear hK
      refine SWp.block ?_
      refine SWp.loopO [] [2, 5, 7, 8] [2] (fun v : (List Int) × Int => ⟨[(2, .ref (.box 2) 0 []), (5, .t (.sl true 1 (List.map vi v.1))), (7, .t (.sl true 1 (List.map vi list17))), (8, .t (vi v.2))], [(2, [vs c1.Name, vi c1.Params, .sl false 1 (List.map vi c1.Locals), .sl false 7 (List.map (GIns.enc false) c1.Words)])]⟩) (spec_Next_l1 c1 list17) _ ([], 0) hj18 (by simp [hN']) ?_
      intro g s25 h23 ho24
      obtain ⟨out21, k22⟩ := g
      simp only [spec_Next_l1] at h23
      try dsimp only
      refine SWp.seq ?_
      refine SWp.seqR rfl (hPB _ rfl) fun K hK => ?_
      iterate 4 (refine wps_cons rfl fun K hK => ?_; simp [hN']; refine hK _ ?_; clear hK)
      refine wps_nil (hK _ ?_); clear hK
      rcases ite_or h23 with ⟨hb26, h23⟩ | ⟨hb27, h23⟩
      · refine SWp.condT' (b := decide (k22 < (list17.length : Int))) (by simp) hb26 ?_
        refine SWp.skip ?_
        show SWp E C _ _ _
        refine SWp.seq ?_
        refine SWp.block ?_
        refine SWp.seq ?_
        obtain ⟨e29, he29, h23⟩ := bind_some h23
        obtain ⟨he29a, he29b, he29c, he29d⟩ := getI_some he29
        refine SWp.drawT rfl (hPB _ rfl) [(49, .al (.slot 7) 0 [] none), (50, .t (vi k22)), (51, .ref (.slot 7) 0 [(k22.toNat, 0)]), (52, .t (vi e29)), (53, .ref (.box 2) 3 []), (54, .t (.sl false 7 (List.map (GIns.enc false) c1.Words))), (55, .t (vi (c1.Words.length : Int))), (56, .t (vi (IntKind.wrap .i64 ((c1.Words.length : Int) - 1))))] [[], [], [0, 1], [0, 1, 2], [], [4], [4, 5], [4, 5, 6], [0, 1, 2, 3, 4, 5, 6, 7]] (by simp) (by simp) (by simp [look]) rfl rfl rfl ?_ fun K hK => ?_
        · refine ⟨?_, ?_, ?_, ?_, ?_, ?_, ?_, ?_, trivial⟩
          all_goals (intro τ hbx hb hd hf K hK; try simp [vsAt] at hd; simp [vsAt] at hf; first | (refine wps_cons rfl fun K' hK' => ?_; simp [hN', hbx, hb, hd, hf, he29a, he29b, he29c, he29d]; exact hK' _ (wps_nil (hK _ (by simp [vsAt, hbx, he29a, he29b, he29c, he29d])))))
        obtain ⟨r30, hc31, h23⟩ := bind_some h23
        refine wps_call [(.take, .tmp 52), (.take, .const (.int .i64 0)), (.take, .tmp 56)] rfl rfl ent90 (spec_l01In_ok _ _ _ hc31) fun K hK => ?_; simp [hN', he29a, he29b, he29c, he29d]; refine hK _ ?_; clear hK
        refine wps_nil (hK _ ?_); clear hK
        show SWp E C _ _ _
        rcases ite_or h23 with ⟨hb32, h23⟩ | ⟨hb33, h23⟩
        · refine SWp.condT' (b := r30) (by simp) hb32 ?_
          refine SWp.reg rfl (hPB _ rfl) fun K hK => ?_
          iterate 3 (refine wps_cons rfl fun K hK => ?_; simp [hN']; refine hK _ ?_; clear hK)
          obtain ⟨e34, he34, h23⟩ := bind_some h23
          obtain ⟨he34a, he34b, he34c, he34d⟩ := getI_some he34
          iterate 2 (refine wps_cons rfl fun K hK => ?_; simp [hN', he34a, he34b, he34c, he34d]; refine hK _ ?_; clear hK)
          obtain ⟨r35, hc36, h23⟩ := bind_some h23
          refine wps_call [(.take, .tmp 58), (.take, .tmp 62)] rfl rfl ent125 (spec_l11Add_ok _ _ hc36) fun K hK => ?_; simp [hN', he34a, he34b, he34c, he34d]; refine hK _ ?_; clear hK
          refine wps_cons rfl fun K hK => ?_; simp [hN', he34a, he34b, he34c, he34d]; refine hK _ ?_; clear hK
          refine wps_nil (hK _ ?_); clear hK
          show SWp E C _ _ _
          refine SWp.reg rfl (hPB _ rfl) fun K hK => ?_
          iterate 3 (refine wps_cons rfl fun K hK => ?_; simp [hN']; refine hK _ ?_; clear hK)
          refine wps_nil (hK _ ?_); clear hK
          cases h23
          exact ⟨_, [], rfl, by simp [hN']⟩
        · refine SWp.condF' (b := r30) (by simp) hb33 ?_
          refine SWp.skip ?_
          show SWp E C _ _ _
          refine SWp.reg rfl (hPB _ rfl) fun K hK => ?_
          iterate 3 (refine wps_cons rfl fun K hK => ?_; simp [hN']; refine hK _ ?_; clear hK)
          refine wps_nil (hK _ ?_); clear hK
          cases h23
          exact ⟨_, [], rfl, by simp [hN']⟩
      · refine SWp.condF' (b := decide (k22 < (list17.length : Int))) (by simp) hb27 ?_
        refine SWp.exit ?_
        have h37 := congrArg some (ho24 _ (Option.some.inj h23).symm)
        cases h37
        exact hK19 _ () [] trivial (by simp [hN'])
    refine SWp.seqR rfl (hPB _ rfl) fun K hK => ?_
    iterate 2 (refine wps_cons rfl fun K hK => ?_; simp [hN']; refine hK _ ?_; clear hK)
    refine wps_nil (hK _ ?_); clear hK
    cases h
    refine SWp.ret ?_
    simp [thenS, inBlockS, res94]
end Go.Proofs.T
set_option linter.unusedVariables false
set_option linter.unusedSimpArgs false
set_option maxHeartbeats 1000000
namespace Go.Proofs.T
open Go.OM
theorem res95 : Tryd.f95.results.toList = [.tmp 4] := rfl
theorem ent95 : Enters E.P 95 := enters_of Tryd.func95 (by simp [Tryd.f95]) rfl
theorem spec_BlockAt_ok (list1 : List GBlock) (i2 : Int) {r0 : Int} (h : spec_BlockAt list1 i2 = some r0) : Ok E 95 [.val (.sl false 3 (List.map (GBlock.enc false) list1)), .val (vi i2)] [vi r0] [] := by
  refine ok_of_body (fn := Tryd.f95) Tryd.func95 rfl (by simp [Tryd.f95]) fun C hN hP => ?_
  have hPB : ∀ l, pinK [] l = true → pinB C.pin l = true := pinB_of (by rw [hP]; rfl)
  have hN' : C.N = 29 := hN
  clear hN
  unfold spec_BlockAt at h
  refine SWp.seqR rfl (hPB _ rfl) fun K hK => ?_
  refine wps_cons rfl fun K hK => ?_; simp [hN']; refine hK _ ?_; clear hK
  refine wps_nil (hK _ ?_); clear hK
  obtain ⟨j5, hj3, h⟩ := bind_some h
  refine SWp.seqC [] [] (fun v : Unit => ⟨[], []⟩) (fun v => j5 = Sum.inl v) (fun v hv => ?_) fun K4 hK4 => ?_
  rotate_left
  · refine SWp.seqR rfl (hPB _ rfl) fun K hK => ?_
    refine wps_cons rfl fun K hK => ?_; simp [hN']; refine hK _ ?_; clear hK
    refine wps_nil (hK _ ?_); clear hK
    refine SWp.block ?_
    refine SWp.loopO [] [0, 1, 5] [] (fun v : Int => ⟨[(0, .t (.sl false 3 (List.map (GBlock.enc false) list1))), (1, .t (vi i2)), (5, .t (vi v))], []⟩) (spec_BlockAt_l1 list1 i2) _ 0 hj3 (by simp [hN']) ?_
    intro g s9 h7 ho8
    obtain ⟨k6, hg⟩ : ∃ y, y = g := ⟨_, rfl⟩
    subst hg
    simp only [spec_BlockAt_l1] at h7
    try dsimp only
    refine SWp.seq ?_
    refine SWp.seqR rfl (hPB _ rfl) fun K hK => ?_
    iterate 4 (refine wps_cons rfl fun K hK => ?_; simp [hN']; refine hK _ ?_; clear hK)
    refine wps_nil (hK _ ?_); clear hK
    rcases ite_or h7 with ⟨hb10, h7⟩ | ⟨hb11, h7⟩
    · refine SWp.condT' (b := decide (k6 < (list1.length : Int))) (by simp) hb10 ?_
      refine SWp.skip ?_
      show SWp E C _ _ _
      refine SWp.seq ?_
      refine SWp.block ?_
      obtain ⟨v17, hj12, h7⟩ := bind_some h7
      refine SWp.seqRC rfl (hPB _ rfl) [0, 1, 5, 27] [] (fun _ : Unit => ⟨[(0, .t (.sl false 3 (List.map (GBlock.enc false) list1))), (1, .t (vi i2)), (5, .t (vi k6)), (27, .t (vb v17))], []⟩) (fun _ => True) (fun _ _ => ?_) fun K13 hK13 => ?_
      rotate_left
      · refine wps_cons rfl fun K hK => ?_; simp [hN']; refine hK _ ?_; clear hK
        refine wps_cons rfl fun K hK => ?_; simp [hN']; refine hK _ ?_; clear hK
        obtain ⟨e14, he14, hj12⟩ := bind_some hj12
        obtain ⟨he14a, he14b, he14c, he14d⟩ := getI_some he14
        iterate 6 (refine wps_cons rfl fun K hK => ?_; simp [hN', he14a, he14b, he14c, he14d]; refine hK _ ?_; clear hK)
        rcases ite_or hj12 with ⟨hb15, hj12⟩ | ⟨hb16, hj12⟩
        · have hb15s := hb15
          try simp at hb15s
          iterate 8 (refine wps_cons rfl fun K hK => ?_; simp [hN', he14a, he14b, he14c, he14d, hb15, hb15s]; refine hK _ ?_; clear hK)
          refine wps_nil ?_
          cases hj12
          exact hK13 _ () [] trivial (by simp [hN', he14a, he14b, he14c, he14d, hb15, hb15s])
        · have hb16s := hb16
          try simp at hb16s
          iterate 7 (refine wps_off fun K hK => ?_; simp [hN', he14a, he14b, he14c, he14d, hb16, hb16s]; refine hK _ ?_; clear hK)
          refine wps_cons rfl fun K hK => ?_; simp [hN', he14a, he14b, he14c, he14d, hb16, hb16s]; refine hK _ ?_; clear hK
          refine wps_nil ?_
          cases hj12
          exact hK13 _ () [] trivial (by simp [hN', he14a, he14b, he14c, he14d, hb16, hb16s])
      rcases ite_or h7 with ⟨hb18, h7⟩ | ⟨hb19, h7⟩
      · refine SWp.condT' (b := v17) (by simp) hb18 ?_
        refine SWp.seqR rfl (hPB _ rfl) fun K hK => ?_
        iterate 2 (refine wps_cons rfl fun K hK => ?_; simp [hN']; refine hK _ ?_; clear hK)
        refine wps_nil (hK _ ?_); clear hK
        have h20 := congrArg some (ho8 _ (Option.some.inj h7).symm)
        cases h20
        try dsimp only at h
        cases h
        refine SWp.ret ?_
        simp [thenS, inBlockS, res95]
      · refine SWp.condF' (b := v17) (by simp) hb19 ?_
        refine SWp.skip ?_
        show SWp E C _ _ _
        refine SWp.reg rfl (hPB _ rfl) fun K hK => ?_
        iterate 3 (refine wps_cons rfl fun K hK => ?_; simp [hN']; refine hK _ ?_; clear hK)
        refine wps_nil (hK _ ?_); clear hK
        cases h7
        exact ⟨_, [], rfl, by simp [hN']⟩
    · refine SWp.condF' (b := decide (k6 < (list1.length : Int))) (by simp) hb11 ?_
      refine SWp.exit ?_
      have h21 := congrArg some (ho8 _ (Option.some.inj h7).symm)
      cases h21
      exact hK4 _ _ [] rfl (by simp [hN'])
  subst hv
  obtain ⟨⟩ := v
  try dsimp only at h ⊢
  refine SWp.seqR rfl (hPB _ rfl) fun K hK => ?_
  refine wps_cons rfl fun K hK => ?_; simp [hN']; refine hK _ ?_; clear hK
  refine wps_nil (hK _ ?_); clear hK
  cases h
  refine SWp.ret ?_
  simp [thenS, inBlockS, res95]
end Go.Proofs.T
set_option linter.unusedVariables false
set_option linter.unusedSimpArgs false
set_option maxHeartbeats 1000000
namespace Go.Proofs.T
open Go.OM
theorem res46 : Tryd.f46.results.toList = [.tmp 2] := rfl
theorem ent46 : Enters E.P 46 := enters_of Tryd.func46 (by simp [Tryd.f46]) rfl
theorem spec_BlocksOf_ok (c1 : GCode) {r0 : List GBlock} (h : spec_BlocksOf c1 = some r0) : Ok E 46 [.val (GCode.enc false c1)] [.sl true 3 (List.map (GBlock.enc true) r0)] [] := by
  refine ok_of_body (fn := Tryd.f46) Tryd.func46 rfl (by simp [Tryd.f46]) fun C hN hP => ?_
  have hPB : ∀ l, pinK [] l = true → pinB C.pin l = true := pinB_of (by rw [hP]; rfl)
  have hN' : C.N = 90 := hN
  clear hN
  unfold spec_BlocksOf at h
  refine SWp.seqR rfl (hPB _ rfl) fun K hK => ?_
  iterate 2 (refine wps_cons rfl fun K hK => ?_; simp [hN']; refine hK _ ?_; clear hK)
  refine wps_nil (hK _ ?_); clear hK
  refine SWp.seqR rfl (hPB _ rfl) fun K hK => ?_
  iterate 2 (refine wps_cons rfl fun K hK => ?_; simp [hN']; refine hK _ ?_; clear hK)
  refine wps_nil (hK _ ?_); clear hK
  refine SWp.seq ?_
  refine SWp.seqR rfl (hPB _ rfl) fun K hK => ?_
  refine wps_cons rfl fun K hK => ?_; simp [hN']; refine hK _ ?_; clear hK
  obtain ⟨r2, hc3, h⟩ := bind_some h
  refine wps_call [(.take, .tmp 13)] rfl rfl ent75 (spec_CodeOk_ok _ hc3) fun K hK => ?_; simp [hN']; refine hK _ ?_; clear hK
  refine wps_cons rfl fun K hK => ?_; simp [hN']; refine hK _ ?_; clear hK
  refine wps_nil (hK _ ?_); clear hK
  rcases ite_or h with ⟨hb4, h⟩ | ⟨hb5, h⟩
  · refine SWp.condT' (b := !r2) (by simp) hb4 ?_
    refine SWp.seqR rfl (hPB _ rfl) fun K hK => ?_
    iterate 2 (refine wps_cons rfl fun K hK => ?_; simp [hN']; refine hK _ ?_; clear hK)
    refine wps_nil (hK _ ?_); clear hK
    cases h
    refine SWp.ret ?_
    simp [thenS, inBlockS, res46]
  · refine SWp.condF' (b := !r2) (by simp) hb5 ?_
    refine SWp.skip ?_
    show SWp E C _ _ _
    refine SWp.seqR rfl (hPB _ rfl) fun K hK => ?_
    refine wps_cons rfl fun K hK => ?_; simp [hN']; refine hK _ ?_; clear hK
    obtain ⟨r6, hc7, h⟩ := bind_some h
    refine wps_call [(.take, .tmp 17)] rfl rfl ent93 (spec_l29Heads_ok _ hc7) fun K hK => ?_; simp [hN']; refine hK _ ?_; clear hK
    refine wps_cons rfl fun K hK => ?_; simp [hN']; refine hK _ ?_; clear hK
    refine wps_nil (hK _ ?_); clear hK
    refine SWp.seqR rfl (hPB _ rfl) fun K hK => ?_
    refine wps_cons rfl fun K hK => ?_; simp [hN']; refine hK _ ?_; clear hK
    refine wps_nil (hK _ ?_); clear hK
    obtain ⟨out24, hj8, h⟩ := bind_some h
    refine SWp.seqC [1, 3] [1] (fun _ : Unit => ⟨[(1, .ref (.box 1) 0 []), (3, .t (.sl true 3 (List.map (GBlock.enc true) out24)))], [(1, [vs c1.Name, vi c1.Params, .sl false 1 (List.map vi c1.Locals), .sl false 7 (List.map (GIns.enc false) c1.Words)])]⟩) (fun _ => True) (fun _ _ => ?_) fun K9 hK9 => ?_
    rotate_left
    · refine SWp.seqR rfl (hPB _ rfl) fun K hK => ?_
      refine wps_cons rfl fun K hK => ?_; simp [hN']; refine hK _ ?_; clear hK
      refine wps_nil (hK _ ?_); clear hK
      refine SWp.block ?_
      refine SWp.loopO [] [1, 3, 4, 5, 6] [1] (fun v : (List GBlock) × Int × Int => ⟨[(1, .ref (.box 1) 0 []), (3, .t (.sl true 3 (List.map (GBlock.enc true) v.1))), (4, .t (.sl true 1 (List.map vb r6))), (5, .t (vi v.2.1)), (6, .t (vi v.2.2))], [(1, [vs c1.Name, vi c1.Params, .sl false 1 (List.map vi c1.Locals), .sl false 7 (List.map (GIns.enc false) c1.Words)])]⟩) (spec_BlocksOf_l1 r6) _ ([], 0, 1) hj8 (by simp [hN']) ?_
      intro g s16 h14 ho15
      obtain ⟨out11, from12, i13⟩ := g
      simp only [spec_BlocksOf_l1] at h14
      try dsimp only
      refine SWp.seq ?_
      refine SWp.seqR rfl (hPB _ rfl) fun K hK => ?_
      iterate 4 (refine wps_cons rfl fun K hK => ?_; simp [hN']; refine hK _ ?_; clear hK)
      refine wps_nil (hK _ ?_); clear hK
      rcases ite_or h14 with ⟨hb17, h14⟩ | ⟨hb18, h14⟩
      · refine SWp.condT' (b := decide (i13 < (r6.length : Int))) (by simp) hb17 ?_
        refine SWp.skip ?_
        show SWp E C _ _ _
        refine SWp.seq ?_
        refine SWp.block ?_
        refine SWp.seqR rfl (hPB _ rfl) fun K hK => ?_
        iterate 2 (refine wps_cons rfl fun K hK => ?_; simp [hN']; refine hK _ ?_; clear hK)
        obtain ⟨e19, he19, h14⟩ := bind_some h14
        obtain ⟨he19a, he19b, he19c, he19d⟩ := getI_some he19
        iterate 2 (refine wps_cons rfl fun K hK => ?_; simp [hN', he19a, he19b, he19c, he19d]; refine hK _ ?_; clear hK)
        refine wps_nil (hK _ ?_); clear hK
        rcases ite_or h14 with ⟨hb20, h14⟩ | ⟨hb21, h14⟩
        · refine SWp.condT' (b := e19) (by simp) hb20 ?_
          refine SWp.seqR rfl (hPB _ rfl) fun K hK => ?_
          iterate 5 (refine wps_cons rfl fun K hK => ?_; simp [hN']; refine hK _ ?_; clear hK)
          obtain ⟨l22, hl22, h14⟩ := bind_some h14
          obtain ⟨hl22a, hl22b, hl22d⟩ := appI_some hl22
          have hl22f : List.map (GBlock.enc true) out11 ++ List.map (GBlock.enc true) [(⟨from12, i13, []⟩ : GBlock)] = List.map (GBlock.enc true) l22 := app_map (f := (GBlock.enc true)) hl22d
          simp [eSl, GBlock.enc] at hl22a hl22b hl22f
          iterate 2 (refine wps_cons rfl fun K hK => ?_; simp [hN', hl22a, hl22b, hl22f]; refine hK _ ?_; clear hK)
          refine wps_nil (hK _ ?_); clear hK
          refine SWp.reg rfl (hPB _ rfl) fun K hK => ?_
          iterate 2 (refine wps_cons rfl fun K hK => ?_; simp [hN']; refine hK _ ?_; clear hK)
          refine wps_nil (hK _ ?_); clear hK
          show SWp E C _ _ _
          refine SWp.reg rfl (hPB _ rfl) fun K hK => ?_
          iterate 3 (refine wps_cons rfl fun K hK => ?_; simp [hN']; refine hK _ ?_; clear hK)
          refine wps_nil (hK _ ?_); clear hK
          cases h14
          exact ⟨_, [], rfl, by simp [hN']⟩
        · refine SWp.condF' (b := e19) (by simp) hb21 ?_
          refine SWp.skip ?_
          show SWp E C _ _ _
          refine SWp.reg rfl (hPB _ rfl) fun K hK => ?_
          iterate 3 (refine wps_cons rfl fun K hK => ?_; simp [hN']; refine hK _ ?_; clear hK)
          refine wps_nil (hK _ ?_); clear hK
          cases h14
          exact ⟨_, [], rfl, by simp [hN']⟩
      · refine SWp.condF' (b := decide (i13 < (r6.length : Int))) (by simp) hb18 ?_
        refine SWp.exit ?_
        have h23 := congrArg some (ho15 _ (Option.some.inj h14).symm)
        cases h23
        exact hK9 _ () [] trivial (by simp [hN'])
    obtain ⟨out76, hj25, h⟩ := bind_some h
    refine SWp.seqC [3] [] (fun _ : Unit => ⟨[(3, .t (.sl true 3 (List.map (GBlock.enc true) out76)))], []⟩) (fun _ => True) (fun _ _ => ?_) fun K26 hK26 => ?_
    rotate_left
    · refine SWp.seqR rfl (hPB _ rfl) fun K hK => ?_
      refine wps_cons rfl fun K hK => ?_; simp [hN']; refine hK _ ?_; clear hK
      refine wps_nil (hK _ ?_); clear hK
      refine SWp.block ?_
      refine SWp.loopO [] [1, 3, 7] [1] (fun v : (List GBlock) × Int => ⟨[(1, .ref (.box 1) 0 []), (3, .t (.sl true 3 (List.map (GBlock.enc true) v.1))), (7, .t (vi v.2))], [(1, [vs c1.Name, vi c1.Params, .sl false 1 (List.map vi c1.Locals), .sl false 7 (List.map (GIns.enc false) c1.Words)])]⟩) (spec_BlocksOf_l2 c1) _ (out24, 0) hj25 (by simp [hN']) ?_
      intro g s32 h30 ho31
      obtain ⟨out28, k29⟩ := g
      simp only [spec_BlocksOf_l2] at h30
      try dsimp only
      refine SWp.seq ?_
      refine SWp.seqR rfl (hPB _ rfl) fun K hK => ?_
      iterate 4 (refine wps_cons rfl fun K hK => ?_; simp [hN']; refine hK _ ?_; clear hK)
      refine wps_nil (hK _ ?_); clear hK
      rcases ite_or h30 with ⟨hb33, h30⟩ | ⟨hb34, h30⟩
      · refine SWp.condT' (b := decide (k29 < (out28.length : Int))) (by simp) hb33 ?_
        refine SWp.skip ?_
        show SWp E C _ _ _
        obtain ⟨out74, hj35, h30⟩ := bind_some h30
        refine SWp.seqC [1, 3, 7] [1] (fun _ : Unit => ⟨[(1, .ref (.box 1) 0 []), (3, .t (.sl true 3 (List.map (GBlock.enc true) out74))), (7, .t (vi k29))], [(1, [vs c1.Name, vi c1.Params, .sl false 1 (List.map vi c1.Locals), .sl false 7 (List.map (GIns.enc false) c1.Words)])]⟩) (fun _ => True) (fun _ _ => ?_) fun K36 hK36 => ?_
        rotate_left
        · refine SWp.block ?_
          refine SWp.seq ?_
          obtain ⟨e39, he39, hj35⟩ := bind_some hj35
          obtain ⟨he39a, he39b, he39c, he39d⟩ := getI_some he39
          refine SWp.drawT rfl (hPB _ rfl) [(42, .t (GCode.enc false c1)), (43, .al (.slot 3) 0 [] none), (44, .t (vi k29)), (45, .ref (.slot 3) 0 [(k29.toNat, 0)]), (46, .ref (.slot 3) 0 [(k29.toNat, 1)]), (47, .t (vi e39.To)), (48, .t (vi (IntKind.wrap .i64 (e39.To - 1))))] [[], [], [], [1, 2], [1, 2, 3], [1, 2, 3, 4], [1, 2, 3, 4, 5], [0, 1, 2, 3, 4, 5, 6], [0, 1, 2, 3, 4, 5, 6, 7]] (by simp) (by simp) (by simp [look]) rfl rfl rfl ?_ fun K hK => ?_
          · refine ⟨?_, ?_, ?_, ?_, ?_, ?_, ?_, trivial⟩
            all_goals (intro τ hbx hb hd hf K hK; try simp [vsAt] at hd; simp [vsAt] at hf; first | (refine wps_cons rfl fun K' hK' => ?_; simp [hN', hbx, hb, hd, hf, he39a, he39b, he39c, he39d]; exact hK' _ (wps_nil (hK _ (by simp [vsAt, hbx, he39a, he39b, he39c, he39d])))))
          obtain ⟨r40, hc41, hj35⟩ := bind_some hj35
          refine wps_call [(.take, .tmp 42), (.take, .tmp 48)] rfl rfl ent94 (spec_Next_ok _ _ hc41) fun K hK => ?_; simp [hN', he39a, he39b, he39c, he39d]; refine hK _ ?_; clear hK
          refine wps_cons rfl fun K hK => ?_; simp [hN', he39a, he39b, he39c, he39d]; refine hK _ ?_; clear hK
          refine wps_nil (hK _ ?_); clear hK
          show SWp E C _ _ _
          refine SWp.seqR rfl (hPB _ rfl) fun K hK => ?_
          iterate 2 (refine wps_cons rfl fun K hK => ?_; simp [hN']; refine hK _ ?_; clear hK)
          obtain ⟨l42, hl42, hj35⟩ := bind_some hj35
          obtain ⟨hl42a, hl42b, hl42c, hl42d⟩ := mkI_some hl42
          have hl42f : List.replicate (out28.length : Int).toNat (vb false) = List.map vb l42 := rep_map (f := vb) hl42d
          try simp only [Int.toNat_natCast] at hl42f
          iterate 2 (refine wps_cons rfl fun K hK => ?_; simp [hN', hl42a, hl42b, hl42c, hl42f]; refine hK _ ?_; clear hK)
          refine wps_nil (hK _ ?_); clear hK
          obtain ⟨has59, hj43, hj35⟩ := bind_some hj35
          refine SWp.seqC [1, 3, 7, 9] [1] (fun _ : Unit => ⟨[(1, .ref (.box 1) 0 []), (3, .t (.sl true 3 (List.map (GBlock.enc true) out28))), (7, .t (vi k29)), (9, .t (.sl true 1 (List.map vb has59)))], [(1, [vs c1.Name, vi c1.Params, .sl false 1 (List.map vi c1.Locals), .sl false 7 (List.map (GIns.enc false) c1.Words)])]⟩) (fun _ => True) (fun _ _ => ?_) fun K44 hK44 => ?_
          rotate_left
          · refine SWp.seqR rfl (hPB _ rfl) fun K hK => ?_
            refine wps_cons rfl fun K hK => ?_; simp [hN']; refine hK _ ?_; clear hK
            refine wps_nil (hK _ ?_); clear hK
            refine SWp.block ?_
            refine SWp.loopO [] [1, 3, 7, 8, 9, 10] [1] (fun v : (List Bool) × Int => ⟨[(1, .ref (.box 1) 0 []), (3, .t (.sl true 3 (List.map (GBlock.enc true) out28))), (7, .t (vi k29)), (8, .t (.sl true 1 (List.map vi r40))), (9, .t (.sl true 1 (List.map vb v.1))), (10, .t (vi v.2))], [(1, [vs c1.Name, vi c1.Params, .sl false 1 (List.map vi c1.Locals), .sl false 7 (List.map (GIns.enc false) c1.Words)])]⟩) (spec_BlocksOf_l3 out28 r40) _ (l42, 0) hj43 (by simp [hN']) ?_
            intro g s50 h48 ho49
            obtain ⟨has46, i47⟩ := g
            simp only [spec_BlocksOf_l3] at h48
            try dsimp only
            refine SWp.seq ?_
            refine SWp.seqR rfl (hPB _ rfl) fun K hK => ?_
            iterate 4 (refine wps_cons rfl fun K hK => ?_; simp [hN']; refine hK _ ?_; clear hK)
            refine wps_nil (hK _ ?_); clear hK
            rcases ite_or h48 with ⟨hb51, h48⟩ | ⟨hb52, h48⟩
            · refine SWp.condT' (b := decide (i47 < (r40.length : Int))) (by simp) hb51 ?_
              refine SWp.skip ?_
              show SWp E C _ _ _
              refine SWp.seq ?_
              refine SWp.block ?_
              refine SWp.reg rfl (hPB _ rfl) fun K hK => ?_
              iterate 4 (refine wps_cons rfl fun K hK => ?_; simp [hN']; refine hK _ ?_; clear hK)
              obtain ⟨e53, he53, h48⟩ := bind_some h48
              obtain ⟨he53a, he53b, he53c, he53d⟩ := getI_some he53
              iterate 2 (refine wps_cons rfl fun K hK => ?_; simp [hN', he53a, he53b, he53c, he53d]; refine hK _ ?_; clear hK)
              obtain ⟨r54, hc55, h48⟩ := bind_some h48
              refine wps_call [(.bor, .tmp 60), (.take, .tmp 64)] rfl rfl ent95 (spec_BlockAt_ok _ _ hc55) fun K hK => ?_; simp [hN', he53a, he53b, he53c, he53d]; refine hK _ ?_; clear hK
              obtain ⟨e56, he56, h48⟩ := bind_some h48
              obtain ⟨he56a, he56b, he56c, he56d⟩ := getI_some he56
              refine wps_cons rfl fun K hK => ?_; simp [hN', he53a, he53b, he53c, he53d, he56a, he56b, he56c, he56d]; refine hK _ ?_; clear hK
              obtain ⟨l57, hl57, h48⟩ := bindS_some h48
              have hl57f : (List.map vb has46).set r54.toNat (vb true) = List.map vb l57 := set_map (f := vb) hl57
              try simp only [Int.toNat_natCast] at hl57f
              refine wps_cons rfl fun K hK => ?_; simp [hN', he53a, he53b, he53c, he53d, he56a, he56b, he56c, he56d, hl57f]; refine hK _ ?_; clear hK
              refine wps_nil (hK _ ?_); clear hK
              show SWp E C _ _ _
              refine SWp.reg rfl (hPB _ rfl) fun K hK => ?_
              iterate 3 (refine wps_cons rfl fun K hK => ?_; simp [hN']; refine hK _ ?_; clear hK)
              refine wps_nil (hK _ ?_); clear hK
              cases h48
              exact ⟨_, [], rfl, by simp [hN']⟩
            · refine SWp.condF' (b := decide (i47 < (r40.length : Int))) (by simp) hb52 ?_
              refine SWp.exit ?_
              have h58 := congrArg some (ho49 _ (Option.some.inj h48).symm)
              cases h58
              exact hK44 _ () [] trivial (by simp [hN'])
          refine SWp.seqR rfl (hPB _ rfl) fun K hK => ?_
          refine wps_cons rfl fun K hK => ?_; simp [hN']; refine hK _ ?_; clear hK
          refine wps_nil (hK _ ?_); clear hK
          refine SWp.block ?_
          refine SWp.loopO [] [1, 3, 7, 9, 11] [1] (fun v : (List GBlock) × Int => ⟨[(1, .ref (.box 1) 0 []), (3, .t (.sl true 3 (List.map (GBlock.enc true) v.1))), (7, .t (vi k29)), (9, .t (.sl true 1 (List.map vb has59))), (11, .t (vi v.2))], [(1, [vs c1.Name, vi c1.Params, .sl false 1 (List.map vi c1.Locals), .sl false 7 (List.map (GIns.enc false) c1.Words)])]⟩) (spec_BlocksOf_l4 k29 has59) _ (out28, 0) hj35 (by simp [hN']) ?_
          intro g s64 h62 ho63
          obtain ⟨out60, i61⟩ := g
          simp only [spec_BlocksOf_l4] at h62
          try dsimp only
          refine SWp.seq ?_
          refine SWp.seqR rfl (hPB _ rfl) fun K hK => ?_
          iterate 4 (refine wps_cons rfl fun K hK => ?_; simp [hN']; refine hK _ ?_; clear hK)
          refine wps_nil (hK _ ?_); clear hK
          rcases ite_or h62 with ⟨hb65, h62⟩ | ⟨hb66, h62⟩
          · refine SWp.condT' (b := decide (i61 < (has59.length : Int))) (by simp) hb65 ?_
            refine SWp.skip ?_
            show SWp E C _ _ _
            refine SWp.seq ?_
            refine SWp.block ?_
            refine SWp.seqR rfl (hPB _ rfl) fun K hK => ?_
            iterate 2 (refine wps_cons rfl fun K hK => ?_; simp [hN']; refine hK _ ?_; clear hK)
            obtain ⟨e67, he67, h62⟩ := bind_some h62
            obtain ⟨he67a, he67b, he67c, he67d⟩ := getI_some he67
            iterate 2 (refine wps_cons rfl fun K hK => ?_; simp [hN', he67a, he67b, he67c, he67d]; refine hK _ ?_; clear hK)
            refine wps_nil (hK _ ?_); clear hK
            rcases ite_or h62 with ⟨hb68, h62⟩ | ⟨hb69, h62⟩
            · refine SWp.condT' (b := e67) (by simp) hb68 ?_
              refine SWp.reg rfl (hPB _ rfl) fun K hK => ?_
              iterate 4 (refine wps_cons rfl fun K hK => ?_; simp [hN']; refine hK _ ?_; clear hK)
              obtain ⟨e70, he70, h62⟩ := bind_some h62
              obtain ⟨he70a, he70b, he70c, he70d⟩ := getI_some he70
              iterate 5 (refine wps_cons rfl fun K hK => ?_; simp [hN', he70a, he70b, he70c, he70d]; refine hK _ ?_; clear hK)
              obtain ⟨l71, hl71, h62⟩ := bind_some h62
              obtain ⟨hl71a, hl71b, hl71d⟩ := appI_some hl71
              have hl71f : List.map vi e70.Next ++ List.map vi [i61] = List.map vi l71 := app_map (f := vi) hl71d
              simp [eSl] at hl71a hl71b hl71f
              iterate 3 (refine wps_cons rfl fun K hK => ?_; simp [hN', he70a, he70b, he70c, he70d, hl71a, hl71b, hl71f]; refine hK _ ?_; clear hK)
              obtain ⟨l72, hl72, h62⟩ := bindS_some h62
              have hl72f : (List.map (GBlock.enc true) out60).set k29.toNat (.agg [vi e70.From, vi e70.To, .sl true 1 (List.map vi l71)]) = List.map (GBlock.enc true) l72 := set_map (f := (GBlock.enc true)) hl72
              try simp only [Int.toNat_natCast] at hl72f
              refine wps_cons rfl fun K hK => ?_; simp [hN', he70a, he70b, he70c, he70d, hl71a, hl71b, hl71f, hl72f]; refine hK _ ?_; clear hK
              refine wps_nil (hK _ ?_); clear hK
              show SWp E C _ _ _
              refine SWp.reg rfl (hPB _ rfl) fun K hK => ?_
              iterate 3 (refine wps_cons rfl fun K hK => ?_; simp [hN']; refine hK _ ?_; clear hK)
              refine wps_nil (hK _ ?_); clear hK
              cases h62
              exact ⟨_, [], rfl, by simp [hN']⟩
            · refine SWp.condF' (b := e67) (by simp) hb69 ?_
              refine SWp.skip ?_
              show SWp E C _ _ _
              refine SWp.reg rfl (hPB _ rfl) fun K hK => ?_
              iterate 3 (refine wps_cons rfl fun K hK => ?_; simp [hN']; refine hK _ ?_; clear hK)
              refine wps_nil (hK _ ?_); clear hK
              cases h62
              exact ⟨_, [], rfl, by simp [hN']⟩
          · refine SWp.condF' (b := decide (i61 < (has59.length : Int))) (by simp) hb66 ?_
            refine SWp.exit ?_
            have h73 := congrArg some (ho63 _ (Option.some.inj h62).symm)
            cases h73
            exact hK36 _ () [] trivial (by simp [hN'])
        refine SWp.reg rfl (hPB _ rfl) fun K hK => ?_
        iterate 3 (refine wps_cons rfl fun K hK => ?_; simp [hN']; refine hK _ ?_; clear hK)
        refine wps_nil (hK _ ?_); clear hK
        cases h30
        exact ⟨_, [], rfl, by simp [hN']⟩
      · refine SWp.condF' (b := decide (k29 < (out28.length : Int))) (by simp) hb34 ?_
        refine SWp.exit ?_
        have h75 := congrArg some (ho31 _ (Option.some.inj h30).symm)
        cases h75
        exact hK26 _ () [] trivial (by simp [hN'])
    refine SWp.seqR rfl (hPB _ rfl) fun K hK => ?_
    iterate 2 (refine wps_cons rfl fun K hK => ?_; simp [hN']; refine hK _ ?_; clear hK)
    refine wps_nil (hK _ ?_); clear hK
    cases h
    refine SWp.ret ?_
    simp [thenS, inBlockS, res46]
end Go.Proofs.T
set_option linter.unusedVariables false
set_option linter.unusedSimpArgs false
set_option maxHeartbeats 1000000
namespace Go.Proofs.T
open Go.OM
theorem res47 : Tryd.f47.results.toList = [.tmp 2] := rfl
theorem ent47 : Enters E.P 47 := enters_of Tryd.func47 (by simp [Tryd.f47]) rfl
theorem spec_l29Reached_ok (list1 : List GBlock) {r0 : List Bool} (h : spec_l29Reached list1 = some r0) : Ok E 47 [.val (.sl false 3 (List.map (GBlock.enc false) list1))] [.sl true 1 (List.map vb r0)] [] := by
  refine ok_of_body (fn := Tryd.f47) Tryd.func47 rfl (by simp [Tryd.f47]) fun C hN hP => ?_
  have hPB : ∀ l, pinK [] l = true → pinB C.pin l = true := pinB_of (by rw [hP]; rfl)
  have hN' : C.N = 56 := hN
  clear hN
  unfold spec_l29Reached at h
  refine SWp.seqR rfl (hPB _ rfl) fun K hK => ?_
  refine wps_cons rfl fun K hK => ?_; simp [hN']; refine hK _ ?_; clear hK
  refine wps_nil (hK _ ?_); clear hK
  refine SWp.seqR rfl (hPB _ rfl) fun K hK => ?_
  iterate 2 (refine wps_cons rfl fun K hK => ?_; simp [hN']; refine hK _ ?_; clear hK)
  obtain ⟨l2, hl2, h⟩ := bind_some h
  obtain ⟨hl2a, hl2b, hl2c, hl2d⟩ := mkI_some hl2
  have hl2f : List.replicate (list1.length : Int).toNat (vb false) = List.map vb l2 := rep_map (f := vb) hl2d
  try simp only [Int.toNat_natCast] at hl2f
  iterate 2 (refine wps_cons rfl fun K hK => ?_; simp [hN', hl2a, hl2b, hl2c, hl2f]; refine hK _ ?_; clear hK)
  refine wps_nil (hK _ ?_); clear hK
  refine SWp.seqR rfl (hPB _ rfl) fun K hK => ?_
  refine wps_cons rfl fun K hK => ?_; simp [hN']; refine hK _ ?_; clear hK
  obtain ⟨e3, he3, h⟩ := bind_some h
  obtain ⟨he3a, he3b, he3c, he3d⟩ := getI_some he3
  have he3e : 0 < l2.length := by omega
  have he3g : l2[0]? = some e3 := he3c
  have he3i : l2[0] = e3 := he3d he3e
  refine wps_cons rfl fun K hK => ?_; simp [hN', he3a, he3b, he3c, he3d, he3e, he3g, he3i]; refine hK _ ?_; clear hK
  obtain ⟨l4, hl4, h⟩ := bindS_some h
  have hl4f : (List.map vb l2).set 0 (vb true) = List.map vb l4 := set_map (f := vb) hl4
  try simp only [Int.toNat_natCast] at hl4f
  refine wps_cons rfl fun K hK => ?_; simp [hN', he3a, he3b, he3c, he3d, he3e, he3g, he3i, hl4f]; refine hK _ ?_; clear hK
  refine wps_nil (hK _ ?_); clear hK
  refine SWp.seqR rfl (hPB _ rfl) fun K hK => ?_
  iterate 2 (refine wps_cons rfl fun K hK => ?_; simp [hN']; refine hK _ ?_; clear hK)
  refine wps_nil (hK _ ?_); clear hK
  obtain ⟨has42, hj5, h⟩ := bind_some h
  refine SWp.seqC [3] [] (fun _ : Unit => ⟨[(3, .t (.sl true 1 (List.map vb has42)))], []⟩) (fun _ => True) (fun _ _ => ?_) fun K6 hK6 => ?_
  rotate_left
  · refine SWp.seqR rfl (hPB _ rfl) fun K hK => ?_
    refine wps_cons rfl fun K hK => ?_; simp [hN']; refine hK _ ?_; clear hK
    refine wps_nil (hK _ ?_); clear hK
    refine SWp.block ?_
    refine SWp.loopO [] [0, 3, 4, 5] [] (fun v : (List Bool) × (List Int) × Int => ⟨[(0, .t (.sl false 3 (List.map (GBlock.enc false) list1))), (3, .t (.sl true 1 (List.map vb v.1))), (4, .t (.sl true 1 (List.map vi v.2.1))), (5, .t (vi v.2.2))], []⟩) (spec_l29Reached_l1 list1) _ (l4, [0], 0) hj5 (by simp [hN']) ?_
    intro g s13 h11 ho12
    obtain ⟨has8, all9, i10⟩ := g
    simp only [spec_l29Reached_l1] at h11
    try dsimp only
    refine SWp.seq ?_
    refine SWp.seqR rfl (hPB _ rfl) fun K hK => ?_
    iterate 4 (refine wps_cons rfl fun K hK => ?_; simp [hN']; refine hK _ ?_; clear hK)
    refine wps_nil (hK _ ?_); clear hK
    rcases ite_or h11 with ⟨hb14, h11⟩ | ⟨hb15, h11⟩
    · refine SWp.condT' (b := decide (i10 < (all9.length : Int))) (by simp) hb14 ?_
      refine SWp.skip ?_
      show SWp E C _ _ _
      obtain ⟨⟨has39, all40⟩, hj16, h11⟩ := bind_some h11
      try dsimp only at h11
      refine SWp.seqC [0, 3, 4, 5] [] (fun _ : Unit => ⟨[(0, .t (.sl false 3 (List.map (GBlock.enc false) list1))), (3, .t (.sl true 1 (List.map vb has39))), (4, .t (.sl true 1 (List.map vi all40))), (5, .t (vi i10))], []⟩) (fun _ => True) (fun _ _ => ?_) fun K17 hK17 => ?_
      rotate_left
      · refine SWp.block ?_
        refine SWp.seqR rfl (hPB _ rfl) fun K hK => ?_
        iterate 3 (refine wps_cons rfl fun K hK => ?_; simp [hN']; refine hK _ ?_; clear hK)
        obtain ⟨e19, he19, hj16⟩ := bind_some hj16
        obtain ⟨he19a, he19b, he19c, he19d⟩ := getI_some he19
        iterate 2 (refine wps_cons rfl fun K hK => ?_; simp [hN', he19a, he19b, he19c, he19d]; refine hK _ ?_; clear hK)
        obtain ⟨e20, he20, hj16⟩ := bind_some hj16
        obtain ⟨he20a, he20b, he20c, he20d⟩ := getI_some he20
        iterate 4 (refine wps_cons rfl fun K hK => ?_; simp [hN', he19a, he19b, he19c, he19d, he20a, he20b, he20c, he20d]; refine hK _ ?_; clear hK)
        refine wps_nil (hK _ ?_); clear hK
        refine SWp.seqR rfl (hPB _ rfl) fun K hK => ?_
        refine wps_cons rfl fun K hK => ?_; simp [hN']; refine hK _ ?_; clear hK
        refine wps_nil (hK _ ?_); clear hK
        refine SWp.block ?_
        refine SWp.loopO [] [0, 3, 4, 5, 6, 7] [] (fun v : (List Bool) × (List Int) × Int => ⟨[(0, .t (.sl false 3 (List.map (GBlock.enc false) list1))), (3, .t (.sl true 1 (List.map vb v.1))), (4, .t (.sl true 1 (List.map vi v.2.1))), (5, .t (vi i10)), (6, .t (.sl false 1 (List.map vi e20.Next))), (7, .t (vi v.2.2))], []⟩) (spec_l29Reached_l2 e20) _ (has8, all9, 0) hj16 (by simp [hN']) ?_
        intro g s26 h24 ho25
        obtain ⟨has21, all22, k23⟩ := g
        simp only [spec_l29Reached_l2] at h24
        try dsimp only
        refine SWp.seq ?_
        refine SWp.seqR rfl (hPB _ rfl) fun K hK => ?_
        iterate 4 (refine wps_cons rfl fun K hK => ?_; simp [hN']; refine hK _ ?_; clear hK)
        refine wps_nil (hK _ ?_); clear hK
        rcases ite_or h24 with ⟨hb27, h24⟩ | ⟨hb28, h24⟩
        · refine SWp.condT' (b := decide (k23 < (e20.Next.length : Int))) (by simp) hb27 ?_
          refine SWp.skip ?_
          show SWp E C _ _ _
          refine SWp.seq ?_
          refine SWp.block ?_
          refine SWp.seqR rfl (hPB _ rfl) fun K hK => ?_
          iterate 3 (refine wps_cons rfl fun K hK => ?_; simp [hN']; refine hK _ ?_; clear hK)
          obtain ⟨e29, he29, h24⟩ := bind_some h24
          obtain ⟨he29a, he29b, he29c, he29d⟩ := getI_some he29
          iterate 2 (refine wps_cons rfl fun K hK => ?_; simp [hN', he29a, he29b, he29c, he29d]; refine hK _ ?_; clear hK)
          obtain ⟨e30, he30, h24⟩ := bind_some h24
          obtain ⟨he30a, he30b, he30c, he30d⟩ := getI_some he30
          iterate 3 (refine wps_cons rfl fun K hK => ?_; simp [hN', he29a, he29b, he29c, he29d, he30a, he30b, he30c, he30d]; refine hK _ ?_; clear hK)
          refine wps_nil (hK _ ?_); clear hK
          rcases ite_or h24 with ⟨hb31, h24⟩ | ⟨hb32, h24⟩
          · refine SWp.condT' (b := !e30) (by simp) hb31 ?_
            refine SWp.seqR rfl (hPB _ rfl) fun K hK => ?_
            iterate 3 (refine wps_cons rfl fun K hK => ?_; simp [hN']; refine hK _ ?_; clear hK)
            obtain ⟨e33, he33, h24⟩ := bind_some h24
            obtain ⟨he33a, he33b, he33c, he33d⟩ := getI_some he33
            iterate 2 (refine wps_cons rfl fun K hK => ?_; simp [hN', he33a, he33b, he33c, he33d]; refine hK _ ?_; clear hK)
            obtain ⟨e34, he34, h24⟩ := bind_some h24
            obtain ⟨he34a, he34b, he34c, he34d⟩ := getI_some he34
            refine wps_cons rfl fun K hK => ?_; simp [hN', he33a, he33b, he33c, he33d, he34a, he34b, he34c, he34d]; refine hK _ ?_; clear hK
            obtain ⟨l35, hl35, h24⟩ := bindS_some h24
            have hl35f : (List.map vb has21).set e33.toNat (vb true) = List.map vb l35 := set_map (f := vb) hl35
            try simp only [Int.toNat_natCast] at hl35f
            refine wps_cons rfl fun K hK => ?_; simp [hN', he33a, he33b, he33c, he33d, he34a, he34b, he34c, he34d, hl35f]; refine hK _ ?_; clear hK
            refine wps_nil (hK _ ?_); clear hK
            refine SWp.reg rfl (hPB _ rfl) fun K hK => ?_
            iterate 3 (refine wps_cons rfl fun K hK => ?_; simp [hN']; refine hK _ ?_; clear hK)
            obtain ⟨e36, he36, h24⟩ := bind_some h24
            obtain ⟨he36a, he36b, he36c, he36d⟩ := getI_some he36
            iterate 3 (refine wps_cons rfl fun K hK => ?_; simp [hN', he36a, he36b, he36c, he36d]; refine hK _ ?_; clear hK)
            obtain ⟨l37, hl37, h24⟩ := bind_some h24
            obtain ⟨hl37a, hl37b, hl37d⟩ := appI_some hl37
            have hl37f : List.map vi all22 ++ List.map vi [e36] = List.map vi l37 := app_map (f := vi) hl37d
            simp [eSl] at hl37a hl37b hl37f
            iterate 2 (refine wps_cons rfl fun K hK => ?_; simp [hN', he36a, he36b, he36c, he36d, hl37a, hl37b, hl37f]; refine hK _ ?_; clear hK)
            refine wps_nil (hK _ ?_); clear hK
            show SWp E C _ _ _
            refine SWp.reg rfl (hPB _ rfl) fun K hK => ?_
            iterate 3 (refine wps_cons rfl fun K hK => ?_; simp [hN']; refine hK _ ?_; clear hK)
            refine wps_nil (hK _ ?_); clear hK
            cases h24
            exact ⟨_, [], rfl, by simp [hN']⟩
          · refine SWp.condF' (b := !e30) (by simp) hb32 ?_
            refine SWp.skip ?_
            show SWp E C _ _ _
            refine SWp.reg rfl (hPB _ rfl) fun K hK => ?_
            iterate 3 (refine wps_cons rfl fun K hK => ?_; simp [hN']; refine hK _ ?_; clear hK)
            refine wps_nil (hK _ ?_); clear hK
            cases h24
            exact ⟨_, [], rfl, by simp [hN']⟩
        · refine SWp.condF' (b := decide (k23 < (e20.Next.length : Int))) (by simp) hb28 ?_
          refine SWp.exit ?_
          have h38 := congrArg some (ho25 _ (Option.some.inj h24).symm)
          cases h38
          exact hK17 _ () [] trivial (by simp [hN'])
      refine SWp.reg rfl (hPB _ rfl) fun K hK => ?_
      iterate 3 (refine wps_cons rfl fun K hK => ?_; simp [hN']; refine hK _ ?_; clear hK)
      refine wps_nil (hK _ ?_); clear hK
      cases h11
      exact ⟨_, [], rfl, by simp [hN']⟩
    · refine SWp.condF' (b := decide (i10 < (all9.length : Int))) (by simp) hb15 ?_
      refine SWp.exit ?_
      have h41 := congrArg some (ho12 _ (Option.some.inj h11).symm)
      cases h41
      exact hK6 _ () [] trivial (by simp [hN'])
  refine SWp.seqR rfl (hPB _ rfl) fun K hK => ?_
  iterate 2 (refine wps_cons rfl fun K hK => ?_; simp [hN']; refine hK _ ?_; clear hK)
  refine wps_nil (hK _ ?_); clear hK
  cases h
  refine SWp.ret ?_
  simp [thenS, inBlockS, res47]
end Go.Proofs.T
