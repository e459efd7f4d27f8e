import Derived.Test.YtelnmegngpocjaaDoorOmC
import Derived.Lib.Split
import Derived.Lib.ItoaNum
import Derived.Test.YtelnmegngpocjaaDoorProg
import Derived.KernelRfl
set_option linter.unusedVariables false
noncomputable section
namespace Go.OM
def strings_Split (s sep : ByteArray) : Option (List ByteArray) := if s.size < 4294967281 ∧ 1 ≤ sep.size ∧ (Lib.splitB sep 0 (Lib.countB s sep) s).length = Lib.countB s sep + 1 then some (Lib.splitB sep 0 (Lib.countB s sep) s) else none
end Go.OM
end
set_option linter.unusedVariables false
set_option linter.unusedSimpArgs false
namespace Go.OM
abbrev vi (n : Int) : T := .v (.int .i64 n)
abbrev vk (k : IntKind) (n : Int) : T := .v (.int k n)
abbrev vb (b : Bool) : T := .v (.bool b)
abbrev vs (z : ByteArray) : T := .v (.string z)
abbrev eSl {α : Type} (o : Bool) (s : Nat) (f : α → T) (l : List α) : T := .sl o s (l.map f)
@[simp] theorem own_vi (l : List Int) : T.hasOwnL (l.map vi) = false := hasOwnL_map vi (fun _ => rfl) l
@[simp] theorem own_vk (k : IntKind) (l : List Int) : T.hasOwnL (l.map (vk k)) = false := hasOwnL_map _ (fun _ => rfl) l
@[simp] theorem own_vb (l : List Bool) : T.hasOwnL (l.map vb) = false := hasOwnL_map _ (fun _ => rfl) l
@[simp] theorem own_vs (l : List ByteArray) : T.hasOwnL (l.map vs) = false := hasOwnL_map _ (fun _ => rfl) l
@[simp] theorem ro_vi (l : List Int) : T.roL (l.map vi) = l.map vi := roL_map' _ _ (fun _ => rfl) l
@[simp] theorem ro_vk (k : IntKind) (l : List Int) : T.roL (l.map (vk k)) = l.map (vk k) := roL_map' _ _ (fun _ => rfl) l
@[simp] theorem ro_vb (l : List Bool) : T.roL (l.map vb) = l.map vb := roL_map' _ _ (fun _ => rfl) l
@[simp] theorem ro_vs (l : List ByteArray) : T.roL (l.map vs) = l.map vs := roL_map' _ _ (fun _ => rfl) l
@[simp] theorem noRo_vi (l : List Int) : T.noRoL (l.map vi) = true := noRoL_map _ (fun _ => rfl) l
@[simp] theorem noRo_vk (k : IntKind) (l : List Int) : T.noRoL (l.map (vk k)) = true := noRoL_map _ (fun _ => rfl) l
@[simp] theorem noRo_vb (l : List Bool) : T.noRoL (l.map vb) = true := noRoL_map _ (fun _ => rfl) l
@[simp] theorem noRo_vs (l : List ByteArray) : T.noRoL (l.map vs) = true := noRoL_map _ (fun _ => rfl) l
@[simp] theorem own_eSl {α : Type} {s : Nat} {f : α → T} (h : ∀ l : List α, T.hasOwnL (l.map f) = false) (l : List (List α)) : T.hasOwnL (l.map (eSl false s f)) = false := hasOwnL_map _ (fun x => by simp [h x]) l
@[simp] theorem ro_eSl {α : Type} {o : Bool} {s : Nat} {f : α → T} (h : ∀ l : List α, T.roL (l.map f) = l.map f) (l : List (List α)) : T.roL (l.map (eSl o s f)) = l.map (eSl false s f) := roL_map' _ _ (fun x => by simp [h x]) l
@[simp] theorem noRo_eSl {α : Type} {s : Nat} {f : α → T} (h : ∀ l : List α, T.noRoL (l.map f) = true) (l : List (List α)) : T.noRoL (l.map (eSl true s f)) = true := noRoL_map _ (fun x => by simp [h x]) l
theorem ite_or {α : Type} {c : Prop} [Decidable c] {a b : Option α} {r : α} (h : (if c then a else b) = some r) : (c ∧ a = some r) ∨ (¬ c ∧ b = some r) := by
  by_cases hc : c
  · rw [if_pos hc] at h; exact .inl ⟨hc, h⟩
  · rw [if_neg hc] at h; exact .inr ⟨hc, h⟩
structure GIns where
  Op : Int
  A : Int
  B : Int
  C : Int
  Num : Int
  Name : ByteArray
  Args : List Int
  deriving DecidableEq
def GIns.enc (o : Bool) (x : GIns) : T := .agg [vi x.Op, vi x.A, vi x.B, vi x.C, vi x.Num, vs x.Name, .sl o 1 (List.map vi x.Args)]
@[simp] theorem GIns.own (x : GIns) : (x.enc false).hasOwn = false := by simp [GIns.enc]
@[simp] theorem GIns.ownT (x : GIns) : (x.enc true).hasOwn = true := by simp [GIns.enc]
@[simp] theorem GIns.ownL (l : List GIns) : T.hasOwnL (l.map (GIns.enc false)) = false := hasOwnL_map _ (fun x => by simp) l
@[simp] theorem GIns.ro1 (o : Bool) (x : GIns) : (x.enc o).ro = x.enc false := by cases o <;> simp [GIns.enc, T.roL_map, Function.comp_def]
@[simp] theorem GIns.roL (o : Bool) (l : List GIns) : T.roL (l.map (GIns.enc o)) = l.map (GIns.enc false) := roL_map' _ _ (fun x => by simp) l
@[simp] theorem GIns.noRo (x : GIns) : (x.enc true).noRo = true := by simp [GIns.enc]
@[simp] theorem GIns.noRoL (l : List GIns) : T.noRoL (l.map (GIns.enc true)) = true := noRoL_map _ (fun x => by simp) l
structure GCode where
  Name : ByteArray
  Params : Int
  Locals : List Int
  Words : List GIns
  deriving DecidableEq
def GCode.enc (o : Bool) (x : GCode) : T := .agg [vs x.Name, vi x.Params, .sl o 1 (List.map vi x.Locals), .sl o 7 (List.map (GIns.enc o) x.Words)]
@[simp] theorem GCode.own (x : GCode) : (x.enc false).hasOwn = false := by simp [GCode.enc]
@[simp] theorem GCode.ownT (x : GCode) : (x.enc true).hasOwn = true := by simp [GCode.enc]
@[simp] theorem GCode.ownL (l : List GCode) : T.hasOwnL (l.map (GCode.enc false)) = false := hasOwnL_map _ (fun x => by simp) l
@[simp] theorem GCode.ro1 (o : Bool) (x : GCode) : (x.enc o).ro = x.enc false := by cases o <;> simp [GCode.enc, T.roL_map, Function.comp_def]
@[simp] theorem GCode.roL (o : Bool) (l : List GCode) : T.roL (l.map (GCode.enc o)) = l.map (GCode.enc false) := roL_map' _ _ (fun x => by simp) l
@[simp] theorem GCode.noRo (x : GCode) : (x.enc true).noRo = true := by simp [GCode.enc]
@[simp] theorem GCode.noRoL (l : List GCode) : T.noRoL (l.map (GCode.enc true)) = true := noRoL_map _ (fun x => by simp) l
structure GNode where
  Kind : Int
  Num : Int
  Name : ByteArray
  Kids : List Int
  deriving DecidableEq
def GNode.enc (o : Bool) (x : GNode) : T := .agg [vi x.Kind, vi x.Num, vs x.Name, .sl o 1 (List.map vi x.Kids)]
@[simp] theorem GNode.own (x : GNode) : (x.enc false).hasOwn = false := by simp [GNode.enc]
@[simp] theorem GNode.ownT (x : GNode) : (x.enc true).hasOwn = true := by simp [GNode.enc]
@[simp] theorem GNode.ownL (l : List GNode) : T.hasOwnL (l.map (GNode.enc false)) = false := hasOwnL_map _ (fun x => by simp) l
@[simp] theorem GNode.ro1 (o : Bool) (x : GNode) : (x.enc o).ro = x.enc false := by cases o <;> simp [GNode.enc, T.roL_map, Function.comp_def]
@[simp] theorem GNode.roL (o : Bool) (l : List GNode) : T.roL (l.map (GNode.enc o)) = l.map (GNode.enc false) := roL_map' _ _ (fun x => by simp) l
@[simp] theorem GNode.noRo (x : GNode) : (x.enc true).noRo = true := by simp [GNode.enc]
@[simp] theorem GNode.noRoL (l : List GNode) : T.noRoL (l.map (GNode.enc true)) = true := noRoL_map _ (fun x => by simp) l
structure GParam where
  Name : ByteArray
  Typ : Int
  deriving DecidableEq
def GParam.enc (x : GParam) : T := .agg [vs x.Name, vi x.Typ]
@[simp] theorem GParam.own (x : GParam) : x.enc.hasOwn = false := by simp [GParam.enc]
@[simp] theorem GParam.ownL (l : List GParam) : T.hasOwnL (l.map GParam.enc) = false := hasOwnL_map _ (fun x => by simp) l
@[simp] theorem GParam.ro1 (x : GParam) : x.enc.ro = x.enc := by simp [GParam.enc]
@[simp] theorem GParam.roL (l : List GParam) : T.roL (l.map GParam.enc) = l.map GParam.enc := roL_map' _ _ (fun x => by simp) l
@[simp] theorem GParam.noRo (x : GParam) : x.enc.noRo = true := by simp [GParam.enc]
@[simp] theorem GParam.noRoL (l : List GParam) : T.noRoL (l.map GParam.enc) = true := noRoL_map _ (fun x => by simp) l
structure GFn where
  Name : ByteArray
  Params : List GParam
  Res : Int
  Body : Int
  Ret : Int
  deriving DecidableEq
def GFn.enc (o : Bool) (x : GFn) : T := .agg [vs x.Name, .sl o 2 (List.map GParam.enc x.Params), vi x.Res, vi x.Body, vi x.Ret]
@[simp] theorem GFn.own (x : GFn) : (x.enc false).hasOwn = false := by simp [GFn.enc]
@[simp] theorem GFn.ownT (x : GFn) : (x.enc true).hasOwn = true := by simp [GFn.enc]
@[simp] theorem GFn.ownL (l : List GFn) : T.hasOwnL (l.map (GFn.enc false)) = false := hasOwnL_map _ (fun x => by simp) l
@[simp] theorem GFn.ro1 (o : Bool) (x : GFn) : (x.enc o).ro = x.enc false := by cases o <;> simp [GFn.enc, T.roL_map, Function.comp_def]
@[simp] theorem GFn.roL (o : Bool) (l : List GFn) : T.roL (l.map (GFn.enc o)) = l.map (GFn.enc false) := roL_map' _ _ (fun x => by simp) l
@[simp] theorem GFn.noRo (x : GFn) : (x.enc true).noRo = true := by simp [GFn.enc]
@[simp] theorem GFn.noRoL (l : List GFn) : T.noRoL (l.map (GFn.enc true)) = true := noRoL_map _ (fun x => by simp) l
structure GProgram where
  Nodes : List GNode
  Fns : List GFn
  deriving DecidableEq
def GProgram.enc (o : Bool) (x : GProgram) : T := .agg [.sl o 4 (List.map (GNode.enc o) x.Nodes), .sl o 5 (List.map (GFn.enc o) x.Fns)]
@[simp] theorem GProgram.own (x : GProgram) : (x.enc false).hasOwn = false := by simp [GProgram.enc]
@[simp] theorem GProgram.ownT (x : GProgram) : (x.enc true).hasOwn = true := by simp [GProgram.enc]
@[simp] theorem GProgram.ownL (l : List GProgram) : T.hasOwnL (l.map (GProgram.enc false)) = false := hasOwnL_map _ (fun x => by simp) l
@[simp] theorem GProgram.ro1 (o : Bool) (x : GProgram) : (x.enc o).ro = x.enc false := by cases o <;> simp [GProgram.enc, T.roL_map, Function.comp_def]
@[simp] theorem GProgram.roL (o : Bool) (l : List GProgram) : T.roL (l.map (GProgram.enc o)) = l.map (GProgram.enc false) := roL_map' _ _ (fun x => by simp) l
@[simp] theorem GProgram.noRo (x : GProgram) : (x.enc true).noRo = true := by simp [GProgram.enc]
@[simp] theorem GProgram.noRoL (l : List GProgram) : T.noRoL (l.map (GProgram.enc true)) = true := noRoL_map _ (fun x => by simp) l
structure GMeasure where
  Fns : Int
  Nodes : Int
  Steps : Int
  Values : Int
  Blocks : Int
  Lets : Int
  News : Int
  Lends : Int
  Deep : Int
  deriving DecidableEq
def GMeasure.enc (x : GMeasure) : T := .agg [vi x.Fns, vi x.Nodes, vi x.Steps, vi x.Values, vi x.Blocks, vi x.Lets, vi x.News, vi x.Lends, vi x.Deep]
@[simp] theorem GMeasure.own (x : GMeasure) : x.enc.hasOwn = false := by simp [GMeasure.enc]
@[simp] theorem GMeasure.ownL (l : List GMeasure) : T.hasOwnL (l.map GMeasure.enc) = false := hasOwnL_map _ (fun x => by simp) l
@[simp] theorem GMeasure.ro1 (x : GMeasure) : x.enc.ro = x.enc := by simp [GMeasure.enc]
@[simp] theorem GMeasure.roL (l : List GMeasure) : T.roL (l.map GMeasure.enc) = l.map GMeasure.enc := roL_map' _ _ (fun x => by simp) l
@[simp] theorem GMeasure.noRo (x : GMeasure) : x.enc.noRo = true := by simp [GMeasure.enc]
@[simp] theorem GMeasure.noRoL (l : List GMeasure) : T.noRoL (l.map GMeasure.enc) = true := noRoL_map _ (fun x => by simp) l
structure GBlock where
  From : Int
  To : Int
  Next : List Int
  deriving DecidableEq
def GBlock.enc (o : Bool) (x : GBlock) : T := .agg [vi x.From, vi x.To, .sl o 1 (List.map vi x.Next)]
@[simp] theorem GBlock.own (x : GBlock) : (x.enc false).hasOwn = false := by simp [GBlock.enc]
@[simp] theorem GBlock.ownT (x : GBlock) : (x.enc true).hasOwn = true := by simp [GBlock.enc]
@[simp] theorem GBlock.ownL (l : List GBlock) : T.hasOwnL (l.map (GBlock.enc false)) = false := hasOwnL_map _ (fun x => by simp) l
@[simp] theorem GBlock.ro1 (o : Bool) (x : GBlock) : (x.enc o).ro = x.enc false := by cases o <;> simp [GBlock.enc, T.roL_map, Function.comp_def]
@[simp] theorem GBlock.roL (o : Bool) (l : List GBlock) : T.roL (l.map (GBlock.enc o)) = l.map (GBlock.enc false) := roL_map' _ _ (fun x => by simp) l
@[simp] theorem GBlock.noRo (x : GBlock) : (x.enc true).noRo = true := by simp [GBlock.enc]
@[simp] theorem GBlock.noRoL (l : List GBlock) : T.noRoL (l.map (GBlock.enc true)) = true := noRoL_map _ (fun x => by simp) l
structure GLoan where
  At : Int
  Of : Int
  Mut : Bool
  deriving DecidableEq
def GLoan.enc (x : GLoan) : T := .agg [vi x.At, vi x.Of, vb x.Mut]
@[simp] theorem GLoan.own (x : GLoan) : x.enc.hasOwn = false := by simp [GLoan.enc]
@[simp] theorem GLoan.ownL (l : List GLoan) : T.hasOwnL (l.map GLoan.enc) = false := hasOwnL_map _ (fun x => by simp) l
@[simp] theorem GLoan.ro1 (x : GLoan) : x.enc.ro = x.enc := by simp [GLoan.enc]
@[simp] theorem GLoan.roL (l : List GLoan) : T.roL (l.map GLoan.enc) = l.map GLoan.enc := roL_map' _ _ (fun x => by simp) l
@[simp] theorem GLoan.noRo (x : GLoan) : x.enc.noRo = true := by simp [GLoan.enc]
@[simp] theorem GLoan.noRoL (l : List GLoan) : T.noRoL (l.map GLoan.enc) = true := noRoL_map _ (fun x => by simp) l
attribute [simp] GIns.enc GCode.enc GNode.enc GParam.enc GFn.enc GProgram.enc GMeasure.enc GBlock.enc GLoan.enc
end Go.OM
set_option linter.unusedVariables false
noncomputable section
namespace Go.OM
def laws_szIntS (a1 : List Int) (left2 : Int) : Option (Int) :=
  if (decide (IntKind.wrap .i64 (left2 - (a1.length : Int)) < 0)) = true then
    some (-1)
  else
    some (IntKind.wrap .i64 (left2 - (a1.length : Int)))
def spec_l01In (x1 : Int) (least2 : Int) (most3 : Int) : Option (Bool) :=
  Option.bind (
    if (decide (x1 ≥ least2)) = true then
      some (decide (x1 ≤ most3))
    else
      some false) fun v8 =>
  some v8
def spec_l03Letter (b1 : Int) : Option (Bool) :=
  Option.bind (
    if (decide (b1 ≥ 97)) = true then
      some (decide (b1 ≤ 122))
    else
      some false) fun v6 =>
  some v6
def spec_l03Keys : Option (List ByteArray) :=
  some [(⟨#[102, 110]⟩ : ByteArray), (⟨#[108, 101, 116]⟩ : ByteArray), (⟨#[105, 102]⟩ : ByteArray), (⟨#[101, 108, 115, 101]⟩ : ByteArray), (⟨#[119, 104, 105, 108, 101]⟩ : ByteArray), (⟨#[112, 114, 105, 110, 116]⟩ : ByteArray), (⟨#[100, 111]⟩ : ByteArray), (⟨#[110, 101, 119]⟩ : ByteArray), (⟨#[99, 108, 111, 110, 101]⟩ : ByteArray), (⟨#[109, 117, 116]⟩ : ByteArray), (⟨#[105, 110, 112, 117, 116]⟩ : ByteArray), (⟨#[105, 110, 116]⟩ : ByteArray), (⟨#[98, 111, 120]⟩ : ByteArray), (⟨#[114, 101, 116]⟩ : ByteArray)]
def spec_KeyWord_l1 (s1 : ByteArray) (r2 : List ByteArray) : Int → Option ((Int) ⊕ ((Unit) ⊕ (Bool))) := fun i7 =>
  if (decide (i7 < (r2.length : Int))) = true then
    (getI r2 i7).bind fun e13 =>
    if (sEq e13 s1) = true then
      some (Sum.inr (Sum.inr true))
    else
      some (Sum.inl (IntKind.wrap .i64 (i7 + 1)))
  else
    some (Sum.inr (Sum.inl ()))
def spec_KeyWord (s1 : ByteArray) : Option (Bool) :=
  (spec_l03Keys ).bind fun r2 =>
  Option.bind (
    loopP (spec_KeyWord_l1 s1 r2) 0) fun j6 =>
  match j6 with
  | Sum.inr z => some z
  | Sum.inl () =>
    some false
def spec_l03Figure (b1 : Int) : Option (Bool) :=
  Option.bind (
    if (decide (b1 ≥ 48)) = true then
      some (decide (b1 ≤ 57))
    else
      some false) fun v6 =>
  some v6
def spec_NameOk_l1 (s1 : ByteArray) : Int → Option ((Int) ⊕ ((Unit) ⊕ (Bool))) := fun i21 =>
  if (decide (i21 < (s1.size : Int))) = true then
    Option.bind (
      (sAt s1 i21).bind fun c29 =>
      (spec_l03Letter c29).bind fun r30 =>
      if (!r30) = true then
        (spec_l03Figure c29).bind fun r34 =>
        some (!r34)
      else
        some false) fun v36 =>
    if v36 = true then
      some (Sum.inr (Sum.inr false))
    else
      some (Sum.inl (IntKind.wrap .i64 (i21 + 1)))
  else
    some (Sum.inr (Sum.inl ()))
def spec_NameOk (s1 : ByteArray) : Option (Bool) :=
  Option.bind (
    (spec_l01In (s1.size : Int) 1 8).bind fun r4 =>
    if (!r4) = true then
      some true
    else
      (sAt s1 0).bind fun c8 =>
      (spec_l03Letter c8).bind fun r9 =>
      if (!r9) = true then
        some true
      else
        (spec_KeyWord s1).bind fun r13 =>
        some r13) fun v15 =>
  if v15 = true then
    some false
  else
    Option.bind (
      loopP (spec_NameOk_l1 s1) 0) fun j20 =>
    match j20 with
    | Sum.inr z => some z
    | Sum.inl () =>
      some true
def laws_toIntS_l1 (a1 : List Int) : ((List Int) × Int) → Option (((List Int) × Int) ⊕ (List Int)) := fun ⟨out6, i7⟩ =>
  if (decide (i7 < (a1.length : Int))) = true then
    (getI a1 i7).bind fun e13 =>
    (getI out6 i7).bind fun e14 =>
    bindS (List.set out6 i7.toNat e13) fun l15 =>
    some (Sum.inl (l15, IntKind.wrap .i64 (i7 + 1)))
  else
    some (Sum.inr out6)
def laws_toIntS (a1 : List Int) : Option (List Int) :=
  (mkI 8 (a1.length : Int) 0).bind fun l2 =>
  Option.bind (
    loopP (laws_toIntS_l1 a1) (l2, 0)) fun out17 =>
  some out17
def impl_hasInt_l1 (l1 : List Int) (n2 : Int) : Int → Option ((Int) ⊕ ((Unit) ⊕ (Bool))) := fun v6 =>
  if (decide (v6 < (l1.length : Int))) = true then
    (getI l1 v6).bind fun e12 =>
    if (e12 == n2) = true then
      some (Sum.inr (Sum.inr true))
    else
      some (Sum.inl (IntKind.wrap .i64 (v6 + 1)))
  else
    some (Sum.inr (Sum.inl ()))
def impl_hasInt (l1 : List Int) (n2 : Int) : Option (Bool) :=
  Option.bind (
    loopP (impl_hasInt_l1 l1 n2) 0) fun j5 =>
  match j5 with
  | Sum.inr z => some z
  | Sum.inl () =>
    some false
def impl_in (n1 : Int) (low2 : Int) (high3 : Int) : Option (Bool) :=
  Option.bind (
    if (decide (n1 ≥ low2)) = true then
      some (decide (n1 ≤ high3))
    else
      some false) fun v8 =>
  some v8
def impl_isLetter (b1 : Int) : Option (Bool) :=
  Option.bind (
    if (decide (b1 ≥ 97)) = true then
      some (decide (b1 ≤ 122))
    else
      some false) fun v6 =>
  some v6
def impl_isFigure (b1 : Int) : Option (Bool) :=
  Option.bind (
    if (decide (b1 ≥ 48)) = true then
      some (decide (b1 ≤ 57))
    else
      some false) fun v6 =>
  some v6
def impl_oneOf_l1 (s1 : ByteArray) (r6 : List ByteArray) : Int → Option ((Int) ⊕ ((Unit) ⊕ (Bool))) := fun v8 =>
  if (decide (v8 < (r6.length : Int))) = true then
    (getI r6 v8).bind fun e14 =>
    if (sEq e14 s1) = true then
      some (Sum.inr (Sum.inr true))
    else
      some (Sum.inl (IntKind.wrap .i64 (v8 + 1)))
  else
    some (Sum.inr (Sum.inl ()))
def impl_oneOf (s1 : ByteArray) (words2 : ByteArray) : Option (Bool) :=
  Option.bind (
    (strings_Split words2 (⟨#[32]⟩ : ByteArray)).bind fun r6 =>
    loopP (impl_oneOf_l1 s1 r6) 0) fun j5 =>
  match j5 with
  | Sum.inr z => some z
  | Sum.inl () =>
    some false
def impl_KeyWord (s1 : ByteArray) : Option (Bool) :=
  (impl_oneOf s1 (⟨#[102, 110, 32, 108, 101, 116, 32, 105, 102, 32, 101, 108, 115, 101, 32, 119, 104, 105, 108, 101, 32, 112, 114, 105, 110, 116, 32, 100, 111, 32, 110, 101, 119, 32, 99, 108, 111, 110, 101, 32, 109, 117, 116, 32, 105, 110, 112, 117, 116, 32, 105, 110, 116, 32, 98, 111, 120, 32, 114, 101, 116]⟩ : ByteArray)).bind fun r2 =>
  some r2
def impl_NameOk_l1 (s1 : ByteArray) : Int → Option ((Int) ⊕ ((Unit) ⊕ (Bool))) := fun i17 =>
  if (decide (i17 < (s1.size : Int))) = true then
    Option.bind (
      (sAt s1 i17).bind fun c25 =>
      (impl_isLetter c25).bind fun r26 =>
      if (!r26) = true then
        (impl_isFigure c25).bind fun r30 =>
        some (!r30)
      else
        some false) fun v32 =>
    if v32 = true then
      some (Sum.inr (Sum.inr false))
    else
      some (Sum.inl (IntKind.wrap .i64 (i17 + 1)))
  else
    some (Sum.inr (Sum.inl ()))
def impl_NameOk (s1 : ByteArray) : Option (Bool) :=
  Option.bind (
    (impl_in (s1.size : Int) 1 8).bind fun r4 =>
    if (!r4) = true then
      some true
    else
      (sAt s1 0).bind fun c8 =>
      (impl_isLetter c8).bind fun r9 =>
      some (!r9)) fun v11 =>
  if v11 = true then
    some false
  else
    Option.bind (
      loopP (impl_NameOk_l1 s1) 0) fun j16 =>
    match j16 with
    | Sum.inr z => some z
    | Sum.inl () =>
      (impl_KeyWord s1).bind fun r37 =>
      some (!r37)
def laws_eqIntS_l1 (a1 : List Int) (b2 : List Int) : Int → Option ((Int) ⊕ ((Unit) ⊕ (Bool))) := fun i8 =>
  if (decide (i8 < (a1.length : Int))) = true then
    (getI a1 i8).bind fun e15 =>
    (getI b2 i8).bind fun e16 =>
    if (e15 != e16) = true then
      some (Sum.inr (Sum.inr false))
    else
      some (Sum.inl (IntKind.wrap .i64 (i8 + 1)))
  else
    some (Sum.inr (Sum.inl ()))
def laws_eqIntS (a1 : List Int) (b2 : List Int) : Option (Bool) :=
  if ((a1.length : Int) != (b2.length : Int)) = true then
    some false
  else
    Option.bind (
      loopP (laws_eqIntS_l1 a1 b2) 0) fun j7 =>
    match j7 with
    | Sum.inr z => some z
    | Sum.inl () =>
      some true
def laws_szNode (a1 : GNode) (left2 : Int) : Option (Int) :=
  if (decide (IntKind.wrap .i64 (left2 - (a1.Name.size : Int)) < 0)) = true then
    some (-1)
  else
    (laws_szIntS a1.Kids (IntKind.wrap .i64 (left2 - (a1.Name.size : Int)))).bind fun r5 =>
    if (decide (r5 < 0)) = true then
      some (-1)
    else
      some r5
def laws_szNodeS_l1 (a1 : List GNode) : (Int × Int) → Option ((Int × Int) ⊕ ((Int) ⊕ (Int))) := fun ⟨left8, i9⟩ =>
  if (decide (i9 < (a1.length : Int))) = true then
    (getI a1 i9).bind fun e15 =>
    (laws_szNode e15 left8).bind fun r16 =>
    if (decide (r16 < 0)) = true then
      some (Sum.inr (Sum.inr (-1)))
    else
      some (Sum.inl (r16, IntKind.wrap .i64 (i9 + 1)))
  else
    some (Sum.inr (Sum.inl left8))
def laws_szNodeS (a1 : List GNode) (left2 : Int) : Option (Int) :=
  if (decide (IntKind.wrap .i64 (left2 - (a1.length : Int)) < 0)) = true then
    some (-1)
  else
    Option.bind (
      loopP (laws_szNodeS_l1 a1) (IntKind.wrap .i64 (left2 - (a1.length : Int)), 0)) fun j7 =>
    match j7 with
    | Sum.inr z => some z
    | Sum.inl left22 =>
      some left22
def laws_szParam (a1 : GParam) (left2 : Int) : Option (Int) :=
  if (decide (IntKind.wrap .i64 (left2 - (a1.Name.size : Int)) < 0)) = true then
    some (-1)
  else
    some (IntKind.wrap .i64 (left2 - (a1.Name.size : Int)))
def laws_szParamS_l1 (a1 : List GParam) : (Int × Int) → Option ((Int × Int) ⊕ ((Int) ⊕ (Int))) := fun ⟨left8, i9⟩ =>
  if (decide (i9 < (a1.length : Int))) = true then
    (getI a1 i9).bind fun e15 =>
    (laws_szParam e15 left8).bind fun r16 =>
    if (decide (r16 < 0)) = true then
      some (Sum.inr (Sum.inr (-1)))
    else
      some (Sum.inl (r16, IntKind.wrap .i64 (i9 + 1)))
  else
    some (Sum.inr (Sum.inl left8))
def laws_szParamS (a1 : List GParam) (left2 : Int) : Option (Int) :=
  if (decide (IntKind.wrap .i64 (left2 - (a1.length : Int)) < 0)) = true then
    some (-1)
  else
    Option.bind (
      loopP (laws_szParamS_l1 a1) (IntKind.wrap .i64 (left2 - (a1.length : Int)), 0)) fun j7 =>
    match j7 with
    | Sum.inr z => some z
    | Sum.inl left22 =>
      some left22
def laws_szFn (a1 : GFn) (left2 : Int) : Option (Int) :=
  if (decide (IntKind.wrap .i64 (left2 - (a1.Name.size : Int)) < 0)) = true then
    some (-1)
  else
    (laws_szParamS a1.Params (IntKind.wrap .i64 (left2 - (a1.Name.size : Int)))).bind fun r5 =>
    if (decide (r5 < 0)) = true then
      some (-1)
    else
      some r5
def laws_szFnS_l1 (a1 : List GFn) : (Int × Int) → Option ((Int × Int) ⊕ ((Int) ⊕ (Int))) := fun ⟨left8, i9⟩ =>
  if (decide (i9 < (a1.length : Int))) = true then
    (getI a1 i9).bind fun e15 =>
    (laws_szFn e15 left8).bind fun r16 =>
    if (decide (r16 < 0)) = true then
      some (Sum.inr (Sum.inr (-1)))
    else
      some (Sum.inl (r16, IntKind.wrap .i64 (i9 + 1)))
  else
    some (Sum.inr (Sum.inl left8))
def laws_szFnS (a1 : List GFn) (left2 : Int) : Option (Int) :=
  if (decide (IntKind.wrap .i64 (left2 - (a1.length : Int)) < 0)) = true then
    some (-1)
  else
    Option.bind (
      loopP (laws_szFnS_l1 a1) (IntKind.wrap .i64 (left2 - (a1.length : Int)), 0)) fun j7 =>
    match j7 with
    | Sum.inr z => some z
    | Sum.inl left22 =>
      some left22
def laws_szProgram (a1 : GProgram) (left2 : Int) : Option (Int) :=
  (laws_szNodeS a1.Nodes left2).bind fun r3 =>
  if (decide (r3 < 0)) = true then
    some (-1)
  else
    (laws_szFnS a1.Fns r3).bind fun r7 =>
    if (decide (r7 < 0)) = true then
      some (-1)
    else
      some r7
def spec_l04Kids (kind1 : Int) : Option (Int × Int) :=
  Option.bind (
    if (kind1 == 8) = true then
      some (kind1 == 8)
    else
      if (kind1 == 13) = true then
        some (kind1 == 13)
      else
        if (kind1 == 14) = true then
          some (kind1 == 14)
        else
          if (kind1 == 15) = true then
            some (kind1 == 15)
          else
            if (kind1 == 18) = true then
              some (kind1 == 18)
            else
              some (kind1 == 19)) fun v15 =>
  if v15 = true then
    some (1, 1)
  else
    Option.bind (
      if (kind1 == 9) = true then
        some (kind1 == 9)
      else
        if (kind1 == 10) = true then
          some (kind1 == 10)
        else
          if (kind1 == 11) = true then
            some (kind1 == 11)
          else
            some (kind1 == 17)) fun v27 =>
    if v27 = true then
      some (2, 2)
    else
      if (kind1 == 12) = true then
        some (0, 3)
      else
        if (kind1 == 16) = true then
          some (3, 3)
        else
          if (kind1 == 20) = true then
            some (0, 12)
          else
            some (0, 0)
def spec_l04Named (kind1 : Int) : Option (Bool) :=
  Option.bind (
    if (kind1 == 2) = true then
      some (kind1 == 2)
    else
      if (kind1 == 3) = true then
        some (kind1 == 3)
      else
        if (kind1 == 4) = true then
          some (kind1 == 4)
        else
          if (kind1 == 5) = true then
            some (kind1 == 5)
          else
            if (kind1 == 6) = true then
              some (kind1 == 6)
            else
              if (kind1 == 12) = true then
                some (kind1 == 12)
              else
                if (kind1 == 13) = true then
                  some (kind1 == 13)
                else
                  if (kind1 == 14) = true then
                    some (kind1 == 14)
                  else
                    some (kind1 == 15)) fun v21 =>
  if v21 = true then
    some true
  else
    some false
def spec_l04Value (kind1 : Int) : Option (Bool) :=
  (spec_l01In kind1 1 12).bind fun r2 =>
  some r2
def spec_l04Statement (kind1 : Int) : Option (Bool) :=
  (spec_l01In kind1 13 19).bind fun r2 =>
  some r2
def spec_l04Fits (kind1 : Int) (at2 : Int) (kid3 : Int) : Option (Bool) :=
  if (kind1 == 20) = true then
    (spec_l04Statement kid3).bind fun r6 =>
    some r6
  else
    Option.bind (
      if (kind1 == 16) = true then
        some (kind1 == 16)
      else
        some (kind1 == 17)) fun v13 =>
    if v13 = true then
      if (decide (at2 > 0)) = true then
        some (kid3 == 20)
      else
        (spec_l04Value kid3).bind fun r18 =>
        some r18
    else
      if (kind1 == 19) = true then
        some (kid3 == 12)
      else
        (spec_l04Value kid3).bind fun r22 =>
        some r22
def spec_NodeOk_l2 (e15 : GNode) (i50 : Int) : Int → Option ((Int) ⊕ ((Unit) ⊕ ((Int) ⊕ ((Unit) ⊕ (Bool))))) := fun j73 =>
  if (decide (j73 < i50)) = true then
    (getI e15.Kids i50).bind fun e80 =>
    (getI e15.Kids j73).bind fun e81 =>
    if (e80 == e81) = true then
      some (Sum.inr (Sum.inr (Sum.inr (Sum.inr false))))
    else
      some (Sum.inl (IntKind.wrap .i64 (j73 + 1)))
  else
    some (Sum.inr (Sum.inl ()))
def spec_NodeOk_l1 (nodes1 : List GNode) (k2 : Int) (e15 : GNode) : Int → Option ((Int) ⊕ ((Unit) ⊕ (Bool))) := fun i50 =>
  if (decide (i50 < (e15.Kids.length : Int))) = true then
    Option.bind (
      Option.bind (
        (getI e15.Kids i50).bind fun e61 =>
        (spec_l01In e61 0 (IntKind.wrap .i64 (k2 - 1))).bind fun r62 =>
        if (!r62) = true then
          some true
        else
          (getI nodes1 e61).bind fun e66 =>
          (spec_l04Fits e15.Kind i50 e66.Kind).bind fun r67 =>
          some (!r67)) fun v69 =>
      if v69 = true then
        some (Sum.inr (Sum.inr (Sum.inr false)))
      else
        loopP (spec_NodeOk_l2 e15 i50) 0) fun j58 =>
    match j58 with
    | Sum.inr z => some z
    | Sum.inl () =>
      some (Sum.inl (IntKind.wrap .i64 (i50 + 1)))
  else
    some (Sum.inr (Sum.inl ()))
def spec_NodeOk (nodes1 : List GNode) (k2 : Int) : Option (Bool) :=
  Option.bind (
    (spec_l01In k2 0 (IntKind.wrap .i64 ((nodes1.length : Int) - 1))).bind fun r5 =>
    if (!r5) = true then
      some true
    else
      (getI nodes1 k2).bind fun e9 =>
      (spec_l01In e9.Kind 1 20).bind fun r10 =>
      some (!r10)) fun v12 =>
  if v12 = true then
    some false
  else
    (getI nodes1 k2).bind fun e15 =>
    (spec_l04Kids e15.Kind).bind fun ⟨r16, r17⟩ =>
    Option.bind (
      (spec_l01In (e15.Kids.length : Int) r16 r17).bind fun r21 =>
      if (!r21) = true then
        some true
      else
        (spec_l01In e15.Num 0 1000000000).bind fun r25 =>
        if (!r25) = true then
          some true
        else
          if (e15.Kind != 1) = true then
            some (e15.Num != 0)
          else
            some false) fun v31 =>
    if v31 = true then
      some false
    else
      Option.bind (
        (spec_l04Named e15.Kind).bind fun r36 =>
        if (!(r36 == (!(sEq e15.Name (⟨#[]⟩ : ByteArray))))) = true then
          some true
        else
          if (!(sEq e15.Name (⟨#[]⟩ : ByteArray))) = true then
            (spec_NameOk e15.Name).bind fun r42 =>
            some (!r42)
          else
            some false) fun v44 =>
      if v44 = true then
        some false
      else
        Option.bind (
          loopP (spec_NodeOk_l1 nodes1 k2 e15) 0) fun j49 =>
        match j49 with
        | Sum.inr z => some z
        | Sum.inl () =>
          some true
def spec_l04Deeps_l2 (nodes1 : List GNode) (out6 : List Int) (i7 : Int) : (Int × Int) → Option ((Int × Int) ⊕ (Int)) := fun ⟨deep40, j41⟩ =>
  Option.bind (
    if (decide (deep40 > 0)) = true then
      (getI nodes1 i7).bind fun e49 =>
      some (decide (j41 < (e49.Kids.length : Int)))
    else
      some false) fun v50 =>
  if v50 = true then
    (getI nodes1 i7).bind fun e53 =>
    (getI e53.Kids j41).bind fun e54 =>
    (getI out6 e54).bind fun e55 =>
    if (decide (IntKind.wrap .i64 (e55 + 1) > deep40)) = true then
      (getI nodes1 i7).bind fun e58 =>
      (getI e58.Kids j41).bind fun e59 =>
      (getI out6 e59).bind fun e60 =>
      some (Sum.inl (IntKind.wrap .i64 (e60 + 1), IntKind.wrap .i64 (j41 + 1)))
    else
      some (Sum.inl (deep40, IntKind.wrap .i64 (j41 + 1)))
  else
    some (Sum.inr deep40)
def spec_l04Deeps_l1 (nodes1 : List GNode) (k2 : Int) : ((List Int) × Int) → Option (((List Int) × Int) ⊕ (List Int)) := fun ⟨out6, i7⟩ =>
  Option.bind (
    if (decide (i7 ≤ k2)) = true then
      some (decide (i7 < (nodes1.length : Int)))
    else
      some false) fun v15 =>
  if v15 = true then
    Option.bind (
      Option.bind (
        Option.bind (
          (spec_NodeOk nodes1 i7).bind fun r26 =>
          if (!r26) = true then
            some true
          else
            if (decide (i7 > 0)) = true then
              (getI out6 (IntKind.wrap .i64 (i7 - 1))).bind fun e32 =>
              some (e32 == 0)
            else
              some false) fun v33 =>
        if v33 = true then
          some 0
        else
          some 1) fun deep36 =>
      Option.bind (
        loopP (spec_l04Deeps_l2 nodes1 out6 i7) (deep36, 0)) fun deep62 =>
      Option.bind (
        if (decide (deep62 > 10)) = true then
          some 0
        else
          some deep62) fun deep68 =>
      (appI 8 out6 [deep68]).bind fun l69 =>
      some l69) fun out70 =>
    some (Sum.inl (out70, IntKind.wrap .i64 (i7 + 1)))
  else
    some (Sum.inr out6)
def spec_l04Deeps (nodes1 : List GNode) (k2 : Int) : Option (List Int) :=
  Option.bind (
    loopP (spec_l04Deeps_l1 nodes1 k2) ([], 0)) fun out72 =>
  some out72
def spec_l04Used_l2 (nodes1 : List GNode) (i7 : Int) : ((List Int) × Int) → Option (((List Int) × Int) ⊕ (List Int)) := fun ⟨out16, j17⟩ =>
  (getI nodes1 i7).bind fun e21 =>
  if (decide (j17 < (e21.Kids.length : Int))) = true then
    (getI nodes1 i7).bind fun e24 =>
    (getI e24.Kids j17).bind fun e25 =>
    (getI out16 e25).bind fun e26 =>
    bindS (List.set out16 e25.toNat (IntKind.wrap .i64 (e26 + 1))) fun l27 =>
    some (Sum.inl (l27, IntKind.wrap .i64 (j17 + 1)))
  else
    some (Sum.inr out16)
def spec_l04Used_l1 (nodes1 : List GNode) : ((List Int) × Int) → Option (((List Int) × Int) ⊕ (List Int)) := fun ⟨out6, i7⟩ =>
  if (decide (i7 < (nodes1.length : Int))) = true then
    Option.bind (
      loopP (spec_l04Used_l2 nodes1 i7) (out6, 0)) fun out29 =>
    some (Sum.inl (out29, IntKind.wrap .i64 (i7 + 1)))
  else
    some (Sum.inr out6)
def spec_l04Used (nodes1 : List GNode) : Option (List Int) :=
  (mkI 8 (nodes1.length : Int) 0).bind fun l2 =>
  Option.bind (
    loopP (spec_l04Used_l1 nodes1) (l2, 0)) fun out31 =>
  some out31
def spec_FnAt_l1 (p1 : GProgram) (name2 : ByteArray) : Int → Option ((Int) ⊕ ((Unit) ⊕ (Int))) := fun i6 =>
  if (decide (i6 < (p1.Fns.length : Int))) = true then
    (getI p1.Fns i6).bind fun e12 =>
    if (sEq e12.Name name2) = true then
      some (Sum.inr (Sum.inr i6))
    else
      some (Sum.inl (IntKind.wrap .i64 (i6 + 1)))
  else
    some (Sum.inr (Sum.inl ()))
def spec_FnAt (p1 : GProgram) (name2 : ByteArray) : Option (Int) :=
  Option.bind (
    loopP (spec_FnAt_l1 p1 name2) 0) fun j5 =>
  match j5 with
  | Sum.inr z => some z
  | Sum.inl () =>
    some (-1)
def spec_l04Fn_l1 (e3 : GFn) : Int → Option ((Int) ⊕ ((Unit) ⊕ (Bool))) := fun k24 =>
  if (decide (k24 < (e3.Params.length : Int))) = true then
    Option.bind (
      (getI e3.Params k24).bind fun e32 =>
      (spec_NameOk e32.Name).bind fun r33 =>
      if (!r33) = true then
        some true
      else
        (spec_l01In e32.Typ 1 4).bind fun r37 =>
        some (!r37)) fun v39 =>
    if v39 = true then
      some (Sum.inr (Sum.inr false))
    else
      some (Sum.inl (IntKind.wrap .i64 (k24 + 1)))
  else
    some (Sum.inr (Sum.inl ()))
def spec_l04Fn (p1 : GProgram) (i2 : Int) : Option (Bool) :=
  (getI p1.Fns i2).bind fun e3 =>
  Option.bind (
    (spec_NameOk e3.Name).bind fun r6 =>
    if (!r6) = true then
      some true
    else
      (spec_FnAt p1 e3.Name).bind fun r10 =>
      if (r10 != i2) = true then
        some true
      else
        if (decide ((e3.Params.length : Int) > 3)) = true then
          some true
        else
          (spec_l01In e3.Res 0 2).bind fun r16 =>
          some (!r16)) fun v18 =>
  if v18 = true then
    some false
  else
    Option.bind (
      loopP (spec_l04Fn_l1 e3) 0) fun j23 =>
    match j23 with
    | Sum.inr z => some z
    | Sum.inl () =>
      Option.bind (
        (spec_l01In e3.Body 0 (IntKind.wrap .i64 ((p1.Nodes.length : Int) - 1))).bind fun r46 =>
        if (!r46) = true then
          some true
        else
          (getI p1.Nodes e3.Body).bind fun e50 =>
          some (e50.Kind != 20)) fun v51 =>
      if v51 = true then
        some false
      else
        if (e3.Res == 0) = true then
          some (e3.Ret == (-1))
        else
          Option.bind (
            (spec_l01In e3.Ret 0 (IntKind.wrap .i64 ((p1.Nodes.length : Int) - 1))).bind fun r58 =>
            if r58 = true then
              (getI p1.Nodes e3.Ret).bind fun e62 =>
              (spec_l04Value e62.Kind).bind fun r63 =>
              some r63
            else
              some false) fun v65 =>
          some v65
def spec_ProgramOk_l1 (p1 : GProgram) : ((List Int) × Int) → Option (((List Int) × Int) ⊕ ((List Int) ⊕ (Bool))) := fun ⟨used23, i24⟩ =>
  if (decide (i24 < (p1.Fns.length : Int))) = true then
    (spec_l04Fn p1 i24).bind fun r30 =>
    if (!r30) = true then
      some (Sum.inr (Sum.inr false))
    else
      (getI p1.Fns i24).bind fun e36 =>
      (getI used23 e36.Body).bind fun e37 =>
      bindS (List.set used23 e36.Body.toNat (IntKind.wrap .i64 (e37 + 1000))) fun l38 =>
      (getI p1.Fns i24).bind fun e39 =>
      if (decide (e39.Ret ≥ 0)) = true then
        (getI p1.Fns i24).bind fun e43 =>
        (getI l38 e43.Ret).bind fun e44 =>
        bindS (List.set l38 e43.Ret.toNat (IntKind.wrap .i64 (e44 + 1000))) fun l45 =>
        some (Sum.inl (l45, IntKind.wrap .i64 (i24 + 1)))
      else
        some (Sum.inl (l38, IntKind.wrap .i64 (i24 + 1)))
  else
    some (Sum.inr (Sum.inl used23))
def spec_ProgramOk_l2 (used47 : List Int) : Int → Option ((Int) ⊕ ((Unit) ⊕ (Bool))) := fun i51 =>
  if (decide (i51 < (used47.length : Int))) = true then
    Option.bind (
      (getI used47 i51).bind fun e59 =>
      if (e59 != 1) = true then
        some (e59 != 1000)
      else
        some false) fun v62 =>
    if v62 = true then
      some (Sum.inr (Sum.inr false))
    else
      some (Sum.inl (IntKind.wrap .i64 (i51 + 1)))
  else
    some (Sum.inr (Sum.inl ()))
def spec_ProgramOk (p1 : GProgram) : Option (Bool) :=
  Option.bind (
    (spec_l01In (p1.Nodes.length : Int) 1 300).bind fun r4 =>
    if (!r4) = true then
      some true
    else
      (spec_l01In (p1.Fns.length : Int) 1 8).bind fun r8 =>
      some (!r8)) fun v10 =>
  if v10 = true then
    some false
  else
    (spec_l04Deeps p1.Nodes (IntKind.wrap .i64 ((p1.Nodes.length : Int) - 1))).bind fun r13 =>
    (getI r13 (IntKind.wrap .i64 ((r13.length : Int) - 1))).bind fun e15 =>
    if (e15 == 0) = true then
      some false
    else
      (spec_l04Used p1.Nodes).bind fun r18 =>
      Option.bind (
        loopP (spec_ProgramOk_l1 p1) (r18, 0)) fun j22 =>
      match j22 with
      | Sum.inr z => some z
      | Sum.inl used47 =>
        Option.bind (
          loopP (spec_ProgramOk_l2 used47) 0) fun j50 =>
        match j50 with
        | Sum.inr z => some z
        | Sum.inl () =>
          some true
def spec_KindCount_l1 (p1 : GProgram) (kind2 : Int) : (Int × Int) → Option ((Int × Int) ⊕ (Int)) := fun ⟨n6, i7⟩ =>
  if (decide (i7 < (p1.Nodes.length : Int))) = true then
    (getI p1.Nodes i7).bind fun e13 =>
    if (e13.Kind == kind2) = true then
      some (Sum.inl (IntKind.wrap .i64 (n6 + 1), IntKind.wrap .i64 (i7 + 1)))
    else
      some (Sum.inl (n6, IntKind.wrap .i64 (i7 + 1)))
  else
    some (Sum.inr n6)
def spec_KindCount (p1 : GProgram) (kind2 : Int) : Option (Int) :=
  Option.bind (
    loopP (spec_KindCount_l1 p1 kind2) (0, 0)) fun n17 =>
  some n17
def spec_DeepOf (nodes1 : List GNode) (k2 : Int) : Option (Int) :=
  (spec_l01In k2 0 (IntKind.wrap .i64 ((nodes1.length : Int) - 1))).bind fun r3 =>
  if (!r3) = true then
    some 0
  else
    (spec_l04Deeps nodes1 k2).bind fun r7 =>
    (getI r7 k2).bind fun e9 =>
    some e9
def spec_Measured_l1 (p1 : GProgram) : (Int × GMeasure) → Option ((Int × GMeasure) ⊕ (GMeasure)) := fun ⟨i19, v20⟩ =>
  if (decide (i19 < (p1.Nodes.length : Int))) = true then
    Option.bind (
      (getI p1.Nodes i19).bind fun e29 =>
      (spec_l04Value e29.Kind).bind fun r30 =>
      if r30 = true then
        some (⟨v20.Fns, v20.Nodes, v20.Steps, IntKind.wrap .i64 (v20.Values + 1), v20.Blocks, v20.Lets, v20.News, v20.Lends, v20.Deep⟩ : GMeasure)
      else
        some v20) fun v34 =>
    Option.bind (
      (getI p1.Nodes i19).bind fun e38 =>
      (spec_l04Statement e38.Kind).bind fun r39 =>
      if r39 = true then
        some (⟨v34.Fns, v34.Nodes, IntKind.wrap .i64 (v34.Steps + 1), v34.Values, v34.Blocks, v34.Lets, v34.News, v34.Lends, v34.Deep⟩ : GMeasure)
      else
        some v34) fun v43 =>
    (spec_DeepOf p1.Nodes i19).bind fun r44 =>
    if (decide (r44 > v43.Deep)) = true then
      some (Sum.inl (IntKind.wrap .i64 (i19 + 1), (⟨v43.Fns, v43.Nodes, v43.Steps, v43.Values, v43.Blocks, v43.Lets, v43.News, v43.Lends, r44⟩ : GMeasure)))
    else
      some (Sum.inl (IntKind.wrap .i64 (i19 + 1), v43))
  else
    some (Sum.inr v20)
def spec_Measured (p1 : GProgram) : Option (GMeasure) :=
  (spec_ProgramOk p1).bind fun r2 =>
  if (!r2) = true then
    some (⟨0, 0, 0, 0, 0, 0, 0, 0, 0⟩ : GMeasure)
  else
    (spec_KindCount p1 20).bind fun r6 =>
    (spec_KindCount p1 13).bind fun r8 =>
    (spec_KindCount p1 8).bind fun r10 =>
    (spec_KindCount p1 5).bind fun r12 =>
    (spec_KindCount p1 6).bind fun r14 =>
    Option.bind (
      loopP (spec_Measured_l1 p1) (0, (⟨(p1.Fns.length : Int), (p1.Nodes.length : Int), 0, 0, r6, r8, r10, IntKind.wrap .i64 (r12 + r14), 0⟩ : GMeasure))) fun v49 =>
    some v49
def laws_toNode (a1 : GNode) : Option (GNode) :=
  (laws_toIntS a1.Kids).bind fun r2 =>
  some (⟨a1.Kind, a1.Num, a1.Name, r2⟩ : GNode)
def laws_toNodeS_l1 (a1 : List GNode) : ((List GNode) × Int) → Option (((List GNode) × Int) ⊕ (List GNode)) := fun ⟨out6, i7⟩ =>
  if (decide (i7 < (a1.length : Int))) = true then
    (getI a1 i7).bind fun e13 =>
    (laws_toNode e13).bind fun r14 =>
    (getI out6 i7).bind fun e16 =>
    bindS (List.set out6 i7.toNat r14) fun l17 =>
    some (Sum.inl (l17, IntKind.wrap .i64 (i7 + 1)))
  else
    some (Sum.inr out6)
def laws_toNodeS (a1 : List GNode) : Option (List GNode) :=
  (mkI 56 (a1.length : Int) (⟨0, 0, ByteArray.empty, []⟩ : GNode)).bind fun l2 =>
  Option.bind (
    loopP (laws_toNodeS_l1 a1) (l2, 0)) fun out19 =>
  some out19
def laws_toParam (a1 : GParam) : Option (GParam) :=
  some (⟨a1.Name, a1.Typ⟩ : GParam)
def laws_toParamS_l1 (a1 : List GParam) : ((List GParam) × Int) → Option (((List GParam) × Int) ⊕ (List GParam)) := fun ⟨out6, i7⟩ =>
  if (decide (i7 < (a1.length : Int))) = true then
    (getI a1 i7).bind fun e13 =>
    (laws_toParam e13).bind fun r14 =>
    (getI out6 i7).bind fun e16 =>
    bindS (List.set out6 i7.toNat r14) fun l17 =>
    some (Sum.inl (l17, IntKind.wrap .i64 (i7 + 1)))
  else
    some (Sum.inr out6)
def laws_toParamS (a1 : List GParam) : Option (List GParam) :=
  (mkI 24 (a1.length : Int) (⟨ByteArray.empty, 0⟩ : GParam)).bind fun l2 =>
  Option.bind (
    loopP (laws_toParamS_l1 a1) (l2, 0)) fun out19 =>
  some out19
def laws_toFn (a1 : GFn) : Option (GFn) :=
  (laws_toParamS a1.Params).bind fun r2 =>
  some (⟨a1.Name, r2, a1.Res, a1.Body, a1.Ret⟩ : GFn)
def laws_toFnS_l1 (a1 : List GFn) : ((List GFn) × Int) → Option (((List GFn) × Int) ⊕ (List GFn)) := fun ⟨out6, i7⟩ =>
  if (decide (i7 < (a1.length : Int))) = true then
    (getI a1 i7).bind fun e13 =>
    (laws_toFn e13).bind fun r14 =>
    (getI out6 i7).bind fun e16 =>
    bindS (List.set out6 i7.toNat r14) fun l17 =>
    some (Sum.inl (l17, IntKind.wrap .i64 (i7 + 1)))
  else
    some (Sum.inr out6)
def laws_toFnS (a1 : List GFn) : Option (List GFn) :=
  (mkI 64 (a1.length : Int) (⟨ByteArray.empty, [], 0, 0, 0⟩ : GFn)).bind fun l2 =>
  Option.bind (
    loopP (laws_toFnS_l1 a1) (l2, 0)) fun out19 =>
  some out19
def laws_toProgram (a1 : GProgram) : Option (GProgram) :=
  (laws_toNodeS a1.Nodes).bind fun r2 =>
  (laws_toFnS a1.Fns).bind fun r4 =>
  some (⟨r2, r4⟩ : GProgram)
def impl_shape (kind1 : Int) : Option (Int × Int) :=
  Option.bind (
    if (kind1 == 8) = true then
      some (kind1 == 8)
    else
      if (kind1 == 13) = true then
        some (kind1 == 13)
      else
        if (kind1 == 14) = true then
          some (kind1 == 14)
        else
          if (kind1 == 15) = true then
            some (kind1 == 15)
          else
            if (kind1 == 18) = true then
              some (kind1 == 18)
            else
              some (kind1 == 19)) fun v15 =>
  if v15 = true then
    some (1, 1)
  else
    Option.bind (
      if (kind1 == 9) = true then
        some (kind1 == 9)
      else
        if (kind1 == 10) = true then
          some (kind1 == 10)
        else
          if (kind1 == 11) = true then
            some (kind1 == 11)
          else
            some (kind1 == 17)) fun v27 =>
    if v27 = true then
      some (2, 2)
    else
      if (kind1 == 16) = true then
        some (3, 3)
      else
        if (kind1 == 12) = true then
          some (0, 3)
        else
          if (kind1 == 20) = true then
            some (0, 12)
          else
            some (0, 0)
def impl_isStep (kind1 : Int) : Option (Bool) :=
  (impl_in kind1 13 19).bind fun r2 =>
  some r2
def impl_isValue (kind1 : Int) : Option (Bool) :=
  (impl_in kind1 1 12).bind fun r2 =>
  some r2
def impl_kidFits (kind1 : Int) (i2 : Int) (kid3 : Int) : Option (Bool) :=
  if (kind1 == 20) = true then
    (impl_isStep kid3).bind fun r6 =>
    some r6
  else
    Option.bind (
      if (kind1 == 16) = true then
        some (decide (i2 > 0))
      else
        if (kind1 == 17) = true then
          some (decide (i2 > 0))
        else
          some false) fun v14 =>
    if v14 = true then
      some (kid3 == 20)
    else
      if (kind1 == 19) = true then
        some (kid3 == 12)
      else
        (impl_isValue kid3).bind fun r19 =>
        some r19
def impl_hasName (kind1 : Int) : Option (Bool) :=
  Option.bind (
    (impl_in kind1 2 6).bind fun r4 =>
    if r4 = true then
      some true
    else
      (impl_in kind1 12 15).bind fun r8 =>
      some r8) fun v10 =>
  some v10
def impl_NodeOk_l1 (nodes1 : List GNode) (k2 : Int) (e7 : GNode) : Int → Option ((Int) ⊕ ((Unit) ⊕ (Bool))) := fun v25 =>
  if (decide (v25 < (e7.Kids.length : Int))) = true then
    (getI e7.Kids v25).bind fun e31 =>
    Option.bind (
      (impl_in e31 0 (IntKind.wrap .i64 (k2 - 1))).bind fun r34 =>
      if (!r34) = true then
        some true
      else
        (subI e7.Kids 0 v25).bind fun l38 =>
        (impl_hasInt l38 e31).bind fun r39 =>
        if r39 = true then
          some true
        else
          (getI nodes1 e31).bind fun e43 =>
          (impl_kidFits e7.Kind v25 e43.Kind).bind fun r44 =>
          some (!r44)) fun v46 =>
    if v46 = true then
      some (Sum.inr (Sum.inr false))
    else
      some (Sum.inl (IntKind.wrap .i64 (v25 + 1)))
  else
    some (Sum.inr (Sum.inl ()))
def impl_NodeOk (nodes1 : List GNode) (k2 : Int) : Option (Bool) :=
  (impl_in k2 0 (IntKind.wrap .i64 ((nodes1.length : Int) - 1))).bind fun r3 =>
  if (!r3) = true then
    some false
  else
    (getI nodes1 k2).bind fun e7 =>
    (impl_shape e7.Kind).bind fun ⟨r8, r9⟩ =>
    Option.bind (
      (impl_in e7.Kind 1 20).bind fun r13 =>
      if (!r13) = true then
        some true
      else
        (impl_in (e7.Kids.length : Int) r8 r9).bind fun r17 =>
        some (!r17)) fun v19 =>
    if v19 = true then
      some false
    else
      Option.bind (
        loopP (impl_NodeOk_l1 nodes1 k2 e7) 0) fun j24 =>
      match j24 with
      | Sum.inr z => some z
      | Sum.inl () =>
        Option.bind (
          if (e7.Kind == 1) = true then
            (impl_in e7.Num 0 1000000000).bind fun r55 =>
            if (!r55) = true then
              some true
            else
              some false
          else
            some (e7.Num != 0)) fun v61 =>
        if v61 = true then
          some false
        else
          (impl_hasName e7.Kind).bind fun r64 =>
          if r64 = true then
            (impl_NameOk e7.Name).bind fun r68 =>
            some r68
          else
            some (sEq e7.Name (⟨#[]⟩ : ByteArray))
def impl_depths_l2 (out10 : List Int) (e28 : GNode) : (Int × Int) → Option ((Int × Int) ⊕ (Int)) := fun ⟨d29, v30⟩ =>
  if (decide (v30 < (e28.Kids.length : Int))) = true then
    (getI e28.Kids v30).bind fun e36 =>
    (getI out10 e36).bind fun e37 =>
    some (Sum.inl (if IntKind.wrap .i64 (e37 + 1) > d29 then IntKind.wrap .i64 (e37 + 1) else d29, IntKind.wrap .i64 (v30 + 1)))
  else
    some (Sum.inr d29)
def impl_depths_l1 (nodes1 : List GNode) (k2 : Int) : ((List Int) × Int) → Option (((List Int) × Int) ⊕ ((List Int) ⊕ ((List Int) × Bool))) := fun ⟨out10, i11⟩ =>
  if (decide (i11 ≤ k2)) = true then
    Option.bind (
      (impl_NodeOk nodes1 i11).bind fun r20 =>
      if (!r20) = true then
        some (Sum.inr (Sum.inr (Sum.inr ([], false))))
      else
        Option.bind (
          (getI nodes1 i11).bind fun e28 =>
          loopP (impl_depths_l2 out10 e28) (1, 0)) fun d39 =>
        if (decide (d39 > 10)) = true then
          some (Sum.inr (Sum.inr (Sum.inr ([], false))))
        else
          (appI 8 out10 [d39]).bind fun l43 =>
          some (Sum.inl l43)) fun j19 =>
    match j19 with
    | Sum.inr z => some z
    | Sum.inl out44 =>
      some (Sum.inl (out44, IntKind.wrap .i64 (i11 + 1)))
  else
    some (Sum.inr (Sum.inl out10))
def impl_depths (nodes1 : List GNode) (k2 : Int) : Option ((List Int) × Bool) :=
  (impl_in k2 0 (IntKind.wrap .i64 ((nodes1.length : Int) - 1))).bind fun r3 =>
  if (!r3) = true then
    some ([], false)
  else
    Option.bind (
      loopP (impl_depths_l1 nodes1 k2) ([], 0)) fun j9 =>
    match j9 with
    | Sum.inr z => some z
    | Sum.inl out46 =>
      some (out46, true)
def impl_DeepOf (nodes1 : List GNode) (k2 : Int) : Option (Int) :=
  (impl_depths nodes1 k2).bind fun ⟨r3, r4⟩ =>
  if (!r4) = true then
    some 0
  else
    (getI r3 k2).bind fun e8 =>
    some e8
def impl_fnOk_l1 (f2 : GFn) : Int → Option ((Int) ⊕ ((Unit) ⊕ (Bool))) := fun v21 =>
  if (decide (v21 < (f2.Params.length : Int))) = true then
    (getI f2.Params v21).bind fun e27 =>
    Option.bind (
      (impl_NameOk e27.Name).bind fun r30 =>
      if (!r30) = true then
        some true
      else
        (impl_in e27.Typ 1 4).bind fun r34 =>
        some (!r34)) fun v36 =>
    if v36 = true then
      some (Sum.inr (Sum.inr false))
    else
      some (Sum.inl (IntKind.wrap .i64 (v21 + 1)))
  else
    some (Sum.inr (Sum.inl ()))
def impl_fnOk (p1 : GProgram) (f2 : GFn) : Option (Bool) :=
  Option.bind (
    (impl_NameOk f2.Name).bind fun r5 =>
    if (!r5) = true then
      some true
    else
      if (decide ((f2.Params.length : Int) > 3)) = true then
        some true
      else
        if (f2.Res != 0) = true then
          if (f2.Res != 1) = true then
            some (f2.Res != 2)
          else
            some false
        else
          some false) fun v15 =>
  if v15 = true then
    some false
  else
    Option.bind (
      loopP (impl_fnOk_l1 f2) 0) fun j20 =>
    match j20 with
    | Sum.inr z => some z
    | Sum.inl () =>
      Option.bind (
        (impl_in f2.Body 0 (IntKind.wrap .i64 ((p1.Nodes.length : Int) - 1))).bind fun r43 =>
        if (!r43) = true then
          some true
        else
          (getI p1.Nodes f2.Body).bind fun e47 =>
          some (e47.Kind != 20)) fun v48 =>
      if v48 = true then
        some false
      else
        if (f2.Res == 0) = true then
          some (f2.Ret == (-1))
        else
          Option.bind (
            (impl_in f2.Ret 0 (IntKind.wrap .i64 ((p1.Nodes.length : Int) - 1))).bind fun r55 =>
            if r55 = true then
              (getI p1.Nodes f2.Ret).bind fun e59 =>
              (impl_isValue e59.Kind).bind fun r60 =>
              some r60
            else
              some false) fun v62 =>
          some v62
def impl_FnAt_l1 (p1 : GProgram) (name2 : ByteArray) : Int → Option ((Int) ⊕ ((Unit) ⊕ (Int))) := fun v6 =>
  if (decide (v6 < (p1.Fns.length : Int))) = true then
    (getI p1.Fns v6).bind fun e12 =>
    if (sEq e12.Name name2) = true then
      some (Sum.inr (Sum.inr v6))
    else
      some (Sum.inl (IntKind.wrap .i64 (v6 + 1)))
  else
    some (Sum.inr (Sum.inl ()))
def impl_FnAt (p1 : GProgram) (name2 : ByteArray) : Option (Int) :=
  Option.bind (
    loopP (impl_FnAt_l1 p1 name2) 0) fun j5 =>
  match j5 with
  | Sum.inr z => some z
  | Sum.inl () =>
    some (-1)
def impl_ProgramOk_l2 (e31 : GNode) : ((List Int) × Int) → Option (((List Int) × Int) ⊕ (List Int)) := fun ⟨met32, v33⟩ =>
  if (decide (v33 < (e31.Kids.length : Int))) = true then
    (getI e31.Kids v33).bind fun e39 =>
    (getI met32 e39).bind fun e40 =>
    bindS (List.set met32 e39.toNat (IntKind.wrap .i64 (e40 + 1))) fun l41 =>
    some (Sum.inl (l41, IntKind.wrap .i64 (v33 + 1)))
  else
    some (Sum.inr met32)
def impl_ProgramOk_l1 (p1 : GProgram) : ((List Int) × Int) → Option (((List Int) × Int) ⊕ (List Int)) := fun ⟨met21, v22⟩ =>
  if (decide (v22 < (p1.Nodes.length : Int))) = true then
    Option.bind (
      (getI p1.Nodes v22).bind fun e31 =>
      loopP (impl_ProgramOk_l2 e31) (met21, 0)) fun met43 =>
    some (Sum.inl (met43, IntKind.wrap .i64 (v22 + 1)))
  else
    some (Sum.inr met21)
def impl_ProgramOk_l4 (e59 : GFn) : ((List Int) × Int) → Option (((List Int) × Int) ⊕ ((List Int) ⊕ (((List Int) × Int) ⊕ ((List Int) ⊕ (Bool))))) := fun ⟨met72, v73⟩ =>
  if (decide (v73 < ([e59.Body, e59.Ret].length : Int))) = true then
    (getI [e59.Body, e59.Ret] v73).bind fun e79 =>
    if (decide (e79 < 0)) = true then
      some (Sum.inl (met72, IntKind.wrap .i64 (v73 + 1)))
    else
      (getI met72 e79).bind fun e82 =>
      if (e82 != 0) = true then
        some (Sum.inr (Sum.inr (Sum.inr (Sum.inr false))))
      else
        (getI met72 e79).bind fun e87 =>
        bindS (List.set met72 e79.toNat (-1)) fun l88 =>
        some (Sum.inl (l88, IntKind.wrap .i64 (v73 + 1)))
  else
    some (Sum.inr (Sum.inl met72))
def impl_ProgramOk_l3 (p1 : GProgram) : ((List Int) × Int) → Option (((List Int) × Int) ⊕ ((List Int) ⊕ (Bool))) := fun ⟨met49, v50⟩ =>
  if (decide (v50 < (p1.Fns.length : Int))) = true then
    Option.bind (
      (getI p1.Fns v50).bind fun e59 =>
      Option.bind (
        (impl_fnOk p1 e59).bind fun r62 =>
        if (!r62) = true then
          some true
        else
          (impl_FnAt p1 e59.Name).bind fun r66 =>
          some (r66 != v50)) fun v68 =>
      if v68 = true then
        some (Sum.inr (Sum.inr (Sum.inr false)))
      else
        loopP (impl_ProgramOk_l4 e59) (met49, 0)) fun j58 =>
    match j58 with
    | Sum.inr z => some z
    | Sum.inl met90 =>
      some (Sum.inl (met90, IntKind.wrap .i64 (v50 + 1)))
  else
    some (Sum.inr (Sum.inl met49))
def impl_ProgramOk_l5 (met92 : List Int) : Int → Option ((Int) ⊕ ((Unit) ⊕ (Bool))) := fun v96 =>
  if (decide (v96 < (met92.length : Int))) = true then
    (getI met92 v96).bind fun e102 =>
    Option.bind (
      if (e102 != 1) = true then
        some (e102 != (-1))
      else
        some false) fun v107 =>
    if v107 = true then
      some (Sum.inr (Sum.inr false))
    else
      some (Sum.inl (IntKind.wrap .i64 (v96 + 1)))
  else
    some (Sum.inr (Sum.inl ()))
def impl_ProgramOk (p1 : GProgram) : Option (Bool) :=
  Option.bind (
    (impl_in (p1.Nodes.length : Int) 1 300).bind fun r4 =>
    if (!r4) = true then
      some true
    else
      (impl_in (p1.Fns.length : Int) 1 8).bind fun r8 =>
      if (!r8) = true then
        some true
      else
        (impl_DeepOf p1.Nodes (IntKind.wrap .i64 ((p1.Nodes.length : Int) - 1))).bind fun r12 =>
        some (r12 == 0)) fun v14 =>
  if v14 = true then
    some false
  else
    (mkI 8 (p1.Nodes.length : Int) 0).bind fun l17 =>
    Option.bind (
      loopP (impl_ProgramOk_l1 p1) (l17, 0)) fun met45 =>
    Option.bind (
      loopP (impl_ProgramOk_l3 p1) (met45, 0)) fun j48 =>
    match j48 with
    | Sum.inr z => some z
    | Sum.inl met92 =>
      Option.bind (
        loopP (impl_ProgramOk_l5 met92) 0) fun j95 =>
      match j95 with
      | Sum.inr z => some z
      | Sum.inl () =>
        some true
def impl_KindCount_l1 (p1 : GProgram) (kind2 : Int) : (Int × Int) → Option ((Int × Int) ⊕ (Int)) := fun ⟨n6, v7⟩ =>
  if (decide (v7 < (p1.Nodes.length : Int))) = true then
    (getI p1.Nodes v7).bind fun e13 =>
    if (e13.Kind == kind2) = true then
      some (Sum.inl (IntKind.wrap .i64 (n6 + 1), IntKind.wrap .i64 (v7 + 1)))
    else
      some (Sum.inl (n6, IntKind.wrap .i64 (v7 + 1)))
  else
    some (Sum.inr n6)
def impl_KindCount (p1 : GProgram) (kind2 : Int) : Option (Int) :=
  Option.bind (
    loopP (impl_KindCount_l1 p1 kind2) (0, 0)) fun n17 =>
  some n17
def impl_Measured_l1 (p1 : GProgram) : (Int × GMeasure) → Option ((Int × GMeasure) ⊕ (GMeasure)) := fun ⟨v9, v10⟩ =>
  if (decide (v9 < (p1.Nodes.length : Int))) = true then
    (getI p1.Nodes v9).bind fun e16 =>
    (impl_isStep e16.Kind).bind fun r17 =>
    if r17 = true then
      some (Sum.inl (IntKind.wrap .i64 (v9 + 1), (⟨v10.Fns, v10.Nodes, IntKind.wrap .i64 (v10.Steps + 1), v10.Values, v10.Blocks, v10.Lets, v10.News, v10.Lends, v10.Deep⟩ : GMeasure)))
    else
      (impl_isValue e16.Kind).bind fun r21 =>
      if r21 = true then
        some (Sum.inl (IntKind.wrap .i64 (v9 + 1), (⟨v10.Fns, v10.Nodes, v10.Steps, IntKind.wrap .i64 (v10.Values + 1), v10.Blocks, v10.Lets, v10.News, v10.Lends, v10.Deep⟩ : GMeasure)))
      else
        some (Sum.inl (IntKind.wrap .i64 (v9 + 1), v10))
  else
    some (Sum.inr v10)
def impl_Measured_l2 (r38 : List Int) : (Int × GMeasure) → Option ((Int × GMeasure) ⊕ (GMeasure)) := fun ⟨v44, v45⟩ =>
  if (decide (v44 < (r38.length : Int))) = true then
    (getI r38 v44).bind fun e51 =>
    some (Sum.inl (IntKind.wrap .i64 (v44 + 1), (⟨v45.Fns, v45.Nodes, v45.Steps, v45.Values, v45.Blocks, v45.Lets, v45.News, v45.Lends, if e51 > v45.Deep then e51 else v45.Deep⟩ : GMeasure)))
  else
    some (Sum.inr v45)
def impl_Measured (p1 : GProgram) : Option (GMeasure) :=
  (impl_ProgramOk p1).bind fun r2 =>
  if (!r2) = true then
    some (⟨0, 0, 0, 0, 0, 0, 0, 0, 0⟩ : GMeasure)
  else
    Option.bind (
      loopP (impl_Measured_l1 p1) (0, (⟨(p1.Fns.length : Int), (p1.Nodes.length : Int), 0, 0, 0, 0, 0, 0, 0⟩ : GMeasure))) fun v26 =>
    (impl_KindCount p1 20).bind fun r27 =>
    (impl_KindCount p1 13).bind fun r29 =>
    (impl_KindCount p1 8).bind fun r31 =>
    (impl_KindCount p1 5).bind fun r34 =>
    (impl_KindCount p1 6).bind fun r36 =>
    (impl_depths p1.Nodes (IntKind.wrap .i64 ((p1.Nodes.length : Int) - 1))).bind fun ⟨r38, r39⟩ =>
    Option.bind (
      loopP (impl_Measured_l2 r38) (0, (⟨v26.Fns, v26.Nodes, v26.Steps, v26.Values, r27, r29, r31, IntKind.wrap .i64 (r34 + r36), v26.Deep⟩ : GMeasure))) fun v53 =>
    some v53
def laws_eqMeasure (a1 : GMeasure) (b2 : GMeasure) : Option (Bool) :=
  if (a1.Fns != b2.Fns) = true then
    some false
  else
    if (a1.Nodes != b2.Nodes) = true then
      some false
    else
      if (a1.Steps != b2.Steps) = true then
        some false
      else
        if (a1.Values != b2.Values) = true then
          some false
        else
          if (a1.Blocks != b2.Blocks) = true then
            some false
          else
            if (a1.Lets != b2.Lets) = true then
              some false
            else
              if (a1.News != b2.News) = true then
                some false
              else
                if (a1.Lends != b2.Lends) = true then
                  some false
                else
                  if (a1.Deep != b2.Deep) = true then
                    some false
                  else
                    some true
def laws_eqNode (a1 : GNode) (b2 : GNode) : Option (Bool) :=
  if (a1.Kind != b2.Kind) = true then
    some false
  else
    if (a1.Num != b2.Num) = true then
      some false
    else
      if (!(sEq a1.Name b2.Name)) = true then
        some false
      else
        (laws_eqIntS a1.Kids b2.Kids).bind fun r9 =>
        if (!r9) = true then
          some false
        else
          some true
def laws_eqNodeS_l1 (a1 : List GNode) (b2 : List GNode) : Int → Option ((Int) ⊕ ((Unit) ⊕ (Bool))) := fun i8 =>
  if (decide (i8 < (a1.length : Int))) = true then
    (getI a1 i8).bind fun e15 =>
    (getI b2 i8).bind fun e16 =>
    (laws_eqNode e15 e16).bind fun r17 =>
    if (!r17) = true then
      some (Sum.inr (Sum.inr false))
    else
      some (Sum.inl (IntKind.wrap .i64 (i8 + 1)))
  else
    some (Sum.inr (Sum.inl ()))
def laws_eqNodeS (a1 : List GNode) (b2 : List GNode) : Option (Bool) :=
  if ((a1.length : Int) != (b2.length : Int)) = true then
    some false
  else
    Option.bind (
      loopP (laws_eqNodeS_l1 a1 b2) 0) fun j7 =>
    match j7 with
    | Sum.inr z => some z
    | Sum.inl () =>
      some true
def laws_eqParam (a1 : GParam) (b2 : GParam) : Option (Bool) :=
  if (!(sEq a1.Name b2.Name)) = true then
    some false
  else
    if (a1.Typ != b2.Typ) = true then
      some false
    else
      some true
def laws_eqParamS_l1 (a1 : List GParam) (b2 : List GParam) : Int → Option ((Int) ⊕ ((Unit) ⊕ (Bool))) := fun i8 =>
  if (decide (i8 < (a1.length : Int))) = true then
    (getI a1 i8).bind fun e15 =>
    (getI b2 i8).bind fun e16 =>
    (laws_eqParam e15 e16).bind fun r17 =>
    if (!r17) = true then
      some (Sum.inr (Sum.inr false))
    else
      some (Sum.inl (IntKind.wrap .i64 (i8 + 1)))
  else
    some (Sum.inr (Sum.inl ()))
def laws_eqParamS (a1 : List GParam) (b2 : List GParam) : Option (Bool) :=
  if ((a1.length : Int) != (b2.length : Int)) = true then
    some false
  else
    Option.bind (
      loopP (laws_eqParamS_l1 a1 b2) 0) fun j7 =>
    match j7 with
    | Sum.inr z => some z
    | Sum.inl () =>
      some true
def laws_eqFn (a1 : GFn) (b2 : GFn) : Option (Bool) :=
  if (!(sEq a1.Name b2.Name)) = true then
    some false
  else
    (laws_eqParamS a1.Params b2.Params).bind fun r5 =>
    if (!r5) = true then
      some false
    else
      if (a1.Res != b2.Res) = true then
        some false
      else
        if (a1.Body != b2.Body) = true then
          some false
        else
          if (a1.Ret != b2.Ret) = true then
            some false
          else
            some true
def laws_eqFnS_l1 (a1 : List GFn) (b2 : List GFn) : Int → Option ((Int) ⊕ ((Unit) ⊕ (Bool))) := fun i8 =>
  if (decide (i8 < (a1.length : Int))) = true then
    (getI a1 i8).bind fun e15 =>
    (getI b2 i8).bind fun e16 =>
    (laws_eqFn e15 e16).bind fun r17 =>
    if (!r17) = true then
      some (Sum.inr (Sum.inr false))
    else
      some (Sum.inl (IntKind.wrap .i64 (i8 + 1)))
  else
    some (Sum.inr (Sum.inl ()))
def laws_eqFnS (a1 : List GFn) (b2 : List GFn) : Option (Bool) :=
  if ((a1.length : Int) != (b2.length : Int)) = true then
    some false
  else
    Option.bind (
      loopP (laws_eqFnS_l1 a1 b2) 0) fun j7 =>
    match j7 with
    | Sum.inr z => some z
    | Sum.inl () =>
      some true
def laws_eqProgram (a1 : GProgram) (b2 : GProgram) : Option (Bool) :=
  (laws_eqNodeS a1.Nodes b2.Nodes).bind fun r3 =>
  if (!r3) = true then
    some false
  else
    (laws_eqFnS a1.Fns b2.Fns).bind fun r7 =>
    if (!r7) = true then
      some false
    else
      some true
def laws_FnExactMeasured (aP1 : GProgram) : Option (Bool) :=
  (laws_szProgram aP1 1048576).bind fun r2 =>
  if (decide (r2 < 0)) = true then
    some true
  else
    (laws_toProgram aP1).bind fun r6 =>
    (spec_Measured r6).bind fun r8 =>
    (laws_toProgram aP1).bind fun r10 =>
    (impl_Measured r10).bind fun r12 =>
    (laws_eqMeasure r12 r8).bind fun r14 =>
    if (!r14) = true then
      some false
    else
      (laws_toProgram aP1).bind fun r19 =>
      (laws_eqProgram r10 r19).bind fun r21 =>
      if (!r21) = true then
        some false
      else
        some true
end Go.OM
end
set_option maxRecDepth 100000
namespace Go.Proofs.T
open Go.OM
noncomputable def ty : TypeId → Option TI
  | 2 => some ⟨1, 8, .int .i64, [.v (.int .i64 0)]⟩
  | 3 => some ⟨1, 8, .int .i64, [.v (.int .i64 0)]⟩
  | 4 => some ⟨1, 1, .bool, [.v (.bool false)]⟩
  | 5 => some ⟨1, 1, .int .u8, [.v (.int .u8 0)]⟩
  | 7 => some ⟨4, 24, .struct [(0, 1), (1, 1), (2, 1), (3, 1)], [.v (.int .i64 0), .v (.int .i64 0), .v (.bool false), .v (.int .u8 0)]⟩
  | 9 => some ⟨1, 16, .str, [.v (.string .empty)]⟩
  | 12 => some ⟨1, 8, .int .u64, [.v (.int .u64 0)]⟩
  | 13 => some ⟨2, 24, .struct [(0, 1), (1, 1)], [.v (.string .empty), .v (.int .u64 0)]⟩
  | 15 => some ⟨1, 8, .ptr, [.v (.pointer none)]⟩
  | 16 => some ⟨1, 8, .ptr, [.v (.pointer none)]⟩
  | 17 => some ⟨1, 8, .ptr, [.v (.pointer none)]⟩
  | 18 => some ⟨1, 8, .struct [(0, 1)], [.v (.pointer none)]⟩
  | 20 => some ⟨1, 16, .iface, [.v .nilIface]⟩
  | 21 => some ⟨1, 4, .int .i32, [.v (.int .i32 0)]⟩
  | 22 => some ⟨1, 24, .slice 3, [.nl true 1 none]⟩
  | 23 => some ⟨1, 24, .slice 112, [.nl true 7 none]⟩
  | 24 => some ⟨4, 72, .struct [(0, 1), (1, 1), (2, 1), (3, 1)], [.v (.string .empty), .v (.int .i64 0), .nl true 1 none, .nl true 7 none]⟩
  | 25 => some ⟨4, 72, .struct [(0, 1), (1, 1), (2, 1), (3, 1)], [.v (.string .empty), .v (.int .i64 0), .nl true 1 none, .nl true 7 none]⟩
  | 26 => some ⟨1, 8, .func, [.v .nilFunc]⟩
  | 27 => some ⟨1, 8, .func, [.v .nilFunc]⟩
  | 28 => some ⟨1, 24, .slice 103, [.nl true 7 none]⟩
  | 29 => some ⟨4, 72, .struct [(0, 1), (1, 1), (2, 1), (3, 1)], [.v (.string .empty), .v (.int .i64 0), .nl true 1 none, .nl true 7 none]⟩
  | 30 => some ⟨4, 72, .struct [(0, 1), (1, 1), (2, 1), (3, 1)], [.v (.string .empty), .v (.int .i64 0), .nl true 1 none, .nl true 7 none]⟩
  | 31 => some ⟨1, 8, .func, [.v .nilFunc]⟩
  | 32 => some ⟨1, 8, .func, [.v .nilFunc]⟩
  | 33 => some ⟨1, 8, .func, [.v .nilFunc]⟩
  | 34 => some ⟨1, 8, .func, [.v .nilFunc]⟩
  | 35 => some ⟨1, 8, .func, [.v .nilFunc]⟩
  | 36 => some ⟨1, 8, .func, [.v .nilFunc]⟩
  | 37 => some ⟨1, 24, .slice 63, [.nl true 1 none]⟩
  | 38 => some ⟨1, 8, .func, [.v .nilFunc]⟩
  | 39 => some ⟨1, 8, .func, [.v .nilFunc]⟩
  | 40 => some ⟨1, 8, .func, [.v .nilFunc]⟩
  | 41 => some ⟨1, 24, .slice 118, [.nl true 4 none]⟩
  | 42 => some ⟨1, 24, .slice 122, [.nl true 5 none]⟩
  | 43 => some ⟨2, 48, .struct [(0, 1), (1, 1)], [.nl true 4 none, .nl true 5 none]⟩
  | 44 => some ⟨2, 48, .struct [(0, 1), (1, 1)], [.nl true 4 none, .nl true 5 none]⟩
  | 45 => some ⟨1, 8, .func, [.v .nilFunc]⟩
  | 46 => some ⟨9, 72, .struct [(0, 1), (1, 1), (2, 1), (3, 1), (4, 1), (5, 1), (6, 1), (7, 1), (8, 1)], [.v (.int .i64 0), .v (.int .i64 0), .v (.int .i64 0), .v (.int .i64 0), .v (.int .i64 0), .v (.int .i64 0), .v (.int .i64 0), .v (.int .i64 0), .v (.int .i64 0)]⟩
  | 47 => some ⟨9, 72, .struct [(0, 1), (1, 1), (2, 1), (3, 1), (4, 1), (5, 1), (6, 1), (7, 1), (8, 1)], [.v (.int .i64 0), .v (.int .i64 0), .v (.int .i64 0), .v (.int .i64 0), .v (.int .i64 0), .v (.int .i64 0), .v (.int .i64 0), .v (.int .i64 0), .v (.int .i64 0)]⟩
  | 48 => some ⟨1, 8, .func, [.v .nilFunc]⟩
  | 49 => some ⟨1, 24, .slice 88, [.nl true 4 none]⟩
  | 50 => some ⟨1, 24, .slice 128, [.nl true 5 none]⟩
  | 51 => some ⟨2, 48, .struct [(0, 1), (1, 1)], [.nl true 4 none, .nl true 5 none]⟩
  | 52 => some ⟨2, 48, .struct [(0, 1), (1, 1)], [.nl true 4 none, .nl true 5 none]⟩
  | 53 => some ⟨1, 8, .func, [.v .nilFunc]⟩
  | 54 => some ⟨1, 8, .func, [.v .nilFunc]⟩
  | 55 => some ⟨1, 8, .func, [.v .nilFunc]⟩
  | 56 => some ⟨1, 8, .func, [.v .nilFunc]⟩
  | 57 => some ⟨1, 8, .func, [.v .nilFunc]⟩
  | 58 => some ⟨1, 24, .slice 37, [.nl true 1 none]⟩
  | 59 => some ⟨1, 8, .func, [.v .nilFunc]⟩
  | 60 => some ⟨1, 8, .func, [.v .nilFunc]⟩
  | 61 => some ⟨1, 8, .func, [.v .nilFunc]⟩
  | 62 => some ⟨1, 8, .func, [.v .nilFunc]⟩
  | 63 => some ⟨1, 24, .slice 4, [.nl true 1 none]⟩
  | 64 => some ⟨1, 8, .func, [.v .nilFunc]⟩
  | 65 => some ⟨1, 8, .func, [.v .nilFunc]⟩
  | 66 => some ⟨1, 8, .func, [.v .nilFunc]⟩
  | 67 => some ⟨1, 8, .func, [.v .nilFunc]⟩
  | 68 => some ⟨1, 8, .func, [.v .nilFunc]⟩
  | 69 => some ⟨1, 24, .slice 73, [.nl true 3 none]⟩
  | 70 => some ⟨1, 8, .func, [.v .nilFunc]⟩
  | 71 => some ⟨1, 8, .func, [.v .nilFunc]⟩
  | 72 => some ⟨3, 40, .struct [(0, 1), (1, 1), (2, 1)], [.v (.int .i64 0), .v (.int .i64 0), .nl true 1 none]⟩
  | 73 => some ⟨3, 40, .struct [(0, 1), (1, 1), (2, 1)], [.v (.int .i64 0), .v (.int .i64 0), .nl true 1 none]⟩
  | 74 => some ⟨1, 8, .func, [.v .nilFunc]⟩
  | 75 => some ⟨1, 8, .func, [.v .nilFunc]⟩
  | 76 => some ⟨1, 8, .func, [.v .nilFunc]⟩
  | 77 => some ⟨1, 8, .func, [.v .nilFunc]⟩
  | 78 => some ⟨1, 8, .func, [.v .nilFunc]⟩
  | 79 => some ⟨1, 8, .func, [.v .nilFunc]⟩
  | 80 => some ⟨1, 8, .func, [.v .nilFunc]⟩
  | 81 => some ⟨1, 8, .func, [.v .nilFunc]⟩
  | 82 => some ⟨1, 8, .func, [.v .nilFunc]⟩
  | 83 => some ⟨1, 8, .func, [.v .nilFunc]⟩
  | 84 => some ⟨1, 8, .func, [.v .nilFunc]⟩
  | 85 => some ⟨1, 8, .func, [.v .nilFunc]⟩
  | 86 => some ⟨1, 8, .func, [.v .nilFunc]⟩
  | 87 => some ⟨4, 56, .struct [(0, 1), (1, 1), (2, 1), (3, 1)], [.v (.int .i64 0), .v (.int .i64 0), .v (.string .empty), .nl true 1 none]⟩
  | 88 => some ⟨4, 56, .struct [(0, 1), (1, 1), (2, 1), (3, 1)], [.v (.int .i64 0), .v (.int .i64 0), .v (.string .empty), .nl true 1 none]⟩
  | 89 => some ⟨1, 8, .func, [.v .nilFunc]⟩
  | 90 => some ⟨1, 8, .func, [.v .nilFunc]⟩
  | 91 => some ⟨1, 8, .func, [.v .nilFunc]⟩
  | 93 => some ⟨1, 8, .func, [.v .nilFunc]⟩
  | 94 => some ⟨1, 8, .func, [.v .nilFunc]⟩
  | 95 => some ⟨1, 8, .func, [.v .nilFunc]⟩
  | 96 => some ⟨1, 8, .func, [.v .nilFunc]⟩
  | 97 => some ⟨1, 8, .func, [.v .nilFunc]⟩
  | 98 => some ⟨1, 8, .func, [.v .nilFunc]⟩
  | 99 => some ⟨1, 24, .slice 108, [.nl true 3 none]⟩
  | 100 => some ⟨1, 8, .func, [.v .nilFunc]⟩
  | 101 => some ⟨1, 8, .func, [.v .nilFunc]⟩
  | 102 => some ⟨7, 80, .struct [(0, 1), (1, 1), (2, 1), (3, 1), (4, 1), (5, 1), (6, 1)], [.v (.int .i64 0), .v (.int .i64 0), .v (.int .i64 0), .v (.int .i64 0), .v (.int .i64 0), .v (.string .empty), .nl true 1 none]⟩
  | 103 => some ⟨7, 80, .struct [(0, 1), (1, 1), (2, 1), (3, 1), (4, 1), (5, 1), (6, 1)], [.v (.int .i64 0), .v (.int .i64 0), .v (.int .i64 0), .v (.int .i64 0), .v (.int .i64 0), .v (.string .empty), .nl true 1 none]⟩
  | 104 => some ⟨1, 8, .func, [.v .nilFunc]⟩
  | 105 => some ⟨1, 8, .func, [.v .nilFunc]⟩
  | 106 => some ⟨1, 8, .func, [.v .nilFunc]⟩
  | 107 => some ⟨3, 24, .struct [(0, 1), (1, 1), (2, 1)], [.v (.int .i64 0), .v (.int .i64 0), .v (.bool false)]⟩
  | 108 => some ⟨3, 24, .struct [(0, 1), (1, 1), (2, 1)], [.v (.int .i64 0), .v (.int .i64 0), .v (.bool false)]⟩
  | 109 => some ⟨1, 8, .func, [.v .nilFunc]⟩
  | 110 => some ⟨1, 8, .func, [.v .nilFunc]⟩
  | 111 => some ⟨1, 8, .func, [.v .nilFunc]⟩
  | 112 => some ⟨7, 80, .struct [(0, 1), (1, 1), (2, 1), (3, 1), (4, 1), (5, 1), (6, 1)], [.v (.int .i64 0), .v (.int .i64 0), .v (.int .i64 0), .v (.int .i64 0), .v (.int .i64 0), .v (.string .empty), .nl true 1 none]⟩
  | 113 => some ⟨1, 8, .func, [.v .nilFunc]⟩
  | 114 => some ⟨1, 8, .func, [.v .nilFunc]⟩
  | 115 => some ⟨1, 8, .func, [.v .nilFunc]⟩
  | 116 => some ⟨1, 8, .func, [.v .nilFunc]⟩
  | 117 => some ⟨1, 8, .func, [.v .nilFunc]⟩
  | 118 => some ⟨4, 56, .struct [(0, 1), (1, 1), (2, 1), (3, 1)], [.v (.int .i64 0), .v (.int .i64 0), .v (.string .empty), .nl true 1 none]⟩
  | 119 => some ⟨1, 8, .func, [.v .nilFunc]⟩
  | 120 => some ⟨1, 24, .slice 158, [.nl true 2 none]⟩
  | 121 => some ⟨5, 64, .struct [(0, 1), (1, 1), (2, 1), (3, 1), (4, 1)], [.v (.string .empty), .nl true 2 none, .v (.int .i64 0), .v (.int .i64 0), .v (.int .i64 0)]⟩
  | 122 => some ⟨5, 64, .struct [(0, 1), (1, 1), (2, 1), (3, 1), (4, 1)], [.v (.string .empty), .nl true 2 none, .v (.int .i64 0), .v (.int .i64 0), .v (.int .i64 0)]⟩
  | 123 => some ⟨1, 8, .func, [.v .nilFunc]⟩
  | 124 => some ⟨1, 8, .func, [.v .nilFunc]⟩
  | 125 => some ⟨1, 8, .func, [.v .nilFunc]⟩
  | 126 => some ⟨1, 24, .slice 148, [.nl true 2 none]⟩
  | 127 => some ⟨5, 64, .struct [(0, 1), (1, 1), (2, 1), (3, 1), (4, 1)], [.v (.string .empty), .nl true 2 none, .v (.int .i64 0), .v (.int .i64 0), .v (.int .i64 0)]⟩
  | 128 => some ⟨5, 64, .struct [(0, 1), (1, 1), (2, 1), (3, 1), (4, 1)], [.v (.string .empty), .nl true 2 none, .v (.int .i64 0), .v (.int .i64 0), .v (.int .i64 0)]⟩
  | 129 => some ⟨1, 8, .func, [.v .nilFunc]⟩
  | 130 => some ⟨1, 8, .func, [.v .nilFunc]⟩
  | 131 => some ⟨1, 8, .func, [.v .nilFunc]⟩
  | 132 => some ⟨1, 8, .func, [.v .nilFunc]⟩
  | 133 => some ⟨1, 8, .func, [.v .nilFunc]⟩
  | 134 => some ⟨1, 8, .func, [.v .nilFunc]⟩
  | 135 => some ⟨1, 8, .func, [.v .nilFunc]⟩
  | 137 => some ⟨1, 8, .func, [.v .nilFunc]⟩
  | 138 => some ⟨1, 8, .func, [.v .nilFunc]⟩
  | 139 => some ⟨1, 8, .func, [.v .nilFunc]⟩
  | 140 => some ⟨1, 8, .func, [.v .nilFunc]⟩
  | 141 => some ⟨1, 8, .func, [.v .nilFunc]⟩
  | 142 => some ⟨1, 8, .func, [.v .nilFunc]⟩
  | 143 => some ⟨1, 8, .func, [.v .nilFunc]⟩
  | 144 => some ⟨1, 8, .func, [.v .nilFunc]⟩
  | 145 => some ⟨1, 24, .slice 5, [.nl true 1 none]⟩
  | 146 => some ⟨1, 8, .func, [.v .nilFunc]⟩
  | 147 => some ⟨2, 24, .struct [(0, 1), (1, 1)], [.v (.string .empty), .v (.int .i64 0)]⟩
  | 148 => some ⟨2, 24, .struct [(0, 1), (1, 1)], [.v (.string .empty), .v (.int .i64 0)]⟩
  | 149 => some ⟨1, 8, .func, [.v .nilFunc]⟩
  | 151 => some ⟨1, 8, .func, [.v .nilFunc]⟩
  | 152 => some ⟨1, 8, .func, [.v .nilFunc]⟩
  | 153 => some ⟨1, 8, .func, [.v .nilFunc]⟩
  | 154 => some ⟨1, 8, .func, [.v .nilFunc]⟩
  | 155 => some ⟨1, 8, .func, [.v .nilFunc]⟩
  | 156 => some ⟨1, 8, .func, [.v .nilFunc]⟩
  | 157 => some ⟨1, 8, .func, [.v .nilFunc]⟩
  | 158 => some ⟨2, 24, .struct [(0, 1), (1, 1)], [.v (.string .empty), .v (.int .i64 0)]⟩
  | 159 => some ⟨1, 8, .func, [.v .nilFunc]⟩
  | 160 => some ⟨1, 8, .func, [.v .nilFunc]⟩
  | 161 => some ⟨1, 24, .slice 9, [.nl true 1 none]⟩
  | 162 => some ⟨1, 8, .func, [.v .nilFunc]⟩
  | 163 => some ⟨1, 8, .func, [.v .nilFunc]⟩
  | 164 => some ⟨1, 8, .func, [.v .nilFunc]⟩
  | 165 => some ⟨1, 8, .func, [.v .nilFunc]⟩
  | 166 => some ⟨1, 8, .func, [.v .nilFunc]⟩
  | 167 => some ⟨1, 8, .func, [.v .nilFunc]⟩
  | 168 => some ⟨1, 8, .func, [.v .nilFunc]⟩
  | 169 => some ⟨1, 8, .func, [.v .nilFunc]⟩
  | 171 => some ⟨1, 8, .func, [.v .nilFunc]⟩
  | 172 => some ⟨1, 8, .func, [.v .nilFunc]⟩
  | 173 => some ⟨1, 8, .func, [.v .nilFunc]⟩
  | 174 => some ⟨1, 8, .int .u64, [.v (.int .u64 0)]⟩
  | 176 => some ⟨2, 2, .struct [(0, 1), (1, 1)], [.v (.int .u8 0), .v (.int .u8 0)]⟩
  | 177 => some ⟨2, 2, .struct [(0, 1), (1, 1)], [.v (.int .u8 0), .v (.int .u8 0)]⟩
  | 179 => some ⟨1, 4, .int .u32, [.v (.int .u32 0)]⟩
  | 181 => some ⟨1, 8, .func, [.v .nilFunc]⟩
  | 182 => some ⟨1, 8, .func, [.v .nilFunc]⟩
  | 183 => some ⟨4, 40, .struct [(0, 1), (1, 1), (2, 1), (3, 1)], [.v (.pointer none), .v (.pointer none), .v (.pointer none), .v (.string .empty)]⟩
  | 188 => some ⟨1, 8, .func, [.v .nilFunc]⟩
  | 191 => some ⟨1, 8, .func, [.v .nilFunc]⟩
  | 192 => some ⟨1, 8, .ptr, [.v (.pointer none)]⟩
  | 195 => some ⟨11, 48, .struct [(0, 1), (1, 1), (2, 1), (3, 1), (4, 1), (5, 1), (6, 1), (7, 1), (8, 1), (9, 1), (10, 1)], [.v (.int .u64 0), .v (.int .u64 0), .v (.int .u32 0), .v (.int .u8 0), .v (.int .u8 0), .v (.int .u8 0), .v (.int .u8 0), .v .nilFunc, .v (.pointer none), .v (.int .i32 0), .v (.int .i32 0)]⟩
  | _ => none
theorem ty_ok (t : TypeId) (ti : TI) (h : ty t = some ti) : TIok Tryd.prog t ti := by
  unfold ty at h
  split at h
  · cases h; exact ⟨by kernel_rfl, Tryd.underlying2, rfl⟩
  · cases h; exact ⟨by kernel_rfl, Tryd.underlying3, rfl⟩
  · cases h; exact ⟨by kernel_rfl, Tryd.underlying4, rfl⟩
  · cases h; exact ⟨by kernel_rfl, Tryd.underlying5, rfl⟩
  · cases h; exact ⟨by kernel_rfl, (show structOffs Tryd.prog 7 = some [(0, 1), (1, 1), (2, 1), (3, 1)] by kernel_rfl), rfl⟩
  · cases h; exact ⟨by kernel_rfl, Tryd.underlying9, rfl⟩
  · cases h; exact ⟨by kernel_rfl, Tryd.underlying12, rfl⟩
  · cases h; exact ⟨by kernel_rfl, (show structOffs Tryd.prog 13 = some [(0, 1), (1, 1)] by kernel_rfl), rfl⟩
  · cases h; exact ⟨by kernel_rfl, ⟨_, Tryd.underlying15⟩, rfl⟩
  · cases h; exact ⟨by kernel_rfl, ⟨_, Tryd.underlying16⟩, rfl⟩
  · cases h; exact ⟨by kernel_rfl, ⟨_, Tryd.underlying17⟩, rfl⟩
  · cases h; exact ⟨by kernel_rfl, (show structOffs Tryd.prog 18 = some [(0, 1)] by kernel_rfl), rfl⟩
  · cases h; exact ⟨by kernel_rfl, ⟨_, Tryd.underlying20⟩, rfl⟩
  · cases h; exact ⟨by kernel_rfl, Tryd.underlying21, rfl⟩
  · cases h; exact ⟨by kernel_rfl, Tryd.underlying22, rfl⟩
  · cases h; exact ⟨by kernel_rfl, Tryd.underlying23, rfl⟩
  · cases h; exact ⟨by kernel_rfl, (show structOffs Tryd.prog 24 = some [(0, 1), (1, 1), (2, 1), (3, 1)] by kernel_rfl), rfl⟩
  · cases h; exact ⟨by kernel_rfl, (show structOffs Tryd.prog 25 = some [(0, 1), (1, 1), (2, 1), (3, 1)] by kernel_rfl), rfl⟩
  · cases h; exact ⟨by kernel_rfl, ⟨_, _, _, Tryd.underlying26⟩, rfl⟩
  · cases h; exact ⟨by kernel_rfl, ⟨_, _, _, Tryd.underlying27⟩, rfl⟩
  · cases h; exact ⟨by kernel_rfl, Tryd.underlying28, rfl⟩
  · cases h; exact ⟨by kernel_rfl, (show structOffs Tryd.prog 29 = some [(0, 1), (1, 1), (2, 1), (3, 1)] by kernel_rfl), rfl⟩
  · cases h; exact ⟨by kernel_rfl, (show structOffs Tryd.prog 30 = some [(0, 1), (1, 1), (2, 1), (3, 1)] by kernel_rfl), rfl⟩
  · cases h; exact ⟨by kernel_rfl, ⟨_, _, _, Tryd.underlying31⟩, rfl⟩
  · cases h; exact ⟨by kernel_rfl, ⟨_, _, _, Tryd.underlying32⟩, rfl⟩
  · cases h; exact ⟨by kernel_rfl, ⟨_, _, _, Tryd.underlying33⟩, rfl⟩
  · cases h; exact ⟨by kernel_rfl, ⟨_, _, _, Tryd.underlying34⟩, rfl⟩
  · cases h; exact ⟨by kernel_rfl, ⟨_, _, _, Tryd.underlying35⟩, rfl⟩
  · cases h; exact ⟨by kernel_rfl, ⟨_, _, _, Tryd.underlying36⟩, rfl⟩
  · cases h; exact ⟨by kernel_rfl, Tryd.underlying37, rfl⟩
  · cases h; exact ⟨by kernel_rfl, ⟨_, _, _, Tryd.underlying38⟩, rfl⟩
  · cases h; exact ⟨by kernel_rfl, ⟨_, _, _, Tryd.underlying39⟩, rfl⟩
  · cases h; exact ⟨by kernel_rfl, ⟨_, _, _, Tryd.underlying40⟩, rfl⟩
  · cases h; exact ⟨by kernel_rfl, Tryd.underlying41, rfl⟩
  · cases h; exact ⟨by kernel_rfl, Tryd.underlying42, rfl⟩
  · cases h; exact ⟨by kernel_rfl, (show structOffs Tryd.prog 43 = some [(0, 1), (1, 1)] by kernel_rfl), rfl⟩
  · cases h; exact ⟨by kernel_rfl, (show structOffs Tryd.prog 44 = some [(0, 1), (1, 1)] by kernel_rfl), rfl⟩
  · cases h; exact ⟨by kernel_rfl, ⟨_, _, _, Tryd.underlying45⟩, rfl⟩
  · cases h; exact ⟨by kernel_rfl, (show structOffs Tryd.prog 46 = some [(0, 1), (1, 1), (2, 1), (3, 1), (4, 1), (5, 1), (6, 1), (7, 1), (8, 1)] by kernel_rfl), rfl⟩
  · cases h; exact ⟨by kernel_rfl, (show structOffs Tryd.prog 47 = some [(0, 1), (1, 1), (2, 1), (3, 1), (4, 1), (5, 1), (6, 1), (7, 1), (8, 1)] by kernel_rfl), rfl⟩
  · cases h; exact ⟨by kernel_rfl, ⟨_, _, _, Tryd.underlying48⟩, rfl⟩
  · cases h; exact ⟨by kernel_rfl, Tryd.underlying49, rfl⟩
  · cases h; exact ⟨by kernel_rfl, Tryd.underlying50, rfl⟩
  · cases h; exact ⟨by kernel_rfl, (show structOffs Tryd.prog 51 = some [(0, 1), (1, 1)] by kernel_rfl), rfl⟩
  · cases h; exact ⟨by kernel_rfl, (show structOffs Tryd.prog 52 = some [(0, 1), (1, 1)] by kernel_rfl), rfl⟩
  · cases h; exact ⟨by kernel_rfl, ⟨_, _, _, Tryd.underlying53⟩, rfl⟩
  · cases h; exact ⟨by kernel_rfl, ⟨_, _, _, Tryd.underlying54⟩, rfl⟩
  · cases h; exact ⟨by kernel_rfl, ⟨_, _, _, Tryd.underlying55⟩, rfl⟩
  · cases h; exact ⟨by kernel_rfl, ⟨_, _, _, Tryd.underlying56⟩, rfl⟩
  · cases h; exact ⟨by kernel_rfl, ⟨_, _, _, Tryd.underlying57⟩, rfl⟩
  · cases h; exact ⟨by kernel_rfl, Tryd.underlying58, rfl⟩
  · cases h; exact ⟨by kernel_rfl, ⟨_, _, _, Tryd.underlying59⟩, rfl⟩
  · cases h; exact ⟨by kernel_rfl, ⟨_, _, _, Tryd.underlying60⟩, rfl⟩
  · cases h; exact ⟨by kernel_rfl, ⟨_, _, _, Tryd.underlying61⟩, rfl⟩
  · cases h; exact ⟨by kernel_rfl, ⟨_, _, _, Tryd.underlying62⟩, rfl⟩
  · cases h; exact ⟨by kernel_rfl, Tryd.underlying63, rfl⟩
  · cases h; exact ⟨by kernel_rfl, ⟨_, _, _, Tryd.underlying64⟩, rfl⟩
  · cases h; exact ⟨by kernel_rfl, ⟨_, _, _, Tryd.underlying65⟩, rfl⟩
  · cases h; exact ⟨by kernel_rfl, ⟨_, _, _, Tryd.underlying66⟩, rfl⟩
  · cases h; exact ⟨by kernel_rfl, ⟨_, _, _, Tryd.underlying67⟩, rfl⟩
  · cases h; exact ⟨by kernel_rfl, ⟨_, _, _, Tryd.underlying68⟩, rfl⟩
  · cases h; exact ⟨by kernel_rfl, Tryd.underlying69, rfl⟩
  · cases h; exact ⟨by kernel_rfl, ⟨_, _, _, Tryd.underlying70⟩, rfl⟩
  · cases h; exact ⟨by kernel_rfl, ⟨_, _, _, Tryd.underlying71⟩, rfl⟩
  · cases h; exact ⟨by kernel_rfl, (show structOffs Tryd.prog 72 = some [(0, 1), (1, 1), (2, 1)] by kernel_rfl), rfl⟩
  · cases h; exact ⟨by kernel_rfl, (show structOffs Tryd.prog 73 = some [(0, 1), (1, 1), (2, 1)] by kernel_rfl), rfl⟩
  · cases h; exact ⟨by kernel_rfl, ⟨_, _, _, Tryd.underlying74⟩, rfl⟩
  · cases h; exact ⟨by kernel_rfl, ⟨_, _, _, Tryd.underlying75⟩, rfl⟩
  · cases h; exact ⟨by kernel_rfl, ⟨_, _, _, Tryd.underlying76⟩, rfl⟩
  · cases h; exact ⟨by kernel_rfl, ⟨_, _, _, Tryd.underlying77⟩, rfl⟩
  · cases h; exact ⟨by kernel_rfl, ⟨_, _, _, Tryd.underlying78⟩, rfl⟩
  · cases h; exact ⟨by kernel_rfl, ⟨_, _, _, Tryd.underlying79⟩, rfl⟩
  · cases h; exact ⟨by kernel_rfl, ⟨_, _, _, Tryd.underlying80⟩, rfl⟩
  · cases h; exact ⟨by kernel_rfl, ⟨_, _, _, Tryd.underlying81⟩, rfl⟩
  · cases h; exact ⟨by kernel_rfl, ⟨_, _, _, Tryd.underlying82⟩, rfl⟩
  · cases h; exact ⟨by kernel_rfl, ⟨_, _, _, Tryd.underlying83⟩, rfl⟩
  · cases h; exact ⟨by kernel_rfl, ⟨_, _, _, Tryd.underlying84⟩, rfl⟩
  · cases h; exact ⟨by kernel_rfl, ⟨_, _, _, Tryd.underlying85⟩, rfl⟩
  · cases h; exact ⟨by kernel_rfl, ⟨_, _, _, Tryd.underlying86⟩, rfl⟩
  · cases h; exact ⟨by kernel_rfl, (show structOffs Tryd.prog 87 = some [(0, 1), (1, 1), (2, 1), (3, 1)] by kernel_rfl), rfl⟩
  · cases h; exact ⟨by kernel_rfl, (show structOffs Tryd.prog 88 = some [(0, 1), (1, 1), (2, 1), (3, 1)] by kernel_rfl), rfl⟩
  · cases h; exact ⟨by kernel_rfl, ⟨_, _, _, Tryd.underlying89⟩, rfl⟩
  · cases h; exact ⟨by kernel_rfl, ⟨_, _, _, Tryd.underlying90⟩, rfl⟩
  · cases h; exact ⟨by kernel_rfl, ⟨_, _, _, Tryd.underlying91⟩, rfl⟩
  · cases h; exact ⟨by kernel_rfl, ⟨_, _, _, Tryd.underlying93⟩, rfl⟩
  · cases h; exact ⟨by kernel_rfl, ⟨_, _, _, Tryd.underlying94⟩, rfl⟩
  · cases h; exact ⟨by kernel_rfl, ⟨_, _, _, Tryd.underlying95⟩, rfl⟩
  · cases h; exact ⟨by kernel_rfl, ⟨_, _, _, Tryd.underlying96⟩, rfl⟩
  · cases h; exact ⟨by kernel_rfl, ⟨_, _, _, Tryd.underlying97⟩, rfl⟩
  · cases h; exact ⟨by kernel_rfl, ⟨_, _, _, Tryd.underlying98⟩, rfl⟩
  · cases h; exact ⟨by kernel_rfl, Tryd.underlying99, rfl⟩
  · cases h; exact ⟨by kernel_rfl, ⟨_, _, _, Tryd.underlying100⟩, rfl⟩
  · cases h; exact ⟨by kernel_rfl, ⟨_, _, _, Tryd.underlying101⟩, rfl⟩
  · cases h; exact ⟨by kernel_rfl, (show structOffs Tryd.prog 102 = some [(0, 1), (1, 1), (2, 1), (3, 1), (4, 1), (5, 1), (6, 1)] by kernel_rfl), rfl⟩
  · cases h; exact ⟨by kernel_rfl, (show structOffs Tryd.prog 103 = some [(0, 1), (1, 1), (2, 1), (3, 1), (4, 1), (5, 1), (6, 1)] by kernel_rfl), rfl⟩
  · cases h; exact ⟨by kernel_rfl, ⟨_, _, _, Tryd.underlying104⟩, rfl⟩
  · cases h; exact ⟨by kernel_rfl, ⟨_, _, _, Tryd.underlying105⟩, rfl⟩
  · cases h; exact ⟨by kernel_rfl, ⟨_, _, _, Tryd.underlying106⟩, rfl⟩
  · cases h; exact ⟨by kernel_rfl, (show structOffs Tryd.prog 107 = some [(0, 1), (1, 1), (2, 1)] by kernel_rfl), rfl⟩
  · cases h; exact ⟨by kernel_rfl, (show structOffs Tryd.prog 108 = some [(0, 1), (1, 1), (2, 1)] by kernel_rfl), rfl⟩
  · cases h; exact ⟨by kernel_rfl, ⟨_, _, _, Tryd.underlying109⟩, rfl⟩
  · cases h; exact ⟨by kernel_rfl, ⟨_, _, _, Tryd.underlying110⟩, rfl⟩
  · cases h; exact ⟨by kernel_rfl, ⟨_, _, _, Tryd.underlying111⟩, rfl⟩
  · cases h; exact ⟨by kernel_rfl, (show structOffs Tryd.prog 112 = some [(0, 1), (1, 1), (2, 1), (3, 1), (4, 1), (5, 1), (6, 1)] by kernel_rfl), rfl⟩
  · cases h; exact ⟨by kernel_rfl, ⟨_, _, _, Tryd.underlying113⟩, rfl⟩
  · cases h; exact ⟨by kernel_rfl, ⟨_, _, _, Tryd.underlying114⟩, rfl⟩
  · cases h; exact ⟨by kernel_rfl, ⟨_, _, _, Tryd.underlying115⟩, rfl⟩
  · cases h; exact ⟨by kernel_rfl, ⟨_, _, _, Tryd.underlying116⟩, rfl⟩
  · cases h; exact ⟨by kernel_rfl, ⟨_, _, _, Tryd.underlying117⟩, rfl⟩
  · cases h; exact ⟨by kernel_rfl, (show structOffs Tryd.prog 118 = some [(0, 1), (1, 1), (2, 1), (3, 1)] by kernel_rfl), rfl⟩
  · cases h; exact ⟨by kernel_rfl, ⟨_, _, _, Tryd.underlying119⟩, rfl⟩
  · cases h; exact ⟨by kernel_rfl, Tryd.underlying120, rfl⟩
  · cases h; exact ⟨by kernel_rfl, (show structOffs Tryd.prog 121 = some [(0, 1), (1, 1), (2, 1), (3, 1), (4, 1)] by kernel_rfl), rfl⟩
  · cases h; exact ⟨by kernel_rfl, (show structOffs Tryd.prog 122 = some [(0, 1), (1, 1), (2, 1), (3, 1), (4, 1)] by kernel_rfl), rfl⟩
  · cases h; exact ⟨by kernel_rfl, ⟨_, _, _, Tryd.underlying123⟩, rfl⟩
  · cases h; exact ⟨by kernel_rfl, ⟨_, _, _, Tryd.underlying124⟩, rfl⟩
  · cases h; exact ⟨by kernel_rfl, ⟨_, _, _, Tryd.underlying125⟩, rfl⟩
  · cases h; exact ⟨by kernel_rfl, Tryd.underlying126, rfl⟩
  · cases h; exact ⟨by kernel_rfl, (show structOffs Tryd.prog 127 = some [(0, 1), (1, 1), (2, 1), (3, 1), (4, 1)] by kernel_rfl), rfl⟩
  · cases h; exact ⟨by kernel_rfl, (show structOffs Tryd.prog 128 = some [(0, 1), (1, 1), (2, 1), (3, 1), (4, 1)] by kernel_rfl), rfl⟩
  · cases h; exact ⟨by kernel_rfl, ⟨_, _, _, Tryd.underlying129⟩, rfl⟩
  · cases h; exact ⟨by kernel_rfl, ⟨_, _, _, Tryd.underlying130⟩, rfl⟩
  · cases h; exact ⟨by kernel_rfl, ⟨_, _, _, Tryd.underlying131⟩, rfl⟩
  · cases h; exact ⟨by kernel_rfl, ⟨_, _, _, Tryd.underlying132⟩, rfl⟩
  · cases h; exact ⟨by kernel_rfl, ⟨_, _, _, Tryd.underlying133⟩, rfl⟩
  · cases h; exact ⟨by kernel_rfl, ⟨_, _, _, Tryd.underlying134⟩, rfl⟩
  · cases h; exact ⟨by kernel_rfl, ⟨_, _, _, Tryd.underlying135⟩, rfl⟩
  · cases h; exact ⟨by kernel_rfl, ⟨_, _, _, Tryd.underlying137⟩, rfl⟩
  · cases h; exact ⟨by kernel_rfl, ⟨_, _, _, Tryd.underlying138⟩, rfl⟩
  · cases h; exact ⟨by kernel_rfl, ⟨_, _, _, Tryd.underlying139⟩, rfl⟩
  · cases h; exact ⟨by kernel_rfl, ⟨_, _, _, Tryd.underlying140⟩, rfl⟩
  · cases h; exact ⟨by kernel_rfl, ⟨_, _, _, Tryd.underlying141⟩, rfl⟩
  · cases h; exact ⟨by kernel_rfl, ⟨_, _, _, Tryd.underlying142⟩, rfl⟩
  · cases h; exact ⟨by kernel_rfl, ⟨_, _, _, Tryd.underlying143⟩, rfl⟩
  · cases h; exact ⟨by kernel_rfl, ⟨_, _, _, Tryd.underlying144⟩, rfl⟩
  · cases h; exact ⟨by kernel_rfl, Tryd.underlying145, rfl⟩
  · cases h; exact ⟨by kernel_rfl, ⟨_, _, _, Tryd.underlying146⟩, rfl⟩
  · cases h; exact ⟨by kernel_rfl, (show structOffs Tryd.prog 147 = some [(0, 1), (1, 1)] by kernel_rfl), rfl⟩
  · cases h; exact ⟨by kernel_rfl, (show structOffs Tryd.prog 148 = some [(0, 1), (1, 1)] by kernel_rfl), rfl⟩
  · cases h; exact ⟨by kernel_rfl, ⟨_, _, _, Tryd.underlying149⟩, rfl⟩
  · cases h; exact ⟨by kernel_rfl, ⟨_, _, _, Tryd.underlying151⟩, rfl⟩
  · cases h; exact ⟨by kernel_rfl, ⟨_, _, _, Tryd.underlying152⟩, rfl⟩
  · cases h; exact ⟨by kernel_rfl, ⟨_, _, _, Tryd.underlying153⟩, rfl⟩
  · cases h; exact ⟨by kernel_rfl, ⟨_, _, _, Tryd.underlying154⟩, rfl⟩
  · cases h; exact ⟨by kernel_rfl, ⟨_, _, _, Tryd.underlying155⟩, rfl⟩
  · cases h; exact ⟨by kernel_rfl, ⟨_, _, _, Tryd.underlying156⟩, rfl⟩
  · cases h; exact ⟨by kernel_rfl, ⟨_, _, _, Tryd.underlying157⟩, rfl⟩
  · cases h; exact ⟨by kernel_rfl, (show structOffs Tryd.prog 158 = some [(0, 1), (1, 1)] by kernel_rfl), rfl⟩
  · cases h; exact ⟨by kernel_rfl, ⟨_, _, _, Tryd.underlying159⟩, rfl⟩
  · cases h; exact ⟨by kernel_rfl, ⟨_, _, _, Tryd.underlying160⟩, rfl⟩
  · cases h; exact ⟨by kernel_rfl, Tryd.underlying161, rfl⟩
  · cases h; exact ⟨by kernel_rfl, ⟨_, _, _, Tryd.underlying162⟩, rfl⟩
  · cases h; exact ⟨by kernel_rfl, ⟨_, _, _, Tryd.underlying163⟩, rfl⟩
  · cases h; exact ⟨by kernel_rfl, ⟨_, _, _, Tryd.underlying164⟩, rfl⟩
  · cases h; exact ⟨by kernel_rfl, ⟨_, _, _, Tryd.underlying165⟩, rfl⟩
  · cases h; exact ⟨by kernel_rfl, ⟨_, _, _, Tryd.underlying166⟩, rfl⟩
  · cases h; exact ⟨by kernel_rfl, ⟨_, _, _, Tryd.underlying167⟩, rfl⟩
  · cases h; exact ⟨by kernel_rfl, ⟨_, _, _, Tryd.underlying168⟩, rfl⟩
  · cases h; exact ⟨by kernel_rfl, ⟨_, _, _, Tryd.underlying169⟩, rfl⟩
  · cases h; exact ⟨by kernel_rfl, ⟨_, _, _, Tryd.underlying171⟩, rfl⟩
  · cases h; exact ⟨by kernel_rfl, ⟨_, _, _, Tryd.underlying172⟩, rfl⟩
  · cases h; exact ⟨by kernel_rfl, ⟨_, _, _, Tryd.underlying173⟩, rfl⟩
  · cases h; exact ⟨by kernel_rfl, Tryd.underlying174, rfl⟩
  · cases h; exact ⟨by kernel_rfl, (show structOffs Tryd.prog 176 = some [(0, 1), (1, 1)] by kernel_rfl), rfl⟩
  · cases h; exact ⟨by kernel_rfl, (show structOffs Tryd.prog 177 = some [(0, 1), (1, 1)] by kernel_rfl), rfl⟩
  · cases h; exact ⟨by kernel_rfl, Tryd.underlying179, rfl⟩
  · cases h; exact ⟨by kernel_rfl, ⟨_, _, _, Tryd.underlying181⟩, rfl⟩
  · cases h; exact ⟨by kernel_rfl, ⟨_, _, _, Tryd.underlying182⟩, rfl⟩
  · cases h; exact ⟨by kernel_rfl, (show structOffs Tryd.prog 183 = some [(0, 1), (1, 1), (2, 1), (3, 1)] by kernel_rfl), rfl⟩
  · cases h; exact ⟨by kernel_rfl, ⟨_, _, _, Tryd.underlying188⟩, rfl⟩
  · cases h; exact ⟨by kernel_rfl, ⟨_, _, _, Tryd.underlying191⟩, rfl⟩
  · cases h; exact ⟨by kernel_rfl, ⟨_, Tryd.underlying192⟩, rfl⟩
  · cases h; exact ⟨by kernel_rfl, (show structOffs Tryd.prog 195 = some [(0, 1), (1, 1), (2, 1), (3, 1), (4, 1), (5, 1), (6, 1), (7, 1), (8, 1), (9, 1), (10, 1)] by kernel_rfl), rfl⟩
  · cases h
noncomputable def E : Env := ⟨Tryd.prog, ty, ty_ok, by kernel_rfl, [(0, fun cs => ∃ m, cs[0]? = some (.int .i64 m))]⟩
@[simp] theorem E_ty2 : E.ty 2 = some ⟨1, 8, .int .i64, [.v (.int .i64 0)]⟩ := rfl
@[simp] theorem E_ty3 : E.ty 3 = some ⟨1, 8, .int .i64, [.v (.int .i64 0)]⟩ := rfl
@[simp] theorem E_ty4 : E.ty 4 = some ⟨1, 1, .bool, [.v (.bool false)]⟩ := rfl
@[simp] theorem E_ty5 : E.ty 5 = some ⟨1, 1, .int .u8, [.v (.int .u8 0)]⟩ := rfl
@[simp] theorem E_ty7 : E.ty 7 = some ⟨4, 24, .struct [(0, 1), (1, 1), (2, 1), (3, 1)], [.v (.int .i64 0), .v (.int .i64 0), .v (.bool false), .v (.int .u8 0)]⟩ := rfl
@[simp] theorem E_ty9 : E.ty 9 = some ⟨1, 16, .str, [.v (.string .empty)]⟩ := rfl
@[simp] theorem E_ty12 : E.ty 12 = some ⟨1, 8, .int .u64, [.v (.int .u64 0)]⟩ := rfl
@[simp] theorem E_ty13 : E.ty 13 = some ⟨2, 24, .struct [(0, 1), (1, 1)], [.v (.string .empty), .v (.int .u64 0)]⟩ := rfl
@[simp] theorem E_ty15 : E.ty 15 = some ⟨1, 8, .ptr, [.v (.pointer none)]⟩ := rfl
@[simp] theorem E_ty16 : E.ty 16 = some ⟨1, 8, .ptr, [.v (.pointer none)]⟩ := rfl
@[simp] theorem E_ty17 : E.ty 17 = some ⟨1, 8, .ptr, [.v (.pointer none)]⟩ := rfl
@[simp] theorem E_ty18 : E.ty 18 = some ⟨1, 8, .struct [(0, 1)], [.v (.pointer none)]⟩ := rfl
@[simp] theorem E_ty20 : E.ty 20 = some ⟨1, 16, .iface, [.v .nilIface]⟩ := rfl
@[simp] theorem E_ty21 : E.ty 21 = some ⟨1, 4, .int .i32, [.v (.int .i32 0)]⟩ := rfl
@[simp] theorem E_ty22 : E.ty 22 = some ⟨1, 24, .slice 3, [.nl true 1 none]⟩ := rfl
@[simp] theorem E_ty23 : E.ty 23 = some ⟨1, 24, .slice 112, [.nl true 7 none]⟩ := rfl
@[simp] theorem E_ty24 : E.ty 24 = some ⟨4, 72, .struct [(0, 1), (1, 1), (2, 1), (3, 1)], [.v (.string .empty), .v (.int .i64 0), .nl true 1 none, .nl true 7 none]⟩ := rfl
@[simp] theorem E_ty25 : E.ty 25 = some ⟨4, 72, .struct [(0, 1), (1, 1), (2, 1), (3, 1)], [.v (.string .empty), .v (.int .i64 0), .nl true 1 none, .nl true 7 none]⟩ := rfl
@[simp] theorem E_ty26 : E.ty 26 = some ⟨1, 8, .func, [.v .nilFunc]⟩ := rfl
@[simp] theorem E_ty27 : E.ty 27 = some ⟨1, 8, .func, [.v .nilFunc]⟩ := rfl
@[simp] theorem E_ty28 : E.ty 28 = some ⟨1, 24, .slice 103, [.nl true 7 none]⟩ := rfl
@[simp] theorem E_ty29 : E.ty 29 = some ⟨4, 72, .struct [(0, 1), (1, 1), (2, 1), (3, 1)], [.v (.string .empty), .v (.int .i64 0), .nl true 1 none, .nl true 7 none]⟩ := rfl
@[simp] theorem E_ty30 : E.ty 30 = some ⟨4, 72, .struct [(0, 1), (1, 1), (2, 1), (3, 1)], [.v (.string .empty), .v (.int .i64 0), .nl true 1 none, .nl true 7 none]⟩ := rfl
@[simp] theorem E_ty31 : E.ty 31 = some ⟨1, 8, .func, [.v .nilFunc]⟩ := rfl
@[simp] theorem E_ty32 : E.ty 32 = some ⟨1, 8, .func, [.v .nilFunc]⟩ := rfl
@[simp] theorem E_ty33 : E.ty 33 = some ⟨1, 8, .func, [.v .nilFunc]⟩ := rfl
@[simp] theorem E_ty34 : E.ty 34 = some ⟨1, 8, .func, [.v .nilFunc]⟩ := rfl
@[simp] theorem E_ty35 : E.ty 35 = some ⟨1, 8, .func, [.v .nilFunc]⟩ := rfl
@[simp] theorem E_ty36 : E.ty 36 = some ⟨1, 8, .func, [.v .nilFunc]⟩ := rfl
@[simp] theorem E_ty37 : E.ty 37 = some ⟨1, 24, .slice 63, [.nl true 1 none]⟩ := rfl
@[simp] theorem E_ty38 : E.ty 38 = some ⟨1, 8, .func, [.v .nilFunc]⟩ := rfl
@[simp] theorem E_ty39 : E.ty 39 = some ⟨1, 8, .func, [.v .nilFunc]⟩ := rfl
@[simp] theorem E_ty40 : E.ty 40 = some ⟨1, 8, .func, [.v .nilFunc]⟩ := rfl
@[simp] theorem E_ty41 : E.ty 41 = some ⟨1, 24, .slice 118, [.nl true 4 none]⟩ := rfl
@[simp] theorem E_ty42 : E.ty 42 = some ⟨1, 24, .slice 122, [.nl true 5 none]⟩ := rfl
@[simp] theorem E_ty43 : E.ty 43 = some ⟨2, 48, .struct [(0, 1), (1, 1)], [.nl true 4 none, .nl true 5 none]⟩ := rfl
@[simp] theorem E_ty44 : E.ty 44 = some ⟨2, 48, .struct [(0, 1), (1, 1)], [.nl true 4 none, .nl true 5 none]⟩ := rfl
@[simp] theorem E_ty45 : E.ty 45 = some ⟨1, 8, .func, [.v .nilFunc]⟩ := rfl
@[simp] theorem E_ty46 : E.ty 46 = some ⟨9, 72, .struct [(0, 1), (1, 1), (2, 1), (3, 1), (4, 1), (5, 1), (6, 1), (7, 1), (8, 1)], [.v (.int .i64 0), .v (.int .i64 0), .v (.int .i64 0), .v (.int .i64 0), .v (.int .i64 0), .v (.int .i64 0), .v (.int .i64 0), .v (.int .i64 0), .v (.int .i64 0)]⟩ := rfl
@[simp] theorem E_ty47 : E.ty 47 = some ⟨9, 72, .struct [(0, 1), (1, 1), (2, 1), (3, 1), (4, 1), (5, 1), (6, 1), (7, 1), (8, 1)], [.v (.int .i64 0), .v (.int .i64 0), .v (.int .i64 0), .v (.int .i64 0), .v (.int .i64 0), .v (.int .i64 0), .v (.int .i64 0), .v (.int .i64 0), .v (.int .i64 0)]⟩ := rfl
@[simp] theorem E_ty48 : E.ty 48 = some ⟨1, 8, .func, [.v .nilFunc]⟩ := rfl
@[simp] theorem E_ty49 : E.ty 49 = some ⟨1, 24, .slice 88, [.nl true 4 none]⟩ := rfl
@[simp] theorem E_ty50 : E.ty 50 = some ⟨1, 24, .slice 128, [.nl true 5 none]⟩ := rfl
@[simp] theorem E_ty51 : E.ty 51 = some ⟨2, 48, .struct [(0, 1), (1, 1)], [.nl true 4 none, .nl true 5 none]⟩ := rfl
@[simp] theorem E_ty52 : E.ty 52 = some ⟨2, 48, .struct [(0, 1), (1, 1)], [.nl true 4 none, .nl true 5 none]⟩ := rfl
@[simp] theorem E_ty53 : E.ty 53 = some ⟨1, 8, .func, [.v .nilFunc]⟩ := rfl
@[simp] theorem E_ty54 : E.ty 54 = some ⟨1, 8, .func, [.v .nilFunc]⟩ := rfl
@[simp] theorem E_ty55 : E.ty 55 = some ⟨1, 8, .func, [.v .nilFunc]⟩ := rfl
@[simp] theorem E_ty56 : E.ty 56 = some ⟨1, 8, .func, [.v .nilFunc]⟩ := rfl
@[simp] theorem E_ty57 : E.ty 57 = some ⟨1, 8, .func, [.v .nilFunc]⟩ := rfl
@[simp] theorem E_ty58 : E.ty 58 = some ⟨1, 24, .slice 37, [.nl true 1 none]⟩ := rfl
@[simp] theorem E_ty59 : E.ty 59 = some ⟨1, 8, .func, [.v .nilFunc]⟩ := rfl
@[simp] theorem E_ty60 : E.ty 60 = some ⟨1, 8, .func, [.v .nilFunc]⟩ := rfl
@[simp] theorem E_ty61 : E.ty 61 = some ⟨1, 8, .func, [.v .nilFunc]⟩ := rfl
@[simp] theorem E_ty62 : E.ty 62 = some ⟨1, 8, .func, [.v .nilFunc]⟩ := rfl
@[simp] theorem E_ty63 : E.ty 63 = some ⟨1, 24, .slice 4, [.nl true 1 none]⟩ := rfl
@[simp] theorem E_ty64 : E.ty 64 = some ⟨1, 8, .func, [.v .nilFunc]⟩ := rfl
@[simp] theorem E_ty65 : E.ty 65 = some ⟨1, 8, .func, [.v .nilFunc]⟩ := rfl
@[simp] theorem E_ty66 : E.ty 66 = some ⟨1, 8, .func, [.v .nilFunc]⟩ := rfl
@[simp] theorem E_ty67 : E.ty 67 = some ⟨1, 8, .func, [.v .nilFunc]⟩ := rfl
@[simp] theorem E_ty68 : E.ty 68 = some ⟨1, 8, .func, [.v .nilFunc]⟩ := rfl
@[simp] theorem E_ty69 : E.ty 69 = some ⟨1, 24, .slice 73, [.nl true 3 none]⟩ := rfl
@[simp] theorem E_ty70 : E.ty 70 = some ⟨1, 8, .func, [.v .nilFunc]⟩ := rfl
@[simp] theorem E_ty71 : E.ty 71 = some ⟨1, 8, .func, [.v .nilFunc]⟩ := rfl
@[simp] theorem E_ty72 : E.ty 72 = some ⟨3, 40, .struct [(0, 1), (1, 1), (2, 1)], [.v (.int .i64 0), .v (.int .i64 0), .nl true 1 none]⟩ := rfl
@[simp] theorem E_ty73 : E.ty 73 = some ⟨3, 40, .struct [(0, 1), (1, 1), (2, 1)], [.v (.int .i64 0), .v (.int .i64 0), .nl true 1 none]⟩ := rfl
@[simp] theorem E_ty74 : E.ty 74 = some ⟨1, 8, .func, [.v .nilFunc]⟩ := rfl
@[simp] theorem E_ty75 : E.ty 75 = some ⟨1, 8, .func, [.v .nilFunc]⟩ := rfl
@[simp] theorem E_ty76 : E.ty 76 = some ⟨1, 8, .func, [.v .nilFunc]⟩ := rfl
@[simp] theorem E_ty77 : E.ty 77 = some ⟨1, 8, .func, [.v .nilFunc]⟩ := rfl
@[simp] theorem E_ty78 : E.ty 78 = some ⟨1, 8, .func, [.v .nilFunc]⟩ := rfl
@[simp] theorem E_ty79 : E.ty 79 = some ⟨1, 8, .func, [.v .nilFunc]⟩ := rfl
@[simp] theorem E_ty80 : E.ty 80 = some ⟨1, 8, .func, [.v .nilFunc]⟩ := rfl
@[simp] theorem E_ty81 : E.ty 81 = some ⟨1, 8, .func, [.v .nilFunc]⟩ := rfl
@[simp] theorem E_ty82 : E.ty 82 = some ⟨1, 8, .func, [.v .nilFunc]⟩ := rfl
@[simp] theorem E_ty83 : E.ty 83 = some ⟨1, 8, .func, [.v .nilFunc]⟩ := rfl
@[simp] theorem E_ty84 : E.ty 84 = some ⟨1, 8, .func, [.v .nilFunc]⟩ := rfl
@[simp] theorem E_ty85 : E.ty 85 = some ⟨1, 8, .func, [.v .nilFunc]⟩ := rfl
@[simp] theorem E_ty86 : E.ty 86 = some ⟨1, 8, .func, [.v .nilFunc]⟩ := rfl
@[simp] theorem E_ty87 : E.ty 87 = some ⟨4, 56, .struct [(0, 1), (1, 1), (2, 1), (3, 1)], [.v (.int .i64 0), .v (.int .i64 0), .v (.string .empty), .nl true 1 none]⟩ := rfl
@[simp] theorem E_ty88 : E.ty 88 = some ⟨4, 56, .struct [(0, 1), (1, 1), (2, 1), (3, 1)], [.v (.int .i64 0), .v (.int .i64 0), .v (.string .empty), .nl true 1 none]⟩ := rfl
@[simp] theorem E_ty89 : E.ty 89 = some ⟨1, 8, .func, [.v .nilFunc]⟩ := rfl
@[simp] theorem E_ty90 : E.ty 90 = some ⟨1, 8, .func, [.v .nilFunc]⟩ := rfl
@[simp] theorem E_ty91 : E.ty 91 = some ⟨1, 8, .func, [.v .nilFunc]⟩ := rfl
@[simp] theorem E_ty93 : E.ty 93 = some ⟨1, 8, .func, [.v .nilFunc]⟩ := rfl
@[simp] theorem E_ty94 : E.ty 94 = some ⟨1, 8, .func, [.v .nilFunc]⟩ := rfl
@[simp] theorem E_ty95 : E.ty 95 = some ⟨1, 8, .func, [.v .nilFunc]⟩ := rfl
@[simp] theorem E_ty96 : E.ty 96 = some ⟨1, 8, .func, [.v .nilFunc]⟩ := rfl
@[simp] theorem E_ty97 : E.ty 97 = some ⟨1, 8, .func, [.v .nilFunc]⟩ := rfl
@[simp] theorem E_ty98 : E.ty 98 = some ⟨1, 8, .func, [.v .nilFunc]⟩ := rfl
@[simp] theorem E_ty99 : E.ty 99 = some ⟨1, 24, .slice 108, [.nl true 3 none]⟩ := rfl
@[simp] theorem E_ty100 : E.ty 100 = some ⟨1, 8, .func, [.v .nilFunc]⟩ := rfl
@[simp] theorem E_ty101 : E.ty 101 = some ⟨1, 8, .func, [.v .nilFunc]⟩ := rfl
@[simp] theorem E_ty102 : E.ty 102 = some ⟨7, 80, .struct [(0, 1), (1, 1), (2, 1), (3, 1), (4, 1), (5, 1), (6, 1)], [.v (.int .i64 0), .v (.int .i64 0), .v (.int .i64 0), .v (.int .i64 0), .v (.int .i64 0), .v (.string .empty), .nl true 1 none]⟩ := rfl
@[simp] theorem E_ty103 : E.ty 103 = some ⟨7, 80, .struct [(0, 1), (1, 1), (2, 1), (3, 1), (4, 1), (5, 1), (6, 1)], [.v (.int .i64 0), .v (.int .i64 0), .v (.int .i64 0), .v (.int .i64 0), .v (.int .i64 0), .v (.string .empty), .nl true 1 none]⟩ := rfl
@[simp] theorem E_ty104 : E.ty 104 = some ⟨1, 8, .func, [.v .nilFunc]⟩ := rfl
@[simp] theorem E_ty105 : E.ty 105 = some ⟨1, 8, .func, [.v .nilFunc]⟩ := rfl
@[simp] theorem E_ty106 : E.ty 106 = some ⟨1, 8, .func, [.v .nilFunc]⟩ := rfl
@[simp] theorem E_ty107 : E.ty 107 = some ⟨3, 24, .struct [(0, 1), (1, 1), (2, 1)], [.v (.int .i64 0), .v (.int .i64 0), .v (.bool false)]⟩ := rfl
@[simp] theorem E_ty108 : E.ty 108 = some ⟨3, 24, .struct [(0, 1), (1, 1), (2, 1)], [.v (.int .i64 0), .v (.int .i64 0), .v (.bool false)]⟩ := rfl
@[simp] theorem E_ty109 : E.ty 109 = some ⟨1, 8, .func, [.v .nilFunc]⟩ := rfl
@[simp] theorem E_ty110 : E.ty 110 = some ⟨1, 8, .func, [.v .nilFunc]⟩ := rfl
@[simp] theorem E_ty111 : E.ty 111 = some ⟨1, 8, .func, [.v .nilFunc]⟩ := rfl
@[simp] theorem E_ty112 : E.ty 112 = some ⟨7, 80, .struct [(0, 1), (1, 1), (2, 1), (3, 1), (4, 1), (5, 1), (6, 1)], [.v (.int .i64 0), .v (.int .i64 0), .v (.int .i64 0), .v (.int .i64 0), .v (.int .i64 0), .v (.string .empty), .nl true 1 none]⟩ := rfl
@[simp] theorem E_ty113 : E.ty 113 = some ⟨1, 8, .func, [.v .nilFunc]⟩ := rfl
@[simp] theorem E_ty114 : E.ty 114 = some ⟨1, 8, .func, [.v .nilFunc]⟩ := rfl
@[simp] theorem E_ty115 : E.ty 115 = some ⟨1, 8, .func, [.v .nilFunc]⟩ := rfl
@[simp] theorem E_ty116 : E.ty 116 = some ⟨1, 8, .func, [.v .nilFunc]⟩ := rfl
@[simp] theorem E_ty117 : E.ty 117 = some ⟨1, 8, .func, [.v .nilFunc]⟩ := rfl
@[simp] theorem E_ty118 : E.ty 118 = some ⟨4, 56, .struct [(0, 1), (1, 1), (2, 1), (3, 1)], [.v (.int .i64 0), .v (.int .i64 0), .v (.string .empty), .nl true 1 none]⟩ := rfl
@[simp] theorem E_ty119 : E.ty 119 = some ⟨1, 8, .func, [.v .nilFunc]⟩ := rfl
@[simp] theorem E_ty120 : E.ty 120 = some ⟨1, 24, .slice 158, [.nl true 2 none]⟩ := rfl
@[simp] theorem E_ty121 : E.ty 121 = some ⟨5, 64, .struct [(0, 1), (1, 1), (2, 1), (3, 1), (4, 1)], [.v (.string .empty), .nl true 2 none, .v (.int .i64 0), .v (.int .i64 0), .v (.int .i64 0)]⟩ := rfl
@[simp] theorem E_ty122 : E.ty 122 = some ⟨5, 64, .struct [(0, 1), (1, 1), (2, 1), (3, 1), (4, 1)], [.v (.string .empty), .nl true 2 none, .v (.int .i64 0), .v (.int .i64 0), .v (.int .i64 0)]⟩ := rfl
@[simp] theorem E_ty123 : E.ty 123 = some ⟨1, 8, .func, [.v .nilFunc]⟩ := rfl
@[simp] theorem E_ty124 : E.ty 124 = some ⟨1, 8, .func, [.v .nilFunc]⟩ := rfl
@[simp] theorem E_ty125 : E.ty 125 = some ⟨1, 8, .func, [.v .nilFunc]⟩ := rfl
@[simp] theorem E_ty126 : E.ty 126 = some ⟨1, 24, .slice 148, [.nl true 2 none]⟩ := rfl
@[simp] theorem E_ty127 : E.ty 127 = some ⟨5, 64, .struct [(0, 1), (1, 1), (2, 1), (3, 1), (4, 1)], [.v (.string .empty), .nl true 2 none, .v (.int .i64 0), .v (.int .i64 0), .v (.int .i64 0)]⟩ := rfl
@[simp] theorem E_ty128 : E.ty 128 = some ⟨5, 64, .struct [(0, 1), (1, 1), (2, 1), (3, 1), (4, 1)], [.v (.string .empty), .nl true 2 none, .v (.int .i64 0), .v (.int .i64 0), .v (.int .i64 0)]⟩ := rfl
@[simp] theorem E_ty129 : E.ty 129 = some ⟨1, 8, .func, [.v .nilFunc]⟩ := rfl
@[simp] theorem E_ty130 : E.ty 130 = some ⟨1, 8, .func, [.v .nilFunc]⟩ := rfl
@[simp] theorem E_ty131 : E.ty 131 = some ⟨1, 8, .func, [.v .nilFunc]⟩ := rfl
@[simp] theorem E_ty132 : E.ty 132 = some ⟨1, 8, .func, [.v .nilFunc]⟩ := rfl
@[simp] theorem E_ty133 : E.ty 133 = some ⟨1, 8, .func, [.v .nilFunc]⟩ := rfl
@[simp] theorem E_ty134 : E.ty 134 = some ⟨1, 8, .func, [.v .nilFunc]⟩ := rfl
@[simp] theorem E_ty135 : E.ty 135 = some ⟨1, 8, .func, [.v .nilFunc]⟩ := rfl
@[simp] theorem E_ty137 : E.ty 137 = some ⟨1, 8, .func, [.v .nilFunc]⟩ := rfl
@[simp] theorem E_ty138 : E.ty 138 = some ⟨1, 8, .func, [.v .nilFunc]⟩ := rfl
@[simp] theorem E_ty139 : E.ty 139 = some ⟨1, 8, .func, [.v .nilFunc]⟩ := rfl
@[simp] theorem E_ty140 : E.ty 140 = some ⟨1, 8, .func, [.v .nilFunc]⟩ := rfl
@[simp] theorem E_ty141 : E.ty 141 = some ⟨1, 8, .func, [.v .nilFunc]⟩ := rfl
@[simp] theorem E_ty142 : E.ty 142 = some ⟨1, 8, .func, [.v .nilFunc]⟩ := rfl
@[simp] theorem E_ty143 : E.ty 143 = some ⟨1, 8, .func, [.v .nilFunc]⟩ := rfl
@[simp] theorem E_ty144 : E.ty 144 = some ⟨1, 8, .func, [.v .nilFunc]⟩ := rfl
@[simp] theorem E_ty145 : E.ty 145 = some ⟨1, 24, .slice 5, [.nl true 1 none]⟩ := rfl
@[simp] theorem E_ty146 : E.ty 146 = some ⟨1, 8, .func, [.v .nilFunc]⟩ := rfl
@[simp] theorem E_ty147 : E.ty 147 = some ⟨2, 24, .struct [(0, 1), (1, 1)], [.v (.string .empty), .v (.int .i64 0)]⟩ := rfl
@[simp] theorem E_ty148 : E.ty 148 = some ⟨2, 24, .struct [(0, 1), (1, 1)], [.v (.string .empty), .v (.int .i64 0)]⟩ := rfl
@[simp] theorem E_ty149 : E.ty 149 = some ⟨1, 8, .func, [.v .nilFunc]⟩ := rfl
@[simp] theorem E_ty151 : E.ty 151 = some ⟨1, 8, .func, [.v .nilFunc]⟩ := rfl
@[simp] theorem E_ty152 : E.ty 152 = some ⟨1, 8, .func, [.v .nilFunc]⟩ := rfl
@[simp] theorem E_ty153 : E.ty 153 = some ⟨1, 8, .func, [.v .nilFunc]⟩ := rfl
@[simp] theorem E_ty154 : E.ty 154 = some ⟨1, 8, .func, [.v .nilFunc]⟩ := rfl
@[simp] theorem E_ty155 : E.ty 155 = some ⟨1, 8, .func, [.v .nilFunc]⟩ := rfl
@[simp] theorem E_ty156 : E.ty 156 = some ⟨1, 8, .func, [.v .nilFunc]⟩ := rfl
@[simp] theorem E_ty157 : E.ty 157 = some ⟨1, 8, .func, [.v .nilFunc]⟩ := rfl
@[simp] theorem E_ty158 : E.ty 158 = some ⟨2, 24, .struct [(0, 1), (1, 1)], [.v (.string .empty), .v (.int .i64 0)]⟩ := rfl
@[simp] theorem E_ty159 : E.ty 159 = some ⟨1, 8, .func, [.v .nilFunc]⟩ := rfl
@[simp] theorem E_ty160 : E.ty 160 = some ⟨1, 8, .func, [.v .nilFunc]⟩ := rfl
@[simp] theorem E_ty161 : E.ty 161 = some ⟨1, 24, .slice 9, [.nl true 1 none]⟩ := rfl
@[simp] theorem E_ty162 : E.ty 162 = some ⟨1, 8, .func, [.v .nilFunc]⟩ := rfl
@[simp] theorem E_ty163 : E.ty 163 = some ⟨1, 8, .func, [.v .nilFunc]⟩ := rfl
@[simp] theorem E_ty164 : E.ty 164 = some ⟨1, 8, .func, [.v .nilFunc]⟩ := rfl
@[simp] theorem E_ty165 : E.ty 165 = some ⟨1, 8, .func, [.v .nilFunc]⟩ := rfl
@[simp] theorem E_ty166 : E.ty 166 = some ⟨1, 8, .func, [.v .nilFunc]⟩ := rfl
@[simp] theorem E_ty167 : E.ty 167 = some ⟨1, 8, .func, [.v .nilFunc]⟩ := rfl
@[simp] theorem E_ty168 : E.ty 168 = some ⟨1, 8, .func, [.v .nilFunc]⟩ := rfl
@[simp] theorem E_ty169 : E.ty 169 = some ⟨1, 8, .func, [.v .nilFunc]⟩ := rfl
@[simp] theorem E_ty171 : E.ty 171 = some ⟨1, 8, .func, [.v .nilFunc]⟩ := rfl
@[simp] theorem E_ty172 : E.ty 172 = some ⟨1, 8, .func, [.v .nilFunc]⟩ := rfl
@[simp] theorem E_ty173 : E.ty 173 = some ⟨1, 8, .func, [.v .nilFunc]⟩ := rfl
@[simp] theorem E_ty174 : E.ty 174 = some ⟨1, 8, .int .u64, [.v (.int .u64 0)]⟩ := rfl
@[simp] theorem E_ty176 : E.ty 176 = some ⟨2, 2, .struct [(0, 1), (1, 1)], [.v (.int .u8 0), .v (.int .u8 0)]⟩ := rfl
@[simp] theorem E_ty177 : E.ty 177 = some ⟨2, 2, .struct [(0, 1), (1, 1)], [.v (.int .u8 0), .v (.int .u8 0)]⟩ := rfl
@[simp] theorem E_ty179 : E.ty 179 = some ⟨1, 4, .int .u32, [.v (.int .u32 0)]⟩ := rfl
@[simp] theorem E_ty181 : E.ty 181 = some ⟨1, 8, .func, [.v .nilFunc]⟩ := rfl
@[simp] theorem E_ty182 : E.ty 182 = some ⟨1, 8, .func, [.v .nilFunc]⟩ := rfl
@[simp] theorem E_ty183 : E.ty 183 = some ⟨4, 40, .struct [(0, 1), (1, 1), (2, 1), (3, 1)], [.v (.pointer none), .v (.pointer none), .v (.pointer none), .v (.string .empty)]⟩ := rfl
@[simp] theorem E_ty188 : E.ty 188 = some ⟨1, 8, .func, [.v .nilFunc]⟩ := rfl
@[simp] theorem E_ty191 : E.ty 191 = some ⟨1, 8, .func, [.v .nilFunc]⟩ := rfl
@[simp] theorem E_ty192 : E.ty 192 = some ⟨1, 8, .ptr, [.v (.pointer none)]⟩ := rfl
@[simp] theorem E_ty195 : E.ty 195 = some ⟨11, 48, .struct [(0, 1), (1, 1), (2, 1), (3, 1), (4, 1), (5, 1), (6, 1), (7, 1), (8, 1), (9, 1), (10, 1)], [.v (.int .u64 0), .v (.int .u64 0), .v (.int .u32 0), .v (.int .u8 0), .v (.int .u8 0), .v (.int .u8 0), .v (.int .u8 0), .v .nilFunc, .v (.pointer none), .v (.int .i32 0), .v (.int .i32 0)]⟩ := rfl
end Go.Proofs.T
set_option linter.unusedVariables false
set_option linter.unusedSimpArgs false
set_option maxHeartbeats 1000000
namespace Go.Proofs.T
open Go.OM
theorem res44 : Tryd.f44.results.toList = [.tmp 4] := rfl
theorem ent44 : Enters E.P 44 := enters_of Tryd.func44 (by simp [Tryd.f44]) rfl
theorem laws_szIntS_ok (a1 : List Int) (left2 : Int) {r0 : Int} (h : laws_szIntS a1 left2 = some r0) : Ok E 44 [.val (.sl false 1 (List.map vi a1)), .val (vi left2)] [vi r0] [] := by
  refine ok_of_body (fn := Tryd.f44) Tryd.func44 rfl (by simp [Tryd.f44]) fun C hN hP => ?_
  have hPB : ∀ l, pinK [] l = true → pinB C.pin l = true := pinB_of (by rw [hP]; rfl)
  have hN' : C.N = 12 := hN
  clear hN
  unfold laws_szIntS at h
  refine SWp.seqR rfl (hPB _ rfl) fun K hK => ?_
  refine wps_cons rfl fun K hK => ?_; simp [hN']; refine hK _ ?_; clear hK
  refine wps_nil (hK _ ?_); clear hK
  refine SWp.seqR rfl (hPB _ rfl) fun K hK => ?_
  iterate 5 (refine wps_cons rfl fun K hK => ?_; simp [hN']; refine hK _ ?_; clear hK)
  refine wps_nil (hK _ ?_); clear hK
  refine SWp.seq ?_
  refine SWp.seqR rfl (hPB _ rfl) fun K hK => ?_
  iterate 2 (refine wps_cons rfl fun K hK => ?_; simp [hN']; refine hK _ ?_; clear hK)
  refine wps_nil (hK _ ?_); clear hK
  rcases ite_or h with ⟨hb3, h⟩ | ⟨hb4, h⟩
  · refine SWp.condT' (b := decide (IntKind.wrap .i64 (left2 - (a1.length : Int)) < 0)) (by simp) hb3 ?_
    refine SWp.seqR rfl (hPB _ rfl) fun K hK => ?_
    refine wps_cons rfl fun K hK => ?_; simp [hN']; refine hK _ ?_; clear hK
    refine wps_nil (hK _ ?_); clear hK
    cases h
    refine SWp.ret ?_
    simp [thenS, inBlockS, res44]
  · refine SWp.condF' (b := decide (IntKind.wrap .i64 (left2 - (a1.length : Int)) < 0)) (by simp) hb4 ?_
    refine SWp.skip ?_
    show SWp E C _ _ _
    refine SWp.seqR rfl (hPB _ rfl) fun K hK => ?_
    iterate 2 (refine wps_cons rfl fun K hK => ?_; simp [hN']; refine hK _ ?_; clear hK)
    refine wps_nil (hK _ ?_); clear hK
    cases h
    refine SWp.ret ?_
    simp [thenS, inBlockS, res44]
end Go.Proofs.T
set_option linter.unusedVariables false
set_option linter.unusedSimpArgs false
set_option maxHeartbeats 1000000
namespace Go.Proofs.T
open Go.OM
theorem res99 : Tryd.f99.results.toList = [.tmp 4] := rfl
theorem ent99 : Enters E.P 99 := enters_of Tryd.func99 (by simp [Tryd.f99]) rfl
theorem laws_szNode_ok (a1 : GNode) (left2 : Int) {r0 : Int} (h : laws_szNode a1 left2 = some r0) : Ok E 99 [.val (GNode.enc false a1), .val (vi left2)] [vi r0] [] := by
  refine ok_of_body (fn := Tryd.f99) Tryd.func99 rfl (by simp [Tryd.f99]) fun C hN hP => ?_
  have hPB : ∀ l, pinK [] l = true → pinB C.pin l = true := pinB_of (by rw [hP]; rfl)
  have hN' : C.N = 19 := hN
  clear hN
  unfold laws_szNode at h
  refine SWp.seqR rfl (hPB _ rfl) fun K hK => ?_
  iterate 2 (refine wps_cons rfl fun K hK => ?_; simp [hN']; refine hK _ ?_; clear hK)
  refine wps_nil (hK _ ?_); clear hK
  refine SWp.seqR rfl (hPB _ rfl) fun K hK => ?_
  iterate 6 (refine wps_cons rfl fun K hK => ?_; simp [hN']; refine hK _ ?_; clear hK)
  refine wps_nil (hK _ ?_); clear hK
  refine SWp.seq ?_
  refine SWp.seqR rfl (hPB _ rfl) fun K hK => ?_
  iterate 2 (refine wps_cons rfl fun K hK => ?_; simp [hN']; refine hK _ ?_; clear hK)
  refine wps_nil (hK _ ?_); clear hK
  rcases ite_or h with ⟨hb3, h⟩ | ⟨hb4, h⟩
  · refine SWp.condT' (b := decide (IntKind.wrap .i64 (left2 - (a1.Name.size : Int)) < 0)) (by simp) hb3 ?_
    refine SWp.seqR rfl (hPB _ rfl) fun K hK => ?_
    refine wps_cons rfl fun K hK => ?_; simp [hN']; refine hK _ ?_; clear hK
    refine wps_nil (hK _ ?_); clear hK
    cases h
    refine SWp.ret ?_
    simp [thenS, inBlockS, res99]
  · refine SWp.condF' (b := decide (IntKind.wrap .i64 (left2 - (a1.Name.size : Int)) < 0)) (by simp) hb4 ?_
    refine SWp.skip ?_
    show SWp E C _ _ _
    refine SWp.seqR rfl (hPB _ rfl) fun K hK => ?_
    iterate 3 (refine wps_cons rfl fun K hK => ?_; simp [hN']; refine hK _ ?_; clear hK)
    obtain ⟨r5, hc6, h⟩ := bind_some h
    refine wps_call [(.take, .tmp 13), (.take, .tmp 14)] rfl rfl ent44 (laws_szIntS_ok _ _ hc6) fun K hK => ?_; simp [hN']; refine hK _ ?_; clear hK
    refine wps_cons rfl fun K hK => ?_; simp [hN']; refine hK _ ?_; clear hK
    refine wps_nil (hK _ ?_); clear hK
    refine SWp.seq ?_
    refine SWp.seqR rfl (hPB _ rfl) fun K hK => ?_
    iterate 2 (refine wps_cons rfl fun K hK => ?_; simp [hN']; refine hK _ ?_; clear hK)
    refine wps_nil (hK _ ?_); clear hK
    rcases ite_or h with ⟨hb7, h⟩ | ⟨hb8, h⟩
    · refine SWp.condT' (b := decide (r5 < 0)) (by simp) hb7 ?_
      refine SWp.seqR rfl (hPB _ rfl) fun K hK => ?_
      refine wps_cons rfl fun K hK => ?_; simp [hN']; refine hK _ ?_; clear hK
      refine wps_nil (hK _ ?_); clear hK
      cases h
      refine SWp.ret ?_
      simp [thenS, inBlockS, res99]
    · refine SWp.condF' (b := decide (r5 < 0)) (by simp) hb8 ?_
      refine SWp.skip ?_
      show SWp E C _ _ _
      refine SWp.seqR rfl (hPB _ rfl) fun K hK => ?_
      iterate 2 (refine wps_cons rfl fun K hK => ?_; simp [hN']; refine hK _ ?_; clear hK)
      refine wps_nil (hK _ ?_); clear hK
      cases h
      refine SWp.ret ?_
      simp [thenS, inBlockS, res99]
end Go.Proofs.T
set_option linter.unusedVariables false
set_option linter.unusedSimpArgs false
set_option maxHeartbeats 1000000
namespace Go.Proofs.T
open Go.OM
theorem res57 : Tryd.f57.results.toList = [.tmp 4] := rfl
theorem ent57 : Enters E.P 57 := enters_of Tryd.func57 (by simp [Tryd.f57]) rfl
theorem laws_szNodeS_ok (a1 : List GNode) (left2 : Int) {r0 : Int} (h : laws_szNodeS a1 left2 = some r0) : Ok E 57 [.val (.sl false 4 (List.map (GNode.enc false) a1)), .val (vi left2)] [vi r0] [] := by
  refine ok_of_body (fn := Tryd.f57) Tryd.func57 rfl (by simp [Tryd.f57]) fun C hN hP => ?_
  have hPB : ∀ l, pinK [] l = true → pinB C.pin l = true := pinB_of (by rw [hP]; rfl)
  have hN' : C.N = 27 := hN
  clear hN
  unfold laws_szNodeS at h
  refine SWp.seqR rfl (hPB _ rfl) fun K hK => ?_
  refine wps_cons rfl fun K hK => ?_; simp [hN']; refine hK _ ?_; clear hK
  refine wps_nil (hK _ ?_); clear hK
  refine SWp.seqR rfl (hPB _ rfl) fun K hK => ?_
  iterate 5 (refine wps_cons rfl fun K hK => ?_; simp [hN']; refine hK _ ?_; clear hK)
  refine wps_nil (hK _ ?_); clear hK
  refine SWp.seq ?_
  refine SWp.seqR rfl (hPB _ rfl) fun K hK => ?_
  iterate 2 (refine wps_cons rfl fun K hK => ?_; simp [hN']; refine hK _ ?_; clear hK)
  refine wps_nil (hK _ ?_); clear hK
  rcases ite_or h with ⟨hb3, h⟩ | ⟨hb4, h⟩
  · refine SWp.condT' (b := decide (IntKind.wrap .i64 (left2 - (a1.length : Int)) < 0)) (by simp) hb3 ?_
    refine SWp.seqR rfl (hPB _ rfl) fun K hK => ?_
    refine wps_cons rfl fun K hK => ?_; simp [hN']; refine hK _ ?_; clear hK
    refine wps_nil (hK _ ?_); clear hK
    cases h
    refine SWp.ret ?_
    simp [thenS, inBlockS, res57]
  · refine SWp.condF' (b := decide (IntKind.wrap .i64 (left2 - (a1.length : Int)) < 0)) (by simp) hb4 ?_
    refine SWp.skip ?_
    show SWp E C _ _ _
    obtain ⟨j7, hj5, h⟩ := bind_some h
    refine SWp.seqC [1] [] (fun v : Int => ⟨[(1, .t (vi v))], []⟩) (fun v => j7 = Sum.inl v) (fun v hv => ?_) fun K6 hK6 => ?_
    rotate_left
    · refine SWp.seqR rfl (hPB _ rfl) fun K hK => ?_
      refine wps_cons rfl fun K hK => ?_; simp [hN']; refine hK _ ?_; clear hK
      refine wps_nil (hK _ ?_); clear hK
      refine SWp.block ?_
      refine SWp.loopO [] [0, 1, 5] [] (fun v : Int × Int => ⟨[(0, .t (.sl false 4 (List.map (GNode.enc false) a1))), (1, .t (vi v.1)), (5, .t (vi v.2))], []⟩) (laws_szNodeS_l1 a1) _ (IntKind.wrap .i64 (left2 - (a1.length : Int)), 0) hj5 (by simp [hN']) ?_
      intro g s12 h10 ho11
      obtain ⟨left8, i9⟩ := g
      simp only [laws_szNodeS_l1] at h10
      try dsimp only
      refine SWp.seq ?_
      refine SWp.seqR rfl (hPB _ rfl) fun K hK => ?_
      iterate 4 (refine wps_cons rfl fun K hK => ?_; simp [hN']; refine hK _ ?_; clear hK)
      refine wps_nil (hK _ ?_); clear hK
      rcases ite_or h10 with ⟨hb13, h10⟩ | ⟨hb14, h10⟩
      · refine SWp.condT' (b := decide (i9 < (a1.length : Int))) (by simp) hb13 ?_
        refine SWp.skip ?_
        show SWp E C _ _ _
        refine SWp.seq ?_
        refine SWp.block ?_
        refine SWp.seqR rfl (hPB _ rfl) fun K hK => ?_
        iterate 2 (refine wps_cons rfl fun K hK => ?_; simp [hN']; refine hK _ ?_; clear hK)
        obtain ⟨e15, he15, h10⟩ := bind_some h10
        obtain ⟨he15a, he15b, he15c, he15d⟩ := getI_some he15
        iterate 3 (refine wps_cons rfl fun K hK => ?_; simp [hN', he15a, he15b, he15c, he15d]; refine hK _ ?_; clear hK)
        obtain ⟨r16, hc17, h10⟩ := bind_some h10
        refine wps_call [(.take, .tmp 21), (.take, .tmp 22)] rfl rfl ent99 (laws_szNode_ok _ _ hc17) fun K hK => ?_; simp [hN', he15a, he15b, he15c, he15d]; refine hK _ ?_; clear hK
        refine wps_cons rfl fun K hK => ?_; simp [hN', he15a, he15b, he15c, he15d]; refine hK _ ?_; clear hK
        refine wps_nil (hK _ ?_); clear hK
        refine SWp.seqR rfl (hPB _ rfl) fun K hK => ?_
        iterate 2 (refine wps_cons rfl fun K hK => ?_; simp [hN']; refine hK _ ?_; clear hK)
        refine wps_nil (hK _ ?_); clear hK
        rcases ite_or h10 with ⟨hb18, h10⟩ | ⟨hb19, h10⟩
        · refine SWp.condT' (b := decide (r16 < 0)) (by simp) hb18 ?_
          refine SWp.seqR rfl (hPB _ rfl) fun K hK => ?_
          refine wps_cons rfl fun K hK => ?_; simp [hN']; refine hK _ ?_; clear hK
          refine wps_nil (hK _ ?_); clear hK
          have h20 := congrArg some (ho11 _ (Option.some.inj h10).symm)
          cases h20
          try dsimp only at h
          cases h
          refine SWp.ret ?_
          simp [thenS, inBlockS, res57]
        · refine SWp.condF' (b := decide (r16 < 0)) (by simp) hb19 ?_
          refine SWp.skip ?_
          show SWp E C _ _ _
          refine SWp.reg rfl (hPB _ rfl) fun K hK => ?_
          iterate 3 (refine wps_cons rfl fun K hK => ?_; simp [hN']; refine hK _ ?_; clear hK)
          refine wps_nil (hK _ ?_); clear hK
          cases h10
          exact ⟨_, [], rfl, by simp [hN']⟩
      · refine SWp.condF' (b := decide (i9 < (a1.length : Int))) (by simp) hb14 ?_
        refine SWp.exit ?_
        have h21 := congrArg some (ho11 _ (Option.some.inj h10).symm)
        cases h21
        exact hK6 _ _ [] rfl (by simp [hN'])
    subst hv
    obtain ⟨left22, hv⟩ : ∃ y, y = v := ⟨_, rfl⟩
    subst hv
    try dsimp only at h ⊢
    refine SWp.seqR rfl (hPB _ rfl) fun K hK => ?_
    iterate 2 (refine wps_cons rfl fun K hK => ?_; simp [hN']; refine hK _ ?_; clear hK)
    refine wps_nil (hK _ ?_); clear hK
    cases h
    refine SWp.ret ?_
    simp [thenS, inBlockS, res57]
end Go.Proofs.T
set_option linter.unusedVariables false
set_option linter.unusedSimpArgs false
set_option maxHeartbeats 1000000
namespace Go.Proofs.T
open Go.OM
theorem res149 : Tryd.f149.results.toList = [.tmp 4] := rfl
theorem ent149 : Enters E.P 149 := enters_of Tryd.func149 (by simp [Tryd.f149]) rfl
theorem laws_szParam_ok (a1 : GParam) (left2 : Int) {r0 : Int} (h : laws_szParam a1 left2 = some r0) : Ok E 149 [.val (GParam.enc a1), .val (vi left2)] [vi r0] [] := by
  refine ok_of_body (fn := Tryd.f149) Tryd.func149 rfl (by simp [Tryd.f149]) fun C hN hP => ?_
  have hPB : ∀ l, pinK [] l = true → pinB C.pin l = true := pinB_of (by rw [hP]; rfl)
  have hN' : C.N = 13 := hN
  clear hN
  unfold laws_szParam at h
  refine SWp.seqR rfl (hPB _ rfl) fun K hK => ?_
  iterate 2 (refine wps_cons rfl fun K hK => ?_; simp [hN']; refine hK _ ?_; clear hK)
  refine wps_nil (hK _ ?_); clear hK
  refine SWp.seqR rfl (hPB _ rfl) fun K hK => ?_
  iterate 6 (refine wps_cons rfl fun K hK => ?_; simp [hN']; refine hK _ ?_; clear hK)
  refine wps_nil (hK _ ?_); clear hK
  refine SWp.seq ?_
  refine SWp.seqR rfl (hPB _ rfl) fun K hK => ?_
  iterate 2 (refine wps_cons rfl fun K hK => ?_; simp [hN']; refine hK _ ?_; clear hK)
  refine wps_nil (hK _ ?_); clear hK
  rcases ite_or h with ⟨hb3, h⟩ | ⟨hb4, h⟩
  · refine SWp.condT' (b := decide (IntKind.wrap .i64 (left2 - (a1.Name.size : Int)) < 0)) (by simp) hb3 ?_
    refine SWp.seqR rfl (hPB _ rfl) fun K hK => ?_
    refine wps_cons rfl fun K hK => ?_; simp [hN']; refine hK _ ?_; clear hK
    refine wps_nil (hK _ ?_); clear hK
    cases h
    refine SWp.ret ?_
    simp [thenS, inBlockS, res149]
  · refine SWp.condF' (b := decide (IntKind.wrap .i64 (left2 - (a1.Name.size : Int)) < 0)) (by simp) hb4 ?_
    refine SWp.skip ?_
    show SWp E C _ _ _
    refine SWp.seqR rfl (hPB _ rfl) fun K hK => ?_
    iterate 2 (refine wps_cons rfl fun K hK => ?_; simp [hN']; refine hK _ ?_; clear hK)
    refine wps_nil (hK _ ?_); clear hK
    cases h
    refine SWp.ret ?_
    simp [thenS, inBlockS, res149]
end Go.Proofs.T
set_option linter.unusedVariables false
set_option linter.unusedSimpArgs false
set_option maxHeartbeats 1000000
namespace Go.Proofs.T
open Go.OM
theorem res126 : Tryd.f126.results.toList = [.tmp 4] := rfl
theorem ent126 : Enters E.P 126 := enters_of Tryd.func126 (by simp [Tryd.f126]) rfl
theorem laws_szParamS_ok (a1 : List GParam) (left2 : Int) {r0 : Int} (h : laws_szParamS a1 left2 = some r0) : Ok E 126 [.val (.sl false 2 (List.map GParam.enc a1)), .val (vi left2)] [vi r0] [] := by
  refine ok_of_body (fn := Tryd.f126) Tryd.func126 rfl (by simp [Tryd.f126]) fun C hN hP => ?_
  have hPB : ∀ l, pinK [] l = true → pinB C.pin l = true := pinB_of (by rw [hP]; rfl)
  have hN' : C.N = 27 := hN
  clear hN
  unfold laws_szParamS at h
  refine SWp.seqR rfl (hPB _ rfl) fun K hK => ?_
  refine wps_cons rfl fun K hK => ?_; simp [hN']; refine hK _ ?_; clear hK
  refine wps_nil (hK _ ?_); clear hK
  refine SWp.seqR rfl (hPB _ rfl) fun K hK => ?_
  iterate 5 (refine wps_cons rfl fun K hK => ?_; simp [hN']; refine hK _ ?_; clear hK)
  refine wps_nil (hK _ ?_); clear hK
  refine SWp.seq ?_
  refine SWp.seqR rfl (hPB _ rfl) fun K hK => ?_
  iterate 2 (refine wps_cons rfl fun K hK => ?_; simp [hN']; refine hK _ ?_; clear hK)
  refine wps_nil (hK _ ?_); clear hK
  rcases ite_or h with ⟨hb3, h⟩ | ⟨hb4, h⟩
  · refine SWp.condT' (b := decide (IntKind.wrap .i64 (left2 - (a1.length : Int)) < 0)) (by simp) hb3 ?_
    refine SWp.seqR rfl (hPB _ rfl) fun K hK => ?_
    refine wps_cons rfl fun K hK => ?_; simp [hN']; refine hK _ ?_; clear hK
    refine wps_nil (hK _ ?_); clear hK
    cases h
    refine SWp.ret ?_
    simp [thenS, inBlockS, res126]
  · refine SWp.condF' (b := decide (IntKind.wrap .i64 (left2 - (a1.length : Int)) < 0)) (by simp) hb4 ?_
    refine SWp.skip ?_
    show SWp E C _ _ _
    obtain ⟨j7, hj5, h⟩ := bind_some h
    refine SWp.seqC [1] [] (fun v : Int => ⟨[(1, .t (vi v))], []⟩) (fun v => j7 = Sum.inl v) (fun v hv => ?_) fun K6 hK6 => ?_
    rotate_left
    · refine SWp.seqR rfl (hPB _ rfl) fun K hK => ?_
      refine wps_cons rfl fun K hK => ?_; simp [hN']; refine hK _ ?_; clear hK
      refine wps_nil (hK _ ?_); clear hK
      refine SWp.block ?_
      refine SWp.loopO [] [0, 1, 5] [] (fun v : Int × Int => ⟨[(0, .t (.sl false 2 (List.map GParam.enc a1))), (1, .t (vi v.1)), (5, .t (vi v.2))], []⟩) (laws_szParamS_l1 a1) _ (IntKind.wrap .i64 (left2 - (a1.length : Int)), 0) hj5 (by simp [hN']) ?_
      intro g s12 h10 ho11
      obtain ⟨left8, i9⟩ := g
      simp only [laws_szParamS_l1] at h10
      try dsimp only
      refine SWp.seq ?_
      refine SWp.seqR rfl (hPB _ rfl) fun K hK => ?_
      iterate 4 (refine wps_cons rfl fun K hK => ?_; simp [hN']; refine hK _ ?_; clear hK)
      refine wps_nil (hK _ ?_); clear hK
      rcases ite_or h10 with ⟨hb13, h10⟩ | ⟨hb14, h10⟩
      · refine SWp.condT' (b := decide (i9 < (a1.length : Int))) (by simp) hb13 ?_
        refine SWp.skip ?_
        show SWp E C _ _ _
        refine SWp.seq ?_
        refine SWp.block ?_
        refine SWp.seqR rfl (hPB _ rfl) fun K hK => ?_
        iterate 2 (refine wps_cons rfl fun K hK => ?_; simp [hN']; refine hK _ ?_; clear hK)
        obtain ⟨e15, he15, h10⟩ := bind_some h10
        obtain ⟨he15a, he15b, he15c, he15d⟩ := getI_some he15
        iterate 3 (refine wps_cons rfl fun K hK => ?_; simp [hN', he15a, he15b, he15c, he15d]; refine hK _ ?_; clear hK)
        obtain ⟨r16, hc17, h10⟩ := bind_some h10
        refine wps_call [(.take, .tmp 21), (.take, .tmp 22)] rfl rfl ent149 (laws_szParam_ok _ _ hc17) fun K hK => ?_; simp [hN', he15a, he15b, he15c, he15d]; refine hK _ ?_; clear hK
        refine wps_cons rfl fun K hK => ?_; simp [hN', he15a, he15b, he15c, he15d]; refine hK _ ?_; clear hK
        refine wps_nil (hK _ ?_); clear hK
        refine SWp.seqR rfl (hPB _ rfl) fun K hK => ?_
        iterate 2 (refine wps_cons rfl fun K hK => ?_; simp [hN']; refine hK _ ?_; clear hK)
        refine wps_nil (hK _ ?_); clear hK
        rcases ite_or h10 with ⟨hb18, h10⟩ | ⟨hb19, h10⟩
        · refine SWp.condT' (b := decide (r16 < 0)) (by simp) hb18 ?_
          refine SWp.seqR rfl (hPB _ rfl) fun K hK => ?_
          refine wps_cons rfl fun K hK => ?_; simp [hN']; refine hK _ ?_; clear hK
          refine wps_nil (hK _ ?_); clear hK
          have h20 := congrArg some (ho11 _ (Option.some.inj h10).symm)
          cases h20
          try dsimp only at h
          cases h
          refine SWp.ret ?_
          simp [thenS, inBlockS, res126]
        · refine SWp.condF' (b := decide (r16 < 0)) (by simp) hb19 ?_
          refine SWp.skip ?_
          show SWp E C _ _ _
          refine SWp.reg rfl (hPB _ rfl) fun K hK => ?_
          iterate 3 (refine wps_cons rfl fun K hK => ?_; simp [hN']; refine hK _ ?_; clear hK)
          refine wps_nil (hK _ ?_); clear hK
          cases h10
          exact ⟨_, [], rfl, by simp [hN']⟩
      · refine SWp.condF' (b := decide (i9 < (a1.length : Int))) (by simp) hb14 ?_
        refine SWp.exit ?_
        have h21 := congrArg some (ho11 _ (Option.some.inj h10).symm)
        cases h21
        exact hK6 _ _ [] rfl (by simp [hN'])
    subst hv
    obtain ⟨left22, hv⟩ : ∃ y, y = v := ⟨_, rfl⟩
    subst hv
    try dsimp only at h ⊢
    refine SWp.seqR rfl (hPB _ rfl) fun K hK => ?_
    iterate 2 (refine wps_cons rfl fun K hK => ?_; simp [hN']; refine hK _ ?_; clear hK)
    refine wps_nil (hK _ ?_); clear hK
    cases h
    refine SWp.ret ?_
    simp [thenS, inBlockS, res126]
end Go.Proofs.T
set_option linter.unusedVariables false
set_option linter.unusedSimpArgs false
set_option maxHeartbeats 1000000
namespace Go.Proofs.T
open Go.OM
theorem res100 : Tryd.f100.results.toList = [.tmp 4] := rfl
theorem ent100 : Enters E.P 100 := enters_of Tryd.func100 (by simp [Tryd.f100]) rfl
theorem laws_szFn_ok (a1 : GFn) (left2 : Int) {r0 : Int} (h : laws_szFn a1 left2 = some r0) : Ok E 100 [.val (GFn.enc false a1), .val (vi left2)] [vi r0] [] := by
  refine ok_of_body (fn := Tryd.f100) Tryd.func100 rfl (by simp [Tryd.f100]) fun C hN hP => ?_
  have hPB : ∀ l, pinK [] l = true → pinB C.pin l = true := pinB_of (by rw [hP]; rfl)
  have hN' : C.N = 19 := hN
  clear hN
  unfold laws_szFn at h
  refine SWp.seqR rfl (hPB _ rfl) fun K hK => ?_
  iterate 2 (refine wps_cons rfl fun K hK => ?_; simp [hN']; refine hK _ ?_; clear hK)
  refine wps_nil (hK _ ?_); clear hK
  refine SWp.seqR rfl (hPB _ rfl) fun K hK => ?_
  iterate 6 (refine wps_cons rfl fun K hK => ?_; simp [hN']; refine hK _ ?_; clear hK)
  refine wps_nil (hK _ ?_); clear hK
  refine SWp.seq ?_
  refine SWp.seqR rfl (hPB _ rfl) fun K hK => ?_
  iterate 2 (refine wps_cons rfl fun K hK => ?_; simp [hN']; refine hK _ ?_; clear hK)
  refine wps_nil (hK _ ?_); clear hK
  rcases ite_or h with ⟨hb3, h⟩ | ⟨hb4, h⟩
  · refine SWp.condT' (b := decide (IntKind.wrap .i64 (left2 - (a1.Name.size : Int)) < 0)) (by simp) hb3 ?_
    refine SWp.seqR rfl (hPB _ rfl) fun K hK => ?_
    refine wps_cons rfl fun K hK => ?_; simp [hN']; refine hK _ ?_; clear hK
    refine wps_nil (hK _ ?_); clear hK
    cases h
    refine SWp.ret ?_
    simp [thenS, inBlockS, res100]
  · refine SWp.condF' (b := decide (IntKind.wrap .i64 (left2 - (a1.Name.size : Int)) < 0)) (by simp) hb4 ?_
    refine SWp.skip ?_
    show SWp E C _ _ _
    refine SWp.seqR rfl (hPB _ rfl) fun K hK => ?_
    iterate 3 (refine wps_cons rfl fun K hK => ?_; simp [hN']; refine hK _ ?_; clear hK)
    obtain ⟨r5, hc6, h⟩ := bind_some h
    refine wps_call [(.take, .tmp 13), (.take, .tmp 14)] rfl rfl ent126 (laws_szParamS_ok _ _ hc6) fun K hK => ?_; simp [hN']; refine hK _ ?_; clear hK
    refine wps_cons rfl fun K hK => ?_; simp [hN']; refine hK _ ?_; clear hK
    refine wps_nil (hK _ ?_); clear hK
    refine SWp.seq ?_
    refine SWp.seqR rfl (hPB _ rfl) fun K hK => ?_
    iterate 2 (refine wps_cons rfl fun K hK => ?_; simp [hN']; refine hK _ ?_; clear hK)
    refine wps_nil (hK _ ?_); clear hK
    rcases ite_or h with ⟨hb7, h⟩ | ⟨hb8, h⟩
    · refine SWp.condT' (b := decide (r5 < 0)) (by simp) hb7 ?_
      refine SWp.seqR rfl (hPB _ rfl) fun K hK => ?_
      refine wps_cons rfl fun K hK => ?_; simp [hN']; refine hK _ ?_; clear hK
      refine wps_nil (hK _ ?_); clear hK
      cases h
      refine SWp.ret ?_
      simp [thenS, inBlockS, res100]
    · refine SWp.condF' (b := decide (r5 < 0)) (by simp) hb8 ?_
      refine SWp.skip ?_
      show SWp E C _ _ _
      refine SWp.seqR rfl (hPB _ rfl) fun K hK => ?_
      iterate 2 (refine wps_cons rfl fun K hK => ?_; simp [hN']; refine hK _ ?_; clear hK)
      refine wps_nil (hK _ ?_); clear hK
      cases h
      refine SWp.ret ?_
      simp [thenS, inBlockS, res100]
end Go.Proofs.T
set_option linter.unusedVariables false
set_option linter.unusedSimpArgs false
set_option maxHeartbeats 1000000
namespace Go.Proofs.T
open Go.OM
theorem res58 : Tryd.f58.results.toList = [.tmp 4] := rfl
theorem ent58 : Enters E.P 58 := enters_of Tryd.func58 (by simp [Tryd.f58]) rfl
theorem laws_szFnS_ok (a1 : List GFn) (left2 : Int) {r0 : Int} (h : laws_szFnS a1 left2 = some r0) : Ok E 58 [.val (.sl false 5 (List.map (GFn.enc false) a1)), .val (vi left2)] [vi r0] [] := by
  refine ok_of_body (fn := Tryd.f58) Tryd.func58 rfl (by simp [Tryd.f58]) fun C hN hP => ?_
  have hPB : ∀ l, pinK [] l = true → pinB C.pin l = true := pinB_of (by rw [hP]; rfl)
  have hN' : C.N = 27 := hN
  clear hN
  unfold laws_szFnS at h
  refine SWp.seqR rfl (hPB _ rfl) fun K hK => ?_
  refine wps_cons rfl fun K hK => ?_; simp [hN']; refine hK _ ?_; clear hK
  refine wps_nil (hK _ ?_); clear hK
  refine SWp.seqR rfl (hPB _ rfl) fun K hK => ?_
  iterate 5 (refine wps_cons rfl fun K hK => ?_; simp [hN']; refine hK _ ?_; clear hK)
  refine wps_nil (hK _ ?_); clear hK
  refine SWp.seq ?_
  refine SWp.seqR rfl (hPB _ rfl) fun K hK => ?_
  iterate 2 (refine wps_cons rfl fun K hK => ?_; simp [hN']; refine hK _ ?_; clear hK)
  refine wps_nil (hK _ ?_); clear hK
  rcases ite_or h with ⟨hb3, h⟩ | ⟨hb4, h⟩
  · refine SWp.condT' (b := decide (IntKind.wrap .i64 (left2 - (a1.length : Int)) < 0)) (by simp) hb3 ?_
    refine SWp.seqR rfl (hPB _ rfl) fun K hK => ?_
    refine wps_cons rfl fun K hK => ?_; simp [hN']; refine hK _ ?_; clear hK
    refine wps_nil (hK _ ?_); clear hK
    cases h
    refine SWp.ret ?_
    simp [thenS, inBlockS, res58]
  · refine SWp.condF' (b := decide (IntKind.wrap .i64 (left2 - (a1.length : Int)) < 0)) (by simp) hb4 ?_
    refine SWp.skip ?_
    show SWp E C _ _ _
    obtain ⟨j7, hj5, h⟩ := bind_some h
    refine SWp.seqC [1] [] (fun v : Int => ⟨[(1, .t (vi v))], []⟩) (fun v => j7 = Sum.inl v) (fun v hv => ?_) fun K6 hK6 => ?_
    rotate_left
    · refine SWp.seqR rfl (hPB _ rfl) fun K hK => ?_
      refine wps_cons rfl fun K hK => ?_; simp [hN']; refine hK _ ?_; clear hK
      refine wps_nil (hK _ ?_); clear hK
      refine SWp.block ?_
      refine SWp.loopO [] [0, 1, 5] [] (fun v : Int × Int => ⟨[(0, .t (.sl false 5 (List.map (GFn.enc false) a1))), (1, .t (vi v.1)), (5, .t (vi v.2))], []⟩) (laws_szFnS_l1 a1) _ (IntKind.wrap .i64 (left2 - (a1.length : Int)), 0) hj5 (by simp [hN']) ?_
      intro g s12 h10 ho11
      obtain ⟨left8, i9⟩ := g
      simp only [laws_szFnS_l1] at h10
      try dsimp only
      refine SWp.seq ?_
      refine SWp.seqR rfl (hPB _ rfl) fun K hK => ?_
      iterate 4 (refine wps_cons rfl fun K hK => ?_; simp [hN']; refine hK _ ?_; clear hK)
      refine wps_nil (hK _ ?_); clear hK
      rcases ite_or h10 with ⟨hb13, h10⟩ | ⟨hb14, h10⟩
      · refine SWp.condT' (b := decide (i9 < (a1.length : Int))) (by simp) hb13 ?_
        refine SWp.skip ?_
        show SWp E C _ _ _
        refine SWp.seq ?_
        refine SWp.block ?_
        refine SWp.seqR rfl (hPB _ rfl) fun K hK => ?_
        iterate 2 (refine wps_cons rfl fun K hK => ?_; simp [hN']; refine hK _ ?_; clear hK)
        obtain ⟨e15, he15, h10⟩ := bind_some h10
        obtain ⟨he15a, he15b, he15c, he15d⟩ := getI_some he15
        iterate 3 (refine wps_cons rfl fun K hK => ?_; simp [hN', he15a, he15b, he15c, he15d]; refine hK _ ?_; clear hK)
        obtain ⟨r16, hc17, h10⟩ := bind_some h10
        refine wps_call [(.take, .tmp 21), (.take, .tmp 22)] rfl rfl ent100 (laws_szFn_ok _ _ hc17) fun K hK => ?_; simp [hN', he15a, he15b, he15c, he15d]; refine hK _ ?_; clear hK
        refine wps_cons rfl fun K hK => ?_; simp [hN', he15a, he15b, he15c, he15d]; refine hK _ ?_; clear hK
        refine wps_nil (hK _ ?_); clear hK
        refine SWp.seqR rfl (hPB _ rfl) fun K hK => ?_
        iterate 2 (refine wps_cons rfl fun K hK => ?_; simp [hN']; refine hK _ ?_; clear hK)
        refine wps_nil (hK _ ?_); clear hK
        rcases ite_or h10 with ⟨hb18, h10⟩ | ⟨hb19, h10⟩
        · refine SWp.condT' (b := decide (r16 < 0)) (by simp) hb18 ?_
          refine SWp.seqR rfl (hPB _ rfl) fun K hK => ?_
          refine wps_cons rfl fun K hK => ?_; simp [hN']; refine hK _ ?_; clear hK
          refine wps_nil (hK _ ?_); clear hK
          have h20 := congrArg some (ho11 _ (Option.some.inj h10).symm)
          cases h20
          try dsimp only at h
          cases h
          refine SWp.ret ?_
          simp [thenS, inBlockS, res58]
        · refine SWp.condF' (b := decide (r16 < 0)) (by simp) hb19 ?_
          refine SWp.skip ?_
          show SWp E C _ _ _
          refine SWp.reg rfl (hPB _ rfl) fun K hK => ?_
          iterate 3 (refine wps_cons rfl fun K hK => ?_; simp [hN']; refine hK _ ?_; clear hK)
          refine wps_nil (hK _ ?_); clear hK
          cases h10
          exact ⟨_, [], rfl, by simp [hN']⟩
      · refine SWp.condF' (b := decide (i9 < (a1.length : Int))) (by simp) hb14 ?_
        refine SWp.exit ?_
        have h21 := congrArg some (ho11 _ (Option.some.inj h10).symm)
        cases h21
        exact hK6 _ _ [] rfl (by simp [hN'])
    subst hv
    obtain ⟨left22, hv⟩ : ∃ y, y = v := ⟨_, rfl⟩
    subst hv
    try dsimp only at h ⊢
    refine SWp.seqR rfl (hPB _ rfl) fun K hK => ?_
    iterate 2 (refine wps_cons rfl fun K hK => ?_; simp [hN']; refine hK _ ?_; clear hK)
    refine wps_nil (hK _ ?_); clear hK
    cases h
    refine SWp.ret ?_
    simp [thenS, inBlockS, res58]
end Go.Proofs.T
set_option linter.unusedVariables false
set_option linter.unusedSimpArgs false
set_option maxHeartbeats 1000000
namespace Go.Proofs.T
open Go.OM
theorem res24 : Tryd.f24.results.toList = [.tmp 4] := rfl
theorem ent24 : Enters E.P 24 := enters_of Tryd.func24 (by simp [Tryd.f24]) rfl
theorem laws_szProgram_ok (a1 : GProgram) (left2 : Int) {r0 : Int} (h : laws_szProgram a1 left2 = some r0) : Ok E 24 [.val (GProgram.enc false a1), .val (vi left2)] [vi r0] [] := by
  refine ok_of_body (fn := Tryd.f24) Tryd.func24 rfl (by simp [Tryd.f24]) fun C hN hP => ?_
  have hPB : ∀ l, pinK [] l = true → pinB C.pin l = true := pinB_of (by rw [hP]; rfl)
  have hN' : C.N = 18 := hN
  clear hN
  unfold laws_szProgram at h
  refine SWp.seqR rfl (hPB _ rfl) fun K hK => ?_
  iterate 2 (refine wps_cons rfl fun K hK => ?_; simp [hN']; refine hK _ ?_; clear hK)
  refine wps_nil (hK _ ?_); clear hK
  refine SWp.seqR rfl (hPB _ rfl) fun K hK => ?_
  iterate 3 (refine wps_cons rfl fun K hK => ?_; simp [hN']; refine hK _ ?_; clear hK)
  obtain ⟨r3, hc4, h⟩ := bind_some h
  refine wps_call [(.take, .tmp 6), (.take, .tmp 7)] rfl rfl ent57 (laws_szNodeS_ok _ _ hc4) fun K hK => ?_; simp [hN']; refine hK _ ?_; clear hK
  refine wps_cons rfl fun K hK => ?_; simp [hN']; refine hK _ ?_; clear hK
  refine wps_nil (hK _ ?_); clear hK
  refine SWp.seq ?_
  refine SWp.seqR rfl (hPB _ rfl) fun K hK => ?_
  iterate 2 (refine wps_cons rfl fun K hK => ?_; simp [hN']; refine hK _ ?_; clear hK)
  refine wps_nil (hK _ ?_); clear hK
  rcases ite_or h with ⟨hb5, h⟩ | ⟨hb6, h⟩
  · refine SWp.condT' (b := decide (r3 < 0)) (by simp) hb5 ?_
    refine SWp.seqR rfl (hPB _ rfl) fun K hK => ?_
    refine wps_cons rfl fun K hK => ?_; simp [hN']; refine hK _ ?_; clear hK
    refine wps_nil (hK _ ?_); clear hK
    cases h
    refine SWp.ret ?_
    simp [thenS, inBlockS, res24]
  · refine SWp.condF' (b := decide (r3 < 0)) (by simp) hb6 ?_
    refine SWp.skip ?_
    show SWp E C _ _ _
    refine SWp.seqR rfl (hPB _ rfl) fun K hK => ?_
    iterate 3 (refine wps_cons rfl fun K hK => ?_; simp [hN']; refine hK _ ?_; clear hK)
    obtain ⟨r7, hc8, h⟩ := bind_some h
    refine wps_call [(.take, .tmp 12), (.take, .tmp 13)] rfl rfl ent58 (laws_szFnS_ok _ _ hc8) fun K hK => ?_; simp [hN']; refine hK _ ?_; clear hK
    refine wps_cons rfl fun K hK => ?_; simp [hN']; refine hK _ ?_; clear hK
    refine wps_nil (hK _ ?_); clear hK
    refine SWp.seq ?_
    refine SWp.seqR rfl (hPB _ rfl) fun K hK => ?_
    iterate 2 (refine wps_cons rfl fun K hK => ?_; simp [hN']; refine hK _ ?_; clear hK)
    refine wps_nil (hK _ ?_); clear hK
    rcases ite_or h with ⟨hb9, h⟩ | ⟨hb10, h⟩
    · refine SWp.condT' (b := decide (r7 < 0)) (by simp) hb9 ?_
      refine SWp.seqR rfl (hPB _ rfl) fun K hK => ?_
      refine wps_cons rfl fun K hK => ?_; simp [hN']; refine hK _ ?_; clear hK
      refine wps_nil (hK _ ?_); clear hK
      cases h
      refine SWp.ret ?_
      simp [thenS, inBlockS, res24]
    · refine SWp.condF' (b := decide (r7 < 0)) (by simp) hb10 ?_
      refine SWp.skip ?_
      show SWp E C _ _ _
      refine SWp.seqR rfl (hPB _ rfl) fun K hK => ?_
      iterate 2 (refine wps_cons rfl fun K hK => ?_; simp [hN']; refine hK _ ?_; clear hK)
      refine wps_nil (hK _ ?_); clear hK
      cases h
      refine SWp.ret ?_
      simp [thenS, inBlockS, res24]
end Go.Proofs.T
set_option linter.unusedVariables false
set_option linter.unusedSimpArgs false
set_option maxHeartbeats 1000000
namespace Go.Proofs.T
open Go.OM
theorem res90 : Tryd.f90.results.toList = [.tmp 6] := rfl
theorem ent90 : Enters E.P 90 := enters_of Tryd.func90 (by simp [Tryd.f90]) rfl
theorem spec_l01In_ok (x1 : Int) (least2 : Int) (most3 : Int) {r0 : Bool} (h : spec_l01In x1 least2 most3 = some r0) : Ok E 90 [.val (vi x1), .val (vi least2), .val (vi most3)] [vb r0] [] := by
  refine ok_of_body (fn := Tryd.f90) Tryd.func90 rfl (by simp [Tryd.f90]) fun C hN hP => ?_
  have hPB : ∀ l, pinK [] l = true → pinB C.pin l = true := pinB_of (by rw [hP]; rfl)
  have hN' : C.N = 15 := hN
  clear hN
  unfold spec_l01In at h
  refine SWp.seqR rfl (hPB _ rfl) fun K hK => ?_
  refine wps_cons rfl fun K hK => ?_; simp [hN']; refine hK _ ?_; clear hK
  refine wps_nil (hK _ ?_); clear hK
  obtain ⟨v8, hj4, h⟩ := bind_some h
  refine SWp.seqRC rfl (hPB _ rfl) [6] [] (fun _ : Unit => ⟨[(6, .t (vb v8))], []⟩) (fun _ => True) (fun _ _ => ?_) fun K5 hK5 => ?_
  rotate_left
  · refine wps_cons rfl fun K hK => ?_; simp [hN']; refine hK _ ?_; clear hK
    iterate 3 (refine wps_cons rfl fun K hK => ?_; simp [hN']; refine hK _ ?_; clear hK)
    rcases ite_or hj4 with ⟨hb6, hj4⟩ | ⟨hb7, hj4⟩
    · have hb6s := hb6
      try simp at hb6s
      iterate 5 (refine wps_cons rfl fun K hK => ?_; simp [hN', hb6, hb6s]; refine hK _ ?_; clear hK)
      refine wps_nil ?_
      cases hj4
      exact hK5 _ () [] trivial (by simp [hN', hb6, hb6s])
    · have hb7s := hb7
      try simp at hb7s
      iterate 3 (refine wps_off fun K hK => ?_; simp [hN', hb7, hb7s]; refine hK _ ?_; clear hK)
      iterate 2 (refine wps_cons rfl fun K hK => ?_; simp [hN', hb7, hb7s]; refine hK _ ?_; clear hK)
      refine wps_nil ?_
      cases hj4
      exact hK5 _ () [] trivial (by simp [hN', hb7, hb7s])
  cases h
  refine SWp.ret ?_
  simp [thenS, inBlockS, res90]
end Go.Proofs.T
set_option linter.unusedVariables false
set_option linter.unusedSimpArgs false
set_option maxHeartbeats 1000000
namespace Go.Proofs.T
open Go.OM
theorem res135 : Tryd.f135.results.toList = [.tmp 2] := rfl
theorem ent135 : Enters E.P 135 := enters_of Tryd.func135 (by simp [Tryd.f135]) rfl
theorem spec_l03Letter_ok (b1 : Int) {r0 : Bool} (h : spec_l03Letter b1 = some r0) : Ok E 135 [.val (vk .u8 b1)] [vb r0] [] := by
  refine ok_of_body (fn := Tryd.f135) Tryd.func135 rfl (by simp [Tryd.f135]) fun C hN hP => ?_
  have hPB : ∀ l, pinK [] l = true → pinB C.pin l = true := pinB_of (by rw [hP]; rfl)
  have hN' : C.N = 9 := hN
  clear hN
  unfold spec_l03Letter at h
  refine SWp.seqR rfl (hPB _ rfl) fun K hK => ?_
  refine wps_cons rfl fun K hK => ?_; simp [hN']; refine hK _ ?_; clear hK
  refine wps_nil (hK _ ?_); clear hK
  obtain ⟨v6, hj2, h⟩ := bind_some h
  refine SWp.seqRC rfl (hPB _ rfl) [2] [] (fun _ : Unit => ⟨[(2, .t (vb v6))], []⟩) (fun _ => True) (fun _ _ => ?_) fun K3 hK3 => ?_
  rotate_left
  · refine wps_cons rfl fun K hK => ?_; simp [hN']; refine hK _ ?_; clear hK
    iterate 2 (refine wps_cons rfl fun K hK => ?_; simp [hN']; refine hK _ ?_; clear hK)
    rcases ite_or hj2 with ⟨hb4, hj2⟩ | ⟨hb5, hj2⟩
    · have hb4s := hb4
      try simp at hb4s
      iterate 4 (refine wps_cons rfl fun K hK => ?_; simp [hN', hb4, hb4s]; refine hK _ ?_; clear hK)
      refine wps_nil ?_
      cases hj2
      exact hK3 _ () [] trivial (by simp [hN', hb4, hb4s])
    · have hb5s := hb5
      try simp at hb5s
      iterate 2 (refine wps_off fun K hK => ?_; simp [hN', hb5, hb5s]; refine hK _ ?_; clear hK)
      iterate 2 (refine wps_cons rfl fun K hK => ?_; simp [hN', hb5, hb5s]; refine hK _ ?_; clear hK)
      refine wps_nil ?_
      cases hj2
      exact hK3 _ () [] trivial (by simp [hN', hb5, hb5s])
  cases h
  refine SWp.ret ?_
  simp [thenS, inBlockS, res135]
end Go.Proofs.T
set_option linter.unusedVariables false
set_option linter.unusedSimpArgs false
set_option maxHeartbeats 1000000
namespace Go.Proofs.T
open Go.OM
theorem res156 : Tryd.f156.results.toList = [.tmp 0] := rfl
theorem ent156 : Enters E.P 156 := enters_of Tryd.func156 (by simp [Tryd.f156]) rfl
theorem spec_l03Keys_ok {r0 : List ByteArray} (h : spec_l03Keys = some r0) : Ok E 156 [] [.sl true 1 (List.map vs r0)] [] := by
  refine ok_of_body (fn := Tryd.f156) Tryd.func156 rfl (by simp [Tryd.f156]) fun C hN hP => ?_
  have hPB : ∀ l, pinK [] l = true → pinB C.pin l = true := pinB_of (by rw [hP]; rfl)
  have hN' : C.N = 2 := hN
  clear hN
  unfold spec_l03Keys at h
  refine SWp.seqR rfl (hPB _ rfl) fun K hK => ?_
  refine wps_cons rfl fun K hK => ?_; simp [hN']; refine hK _ ?_; clear hK
  refine wps_nil (hK _ ?_); clear hK
  refine SWp.seqR rfl (hPB _ rfl) fun K hK => ?_
  iterate 2 (refine wps_cons rfl fun K hK => ?_; simp [hN']; refine hK _ ?_; clear hK)
  refine wps_nil (hK _ ?_); clear hK
  cases h
  refine SWp.ret ?_
  simp [thenS, inBlockS, res156]
end Go.Proofs.T
set_option linter.unusedVariables false
set_option linter.unusedSimpArgs false
set_option maxHeartbeats 1000000
namespace Go.Proofs.T
open Go.OM
theorem res136 : Tryd.f136.results.toList = [.tmp 2] := rfl
theorem ent136 : Enters E.P 136 := enters_of Tryd.func136 (by simp [Tryd.f136]) rfl
theorem spec_KeyWord_ok (s1 : ByteArray) {r0 : Bool} (h : spec_KeyWord s1 = some r0) : Ok E 136 [.val (vs s1)] [vb r0] [] := by
  refine ok_of_body (fn := Tryd.f136) Tryd.func136 rfl (by simp [Tryd.f136]) fun C hN hP => ?_
  have hPB : ∀ l, pinK [] l = true → pinB C.pin l = true := pinB_of (by rw [hP]; rfl)
  have hN' : C.N = 18 := hN
  clear hN
  unfold spec_KeyWord at h
  refine SWp.seqR rfl (hPB _ rfl) fun K hK => ?_
  refine wps_cons rfl fun K hK => ?_; simp [hN']; refine hK _ ?_; clear hK
  refine wps_nil (hK _ ?_); clear hK
  refine SWp.seqR rfl (hPB _ rfl) fun K hK => ?_
  obtain ⟨r2, hc3, h⟩ := bind_some h
  refine wps_call [] rfl rfl ent156 (spec_l03Keys_ok hc3) fun K hK => ?_; simp [hN']; refine hK _ ?_; clear hK
  refine wps_cons rfl fun K hK => ?_; simp [hN']; refine hK _ ?_; clear hK
  refine wps_nil (hK _ ?_); clear hK
  obtain ⟨j6, hj4, h⟩ := bind_some h
  refine SWp.seqC [] [] (fun v : Unit => ⟨[], []⟩) (fun v => j6 = Sum.inl v) (fun v hv => ?_) fun K5 hK5 => ?_
  rotate_left
  · refine SWp.seqR rfl (hPB _ rfl) fun K hK => ?_
    refine wps_cons rfl fun K hK => ?_; simp [hN']; refine hK _ ?_; clear hK
    refine wps_nil (hK _ ?_); clear hK
    refine SWp.block ?_
    refine SWp.loopO [] [0, 3, 4] [] (fun v : Int => ⟨[(0, .t (vs s1)), (3, .t (.sl true 1 (List.map vs r2))), (4, .t (vi v))], []⟩) (spec_KeyWord_l1 s1 r2) _ 0 hj4 (by simp [hN']) ?_
    intro g s10 h8 ho9
    obtain ⟨i7, hg⟩ : ∃ y, y = g := ⟨_, rfl⟩
    subst hg
    simp only [spec_KeyWord_l1] at h8
    try dsimp only
    refine SWp.seq ?_
    refine SWp.seqR rfl (hPB _ rfl) fun K hK => ?_
    iterate 4 (refine wps_cons rfl fun K hK => ?_; simp [hN']; refine hK _ ?_; clear hK)
    refine wps_nil (hK _ ?_); clear hK
    rcases ite_or h8 with ⟨hb11, h8⟩ | ⟨hb12, h8⟩
    · refine SWp.condT' (b := decide (i7 < (r2.length : Int))) (by simp) hb11 ?_
      refine SWp.skip ?_
      show SWp E C _ _ _
      refine SWp.seq ?_
      refine SWp.block ?_
      refine SWp.seqR rfl (hPB _ rfl) fun K hK => ?_
      iterate 2 (refine wps_cons rfl fun K hK => ?_; simp [hN']; refine hK _ ?_; clear hK)
      obtain ⟨e13, he13, h8⟩ := bind_some h8
      obtain ⟨he13a, he13b, he13c, he13d⟩ := getI_some he13
      iterate 4 (refine wps_cons rfl fun K hK => ?_; simp [hN', he13a, he13b, he13c, he13d]; refine hK _ ?_; clear hK)
      refine wps_nil (hK _ ?_); clear hK
      rcases ite_or h8 with ⟨hb14, h8⟩ | ⟨hb15, h8⟩
      · refine SWp.condT' (b := sEq e13 s1) (by simp) hb14 ?_
        refine SWp.seqR rfl (hPB _ rfl) fun K hK => ?_
        refine wps_cons rfl fun K hK => ?_; simp [hN']; refine hK _ ?_; clear hK
        refine wps_nil (hK _ ?_); clear hK
        have h16 := congrArg some (ho9 _ (Option.some.inj h8).symm)
        cases h16
        try dsimp only at h
        cases h
        refine SWp.ret ?_
        simp [thenS, inBlockS, res136]
      · refine SWp.condF' (b := sEq e13 s1) (by simp) hb15 ?_
        refine SWp.skip ?_
        show SWp E C _ _ _
        refine SWp.reg rfl (hPB _ rfl) fun K hK => ?_
        iterate 3 (refine wps_cons rfl fun K hK => ?_; simp [hN']; refine hK _ ?_; clear hK)
        refine wps_nil (hK _ ?_); clear hK
        cases h8
        exact ⟨_, [], rfl, by simp [hN']⟩
    · refine SWp.condF' (b := decide (i7 < (r2.length : Int))) (by simp) hb12 ?_
      refine SWp.exit ?_
      have h17 := congrArg some (ho9 _ (Option.some.inj h8).symm)
      cases h17
      exact hK5 _ _ [] rfl (by simp [hN'])
  subst hv
  obtain ⟨⟩ := v
  try dsimp only at h ⊢
  refine SWp.seqR rfl (hPB _ rfl) fun K hK => ?_
  refine wps_cons rfl fun K hK => ?_; simp [hN']; refine hK _ ?_; clear hK
  refine wps_nil (hK _ ?_); clear hK
  cases h
  refine SWp.ret ?_
  simp [thenS, inBlockS, res136]
end Go.Proofs.T
set_option linter.unusedVariables false
set_option linter.unusedSimpArgs false
set_option maxHeartbeats 1000000
namespace Go.Proofs.T
open Go.OM
theorem res137 : Tryd.f137.results.toList = [.tmp 2] := rfl
theorem ent137 : Enters E.P 137 := enters_of Tryd.func137 (by simp [Tryd.f137]) rfl
theorem spec_l03Figure_ok (b1 : Int) {r0 : Bool} (h : spec_l03Figure b1 = some r0) : Ok E 137 [.val (vk .u8 b1)] [vb r0] [] := by
  refine ok_of_body (fn := Tryd.f137) Tryd.func137 rfl (by simp [Tryd.f137]) fun C hN hP => ?_
  have hPB : ∀ l, pinK [] l = true → pinB C.pin l = true := pinB_of (by rw [hP]; rfl)
  have hN' : C.N = 9 := hN
  clear hN
  unfold spec_l03Figure at h
  refine SWp.seqR rfl (hPB _ rfl) fun K hK => ?_
  refine wps_cons rfl fun K hK => ?_; simp [hN']; refine hK _ ?_; clear hK
  refine wps_nil (hK _ ?_); clear hK
  obtain ⟨v6, hj2, h⟩ := bind_some h
  refine SWp.seqRC rfl (hPB _ rfl) [2] [] (fun _ : Unit => ⟨[(2, .t (vb v6))], []⟩) (fun _ => True) (fun _ _ => ?_) fun K3 hK3 => ?_
  rotate_left
  · refine wps_cons rfl fun K hK => ?_; simp [hN']; refine hK _ ?_; clear hK
    iterate 2 (refine wps_cons rfl fun K hK => ?_; simp [hN']; refine hK _ ?_; clear hK)
    rcases ite_or hj2 with ⟨hb4, hj2⟩ | ⟨hb5, hj2⟩
    · have hb4s := hb4
      try simp at hb4s
      iterate 4 (refine wps_cons rfl fun K hK => ?_; simp [hN', hb4, hb4s]; refine hK _ ?_; clear hK)
      refine wps_nil ?_
      cases hj2
      exact hK3 _ () [] trivial (by simp [hN', hb4, hb4s])
    · have hb5s := hb5
      try simp at hb5s
      iterate 2 (refine wps_off fun K hK => ?_; simp [hN', hb5, hb5s]; refine hK _ ?_; clear hK)
      iterate 2 (refine wps_cons rfl fun K hK => ?_; simp [hN', hb5, hb5s]; refine hK _ ?_; clear hK)
      refine wps_nil ?_
      cases hj2
      exact hK3 _ () [] trivial (by simp [hN', hb5, hb5s])
  cases h
  refine SWp.ret ?_
  simp [thenS, inBlockS, res137]
end Go.Proofs.T
set_option linter.unusedVariables false
set_option linter.unusedSimpArgs false
set_option maxHeartbeats 1000000
namespace Go.Proofs.T
open Go.OM
theorem res114 : Tryd.f114.results.toList = [.tmp 2] := rfl
theorem ent114 : Enters E.P 114 := enters_of Tryd.func114 (by simp [Tryd.f114]) rfl
theorem spec_NameOk_ok (s1 : ByteArray) {r0 : Bool} (h : spec_NameOk s1 = some r0) : Ok E 114 [.val (vs s1)] [vb r0] [] := by
  refine ok_of_body (fn := Tryd.f114) Tryd.func114 rfl (by simp [Tryd.f114]) fun C hN hP => ?_
  have hPB : ∀ l, pinK [] l = true → pinB C.pin l = true := pinB_of (by rw [hP]; rfl)
  have hN' : C.N = 36 := hN
  clear hN
  unfold spec_NameOk at h
  refine SWp.seqR rfl (hPB _ rfl) fun K hK => ?_
  refine wps_cons rfl fun K hK => ?_; simp [hN']; refine hK _ ?_; clear hK
  refine wps_nil (hK _ ?_); clear hK
  refine SWp.seq ?_
  obtain ⟨v15, hj2, h⟩ := bind_some h
  refine SWp.seqRC rfl (hPB _ rfl) [0, 17] [] (fun _ : Unit => ⟨[(0, .t (vs s1)), (17, .t (vb v15))], []⟩) (fun _ => True) (fun _ _ => ?_) fun K3 hK3 => ?_
  rotate_left
  · refine wps_cons rfl fun K hK => ?_; simp [hN']; refine hK _ ?_; clear hK
    refine wps_cons rfl fun K hK => ?_; simp [hN']; refine hK _ ?_; clear hK
    obtain ⟨r4, hc5, hj2⟩ := bind_some hj2
    refine wps_call [(.take, .tmp 5), (.take, .const (.int .i64 1)), (.take, .const (.int .i64 8))] rfl rfl ent90 (spec_l01In_ok _ _ _ hc5) fun K hK => ?_; simp [hN']; refine hK _ ?_; clear hK
    iterate 2 (refine wps_cons rfl fun K hK => ?_; simp [hN']; refine hK _ ?_; clear hK)
    rcases ite_or hj2 with ⟨hb6, hj2⟩ | ⟨hb7, hj2⟩
    · have hb6s := hb6
      try simp at hb6s
      iterate 4 (refine wps_off fun K hK => ?_; simp [hN', hb6, hb6s]; refine hK _ ?_; clear hK)
      iterate 2 (refine wps_cons rfl fun K hK => ?_; simp [hN', hb6, hb6s]; refine hK _ ?_; clear hK)
      iterate 2 (refine wps_off fun K hK => ?_; simp [hN', hb6, hb6s]; refine hK _ ?_; clear hK)
      refine wps_cons rfl fun K hK => ?_; simp [hN', hb6, hb6s]; refine hK _ ?_; clear hK
      refine wps_nil ?_
      cases hj2
      exact hK3 _ () [] trivial (by simp [hN', hb6, hb6s])
    · have hb7s := hb7
      try simp at hb7s
      refine wps_cons rfl fun K hK => ?_; simp [hN', hb7, hb7s]; refine hK _ ?_; clear hK
      obtain ⟨c8, hc8, hj2⟩ := bind_some hj2
      obtain ⟨hc8a, hc8b, hc8c⟩ := sAt_some hc8
      have hc8e : 0 < s1.size := by omega
      refine wps_cons rfl fun K hK => ?_; simp [hN', hb7, hb7s, hc8a, hc8b, hc8c, hc8e]; refine hK _ ?_; clear hK
      obtain ⟨r9, hc10, hj2⟩ := bind_some hj2
      refine wps_call [(.take, .tmp 10)] rfl rfl ent135 (spec_l03Letter_ok _ hc10) fun K hK => ?_; simp [hN', hb7, hb7s, hc8a, hc8b, hc8c, hc8e]; refine hK _ ?_; clear hK
      iterate 3 (refine wps_cons rfl fun K hK => ?_; simp [hN', hb7, hb7s, hc8a, hc8b, hc8c, hc8e]; refine hK _ ?_; clear hK)
      rcases ite_or hj2 with ⟨hb11, hj2⟩ | ⟨hb12, hj2⟩
      · have hb11s := hb11
        try simp at hb11s
        iterate 2 (refine wps_off fun K hK => ?_; simp [hN', hb7, hb7s, hc8a, hc8b, hc8c, hc8e, hb11, hb11s]; refine hK _ ?_; clear hK)
        refine wps_cons rfl fun K hK => ?_; simp [hN', hb7, hb7s, hc8a, hc8b, hc8c, hc8e, hb11, hb11s]; refine hK _ ?_; clear hK
        refine wps_nil ?_
        cases hj2
        exact hK3 _ () [] trivial (by simp [hN', hb7, hb7s, hc8a, hc8b, hc8c, hc8e, hb11, hb11s])
      · have hb12s := hb12
        try simp at hb12s
        refine wps_cons rfl fun K hK => ?_; simp [hN', hb7, hb7s, hc8a, hc8b, hc8c, hc8e, hb12, hb12s]; refine hK _ ?_; clear hK
        obtain ⟨r13, hc14, hj2⟩ := bind_some hj2
        refine wps_call [(.take, .tmp 15)] rfl rfl ent136 (spec_KeyWord_ok _ hc14) fun K hK => ?_; simp [hN', hb7, hb7s, hc8a, hc8b, hc8c, hc8e, hb12, hb12s]; refine hK _ ?_; clear hK
        refine wps_cons rfl fun K hK => ?_; simp [hN', hb7, hb7s, hc8a, hc8b, hc8c, hc8e, hb12, hb12s]; refine hK _ ?_; clear hK
        refine wps_nil ?_
        cases hj2
        exact hK3 _ () [] trivial (by simp [hN', hb7, hb7s, hc8a, hc8b, hc8c, hc8e, hb12, hb12s])
  rcases ite_or h with ⟨hb16, h⟩ | ⟨hb17, h⟩
  · refine SWp.condT' (b := v15) (by simp) hb16 ?_
    refine SWp.seqR rfl (hPB _ rfl) fun K hK => ?_
    refine wps_cons rfl fun K hK => ?_; simp [hN']; refine hK _ ?_; clear hK
    refine wps_nil (hK _ ?_); clear hK
    cases h
    refine SWp.ret ?_
    simp [thenS, inBlockS, res114]
  · refine SWp.condF' (b := v15) (by simp) hb17 ?_
    refine SWp.skip ?_
    show SWp E C _ _ _
    obtain ⟨j20, hj18, h⟩ := bind_some h
    refine SWp.seqC [] [] (fun v : Unit => ⟨[], []⟩) (fun v => j20 = Sum.inl v) (fun v hv => ?_) fun K19 hK19 => ?_
    rotate_left
    · refine SWp.seqR rfl (hPB _ rfl) fun K hK => ?_
      refine wps_cons rfl fun K hK => ?_; simp [hN']; refine hK _ ?_; clear hK
      refine wps_nil (hK _ ?_); clear hK
      refine SWp.block ?_
      refine SWp.loopO [] [0, 3] [] (fun v : Int => ⟨[(0, .t (vs s1)), (3, .t (vi v))], []⟩) (spec_NameOk_l1 s1) _ 0 hj18 (by simp [hN']) ?_
      intro g s24 h22 ho23
      obtain ⟨i21, hg⟩ : ∃ y, y = g := ⟨_, rfl⟩
      subst hg
      simp only [spec_NameOk_l1] at h22
      try dsimp only
      refine SWp.seq ?_
      refine SWp.seqR rfl (hPB _ rfl) fun K hK => ?_
      iterate 4 (refine wps_cons rfl fun K hK => ?_; simp [hN']; refine hK _ ?_; clear hK)
      refine wps_nil (hK _ ?_); clear hK
      rcases ite_or h22 with ⟨hb25, h22⟩ | ⟨hb26, h22⟩
      · refine SWp.condT' (b := decide (i21 < (s1.size : Int))) (by simp) hb25 ?_
        refine SWp.skip ?_
        show SWp E C _ _ _
        refine SWp.seq ?_
        refine SWp.block ?_
        obtain ⟨v36, hj27, h22⟩ := bind_some h22
        refine SWp.seqRC rfl (hPB _ rfl) [0, 3, 35] [] (fun _ : Unit => ⟨[(0, .t (vs s1)), (3, .t (vi i21)), (35, .t (vb v36))], []⟩) (fun _ => True) (fun _ _ => ?_) fun K28 hK28 => ?_
        rotate_left
        · refine wps_cons rfl fun K hK => ?_; simp [hN']; refine hK _ ?_; clear hK
          refine wps_cons rfl fun K hK => ?_; simp [hN']; refine hK _ ?_; clear hK
          obtain ⟨c29, hc29, hj27⟩ := bind_some hj27
          obtain ⟨hc29a, hc29b, hc29c⟩ := sAt_some hc29
          refine wps_cons rfl fun K hK => ?_; simp [hN', hc29a, hc29b, hc29c]; refine hK _ ?_; clear hK
          obtain ⟨r30, hc31, hj27⟩ := bind_some hj27
          refine wps_call [(.take, .tmp 26)] rfl rfl ent135 (spec_l03Letter_ok _ hc31) fun K hK => ?_; simp [hN', hc29a, hc29b, hc29c]; refine hK _ ?_; clear hK
          iterate 2 (refine wps_cons rfl fun K hK => ?_; simp [hN', hc29a, hc29b, hc29c]; refine hK _ ?_; clear hK)
          rcases ite_or hj27 with ⟨hb32, hj27⟩ | ⟨hb33, hj27⟩
          · have hb32s := hb32
            try simp at hb32s
            iterate 3 (refine wps_cons rfl fun K hK => ?_; simp [hN', hc29a, hc29b, hc29c, hb32, hb32s]; refine hK _ ?_; clear hK)
            obtain ⟨r34, hc35, hj27⟩ := bind_some hj27
            refine wps_call [(.take, .tmp 32)] rfl rfl ent137 (spec_l03Figure_ok _ hc35) fun K hK => ?_; simp [hN', hc29a, hc29b, hc29c, hb32, hb32s]; refine hK _ ?_; clear hK
            iterate 2 (refine wps_cons rfl fun K hK => ?_; simp [hN', hc29a, hc29b, hc29c, hb32, hb32s]; refine hK _ ?_; clear hK)
            refine wps_nil ?_
            cases hj27
            exact hK28 _ () [] trivial (by simp [hN', hc29a, hc29b, hc29c, hb32, hb32s])
          · have hb33s := hb33
            try simp at hb33s
            iterate 5 (refine wps_off fun K hK => ?_; simp [hN', hc29a, hc29b, hc29c, hb33, hb33s]; refine hK _ ?_; clear hK)
            refine wps_cons rfl fun K hK => ?_; simp [hN', hc29a, hc29b, hc29c, hb33, hb33s]; refine hK _ ?_; clear hK
            refine wps_nil ?_
            cases hj27
            exact hK28 _ () [] trivial (by simp [hN', hc29a, hc29b, hc29c, hb33, hb33s])
        rcases ite_or h22 with ⟨hb37, h22⟩ | ⟨hb38, h22⟩
        · refine SWp.condT' (b := v36) (by simp) hb37 ?_
          refine SWp.seqR rfl (hPB _ rfl) fun K hK => ?_
          refine wps_cons rfl fun K hK => ?_; simp [hN']; refine hK _ ?_; clear hK
          refine wps_nil (hK _ ?_); clear hK
          have h39 := congrArg some (ho23 _ (Option.some.inj h22).symm)
          cases h39
          try dsimp only at h
          cases h
          refine SWp.ret ?_
          simp [thenS, inBlockS, res114]
        · refine SWp.condF' (b := v36) (by simp) hb38 ?_
          refine SWp.skip ?_
          show SWp E C _ _ _
          refine SWp.reg rfl (hPB _ rfl) fun K hK => ?_
          iterate 3 (refine wps_cons rfl fun K hK => ?_; simp [hN']; refine hK _ ?_; clear hK)
          refine wps_nil (hK _ ?_); clear hK
          cases h22
          exact ⟨_, [], rfl, by simp [hN']⟩
      · refine SWp.condF' (b := decide (i21 < (s1.size : Int))) (by simp) hb26 ?_
        refine SWp.exit ?_
        have h40 := congrArg some (ho23 _ (Option.some.inj h22).symm)
        cases h40
        exact hK19 _ _ [] rfl (by simp [hN'])
    subst hv
    obtain ⟨⟩ := v
    try dsimp only at h ⊢
    refine SWp.seqR rfl (hPB _ rfl) fun K hK => ?_
    refine wps_cons rfl fun K hK => ?_; simp [hN']; refine hK _ ?_; clear hK
    refine wps_nil (hK _ ?_); clear hK
    cases h
    refine SWp.ret ?_
    simp [thenS, inBlockS, res114]
end Go.Proofs.T
set_option linter.unusedVariables false
set_option linter.unusedSimpArgs false
set_option maxHeartbeats 1000000
namespace Go.Proofs.T
open Go.OM
theorem res150 : Tryd.f150.results.toList = [.tmp 2, .tmp 3] := rfl
theorem ent150 : Enters E.P 150 := enters_of Tryd.func150 (by simp [Tryd.f150]) rfl
theorem spec_l04Kids_ok (kind1 : Int) {r0 : Int} {r1 : Int} (h : spec_l04Kids kind1 = some (r0, r1)) : Ok E 150 [.val (vi kind1)] [vi r0, vi r1] [] := by
  refine ok_of_body (fn := Tryd.f150) Tryd.func150 rfl (by simp [Tryd.f150]) fun C hN hP => ?_
  have hPB : ∀ l, pinK [] l = true → pinB C.pin l = true := pinB_of (by rw [hP]; rfl)
  have hN' : C.N = 23 := hN
  clear hN
  unfold spec_l04Kids at h
  refine SWp.seqR rfl (hPB _ rfl) fun K hK => ?_
  iterate 2 (refine wps_cons rfl fun K hK => ?_; simp [hN']; refine hK _ ?_; clear hK)
  refine wps_nil (hK _ ?_); clear hK
  refine SWp.seq ?_
  refine SWp.seqR rfl (hPB _ rfl) fun K hK => ?_
  refine wps_cons rfl fun K hK => ?_; simp [hN']; refine hK _ ?_; clear hK
  refine wps_nil (hK _ ?_); clear hK
  refine SWp.block ?_
  obtain ⟨v15, hj2, h⟩ := bind_some h
  refine SWp.seqC [4, 5] [] (fun _ : Unit => ⟨[(4, .t (vi kind1)), (5, .t (vb v15))], []⟩) (fun _ => True) (fun _ _ => ?_) fun K3 hK3 => ?_
  rotate_left
  · refine SWp.seqR rfl (hPB _ rfl) fun K hK => ?_
    iterate 2 (refine wps_cons rfl fun K hK => ?_; simp [hN']; refine hK _ ?_; clear hK)
    refine wps_nil (hK _ ?_); clear hK
    rcases ite_or hj2 with ⟨hb5, hj2⟩ | ⟨hb6, hj2⟩
    · refine SWp.condT' (b := kind1 == 8) (by simp) hb5 ?_
      refine SWp.skip ?_
      cases hj2
      exact hK3 _ () [] trivial (by simp [hN'])
    · refine SWp.condF' (b := kind1 == 8) (by simp) hb6 ?_
      refine SWp.seqR rfl (hPB _ rfl) fun K hK => ?_
      iterate 2 (refine wps_cons rfl fun K hK => ?_; simp [hN']; refine hK _ ?_; clear hK)
      refine wps_nil (hK _ ?_); clear hK
      rcases ite_or hj2 with ⟨hb7, hj2⟩ | ⟨hb8, hj2⟩
      · refine SWp.condT' (b := kind1 == 13) (by simp) hb7 ?_
        refine SWp.skip ?_
        cases hj2
        exact hK3 _ () [] trivial (by simp [hN'])
      · refine SWp.condF' (b := kind1 == 13) (by simp) hb8 ?_
        refine SWp.seqR rfl (hPB _ rfl) fun K hK => ?_
        iterate 2 (refine wps_cons rfl fun K hK => ?_; simp [hN']; refine hK _ ?_; clear hK)
        refine wps_nil (hK _ ?_); clear hK
        rcases ite_or hj2 with ⟨hb9, hj2⟩ | ⟨hb10, hj2⟩
        · refine SWp.condT' (b := kind1 == 14) (by simp) hb9 ?_
          refine SWp.skip ?_
          cases hj2
          exact hK3 _ () [] trivial (by simp [hN'])
        · refine SWp.condF' (b := kind1 == 14) (by simp) hb10 ?_
          refine SWp.seqR rfl (hPB _ rfl) fun K hK => ?_
          iterate 2 (refine wps_cons rfl fun K hK => ?_; simp [hN']; refine hK _ ?_; clear hK)
          refine wps_nil (hK _ ?_); clear hK
          rcases ite_or hj2 with ⟨hb11, hj2⟩ | ⟨hb12, hj2⟩
          · refine SWp.condT' (b := kind1 == 15) (by simp) hb11 ?_
            refine SWp.skip ?_
            cases hj2
            exact hK3 _ () [] trivial (by simp [hN'])
          · refine SWp.condF' (b := kind1 == 15) (by simp) hb12 ?_
            refine SWp.seqR rfl (hPB _ rfl) fun K hK => ?_
            iterate 2 (refine wps_cons rfl fun K hK => ?_; simp [hN']; refine hK _ ?_; clear hK)
            refine wps_nil (hK _ ?_); clear hK
            rcases ite_or hj2 with ⟨hb13, hj2⟩ | ⟨hb14, hj2⟩
            · refine SWp.condT' (b := kind1 == 18) (by simp) hb13 ?_
              refine SWp.skip ?_
              cases hj2
              exact hK3 _ () [] trivial (by simp [hN'])
            · refine SWp.condF' (b := kind1 == 18) (by simp) hb14 ?_
              refine SWp.reg rfl (hPB _ rfl) fun K hK => ?_
              iterate 2 (refine wps_cons rfl fun K hK => ?_; simp [hN']; refine hK _ ?_; clear hK)
              refine wps_nil (hK _ ?_); clear hK
              cases hj2
              exact hK3 _ () [] trivial (by simp [hN'])
  rcases ite_or h with ⟨hb16, h⟩ | ⟨hb17, h⟩
  · refine SWp.condT' (b := v15) (by simp) hb16 ?_
    refine SWp.seqR rfl (hPB _ rfl) fun K hK => ?_
    iterate 2 (refine wps_cons rfl fun K hK => ?_; simp [hN']; refine hK _ ?_; clear hK)
    refine wps_nil (hK _ ?_); clear hK
    cases h
    refine SWp.ret ?_
    simp [thenS, inBlockS, res150]
  · refine SWp.condF' (b := v15) (by simp) hb17 ?_
    obtain ⟨v27, hj18, h⟩ := bind_some h
    refine SWp.seqC [4, 12] [] (fun _ : Unit => ⟨[(4, .t (vi kind1)), (12, .t (vb v27))], []⟩) (fun _ => True) (fun _ _ => ?_) fun K19 hK19 => ?_
    rotate_left
    · refine SWp.seqR rfl (hPB _ rfl) fun K hK => ?_
      iterate 2 (refine wps_cons rfl fun K hK => ?_; simp [hN']; refine hK _ ?_; clear hK)
      refine wps_nil (hK _ ?_); clear hK
      rcases ite_or hj18 with ⟨hb21, hj18⟩ | ⟨hb22, hj18⟩
      · refine SWp.condT' (b := kind1 == 9) (by simp) hb21 ?_
        refine SWp.skip ?_
        cases hj18
        exact hK19 _ () [] trivial (by simp [hN'])
      · refine SWp.condF' (b := kind1 == 9) (by simp) hb22 ?_
        refine SWp.seqR rfl (hPB _ rfl) fun K hK => ?_
        iterate 2 (refine wps_cons rfl fun K hK => ?_; simp [hN']; refine hK _ ?_; clear hK)
        refine wps_nil (hK _ ?_); clear hK
        rcases ite_or hj18 with ⟨hb23, hj18⟩ | ⟨hb24, hj18⟩
        · refine SWp.condT' (b := kind1 == 10) (by simp) hb23 ?_
          refine SWp.skip ?_
          cases hj18
          exact hK19 _ () [] trivial (by simp [hN'])
        · refine SWp.condF' (b := kind1 == 10) (by simp) hb24 ?_
          refine SWp.seqR rfl (hPB _ rfl) fun K hK => ?_
          iterate 2 (refine wps_cons rfl fun K hK => ?_; simp [hN']; refine hK _ ?_; clear hK)
          refine wps_nil (hK _ ?_); clear hK
          rcases ite_or hj18 with ⟨hb25, hj18⟩ | ⟨hb26, hj18⟩
          · refine SWp.condT' (b := kind1 == 11) (by simp) hb25 ?_
            refine SWp.skip ?_
            cases hj18
            exact hK19 _ () [] trivial (by simp [hN'])
          · refine SWp.condF' (b := kind1 == 11) (by simp) hb26 ?_
            refine SWp.reg rfl (hPB _ rfl) fun K hK => ?_
            iterate 2 (refine wps_cons rfl fun K hK => ?_; simp [hN']; refine hK _ ?_; clear hK)
            refine wps_nil (hK _ ?_); clear hK
            cases hj18
            exact hK19 _ () [] trivial (by simp [hN'])
    rcases ite_or h with ⟨hb28, h⟩ | ⟨hb29, h⟩
    · refine SWp.condT' (b := v27) (by simp) hb28 ?_
      refine SWp.seqR rfl (hPB _ rfl) fun K hK => ?_
      iterate 2 (refine wps_cons rfl fun K hK => ?_; simp [hN']; refine hK _ ?_; clear hK)
      refine wps_nil (hK _ ?_); clear hK
      cases h
      refine SWp.ret ?_
      simp [thenS, inBlockS, res150]
    · refine SWp.condF' (b := v27) (by simp) hb29 ?_
      refine SWp.seqR rfl (hPB _ rfl) fun K hK => ?_
      iterate 2 (refine wps_cons rfl fun K hK => ?_; simp [hN']; refine hK _ ?_; clear hK)
      refine wps_nil (hK _ ?_); clear hK
      rcases ite_or h with ⟨hb30, h⟩ | ⟨hb31, h⟩
      · refine SWp.condT' (b := kind1 == 12) (by simp) hb30 ?_
        refine SWp.seqR rfl (hPB _ rfl) fun K hK => ?_
        iterate 2 (refine wps_cons rfl fun K hK => ?_; simp [hN']; refine hK _ ?_; clear hK)
        refine wps_nil (hK _ ?_); clear hK
        cases h
        refine SWp.ret ?_
        simp [thenS, inBlockS, res150]
      · refine SWp.condF' (b := kind1 == 12) (by simp) hb31 ?_
        refine SWp.seqR rfl (hPB _ rfl) fun K hK => ?_
        iterate 2 (refine wps_cons rfl fun K hK => ?_; simp [hN']; refine hK _ ?_; clear hK)
        refine wps_nil (hK _ ?_); clear hK
        rcases ite_or h with ⟨hb32, h⟩ | ⟨hb33, h⟩
        · refine SWp.condT' (b := kind1 == 16) (by simp) hb32 ?_
          refine SWp.seqR rfl (hPB _ rfl) fun K hK => ?_
          iterate 2 (refine wps_cons rfl fun K hK => ?_; simp [hN']; refine hK _ ?_; clear hK)
          refine wps_nil (hK _ ?_); clear hK
          cases h
          refine SWp.ret ?_
          simp [thenS, inBlockS, res150]
        · refine SWp.condF' (b := kind1 == 16) (by simp) hb33 ?_
          refine SWp.seqR rfl (hPB _ rfl) fun K hK => ?_
          iterate 2 (refine wps_cons rfl fun K hK => ?_; simp [hN']; refine hK _ ?_; clear hK)
          refine wps_nil (hK _ ?_); clear hK
          rcases ite_or h with ⟨hb34, h⟩ | ⟨hb35, h⟩
          · refine SWp.condT' (b := kind1 == 20) (by simp) hb34 ?_
            refine SWp.seqR rfl (hPB _ rfl) fun K hK => ?_
            iterate 2 (refine wps_cons rfl fun K hK => ?_; simp [hN']; refine hK _ ?_; clear hK)
            refine wps_nil (hK _ ?_); clear hK
            cases h
            refine SWp.ret ?_
            simp [thenS, inBlockS, res150]
          · refine SWp.condF' (b := kind1 == 20) (by simp) hb35 ?_
            refine SWp.skip ?_
            show SWp E C _ _ _
            refine SWp.seqR rfl (hPB _ rfl) fun K hK => ?_
            iterate 2 (refine wps_cons rfl fun K hK => ?_; simp [hN']; refine hK _ ?_; clear hK)
            refine wps_nil (hK _ ?_); clear hK
            cases h
            refine SWp.ret ?_
            simp [thenS, inBlockS, res150]
end Go.Proofs.T
set_option linter.unusedVariables false
set_option linter.unusedSimpArgs false
set_option maxHeartbeats 1000000
namespace Go.Proofs.T
open Go.OM
theorem res151 : Tryd.f151.results.toList = [.tmp 2] := rfl
theorem ent151 : Enters E.P 151 := enters_of Tryd.func151 (by simp [Tryd.f151]) rfl
theorem spec_l04Named_ok (kind1 : Int) {r0 : Bool} (h : spec_l04Named kind1 = some r0) : Ok E 151 [.val (vi kind1)] [vb r0] [] := by
  refine ok_of_body (fn := Tryd.f151) Tryd.func151 rfl (by simp [Tryd.f151]) fun C hN hP => ?_
  have hPB : ∀ l, pinK [] l = true → pinB C.pin l = true := pinB_of (by rw [hP]; rfl)
  have hN' : C.N = 14 := hN
  clear hN
  unfold spec_l04Named at h
  refine SWp.seqR rfl (hPB _ rfl) fun K hK => ?_
  refine wps_cons rfl fun K hK => ?_; simp [hN']; refine hK _ ?_; clear hK
  refine wps_nil (hK _ ?_); clear hK
  refine SWp.seq ?_
  refine SWp.seqR rfl (hPB _ rfl) fun K hK => ?_
  refine wps_cons rfl fun K hK => ?_; simp [hN']; refine hK _ ?_; clear hK
  refine wps_nil (hK _ ?_); clear hK
  refine SWp.block ?_
  obtain ⟨v21, hj2, h⟩ := bind_some h
  refine SWp.seqC [4] [] (fun _ : Unit => ⟨[(4, .t (vb v21))], []⟩) (fun _ => True) (fun _ _ => ?_) fun K3 hK3 => ?_
  rotate_left
  · refine SWp.seqR rfl (hPB _ rfl) fun K hK => ?_
    iterate 2 (refine wps_cons rfl fun K hK => ?_; simp [hN']; refine hK _ ?_; clear hK)
    refine wps_nil (hK _ ?_); clear hK
    rcases ite_or hj2 with ⟨hb5, hj2⟩ | ⟨hb6, hj2⟩
    · refine SWp.condT' (b := kind1 == 2) (by simp) hb5 ?_
      refine SWp.skip ?_
      cases hj2
      exact hK3 _ () [] trivial (by simp [hN'])
    · refine SWp.condF' (b := kind1 == 2) (by simp) hb6 ?_
      refine SWp.seqR rfl (hPB _ rfl) fun K hK => ?_
      iterate 2 (refine wps_cons rfl fun K hK => ?_; simp [hN']; refine hK _ ?_; clear hK)
      refine wps_nil (hK _ ?_); clear hK
      rcases ite_or hj2 with ⟨hb7, hj2⟩ | ⟨hb8, hj2⟩
      · refine SWp.condT' (b := kind1 == 3) (by simp) hb7 ?_
        refine SWp.skip ?_
        cases hj2
        exact hK3 _ () [] trivial (by simp [hN'])
      · refine SWp.condF' (b := kind1 == 3) (by simp) hb8 ?_
        refine SWp.seqR rfl (hPB _ rfl) fun K hK => ?_
        iterate 2 (refine wps_cons rfl fun K hK => ?_; simp [hN']; refine hK _ ?_; clear hK)
        refine wps_nil (hK _ ?_); clear hK
        rcases ite_or hj2 with ⟨hb9, hj2⟩ | ⟨hb10, hj2⟩
        · refine SWp.condT' (b := kind1 == 4) (by simp) hb9 ?_
          refine SWp.skip ?_
          cases hj2
          exact hK3 _ () [] trivial (by simp [hN'])
        · refine SWp.condF' (b := kind1 == 4) (by simp) hb10 ?_
          refine SWp.seqR rfl (hPB _ rfl) fun K hK => ?_
          iterate 2 (refine wps_cons rfl fun K hK => ?_; simp [hN']; refine hK _ ?_; clear hK)
          refine wps_nil (hK _ ?_); clear hK
          rcases ite_or hj2 with ⟨hb11, hj2⟩ | ⟨hb12, hj2⟩
          · refine SWp.condT' (b := kind1 == 5) (by simp) hb11 ?_
            refine SWp.skip ?_
            cases hj2
            exact hK3 _ () [] trivial (by simp [hN'])
          · refine SWp.condF' (b := kind1 == 5) (by simp) hb12 ?_
            refine SWp.seqR rfl (hPB _ rfl) fun K hK => ?_
            iterate 2 (refine wps_cons rfl fun K hK => ?_; simp [hN']; refine hK _ ?_; clear hK)
            refine wps_nil (hK _ ?_); clear hK
            rcases ite_or hj2 with ⟨hb13, hj2⟩ | ⟨hb14, hj2⟩
            · refine SWp.condT' (b := kind1 == 6) (by simp) hb13 ?_
              refine SWp.skip ?_
              cases hj2
              exact hK3 _ () [] trivial (by simp [hN'])
            · refine SWp.condF' (b := kind1 == 6) (by simp) hb14 ?_
              refine SWp.seqR rfl (hPB _ rfl) fun K hK => ?_
              iterate 2 (refine wps_cons rfl fun K hK => ?_; simp [hN']; refine hK _ ?_; clear hK)
              refine wps_nil (hK _ ?_); clear hK
              rcases ite_or hj2 with ⟨hb15, hj2⟩ | ⟨hb16, hj2⟩
              · refine SWp.condT' (b := kind1 == 12) (by simp) hb15 ?_
                refine SWp.skip ?_
                cases hj2
                exact hK3 _ () [] trivial (by simp [hN'])
              · refine SWp.condF' (b := kind1 == 12) (by simp) hb16 ?_
                refine SWp.seqR rfl (hPB _ rfl) fun K hK => ?_
                iterate 2 (refine wps_cons rfl fun K hK => ?_; simp [hN']; refine hK _ ?_; clear hK)
                refine wps_nil (hK _ ?_); clear hK
                rcases ite_or hj2 with ⟨hb17, hj2⟩ | ⟨hb18, hj2⟩
                · refine SWp.condT' (b := kind1 == 13) (by simp) hb17 ?_
                  refine SWp.skip ?_
                  cases hj2
                  exact hK3 _ () [] trivial (by simp [hN'])
                · refine SWp.condF' (b := kind1 == 13) (by simp) hb18 ?_
                  refine SWp.seqR rfl (hPB _ rfl) fun K hK => ?_
                  iterate 2 (refine wps_cons rfl fun K hK => ?_; simp [hN']; refine hK _ ?_; clear hK)
                  refine wps_nil (hK _ ?_); clear hK
                  rcases ite_or hj2 with ⟨hb19, hj2⟩ | ⟨hb20, hj2⟩
                  · refine SWp.condT' (b := kind1 == 14) (by simp) hb19 ?_
                    refine SWp.skip ?_
                    cases hj2
                    exact hK3 _ () [] trivial (by simp [hN'])
                  · refine SWp.condF' (b := kind1 == 14) (by simp) hb20 ?_
                    refine SWp.reg rfl (hPB _ rfl) fun K hK => ?_
                    iterate 2 (refine wps_cons rfl fun K hK => ?_; simp [hN']; refine hK _ ?_; clear hK)
                    refine wps_nil (hK _ ?_); clear hK
                    cases hj2
                    exact hK3 _ () [] trivial (by simp [hN'])
  rcases ite_or h with ⟨hb22, h⟩ | ⟨hb23, h⟩
  · refine SWp.condT' (b := v21) (by simp) hb22 ?_
    refine SWp.seqR rfl (hPB _ rfl) fun K hK => ?_
    refine wps_cons rfl fun K hK => ?_; simp [hN']; refine hK _ ?_; clear hK
    refine wps_nil (hK _ ?_); clear hK
    cases h
    refine SWp.ret ?_
    simp [thenS, inBlockS, res151]
  · refine SWp.condF' (b := v21) (by simp) hb23 ?_
    refine SWp.skip ?_
    show SWp E C _ _ _
    refine SWp.seqR rfl (hPB _ rfl) fun K hK => ?_
    refine wps_cons rfl fun K hK => ?_; simp [hN']; refine hK _ ?_; clear hK
    refine wps_nil (hK _ ?_); clear hK
    cases h
    refine SWp.ret ?_
    simp [thenS, inBlockS, res151]
end Go.Proofs.T
set_option linter.unusedVariables false
set_option linter.unusedSimpArgs false
set_option maxHeartbeats 1000000
namespace Go.Proofs.T
open Go.OM
theorem res61 : Tryd.f61.results.toList = [.tmp 2] := rfl
theorem ent61 : Enters E.P 61 := enters_of Tryd.func61 (by simp [Tryd.f61]) rfl
theorem spec_l04Value_ok (kind1 : Int) {r0 : Bool} (h : spec_l04Value kind1 = some r0) : Ok E 61 [.val (vi kind1)] [vb r0] [] := by
  refine ok_of_body (fn := Tryd.f61) Tryd.func61 rfl (by simp [Tryd.f61]) fun C hN hP => ?_
  have hPB : ∀ l, pinK [] l = true → pinB C.pin l = true := pinB_of (by rw [hP]; rfl)
  have hN' : C.N = 5 := hN
  clear hN
  unfold spec_l04Value at h
  refine SWp.seqR rfl (hPB _ rfl) fun K hK => ?_
  refine wps_cons rfl fun K hK => ?_; simp [hN']; refine hK _ ?_; clear hK
  refine wps_nil (hK _ ?_); clear hK
  refine SWp.seqR rfl (hPB _ rfl) fun K hK => ?_
  refine wps_cons rfl fun K hK => ?_; simp [hN']; refine hK _ ?_; clear hK
  obtain ⟨r2, hc3, h⟩ := bind_some h
  refine wps_call [(.take, .tmp 3), (.take, .const (.int .i64 1)), (.take, .const (.int .i64 12))] rfl rfl ent90 (spec_l01In_ok _ _ _ hc3) fun K hK => ?_; simp [hN']; refine hK _ ?_; clear hK
  refine wps_cons rfl fun K hK => ?_; simp [hN']; refine hK _ ?_; clear hK
  refine wps_nil (hK _ ?_); clear hK
  cases h
  refine SWp.ret ?_
  simp [thenS, inBlockS, res61]
end Go.Proofs.T
set_option linter.unusedVariables false
set_option linter.unusedSimpArgs false
set_option maxHeartbeats 1000000
namespace Go.Proofs.T
open Go.OM
theorem res62 : Tryd.f62.results.toList = [.tmp 2] := rfl
theorem ent62 : Enters E.P 62 := enters_of Tryd.func62 (by simp [Tryd.f62]) rfl
theorem spec_l04Statement_ok (kind1 : Int) {r0 : Bool} (h : spec_l04Statement kind1 = some r0) : Ok E 62 [.val (vi kind1)] [vb r0] [] := by
  refine ok_of_body (fn := Tryd.f62) Tryd.func62 rfl (by simp [Tryd.f62]) fun C hN hP => ?_
  have hPB : ∀ l, pinK [] l = true → pinB C.pin l = true := pinB_of (by rw [hP]; rfl)
  have hN' : C.N = 5 := hN
  clear hN
  unfold spec_l04Statement at h
  refine SWp.seqR rfl (hPB _ rfl) fun K hK => ?_
  refine wps_cons rfl fun K hK => ?_; simp [hN']; refine hK _ ?_; clear hK
  refine wps_nil (hK _ ?_); clear hK
  refine SWp.seqR rfl (hPB _ rfl) fun K hK => ?_
  refine wps_cons rfl fun K hK => ?_; simp [hN']; refine hK _ ?_; clear hK
  obtain ⟨r2, hc3, h⟩ := bind_some h
  refine wps_call [(.take, .tmp 3), (.take, .const (.int .i64 13)), (.take, .const (.int .i64 19))] rfl rfl ent90 (spec_l01In_ok _ _ _ hc3) fun K hK => ?_; simp [hN']; refine hK _ ?_; clear hK
  refine wps_cons rfl fun K hK => ?_; simp [hN']; refine hK _ ?_; clear hK
  refine wps_nil (hK _ ?_); clear hK
  cases h
  refine SWp.ret ?_
  simp [thenS, inBlockS, res62]
end Go.Proofs.T
set_option linter.unusedVariables false
set_option linter.unusedSimpArgs false
set_option maxHeartbeats 1000000
namespace Go.Proofs.T
open Go.OM
theorem res152 : Tryd.f152.results.toList = [.tmp 6] := rfl
theorem ent152 : Enters E.P 152 := enters_of Tryd.func152 (by simp [Tryd.f152]) rfl
theorem spec_l04Fits_ok (kind1 : Int) (at2 : Int) (kid3 : Int) {r0 : Bool} (h : spec_l04Fits kind1 at2 kid3 = some r0) : Ok E 152 [.val (vi kind1), .val (vi at2), .val (vi kid3)] [vb r0] [] := by
  refine ok_of_body (fn := Tryd.f152) Tryd.func152 rfl (by simp [Tryd.f152]) fun C hN hP => ?_
  have hPB : ∀ l, pinK [] l = true → pinB C.pin l = true := pinB_of (by rw [hP]; rfl)
  have hN' : C.N = 25 := hN
  clear hN
  unfold spec_l04Fits at h
  refine SWp.seqR rfl (hPB _ rfl) fun K hK => ?_
  refine wps_cons rfl fun K hK => ?_; simp [hN']; refine hK _ ?_; clear hK
  refine wps_nil (hK _ ?_); clear hK
  refine SWp.seq ?_
  refine SWp.seqR rfl (hPB _ rfl) fun K hK => ?_
  refine wps_cons rfl fun K hK => ?_; simp [hN']; refine hK _ ?_; clear hK
  refine wps_nil (hK _ ?_); clear hK
  refine SWp.block ?_
  refine SWp.seqR rfl (hPB _ rfl) fun K hK => ?_
  iterate 2 (refine wps_cons rfl fun K hK => ?_; simp [hN']; refine hK _ ?_; clear hK)
  refine wps_nil (hK _ ?_); clear hK
  rcases ite_or h with ⟨hb4, h⟩ | ⟨hb5, h⟩
  · refine SWp.condT' (b := kind1 == 20) (by simp) hb4 ?_
    refine SWp.seqR rfl (hPB _ rfl) fun K hK => ?_
    refine wps_cons rfl fun K hK => ?_; simp [hN']; refine hK _ ?_; clear hK
    obtain ⟨r6, hc7, h⟩ := bind_some h
    refine wps_call [(.take, .tmp 10)] rfl rfl ent62 (spec_l04Statement_ok _ hc7) fun K hK => ?_; simp [hN']; refine hK _ ?_; clear hK
    refine wps_cons rfl fun K hK => ?_; simp [hN']; refine hK _ ?_; clear hK
    refine wps_nil (hK _ ?_); clear hK
    cases h
    refine SWp.ret ?_
    simp [thenS, inBlockS, res152]
  · refine SWp.condF' (b := kind1 == 20) (by simp) hb5 ?_
    obtain ⟨v13, hj8, h⟩ := bind_some h
    refine SWp.seqC [1, 2, 7, 12] [] (fun _ : Unit => ⟨[(1, .t (vi at2)), (2, .t (vi kid3)), (7, .t (vi kind1)), (12, .t (vb v13))], []⟩) (fun _ => True) (fun _ _ => ?_) fun K9 hK9 => ?_
    rotate_left
    · refine SWp.seqR rfl (hPB _ rfl) fun K hK => ?_
      iterate 2 (refine wps_cons rfl fun K hK => ?_; simp [hN']; refine hK _ ?_; clear hK)
      refine wps_nil (hK _ ?_); clear hK
      rcases ite_or hj8 with ⟨hb11, hj8⟩ | ⟨hb12, hj8⟩
      · refine SWp.condT' (b := kind1 == 16) (by simp) hb11 ?_
        refine SWp.skip ?_
        cases hj8
        exact hK9 _ () [] trivial (by simp [hN'])
      · refine SWp.condF' (b := kind1 == 16) (by simp) hb12 ?_
        refine SWp.reg rfl (hPB _ rfl) fun K hK => ?_
        iterate 2 (refine wps_cons rfl fun K hK => ?_; simp [hN']; refine hK _ ?_; clear hK)
        refine wps_nil (hK _ ?_); clear hK
        cases hj8
        exact hK9 _ () [] trivial (by simp [hN'])
    rcases ite_or h with ⟨hb14, h⟩ | ⟨hb15, h⟩
    · refine SWp.condT' (b := v13) (by simp) hb14 ?_
      refine SWp.seqR rfl (hPB _ rfl) fun K hK => ?_
      iterate 2 (refine wps_cons rfl fun K hK => ?_; simp [hN']; refine hK _ ?_; clear hK)
      refine wps_nil (hK _ ?_); clear hK
      rcases ite_or h with ⟨hb16, h⟩ | ⟨hb17, h⟩
      · refine SWp.condT' (b := decide (at2 > 0)) (by simp) hb16 ?_
        refine SWp.seqR rfl (hPB _ rfl) fun K hK => ?_
        iterate 3 (refine wps_cons rfl fun K hK => ?_; simp [hN']; refine hK _ ?_; clear hK)
        refine wps_nil (hK _ ?_); clear hK
        cases h
        refine SWp.ret ?_
        simp [thenS, inBlockS, res152]
      · refine SWp.condF' (b := decide (at2 > 0)) (by simp) hb17 ?_
        refine SWp.skip ?_
        show SWp E C _ _ _
        refine SWp.seqR rfl (hPB _ rfl) fun K hK => ?_
        refine wps_cons rfl fun K hK => ?_; simp [hN']; refine hK _ ?_; clear hK
        obtain ⟨r18, hc19, h⟩ := bind_some h
        refine wps_call [(.take, .tmp 23)] rfl rfl ent61 (spec_l04Value_ok _ hc19) fun K hK => ?_; simp [hN']; refine hK _ ?_; clear hK
        refine wps_cons rfl fun K hK => ?_; simp [hN']; refine hK _ ?_; clear hK
        refine wps_nil (hK _ ?_); clear hK
        cases h
        refine SWp.ret ?_
        simp [thenS, inBlockS, res152]
    · refine SWp.condF' (b := v13) (by simp) hb15 ?_
      refine SWp.seqR rfl (hPB _ rfl) fun K hK => ?_
      iterate 2 (refine wps_cons rfl fun K hK => ?_; simp [hN']; refine hK _ ?_; clear hK)
      refine wps_nil (hK _ ?_); clear hK
      rcases ite_or h with ⟨hb20, h⟩ | ⟨hb21, h⟩
      · refine SWp.condT' (b := kind1 == 19) (by simp) hb20 ?_
        refine SWp.seqR rfl (hPB _ rfl) fun K hK => ?_
        iterate 3 (refine wps_cons rfl fun K hK => ?_; simp [hN']; refine hK _ ?_; clear hK)
        refine wps_nil (hK _ ?_); clear hK
        cases h
        refine SWp.ret ?_
        simp [thenS, inBlockS, res152]
      · refine SWp.condF' (b := kind1 == 19) (by simp) hb21 ?_
        refine SWp.skip ?_
        show SWp E C _ _ _
        refine SWp.seqR rfl (hPB _ rfl) fun K hK => ?_
        refine wps_cons rfl fun K hK => ?_; simp [hN']; refine hK _ ?_; clear hK
        obtain ⟨r22, hc23, h⟩ := bind_some h
        refine wps_call [(.take, .tmp 23)] rfl rfl ent61 (spec_l04Value_ok _ hc23) fun K hK => ?_; simp [hN']; refine hK _ ?_; clear hK
        refine wps_cons rfl fun K hK => ?_; simp [hN']; refine hK _ ?_; clear hK
        refine wps_nil (hK _ ?_); clear hK
        cases h
        refine SWp.ret ?_
        simp [thenS, inBlockS, res152]
end Go.Proofs.T
set_option linter.unusedVariables false
set_option linter.unusedSimpArgs false
set_option maxHeartbeats 8000000
namespace Go.Proofs.T
open Go.OM
theorem res127 : Tryd.f127.results.toList = [.tmp 4] := rfl
theorem ent127 : Enters E.P 127 := enters_of Tryd.func127 (by simp [Tryd.f127]) rfl
theorem spec_NodeOk_ok (nodes1 : List GNode) (k2 : Int) {r0 : Bool} (h : spec_NodeOk nodes1 k2 = some r0) : Ok E 127 [.val (.sl false 4 (List.map (GNode.enc false) nodes1)), .val (vi k2)] [vb r0] [] := by
  refine ok_of_body (fn := Tryd.f127) Tryd.func127 rfl (by simp [Tryd.f127]) fun C hN hP => ?_
  have hPB : ∀ l, pinK [] l = true → pinB C.pin l = true := pinB_of (by rw [hP]; rfl)
  have hN' : C.N = 124 := hN
  clear hN
  unfold spec_NodeOk at h
  refine SWp.seqR rfl (hPB _ rfl) fun K hK => ?_
  refine wps_cons rfl fun K hK => ?_; simp [hN']; refine hK _ ?_; clear hK
  refine wps_nil (hK _ ?_); clear hK
  refine SWp.seq ?_
  obtain ⟨v12, hj3, h⟩ := bind_some h
  refine SWp.seqRC rfl (hPB _ rfl) [0, 1, 24] [] (fun _ : Unit => ⟨[(0, .t (.sl false 4 (List.map (GNode.enc false) nodes1))), (1, .t (vi k2)), (24, .t (vb v12))], []⟩) (fun _ => True) (fun _ _ => ?_) fun K4 hK4 => ?_
  rotate_left
  · refine wps_cons rfl fun K hK => ?_; simp [hN']; refine hK _ ?_; clear hK
    iterate 3 (refine wps_cons rfl fun K hK => ?_; simp [hN']; refine hK _ ?_; clear hK)
    obtain ⟨r5, hc6, hj3⟩ := bind_some hj3
    refine wps_call [(.take, .tmp 10), (.take, .const (.int .i64 0)), (.take, .tmp 13)] rfl rfl ent90 (spec_l01In_ok _ _ _ hc6) fun K hK => ?_; simp [hN']; refine hK _ ?_; clear hK
    iterate 2 (refine wps_cons rfl fun K hK => ?_; simp [hN']; refine hK _ ?_; clear hK)
    rcases ite_or hj3 with ⟨hb7, hj3⟩ | ⟨hb8, hj3⟩
    · have hb7s := hb7
      try simp at hb7s
      iterate 7 (refine wps_off fun K hK => ?_; simp [hN', hb7, hb7s]; refine hK _ ?_; clear hK)
      refine wps_cons rfl fun K hK => ?_; simp [hN', hb7, hb7s]; refine hK _ ?_; clear hK
      refine wps_nil ?_
      cases hj3
      exact hK4 _ () [] trivial (by simp [hN', hb7, hb7s])
    · have hb8s := hb8
      try simp at hb8s
      iterate 2 (refine wps_cons rfl fun K hK => ?_; simp [hN', hb8, hb8s]; refine hK _ ?_; clear hK)
      obtain ⟨e9, he9, hj3⟩ := bind_some hj3
      obtain ⟨he9a, he9b, he9c, he9d⟩ := getI_some he9
      iterate 3 (refine wps_cons rfl fun K hK => ?_; simp [hN', hb8, hb8s, he9a, he9b, he9c, he9d]; refine hK _ ?_; clear hK)
      obtain ⟨r10, hc11, hj3⟩ := bind_some hj3
      refine wps_call [(.take, .tmp 21), (.take, .const (.int .i64 1)), (.take, .const (.int .i64 20))] rfl rfl ent90 (spec_l01In_ok _ _ _ hc11) fun K hK => ?_; simp [hN', hb8, hb8s, he9a, he9b, he9c, he9d]; refine hK _ ?_; clear hK
      iterate 2 (refine wps_cons rfl fun K hK => ?_; simp [hN', hb8, hb8s, he9a, he9b, he9c, he9d]; refine hK _ ?_; clear hK)
      refine wps_nil ?_
      cases hj3
      exact hK4 _ () [] trivial (by simp [hN', hb8, hb8s, he9a, he9b, he9c, he9d])
  rcases ite_or h with ⟨hb13, h⟩ | ⟨hb14, h⟩
  · refine SWp.condT' (b := v12) (by simp) hb13 ?_
    refine SWp.seqR rfl (hPB _ rfl) fun K hK => ?_
    refine wps_cons rfl fun K hK => ?_; simp [hN']; refine hK _ ?_; clear hK
    refine wps_nil (hK _ ?_); clear hK
    cases h
    refine SWp.ret ?_
    simp [thenS, inBlockS, res127]
  · refine SWp.condF' (b := v12) (by simp) hb14 ?_
    refine SWp.skip ?_
    show SWp E C _ _ _
    refine SWp.seqR rfl (hPB _ rfl) fun K hK => ?_
    iterate 2 (refine wps_cons rfl fun K hK => ?_; simp [hN']; refine hK _ ?_; clear hK)
    obtain ⟨e15, he15, h⟩ := bind_some h
    obtain ⟨he15a, he15b, he15c, he15d⟩ := getI_some he15
    iterate 4 (refine wps_cons rfl fun K hK => ?_; simp [hN', he15a, he15b, he15c, he15d]; refine hK _ ?_; clear hK)
    refine wps_nil (hK _ ?_); clear hK
    refine SWp.seqR rfl (hPB _ rfl) fun K hK => ?_
    iterate 2 (refine wps_cons rfl fun K hK => ?_; simp [hN']; refine hK _ ?_; clear hK)
    obtain ⟨⟨r16, r17⟩, hc18, h⟩ := bind_some h
    try dsimp only at h
    refine wps_call [(.take, .tmp 31)] rfl rfl ent150 (spec_l04Kids_ok _ hc18) fun K hK => ?_; simp [hN']; refine hK _ ?_; clear hK
    iterate 5 (refine wps_cons rfl fun K hK => ?_; simp [hN']; refine hK _ ?_; clear hK)
    refine wps_nil (hK _ ?_); clear hK
    refine SWp.seq ?_
    obtain ⟨v31, hj19, h⟩ := bind_some h
    refine SWp.seqRC rfl (hPB _ rfl) [0, 1, 5, 57] [5] (fun _ : Unit => ⟨[(0, .t (.sl false 4 (List.map (GNode.enc false) nodes1))), (1, .t (vi k2)), (5, .ref (.box 5) 0 []), (57, .t (vb v31))], [(5, [vi e15.Kind, vi e15.Num, vs e15.Name, .sl false 1 (List.map vi e15.Kids)])]⟩) (fun _ => True) (fun _ _ => ?_) fun K20 hK20 => ?_
    rotate_left
    · refine wps_cons rfl fun K hK => ?_; simp [hN']; refine hK _ ?_; clear hK
      iterate 4 (refine wps_cons rfl fun K hK => ?_; simp [hN']; refine hK _ ?_; clear hK)
      obtain ⟨r21, hc22, hj19⟩ := bind_some hj19
      refine wps_call [(.take, .tmp 37), (.take, .tmp 38), (.take, .tmp 39)] rfl rfl ent90 (spec_l01In_ok _ _ _ hc22) fun K hK => ?_; simp [hN']; refine hK _ ?_; clear hK
      iterate 2 (refine wps_cons rfl fun K hK => ?_; simp [hN']; refine hK _ ?_; clear hK)
      rcases ite_or hj19 with ⟨hb23, hj19⟩ | ⟨hb24, hj19⟩
      · have hb23s := hb23
        try simp at hb23s
        iterate 4 (refine wps_off fun K hK => ?_; simp [hN', hb23, hb23s]; refine hK _ ?_; clear hK)
        iterate 2 (refine wps_cons rfl fun K hK => ?_; simp [hN', hb23, hb23s]; refine hK _ ?_; clear hK)
        iterate 8 (refine wps_off fun K hK => ?_; simp [hN', hb23, hb23s]; refine hK _ ?_; clear hK)
        refine wps_cons rfl fun K hK => ?_; simp [hN', hb23, hb23s]; refine hK _ ?_; clear hK
        refine wps_nil ?_
        cases hj19
        exact hK20 _ () [] trivial (by simp [hN', hb23, hb23s])
      · have hb24s := hb24
        try simp at hb24s
        iterate 2 (refine wps_cons rfl fun K hK => ?_; simp [hN', hb24, hb24s]; refine hK _ ?_; clear hK)
        obtain ⟨r25, hc26, hj19⟩ := bind_some hj19
        refine wps_call [(.take, .tmp 44), (.take, .const (.int .i64 0)), (.take, .const (.int .i64 1000000000))] rfl rfl ent90 (spec_l01In_ok _ _ _ hc26) fun K hK => ?_; simp [hN', hb24, hb24s]; refine hK _ ?_; clear hK
        iterate 3 (refine wps_cons rfl fun K hK => ?_; simp [hN', hb24, hb24s]; refine hK _ ?_; clear hK)
        rcases ite_or hj19 with ⟨hb27, hj19⟩ | ⟨hb28, hj19⟩
        · have hb27s := hb27
          try simp at hb27s
          iterate 8 (refine wps_off fun K hK => ?_; simp [hN', hb24, hb24s, hb27, hb27s]; refine hK _ ?_; clear hK)
          refine wps_cons rfl fun K hK => ?_; simp [hN', hb24, hb24s, hb27, hb27s]; refine hK _ ?_; clear hK
          refine wps_nil ?_
          cases hj19
          exact hK20 _ () [] trivial (by simp [hN', hb24, hb24s, hb27, hb27s])
        · have hb28s := hb28
          try simp at hb28s
          iterate 4 (refine wps_cons rfl fun K hK => ?_; simp [hN', hb24, hb24s, hb28, hb28s]; refine hK _ ?_; clear hK)
          rcases ite_or hj19 with ⟨hb29, hj19⟩ | ⟨hb30, hj19⟩
          · have hb29s := hb29
            try simp at hb29s
            iterate 5 (refine wps_cons rfl fun K hK => ?_; simp [hN', hb24, hb24s, hb28, hb28s, hb29, hb29s]; refine hK _ ?_; clear hK)
            refine wps_nil ?_
            cases hj19
            exact hK20 _ () [] trivial (by simp [hN', hb24, hb24s, hb28, hb28s, hb29, hb29s])
          · have hb30s := hb30
            try simp at hb30s
            iterate 3 (refine wps_off fun K hK => ?_; simp [hN', hb24, hb24s, hb28, hb28s, hb30, hb30s]; refine hK _ ?_; clear hK)
            iterate 2 (refine wps_cons rfl fun K hK => ?_; simp [hN', hb24, hb24s, hb28, hb28s, hb30, hb30s]; refine hK _ ?_; clear hK)
            refine wps_nil ?_
            cases hj19
            exact hK20 _ () [] trivial (by simp [hN', hb24, hb24s, hb28, hb28s, hb30, hb30s])
    rcases ite_or h with ⟨hb32, h⟩ | ⟨hb33, h⟩
    · refine SWp.condT' (b := v31) (by simp) hb32 ?_
      refine SWp.seqR rfl (hPB _ rfl) fun K hK => ?_
      refine wps_cons rfl fun K hK => ?_; simp [hN']; refine hK _ ?_; clear hK
      refine wps_nil (hK _ ?_); clear hK
      cases h
      refine SWp.ret ?_
      simp [thenS, inBlockS, res127]
    · refine SWp.condF' (b := v31) (by simp) hb33 ?_
      refine SWp.skip ?_
      show SWp E C _ _ _
      refine SWp.seq ?_
      obtain ⟨v44, hj34, h⟩ := bind_some h
      refine SWp.seqC [0, 1, 5, 75] [5] (fun _ : Unit => ⟨[(0, .t (.sl false 4 (List.map (GNode.enc false) nodes1))), (1, .t (vi k2)), (5, .ref (.box 5) 0 []), (75, .t (vb v44))], [(5, [vi e15.Kind, vi e15.Num, vs e15.Name, .sl false 1 (List.map vi e15.Kids)])]⟩) (fun _ => True) (fun _ _ => ?_) fun K35 hK35 => ?_
      rotate_left
      · obtain ⟨r36, hc37, hj34⟩ := bind_some hj34
        refine SWp.drawT rfl (hPB _ rfl) [(58, .ref (.box 5) 0 []), (59, .t (vi e15.Kind)), (60, .t (vb r36)), (61, .ref (.box 5) 2 []), (62, .t (vs e15.Name)), (63, .t (vb (!(sEq e15.Name (⟨#[]⟩ : ByteArray)))))] [[], [0], [0, 1], [], [3], [3, 4], [0, 1, 2, 3, 4, 5], [0, 1, 2, 3, 4, 5, 6], [0, 1, 2, 3, 4, 5, 6, 7], [0, 1, 2, 3, 4, 5, 6, 7, 8], [0, 1, 2, 3, 4, 5, 6, 7, 8, 9], [0, 1, 2, 3, 4, 5, 6, 7, 8, 9, 10], [0, 1, 2, 3, 4, 5, 6, 7, 8, 9, 10, 11], [0, 1, 2, 3, 4, 5, 6, 7, 8, 9, 10, 11, 12], [0, 1, 2, 3, 4, 5, 6, 7, 8, 9, 10, 11, 12, 13], [0, 1, 2, 3, 4, 5, 6, 7, 8, 9, 10, 11, 12, 13, 14], [0, 1, 2, 3, 4, 5, 6, 7, 8, 9, 10, 11, 12, 13, 14, 15], [0, 1, 2, 3, 4, 5, 6, 7, 8, 9, 10, 11, 12, 13, 14, 15, 16]] (by simp) (by simp) (by simp [look]) rfl rfl rfl ?_ fun K hK => ?_
        · refine ⟨?_, ?_, ?_, ?_, ?_, ?_, trivial⟩
          all_goals (intro τ hbx hb hd hf K hK; try simp [vsAt] at hd; simp [vsAt] at hf; first | (refine wps_cons rfl fun K' hK' => ?_; simp [hN', hbx, hb, hd, hf]; exact hK' _ (wps_nil (hK _ (by simp [vsAt, hbx])))) | (refine wps_call [(.take, .tmp 59)] rfl rfl ent151 (spec_l04Named_ok _ hc37) fun K' hK' => ?_; simp [hN', hbx, hb, hd, hf]; exact hK' _ (wps_nil (hK _ (by simp [vsAt, hbx])))))
        iterate 2 (refine wps_cons rfl fun K hK => ?_; simp [hN']; refine hK _ ?_; clear hK)
        rcases ite_or hj34 with ⟨hb38, hj34⟩ | ⟨hb39, hj34⟩
        · have hb38s := hb38
          try simp at hb38s
          iterate 9 (refine wps_off fun K hK => ?_; simp [hN', hb38, hb38s]; refine hK _ ?_; clear hK)
          refine wps_cons rfl fun K hK => ?_; simp [hN', hb38, hb38s]; refine hK _ ?_; clear hK
          refine wps_nil (hK _ ?_); clear hK
          cases hj34
          exact hK35 _ () [] trivial (by simp [hN', hb38, hb38s])
        · have hb39s := hb39
          try simp at hb39s
          iterate 4 (refine wps_cons rfl fun K hK => ?_; simp [hN', hb39, hb39s]; refine hK _ ?_; clear hK)
          rcases ite_or hj34 with ⟨hb40, hj34⟩ | ⟨hb41, hj34⟩
          · have hb40s := hb40
            try simp at hb40s
            iterate 2 (refine wps_cons rfl fun K hK => ?_; simp [hN', hb39, hb39s, hb40, hb40s]; refine hK _ ?_; clear hK)
            obtain ⟨r42, hc43, hj34⟩ := bind_some hj34
            refine wps_call [(.take, .tmp 71)] rfl rfl ent114 (spec_NameOk_ok _ hc43) fun K hK => ?_; simp [hN', hb39, hb39s, hb40, hb40s]; refine hK _ ?_; clear hK
            iterate 3 (refine wps_cons rfl fun K hK => ?_; simp [hN', hb39, hb39s, hb40, hb40s]; refine hK _ ?_; clear hK)
            refine wps_nil (hK _ ?_); clear hK
            cases hj34
            exact hK35 _ () [] trivial (by simp [hN', hb39, hb39s, hb40, hb40s])
          · have hb41s := hb41
            try simp at hb41s
            iterate 4 (refine wps_off fun K hK => ?_; simp [hN', hb39, hb39s, hb41, hb41s]; refine hK _ ?_; clear hK)
            iterate 2 (refine wps_cons rfl fun K hK => ?_; simp [hN', hb39, hb39s, hb41, hb41s]; refine hK _ ?_; clear hK)
            refine wps_nil (hK _ ?_); clear hK
            cases hj34
            exact hK35 _ () [] trivial (by simp [hN', hb39, hb39s, hb41, hb41s])
      rcases ite_or h with ⟨hb45, h⟩ | ⟨hb46, h⟩
      · refine SWp.condT' (b := v44) (by simp) hb45 ?_
        refine SWp.seqR rfl (hPB _ rfl) fun K hK => ?_
        refine wps_cons rfl fun K hK => ?_; simp [hN']; refine hK _ ?_; clear hK
        refine wps_nil (hK _ ?_); clear hK
        cases h
        refine SWp.ret ?_
        simp [thenS, inBlockS, res127]
      · refine SWp.condF' (b := v44) (by simp) hb46 ?_
        refine SWp.skip ?_
        show SWp E C _ _ _
        obtain ⟨j49, hj47, h⟩ := bind_some h
        refine SWp.seqC [] [] (fun v : Unit => ⟨[], []⟩) (fun v => j49 = Sum.inl v) (fun v hv => ?_) fun K48 hK48 => ?_
        rotate_left
        · refine SWp.seqR rfl (hPB _ rfl) fun K hK => ?_
          refine wps_cons rfl fun K hK => ?_; simp [hN']; refine hK _ ?_; clear hK
          refine wps_nil (hK _ ?_); clear hK
          refine SWp.block ?_
          refine SWp.loopO [] [0, 1, 5, 8] [5] (fun v : Int => ⟨[(0, .t (.sl false 4 (List.map (GNode.enc false) nodes1))), (1, .t (vi k2)), (5, .ref (.box 5) 0 []), (8, .t (vi v))], [(5, [vi e15.Kind, vi e15.Num, vs e15.Name, .sl false 1 (List.map vi e15.Kids)])]⟩) (spec_NodeOk_l1 nodes1 k2 e15) _ 0 hj47 (by simp [hN']) ?_
          intro g s53 h51 ho52
          obtain ⟨i50, hg⟩ : ∃ y, y = g := ⟨_, rfl⟩
          subst hg
          simp only [spec_NodeOk_l1] at h51
          try dsimp only
          refine SWp.seq ?_
          refine SWp.seqR rfl (hPB _ rfl) fun K hK => ?_
          iterate 5 (refine wps_cons rfl fun K hK => ?_; simp [hN']; refine hK _ ?_; clear hK)
          refine wps_nil (hK _ ?_); clear hK
          rcases ite_or h51 with ⟨hb54, h51⟩ | ⟨hb55, h51⟩
          · refine SWp.condT' (b := decide (i50 < (e15.Kids.length : Int))) (by simp) hb54 ?_
            refine SWp.skip ?_
            show SWp E C _ _ _
            obtain ⟨j58, hj56, h51⟩ := bind_some h51
            refine SWp.seqC [0, 1, 5, 8] [5] (fun v : Unit => ⟨[(0, .t (.sl false 4 (List.map (GNode.enc false) nodes1))), (1, .t (vi k2)), (5, .ref (.box 5) 0 []), (8, .t (vi i50))], [(5, [vi e15.Kind, vi e15.Num, vs e15.Name, .sl false 1 (List.map vi e15.Kids)])]⟩) (fun v => j58 = Sum.inl v) (fun v hv => ?_) fun K57 hK57 => ?_
            rotate_left
            · refine SWp.block ?_
              refine SWp.seq ?_
              obtain ⟨v69, hj59, hj56⟩ := bind_some hj56
              refine SWp.seqC [0, 1, 5, 8, 107] [5] (fun _ : Unit => ⟨[(0, .t (.sl false 4 (List.map (GNode.enc false) nodes1))), (1, .t (vi k2)), (5, .ref (.box 5) 0 []), (8, .t (vi i50)), (107, .t (vb v69))], [(5, [vi e15.Kind, vi e15.Num, vs e15.Name, .sl false 1 (List.map vi e15.Kids)])]⟩) (fun _ => True) (fun _ _ => ?_) fun K60 hK60 => ?_
              rotate_left
              · obtain ⟨e61, he61, hj59⟩ := bind_some hj59
                obtain ⟨he61a, he61b, he61c, he61d⟩ := getI_some he61
                obtain ⟨r62, hc63, hj59⟩ := bind_some hj59
                rcases ite_or hj59 with ⟨hb64, hj59⟩ | ⟨hb65, hj59⟩
                · have hb64s := hb64
                  try simp at hb64s
                  refine SWp.drawT rfl (hPB _ rfl) [(83, .ref (.box 5) 3 []), (84, .t (.sl false 1 (List.map vi e15.Kids))), (85, .t (vi i50)), (86, .rop [vi e61] 0), (87, .t (vi e61)), (88, .t (vi k2)), (89, .t (vi (IntKind.wrap .i64 (k2 - 1)))), (90, .t (vb r62)), (91, .t (vb (!r62))), (92, .t (vb (!r62))), (93, .tup []), (94, .tup []), (95, .tup []), (96, .tup []), (97, .tup []), (98, .tup []), (99, .tup []), (100, .tup []), (101, .tup []), (102, .tup []), (103, .tup []), (104, .tup [])] [[], [0], [], [0, 1, 2], [0, 1, 2, 3], [], [5], [0, 1, 2, 3, 4, 5, 6], [0, 1, 2, 3, 4, 5, 6, 7], [0, 1, 2, 3, 4, 5, 6, 7, 8], [0, 1, 2, 3, 4, 5, 6, 7, 8, 9], [0, 1, 2, 3, 4, 5, 6, 7, 8, 9, 10], [0, 1, 2, 3, 4, 5, 6, 7, 8, 9], [0, 1, 2, 3, 4, 5, 6, 7, 8, 9], [0, 1, 2, 3, 4, 5, 6, 7, 8, 9], [0, 1, 2, 3, 4, 5, 6, 7, 8, 9, 14], [0, 1, 2, 3, 4, 5, 6, 7, 8, 9], [0, 1, 2, 3, 4, 5, 6, 7, 8, 9, 14, 15, 16], [0, 1, 2, 3, 4, 5, 6, 7, 8, 9, 14, 15, 16, 17], [0, 1, 2, 3, 4, 5, 6, 7, 8, 9, 13, 14, 15, 16, 17, 18], [0, 1, 2, 3, 4, 5, 6, 7, 8, 9, 13, 14, 15, 16, 17, 18, 19], [0, 1, 2, 3, 4, 5, 6, 7, 8, 9, 13, 14, 15, 16, 17, 18, 19, 20], [0, 1, 2, 3, 4, 5, 6, 7, 8, 9, 10, 11, 12, 13, 14, 15, 16, 17, 18, 19, 20, 21], [0, 1, 2, 3, 4, 5, 6, 7, 8, 9, 10, 11, 12, 13, 14, 15, 16, 17, 18, 19, 20, 21, 22], [0, 1, 2, 3, 4, 5, 6, 7, 8, 9, 10, 11, 12, 13, 14, 15, 16, 17, 18, 19, 20, 21, 22, 23]] (by simp) (by simp) (by simp [look]) rfl rfl rfl ?_ fun K hK => ?_
                  · refine ⟨?_, ?_, ?_, ?_, ?_, ?_, ?_, ?_, ?_, ?_, ?_, ?_, ?_, ?_, ?_, ?_, ?_, ?_, ?_, ?_, ?_, ?_, trivial⟩
                    all_goals (intro τ hbx hb hd hf K hK; try simp [vsAt] at hd; simp [vsAt] at hf; first | (refine wps_cons rfl fun K' hK' => ?_; simp [hN', hbx, hb, hd, hf, he61a, he61b, he61c, he61d, hb64, hb64s]; exact hK' _ (wps_nil (hK _ (by simp [vsAt, hbx, he61a, he61b, he61c, he61d, hb64, hb64s])))) | (refine wps_call [(.take, .tmp 87), (.take, .const (.int .i64 0)), (.take, .tmp 89)] rfl rfl ent90 (spec_l01In_ok _ _ _ hc63) fun K' hK' => ?_; simp [hN', hbx, hb, hd, hf, he61a, he61b, he61c, he61d, hb64, hb64s]; exact hK' _ (wps_nil (hK _ (by simp [vsAt, hbx, he61a, he61b, he61c, he61d, hb64, hb64s])))) | (refine wps_off fun K' hK' => ?_; simp [hN', hbx, hb, hd, hf, he61a, he61b, he61c, he61d, hb64, hb64s]; exact hK' _ (wps_nil (hK _ (by simp [vsAt, hbx, he61a, he61b, he61c, he61d, hb64, hb64s])))))
                  iterate 2 (refine wps_off fun K hK => ?_; simp [hN', he61a, he61b, he61c, he61d, hb64, hb64s]; refine hK _ ?_; clear hK)
                  refine wps_cons rfl fun K hK => ?_; simp [hN', he61a, he61b, he61c, he61d, hb64, hb64s]; refine hK _ ?_; clear hK
                  refine wps_nil (hK _ ?_); clear hK
                  cases hj59
                  exact hK60 _ () [] trivial (by simp [hN', he61a, he61b, he61c, he61d, hb64, hb64s])
                · have hb65s := hb65
                  try simp at hb65s
                  obtain ⟨e66, he66, hj59⟩ := bind_some hj59
                  obtain ⟨he66a, he66b, he66c, he66d⟩ := getI_some he66
                  refine SWp.drawT rfl (hPB _ rfl) [(83, .ref (.box 5) 3 []), (84, .t (.sl false 1 (List.map vi e15.Kids))), (85, .t (vi i50)), (86, .rop [vi e61] 0), (87, .t (vi e61)), (88, .t (vi k2)), (89, .t (vi (IntKind.wrap .i64 (k2 - 1)))), (90, .t (vb r62)), (91, .t (vb (!r62))), (92, .t (vb (!r62))), (93, .ref (.box 5) 0 []), (94, .t (vi e15.Kind)), (95, .t (vi i50)), (96, .t (.sl false 4 (List.map (GNode.enc false) nodes1))), (97, .ref (.box 5) 3 []), (98, .t (.sl false 1 (List.map vi e15.Kids))), (99, .t (vi i50)), (100, .rop [vi e61] 0), (101, .t (vi e61)), (102, .rop [vi e66.Kind, vi e66.Num, vs e66.Name, .sl false 1 (List.map vi e66.Kids)] 0), (103, .rop [vi e66.Kind, vi e66.Num, vs e66.Name, .sl false 1 (List.map vi e66.Kids)] 0), (104, .t (vi e66.Kind))] [[], [0], [], [0, 1, 2], [0, 1, 2, 3], [], [5], [0, 1, 2, 3, 4, 5, 6], [0, 1, 2, 3, 4, 5, 6, 7], [0, 1, 2, 3, 4, 5, 6, 7, 8], [0, 1, 2, 3, 4, 5, 6, 7, 8, 9], [0, 1, 2, 3, 4, 5, 6, 7, 8, 9, 10], [0, 1, 2, 3, 4, 5, 6, 7, 8, 9], [0, 1, 2, 3, 4, 5, 6, 7, 8, 9], [0, 1, 2, 3, 4, 5, 6, 7, 8, 9], [0, 1, 2, 3, 4, 5, 6, 7, 8, 9, 14], [0, 1, 2, 3, 4, 5, 6, 7, 8, 9], [0, 1, 2, 3, 4, 5, 6, 7, 8, 9, 14, 15, 16], [0, 1, 2, 3, 4, 5, 6, 7, 8, 9, 14, 15, 16, 17], [0, 1, 2, 3, 4, 5, 6, 7, 8, 9, 13, 14, 15, 16, 17, 18], [0, 1, 2, 3, 4, 5, 6, 7, 8, 9, 13, 14, 15, 16, 17, 18, 19], [0, 1, 2, 3, 4, 5, 6, 7, 8, 9, 13, 14, 15, 16, 17, 18, 19, 20], [0, 1, 2, 3, 4, 5, 6, 7, 8, 9, 10, 11, 12, 13, 14, 15, 16, 17, 18, 19, 20, 21], [0, 1, 2, 3, 4, 5, 6, 7, 8, 9, 10, 11, 12, 13, 14, 15, 16, 17, 18, 19, 20, 21, 22], [0, 1, 2, 3, 4, 5, 6, 7, 8, 9, 10, 11, 12, 13, 14, 15, 16, 17, 18, 19, 20, 21, 22, 23]] (by simp) (by simp) (by simp [look]) rfl rfl rfl ?_ fun K hK => ?_
                  · refine ⟨?_, ?_, ?_, ?_, ?_, ?_, ?_, ?_, ?_, ?_, ?_, ?_, ?_, ?_, ?_, ?_, ?_, ?_, ?_, ?_, ?_, ?_, trivial⟩
                    all_goals (intro τ hbx hb hd hf K hK; try simp [vsAt] at hd; simp [vsAt] at hf; first | (refine wps_cons rfl fun K' hK' => ?_; simp [hN', hbx, hb, hd, hf, he61a, he61b, he61c, he61d, hb65, hb65s, he66a, he66b, he66c, he66d]; exact hK' _ (wps_nil (hK _ (by simp [vsAt, hbx, he61a, he61b, he61c, he61d, hb65, hb65s, he66a, he66b, he66c, he66d])))) | (refine wps_call [(.take, .tmp 87), (.take, .const (.int .i64 0)), (.take, .tmp 89)] rfl rfl ent90 (spec_l01In_ok _ _ _ hc63) fun K' hK' => ?_; simp [hN', hbx, hb, hd, hf, he61a, he61b, he61c, he61d, hb65, hb65s, he66a, he66b, he66c, he66d]; exact hK' _ (wps_nil (hK _ (by simp [vsAt, hbx, he61a, he61b, he61c, he61d, hb65, hb65s, he66a, he66b, he66c, he66d])))))
                  obtain ⟨r67, hc68, hj59⟩ := bind_some hj59
                  refine wps_call [(.take, .tmp 94), (.take, .tmp 95), (.take, .tmp 104)] rfl rfl ent152 (spec_l04Fits_ok _ _ _ hc68) fun K hK => ?_; simp [hN', he61a, he61b, he61c, he61d, hb65, hb65s, he66a, he66b, he66c, he66d]; refine hK _ ?_; clear hK
                  iterate 2 (refine wps_cons rfl fun K hK => ?_; simp [hN', he61a, he61b, he61c, he61d, hb65, hb65s, he66a, he66b, he66c, he66d]; refine hK _ ?_; clear hK)
                  refine wps_nil (hK _ ?_); clear hK
                  cases hj59
                  exact hK60 _ () [] trivial (by simp [hN', he61a, he61b, he61c, he61d, hb65, hb65s, he66a, he66b, he66c, he66d])
              rcases ite_or hj56 with ⟨hb70, hj56⟩ | ⟨hb71, hj56⟩
              · refine SWp.condT' (b := v69) (by simp) hb70 ?_
                refine SWp.seqR rfl (hPB _ rfl) fun K hK => ?_
                refine wps_cons rfl fun K hK => ?_; simp [hN']; refine hK _ ?_; clear hK
                refine wps_nil (hK _ ?_); clear hK
                cases hj56
                try dsimp only at h51
                have h72 := congrArg some (ho52 _ (Option.some.inj h51).symm)
                cases h72
                try dsimp only at h
                cases h
                refine SWp.ret ?_
                simp [thenS, inBlockS, res127]
              · refine SWp.condF' (b := v69) (by simp) hb71 ?_
                refine SWp.skip ?_
                show SWp E C _ _ _
                refine SWp.seqR rfl (hPB _ rfl) fun K hK => ?_
                refine wps_cons rfl fun K hK => ?_; simp [hN']; refine hK _ ?_; clear hK
                refine wps_nil (hK _ ?_); clear hK
                refine SWp.block ?_
                refine SWp.loopO [] [0, 1, 5, 8, 9] [5] (fun v : Int => ⟨[(0, .t (.sl false 4 (List.map (GNode.enc false) nodes1))), (1, .t (vi k2)), (5, .ref (.box 5) 0 []), (8, .t (vi i50)), (9, .t (vi v))], [(5, [vi e15.Kind, vi e15.Num, vs e15.Name, .sl false 1 (List.map vi e15.Kids)])]⟩) (spec_NodeOk_l2 e15 i50) _ 0 hj56 (by simp [hN']) ?_
                intro g s76 h74 ho75
                obtain ⟨j73, hg⟩ : ∃ y, y = g := ⟨_, rfl⟩
                subst hg
                simp only [spec_NodeOk_l2] at h74
                try dsimp only
                refine SWp.seq ?_
                refine SWp.seqR rfl (hPB _ rfl) fun K hK => ?_
                iterate 3 (refine wps_cons rfl fun K hK => ?_; simp [hN']; refine hK _ ?_; clear hK)
                refine wps_nil (hK _ ?_); clear hK
                rcases ite_or h74 with ⟨hb77, h74⟩ | ⟨hb78, h74⟩
                · refine SWp.condT' (b := decide (j73 < i50)) (by simp) hb77 ?_
                  refine SWp.skip ?_
                  show SWp E C _ _ _
                  refine SWp.seq ?_
                  refine SWp.block ?_
                  refine SWp.seq ?_
                  obtain ⟨e80, he80, h74⟩ := bind_some h74
                  obtain ⟨he80a, he80b, he80c, he80d⟩ := getI_some he80
                  obtain ⟨e81, he81, h74⟩ := bind_some h74
                  obtain ⟨he81a, he81b, he81c, he81d⟩ := getI_some he81
                  refine SWp.drawT rfl (hPB _ rfl) [(113, .ref (.box 5) 3 []), (114, .t (.sl false 1 (List.map vi e15.Kids))), (115, .t (vi i50)), (116, .rop [vi e80] 0), (117, .t (vi e80)), (118, .ref (.box 5) 3 []), (119, .t (.sl false 1 (List.map vi e15.Kids))), (120, .t (vi j73)), (121, .rop [vi e81] 0), (122, .t (vi e81))] [[], [0], [], [0, 1, 2], [0, 1, 2, 3], [], [5], [], [5, 6, 7], [5, 6, 7, 8], [0, 1, 2, 3, 4, 5, 6, 7, 8, 9]] (by simp) (by simp) (by simp [look]) rfl rfl rfl ?_ fun K hK => ?_
                  · refine ⟨?_, ?_, ?_, ?_, ?_, ?_, ?_, ?_, ?_, ?_, trivial⟩
                    all_goals (intro τ hbx hb hd hf K hK; try simp [vsAt] at hd; simp [vsAt] at hf; first | (refine wps_cons rfl fun K' hK' => ?_; simp [hN', hbx, hb, hd, hf, he80a, he80b, he80c, he80d, he81a, he81b, he81c, he81d]; exact hK' _ (wps_nil (hK _ (by simp [vsAt, hbx, he80a, he80b, he80c, he80d, he81a, he81b, he81c, he81d])))))
                  refine wps_cons rfl fun K hK => ?_; simp [hN', he80a, he80b, he80c, he80d, he81a, he81b, he81c, he81d]; refine hK _ ?_; clear hK
                  refine wps_nil (hK _ ?_); clear hK
                  show SWp E C _ _ _
                  rcases ite_or h74 with ⟨hb82, h74⟩ | ⟨hb83, h74⟩
                  · refine SWp.condT' (b := e80 == e81) (by simp) hb82 ?_
                    refine SWp.seqR rfl (hPB _ rfl) fun K hK => ?_
                    refine wps_cons rfl fun K hK => ?_; simp [hN']; refine hK _ ?_; clear hK
                    refine wps_nil (hK _ ?_); clear hK
                    have h84 := congrArg some (ho75 _ (Option.some.inj h74).symm)
                    cases h84
                    try dsimp only at h51
                    have h85 := congrArg some (ho52 _ (Option.some.inj h51).symm)
                    cases h85
                    try dsimp only at h
                    cases h
                    refine SWp.ret ?_
                    simp [thenS, inBlockS, res127]
                  · refine SWp.condF' (b := e80 == e81) (by simp) hb83 ?_
                    refine SWp.skip ?_
                    show SWp E C _ _ _
                    refine SWp.reg rfl (hPB _ rfl) fun K hK => ?_
                    iterate 3 (refine wps_cons rfl fun K hK => ?_; simp [hN']; refine hK _ ?_; clear hK)
                    refine wps_nil (hK _ ?_); clear hK
                    cases h74
                    exact ⟨_, [], rfl, by simp [hN']⟩
                · refine SWp.condF' (b := decide (j73 < i50)) (by simp) hb78 ?_
                  refine SWp.exit ?_
                  have h86 := congrArg some (ho75 _ (Option.some.inj h74).symm)
                  cases h86
                  exact hK57 _ _ [] rfl (by simp [hN'])
            subst hv
            obtain ⟨⟩ := v
            try dsimp only at h51 ⊢
            refine SWp.reg rfl (hPB _ rfl) fun K hK => ?_
            iterate 3 (refine wps_cons rfl fun K hK => ?_; simp [hN']; refine hK _ ?_; clear hK)
            refine wps_nil (hK _ ?_); clear hK
            cases h51
            exact ⟨_, [], rfl, by simp [hN']⟩
          · refine SWp.condF' (b := decide (i50 < (e15.Kids.length : Int))) (by simp) hb55 ?_
            refine SWp.exit ?_
            have h87 := congrArg some (ho52 _ (Option.some.inj h51).symm)
            cases h87
            exact hK48 _ _ [] rfl (by simp [hN'])
        subst hv
        obtain ⟨⟩ := v
        try dsimp only at h ⊢
        refine SWp.seqR rfl (hPB _ rfl) fun K hK => ?_
        refine wps_cons rfl fun K hK => ?_; simp [hN']; refine hK _ ?_; clear hK
        refine wps_nil (hK _ ?_); clear hK
        cases h
        refine SWp.ret ?_
        simp [thenS, inBlockS, res127]
end Go.Proofs.T
set_option linter.unusedVariables false
set_option linter.unusedSimpArgs false
set_option maxHeartbeats 1000000
namespace Go.Proofs.T
open Go.OM
theorem res101 : Tryd.f101.results.toList = [.tmp 4] := rfl
theorem ent101 : Enters E.P 101 := enters_of Tryd.func101 (by simp [Tryd.f101]) rfl
theorem spec_l04Deeps_ok (nodes1 : List GNode) (k2 : Int) {r0 : List Int} (h : spec_l04Deeps nodes1 k2 = some r0) : Ok E 101 [.val (.sl false 4 (List.map (GNode.enc false) nodes1)), .val (vi k2)] [.sl true 1 (List.map vi r0)] [] := by
  refine ok_of_body (fn := Tryd.f101) Tryd.func101 rfl (by simp [Tryd.f101]) fun C hN hP => ?_
  have hPB : ∀ l, pinK [] l = true → pinB C.pin l = true := pinB_of (by rw [hP]; rfl)
  have hN' : C.N = 84 := hN
  clear hN
  unfold spec_l04Deeps at h
  refine SWp.seqR rfl (hPB _ rfl) fun K hK => ?_
  refine wps_cons rfl fun K hK => ?_; simp [hN']; refine hK _ ?_; clear hK
  refine wps_nil (hK _ ?_); clear hK
  refine SWp.seqR rfl (hPB _ rfl) fun K hK => ?_
  iterate 2 (refine wps_cons rfl fun K hK => ?_; simp [hN']; refine hK _ ?_; clear hK)
  refine wps_nil (hK _ ?_); clear hK
  obtain ⟨out72, hj3, h⟩ := bind_some h
  refine SWp.seqC [5] [] (fun _ : Unit => ⟨[(5, .t (.sl true 1 (List.map vi out72)))], []⟩) (fun _ => True) (fun _ _ => ?_) fun K4 hK4 => ?_
  rotate_left
  · refine SWp.seqR rfl (hPB _ rfl) fun K hK => ?_
    refine wps_cons rfl fun K hK => ?_; simp [hN']; refine hK _ ?_; clear hK
    refine wps_nil (hK _ ?_); clear hK
    refine SWp.block ?_
    refine SWp.loopO [] [0, 1, 5, 6] [] (fun v : (List Int) × Int => ⟨[(0, .t (.sl false 4 (List.map (GNode.enc false) nodes1))), (1, .t (vi k2)), (5, .t (.sl true 1 (List.map vi v.1))), (6, .t (vi v.2))], []⟩) (spec_l04Deeps_l1 nodes1 k2) _ ([], 0) hj3 (by simp [hN']) ?_
    intro g s10 h8 ho9
    obtain ⟨out6, i7⟩ := g
    simp only [spec_l04Deeps_l1] at h8
    try dsimp only
    refine SWp.seq ?_
    obtain ⟨v15, hj11, h8⟩ := bind_some h8
    refine SWp.seqRC rfl (hPB _ rfl) [0, 1, 5, 6, 18] [] (fun _ : Unit => ⟨[(0, .t (.sl false 4 (List.map (GNode.enc false) nodes1))), (1, .t (vi k2)), (5, .t (.sl true 1 (List.map vi out6))), (6, .t (vi i7)), (18, .t (vb v15))], []⟩) (fun _ => True) (fun _ _ => ?_) fun K12 hK12 => ?_
    rotate_left
    · refine wps_cons rfl fun K hK => ?_; simp [hN']; refine hK _ ?_; clear hK
      iterate 3 (refine wps_cons rfl fun K hK => ?_; simp [hN']; refine hK _ ?_; clear hK)
      rcases ite_or hj11 with ⟨hb13, hj11⟩ | ⟨hb14, hj11⟩
      · have hb13s := hb13
        try simp at hb13s
        iterate 5 (refine wps_cons rfl fun K hK => ?_; simp [hN', hb13, hb13s]; refine hK _ ?_; clear hK)
        refine wps_nil ?_
        cases hj11
        exact hK12 _ () [] trivial (by simp [hN', hb13, hb13s])
      · have hb14s := hb14
        try simp at hb14s
        iterate 4 (refine wps_off fun K hK => ?_; simp [hN', hb14, hb14s]; refine hK _ ?_; clear hK)
        refine wps_cons rfl fun K hK => ?_; simp [hN', hb14, hb14s]; refine hK _ ?_; clear hK
        refine wps_nil ?_
        cases hj11
        exact hK12 _ () [] trivial (by simp [hN', hb14, hb14s])
    rcases ite_or h8 with ⟨hb16, h8⟩ | ⟨hb17, h8⟩
    · refine SWp.condT' (b := v15) (by simp) hb16 ?_
      refine SWp.skip ?_
      show SWp E C _ _ _
      obtain ⟨out70, hj18, h8⟩ := bind_some h8
      refine SWp.seqC [0, 1, 5, 6] [] (fun _ : Unit => ⟨[(0, .t (.sl false 4 (List.map (GNode.enc false) nodes1))), (1, .t (vi k2)), (5, .t (.sl true 1 (List.map vi out70))), (6, .t (vi i7))], []⟩) (fun _ => True) (fun _ _ => ?_) fun K19 hK19 => ?_
      rotate_left
      · refine SWp.block ?_
        refine SWp.seqR rfl (hPB _ rfl) fun K hK => ?_
        refine wps_cons rfl fun K hK => ?_; simp [hN']; refine hK _ ?_; clear hK
        refine wps_nil (hK _ ?_); clear hK
        obtain ⟨deep36, hj21, hj18⟩ := bind_some hj18
        refine SWp.seqC [0, 1, 5, 6, 7] [] (fun _ : Unit => ⟨[(0, .t (.sl false 4 (List.map (GNode.enc false) nodes1))), (1, .t (vi k2)), (5, .t (.sl true 1 (List.map vi out6))), (6, .t (vi i7)), (7, .t (vi deep36))], []⟩) (fun _ => True) (fun _ _ => ?_) fun K22 hK22 => ?_
        rotate_left
        · obtain ⟨v33, hj24, hj21⟩ := bind_some hj21
          refine SWp.seqRC rfl (hPB _ rfl) [0, 1, 5, 6, 7, 36] [] (fun _ : Unit => ⟨[(0, .t (.sl false 4 (List.map (GNode.enc false) nodes1))), (1, .t (vi k2)), (5, .t (.sl true 1 (List.map vi out6))), (6, .t (vi i7)), (7, .t (vi 1)), (36, .t (vb v33))], []⟩) (fun _ => True) (fun _ _ => ?_) fun K25 hK25 => ?_
          rotate_left
          · refine wps_cons rfl fun K hK => ?_; simp [hN']; refine hK _ ?_; clear hK
            refine wps_cons rfl fun K hK => ?_; simp [hN']; refine hK _ ?_; clear hK
            obtain ⟨r26, hc27, hj24⟩ := bind_some hj24
            refine wps_call [(.take, .tmp 21), (.take, .tmp 22)] rfl rfl ent127 (spec_NodeOk_ok _ _ hc27) fun K hK => ?_; simp [hN']; refine hK _ ?_; clear hK
            iterate 2 (refine wps_cons rfl fun K hK => ?_; simp [hN']; refine hK _ ?_; clear hK)
            rcases ite_or hj24 with ⟨hb28, hj24⟩ | ⟨hb29, hj24⟩
            · have hb28s := hb28
              try simp at hb28s
              iterate 10 (refine wps_off fun K hK => ?_; simp [hN', hb28, hb28s]; refine hK _ ?_; clear hK)
              refine wps_cons rfl fun K hK => ?_; simp [hN', hb28, hb28s]; refine hK _ ?_; clear hK
              refine wps_nil ?_
              cases hj24
              exact hK25 _ () [] trivial (by simp [hN', hb28, hb28s])
            · have hb29s := hb29
              try simp at hb29s
              iterate 3 (refine wps_cons rfl fun K hK => ?_; simp [hN', hb29, hb29s]; refine hK _ ?_; clear hK)
              rcases ite_or hj24 with ⟨hb30, hj24⟩ | ⟨hb31, hj24⟩
              · have hb30s := hb30
                try simp at hb30s
                iterate 3 (refine wps_cons rfl fun K hK => ?_; simp [hN', hb29, hb29s, hb30, hb30s]; refine hK _ ?_; clear hK)
                obtain ⟨e32, he32, hj24⟩ := bind_some hj24
                obtain ⟨he32a, he32b, he32c, he32d⟩ := getI_some he32
                have he32j := he32b; try simp at he32j
                try simp only [Int.toNat_natCast] at he32c he32d
                iterate 5 (refine wps_cons rfl fun K hK => ?_; simp [hN', hb29, hb29s, hb30, hb30s, he32a, he32b, he32c, he32d, he32j]; refine hK _ ?_; clear hK)
                refine wps_nil ?_
                cases hj24
                exact hK25 _ () [] trivial (by simp [hN', hb29, hb29s, hb30, hb30s, he32a, he32b, he32c, he32d, he32j])
              · have hb31s := hb31
                try simp at hb31s
                iterate 6 (refine wps_off fun K hK => ?_; simp [hN', hb29, hb29s, hb31, hb31s]; refine hK _ ?_; clear hK)
                iterate 2 (refine wps_cons rfl fun K hK => ?_; simp [hN', hb29, hb29s, hb31, hb31s]; refine hK _ ?_; clear hK)
                refine wps_nil ?_
                cases hj24
                exact hK25 _ () [] trivial (by simp [hN', hb29, hb29s, hb31, hb31s])
          rcases ite_or hj21 with ⟨hb34, hj21⟩ | ⟨hb35, hj21⟩
          · refine SWp.condT' (b := v33) (by simp) hb34 ?_
            refine SWp.reg rfl (hPB _ rfl) fun K hK => ?_
            refine wps_cons rfl fun K hK => ?_; simp [hN']; refine hK _ ?_; clear hK
            refine wps_nil (hK _ ?_); clear hK
            cases hj21
            exact hK22 _ () [] trivial (by simp [hN'])
          · refine SWp.condF' (b := v33) (by simp) hb35 ?_
            refine SWp.skip ?_
            cases hj21
            exact hK22 _ () [] trivial (by simp [hN'])
        obtain ⟨deep62, hj37, hj18⟩ := bind_some hj18
        refine SWp.seqC [0, 1, 5, 6, 7] [] (fun _ : Unit => ⟨[(0, .t (.sl false 4 (List.map (GNode.enc false) nodes1))), (1, .t (vi k2)), (5, .t (.sl true 1 (List.map vi out6))), (6, .t (vi i7)), (7, .t (vi deep62))], []⟩) (fun _ => True) (fun _ _ => ?_) fun K38 hK38 => ?_
        rotate_left
        · refine SWp.seqR rfl (hPB _ rfl) fun K hK => ?_
          refine wps_cons rfl fun K hK => ?_; simp [hN']; refine hK _ ?_; clear hK
          refine wps_nil (hK _ ?_); clear hK
          refine SWp.block ?_
          refine SWp.loopO [] [0, 1, 5, 6, 7, 8] [] (fun v : Int × Int => ⟨[(0, .t (.sl false 4 (List.map (GNode.enc false) nodes1))), (1, .t (vi k2)), (5, .t (.sl true 1 (List.map vi out6))), (6, .t (vi i7)), (7, .t (vi v.1)), (8, .t (vi v.2))], []⟩) (spec_l04Deeps_l2 nodes1 out6 i7) _ (deep36, 0) hj37 (by simp [hN']) ?_
          intro g s44 h42 ho43
          obtain ⟨deep40, j41⟩ := g
          simp only [spec_l04Deeps_l2] at h42
          try dsimp only
          refine SWp.seq ?_
          obtain ⟨v50, hj45, h42⟩ := bind_some h42
          refine SWp.seqRC rfl (hPB _ rfl) [0, 1, 5, 6, 7, 8, 48] [] (fun _ : Unit => ⟨[(0, .t (.sl false 4 (List.map (GNode.enc false) nodes1))), (1, .t (vi k2)), (5, .t (.sl true 1 (List.map vi out6))), (6, .t (vi i7)), (7, .t (vi deep40)), (8, .t (vi j41)), (48, .t (vb v50))], []⟩) (fun _ => True) (fun _ _ => ?_) fun K46 hK46 => ?_
          rotate_left
          · refine wps_cons rfl fun K hK => ?_; simp [hN']; refine hK _ ?_; clear hK
            iterate 2 (refine wps_cons rfl fun K hK => ?_; simp [hN']; refine hK _ ?_; clear hK)
            rcases ite_or hj45 with ⟨hb47, hj45⟩ | ⟨hb48, hj45⟩
            · have hb47s := hb47
              try simp at hb47s
              iterate 3 (refine wps_cons rfl fun K hK => ?_; simp [hN', hb47, hb47s]; refine hK _ ?_; clear hK)
              obtain ⟨e49, he49, hj45⟩ := bind_some hj45
              obtain ⟨he49a, he49b, he49c, he49d⟩ := getI_some he49
              iterate 6 (refine wps_cons rfl fun K hK => ?_; simp [hN', hb47, hb47s, he49a, he49b, he49c, he49d]; refine hK _ ?_; clear hK)
              refine wps_nil ?_
              cases hj45
              exact hK46 _ () [] trivial (by simp [hN', hb47, hb47s, he49a, he49b, he49c, he49d])
            · have hb48s := hb48
              try simp at hb48s
              iterate 8 (refine wps_off fun K hK => ?_; simp [hN', hb48, hb48s]; refine hK _ ?_; clear hK)
              refine wps_cons rfl fun K hK => ?_; simp [hN', hb48, hb48s]; refine hK _ ?_; clear hK
              refine wps_nil ?_
              cases hj45
              exact hK46 _ () [] trivial (by simp [hN', hb48, hb48s])
          rcases ite_or h42 with ⟨hb51, h42⟩ | ⟨hb52, h42⟩
          · refine SWp.condT' (b := v50) (by simp) hb51 ?_
            refine SWp.skip ?_
            show SWp E C _ _ _
            refine SWp.seq ?_
            refine SWp.block ?_
            refine SWp.seqR rfl (hPB _ rfl) fun K hK => ?_
            iterate 3 (refine wps_cons rfl fun K hK => ?_; simp [hN']; refine hK _ ?_; clear hK)
            obtain ⟨e53, he53, h42⟩ := bind_some h42
            obtain ⟨he53a, he53b, he53c, he53d⟩ := getI_some he53
            iterate 4 (refine wps_cons rfl fun K hK => ?_; simp [hN', he53a, he53b, he53c, he53d]; refine hK _ ?_; clear hK)
            obtain ⟨e54, he54, h42⟩ := bind_some h42
            obtain ⟨he54a, he54b, he54c, he54d⟩ := getI_some he54
            iterate 2 (refine wps_cons rfl fun K hK => ?_; simp [hN', he53a, he53b, he53c, he53d, he54a, he54b, he54c, he54d]; refine hK _ ?_; clear hK)
            obtain ⟨e55, he55, h42⟩ := bind_some h42
            obtain ⟨he55a, he55b, he55c, he55d⟩ := getI_some he55
            iterate 5 (refine wps_cons rfl fun K hK => ?_; simp [hN', he53a, he53b, he53c, he53d, he54a, he54b, he54c, he54d, he55a, he55b, he55c, he55d]; refine hK _ ?_; clear hK)
            refine wps_nil (hK _ ?_); clear hK
            rcases ite_or h42 with ⟨hb56, h42⟩ | ⟨hb57, h42⟩
            · refine SWp.condT' (b := decide (IntKind.wrap .i64 (e55 + 1) > deep40)) (by simp) hb56 ?_
              refine SWp.reg rfl (hPB _ rfl) fun K hK => ?_
              iterate 3 (refine wps_cons rfl fun K hK => ?_; simp [hN']; refine hK _ ?_; clear hK)
              obtain ⟨e58, he58, h42⟩ := bind_some h42
              obtain ⟨he58a, he58b, he58c, he58d⟩ := getI_some he58
              iterate 4 (refine wps_cons rfl fun K hK => ?_; simp [hN', he58a, he58b, he58c, he58d]; refine hK _ ?_; clear hK)
              obtain ⟨e59, he59, h42⟩ := bind_some h42
              obtain ⟨he59a, he59b, he59c, he59d⟩ := getI_some he59
              iterate 2 (refine wps_cons rfl fun K hK => ?_; simp [hN', he58a, he58b, he58c, he58d, he59a, he59b, he59c, he59d]; refine hK _ ?_; clear hK)
              obtain ⟨e60, he60, h42⟩ := bind_some h42
              obtain ⟨he60a, he60b, he60c, he60d⟩ := getI_some he60
              iterate 4 (refine wps_cons rfl fun K hK => ?_; simp [hN', he58a, he58b, he58c, he58d, he59a, he59b, he59c, he59d, he60a, he60b, he60c, he60d]; refine hK _ ?_; clear hK)
              refine wps_nil (hK _ ?_); clear hK
              show SWp E C _ _ _
              refine SWp.reg rfl (hPB _ rfl) fun K hK => ?_
              iterate 3 (refine wps_cons rfl fun K hK => ?_; simp [hN']; refine hK _ ?_; clear hK)
              refine wps_nil (hK _ ?_); clear hK
              cases h42
              exact ⟨_, [], rfl, by simp [hN']⟩
            · refine SWp.condF' (b := decide (IntKind.wrap .i64 (e55 + 1) > deep40)) (by simp) hb57 ?_
              refine SWp.skip ?_
              show SWp E C _ _ _
              refine SWp.reg rfl (hPB _ rfl) fun K hK => ?_
              iterate 3 (refine wps_cons rfl fun K hK => ?_; simp [hN']; refine hK _ ?_; clear hK)
              refine wps_nil (hK _ ?_); clear hK
              cases h42
              exact ⟨_, [], rfl, by simp [hN']⟩
          · refine SWp.condF' (b := v50) (by simp) hb52 ?_
            refine SWp.exit ?_
            have h61 := congrArg some (ho43 _ (Option.some.inj h42).symm)
            cases h61
            exact hK38 _ () [] trivial (by simp [hN'])
        obtain ⟨deep68, hj63, hj18⟩ := bind_some hj18
        refine SWp.seqC [0, 1, 5, 6, 7] [] (fun _ : Unit => ⟨[(0, .t (.sl false 4 (List.map (GNode.enc false) nodes1))), (1, .t (vi k2)), (5, .t (.sl true 1 (List.map vi out6))), (6, .t (vi i7)), (7, .t (vi deep68))], []⟩) (fun _ => True) (fun _ _ => ?_) fun K64 hK64 => ?_
        rotate_left
        · refine SWp.seqR rfl (hPB _ rfl) fun K hK => ?_
          iterate 2 (refine wps_cons rfl fun K hK => ?_; simp [hN']; refine hK _ ?_; clear hK)
          refine wps_nil (hK _ ?_); clear hK
          rcases ite_or hj63 with ⟨hb66, hj63⟩ | ⟨hb67, hj63⟩
          · refine SWp.condT' (b := decide (deep62 > 10)) (by simp) hb66 ?_
            refine SWp.reg rfl (hPB _ rfl) fun K hK => ?_
            refine wps_cons rfl fun K hK => ?_; simp [hN']; refine hK _ ?_; clear hK
            refine wps_nil (hK _ ?_); clear hK
            cases hj63
            exact hK64 _ () [] trivial (by simp [hN'])
          · refine SWp.condF' (b := decide (deep62 > 10)) (by simp) hb67 ?_
            refine SWp.skip ?_
            cases hj63
            exact hK64 _ () [] trivial (by simp [hN'])
        refine SWp.reg rfl (hPB _ rfl) fun K hK => ?_
        iterate 3 (refine wps_cons rfl fun K hK => ?_; simp [hN']; refine hK _ ?_; clear hK)
        obtain ⟨l69, hl69, hj18⟩ := bind_some hj18
        obtain ⟨hl69a, hl69b, hl69d⟩ := appI_some hl69
        have hl69f : List.map vi out6 ++ List.map vi [deep68] = List.map vi l69 := app_map (f := vi) hl69d
        simp [eSl] at hl69a hl69b hl69f
        iterate 2 (refine wps_cons rfl fun K hK => ?_; simp [hN', hl69a, hl69b, hl69f]; refine hK _ ?_; clear hK)
        refine wps_nil (hK _ ?_); clear hK
        cases hj18
        exact hK19 _ () [] trivial (by simp [hN'])
      refine SWp.reg rfl (hPB _ rfl) fun K hK => ?_
      iterate 3 (refine wps_cons rfl fun K hK => ?_; simp [hN']; refine hK _ ?_; clear hK)
      refine wps_nil (hK _ ?_); clear hK
      cases h8
      exact ⟨_, [], rfl, by simp [hN']⟩
    · refine SWp.condF' (b := v15) (by simp) hb17 ?_
      refine SWp.exit ?_
      have h71 := congrArg some (ho9 _ (Option.some.inj h8).symm)
      cases h71
      exact hK4 _ () [] trivial (by simp [hN'])
  refine SWp.seqR rfl (hPB _ rfl) fun K hK => ?_
  iterate 2 (refine wps_cons rfl fun K hK => ?_; simp [hN']; refine hK _ ?_; clear hK)
  refine wps_nil (hK _ ?_); clear hK
  cases h
  refine SWp.ret ?_
  simp [thenS, inBlockS, res101]
end Go.Proofs.T
set_option linter.unusedVariables false
set_option linter.unusedSimpArgs false
set_option maxHeartbeats 1000000
namespace Go.Proofs.T
open Go.OM
theorem res102 : Tryd.f102.results.toList = [.tmp 2] := rfl
theorem ent102 : Enters E.P 102 := enters_of Tryd.func102 (by simp [Tryd.f102]) rfl
theorem spec_l04Used_ok (nodes1 : List GNode) {r0 : List Int} (h : spec_l04Used nodes1 = some r0) : Ok E 102 [.val (.sl false 4 (List.map (GNode.enc false) nodes1))] [.sl true 1 (List.map vi r0)] [] := by
  refine ok_of_body (fn := Tryd.f102) Tryd.func102 rfl (by simp [Tryd.f102]) fun C hN hP => ?_
  have hPB : ∀ l, pinK [] l = true → pinB C.pin l = true := pinB_of (by rw [hP]; rfl)
  have hN' : C.N = 39 := hN
  clear hN
  unfold spec_l04Used at h
  refine SWp.seqR rfl (hPB _ rfl) fun K hK => ?_
  refine wps_cons rfl fun K hK => ?_; simp [hN']; refine hK _ ?_; clear hK
  refine wps_nil (hK _ ?_); clear hK
  refine SWp.seqR rfl (hPB _ rfl) fun K hK => ?_
  iterate 2 (refine wps_cons rfl fun K hK => ?_; simp [hN']; refine hK _ ?_; clear hK)
  obtain ⟨l2, hl2, h⟩ := bind_some h
  obtain ⟨hl2a, hl2b, hl2c, hl2d⟩ := mkI_some hl2
  have hl2f : List.replicate (nodes1.length : Int).toNat (vi 0) = List.map vi l2 := rep_map (f := vi) hl2d
  try simp only [Int.toNat_natCast] at hl2f
  iterate 2 (refine wps_cons rfl fun K hK => ?_; simp [hN', hl2a, hl2b, hl2c, hl2f]; refine hK _ ?_; clear hK)
  refine wps_nil (hK _ ?_); clear hK
  obtain ⟨out31, hj3, h⟩ := bind_some h
  refine SWp.seqC [3] [] (fun _ : Unit => ⟨[(3, .t (.sl true 1 (List.map vi out31)))], []⟩) (fun _ => True) (fun _ _ => ?_) fun K4 hK4 => ?_
  rotate_left
  · refine SWp.seqR rfl (hPB _ rfl) fun K hK => ?_
    refine wps_cons rfl fun K hK => ?_; simp [hN']; refine hK _ ?_; clear hK
    refine wps_nil (hK _ ?_); clear hK
    refine SWp.block ?_
    refine SWp.loopO [] [0, 3, 4] [] (fun v : (List Int) × Int => ⟨[(0, .t (.sl false 4 (List.map (GNode.enc false) nodes1))), (3, .t (.sl true 1 (List.map vi v.1))), (4, .t (vi v.2))], []⟩) (spec_l04Used_l1 nodes1) _ (l2, 0) hj3 (by simp [hN']) ?_
    intro g s10 h8 ho9
    obtain ⟨out6, i7⟩ := g
    simp only [spec_l04Used_l1] at h8
    try dsimp only
    refine SWp.seq ?_
    refine SWp.seqR rfl (hPB _ rfl) fun K hK => ?_
    iterate 4 (refine wps_cons rfl fun K hK => ?_; simp [hN']; refine hK _ ?_; clear hK)
    refine wps_nil (hK _ ?_); clear hK
    rcases ite_or h8 with ⟨hb11, h8⟩ | ⟨hb12, h8⟩
    · refine SWp.condT' (b := decide (i7 < (nodes1.length : Int))) (by simp) hb11 ?_
      refine SWp.skip ?_
      show SWp E C _ _ _
      obtain ⟨out29, hj13, h8⟩ := bind_some h8
      refine SWp.seqC [0, 3, 4] [] (fun _ : Unit => ⟨[(0, .t (.sl false 4 (List.map (GNode.enc false) nodes1))), (3, .t (.sl true 1 (List.map vi out29))), (4, .t (vi i7))], []⟩) (fun _ => True) (fun _ _ => ?_) fun K14 hK14 => ?_
      rotate_left
      · refine SWp.block ?_
        refine SWp.seqR rfl (hPB _ rfl) fun K hK => ?_
        refine wps_cons rfl fun K hK => ?_; simp [hN']; refine hK _ ?_; clear hK
        refine wps_nil (hK _ ?_); clear hK
        refine SWp.block ?_
        refine SWp.loopO [] [0, 3, 4, 5] [] (fun v : (List Int) × Int => ⟨[(0, .t (.sl false 4 (List.map (GNode.enc false) nodes1))), (3, .t (.sl true 1 (List.map vi v.1))), (4, .t (vi i7)), (5, .t (vi v.2))], []⟩) (spec_l04Used_l2 nodes1 i7) _ (out6, 0) hj13 (by simp [hN']) ?_
        intro g s20 h18 ho19
        obtain ⟨out16, j17⟩ := g
        simp only [spec_l04Used_l2] at h18
        try dsimp only
        refine SWp.seq ?_
        refine SWp.seqR rfl (hPB _ rfl) fun K hK => ?_
        iterate 3 (refine wps_cons rfl fun K hK => ?_; simp [hN']; refine hK _ ?_; clear hK)
        obtain ⟨e21, he21, h18⟩ := bind_some h18
        obtain ⟨he21a, he21b, he21c, he21d⟩ := getI_some he21
        iterate 5 (refine wps_cons rfl fun K hK => ?_; simp [hN', he21a, he21b, he21c, he21d]; refine hK _ ?_; clear hK)
        refine wps_nil (hK _ ?_); clear hK
        rcases ite_or h18 with ⟨hb22, h18⟩ | ⟨hb23, h18⟩
        · refine SWp.condT' (b := decide (j17 < (e21.Kids.length : Int))) (by simp) hb22 ?_
          refine SWp.skip ?_
          show SWp E C _ _ _
          refine SWp.seq ?_
          refine SWp.block ?_
          refine SWp.reg rfl (hPB _ rfl) fun K hK => ?_
          iterate 3 (refine wps_cons rfl fun K hK => ?_; simp [hN']; refine hK _ ?_; clear hK)
          obtain ⟨e24, he24, h18⟩ := bind_some h18
          obtain ⟨he24a, he24b, he24c, he24d⟩ := getI_some he24
          iterate 4 (refine wps_cons rfl fun K hK => ?_; simp [hN', he24a, he24b, he24c, he24d]; refine hK _ ?_; clear hK)
          obtain ⟨e25, he25, h18⟩ := bind_some h18
          obtain ⟨he25a, he25b, he25c, he25d⟩ := getI_some he25
          iterate 2 (refine wps_cons rfl fun K hK => ?_; simp [hN', he24a, he24b, he24c, he24d, he25a, he25b, he25c, he25d]; refine hK _ ?_; clear hK)
          obtain ⟨e26, he26, h18⟩ := bind_some h18
          obtain ⟨he26a, he26b, he26c, he26d⟩ := getI_some he26
          iterate 4 (refine wps_cons rfl fun K hK => ?_; simp [hN', he24a, he24b, he24c, he24d, he25a, he25b, he25c, he25d, he26a, he26b, he26c, he26d]; refine hK _ ?_; clear hK)
          obtain ⟨l27, hl27, h18⟩ := bindS_some h18
          have hl27f : (List.map vi out16).set e25.toNat (vi (IntKind.wrap .i64 (e26 + 1))) = List.map vi l27 := set_map (f := vi) hl27
          try simp only [Int.toNat_natCast] at hl27f
          refine wps_cons rfl fun K hK => ?_; simp [hN', he24a, he24b, he24c, he24d, he25a, he25b, he25c, he25d, he26a, he26b, he26c, he26d, hl27f]; refine hK _ ?_; clear hK
          refine wps_nil (hK _ ?_); clear hK
          show SWp E C _ _ _
          refine SWp.reg rfl (hPB _ rfl) fun K hK => ?_
          iterate 3 (refine wps_cons rfl fun K hK => ?_; simp [hN']; refine hK _ ?_; clear hK)
          refine wps_nil (hK _ ?_); clear hK
          cases h18
          exact ⟨_, [], rfl, by simp [hN']⟩
        · refine SWp.condF' (b := decide (j17 < (e21.Kids.length : Int))) (by simp) hb23 ?_
          refine SWp.exit ?_
          have h28 := congrArg some (ho19 _ (Option.some.inj h18).symm)
          cases h28
          exact hK14 _ () [] trivial (by simp [hN'])
      refine SWp.reg rfl (hPB _ rfl) fun K hK => ?_
      iterate 3 (refine wps_cons rfl fun K hK => ?_; simp [hN']; refine hK _ ?_; clear hK)
      refine wps_nil (hK _ ?_); clear hK
      cases h8
      exact ⟨_, [], rfl, by simp [hN']⟩
    · refine SWp.condF' (b := decide (i7 < (nodes1.length : Int))) (by simp) hb12 ?_
      refine SWp.exit ?_
      have h30 := congrArg some (ho9 _ (Option.some.inj h8).symm)
      cases h30
      exact hK4 _ () [] trivial (by simp [hN'])
  refine SWp.seqR rfl (hPB _ rfl) fun K hK => ?_
  iterate 2 (refine wps_cons rfl fun K hK => ?_; simp [hN']; refine hK _ ?_; clear hK)
  refine wps_nil (hK _ ?_); clear hK
  cases h
  refine SWp.ret ?_
  simp [thenS, inBlockS, res102]
end Go.Proofs.T
set_option linter.unusedVariables false
set_option linter.unusedSimpArgs false
set_option maxHeartbeats 1000000
namespace Go.Proofs.T
open Go.OM
theorem res128 : Tryd.f128.results.toList = [.tmp 4] := rfl
theorem ent128 : Enters E.P 128 := enters_of Tryd.func128 (by simp [Tryd.f128]) rfl
theorem spec_FnAt_ok (p1 : GProgram) (name2 : ByteArray) {r0 : Int} (h : spec_FnAt p1 name2 = some r0) : Ok E 128 [.val (GProgram.enc false p1), .val (vs name2)] [vi r0] [] := by
  refine ok_of_body (fn := Tryd.f128) Tryd.func128 rfl (by simp [Tryd.f128]) fun C hN hP => ?_
  have hPB : ∀ l, pinK [] l = true → pinB C.pin l = true := pinB_of (by rw [hP]; rfl)
  have hN' : C.N = 22 := hN
  clear hN
  unfold spec_FnAt at h
  refine SWp.seqR rfl (hPB _ rfl) fun K hK => ?_
  iterate 2 (refine wps_cons rfl fun K hK => ?_; simp [hN']; refine hK _ ?_; clear hK)
  refine wps_nil (hK _ ?_); clear hK
  obtain ⟨j5, hj3, h⟩ := bind_some h
  refine SWp.seqC [] [] (fun v : Unit => ⟨[], []⟩) (fun v => j5 = Sum.inl v) (fun v hv => ?_) fun K4 hK4 => ?_
  rotate_left
  · refine SWp.seqR rfl (hPB _ rfl) fun K hK => ?_
    refine wps_cons rfl fun K hK => ?_; simp [hN']; refine hK _ ?_; clear hK
    refine wps_nil (hK _ ?_); clear hK
    refine SWp.block ?_
    refine SWp.loopO [] [1, 2, 5] [2] (fun v : Int => ⟨[(1, .t (vs name2)), (2, .ref (.box 2) 0 []), (5, .t (vi v))], [(2, [.sl false 4 (List.map (GNode.enc false) p1.Nodes), .sl false 5 (List.map (GFn.enc false) p1.Fns)])]⟩) (spec_FnAt_l1 p1 name2) _ 0 hj3 (by simp [hN']) ?_
    intro g s9 h7 ho8
    obtain ⟨i6, hg⟩ : ∃ y, y = g := ⟨_, rfl⟩
    subst hg
    simp only [spec_FnAt_l1] at h7
    try dsimp only
    refine SWp.seq ?_
    refine SWp.seqR rfl (hPB _ rfl) fun K hK => ?_
    iterate 5 (refine wps_cons rfl fun K hK => ?_; simp [hN']; refine hK _ ?_; clear hK)
    refine wps_nil (hK _ ?_); clear hK
    rcases ite_or h7 with ⟨hb10, h7⟩ | ⟨hb11, h7⟩
    · refine SWp.condT' (b := decide (i6 < (p1.Fns.length : Int))) (by simp) hb10 ?_
      refine SWp.skip ?_
      show SWp E C _ _ _
      refine SWp.seq ?_
      refine SWp.block ?_
      refine SWp.seqR rfl (hPB _ rfl) fun K hK => ?_
      iterate 3 (refine wps_cons rfl fun K hK => ?_; simp [hN']; refine hK _ ?_; clear hK)
      obtain ⟨e12, he12, h7⟩ := bind_some h7
      obtain ⟨he12a, he12b, he12c, he12d⟩ := getI_some he12
      iterate 5 (refine wps_cons rfl fun K hK => ?_; simp [hN', he12a, he12b, he12c, he12d]; refine hK _ ?_; clear hK)
      refine wps_nil (hK _ ?_); clear hK
      rcases ite_or h7 with ⟨hb13, h7⟩ | ⟨hb14, h7⟩
      · refine SWp.condT' (b := sEq e12.Name name2) (by simp) hb13 ?_
        refine SWp.seqR rfl (hPB _ rfl) fun K hK => ?_
        iterate 2 (refine wps_cons rfl fun K hK => ?_; simp [hN']; refine hK _ ?_; clear hK)
        refine wps_nil (hK _ ?_); clear hK
        have h15 := congrArg some (ho8 _ (Option.some.inj h7).symm)
        cases h15
        try dsimp only at h
        cases h
        refine SWp.ret ?_
        simp [thenS, inBlockS, res128]
      · refine SWp.condF' (b := sEq e12.Name name2) (by simp) hb14 ?_
        refine SWp.skip ?_
        show SWp E C _ _ _
        refine SWp.reg rfl (hPB _ rfl) fun K hK => ?_
        iterate 3 (refine wps_cons rfl fun K hK => ?_; simp [hN']; refine hK _ ?_; clear hK)
        refine wps_nil (hK _ ?_); clear hK
        cases h7
        exact ⟨_, [], rfl, by simp [hN']⟩
    · refine SWp.condF' (b := decide (i6 < (p1.Fns.length : Int))) (by simp) hb11 ?_
      refine SWp.exit ?_
      have h16 := congrArg some (ho8 _ (Option.some.inj h7).symm)
      cases h16
      exact hK4 _ _ [] rfl (by simp [hN'])
  subst hv
  obtain ⟨⟩ := v
  try dsimp only at h ⊢
  refine SWp.seqR rfl (hPB _ rfl) fun K hK => ?_
  refine wps_cons rfl fun K hK => ?_; simp [hN']; refine hK _ ?_; clear hK
  refine wps_nil (hK _ ?_); clear hK
  cases h
  refine SWp.ret ?_
  simp [thenS, inBlockS, res128]
end Go.Proofs.T
set_option linter.unusedVariables false
set_option linter.unusedSimpArgs false
set_option maxHeartbeats 1000000
namespace Go.Proofs.T
open Go.OM
theorem res103 : Tryd.f103.results.toList = [.tmp 4] := rfl
theorem ent103 : Enters E.P 103 := enters_of Tryd.func103 (by simp [Tryd.f103]) rfl
theorem spec_l04Fn_ok (p1 : GProgram) (i2 : Int) {r0 : Bool} (h : spec_l04Fn p1 i2 = some r0) : Ok E 103 [.val (GProgram.enc false p1), .val (vi i2)] [vb r0] [] := by
  refine ok_of_body (fn := Tryd.f103) Tryd.func103 rfl (by simp [Tryd.f103]) fun C hN hP => ?_
  have hPB : ∀ l, pinK [] l = true → pinB C.pin l = true := pinB_of (by rw [hP]; rfl)
  have hN' : C.N = 102 := hN
  clear hN
  unfold spec_l04Fn at h
  refine SWp.seqR rfl (hPB _ rfl) fun K hK => ?_
  iterate 2 (refine wps_cons rfl fun K hK => ?_; simp [hN']; refine hK _ ?_; clear hK)
  refine wps_nil (hK _ ?_); clear hK
  refine SWp.seqR rfl (hPB _ rfl) fun K hK => ?_
  iterate 3 (refine wps_cons rfl fun K hK => ?_; simp [hN']; refine hK _ ?_; clear hK)
  obtain ⟨e3, he3, h⟩ := bind_some h
  obtain ⟨he3a, he3b, he3c, he3d⟩ := getI_some he3
  iterate 4 (refine wps_cons rfl fun K hK => ?_; simp [hN', he3a, he3b, he3c, he3d]; refine hK _ ?_; clear hK)
  refine wps_nil (hK _ ?_); clear hK
  refine SWp.seq ?_
  obtain ⟨v18, hj4, h⟩ := bind_some h
  refine SWp.seqRC rfl (hPB _ rfl) [2, 5, 35] [2, 5] (fun _ : Unit => ⟨[(2, .ref (.box 2) 0 []), (5, .ref (.box 5) 0 []), (35, .t (vb v18))], [(2, [.sl false 4 (List.map (GNode.enc false) p1.Nodes), .sl false 5 (List.map (GFn.enc false) p1.Fns)]), (5, [vs e3.Name, .sl false 2 (List.map GParam.enc e3.Params), vi e3.Res, vi e3.Body, vi e3.Ret])]⟩) (fun _ => True) (fun _ _ => ?_) fun K5 hK5 => ?_
  rotate_left
  · refine wps_cons rfl fun K hK => ?_; simp [hN']; refine hK _ ?_; clear hK
    refine wps_cons rfl fun K hK => ?_; simp [hN']; refine hK _ ?_; clear hK
    obtain ⟨r6, hc7, hj4⟩ := bind_some hj4
    refine wps_call [(.take, .tmp 13)] rfl rfl ent114 (spec_NameOk_ok _ hc7) fun K hK => ?_; simp [hN']; refine hK _ ?_; clear hK
    iterate 2 (refine wps_cons rfl fun K hK => ?_; simp [hN']; refine hK _ ?_; clear hK)
    rcases ite_or hj4 with ⟨hb8, hj4⟩ | ⟨hb9, hj4⟩
    · have hb8s := hb8
      try simp at hb8s
      iterate 6 (refine wps_off fun K hK => ?_; simp [hN', hb8, hb8s]; refine hK _ ?_; clear hK)
      iterate 2 (refine wps_cons rfl fun K hK => ?_; simp [hN', hb8, hb8s]; refine hK _ ?_; clear hK)
      iterate 4 (refine wps_off fun K hK => ?_; simp [hN', hb8, hb8s]; refine hK _ ?_; clear hK)
      iterate 2 (refine wps_cons rfl fun K hK => ?_; simp [hN', hb8, hb8s]; refine hK _ ?_; clear hK)
      iterate 4 (refine wps_off fun K hK => ?_; simp [hN', hb8, hb8s]; refine hK _ ?_; clear hK)
      refine wps_cons rfl fun K hK => ?_; simp [hN', hb8, hb8s]; refine hK _ ?_; clear hK
      refine wps_nil ?_
      cases hj4
      exact hK5 _ () [] trivial (by simp [hN', hb8, hb8s])
    · have hb9s := hb9
      try simp at hb9s
      iterate 3 (refine wps_cons rfl fun K hK => ?_; simp [hN', hb9, hb9s]; refine hK _ ?_; clear hK)
      obtain ⟨r10, hc11, hj4⟩ := bind_some hj4
      refine wps_call [(.take, .tmp 17), (.take, .tmp 19)] rfl rfl ent128 (spec_FnAt_ok _ _ hc11) fun K hK => ?_; simp [hN', hb9, hb9s]; refine hK _ ?_; clear hK
      iterate 4 (refine wps_cons rfl fun K hK => ?_; simp [hN', hb9, hb9s]; refine hK _ ?_; clear hK)
      rcases ite_or hj4 with ⟨hb12, hj4⟩ | ⟨hb13, hj4⟩
      · have hb12s := hb12
        try simp at hb12s
        iterate 4 (refine wps_off fun K hK => ?_; simp [hN', hb9, hb9s, hb12, hb12s]; refine hK _ ?_; clear hK)
        iterate 2 (refine wps_cons rfl fun K hK => ?_; simp [hN', hb9, hb9s, hb12, hb12s]; refine hK _ ?_; clear hK)
        iterate 4 (refine wps_off fun K hK => ?_; simp [hN', hb9, hb9s, hb12, hb12s]; refine hK _ ?_; clear hK)
        refine wps_cons rfl fun K hK => ?_; simp [hN', hb9, hb9s, hb12, hb12s]; refine hK _ ?_; clear hK
        refine wps_nil ?_
        cases hj4
        exact hK5 _ () [] trivial (by simp [hN', hb9, hb9s, hb12, hb12s])
      · have hb13s := hb13
        try simp at hb13s
        iterate 6 (refine wps_cons rfl fun K hK => ?_; simp [hN', hb9, hb9s, hb13, hb13s]; refine hK _ ?_; clear hK)
        rcases ite_or hj4 with ⟨hb14, hj4⟩ | ⟨hb15, hj4⟩
        · have hb14s := hb14
          try simp at hb14s
          iterate 4 (refine wps_off fun K hK => ?_; simp [hN', hb9, hb9s, hb13, hb13s, hb14, hb14s]; refine hK _ ?_; clear hK)
          refine wps_cons rfl fun K hK => ?_; simp [hN', hb9, hb9s, hb13, hb13s, hb14, hb14s]; refine hK _ ?_; clear hK
          refine wps_nil ?_
          cases hj4
          exact hK5 _ () [] trivial (by simp [hN', hb9, hb9s, hb13, hb13s, hb14, hb14s])
        · have hb15s := hb15
          try simp at hb15s
          iterate 2 (refine wps_cons rfl fun K hK => ?_; simp [hN', hb9, hb9s, hb13, hb13s, hb15, hb15s]; refine hK _ ?_; clear hK)
          obtain ⟨r16, hc17, hj4⟩ := bind_some hj4
          refine wps_call [(.take, .tmp 32), (.take, .const (.int .i64 0)), (.take, .const (.int .i64 2))] rfl rfl ent90 (spec_l01In_ok _ _ _ hc17) fun K hK => ?_; simp [hN', hb9, hb9s, hb13, hb13s, hb15, hb15s]; refine hK _ ?_; clear hK
          iterate 2 (refine wps_cons rfl fun K hK => ?_; simp [hN', hb9, hb9s, hb13, hb13s, hb15, hb15s]; refine hK _ ?_; clear hK)
          refine wps_nil ?_
          cases hj4
          exact hK5 _ () [] trivial (by simp [hN', hb9, hb9s, hb13, hb13s, hb15, hb15s])
  rcases ite_or h with ⟨hb19, h⟩ | ⟨hb20, h⟩
  · refine SWp.condT' (b := v18) (by simp) hb19 ?_
    refine SWp.seqR rfl (hPB _ rfl) fun K hK => ?_
    refine wps_cons rfl fun K hK => ?_; simp [hN']; refine hK _ ?_; clear hK
    refine wps_nil (hK _ ?_); clear hK
    cases h
    refine SWp.ret ?_
    simp [thenS, inBlockS, res103]
  · refine SWp.condF' (b := v18) (by simp) hb20 ?_
    refine SWp.skip ?_
    show SWp E C _ _ _
    obtain ⟨j23, hj21, h⟩ := bind_some h
    refine SWp.seqC [2, 5] [2, 5] (fun v : Unit => ⟨[(2, .ref (.box 2) 0 []), (5, .ref (.box 5) 0 [])], [(2, [.sl false 4 (List.map (GNode.enc false) p1.Nodes), .sl false 5 (List.map (GFn.enc false) p1.Fns)]), (5, [vs e3.Name, .sl false 2 (List.map GParam.enc e3.Params), vi e3.Res, vi e3.Body, vi e3.Ret])]⟩) (fun v => j23 = Sum.inl v) (fun v hv => ?_) fun K22 hK22 => ?_
    rotate_left
    · refine SWp.seqR rfl (hPB _ rfl) fun K hK => ?_
      refine wps_cons rfl fun K hK => ?_; simp [hN']; refine hK _ ?_; clear hK
      refine wps_nil (hK _ ?_); clear hK
      refine SWp.block ?_
      refine SWp.loopO [] [2, 5, 6] [2, 5] (fun v : Int => ⟨[(2, .ref (.box 2) 0 []), (5, .ref (.box 5) 0 []), (6, .t (vi v))], [(2, [.sl false 4 (List.map (GNode.enc false) p1.Nodes), .sl false 5 (List.map (GFn.enc false) p1.Fns)]), (5, [vs e3.Name, .sl false 2 (List.map GParam.enc e3.Params), vi e3.Res, vi e3.Body, vi e3.Ret])]⟩) (spec_l04Fn_l1 e3) _ 0 hj21 (by simp [hN']) ?_
      intro g s27 h25 ho26
      obtain ⟨k24, hg⟩ : ∃ y, y = g := ⟨_, rfl⟩
      subst hg
      simp only [spec_l04Fn_l1] at h25
      try dsimp only
      refine SWp.seq ?_
      refine SWp.seqR rfl (hPB _ rfl) fun K hK => ?_
      iterate 5 (refine wps_cons rfl fun K hK => ?_; simp [hN']; refine hK _ ?_; clear hK)
      refine wps_nil (hK _ ?_); clear hK
      rcases ite_or h25 with ⟨hb28, h25⟩ | ⟨hb29, h25⟩
      · refine SWp.condT' (b := decide (k24 < (e3.Params.length : Int))) (by simp) hb28 ?_
        refine SWp.skip ?_
        show SWp E C _ _ _
        refine SWp.seq ?_
        refine SWp.block ?_
        obtain ⟨v39, hj30, h25⟩ := bind_some h25
        refine SWp.seqRC rfl (hPB _ rfl) [2, 5, 6, 60] [2, 5] (fun _ : Unit => ⟨[(2, .ref (.box 2) 0 []), (5, .ref (.box 5) 0 []), (6, .t (vi k24)), (60, .t (vb v39))], [(2, [.sl false 4 (List.map (GNode.enc false) p1.Nodes), .sl false 5 (List.map (GFn.enc false) p1.Fns)]), (5, [vs e3.Name, .sl false 2 (List.map GParam.enc e3.Params), vi e3.Res, vi e3.Body, vi e3.Ret])]⟩) (fun _ => True) (fun _ _ => ?_) fun K31 hK31 => ?_
        rotate_left
        · refine wps_cons rfl fun K hK => ?_; simp [hN']; refine hK _ ?_; clear hK
          iterate 2 (refine wps_cons rfl fun K hK => ?_; simp [hN']; refine hK _ ?_; clear hK)
          obtain ⟨e32, he32, hj30⟩ := bind_some hj30
          obtain ⟨he32a, he32b, he32c, he32d⟩ := getI_some he32
          iterate 3 (refine wps_cons rfl fun K hK => ?_; simp [hN', he32a, he32b, he32c, he32d]; refine hK _ ?_; clear hK)
          obtain ⟨r33, hc34, hj30⟩ := bind_some hj30
          refine wps_call [(.take, .tmp 48)] rfl rfl ent114 (spec_NameOk_ok _ hc34) fun K hK => ?_; simp [hN', he32a, he32b, he32c, he32d]; refine hK _ ?_; clear hK
          iterate 2 (refine wps_cons rfl fun K hK => ?_; simp [hN', he32a, he32b, he32c, he32d]; refine hK _ ?_; clear hK)
          rcases ite_or hj30 with ⟨hb35, hj30⟩ | ⟨hb36, hj30⟩
          · have hb35s := hb35
            try simp at hb35s
            iterate 8 (refine wps_off fun K hK => ?_; simp [hN', he32a, he32b, he32c, he32d, hb35, hb35s]; refine hK _ ?_; clear hK)
            refine wps_cons rfl fun K hK => ?_; simp [hN', he32a, he32b, he32c, he32d, hb35, hb35s]; refine hK _ ?_; clear hK
            refine wps_nil ?_
            cases hj30
            exact hK31 _ () [] trivial (by simp [hN', he32a, he32b, he32c, he32d, hb35, hb35s])
          · have hb36s := hb36
            try simp at hb36s
            iterate 6 (refine wps_cons rfl fun K hK => ?_; simp [hN', he32a, he32b, he32c, he32d, hb36, hb36s]; refine hK _ ?_; clear hK)
            obtain ⟨r37, hc38, hj30⟩ := bind_some hj30
            refine wps_call [(.take, .tmp 57), (.take, .const (.int .i64 1)), (.take, .const (.int .i64 4))] rfl rfl ent90 (spec_l01In_ok _ _ _ hc38) fun K hK => ?_; simp [hN', he32a, he32b, he32c, he32d, hb36, hb36s]; refine hK _ ?_; clear hK
            iterate 2 (refine wps_cons rfl fun K hK => ?_; simp [hN', he32a, he32b, he32c, he32d, hb36, hb36s]; refine hK _ ?_; clear hK)
            refine wps_nil ?_
            cases hj30
            exact hK31 _ () [] trivial (by simp [hN', he32a, he32b, he32c, he32d, hb36, hb36s])
        rcases ite_or h25 with ⟨hb40, h25⟩ | ⟨hb41, h25⟩
        · refine SWp.condT' (b := v39) (by simp) hb40 ?_
          refine SWp.seqR rfl (hPB _ rfl) fun K hK => ?_
          refine wps_cons rfl fun K hK => ?_; simp [hN']; refine hK _ ?_; clear hK
          refine wps_nil (hK _ ?_); clear hK
          have h42 := congrArg some (ho26 _ (Option.some.inj h25).symm)
          cases h42
          try dsimp only at h
          cases h
          refine SWp.ret ?_
          simp [thenS, inBlockS, res103]
        · refine SWp.condF' (b := v39) (by simp) hb41 ?_
          refine SWp.skip ?_
          show SWp E C _ _ _
          refine SWp.reg rfl (hPB _ rfl) fun K hK => ?_
          iterate 3 (refine wps_cons rfl fun K hK => ?_; simp [hN']; refine hK _ ?_; clear hK)
          refine wps_nil (hK _ ?_); clear hK
          cases h25
          exact ⟨_, [], rfl, by simp [hN']⟩
      · refine SWp.condF' (b := decide (k24 < (e3.Params.length : Int))) (by simp) hb29 ?_
        refine SWp.exit ?_
        have h43 := congrArg some (ho26 _ (Option.some.inj h25).symm)
        cases h43
        exact hK22 _ _ [] rfl (by simp [hN'])
    subst hv
    obtain ⟨⟩ := v
    try dsimp only at h ⊢
    refine SWp.seq ?_
    obtain ⟨v51, hj44, h⟩ := bind_some h
    refine SWp.seqRC rfl (hPB _ rfl) [2, 5, 78] [2, 5] (fun _ : Unit => ⟨[(2, .ref (.box 2) 0 []), (5, .ref (.box 5) 0 []), (78, .t (vb v51))], [(2, [.sl false 4 (List.map (GNode.enc false) p1.Nodes), .sl false 5 (List.map (GFn.enc false) p1.Fns)]), (5, [vs e3.Name, .sl false 2 (List.map GParam.enc e3.Params), vi e3.Res, vi e3.Body, vi e3.Ret])]⟩) (fun _ => True) (fun _ _ => ?_) fun K45 hK45 => ?_
    rotate_left
    · refine wps_cons rfl fun K hK => ?_; simp [hN']; refine hK _ ?_; clear hK
      iterate 5 (refine wps_cons rfl fun K hK => ?_; simp [hN']; refine hK _ ?_; clear hK)
      obtain ⟨r46, hc47, hj44⟩ := bind_some hj44
      refine wps_call [(.take, .tmp 62), (.take, .const (.int .i64 0)), (.take, .tmp 66)] rfl rfl ent90 (spec_l01In_ok _ _ _ hc47) fun K hK => ?_; simp [hN']; refine hK _ ?_; clear hK
      iterate 2 (refine wps_cons rfl fun K hK => ?_; simp [hN']; refine hK _ ?_; clear hK)
      rcases ite_or hj44 with ⟨hb48, hj44⟩ | ⟨hb49, hj44⟩
      · have hb48s := hb48
        try simp at hb48s
        iterate 8 (refine wps_off fun K hK => ?_; simp [hN', hb48, hb48s]; refine hK _ ?_; clear hK)
        refine wps_cons rfl fun K hK => ?_; simp [hN', hb48, hb48s]; refine hK _ ?_; clear hK
        refine wps_nil ?_
        cases hj44
        exact hK45 _ () [] trivial (by simp [hN', hb48, hb48s])
      · have hb49s := hb49
        try simp at hb49s
        iterate 4 (refine wps_cons rfl fun K hK => ?_; simp [hN', hb49, hb49s]; refine hK _ ?_; clear hK)
        obtain ⟨e50, he50, hj44⟩ := bind_some hj44
        obtain ⟨he50a, he50b, he50c, he50d⟩ := getI_some he50
        have he50j := he50b; try simp at he50j
        try simp only [Int.toNat_natCast] at he50c he50d
        iterate 5 (refine wps_cons rfl fun K hK => ?_; simp [hN', hb49, hb49s, he50a, he50b, he50c, he50d, he50j]; refine hK _ ?_; clear hK)
        refine wps_nil ?_
        cases hj44
        exact hK45 _ () [] trivial (by simp [hN', hb49, hb49s, he50a, he50b, he50c, he50d, he50j])
    rcases ite_or h with ⟨hb52, h⟩ | ⟨hb53, h⟩
    · refine SWp.condT' (b := v51) (by simp) hb52 ?_
      refine SWp.seqR rfl (hPB _ rfl) fun K hK => ?_
      refine wps_cons rfl fun K hK => ?_; simp [hN']; refine hK _ ?_; clear hK
      refine wps_nil (hK _ ?_); clear hK
      cases h
      refine SWp.ret ?_
      simp [thenS, inBlockS, res103]
    · refine SWp.condF' (b := v51) (by simp) hb53 ?_
      refine SWp.skip ?_
      show SWp E C _ _ _
      refine SWp.seq ?_
      refine SWp.seqR rfl (hPB _ rfl) fun K hK => ?_
      iterate 3 (refine wps_cons rfl fun K hK => ?_; simp [hN']; refine hK _ ?_; clear hK)
      refine wps_nil (hK _ ?_); clear hK
      rcases ite_or h with ⟨hb54, h⟩ | ⟨hb55, h⟩
      · refine SWp.condT' (b := e3.Res == 0) (by simp) hb54 ?_
        refine SWp.seqR rfl (hPB _ rfl) fun K hK => ?_
        iterate 4 (refine wps_cons rfl fun K hK => ?_; simp [hN']; refine hK _ ?_; clear hK)
        refine wps_nil (hK _ ?_); clear hK
        cases h
        refine SWp.ret ?_
        simp [thenS, inBlockS, res103]
      · refine SWp.condF' (b := e3.Res == 0) (by simp) hb55 ?_
        refine SWp.skip ?_
        show SWp E C _ _ _
        obtain ⟨v65, hj56, h⟩ := bind_some h
        refine SWp.seqRC rfl (hPB _ rfl) [4] [] (fun _ : Unit => ⟨[(4, .t (vb v65))], []⟩) (fun _ => True) (fun _ _ => ?_) fun K57 hK57 => ?_
        rotate_left
        · refine wps_cons rfl fun K hK => ?_; simp [hN']; refine hK _ ?_; clear hK
          iterate 5 (refine wps_cons rfl fun K hK => ?_; simp [hN']; refine hK _ ?_; clear hK)
          obtain ⟨r58, hc59, hj56⟩ := bind_some hj56
          refine wps_call [(.take, .tmp 86), (.take, .const (.int .i64 0)), (.take, .tmp 90)] rfl rfl ent90 (spec_l01In_ok _ _ _ hc59) fun K hK => ?_; simp [hN']; refine hK _ ?_; clear hK
          refine wps_cons rfl fun K hK => ?_; simp [hN']; refine hK _ ?_; clear hK
          rcases ite_or hj56 with ⟨hb60, hj56⟩ | ⟨hb61, hj56⟩
          · have hb60s := hb60
            try simp at hb60s
            iterate 4 (refine wps_cons rfl fun K hK => ?_; simp [hN', hb60, hb60s]; refine hK _ ?_; clear hK)
            obtain ⟨e62, he62, hj56⟩ := bind_some hj56
            obtain ⟨he62a, he62b, he62c, he62d⟩ := getI_some he62
            have he62j := he62b; try simp at he62j
            try simp only [Int.toNat_natCast] at he62c he62d
            iterate 3 (refine wps_cons rfl fun K hK => ?_; simp [hN', hb60, hb60s, he62a, he62b, he62c, he62d, he62j]; refine hK _ ?_; clear hK)
            obtain ⟨r63, hc64, hj56⟩ := bind_some hj56
            refine wps_call [(.take, .tmp 99)] rfl rfl ent61 (spec_l04Value_ok _ hc64) fun K hK => ?_; simp [hN', hb60, hb60s, he62a, he62b, he62c, he62d, he62j]; refine hK _ ?_; clear hK
            iterate 2 (refine wps_cons rfl fun K hK => ?_; simp [hN', hb60, hb60s, he62a, he62b, he62c, he62d, he62j]; refine hK _ ?_; clear hK)
            refine wps_nil ?_
            cases hj56
            exact hK57 _ () [] trivial (by simp [hN', hb60, hb60s, he62a, he62b, he62c, he62d, he62j])
          · have hb61s := hb61
            try simp at hb61s
            iterate 8 (refine wps_off fun K hK => ?_; simp [hN', hb61, hb61s]; refine hK _ ?_; clear hK)
            iterate 2 (refine wps_cons rfl fun K hK => ?_; simp [hN', hb61, hb61s]; refine hK _ ?_; clear hK)
            refine wps_nil ?_
            cases hj56
            exact hK57 _ () [] trivial (by simp [hN', hb61, hb61s])
        cases h
        refine SWp.ret ?_
        simp [thenS, inBlockS, res103]
end Go.Proofs.T
