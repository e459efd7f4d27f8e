import Derived.Test.YtchcogjfmbfccaaDoorOmC
import Derived.Lib.Split
import Derived.Lib.ItoaNum
import Derived.Test.YtchcogjfmbfccaaDoorProg
import Derived.KernelRfl
set_option linter.unusedVariables false
noncomputable section
namespace Go.OM
/-! ### Functions of the library, as plain functions -/
def strconv_Itoa (n : Int) : Option ByteArray := if -9223372036854775808 ≤ n ∧ n ≤ 9223372036854775807 then some ⟨(Lib.itoa n).toArray⟩ else none
def strings_Split (s sep : ByteArray) : Option (List ByteArray) := if s.size < 4294967281 ∧ 1 ≤ sep.size ∧ (Lib.splitB sep 0 (Lib.countB s sep) s).length = Lib.countB s sep + 1 then some (Lib.splitB sep 0 (Lib.countB s sep) s) else none
end Go.OM
end
set_option linter.unusedVariables false
set_option linter.unusedSimpArgs false
namespace Go.OM
/-- How deep functions may call themselves. -/
def recFuel : Nat := 1048576
abbrev vi (n : Int) : T := .v (.int .i64 n)
abbrev vk (k : IntKind) (n : Int) : T := .v (.int k n)
abbrev vb (b : Bool) : T := .v (.bool b)
abbrev vs (z : ByteArray) : T := .v (.string z)
abbrev eSl {α : Type} (o : Bool) (s : Nat) (f : α → T) (l : List α) : T := .sl o s (l.map f)
@[simp] theorem own_vi (l : List Int) : T.hasOwnL (l.map vi) = false := hasOwnL_map vi (fun _ => rfl) l
@[simp] theorem own_vk (k : IntKind) (l : List Int) : T.hasOwnL (l.map (vk k)) = false := hasOwnL_map _ (fun _ => rfl) l
@[simp] theorem own_vb (l : List Bool) : T.hasOwnL (l.map vb) = false := hasOwnL_map _ (fun _ => rfl) l
@[simp] theorem own_vs (l : List ByteArray) : T.hasOwnL (l.map vs) = false := hasOwnL_map _ (fun _ => rfl) l
@[simp] theorem ro_vi (l : List Int) : T.roL (l.map vi) = l.map vi := roL_map' _ _ (fun _ => rfl) l
@[simp] theorem ro_vk (k : IntKind) (l : List Int) : T.roL (l.map (vk k)) = l.map (vk k) := roL_map' _ _ (fun _ => rfl) l
@[simp] theorem ro_vb (l : List Bool) : T.roL (l.map vb) = l.map vb := roL_map' _ _ (fun _ => rfl) l
@[simp] theorem ro_vs (l : List ByteArray) : T.roL (l.map vs) = l.map vs := roL_map' _ _ (fun _ => rfl) l
@[simp] theorem noRo_vi (l : List Int) : T.noRoL (l.map vi) = true := noRoL_map _ (fun _ => rfl) l
@[simp] theorem noRo_vk (k : IntKind) (l : List Int) : T.noRoL (l.map (vk k)) = true := noRoL_map _ (fun _ => rfl) l
@[simp] theorem noRo_vb (l : List Bool) : T.noRoL (l.map vb) = true := noRoL_map _ (fun _ => rfl) l
@[simp] theorem noRo_vs (l : List ByteArray) : T.noRoL (l.map vs) = true := noRoL_map _ (fun _ => rfl) l
@[simp] theorem own_eSl {α : Type} {s : Nat} {f : α → T} (h : ∀ l : List α, T.hasOwnL (l.map f) = false) (l : List (List α)) : T.hasOwnL (l.map (eSl false s f)) = false := hasOwnL_map _ (fun x => by simp [h x]) l
@[simp] theorem ro_eSl {α : Type} {o : Bool} {s : Nat} {f : α → T} (h : ∀ l : List α, T.roL (l.map f) = l.map f) (l : List (List α)) : T.roL (l.map (eSl o s f)) = l.map (eSl false s f) := roL_map' _ _ (fun x => by simp [h x]) l
@[simp] theorem noRo_eSl {α : Type} {s : Nat} {f : α → T} (h : ∀ l : List α, T.noRoL (l.map f) = true) (l : List (List α)) : T.noRoL (l.map (eSl true s f)) = true := noRoL_map _ (fun x => by simp [h x]) l
theorem ite_or {α : Type} {c : Prop} [Decidable c] {a b : Option α} {r : α} (h : (if c then a else b) = some r) : (c ∧ a = some r) ∨ (¬ c ∧ b = some r) := by
  by_cases hc : c
  · rw [if_pos hc] at h; exact .inl ⟨hc, h⟩
  · rw [if_neg hc] at h; exact .inr ⟨hc, h⟩
structure GIns where
  Op : Int
  A : Int
  B : Int
  C : Int
  Num : Int
  Name : ByteArray
  Args : List Int
  deriving DecidableEq
def GIns.enc (o : Bool) (x : GIns) : T := .agg [vi x.Op, vi x.A, vi x.B, vi x.C, vi x.Num, vs x.Name, .sl o 1 (List.map vi x.Args)]
@[simp] theorem GIns.own (x : GIns) : (x.enc false).hasOwn = false := by simp [GIns.enc]
@[simp] theorem GIns.ownT (x : GIns) : (x.enc true).hasOwn = true := by simp [GIns.enc]
@[simp] theorem GIns.ownL (l : List GIns) : T.hasOwnL (l.map (GIns.enc false)) = false := hasOwnL_map _ (fun x => by simp) l
@[simp] theorem GIns.ro1 (o : Bool) (x : GIns) : (x.enc o).ro = x.enc false := by cases o <;> simp [GIns.enc, T.roL_map, Function.comp_def]
@[simp] theorem GIns.roL (o : Bool) (l : List GIns) : T.roL (l.map (GIns.enc o)) = l.map (GIns.enc false) := roL_map' _ _ (fun x => by simp) l
@[simp] theorem GIns.noRo (x : GIns) : (x.enc true).noRo = true := by simp [GIns.enc]
@[simp] theorem GIns.noRoL (l : List GIns) : T.noRoL (l.map (GIns.enc true)) = true := noRoL_map _ (fun x => by simp) l
structure GCode where
  Name : ByteArray
  Params : Int
  Locals : List Int
  Words : List GIns
  deriving DecidableEq
def GCode.enc (o : Bool) (x : GCode) : T := .agg [vs x.Name, vi x.Params, .sl o 1 (List.map vi x.Locals), .sl o 7 (List.map (GIns.enc o) x.Words)]
@[simp] theorem GCode.own (x : GCode) : (x.enc false).hasOwn = false := by simp [GCode.enc]
@[simp] theorem GCode.ownT (x : GCode) : (x.enc true).hasOwn = true := by simp [GCode.enc]
@[simp] theorem GCode.ownL (l : List GCode) : T.hasOwnL (l.map (GCode.enc false)) = false := hasOwnL_map _ (fun x => by simp) l
@[simp] theorem GCode.ro1 (o : Bool) (x : GCode) : (x.enc o).ro = x.enc false := by cases o <;> simp [GCode.enc, T.roL_map, Function.comp_def]
@[simp] theorem GCode.roL (o : Bool) (l : List GCode) : T.roL (l.map (GCode.enc o)) = l.map (GCode.enc false) := roL_map' _ _ (fun x => by simp) l
@[simp] theorem GCode.noRo (x : GCode) : (x.enc true).noRo = true := by simp [GCode.enc]
@[simp] theorem GCode.noRoL (l : List GCode) : T.noRoL (l.map (GCode.enc true)) = true := noRoL_map _ (fun x => by simp) l
structure GBlock where
  From : Int
  To : Int
  Next : List Int
  deriving DecidableEq
def GBlock.enc (o : Bool) (x : GBlock) : T := .agg [vi x.From, vi x.To, .sl o 1 (List.map vi x.Next)]
@[simp] theorem GBlock.own (x : GBlock) : (x.enc false).hasOwn = false := by simp [GBlock.enc]
@[simp] theorem GBlock.ownT (x : GBlock) : (x.enc true).hasOwn = true := by simp [GBlock.enc]
@[simp] theorem GBlock.ownL (l : List GBlock) : T.hasOwnL (l.map (GBlock.enc false)) = false := hasOwnL_map _ (fun x => by simp) l
@[simp] theorem GBlock.ro1 (o : Bool) (x : GBlock) : (x.enc o).ro = x.enc false := by cases o <;> simp [GBlock.enc, T.roL_map, Function.comp_def]
@[simp] theorem GBlock.roL (o : Bool) (l : List GBlock) : T.roL (l.map (GBlock.enc o)) = l.map (GBlock.enc false) := roL_map' _ _ (fun x => by simp) l
@[simp] theorem GBlock.noRo (x : GBlock) : (x.enc true).noRo = true := by simp [GBlock.enc]
@[simp] theorem GBlock.noRoL (l : List GBlock) : T.noRoL (l.map (GBlock.enc true)) = true := noRoL_map _ (fun x => by simp) l
structure GMeasure where
  Fns : Int
  Nodes : Int
  Steps : Int
  Values : Int
  Blocks : Int
  Lets : Int
  News : Int
  Lends : Int
  Deep : Int
  deriving DecidableEq
def GMeasure.enc (x : GMeasure) : T := .agg [vi x.Fns, vi x.Nodes, vi x.Steps, vi x.Values, vi x.Blocks, vi x.Lets, vi x.News, vi x.Lends, vi x.Deep]
@[simp] theorem GMeasure.own (x : GMeasure) : x.enc.hasOwn = false := by simp [GMeasure.enc]
@[simp] theorem GMeasure.ownL (l : List GMeasure) : T.hasOwnL (l.map GMeasure.enc) = false := hasOwnL_map _ (fun x => by simp) l
@[simp] theorem GMeasure.ro1 (x : GMeasure) : x.enc.ro = x.enc := by simp [GMeasure.enc]
@[simp] theorem GMeasure.roL (l : List GMeasure) : T.roL (l.map GMeasure.enc) = l.map GMeasure.enc := roL_map' _ _ (fun x => by simp) l
@[simp] theorem GMeasure.noRo (x : GMeasure) : x.enc.noRo = true := by simp [GMeasure.enc]
@[simp] theorem GMeasure.noRoL (l : List GMeasure) : T.noRoL (l.map GMeasure.enc) = true := noRoL_map _ (fun x => by simp) l
structure GNode where
  Kind : Int
  Num : Int
  Name : ByteArray
  Kids : List Int
  deriving DecidableEq
def GNode.enc (o : Bool) (x : GNode) : T := .agg [vi x.Kind, vi x.Num, vs x.Name, .sl o 1 (List.map vi x.Kids)]
@[simp] theorem GNode.own (x : GNode) : (x.enc false).hasOwn = false := by simp [GNode.enc]
@[simp] theorem GNode.ownT (x : GNode) : (x.enc true).hasOwn = true := by simp [GNode.enc]
@[simp] theorem GNode.ownL (l : List GNode) : T.hasOwnL (l.map (GNode.enc false)) = false := hasOwnL_map _ (fun x => by simp) l
@[simp] theorem GNode.ro1 (o : Bool) (x : GNode) : (x.enc o).ro = x.enc false := by cases o <;> simp [GNode.enc, T.roL_map, Function.comp_def]
@[simp] theorem GNode.roL (o : Bool) (l : List GNode) : T.roL (l.map (GNode.enc o)) = l.map (GNode.enc false) := roL_map' _ _ (fun x => by simp) l
@[simp] theorem GNode.noRo (x : GNode) : (x.enc true).noRo = true := by simp [GNode.enc]
@[simp] theorem GNode.noRoL (l : List GNode) : T.noRoL (l.map (GNode.enc true)) = true := noRoL_map _ (fun x => by simp) l
structure GParam where
  Name : ByteArray
  Typ : Int
  deriving DecidableEq
def GParam.enc (x : GParam) : T := .agg [vs x.Name, vi x.Typ]
@[simp] theorem GParam.own (x : GParam) : x.enc.hasOwn = false := by simp [GParam.enc]
@[simp] theorem GParam.ownL (l : List GParam) : T.hasOwnL (l.map GParam.enc) = false := hasOwnL_map _ (fun x => by simp) l
@[simp] theorem GParam.ro1 (x : GParam) : x.enc.ro = x.enc := by simp [GParam.enc]
@[simp] theorem GParam.roL (l : List GParam) : T.roL (l.map GParam.enc) = l.map GParam.enc := roL_map' _ _ (fun x => by simp) l
@[simp] theorem GParam.noRo (x : GParam) : x.enc.noRo = true := by simp [GParam.enc]
@[simp] theorem GParam.noRoL (l : List GParam) : T.noRoL (l.map GParam.enc) = true := noRoL_map _ (fun x => by simp) l
structure GFn where
  Name : ByteArray
  Params : List GParam
  Res : Int
  Body : Int
  Ret : Int
  deriving DecidableEq
def GFn.enc (o : Bool) (x : GFn) : T := .agg [vs x.Name, .sl o 2 (List.map GParam.enc x.Params), vi x.Res, vi x.Body, vi x.Ret]
@[simp] theorem GFn.own (x : GFn) : (x.enc false).hasOwn = false := by simp [GFn.enc]
@[simp] theorem GFn.ownT (x : GFn) : (x.enc true).hasOwn = true := by simp [GFn.enc]
@[simp] theorem GFn.ownL (l : List GFn) : T.hasOwnL (l.map (GFn.enc false)) = false := hasOwnL_map _ (fun x => by simp) l
@[simp] theorem GFn.ro1 (o : Bool) (x : GFn) : (x.enc o).ro = x.enc false := by cases o <;> simp [GFn.enc, T.roL_map, Function.comp_def]
@[simp] theorem GFn.roL (o : Bool) (l : List GFn) : T.roL (l.map (GFn.enc o)) = l.map (GFn.enc false) := roL_map' _ _ (fun x => by simp) l
@[simp] theorem GFn.noRo (x : GFn) : (x.enc true).noRo = true := by simp [GFn.enc]
@[simp] theorem GFn.noRoL (l : List GFn) : T.noRoL (l.map (GFn.enc true)) = true := noRoL_map _ (fun x => by simp) l
structure GProgram where
  Nodes : List GNode
  Fns : List GFn
  deriving DecidableEq
def GProgram.enc (o : Bool) (x : GProgram) : T := .agg [.sl o 4 (List.map (GNode.enc o) x.Nodes), .sl o 5 (List.map (GFn.enc o) x.Fns)]
@[simp] theorem GProgram.own (x : GProgram) : (x.enc false).hasOwn = false := by simp [GProgram.enc]
@[simp] theorem GProgram.ownT (x : GProgram) : (x.enc true).hasOwn = true := by simp [GProgram.enc]
@[simp] theorem GProgram.ownL (l : List GProgram) : T.hasOwnL (l.map (GProgram.enc false)) = false := hasOwnL_map _ (fun x => by simp) l
@[simp] theorem GProgram.ro1 (o : Bool) (x : GProgram) : (x.enc o).ro = x.enc false := by cases o <;> simp [GProgram.enc, T.roL_map, Function.comp_def]
@[simp] theorem GProgram.roL (o : Bool) (l : List GProgram) : T.roL (l.map (GProgram.enc o)) = l.map (GProgram.enc false) := roL_map' _ _ (fun x => by simp) l
@[simp] theorem GProgram.noRo (x : GProgram) : (x.enc true).noRo = true := by simp [GProgram.enc]
@[simp] theorem GProgram.noRoL (l : List GProgram) : T.noRoL (l.map (GProgram.enc true)) = true := noRoL_map _ (fun x => by simp) l
attribute [simp] GIns.enc GCode.enc GBlock.enc GMeasure.enc GNode.enc GParam.enc GFn.enc GProgram.enc
end Go.OM
set_option linter.unusedVariables false
noncomputable section
namespace Go.OM
def spec_l01Figure (x1 : Int) : Option (Int) :=
  if (decide (x1 < 10)) = true then
    some (IntKind.wrap .u8 (IntKind.wrap .i64 (48 + x1)))
  else
    some (IntKind.wrap .u8 (IntKind.wrap .i64 ((IntKind.wrap .i64 (97 + x1)) - 10)))
def spec_Decimal_l1 : (Int × ByteArray) → Option ((Int × ByteArray) ⊕ (ByteArray)) := fun ⟨n7, s8⟩ =>
  if (n7 != 0) = true then
    Option.bind (
      if (decide (Int.tmod n7 10 < 0)) = true then
        some (IntKind.wrap .i64 (0 - (Int.tmod n7 10)))
      else
        some (Int.tmod n7 10)) fun d19 =>
    (spec_l01Figure d19).bind fun r20 =>
    (sCat (bytesOf [r20]) s8).bind fun t22 =>
    some (Sum.inl (IntKind.wrap .i64 (Int.tdiv n7 10), t22))
  else
    some (Sum.inr s8)
def spec_Decimal (n1 : Int) : Option (ByteArray) :=
  if (n1 == 0) = true then
    some (⟨#[48]⟩ : ByteArray)
  else
    Option.bind (
      loopP (spec_Decimal_l1) (n1, (⟨#[]⟩ : ByteArray))) fun s24 =>
    if (decide (n1 < 0)) = true then
      (sCat (⟨#[45]⟩ : ByteArray) s24).bind fun t27 =>
      some t27
    else
      some s24
def spec_l25Num (n1 : Int) : Option (ByteArray) :=
  if (decide (n1 < 0)) = true then
    some (⟨#[48]⟩ : ByteArray)
  else
    (spec_Decimal n1).bind fun r4 =>
    some r4
def spec_ShowMeasure (m1 : GMeasure) : Option (ByteArray) :=
  (spec_l25Num m1.Fns).bind fun r3 =>
  (sCat (⟨#[102, 110, 115, 32]⟩ : ByteArray) r3).bind fun t5 =>
  (sCat t5 (⟨#[32, 110, 111, 100, 101, 115, 32]⟩ : ByteArray)).bind fun t6 =>
  (spec_l25Num m1.Nodes).bind fun r7 =>
  (sCat t6 r7).bind fun t9 =>
  (sCat t9 (⟨#[32, 115, 116, 101, 112, 115, 32]⟩ : ByteArray)).bind fun t10 =>
  (spec_l25Num m1.Steps).bind fun r11 =>
  (sCat t10 r11).bind fun t13 =>
  (sCat t13 (⟨#[32, 118, 97, 108, 117, 101, 115, 32]⟩ : ByteArray)).bind fun t14 =>
  (spec_l25Num m1.Values).bind fun r15 =>
  (sCat t14 r15).bind fun t17 =>
  (sCat t17 (⟨#[32, 98, 108, 111, 99, 107, 115, 32]⟩ : ByteArray)).bind fun t19 =>
  (spec_l25Num m1.Blocks).bind fun r20 =>
  (sCat t19 r20).bind fun t22 =>
  (sCat t22 (⟨#[32, 108, 101, 116, 115, 32]⟩ : ByteArray)).bind fun t23 =>
  (spec_l25Num m1.Lets).bind fun r24 =>
  (sCat t23 r24).bind fun t26 =>
  (sCat t26 (⟨#[32, 110, 101, 119, 115, 32]⟩ : ByteArray)).bind fun t27 =>
  (spec_l25Num m1.News).bind fun r28 =>
  (sCat t27 r28).bind fun t30 =>
  (sCat t30 (⟨#[32, 108, 101, 110, 100, 115, 32]⟩ : ByteArray)).bind fun t31 =>
  (spec_l25Num m1.Lends).bind fun r32 =>
  (sCat t31 r32).bind fun t34 =>
  (sCat t34 (⟨#[32, 100, 101, 101, 112, 32]⟩ : ByteArray)).bind fun t35 =>
  (spec_l25Num m1.Deep).bind fun r36 =>
  (sCat t35 r36).bind fun t38 =>
  (sCat t38 (⟨#[10]⟩ : ByteArray)).bind fun t39 =>
  some t39
def laws_toMeasure (a1 : GMeasure) : Option (GMeasure) :=
  some (⟨a1.Fns, a1.Nodes, a1.Steps, a1.Values, a1.Blocks, a1.Lets, a1.News, a1.Lends, a1.Deep⟩ : GMeasure)
def laws_szIntS (a1 : List Int) (left2 : Int) : Option (Int) :=
  if (decide (IntKind.wrap .i64 (left2 - (a1.length : Int)) < 0)) = true then
    some (-1)
  else
    some (IntKind.wrap .i64 (left2 - (a1.length : Int)))
def laws_szIns (a1 : GIns) (left2 : Int) : Option (Int) :=
  if (decide (IntKind.wrap .i64 (left2 - (a1.Name.size : Int)) < 0)) = true then
    some (-1)
  else
    (laws_szIntS a1.Args (IntKind.wrap .i64 (left2 - (a1.Name.size : Int)))).bind fun r5 =>
    if (decide (r5 < 0)) = true then
      some (-1)
    else
      some r5
def laws_szInsS_l1 (a1 : List GIns) : (Int × Int) → Option ((Int × Int) ⊕ ((Int) ⊕ (Int))) := fun ⟨left8, i9⟩ =>
  if (decide (i9 < (a1.length : Int))) = true then
    (getI a1 i9).bind fun e15 =>
    (laws_szIns e15 left8).bind fun r16 =>
    if (decide (r16 < 0)) = true then
      some (Sum.inr (Sum.inr (-1)))
    else
      some (Sum.inl (r16, IntKind.wrap .i64 (i9 + 1)))
  else
    some (Sum.inr (Sum.inl left8))
def laws_szInsS (a1 : List GIns) (left2 : Int) : Option (Int) :=
  if (decide (IntKind.wrap .i64 (left2 - (a1.length : Int)) < 0)) = true then
    some (-1)
  else
    Option.bind (
      loopP (laws_szInsS_l1 a1) (IntKind.wrap .i64 (left2 - (a1.length : Int)), 0)) fun j7 =>
    match j7 with
    | Sum.inr z => some z
    | Sum.inl left22 =>
      some left22
def laws_szCode (a1 : GCode) (left2 : Int) : Option (Int) :=
  if (decide (IntKind.wrap .i64 (left2 - (a1.Name.size : Int)) < 0)) = true then
    some (-1)
  else
    (laws_szIntS a1.Locals (IntKind.wrap .i64 (left2 - (a1.Name.size : Int)))).bind fun r5 =>
    if (decide (r5 < 0)) = true then
      some (-1)
    else
      (laws_szInsS a1.Words r5).bind fun r9 =>
      if (decide (r9 < 0)) = true then
        some (-1)
      else
        some r9
def spec_l01In (x1 : Int) (least2 : Int) (most3 : Int) : Option (Bool) :=
  Option.bind (
    if (decide (x1 ≥ least2)) = true then
      some (decide (x1 ≤ most3))
    else
      some false) fun v8 =>
  some v8
def spec_l03Letter (b1 : Int) : Option (Bool) :=
  Option.bind (
    if (decide (b1 ≥ 97)) = true then
      some (decide (b1 ≤ 122))
    else
      some false) fun v6 =>
  some v6
def spec_l03Keys : Option (List ByteArray) :=
  some [(⟨#[102, 110]⟩ : ByteArray), (⟨#[108, 101, 116]⟩ : ByteArray), (⟨#[105, 102]⟩ : ByteArray), (⟨#[101, 108, 115, 101]⟩ : ByteArray), (⟨#[119, 104, 105, 108, 101]⟩ : ByteArray), (⟨#[112, 114, 105, 110, 116]⟩ : ByteArray), (⟨#[100, 111]⟩ : ByteArray), (⟨#[110, 101, 119]⟩ : ByteArray), (⟨#[99, 108, 111, 110, 101]⟩ : ByteArray), (⟨#[109, 117, 116]⟩ : ByteArray), (⟨#[105, 110, 112, 117, 116]⟩ : ByteArray), (⟨#[105, 110, 116]⟩ : ByteArray), (⟨#[98, 111, 120]⟩ : ByteArray), (⟨#[114, 101, 116]⟩ : ByteArray)]
def spec_KeyWord_l1 (s1 : ByteArray) (r2 : List ByteArray) : Int → Option ((Int) ⊕ ((Unit) ⊕ (Bool))) := fun i7 =>
  if (decide (i7 < (r2.length : Int))) = true then
    (getI r2 i7).bind fun e13 =>
    if (sEq e13 s1) = true then
      some (Sum.inr (Sum.inr true))
    else
      some (Sum.inl (IntKind.wrap .i64 (i7 + 1)))
  else
    some (Sum.inr (Sum.inl ()))
def spec_KeyWord (s1 : ByteArray) : Option (Bool) :=
  (spec_l03Keys ).bind fun r2 =>
  Option.bind (
    loopP (spec_KeyWord_l1 s1 r2) 0) fun j6 =>
  match j6 with
  | Sum.inr z => some z
  | Sum.inl () =>
    some false
def spec_l03Figure (b1 : Int) : Option (Bool) :=
  Option.bind (
    if (decide (b1 ≥ 48)) = true then
      some (decide (b1 ≤ 57))
    else
      some false) fun v6 =>
  some v6
def spec_NameOk_l1 (s1 : ByteArray) : Int → Option ((Int) ⊕ ((Unit) ⊕ (Bool))) := fun i21 =>
  if (decide (i21 < (s1.size : Int))) = true then
    Option.bind (
      (sAt s1 i21).bind fun c29 =>
      (spec_l03Letter c29).bind fun r30 =>
      if (!r30) = true then
        (spec_l03Figure c29).bind fun r34 =>
        some (!r34)
      else
        some false) fun v36 =>
    if v36 = true then
      some (Sum.inr (Sum.inr false))
    else
      some (Sum.inl (IntKind.wrap .i64 (i21 + 1)))
  else
    some (Sum.inr (Sum.inl ()))
def spec_NameOk (s1 : ByteArray) : Option (Bool) :=
  Option.bind (
    (spec_l01In (s1.size : Int) 1 8).bind fun r4 =>
    if (!r4) = true then
      some true
    else
      (sAt s1 0).bind fun c8 =>
      (spec_l03Letter c8).bind fun r9 =>
      if (!r9) = true then
        some true
      else
        (spec_KeyWord s1).bind fun r13 =>
        some r13) fun v15 =>
  if v15 = true then
    some false
  else
    Option.bind (
      loopP (spec_NameOk_l1 s1) 0) fun j20 =>
    match j20 with
    | Sum.inr z => some z
    | Sum.inl () =>
      some true
def spec_l11HasB (op1 : Int) : Option (Bool) :=
  Option.bind (
    (spec_l01In op1 2 7).bind fun r4 =>
    if r4 = true then
      some true
    else
      (spec_l01In op1 9 12).bind fun r8 =>
      if r8 = true then
        some true
      else
        if (op1 == 14) = true then
          some true
        else
          some (op1 == 15)) fun v14 =>
  some v14
def spec_l11HasC (op1 : Int) : Option (Bool) :=
  (spec_l01In op1 10 12).bind fun r2 =>
  some r2
def spec_l11Place (c1 : GCode) (n2 : Int) : Option (Bool) :=
  (spec_l01In n2 0 (IntKind.wrap .i64 ((c1.Locals.length : Int) - 1))).bind fun r3 =>
  some r3
def spec_l11A (c1 : GCode) (x2 : GIns) : Option (Bool) :=
  Option.bind (
    if (x2.Op == 13) = true then
      some true
    else
      some (x2.Op == 20)) fun v7 =>
  if v7 = true then
    Option.bind (
      if (x2.A == (-1)) = true then
        some true
      else
        (spec_l11Place c1 x2.A).bind fun r14 =>
        some r14) fun v16 =>
    some v16
  else
    if (x2.Op == 18) = true then
      some (x2.A == 0)
    else
      (spec_l11Place c1 x2.A).bind fun r19 =>
      some r19
def spec_WordOk_l1 (c1 : GCode) (x2 : GIns) : Int → Option ((Int) ⊕ ((Unit) ⊕ (Bool))) := fun i89 =>
  if (decide (i89 < (x2.Args.length : Int))) = true then
    (getI x2.Args i89).bind fun e96 =>
    (spec_l11Place c1 e96).bind fun r97 =>
    if (!r97) = true then
      some (Sum.inr (Sum.inr false))
    else
      some (Sum.inl (IntKind.wrap .i64 (i89 + 1)))
  else
    some (Sum.inr (Sum.inl ()))
def spec_WordOk (c1 : GCode) (x2 : GIns) : Option (Bool) :=
  Option.bind (
    (spec_l01In x2.Op 1 20).bind fun r5 =>
    if (!r5) = true then
      some true
    else
      (spec_l11A c1 x2).bind fun r9 =>
      some (!r9)) fun v11 =>
  if v11 = true then
    some false
  else
    Option.bind (
      (spec_l11HasB x2.Op).bind fun r16 =>
      if r16 = true then
        (spec_l11Place c1 x2.B).bind fun r20 =>
        if (!r20) = true then
          some true
        else
          (spec_l11HasB x2.Op).bind fun r24 =>
          if (!r24) = true then
            some (x2.B != 0)
          else
            some false
      else
        (spec_l11HasB x2.Op).bind fun r28 =>
        if (!r28) = true then
          some (x2.B != 0)
        else
          some false) fun v32 =>
    if v32 = true then
      some false
    else
      Option.bind (
        (spec_l11HasC x2.Op).bind fun r37 =>
        if r37 = true then
          (spec_l11Place c1 x2.C).bind fun r41 =>
          if (!r41) = true then
            some true
          else
            (spec_l11HasC x2.Op).bind fun r45 =>
            if (!r45) = true then
              some (x2.C != 0)
            else
              some false
        else
          (spec_l11HasC x2.Op).bind fun r49 =>
          if (!r49) = true then
            some (x2.C != 0)
          else
            some false) fun v53 =>
      if v53 = true then
        some false
      else
        Option.bind (
          if (x2.Op == 1) = true then
            (spec_l01In x2.Num 0 1000000000).bind fun r61 =>
            if (!r61) = true then
              some (Sum.inr false)
            else
              some (Sum.inl ())
          else
            Option.bind (
              if (x2.Op == 18) = true then
                some (x2.Op == 18)
              else
                some (x2.Op == 19)) fun v70 =>
            if v70 = true then
              (spec_l01In x2.Num 0 (IntKind.wrap .i64 ((c1.Words.length : Int) - 1))).bind fun r73 =>
              if (!r73) = true then
                some (Sum.inr false)
              else
                some (Sum.inl ())
            else
              if (x2.Num != 0) = true then
                some (Sum.inr false)
              else
                some (Sum.inl ())) fun j58 =>
        match j58 with
        | Sum.inr z => some z
        | Sum.inl () =>
          if (x2.Op != 13) = true then
            Option.bind (
              if (sEq x2.Name (⟨#[]⟩ : ByteArray)) = true then
                some ((x2.Args.length : Int) == 0)
              else
                some false) fun v85 =>
            some v85
          else
            Option.bind (
              loopP (spec_WordOk_l1 c1 x2) 0) fun j88 =>
            match j88 with
            | Sum.inr z => some z
            | Sum.inl () =>
              Option.bind (
                (spec_NameOk x2.Name).bind fun r105 =>
                if r105 = true then
                  some (decide ((x2.Args.length : Int) ≤ 3))
                else
                  some false) fun v109 =>
              some v109
def spec_CodeOk_l1 (c1 : GCode) : Int → Option ((Int) ⊕ ((Unit) ⊕ (Bool))) := fun i25 =>
  if (decide (i25 < (c1.Locals.length : Int))) = true then
    (getI c1.Locals i25).bind fun e31 =>
    (spec_l01In e31 1 4).bind fun r32 =>
    if (!r32) = true then
      some (Sum.inr (Sum.inr false))
    else
      some (Sum.inl (IntKind.wrap .i64 (i25 + 1)))
  else
    some (Sum.inr (Sum.inl ()))
def spec_CodeOk_l2 (c1 : GCode) : Int → Option ((Int) ⊕ ((Unit) ⊕ (Bool))) := fun i41 =>
  if (decide (i41 < (c1.Words.length : Int))) = true then
    (getI c1.Words i41).bind fun e48 =>
    (spec_WordOk c1 e48).bind fun r49 =>
    if (!r49) = true then
      some (Sum.inr (Sum.inr false))
    else
      some (Sum.inl (IntKind.wrap .i64 (i41 + 1)))
  else
    some (Sum.inr (Sum.inl ()))
def spec_CodeOk (c1 : GCode) : Option (Bool) :=
  Option.bind (
    (spec_NameOk c1.Name).bind fun r4 =>
    if (!r4) = true then
      some true
    else
      if (decide ((c1.Locals.length : Int) > 200)) = true then
        some true
      else
        (spec_l01In c1.Params 0 (c1.Locals.length : Int)).bind fun r10 =>
        if (!r10) = true then
          some true
        else
          (spec_l01In (c1.Words.length : Int) 1 400).bind fun r14 =>
          if (!r14) = true then
            some true
          else
            (getI c1.Words (IntKind.wrap .i64 ((c1.Words.length : Int) - 1))).bind fun e18 =>
            some (e18.Op != 20)) fun v19 =>
  if v19 = true then
    some false
  else
    Option.bind (
      loopP (spec_CodeOk_l1 c1) 0) fun j24 =>
    match j24 with
    | Sum.inr z => some z
    | Sum.inl () =>
      Option.bind (
        loopP (spec_CodeOk_l2 c1) 0) fun j40 =>
      match j40 with
      | Sum.inr z => some z
      | Sum.inl () =>
        some true
def spec_l11Add_l1 (list1 : List Int) (n2 : Int) : Int → Option ((Int) ⊕ ((Unit) ⊕ (List Int))) := fun i6 =>
  if (decide (i6 < (list1.length : Int))) = true then
    (getI list1 i6).bind fun e12 =>
    if (e12 == n2) = true then
      some (Sum.inr (Sum.inr list1))
    else
      some (Sum.inl (IntKind.wrap .i64 (i6 + 1)))
  else
    some (Sum.inr (Sum.inl ()))
def spec_l11Add (list1 : List Int) (n2 : Int) : Option (List Int) :=
  Option.bind (
    loopP (spec_l11Add_l1 list1 n2) 0) fun j5 =>
  match j5 with
  | Sum.inr z => some z
  | Sum.inl () =>
    (appI 8 list1 [n2]).bind fun l17 =>
    some l17
def spec_Next_l1 (c1 : GCode) (list17 : List Int) : ((List Int) × Int) → Option (((List Int) × Int) ⊕ (List Int)) := fun ⟨out21, k22⟩ =>
  if (decide (k22 < (list17.length : Int))) = true then
    (getI list17 k22).bind fun e29 =>
    (spec_l01In e29 0 (IntKind.wrap .i64 ((c1.Words.length : Int) - 1))).bind fun r30 =>
    if r30 = true then
      (getI list17 k22).bind fun e34 =>
      (spec_l11Add out21 e34).bind fun r35 =>
      some (Sum.inl (r35, IntKind.wrap .i64 (k22 + 1)))
    else
      some (Sum.inl (out21, IntKind.wrap .i64 (k22 + 1)))
  else
    some (Sum.inr out21)
def spec_Next (c1 : GCode) (i2 : Int) : Option (List Int) :=
  (spec_l01In i2 0 (IntKind.wrap .i64 ((c1.Words.length : Int) - 1))).bind fun r3 =>
  if (!r3) = true then
    some []
  else
    (getI c1.Words i2).bind fun e7 =>
    Option.bind (
      if (e7.Op == 20) = true then
        some []
      else
        if (e7.Op == 18) = true then
          some [e7.Num]
        else
          if (e7.Op == 19) = true then
            some [IntKind.wrap .i64 (i2 + 1), e7.Num]
          else
            some [IntKind.wrap .i64 (i2 + 1)]) fun list17 =>
    Option.bind (
      loopP (spec_Next_l1 c1 list17) ([], 0)) fun out38 =>
    some out38
def spec_ReachedWords_l2 (r25 : List Int) : ((List Bool) × (List Int) × Int) → Option (((List Bool) × (List Int) × Int) ⊕ ((List Bool) × (List Int))) := fun ⟨has27, list28, k29⟩ =>
  if (decide (k29 < (r25.length : Int))) = true then
    (getI r25 k29).bind fun e35 =>
    (getI has27 e35).bind fun e36 =>
    if (!e36) = true then
      (getI r25 k29).bind fun e39 =>
      (getI has27 e39).bind fun e40 =>
      bindS (List.set has27 e39.toNat true) fun l41 =>
      (getI r25 k29).bind fun e42 =>
      (appI 8 list28 [e42]).bind fun l43 =>
      some (Sum.inl (l41, l43, IntKind.wrap .i64 (k29 + 1)))
    else
      some (Sum.inl (has27, list28, IntKind.wrap .i64 (k29 + 1)))
  else
    some (Sum.inr (has27, list28))
def spec_ReachedWords_l1 (c1 : GCode) : ((List Bool) × (List Int) × Int) → Option (((List Bool) × (List Int) × Int) ⊕ (List Bool)) := fun ⟨has12, list13, i14⟩ =>
  if (decide (i14 < (list13.length : Int))) = true then
    Option.bind (
      (getI list13 i14).bind fun e24 =>
      (spec_Next c1 e24).bind fun r25 =>
      loopP (spec_ReachedWords_l2 r25) (has12, list13, 0)) fun ⟨has45, list46⟩ =>
    some (Sum.inl (has45, list46, IntKind.wrap .i64 (i14 + 1)))
  else
    some (Sum.inr has12)
def spec_ReachedWords (c1 : GCode) : Option (List Bool) :=
  (spec_CodeOk c1).bind fun r2 =>
  if (!r2) = true then
    some []
  else
    (mkI 1 (c1.Words.length : Int) false).bind fun l6 =>
    (getI l6 0).bind fun e7 =>
    bindS (List.set l6 0 true) fun l8 =>
    Option.bind (
      loopP (spec_ReachedWords_l1 c1) (l8, [0], 0)) fun has48 =>
    some has48
def laws_toIntS_l1 (a1 : List Int) : ((List Int) × Int) → Option (((List Int) × Int) ⊕ (List Int)) := fun ⟨out6, i7⟩ =>
  if (decide (i7 < (a1.length : Int))) = true then
    (getI a1 i7).bind fun e13 =>
    (getI out6 i7).bind fun e14 =>
    bindS (List.set out6 i7.toNat e13) fun l15 =>
    some (Sum.inl (l15, IntKind.wrap .i64 (i7 + 1)))
  else
    some (Sum.inr out6)
def laws_toIntS (a1 : List Int) : Option (List Int) :=
  (mkI 8 (a1.length : Int) 0).bind fun l2 =>
  Option.bind (
    loopP (laws_toIntS_l1 a1) (l2, 0)) fun out17 =>
  some out17
def laws_toIns (a1 : GIns) : Option (GIns) :=
  (laws_toIntS a1.Args).bind fun r2 =>
  some (⟨a1.Op, a1.A, a1.B, a1.C, a1.Num, a1.Name, r2⟩ : GIns)
def laws_toInsS_l1 (a1 : List GIns) : ((List GIns) × Int) → Option (((List GIns) × Int) ⊕ (List GIns)) := fun ⟨out6, i7⟩ =>
  if (decide (i7 < (a1.length : Int))) = true then
    (getI a1 i7).bind fun e13 =>
    (laws_toIns e13).bind fun r14 =>
    (getI out6 i7).bind fun e16 =>
    bindS (List.set out6 i7.toNat r14) fun l17 =>
    some (Sum.inl (l17, IntKind.wrap .i64 (i7 + 1)))
  else
    some (Sum.inr out6)
def laws_toInsS (a1 : List GIns) : Option (List GIns) :=
  (mkI 80 (a1.length : Int) (⟨0, 0, 0, 0, 0, ByteArray.empty, []⟩ : GIns)).bind fun l2 =>
  Option.bind (
    loopP (laws_toInsS_l1 a1) (l2, 0)) fun out19 =>
  some out19
def laws_toCode (a1 : GCode) : Option (GCode) :=
  (laws_toIntS a1.Locals).bind fun r2 =>
  (laws_toInsS a1.Words).bind fun r4 =>
  some (⟨a1.Name, a1.Params, r2, r4⟩ : GCode)
def impl_in (n1 : Int) (low2 : Int) (high3 : Int) : Option (Bool) :=
  Option.bind (
    if (decide (n1 ≥ low2)) = true then
      some (decide (n1 ≤ high3))
    else
      some false) fun v8 =>
  some v8
def impl_isLetter (b1 : Int) : Option (Bool) :=
  Option.bind (
    if (decide (b1 ≥ 97)) = true then
      some (decide (b1 ≤ 122))
    else
      some false) fun v6 =>
  some v6
def impl_isFigure (b1 : Int) : Option (Bool) :=
  Option.bind (
    if (decide (b1 ≥ 48)) = true then
      some (decide (b1 ≤ 57))
    else
      some false) fun v6 =>
  some v6
def impl_oneOf_l1 (s1 : ByteArray) (r6 : List ByteArray) : Int → Option ((Int) ⊕ ((Unit) ⊕ (Bool))) := fun v8 =>
  if (decide (v8 < (r6.length : Int))) = true then
    (getI r6 v8).bind fun e14 =>
    if (sEq e14 s1) = true then
      some (Sum.inr (Sum.inr true))
    else
      some (Sum.inl (IntKind.wrap .i64 (v8 + 1)))
  else
    some (Sum.inr (Sum.inl ()))
def impl_oneOf (s1 : ByteArray) (words2 : ByteArray) : Option (Bool) :=
  Option.bind (
    (strings_Split words2 (⟨#[32]⟩ : ByteArray)).bind fun r6 =>
    loopP (impl_oneOf_l1 s1 r6) 0) fun j5 =>
  match j5 with
  | Sum.inr z => some z
  | Sum.inl () =>
    some false
def impl_KeyWord (s1 : ByteArray) : Option (Bool) :=
  (impl_oneOf s1 (⟨#[102, 110, 32, 108, 101, 116, 32, 105, 102, 32, 101, 108, 115, 101, 32, 119, 104, 105, 108, 101, 32, 112, 114, 105, 110, 116, 32, 100, 111, 32, 110, 101, 119, 32, 99, 108, 111, 110, 101, 32, 109, 117, 116, 32, 105, 110, 112, 117, 116, 32, 105, 110, 116, 32, 98, 111, 120, 32, 114, 101, 116]⟩ : ByteArray)).bind fun r2 =>
  some r2
def impl_NameOk_l1 (s1 : ByteArray) : Int → Option ((Int) ⊕ ((Unit) ⊕ (Bool))) := fun i17 =>
  if (decide (i17 < (s1.size : Int))) = true then
    Option.bind (
      (sAt s1 i17).bind fun c25 =>
      (impl_isLetter c25).bind fun r26 =>
      if (!r26) = true then
        (impl_isFigure c25).bind fun r30 =>
        some (!r30)
      else
        some false) fun v32 =>
    if v32 = true then
      some (Sum.inr (Sum.inr false))
    else
      some (Sum.inl (IntKind.wrap .i64 (i17 + 1)))
  else
    some (Sum.inr (Sum.inl ()))
def impl_NameOk (s1 : ByteArray) : Option (Bool) :=
  Option.bind (
    (impl_in (s1.size : Int) 1 8).bind fun r4 =>
    if (!r4) = true then
      some true
    else
      (sAt s1 0).bind fun c8 =>
      (impl_isLetter c8).bind fun r9 =>
      some (!r9)) fun v11 =>
  if v11 = true then
    some false
  else
    Option.bind (
      loopP (impl_NameOk_l1 s1) 0) fun j16 =>
    match j16 with
    | Sum.inr z => some z
    | Sum.inl () =>
      (impl_KeyWord s1).bind fun r37 =>
      some (!r37)
def impl_isPlace (c1 : GCode) (n2 : Int) (has3 : Bool) : Option (Bool) :=
  if has3 = true then
    (impl_in n2 0 (IntKind.wrap .i64 ((c1.Locals.length : Int) - 1))).bind fun r6 =>
    some r6
  else
    some (n2 == 0)
def impl_hasA (op1 : Int) : Option (Bool) :=
  Option.bind (
    (impl_in op1 1 17).bind fun r4 =>
    if r4 = true then
      some true
    else
      if (op1 == 19) = true then
        some true
      else
        some (op1 == 20)) fun v10 =>
  some v10
def impl_hasB (op1 : Int) : Option (Bool) :=
  Option.bind (
    (impl_in op1 2 7).bind fun r4 =>
    if r4 = true then
      some true
    else
      (impl_in op1 9 12).bind fun r8 =>
      if r8 = true then
        some true
      else
        if (op1 == 14) = true then
          some true
        else
          some (op1 == 15)) fun v14 =>
  some v14
def impl_hasC (op1 : Int) : Option (Bool) :=
  (impl_in op1 10 12).bind fun r2 =>
  some r2
def impl_WordOk_l1 (c1 : GCode) (x2 : GIns) : Int → Option ((Int) ⊕ ((Unit) ⊕ (Bool))) := fun v75 =>
  if (decide (v75 < (x2.Args.length : Int))) = true then
    (getI x2.Args v75).bind fun e81 =>
    (impl_isPlace c1 e81 true).bind fun r82 =>
    if (!r82) = true then
      some (Sum.inr (Sum.inr false))
    else
      some (Sum.inl (IntKind.wrap .i64 (v75 + 1)))
  else
    some (Sum.inr (Sum.inl ()))
def impl_WordOk (c1 : GCode) (x2 : GIns) : Option (Bool) :=
  (impl_in x2.Op 1 20).bind fun r3 =>
  if (!r3) = true then
    some false
  else
    Option.bind (
      if (x2.Op == 13) = true then
        some (x2.A == (-1))
      else
        if (x2.Op == 20) = true then
          some (x2.A == (-1))
        else
          some false) fun none13 =>
    Option.bind (
      if (!none13) = true then
        (impl_hasA x2.Op).bind fun r18 =>
        (impl_isPlace c1 x2.A r18).bind fun r20 =>
        if (!r20) = true then
          some true
        else
          (impl_hasB x2.Op).bind fun r24 =>
          (impl_isPlace c1 x2.B r24).bind fun r26 =>
          if (!r26) = true then
            some true
          else
            (impl_hasC x2.Op).bind fun r30 =>
            (impl_isPlace c1 x2.C r30).bind fun r32 =>
            some (!r32)
      else
        (impl_hasB x2.Op).bind fun r34 =>
        (impl_isPlace c1 x2.B r34).bind fun r36 =>
        if (!r36) = true then
          some true
        else
          (impl_hasC x2.Op).bind fun r40 =>
          (impl_isPlace c1 x2.C r40).bind fun r42 =>
          some (!r42)) fun v44 =>
    if v44 = true then
      some false
    else
      Option.bind (
        if (x2.Op == 1) = true then
          some 1000000000
        else
          Option.bind (
            if (x2.Op == 18) = true then
              some (x2.Op == 18)
            else
              some (x2.Op == 19)) fun v57 =>
          if v57 = true then
            some (IntKind.wrap .i64 ((c1.Words.length : Int) - 1))
          else
            some 0) fun high60 =>
      (impl_in x2.Num 0 high60).bind fun r61 =>
      if (!r61) = true then
        some false
      else
        if (x2.Op != 13) = true then
          Option.bind (
            if (sEq x2.Name (⟨#[]⟩ : ByteArray)) = true then
              some ((x2.Args.length : Int) == 0)
            else
              some false) fun v71 =>
          some v71
        else
          Option.bind (
            loopP (impl_WordOk_l1 c1 x2) 0) fun j74 =>
          match j74 with
          | Sum.inr z => some z
          | Sum.inl () =>
            Option.bind (
              (impl_NameOk x2.Name).bind fun r90 =>
              if r90 = true then
                some (decide ((x2.Args.length : Int) ≤ 3))
              else
                some false) fun v94 =>
            some v94
def impl_CodeOk_l1 (c1 : GCode) : Int → Option ((Int) ⊕ ((Unit) ⊕ (Bool))) := fun v25 =>
  if (decide (v25 < (c1.Locals.length : Int))) = true then
    (getI c1.Locals v25).bind fun e31 =>
    (impl_in e31 1 4).bind fun r32 =>
    if (!r32) = true then
      some (Sum.inr (Sum.inr false))
    else
      some (Sum.inl (IntKind.wrap .i64 (v25 + 1)))
  else
    some (Sum.inr (Sum.inl ()))
def impl_CodeOk_l2 (c1 : GCode) : Int → Option ((Int) ⊕ ((Unit) ⊕ (Bool))) := fun v41 =>
  if (decide (v41 < (c1.Words.length : Int))) = true then
    (getI c1.Words v41).bind fun e47 =>
    (impl_WordOk c1 e47).bind fun r48 =>
    if (!r48) = true then
      some (Sum.inr (Sum.inr false))
    else
      some (Sum.inl (IntKind.wrap .i64 (v41 + 1)))
  else
    some (Sum.inr (Sum.inl ()))
def impl_CodeOk (c1 : GCode) : Option (Bool) :=
  Option.bind (
    (impl_NameOk c1.Name).bind fun r4 =>
    if (!r4) = true then
      some true
    else
      if (decide ((c1.Locals.length : Int) > 200)) = true then
        some true
      else
        (impl_in c1.Params 0 (c1.Locals.length : Int)).bind fun r10 =>
        if (!r10) = true then
          some true
        else
          (impl_in (c1.Words.length : Int) 1 400).bind fun r14 =>
          if (!r14) = true then
            some true
          else
            (getI c1.Words (IntKind.wrap .i64 ((c1.Words.length : Int) - 1))).bind fun e18 =>
            some (e18.Op != 20)) fun v19 =>
  if v19 = true then
    some false
  else
    Option.bind (
      loopP (impl_CodeOk_l1 c1) 0) fun j24 =>
    match j24 with
    | Sum.inr z => some z
    | Sum.inl () =>
      Option.bind (
        loopP (impl_CodeOk_l2 c1) 0) fun j40 =>
      match j40 with
      | Sum.inr z => some z
      | Sum.inl () =>
        some true
def impl_Next_l1 (c1 : GCode) (l18 : List Int) : ((List Int) × Int) → Option (((List Int) × Int) ⊕ (List Int)) := fun ⟨out22, v23⟩ =>
  if (decide (v23 < (l18.length : Int))) = true then
    (getI l18 v23).bind fun e29 =>
    (impl_in e29 0 (IntKind.wrap .i64 ((c1.Words.length : Int) - 1))).bind fun r30 =>
    if r30 = true then
      (appI 8 out22 [e29]).bind fun l34 =>
      some (Sum.inl (l34, IntKind.wrap .i64 (v23 + 1)))
    else
      some (Sum.inl (out22, IntKind.wrap .i64 (v23 + 1)))
  else
    some (Sum.inr out22)
def impl_Next (c1 : GCode) (i2 : Int) : Option (List Int) :=
  (impl_in i2 0 (IntKind.wrap .i64 ((c1.Words.length : Int) - 1))).bind fun r3 =>
  if (!r3) = true then
    some []
  else
    (getI c1.Words i2).bind fun e7 =>
    Option.bind (
      if (e7.Op == 20) = true then
        some []
      else
        if (e7.Op == 18) = true then
          some [e7.Num]
        else
          if (e7.Op == 19) = true then
            (appI 8 [IntKind.wrap .i64 (i2 + 1)] [e7.Num]).bind fun l17 =>
            some l17
          else
            some [IntKind.wrap .i64 (i2 + 1)]) fun l18 =>
    Option.bind (
      loopP (impl_Next_l1 c1 l18) ([], 0)) fun out36 =>
    some out36
def impl_ReachedWords_l2 (r21 : List Int) : ((List Bool) × (List Int) × Int) → Option (((List Bool) × (List Int) × Int) ⊕ (((List Bool) × (List Int)) ⊕ (List Bool))) := fun ⟨out23, todo24, v25⟩ =>
  if (decide (v25 < (r21.length : Int))) = true then
    (getI r21 v25).bind fun e31 =>
    (getI out23 e31).bind fun e32 =>
    if (!e32) = true then
      (getI out23 e31).bind fun e35 =>
      bindS (List.set out23 e31.toNat true) fun l36 =>
      (appI 8 todo24 [e31]).bind fun l37 =>
      some (Sum.inl (l36, l37, IntKind.wrap .i64 (v25 + 1)))
    else
      some (Sum.inl (out23, todo24, IntKind.wrap .i64 (v25 + 1)))
  else
    some (Sum.inr (Sum.inl (out23, todo24)))
def impl_ReachedWords_l1 (c1 : GCode) : ((List Bool) × (List Int)) → Option (((List Bool) × (List Int)) ⊕ (List Bool)) := fun ⟨out12, todo13⟩ =>
  if (decide ((todo13.length : Int) > 0)) = true then
    (getI todo13 0).bind fun e19 =>
    (subI todo13 1 (todo13.length : Int)).bind fun l20 =>
    (impl_Next c1 e19).bind fun r21 =>
    loopP (impl_ReachedWords_l2 r21) (out12, l20, 0)
  else
    some (Sum.inr out12)
def impl_ReachedWords (c1 : GCode) : Option (List Bool) :=
  (impl_CodeOk c1).bind fun r2 =>
  if (!r2) = true then
    some []
  else
    (mkI 1 (c1.Words.length : Int) false).bind fun l6 =>
    (getI l6 0).bind fun e7 =>
    bindS (List.set l6 0 true) fun l8 =>
    Option.bind (
      loopP (impl_ReachedWords_l1 c1) (l8, [0])) fun out40 =>
    some out40
def laws_eqBoolS_l1 (a1 : List Bool) (b2 : List Bool) : Int → Option ((Int) ⊕ ((Unit) ⊕ (Bool))) := fun i8 =>
  if (decide (i8 < (a1.length : Int))) = true then
    (getI a1 i8).bind fun e15 =>
    (getI b2 i8).bind fun e16 =>
    if (!(e15 == e16)) = true then
      some (Sum.inr (Sum.inr false))
    else
      some (Sum.inl (IntKind.wrap .i64 (i8 + 1)))
  else
    some (Sum.inr (Sum.inl ()))
def laws_eqBoolS (a1 : List Bool) (b2 : List Bool) : Option (Bool) :=
  if ((a1.length : Int) != (b2.length : Int)) = true then
    some false
  else
    Option.bind (
      loopP (laws_eqBoolS_l1 a1 b2) 0) fun j7 =>
    match j7 with
    | Sum.inr z => some z
    | Sum.inl () =>
      some true
def laws_eqIntS_l1 (a1 : List Int) (b2 : List Int) : Int → Option ((Int) ⊕ ((Unit) ⊕ (Bool))) := fun i8 =>
  if (decide (i8 < (a1.length : Int))) = true then
    (getI a1 i8).bind fun e15 =>
    (getI b2 i8).bind fun e16 =>
    if (e15 != e16) = true then
      some (Sum.inr (Sum.inr false))
    else
      some (Sum.inl (IntKind.wrap .i64 (i8 + 1)))
  else
    some (Sum.inr (Sum.inl ()))
def laws_eqIntS (a1 : List Int) (b2 : List Int) : Option (Bool) :=
  if ((a1.length : Int) != (b2.length : Int)) = true then
    some false
  else
    Option.bind (
      loopP (laws_eqIntS_l1 a1 b2) 0) fun j7 =>
    match j7 with
    | Sum.inr z => some z
    | Sum.inl () =>
      some true
def laws_eqIns (a1 : GIns) (b2 : GIns) : Option (Bool) :=
  if (a1.Op != b2.Op) = true then
    some false
  else
    if (a1.A != b2.A) = true then
      some false
    else
      if (a1.B != b2.B) = true then
        some false
      else
        if (a1.C != b2.C) = true then
          some false
        else
          if (a1.Num != b2.Num) = true then
            some false
          else
            if (!(sEq a1.Name b2.Name)) = true then
              some false
            else
              (laws_eqIntS a1.Args b2.Args).bind fun r15 =>
              if (!r15) = true then
                some false
              else
                some true
def laws_eqInsS_l1 (a1 : List GIns) (b2 : List GIns) : Int → Option ((Int) ⊕ ((Unit) ⊕ (Bool))) := fun i8 =>
  if (decide (i8 < (a1.length : Int))) = true then
    (getI a1 i8).bind fun e15 =>
    (getI b2 i8).bind fun e16 =>
    (laws_eqIns e15 e16).bind fun r17 =>
    if (!r17) = true then
      some (Sum.inr (Sum.inr false))
    else
      some (Sum.inl (IntKind.wrap .i64 (i8 + 1)))
  else
    some (Sum.inr (Sum.inl ()))
def laws_eqInsS (a1 : List GIns) (b2 : List GIns) : Option (Bool) :=
  if ((a1.length : Int) != (b2.length : Int)) = true then
    some false
  else
    Option.bind (
      loopP (laws_eqInsS_l1 a1 b2) 0) fun j7 =>
    match j7 with
    | Sum.inr z => some z
    | Sum.inl () =>
      some true
def laws_eqCode (a1 : GCode) (b2 : GCode) : Option (Bool) :=
  if (!(sEq a1.Name b2.Name)) = true then
    some false
  else
    if (a1.Params != b2.Params) = true then
      some false
    else
      (laws_eqIntS a1.Locals b2.Locals).bind fun r7 =>
      if (!r7) = true then
        some false
      else
        (laws_eqInsS a1.Words b2.Words).bind fun r11 =>
        if (!r11) = true then
          some false
        else
          some true
def laws_markIntS_l1 : ((List Int) × Int × Int) → Option (((List Int) × Int × Int) ⊕ ((List Int) × Int)) := fun ⟨a6, k7, i8⟩ =>
  if (decide (i8 < (a6.length : Int))) = true then
    (getI a6 i8).bind fun e14 =>
    bindS (List.set a6 i8.toNat k7) fun l15 =>
    some (Sum.inl (l15, IntKind.wrap .i64 (k7 + 1), IntKind.wrap .i64 (i8 + 1)))
  else
    some (Sum.inr (a6, k7))
def laws_markIntS (a1 : List Int) (k2 : Int) : Option (Int × (List Int)) :=
  Option.bind (
    loopP (laws_markIntS_l1) (a1, k2, 0)) fun ⟨a17, k18⟩ =>
  some (k18, a17)
def laws_markText_l1 : (Int × ByteArray) → Option ((Int × ByteArray) ⊕ (ByteArray)) := fun ⟨k7, out8⟩ =>
  if (decide (k7 > 0)) = true then
    (sCat (bytesOf [IntKind.wrap .u8 (IntKind.wrap .i64 (48 + (Int.tmod k7 10)))]) out8).bind fun t14 =>
    some (Sum.inl (IntKind.wrap .i64 (Int.tdiv k7 10), t14))
  else
    some (Sum.inr out8)
def laws_markText (k1 : Int) : Option (ByteArray) :=
  if (decide (k1 ≤ 0)) = true then
    some (⟨#[109, 48]⟩ : ByteArray)
  else
    Option.bind (
      loopP (laws_markText_l1) (k1, (⟨#[]⟩ : ByteArray))) fun out16 =>
    (sCat (⟨#[109]⟩ : ByteArray) out16).bind fun t17 =>
    some t17
def laws_markInsS_l1 : ((List GIns) × Int × Int) → Option (((List GIns) × Int × Int) ⊕ ((List GIns) × Int)) := fun ⟨a6, k7, i8⟩ =>
  if (decide (i8 < (a6.length : Int))) = true then
    (getI a6 i8).bind fun e14 =>
    bindS (List.set a6 i8.toNat (⟨k7, e14.A, e14.B, e14.C, e14.Num, e14.Name, e14.Args⟩ : GIns)) fun l15 =>
    (getI l15 i8).bind fun e16 =>
    bindS (List.set l15 i8.toNat (⟨e16.Op, IntKind.wrap .i64 (k7 + 1), e16.B, e16.C, e16.Num, e16.Name, e16.Args⟩ : GIns)) fun l17 =>
    (getI l17 i8).bind fun e18 =>
    bindS (List.set l17 i8.toNat (⟨e18.Op, e18.A, IntKind.wrap .i64 ((IntKind.wrap .i64 (k7 + 1)) + 1), e18.C, e18.Num, e18.Name, e18.Args⟩ : GIns)) fun l19 =>
    (getI l19 i8).bind fun e20 =>
    bindS (List.set l19 i8.toNat (⟨e20.Op, e20.A, e20.B, IntKind.wrap .i64 ((IntKind.wrap .i64 ((IntKind.wrap .i64 (k7 + 1)) + 1)) + 1), e20.Num, e20.Name, e20.Args⟩ : GIns)) fun l21 =>
    (getI l21 i8).bind fun e22 =>
    bindS (List.set l21 i8.toNat (⟨e22.Op, e22.A, e22.B, e22.C, IntKind.wrap .i64 ((IntKind.wrap .i64 ((IntKind.wrap .i64 ((IntKind.wrap .i64 (k7 + 1)) + 1)) + 1)) + 1), e22.Name, e22.Args⟩ : GIns)) fun l23 =>
    (laws_markText (IntKind.wrap .i64 ((IntKind.wrap .i64 ((IntKind.wrap .i64 ((IntKind.wrap .i64 ((IntKind.wrap .i64 (k7 + 1)) + 1)) + 1)) + 1)) + 1))).bind fun r24 =>
    (getI l23 i8).bind fun e26 =>
    bindS (List.set l23 i8.toNat (⟨e26.Op, e26.A, e26.B, e26.C, e26.Num, r24, e26.Args⟩ : GIns)) fun l27 =>
    (getI l27 i8).bind fun e28 =>
    (laws_markIntS e28.Args (IntKind.wrap .i64 ((IntKind.wrap .i64 ((IntKind.wrap .i64 ((IntKind.wrap .i64 ((IntKind.wrap .i64 ((IntKind.wrap .i64 (k7 + 1)) + 1)) + 1)) + 1)) + 1)) + 1))).bind fun ⟨r29, q30⟩ =>
    bindS (List.set l27 i8.toNat (⟨e28.Op, e28.A, e28.B, e28.C, e28.Num, e28.Name, q30⟩ : GIns)) fun l32 =>
    some (Sum.inl (l32, r29, IntKind.wrap .i64 (i8 + 1)))
  else
    some (Sum.inr (a6, k7))
def laws_markInsS (a1 : List GIns) (k2 : Int) : Option (Int × (List GIns)) :=
  Option.bind (
    loopP (laws_markInsS_l1) (a1, k2, 0)) fun ⟨a34, k35⟩ =>
  some (k35, a34)
def laws_markCode (a1 : GCode) (k2 : Int) : Option (Int × GCode) :=
  (laws_markIntS a1.Locals k2).bind fun ⟨r3, q4⟩ =>
  (laws_markInsS a1.Words r3).bind fun ⟨r6, q7⟩ =>
  some (r6, (⟨a1.Name, a1.Params, q4, q7⟩ : GCode))
def laws_markBoolS_l1 : ((List Bool) × Int × Int) → Option (((List Bool) × Int × Int) ⊕ ((List Bool) × Int)) := fun ⟨a6, k7, i8⟩ =>
  if (decide (i8 < (a6.length : Int))) = true then
    (getI a6 i8).bind fun e14 =>
    bindS (List.set a6 i8.toNat ((Int.tmod k7 3) == 0)) fun l15 =>
    some (Sum.inl (l15, IntKind.wrap .i64 (k7 + 1), IntKind.wrap .i64 (i8 + 1)))
  else
    some (Sum.inr (a6, k7))
def laws_markBoolS (a1 : List Bool) (k2 : Int) : Option (Int × (List Bool)) :=
  Option.bind (
    loopP (laws_markBoolS_l1) (a1, k2, 0)) fun ⟨a17, k18⟩ =>
  some (k18, a17)
def laws_heldBoolS_l1 (a1 : List Bool) : (Int × Int) → Option ((Int × Int) ⊕ ((Int) ⊕ (Int))) := fun ⟨k6, i7⟩ =>
  if (decide (i7 < (a1.length : Int))) = true then
    (getI a1 i7).bind fun e13 =>
    if (!(e13 == ((Int.tmod k6 3) == 0))) = true then
      some (Sum.inr (Sum.inr (-1)))
    else
      some (Sum.inl (IntKind.wrap .i64 (k6 + 1), IntKind.wrap .i64 (i7 + 1)))
  else
    some (Sum.inr (Sum.inl k6))
def laws_heldBoolS (a1 : List Bool) (k2 : Int) : Option (Int) :=
  Option.bind (
    loopP (laws_heldBoolS_l1 a1) (k2, 0)) fun j5 =>
  match j5 with
  | Sum.inr z => some z
  | Sum.inl k18 =>
    some k18
def laws_FnExactReachedWords (aC1 : GCode) : Option (Bool) :=
  (laws_szCode aC1 1048576).bind fun r2 =>
  if (decide (r2 < 0)) = true then
    some true
  else
    (laws_toCode aC1).bind fun r6 =>
    (spec_ReachedWords r6).bind fun r8 =>
    (laws_toCode aC1).bind fun r10 =>
    (impl_ReachedWords r10).bind fun r12 =>
    (laws_eqBoolS r12 r8).bind fun r14 =>
    if (!r14) = true then
      some false
    else
      (laws_toCode aC1).bind fun r19 =>
      (laws_eqCode r10 r19).bind fun r21 =>
      if (!r21) = true then
        some false
      else
        (laws_markCode r10 1).bind fun ⟨r25, q26⟩ =>
        Option.bind (
          if (decide (r25 < 0)) = true then
            some true
          else
            (laws_eqBoolS r12 r8).bind fun r32 =>
            some (!r32)) fun v34 =>
        if v34 = true then
          some false
        else
          (laws_markBoolS r12 1).bind fun ⟨r37, q38⟩ =>
          (laws_heldBoolS q38 1).bind fun r40 =>
          if (decide (r40 < 0)) = true then
            some false
          else
            if (r40 != r37) = true then
              some false
            else
              (laws_toCode aC1).bind fun r46 =>
              (impl_ReachedWords r46).bind fun r48 =>
              (laws_eqBoolS r48 r8).bind fun r50 =>
              if (!r50) = true then
                some false
              else
                (laws_heldBoolS q38 1).bind fun r54 =>
                if (decide (r54 < 0)) = true then
                  some false
                else
                  if (r54 != r37) = true then
                    some false
                  else
                    some true
def laws_szNode (a1 : GNode) (left2 : Int) : Option (Int) :=
  if (decide (IntKind.wrap .i64 (left2 - (a1.Name.size : Int)) < 0)) = true then
    some (-1)
  else
    (laws_szIntS a1.Kids (IntKind.wrap .i64 (left2 - (a1.Name.size : Int)))).bind fun r5 =>
    if (decide (r5 < 0)) = true then
      some (-1)
    else
      some r5
def laws_szNodeS_l1 (a1 : List GNode) : (Int × Int) → Option ((Int × Int) ⊕ ((Int) ⊕ (Int))) := fun ⟨left8, i9⟩ =>
  if (decide (i9 < (a1.length : Int))) = true then
    (getI a1 i9).bind fun e15 =>
    (laws_szNode e15 left8).bind fun r16 =>
    if (decide (r16 < 0)) = true then
      some (Sum.inr (Sum.inr (-1)))
    else
      some (Sum.inl (r16, IntKind.wrap .i64 (i9 + 1)))
  else
    some (Sum.inr (Sum.inl left8))
def laws_szNodeS (a1 : List GNode) (left2 : Int) : Option (Int) :=
  if (decide (IntKind.wrap .i64 (left2 - (a1.length : Int)) < 0)) = true then
    some (-1)
  else
    Option.bind (
      loopP (laws_szNodeS_l1 a1) (IntKind.wrap .i64 (left2 - (a1.length : Int)), 0)) fun j7 =>
    match j7 with
    | Sum.inr z => some z
    | Sum.inl left22 =>
      some left22
def laws_szParam (a1 : GParam) (left2 : Int) : Option (Int) :=
  if (decide (IntKind.wrap .i64 (left2 - (a1.Name.size : Int)) < 0)) = true then
    some (-1)
  else
    some (IntKind.wrap .i64 (left2 - (a1.Name.size : Int)))
def laws_szParamS_l1 (a1 : List GParam) : (Int × Int) → Option ((Int × Int) ⊕ ((Int) ⊕ (Int))) := fun ⟨left8, i9⟩ =>
  if (decide (i9 < (a1.length : Int))) = true then
    (getI a1 i9).bind fun e15 =>
    (laws_szParam e15 left8).bind fun r16 =>
    if (decide (r16 < 0)) = true then
      some (Sum.inr (Sum.inr (-1)))
    else
      some (Sum.inl (r16, IntKind.wrap .i64 (i9 + 1)))
  else
    some (Sum.inr (Sum.inl left8))
def laws_szParamS (a1 : List GParam) (left2 : Int) : Option (Int) :=
  if (decide (IntKind.wrap .i64 (left2 - (a1.length : Int)) < 0)) = true then
    some (-1)
  else
    Option.bind (
      loopP (laws_szParamS_l1 a1) (IntKind.wrap .i64 (left2 - (a1.length : Int)), 0)) fun j7 =>
    match j7 with
    | Sum.inr z => some z
    | Sum.inl left22 =>
      some left22
def laws_szFn (a1 : GFn) (left2 : Int) : Option (Int) :=
  if (decide (IntKind.wrap .i64 (left2 - (a1.Name.size : Int)) < 0)) = true then
    some (-1)
  else
    (laws_szParamS a1.Params (IntKind.wrap .i64 (left2 - (a1.Name.size : Int)))).bind fun r5 =>
    if (decide (r5 < 0)) = true then
      some (-1)
    else
      some r5
def laws_szFnS_l1 (a1 : List GFn) : (Int × Int) → Option ((Int × Int) ⊕ ((Int) ⊕ (Int))) := fun ⟨left8, i9⟩ =>
  if (decide (i9 < (a1.length : Int))) = true then
    (getI a1 i9).bind fun e15 =>
    (laws_szFn e15 left8).bind fun r16 =>
    if (decide (r16 < 0)) = true then
      some (Sum.inr (Sum.inr (-1)))
    else
      some (Sum.inl (r16, IntKind.wrap .i64 (i9 + 1)))
  else
    some (Sum.inr (Sum.inl left8))
def laws_szFnS (a1 : List GFn) (left2 : Int) : Option (Int) :=
  if (decide (IntKind.wrap .i64 (left2 - (a1.length : Int)) < 0)) = true then
    some (-1)
  else
    Option.bind (
      loopP (laws_szFnS_l1 a1) (IntKind.wrap .i64 (left2 - (a1.length : Int)), 0)) fun j7 =>
    match j7 with
    | Sum.inr z => some z
    | Sum.inl left22 =>
      some left22
def laws_szProgram (a1 : GProgram) (left2 : Int) : Option (Int) :=
  (laws_szNodeS a1.Nodes left2).bind fun r3 =>
  if (decide (r3 < 0)) = true then
    some (-1)
  else
    (laws_szFnS a1.Fns r3).bind fun r7 =>
    if (decide (r7 < 0)) = true then
      some (-1)
    else
      some r7
def spec_l04Kids (kind1 : Int) : Option (Int × Int) :=
  Option.bind (
    if (kind1 == 8) = true then
      some (kind1 == 8)
    else
      if (kind1 == 13) = true then
        some (kind1 == 13)
      else
        if (kind1 == 14) = true then
          some (kind1 == 14)
        else
          if (kind1 == 15) = true then
            some (kind1 == 15)
          else
            if (kind1 == 18) = true then
              some (kind1 == 18)
            else
              some (kind1 == 19)) fun v15 =>
  if v15 = true then
    some (1, 1)
  else
    Option.bind (
      if (kind1 == 9) = true then
        some (kind1 == 9)
      else
        if (kind1 == 10) = true then
          some (kind1 == 10)
        else
          if (kind1 == 11) = true then
            some (kind1 == 11)
          else
            some (kind1 == 17)) fun v27 =>
    if v27 = true then
      some (2, 2)
    else
      if (kind1 == 12) = true then
        some (0, 3)
      else
        if (kind1 == 16) = true then
          some (3, 3)
        else
          if (kind1 == 20) = true then
            some (0, 12)
          else
            some (0, 0)
def spec_l04Named (kind1 : Int) : Option (Bool) :=
  Option.bind (
    if (kind1 == 2) = true then
      some (kind1 == 2)
    else
      if (kind1 == 3) = true then
        some (kind1 == 3)
      else
        if (kind1 == 4) = true then
          some (kind1 == 4)
        else
          if (kind1 == 5) = true then
            some (kind1 == 5)
          else
            if (kind1 == 6) = true then
              some (kind1 == 6)
            else
              if (kind1 == 12) = true then
                some (kind1 == 12)
              else
                if (kind1 == 13) = true then
                  some (kind1 == 13)
                else
                  if (kind1 == 14) = true then
                    some (kind1 == 14)
                  else
                    some (kind1 == 15)) fun v21 =>
  if v21 = true then
    some true
  else
    some false
def spec_l04Statement (kind1 : Int) : Option (Bool) :=
  (spec_l01In kind1 13 19).bind fun r2 =>
  some r2
def spec_l04Value (kind1 : Int) : Option (Bool) :=
  (spec_l01In kind1 1 12).bind fun r2 =>
  some r2
def spec_l04Fits (kind1 : Int) (at2 : Int) (kid3 : Int) : Option (Bool) :=
  if (kind1 == 20) = true then
    (spec_l04Statement kid3).bind fun r6 =>
    some r6
  else
    Option.bind (
      if (kind1 == 16) = true then
        some (kind1 == 16)
      else
        some (kind1 == 17)) fun v13 =>
    if v13 = true then
      if (decide (at2 > 0)) = true then
        some (kid3 == 20)
      else
        (spec_l04Value kid3).bind fun r18 =>
        some r18
    else
      if (kind1 == 19) = true then
        some (kid3 == 12)
      else
        (spec_l04Value kid3).bind fun r22 =>
        some r22
def spec_NodeOk_l2 (e15 : GNode) (i50 : Int) : Int → Option ((Int) ⊕ ((Unit) ⊕ ((Int) ⊕ ((Unit) ⊕ (Bool))))) := fun j73 =>
  if (decide (j73 < i50)) = true then
    (getI e15.Kids i50).bind fun e80 =>
    (getI e15.Kids j73).bind fun e81 =>
    if (e80 == e81) = true then
      some (Sum.inr (Sum.inr (Sum.inr (Sum.inr false))))
    else
      some (Sum.inl (IntKind.wrap .i64 (j73 + 1)))
  else
    some (Sum.inr (Sum.inl ()))
def spec_NodeOk_l1 (nodes1 : List GNode) (k2 : Int) (e15 : GNode) : Int → Option ((Int) ⊕ ((Unit) ⊕ (Bool))) := fun i50 =>
  if (decide (i50 < (e15.Kids.length : Int))) = true then
    Option.bind (
      Option.bind (
        (getI e15.Kids i50).bind fun e61 =>
        (spec_l01In e61 0 (IntKind.wrap .i64 (k2 - 1))).bind fun r62 =>
        if (!r62) = true then
          some true
        else
          (getI nodes1 e61).bind fun e66 =>
          (spec_l04Fits e15.Kind i50 e66.Kind).bind fun r67 =>
          some (!r67)) fun v69 =>
      if v69 = true then
        some (Sum.inr (Sum.inr (Sum.inr false)))
      else
        loopP (spec_NodeOk_l2 e15 i50) 0) fun j58 =>
    match j58 with
    | Sum.inr z => some z
    | Sum.inl () =>
      some (Sum.inl (IntKind.wrap .i64 (i50 + 1)))
  else
    some (Sum.inr (Sum.inl ()))
def spec_NodeOk (nodes1 : List GNode) (k2 : Int) : Option (Bool) :=
  Option.bind (
    (spec_l01In k2 0 (IntKind.wrap .i64 ((nodes1.length : Int) - 1))).bind fun r5 =>
    if (!r5) = true then
      some true
    else
      (getI nodes1 k2).bind fun e9 =>
      (spec_l01In e9.Kind 1 20).bind fun r10 =>
      some (!r10)) fun v12 =>
  if v12 = true then
    some false
  else
    (getI nodes1 k2).bind fun e15 =>
    (spec_l04Kids e15.Kind).bind fun ⟨r16, r17⟩ =>
    Option.bind (
      (spec_l01In (e15.Kids.length : Int) r16 r17).bind fun r21 =>
      if (!r21) = true then
        some true
      else
        (spec_l01In e15.Num 0 1000000000).bind fun r25 =>
        if (!r25) = true then
          some true
        else
          if (e15.Kind != 1) = true then
            some (e15.Num != 0)
          else
            some false) fun v31 =>
    if v31 = true then
      some false
    else
      Option.bind (
        (spec_l04Named e15.Kind).bind fun r36 =>
        if (!(r36 == (!(sEq e15.Name (⟨#[]⟩ : ByteArray))))) = true then
          some true
        else
          if (!(sEq e15.Name (⟨#[]⟩ : ByteArray))) = true then
            (spec_NameOk e15.Name).bind fun r42 =>
            some (!r42)
          else
            some false) fun v44 =>
      if v44 = true then
        some false
      else
        Option.bind (
          loopP (spec_NodeOk_l1 nodes1 k2 e15) 0) fun j49 =>
        match j49 with
        | Sum.inr z => some z
        | Sum.inl () =>
          some true
def spec_l04Deeps_l2 (nodes1 : List GNode) (out6 : List Int) (i7 : Int) : (Int × Int) → Option ((Int × Int) ⊕ (Int)) := fun ⟨deep40, j41⟩ =>
  Option.bind (
    if (decide (deep40 > 0)) = true then
      (getI nodes1 i7).bind fun e49 =>
      some (decide (j41 < (e49.Kids.length : Int)))
    else
      some false) fun v50 =>
  if v50 = true then
    (getI nodes1 i7).bind fun e53 =>
    (getI e53.Kids j41).bind fun e54 =>
    (getI out6 e54).bind fun e55 =>
    if (decide (IntKind.wrap .i64 (e55 + 1) > deep40)) = true then
      (getI nodes1 i7).bind fun e58 =>
      (getI e58.Kids j41).bind fun e59 =>
      (getI out6 e59).bind fun e60 =>
      some (Sum.inl (IntKind.wrap .i64 (e60 + 1), IntKind.wrap .i64 (j41 + 1)))
    else
      some (Sum.inl (deep40, IntKind.wrap .i64 (j41 + 1)))
  else
    some (Sum.inr deep40)
def spec_l04Deeps_l1 (nodes1 : List GNode) (k2 : Int) : ((List Int) × Int) → Option (((List Int) × Int) ⊕ (List Int)) := fun ⟨out6, i7⟩ =>
  Option.bind (
    if (decide (i7 ≤ k2)) = true then
      some (decide (i7 < (nodes1.length : Int)))
    else
      some false) fun v15 =>
  if v15 = true then
    Option.bind (
      Option.bind (
        Option.bind (
          (spec_NodeOk nodes1 i7).bind fun r26 =>
          if (!r26) = true then
            some true
          else
            if (decide (i7 > 0)) = true then
              (getI out6 (IntKind.wrap .i64 (i7 - 1))).bind fun e32 =>
              some (e32 == 0)
            else
              some false) fun v33 =>
        if v33 = true then
          some 0
        else
          some 1) fun deep36 =>
      Option.bind (
        loopP (spec_l04Deeps_l2 nodes1 out6 i7) (deep36, 0)) fun deep62 =>
      Option.bind (
        if (decide (deep62 > 10)) = true then
          some 0
        else
          some deep62) fun deep68 =>
      (appI 8 out6 [deep68]).bind fun l69 =>
      some l69) fun out70 =>
    some (Sum.inl (out70, IntKind.wrap .i64 (i7 + 1)))
  else
    some (Sum.inr out6)
def spec_l04Deeps (nodes1 : List GNode) (k2 : Int) : Option (List Int) :=
  Option.bind (
    loopP (spec_l04Deeps_l1 nodes1 k2) ([], 0)) fun out72 =>
  some out72
def spec_DeepOf (nodes1 : List GNode) (k2 : Int) : Option (Int) :=
  (spec_l01In k2 0 (IntKind.wrap .i64 ((nodes1.length : Int) - 1))).bind fun r3 =>
  if (!r3) = true then
    some 0
  else
    (spec_l04Deeps nodes1 k2).bind fun r7 =>
    (getI r7 k2).bind fun e9 =>
    some e9
def spec_l26Const_b (rec_spec_l26Const : (List GNode) → Int → Option (Int × Bool)) (nodes1 : List GNode) (k2 : Int) : Option (Int × Bool) :=
  (getI nodes1 k2).bind fun e3 =>
  if (e3.Kind == 1) = true then
    some (e3.Num, true)
  else
    Option.bind (
      if (e3.Kind == 9) = true then
        some (e3.Kind == 9)
      else
        if (e3.Kind == 10) = true then
          some (e3.Kind == 10)
        else
          some (e3.Kind == 11)) fun v13 =>
    if v13 = true then
      (getI e3.Kids 0).bind fun e16 =>
      (rec_spec_l26Const nodes1 e16).bind fun ⟨r17, r18⟩ =>
      (getI e3.Kids 1).bind fun e20 =>
      (rec_spec_l26Const nodes1 e20).bind fun ⟨r21, r22⟩ =>
      Option.bind (
        if (!r18) = true then
          some true
        else
          some (!r22)) fun v28 =>
      if v28 = true then
        some (0, false)
      else
        Option.bind (
          if (e3.Kind == 9) = true then
            some (IntKind.wrap .i64 (r17 + r21))
          else
            Option.bind (
              if (e3.Kind == 10) = true then
                if (decide (r17 < r21)) = true then
                  some true
                else
                  some false
              else
                if (e3.Kind == 11) = true then
                  some (r17 == r21)
                else
                  some false) fun v45 =>
            if v45 = true then
              some 1
            else
              some 0) fun n48 =>
        if (decide (n48 > 1000000000)) = true then
          some (0, false)
        else
          some (n48, true)
    else
      some (0, false)
def spec_l26Const_rec : Nat → (List GNode) → Int → Option (Int × Bool)
  | 0 => fun _ _ => none
  | n + 1 => spec_l26Const_b (spec_l26Const_rec n)
def spec_l26Const : (List GNode) → Int → Option (Int × Bool) := (spec_l26Const_rec recFuel)
def spec_ConstOf (p1 : GProgram) (k2 : Int) : Option (Int × Bool) :=
  (spec_DeepOf p1.Nodes k2).bind fun r3 =>
  if (r3 == 0) = true then
    some (0, false)
  else
    (spec_l26Const p1.Nodes k2).bind fun ⟨r7, r8⟩ =>
    some (r7, r8)
def laws_toNode (a1 : GNode) : Option (GNode) :=
  (laws_toIntS a1.Kids).bind fun r2 =>
  some (⟨a1.Kind, a1.Num, a1.Name, r2⟩ : GNode)
def laws_toNodeS_l1 (a1 : List GNode) : ((List GNode) × Int) → Option (((List GNode) × Int) ⊕ (List GNode)) := fun ⟨out6, i7⟩ =>
  if (decide (i7 < (a1.length : Int))) = true then
    (getI a1 i7).bind fun e13 =>
    (laws_toNode e13).bind fun r14 =>
    (getI out6 i7).bind fun e16 =>
    bindS (List.set out6 i7.toNat r14) fun l17 =>
    some (Sum.inl (l17, IntKind.wrap .i64 (i7 + 1)))
  else
    some (Sum.inr out6)
def laws_toNodeS (a1 : List GNode) : Option (List GNode) :=
  (mkI 56 (a1.length : Int) (⟨0, 0, ByteArray.empty, []⟩ : GNode)).bind fun l2 =>
  Option.bind (
    loopP (laws_toNodeS_l1 a1) (l2, 0)) fun out19 =>
  some out19
def laws_toParam (a1 : GParam) : Option (GParam) :=
  some (⟨a1.Name, a1.Typ⟩ : GParam)
def laws_toParamS_l1 (a1 : List GParam) : ((List GParam) × Int) → Option (((List GParam) × Int) ⊕ (List GParam)) := fun ⟨out6, i7⟩ =>
  if (decide (i7 < (a1.length : Int))) = true then
    (getI a1 i7).bind fun e13 =>
    (laws_toParam e13).bind fun r14 =>
    (getI out6 i7).bind fun e16 =>
    bindS (List.set out6 i7.toNat r14) fun l17 =>
    some (Sum.inl (l17, IntKind.wrap .i64 (i7 + 1)))
  else
    some (Sum.inr out6)
def laws_toParamS (a1 : List GParam) : Option (List GParam) :=
  (mkI 24 (a1.length : Int) (⟨ByteArray.empty, 0⟩ : GParam)).bind fun l2 =>
  Option.bind (
    loopP (laws_toParamS_l1 a1) (l2, 0)) fun out19 =>
  some out19
def laws_toFn (a1 : GFn) : Option (GFn) :=
  (laws_toParamS a1.Params).bind fun r2 =>
  some (⟨a1.Name, r2, a1.Res, a1.Body, a1.Ret⟩ : GFn)
def laws_toFnS_l1 (a1 : List GFn) : ((List GFn) × Int) → Option (((List GFn) × Int) ⊕ (List GFn)) := fun ⟨out6, i7⟩ =>
  if (decide (i7 < (a1.length : Int))) = true then
    (getI a1 i7).bind fun e13 =>
    (laws_toFn e13).bind fun r14 =>
    (getI out6 i7).bind fun e16 =>
    bindS (List.set out6 i7.toNat r14) fun l17 =>
    some (Sum.inl (l17, IntKind.wrap .i64 (i7 + 1)))
  else
    some (Sum.inr out6)
def laws_toFnS (a1 : List GFn) : Option (List GFn) :=
  (mkI 64 (a1.length : Int) (⟨ByteArray.empty, [], 0, 0, 0⟩ : GFn)).bind fun l2 =>
  Option.bind (
    loopP (laws_toFnS_l1 a1) (l2, 0)) fun out19 =>
  some out19
def laws_toProgram (a1 : GProgram) : Option (GProgram) :=
  (laws_toNodeS a1.Nodes).bind fun r2 =>
  (laws_toFnS a1.Fns).bind fun r4 =>
  some (⟨r2, r4⟩ : GProgram)
def impl_hasInt_l1 (l1 : List Int) (n2 : Int) : Int → Option ((Int) ⊕ ((Unit) ⊕ (Bool))) := fun v6 =>
  if (decide (v6 < (l1.length : Int))) = true then
    (getI l1 v6).bind fun e12 =>
    if (e12 == n2) = true then
      some (Sum.inr (Sum.inr true))
    else
      some (Sum.inl (IntKind.wrap .i64 (v6 + 1)))
  else
    some (Sum.inr (Sum.inl ()))
def impl_hasInt (l1 : List Int) (n2 : Int) : Option (Bool) :=
  Option.bind (
    loopP (impl_hasInt_l1 l1 n2) 0) fun j5 =>
  match j5 with
  | Sum.inr z => some z
  | Sum.inl () =>
    some false
def impl_shape (kind1 : Int) : Option (Int × Int) :=
  Option.bind (
    if (kind1 == 8) = true then
      some (kind1 == 8)
    else
      if (kind1 == 13) = true then
        some (kind1 == 13)
      else
        if (kind1 == 14) = true then
          some (kind1 == 14)
        else
          if (kind1 == 15) = true then
            some (kind1 == 15)
          else
            if (kind1 == 18) = true then
              some (kind1 == 18)
            else
              some (kind1 == 19)) fun v15 =>
  if v15 = true then
    some (1, 1)
  else
    Option.bind (
      if (kind1 == 9) = true then
        some (kind1 == 9)
      else
        if (kind1 == 10) = true then
          some (kind1 == 10)
        else
          if (kind1 == 11) = true then
            some (kind1 == 11)
          else
            some (kind1 == 17)) fun v27 =>
    if v27 = true then
      some (2, 2)
    else
      if (kind1 == 16) = true then
        some (3, 3)
      else
        if (kind1 == 12) = true then
          some (0, 3)
        else
          if (kind1 == 20) = true then
            some (0, 12)
          else
            some (0, 0)
def impl_isStep (kind1 : Int) : Option (Bool) :=
  (impl_in kind1 13 19).bind fun r2 =>
  some r2
def impl_isValue (kind1 : Int) : Option (Bool) :=
  (impl_in kind1 1 12).bind fun r2 =>
  some r2
def impl_kidFits (kind1 : Int) (i2 : Int) (kid3 : Int) : Option (Bool) :=
  if (kind1 == 20) = true then
    (impl_isStep kid3).bind fun r6 =>
    some r6
  else
    Option.bind (
      if (kind1 == 16) = true then
        some (decide (i2 > 0))
      else
        if (kind1 == 17) = true then
          some (decide (i2 > 0))
        else
          some false) fun v14 =>
    if v14 = true then
      some (kid3 == 20)
    else
      if (kind1 == 19) = true then
        some (kid3 == 12)
      else
        (impl_isValue kid3).bind fun r19 =>
        some r19
def impl_hasName (kind1 : Int) : Option (Bool) :=
  Option.bind (
    (impl_in kind1 2 6).bind fun r4 =>
    if r4 = true then
      some true
    else
      (impl_in kind1 12 15).bind fun r8 =>
      some r8) fun v10 =>
  some v10
def impl_NodeOk_l1 (nodes1 : List GNode) (k2 : Int) (e7 : GNode) : Int → Option ((Int) ⊕ ((Unit) ⊕ (Bool))) := fun v25 =>
  if (decide (v25 < (e7.Kids.length : Int))) = true then
    (getI e7.Kids v25).bind fun e31 =>
    Option.bind (
      (impl_in e31 0 (IntKind.wrap .i64 (k2 - 1))).bind fun r34 =>
      if (!r34) = true then
        some true
      else
        (subI e7.Kids 0 v25).bind fun l38 =>
        (impl_hasInt l38 e31).bind fun r39 =>
        if r39 = true then
          some true
        else
          (getI nodes1 e31).bind fun e43 =>
          (impl_kidFits e7.Kind v25 e43.Kind).bind fun r44 =>
          some (!r44)) fun v46 =>
    if v46 = true then
      some (Sum.inr (Sum.inr false))
    else
      some (Sum.inl (IntKind.wrap .i64 (v25 + 1)))
  else
    some (Sum.inr (Sum.inl ()))
def impl_NodeOk (nodes1 : List GNode) (k2 : Int) : Option (Bool) :=
  (impl_in k2 0 (IntKind.wrap .i64 ((nodes1.length : Int) - 1))).bind fun r3 =>
  if (!r3) = true then
    some false
  else
    (getI nodes1 k2).bind fun e7 =>
    (impl_shape e7.Kind).bind fun ⟨r8, r9⟩ =>
    Option.bind (
      (impl_in e7.Kind 1 20).bind fun r13 =>
      if (!r13) = true then
        some true
      else
        (impl_in (e7.Kids.length : Int) r8 r9).bind fun r17 =>
        some (!r17)) fun v19 =>
    if v19 = true then
      some false
    else
      Option.bind (
        loopP (impl_NodeOk_l1 nodes1 k2 e7) 0) fun j24 =>
      match j24 with
      | Sum.inr z => some z
      | Sum.inl () =>
        Option.bind (
          if (e7.Kind == 1) = true then
            (impl_in e7.Num 0 1000000000).bind fun r55 =>
            if (!r55) = true then
              some true
            else
              some false
          else
            some (e7.Num != 0)) fun v61 =>
        if v61 = true then
          some false
        else
          (impl_hasName e7.Kind).bind fun r64 =>
          if r64 = true then
            (impl_NameOk e7.Name).bind fun r68 =>
            some r68
          else
            some (sEq e7.Name (⟨#[]⟩ : ByteArray))
def impl_depths_l2 (out10 : List Int) (e28 : GNode) : (Int × Int) → Option ((Int × Int) ⊕ (Int)) := fun ⟨d29, v30⟩ =>
  if (decide (v30 < (e28.Kids.length : Int))) = true then
    (getI e28.Kids v30).bind fun e36 =>
    (getI out10 e36).bind fun e37 =>
    some (Sum.inl (if IntKind.wrap .i64 (e37 + 1) > d29 then IntKind.wrap .i64 (e37 + 1) else d29, IntKind.wrap .i64 (v30 + 1)))
  else
    some (Sum.inr d29)
def impl_depths_l1 (nodes1 : List GNode) (k2 : Int) : ((List Int) × Int) → Option (((List Int) × Int) ⊕ ((List Int) ⊕ ((List Int) × Bool))) := fun ⟨out10, i11⟩ =>
  if (decide (i11 ≤ k2)) = true then
    Option.bind (
      (impl_NodeOk nodes1 i11).bind fun r20 =>
      if (!r20) = true then
        some (Sum.inr (Sum.inr (Sum.inr ([], false))))
      else
        Option.bind (
          (getI nodes1 i11).bind fun e28 =>
          loopP (impl_depths_l2 out10 e28) (1, 0)) fun d39 =>
        if (decide (d39 > 10)) = true then
          some (Sum.inr (Sum.inr (Sum.inr ([], false))))
        else
          (appI 8 out10 [d39]).bind fun l43 =>
          some (Sum.inl l43)) fun j19 =>
    match j19 with
    | Sum.inr z => some z
    | Sum.inl out44 =>
      some (Sum.inl (out44, IntKind.wrap .i64 (i11 + 1)))
  else
    some (Sum.inr (Sum.inl out10))
def impl_depths (nodes1 : List GNode) (k2 : Int) : Option ((List Int) × Bool) :=
  (impl_in k2 0 (IntKind.wrap .i64 ((nodes1.length : Int) - 1))).bind fun r3 =>
  if (!r3) = true then
    some ([], false)
  else
    Option.bind (
      loopP (impl_depths_l1 nodes1 k2) ([], 0)) fun j9 =>
    match j9 with
    | Sum.inr z => some z
    | Sum.inl out46 =>
      some (out46, true)
def impl_DeepOf (nodes1 : List GNode) (k2 : Int) : Option (Int) :=
  (impl_depths nodes1 k2).bind fun ⟨r3, r4⟩ =>
  if (!r4) = true then
    some 0
  else
    (getI r3 k2).bind fun e8 =>
    some e8
def impl_bit (is1 : Bool) : Option (Int) :=
  if is1 = true then
    some 1
  else
    some 0
def impl_constOf_b (rec_impl_constOf : GProgram → Int → Option (Int × Bool)) (p1 : GProgram) (k2 : Int) : Option (Int × Bool) :=
  (getI p1.Nodes k2).bind fun e3 =>
  if (e3.Kind == 1) = true then
    some (e3.Num, true)
  else
    (impl_in e3.Kind 9 11).bind fun r6 =>
    if (!r6) = true then
      some (0, false)
    else
      (getI e3.Kids 0).bind fun e11 =>
      (rec_impl_constOf p1 e11).bind fun ⟨r12, r13⟩ =>
      (getI e3.Kids 1).bind fun e16 =>
      (rec_impl_constOf p1 e16).bind fun ⟨r17, r18⟩ =>
      Option.bind (
        if (!r13) = true then
          some true
        else
          some (!r18)) fun v24 =>
      if v24 = true then
        some (0, false)
      else
        if (e3.Kind == 9) = true then
          if (decide (IntKind.wrap .i64 (r12 + r17) > 1000000000)) = true then
            some (0, false)
          else
            some (IntKind.wrap .i64 (r12 + r17), true)
        else
          if (e3.Kind == 10) = true then
            (impl_bit (decide (r12 < r17))).bind fun r33 =>
            some (r33, true)
          else
            (impl_bit (r12 == r17)).bind fun r35 =>
            some (r35, true)
def impl_constOf_rec : Nat → GProgram → Int → Option (Int × Bool)
  | 0 => fun _ _ => none
  | n + 1 => impl_constOf_b (impl_constOf_rec n)
def impl_constOf : GProgram → Int → Option (Int × Bool) := (impl_constOf_rec recFuel)
def impl_ConstOf (p1 : GProgram) (k2 : Int) : Option (Int × Bool) :=
  (impl_DeepOf p1.Nodes k2).bind fun r3 =>
  if (r3 == 0) = true then
    some (0, false)
  else
    (impl_constOf p1 k2).bind fun ⟨r7, r8⟩ =>
    some (r7, r8)
def laws_eqNode (a1 : GNode) (b2 : GNode) : Option (Bool) :=
  if (a1.Kind != b2.Kind) = true then
    some false
  else
    if (a1.Num != b2.Num) = true then
      some false
    else
      if (!(sEq a1.Name b2.Name)) = true then
        some false
      else
        (laws_eqIntS a1.Kids b2.Kids).bind fun r9 =>
        if (!r9) = true then
          some false
        else
          some true
def laws_eqNodeS_l1 (a1 : List GNode) (b2 : List GNode) : Int → Option ((Int) ⊕ ((Unit) ⊕ (Bool))) := fun i8 =>
  if (decide (i8 < (a1.length : Int))) = true then
    (getI a1 i8).bind fun e15 =>
    (getI b2 i8).bind fun e16 =>
    (laws_eqNode e15 e16).bind fun r17 =>
    if (!r17) = true then
      some (Sum.inr (Sum.inr false))
    else
      some (Sum.inl (IntKind.wrap .i64 (i8 + 1)))
  else
    some (Sum.inr (Sum.inl ()))
def laws_eqNodeS (a1 : List GNode) (b2 : List GNode) : Option (Bool) :=
  if ((a1.length : Int) != (b2.length : Int)) = true then
    some false
  else
    Option.bind (
      loopP (laws_eqNodeS_l1 a1 b2) 0) fun j7 =>
    match j7 with
    | Sum.inr z => some z
    | Sum.inl () =>
      some true
def laws_eqParam (a1 : GParam) (b2 : GParam) : Option (Bool) :=
  if (!(sEq a1.Name b2.Name)) = true then
    some false
  else
    if (a1.Typ != b2.Typ) = true then
      some false
    else
      some true
def laws_eqParamS_l1 (a1 : List GParam) (b2 : List GParam) : Int → Option ((Int) ⊕ ((Unit) ⊕ (Bool))) := fun i8 =>
  if (decide (i8 < (a1.length : Int))) = true then
    (getI a1 i8).bind fun e15 =>
    (getI b2 i8).bind fun e16 =>
    (laws_eqParam e15 e16).bind fun r17 =>
    if (!r17) = true then
      some (Sum.inr (Sum.inr false))
    else
      some (Sum.inl (IntKind.wrap .i64 (i8 + 1)))
  else
    some (Sum.inr (Sum.inl ()))
def laws_eqParamS (a1 : List GParam) (b2 : List GParam) : Option (Bool) :=
  if ((a1.length : Int) != (b2.length : Int)) = true then
    some false
  else
    Option.bind (
      loopP (laws_eqParamS_l1 a1 b2) 0) fun j7 =>
    match j7 with
    | Sum.inr z => some z
    | Sum.inl () =>
      some true
def laws_eqFn (a1 : GFn) (b2 : GFn) : Option (Bool) :=
  if (!(sEq a1.Name b2.Name)) = true then
    some false
  else
    (laws_eqParamS a1.Params b2.Params).bind fun r5 =>
    if (!r5) = true then
      some false
    else
      if (a1.Res != b2.Res) = true then
        some false
      else
        if (a1.Body != b2.Body) = true then
          some false
        else
          if (a1.Ret != b2.Ret) = true then
            some false
          else
            some true
def laws_eqFnS_l1 (a1 : List GFn) (b2 : List GFn) : Int → Option ((Int) ⊕ ((Unit) ⊕ (Bool))) := fun i8 =>
  if (decide (i8 < (a1.length : Int))) = true then
    (getI a1 i8).bind fun e15 =>
    (getI b2 i8).bind fun e16 =>
    (laws_eqFn e15 e16).bind fun r17 =>
    if (!r17) = true then
      some (Sum.inr (Sum.inr false))
    else
      some (Sum.inl (IntKind.wrap .i64 (i8 + 1)))
  else
    some (Sum.inr (Sum.inl ()))
def laws_eqFnS (a1 : List GFn) (b2 : List GFn) : Option (Bool) :=
  if ((a1.length : Int) != (b2.length : Int)) = true then
    some false
  else
    Option.bind (
      loopP (laws_eqFnS_l1 a1 b2) 0) fun j7 =>
    match j7 with
    | Sum.inr z => some z
    | Sum.inl () =>
      some true
def laws_eqProgram (a1 : GProgram) (b2 : GProgram) : Option (Bool) :=
  (laws_eqNodeS a1.Nodes b2.Nodes).bind fun r3 =>
  if (!r3) = true then
    some false
  else
    (laws_eqFnS a1.Fns b2.Fns).bind fun r7 =>
    if (!r7) = true then
      some false
    else
      some true
def laws_FnExactConstOf (aP1 : GProgram) (aK2 : Int) : Option (Bool) :=
  (laws_szProgram aP1 1048576).bind fun r3 =>
  if (decide (r3 < 0)) = true then
    some true
  else
    (laws_toProgram aP1).bind fun r7 =>
    (spec_ConstOf r7 aK2).bind fun ⟨r9, r10⟩ =>
    (laws_toProgram aP1).bind fun r12 =>
    (impl_ConstOf r12 aK2).bind fun ⟨r14, r15⟩ =>
    Option.bind (
      if (r14 != r9) = true then
        some true
      else
        some (!(r15 == r10))) fun v21 =>
    if v21 = true then
      some false
    else
      (laws_toProgram aP1).bind fun r25 =>
      (laws_eqProgram r12 r25).bind fun r27 =>
      if (!r27) = true then
        some false
      else
        some true
def spec_Foldable (p1 : GProgram) (k2 : Int) : Option (Bool) :=
  (spec_ConstOf p1 k2).bind fun ⟨r3, r4⟩ =>
  Option.bind (
    if r4 = true then
      (getI p1.Nodes k2).bind fun e10 =>
      some (e10.Kind != 1)
    else
      some false) fun v11 =>
  some v11
def impl_Foldable (p1 : GProgram) (k2 : Int) : Option (Bool) :=
  (impl_ConstOf p1 k2).bind fun ⟨r3, r4⟩ =>
  Option.bind (
    if r4 = true then
      (getI p1.Nodes k2).bind fun e10 =>
      (impl_in e10.Kind 9 11).bind fun r11 =>
      some r11
    else
      some false) fun v13 =>
  some v13
def laws_FnExactFoldable (aP1 : GProgram) (aK2 : Int) : Option (Bool) :=
  (laws_szProgram aP1 1048576).bind fun r3 =>
  if (decide (r3 < 0)) = true then
    some true
  else
    (laws_toProgram aP1).bind fun r7 =>
    (spec_Foldable r7 aK2).bind fun r9 =>
    (laws_toProgram aP1).bind fun r11 =>
    (impl_Foldable r11 aK2).bind fun r13 =>
    if (!(r13 == r9)) = true then
      some false
    else
      (laws_toProgram aP1).bind fun r18 =>
      (laws_eqProgram r11 r18).bind fun r20 =>
      if (!r20) = true then
        some false
      else
        some true
def spec_l29Heads_l1 (c1 : GCode) : ((List Bool) × Int) → Option (((List Bool) × Int) ⊕ (List Bool)) := fun ⟨out8, i9⟩ =>
  if (decide (i9 < (c1.Words.length : Int))) = true then
    (getI c1.Words i9).bind fun e15 =>
    Option.bind (
      Option.bind (
        if (e15.Op == 18) = true then
          some true
        else
          some (e15.Op == 19)) fun v23 =>
      if v23 = true then
        (getI out8 e15.Num).bind fun e26 =>
        bindS (List.set out8 e15.Num.toNat true) fun l27 =>
        some l27
      else
        some out8) fun out28 =>
    Option.bind (
      if (e15.Op == 18) = true then
        some true
      else
        if (e15.Op == 19) = true then
          some true
        else
          some (e15.Op == 20)) fun v35 =>
    if v35 = true then
      (getI out28 (IntKind.wrap .i64 (i9 + 1))).bind fun e38 =>
      bindS (List.set out28 ((IntKind.wrap .i64 (i9 + 1)).toNat) true) fun l39 =>
      some (Sum.inl (l39, IntKind.wrap .i64 (i9 + 1)))
    else
      some (Sum.inl (out28, IntKind.wrap .i64 (i9 + 1)))
  else
    some (Sum.inr out8)
def spec_l29Heads (c1 : GCode) : Option (List Bool) :=
  (mkI 1 (IntKind.wrap .i64 ((c1.Words.length : Int) + 1)) false).bind fun l2 =>
  (getI l2 0).bind fun e3 =>
  bindS (List.set l2 0 true) fun l4 =>
  Option.bind (
    loopP (spec_l29Heads_l1 c1) (l4, 0)) fun out41 =>
  (getI out41 (c1.Words.length : Int)).bind fun e42 =>
  bindS (List.set out41 ((c1.Words.length : Int).toNat) true) fun l43 =>
  some l43
def spec_BlockAt_l1 (list1 : List GBlock) (i2 : Int) : Int → Option ((Int) ⊕ ((Unit) ⊕ (Int))) := fun k6 =>
  if (decide (k6 < (list1.length : Int))) = true then
    Option.bind (
      (getI list1 k6).bind fun e14 =>
      if (decide (e14.From ≤ i2)) = true then
        some (decide (i2 < e14.To))
      else
        some false) fun v17 =>
    if v17 = true then
      some (Sum.inr (Sum.inr k6))
    else
      some (Sum.inl (IntKind.wrap .i64 (k6 + 1)))
  else
    some (Sum.inr (Sum.inl ()))
def spec_BlockAt (list1 : List GBlock) (i2 : Int) : Option (Int) :=
  Option.bind (
    loopP (spec_BlockAt_l1 list1 i2) 0) fun j5 =>
  match j5 with
  | Sum.inr z => some z
  | Sum.inl () =>
    some (-1)
def spec_BlocksOf_l1 (r6 : List Bool) : ((List GBlock) × Int × Int) → Option (((List GBlock) × Int × Int) ⊕ (List GBlock)) := fun ⟨out11, from12, i13⟩ =>
  if (decide (i13 < (r6.length : Int))) = true then
    (getI r6 i13).bind fun e19 =>
    if e19 = true then
      (appI 40 out11 [(⟨from12, i13, []⟩ : GBlock)]).bind fun l22 =>
      some (Sum.inl (l22, i13, IntKind.wrap .i64 (i13 + 1)))
    else
      some (Sum.inl (out11, from12, IntKind.wrap .i64 (i13 + 1)))
  else
    some (Sum.inr out11)
def spec_BlocksOf_l3 (out28 : List GBlock) (r40 : List Int) : ((List Bool) × Int) → Option (((List Bool) × Int) ⊕ (List Bool)) := fun ⟨has46, i47⟩ =>
  if (decide (i47 < (r40.length : Int))) = true then
    (getI r40 i47).bind fun e53 =>
    (spec_BlockAt out28 e53).bind fun r54 =>
    (getI has46 r54).bind fun e56 =>
    bindS (List.set has46 r54.toNat true) fun l57 =>
    some (Sum.inl (l57, IntKind.wrap .i64 (i47 + 1)))
  else
    some (Sum.inr has46)
def spec_BlocksOf_l4 (k29 : Int) (has59 : List Bool) : ((List GBlock) × Int) → Option (((List GBlock) × Int) ⊕ (List GBlock)) := fun ⟨out60, i61⟩ =>
  if (decide (i61 < (has59.length : Int))) = true then
    (getI has59 i61).bind fun e67 =>
    if e67 = true then
      (getI out60 k29).bind fun e70 =>
      (appI 8 e70.Next [i61]).bind fun l71 =>
      bindS (List.set out60 k29.toNat (⟨e70.From, e70.To, l71⟩ : GBlock)) fun l72 =>
      some (Sum.inl (l72, IntKind.wrap .i64 (i61 + 1)))
    else
      some (Sum.inl (out60, IntKind.wrap .i64 (i61 + 1)))
  else
    some (Sum.inr out60)
def spec_BlocksOf_l2 (c1 : GCode) : ((List GBlock) × Int) → Option (((List GBlock) × Int) ⊕ (List GBlock)) := fun ⟨out28, k29⟩ =>
  if (decide (k29 < (out28.length : Int))) = true then
    Option.bind (
      (getI out28 k29).bind fun e39 =>
      (spec_Next c1 (IntKind.wrap .i64 (e39.To - 1))).bind fun r40 =>
      (mkI 1 (out28.length : Int) false).bind fun l42 =>
      Option.bind (
        loopP (spec_BlocksOf_l3 out28 r40) (l42, 0)) fun has59 =>
      loopP (spec_BlocksOf_l4 k29 has59) (out28, 0)) fun out74 =>
    some (Sum.inl (out74, IntKind.wrap .i64 (k29 + 1)))
  else
    some (Sum.inr out28)
def spec_BlocksOf (c1 : GCode) : Option (List GBlock) :=
  (spec_CodeOk c1).bind fun r2 =>
  if (!r2) = true then
    some []
  else
    (spec_l29Heads c1).bind fun r6 =>
    Option.bind (
      loopP (spec_BlocksOf_l1 r6) ([], 0, 1)) fun out24 =>
    Option.bind (
      loopP (spec_BlocksOf_l2 c1) (out24, 0)) fun out76 =>
    some out76
def impl_BlocksOf_l1 (c1 : GCode) : ((List Bool) × Int) → Option (((List Bool) × Int) ⊕ (List Bool)) := fun ⟨begins14, v15⟩ =>
  if (decide (v15 < (c1.Words.length : Int))) = true then
    (getI c1.Words v15).bind fun e21 =>
    Option.bind (
      Option.bind (
        if (e21.Op == 18) = true then
          some true
        else
          some (e21.Op == 19)) fun v29 =>
      if v29 = true then
        (getI begins14 e21.Num).bind fun e32 =>
        bindS (List.set begins14 e21.Num.toNat true) fun l33 =>
        some l33
      else
        some begins14) fun begins34 =>
    Option.bind (
      if (e21.Op == 18) = true then
        some true
      else
        if (e21.Op == 19) = true then
          some true
        else
          some (e21.Op == 20)) fun v41 =>
    if v41 = true then
      (getI begins34 (IntKind.wrap .i64 (v15 + 1))).bind fun e44 =>
      bindS (List.set begins34 ((IntKind.wrap .i64 (v15 + 1)).toNat) true) fun l45 =>
      some (Sum.inl (l45, IntKind.wrap .i64 (v15 + 1)))
    else
      some (Sum.inl (begins34, IntKind.wrap .i64 (v15 + 1)))
  else
    some (Sum.inr begins14)
def impl_BlocksOf_l2 (c1 : GCode) (begins47 : List Bool) : ((List GBlock) × Int × Int) → Option (((List GBlock) × Int × Int) ⊕ (List GBlock)) := fun ⟨out51, from52, i53⟩ =>
  if (decide (i53 ≤ (c1.Words.length : Int))) = true then
    (getI begins47 i53).bind fun e59 =>
    if e59 = true then
      (appI 40 out51 [(⟨from52, i53, []⟩ : GBlock)]).bind fun l62 =>
      some (Sum.inl (l62, i53, IntKind.wrap .i64 (i53 + 1)))
    else
      some (Sum.inl (out51, from52, IntKind.wrap .i64 (i53 + 1)))
  else
    some (Sum.inr out51)
def impl_BlocksOf_l4 (out68 : List GBlock) (v69 : Int) (r80 : List Int) : ((List GBlock) × Int) → Option (((List GBlock) × Int) ⊕ (List GBlock)) := fun ⟨out82, v83⟩ =>
  if (decide (v83 < (out68.length : Int))) = true then
    (getI out82 v83).bind fun e89 =>
    (impl_hasInt r80 e89.From).bind fun r90 =>
    if r90 = true then
      (getI out82 v69).bind fun e94 =>
      (appI 8 e94.Next [v83]).bind fun l95 =>
      bindS (List.set out82 v69.toNat (⟨e94.From, e94.To, l95⟩ : GBlock)) fun l96 =>
      some (Sum.inl (l96, IntKind.wrap .i64 (v83 + 1)))
    else
      some (Sum.inl (out82, IntKind.wrap .i64 (v83 + 1)))
  else
    some (Sum.inr out82)
def impl_BlocksOf_l3 (c1 : GCode) (out64 : List GBlock) : ((List GBlock) × Int) → Option (((List GBlock) × Int) ⊕ (List GBlock)) := fun ⟨out68, v69⟩ =>
  if (decide (v69 < (out64.length : Int))) = true then
    Option.bind (
      (getI out68 v69).bind fun e79 =>
      (impl_Next c1 (IntKind.wrap .i64 (e79.To - 1))).bind fun r80 =>
      loopP (impl_BlocksOf_l4 out68 v69 r80) (out68, 0)) fun out98 =>
    some (Sum.inl (out98, IntKind.wrap .i64 (v69 + 1)))
  else
    some (Sum.inr out68)
def impl_BlocksOf (c1 : GCode) : Option (List GBlock) :=
  (impl_CodeOk c1).bind fun r2 =>
  if (!r2) = true then
    some []
  else
    (mkI 1 (IntKind.wrap .i64 ((c1.Words.length : Int) + 1)) false).bind fun l6 =>
    (getI l6 0).bind fun e7 =>
    bindS (List.set l6 0 true) fun l8 =>
    (getI l8 (c1.Words.length : Int)).bind fun e9 =>
    bindS (List.set l8 ((c1.Words.length : Int).toNat) true) fun l10 =>
    Option.bind (
      loopP (impl_BlocksOf_l1 c1) (l10, 0)) fun begins47 =>
    Option.bind (
      loopP (impl_BlocksOf_l2 c1 begins47) ([], 0, 1)) fun out64 =>
    Option.bind (
      loopP (impl_BlocksOf_l3 c1 out64) (out64, 0)) fun out100 =>
    some out100
def laws_eqBlock (a1 : GBlock) (b2 : GBlock) : Option (Bool) :=
  if (a1.From != b2.From) = true then
    some false
  else
    if (a1.To != b2.To) = true then
      some false
    else
      (laws_eqIntS a1.Next b2.Next).bind fun r7 =>
      if (!r7) = true then
        some false
      else
        some true
def laws_eqBlockS_l1 (a1 : List GBlock) (b2 : List GBlock) : Int → Option ((Int) ⊕ ((Unit) ⊕ (Bool))) := fun i8 =>
  if (decide (i8 < (a1.length : Int))) = true then
    (getI a1 i8).bind fun e15 =>
    (getI b2 i8).bind fun e16 =>
    (laws_eqBlock e15 e16).bind fun r17 =>
    if (!r17) = true then
      some (Sum.inr (Sum.inr false))
    else
      some (Sum.inl (IntKind.wrap .i64 (i8 + 1)))
  else
    some (Sum.inr (Sum.inl ()))
def laws_eqBlockS (a1 : List GBlock) (b2 : List GBlock) : Option (Bool) :=
  if ((a1.length : Int) != (b2.length : Int)) = true then
    some false
  else
    Option.bind (
      loopP (laws_eqBlockS_l1 a1 b2) 0) fun j7 =>
    match j7 with
    | Sum.inr z => some z
    | Sum.inl () =>
      some true
def laws_markBlockS_l1 : ((List GBlock) × Int × Int) → Option (((List GBlock) × Int × Int) ⊕ ((List GBlock) × Int)) := fun ⟨a6, k7, i8⟩ =>
  if (decide (i8 < (a6.length : Int))) = true then
    (getI a6 i8).bind fun e14 =>
    bindS (List.set a6 i8.toNat (⟨k7, e14.To, e14.Next⟩ : GBlock)) fun l15 =>
    (getI l15 i8).bind fun e16 =>
    bindS (List.set l15 i8.toNat (⟨e16.From, IntKind.wrap .i64 (k7 + 1), e16.Next⟩ : GBlock)) fun l17 =>
    (getI l17 i8).bind fun e18 =>
    (laws_markIntS e18.Next (IntKind.wrap .i64 ((IntKind.wrap .i64 (k7 + 1)) + 1))).bind fun ⟨r19, q20⟩ =>
    bindS (List.set l17 i8.toNat (⟨e18.From, e18.To, q20⟩ : GBlock)) fun l22 =>
    some (Sum.inl (l22, r19, IntKind.wrap .i64 (i8 + 1)))
  else
    some (Sum.inr (a6, k7))
def laws_markBlockS (a1 : List GBlock) (k2 : Int) : Option (Int × (List GBlock)) :=
  Option.bind (
    loopP (laws_markBlockS_l1) (a1, k2, 0)) fun ⟨a24, k25⟩ =>
  some (k25, a24)
def laws_heldIntS_l1 (a1 : List Int) : (Int × Int) → Option ((Int × Int) ⊕ ((Int) ⊕ (Int))) := fun ⟨k6, i7⟩ =>
  if (decide (i7 < (a1.length : Int))) = true then
    (getI a1 i7).bind fun e13 =>
    if (e13 != k6) = true then
      some (Sum.inr (Sum.inr (-1)))
    else
      some (Sum.inl (IntKind.wrap .i64 (k6 + 1), IntKind.wrap .i64 (i7 + 1)))
  else
    some (Sum.inr (Sum.inl k6))
def laws_heldIntS (a1 : List Int) (k2 : Int) : Option (Int) :=
  Option.bind (
    loopP (laws_heldIntS_l1 a1) (k2, 0)) fun j5 =>
  match j5 with
  | Sum.inr z => some z
  | Sum.inl k18 =>
    some k18
def laws_heldBlockS_l1 (a1 : List GBlock) : (Int × Int) → Option ((Int × Int) ⊕ ((Int) ⊕ (Int))) := fun ⟨k6, i7⟩ =>
  if (decide (i7 < (a1.length : Int))) = true then
    (getI a1 i7).bind fun e13 =>
    if (e13.From != k6) = true then
      some (Sum.inr (Sum.inr (-1)))
    else
      (getI a1 i7).bind fun e17 =>
      if (e17.To != (IntKind.wrap .i64 (k6 + 1))) = true then
        some (Sum.inr (Sum.inr (-1)))
      else
        (getI a1 i7).bind fun e21 =>
        (laws_heldIntS e21.Next (IntKind.wrap .i64 ((IntKind.wrap .i64 (k6 + 1)) + 1))).bind fun r22 =>
        if (decide (r22 < 0)) = true then
          some (Sum.inr (Sum.inr (-1)))
        else
          some (Sum.inl (r22, IntKind.wrap .i64 (i7 + 1)))
  else
    some (Sum.inr (Sum.inl k6))
def laws_heldBlockS (a1 : List GBlock) (k2 : Int) : Option (Int) :=
  Option.bind (
    loopP (laws_heldBlockS_l1 a1) (k2, 0)) fun j5 =>
  match j5 with
  | Sum.inr z => some z
  | Sum.inl k28 =>
    some k28
def laws_FnExactBlocksOf (aC1 : GCode) : Option (Bool) :=
  (laws_szCode aC1 1048576).bind fun r2 =>
  if (decide (r2 < 0)) = true then
    some true
  else
    (laws_toCode aC1).bind fun r6 =>
    (spec_BlocksOf r6).bind fun r8 =>
    (laws_toCode aC1).bind fun r10 =>
    (impl_BlocksOf r10).bind fun r12 =>
    (laws_eqBlockS r12 r8).bind fun r14 =>
    if (!r14) = true then
      some false
    else
      (laws_toCode aC1).bind fun r19 =>
      (laws_eqCode r10 r19).bind fun r21 =>
      if (!r21) = true then
        some false
      else
        (laws_markCode r10 1).bind fun ⟨r25, q26⟩ =>
        Option.bind (
          if (decide (r25 < 0)) = true then
            some true
          else
            (laws_eqBlockS r12 r8).bind fun r32 =>
            some (!r32)) fun v34 =>
        if v34 = true then
          some false
        else
          (laws_markBlockS r12 1).bind fun ⟨r37, q38⟩ =>
          (laws_heldBlockS q38 1).bind fun r40 =>
          if (decide (r40 < 0)) = true then
            some false
          else
            if (r40 != r37) = true then
              some false
            else
              (laws_toCode aC1).bind fun r46 =>
              (impl_BlocksOf r46).bind fun r48 =>
              (laws_eqBlockS r48 r8).bind fun r50 =>
              if (!r50) = true then
                some false
              else
                (laws_heldBlockS q38 1).bind fun r54 =>
                if (decide (r54 < 0)) = true then
                  some false
                else
                  if (r54 != r37) = true then
                    some false
                  else
                    some true
def spec_l14Reached_l2 (r17 : List Int) : ((List Bool) × (List Int) × Int) → Option (((List Bool) × (List Int) × Int) ⊕ (((List Bool) × (List Int)) ⊕ (List Bool))) := fun ⟨out19, way20, k21⟩ =>
  if (decide (k21 < (r17.length : Int))) = true then
    (getI r17 k21).bind fun e27 =>
    (getI out19 e27).bind fun e28 =>
    if (!e28) = true then
      (getI r17 k21).bind fun e31 =>
      (getI out19 e31).bind fun e32 =>
      bindS (List.set out19 e31.toNat true) fun l33 =>
      (getI r17 k21).bind fun e34 =>
      (appI 8 way20 [e34]).bind fun l35 =>
      some (Sum.inl (l33, l35, IntKind.wrap .i64 (k21 + 1)))
    else
      some (Sum.inl (out19, way20, IntKind.wrap .i64 (k21 + 1)))
  else
    some (Sum.inr (Sum.inl (out19, way20)))
def spec_l14Reached_l1 (c1 : GCode) : ((List Bool) × (List Int)) → Option (((List Bool) × (List Int)) ⊕ (List Bool)) := fun ⟨out8, way9⟩ =>
  if (decide ((way9.length : Int) > 0)) = true then
    (getI way9 (IntKind.wrap .i64 ((way9.length : Int) - 1))).bind fun e15 =>
    (subI way9 0 (IntKind.wrap .i64 ((way9.length : Int) - 1))).bind fun l16 =>
    (spec_Next c1 e15).bind fun r17 =>
    loopP (spec_l14Reached_l2 r17) (out8, l16, 0)
  else
    some (Sum.inr out8)
def spec_l14Reached (c1 : GCode) : Option (List Bool) :=
  (mkI 1 (c1.Words.length : Int) false).bind fun l2 =>
  (getI l2 0).bind fun e3 =>
  bindS (List.set l2 0 true) fun l4 =>
  Option.bind (
    loopP (spec_l14Reached_l1 c1) (l4, [0])) fun out38 =>
  some out38
def spec_l14Table_l2 (locals2 : Int) (all3 : Bool) : ((List Bool) × Int) → Option (((List Bool) × Int) ⊕ (List Bool)) := fun ⟨row21, k22⟩ =>
  if (decide (k22 < locals2)) = true then
    (getI row21 k22).bind fun e28 =>
    bindS (List.set row21 k22.toNat all3) fun l29 =>
    some (Sum.inl (l29, IntKind.wrap .i64 (k22 + 1)))
  else
    some (Sum.inr row21)
def spec_l14Table_l1 (words1 : Int) (locals2 : Int) (all3 : Bool) : ((List (List Bool)) × Int) → Option (((List (List Bool)) × Int) ⊕ (List (List Bool))) := fun ⟨out7, i8⟩ =>
  if (decide (i8 < words1)) = true then
    Option.bind (
      (mkI 1 locals2 false).bind fun l17 =>
      Option.bind (
        loopP (spec_l14Table_l2 locals2 all3) (l17, 0)) fun row31 =>
      (appI 24 out7 [row31]).bind fun l32 =>
      some l32) fun out33 =>
    some (Sum.inl (out33, IntKind.wrap .i64 (i8 + 1)))
  else
    some (Sum.inr out7)
def spec_l14Table (words1 : Int) (locals2 : Int) (all3 : Bool) : Option (List (List Bool)) :=
  Option.bind (
    loopP (spec_l14Table_l1 words1 locals2 all3) ([], 0)) fun out35 =>
  some out35
def spec_Writes (x1 : GIns) : Option (Int) :=
  (spec_l01In x1.Op 1 14).bind fun r2 =>
  if r2 = true then
    some x1.A
  else
    some (-1)
def spec_l14Behind_l1 (x1 : GIns) : ((List Bool) × Int) → Option (((List Bool) × Int) ⊕ (List Bool)) := fun ⟨out19, i20⟩ =>
  if (decide (i20 < (x1.Args.length : Int))) = true then
    (getI x1.Args i20).bind fun e26 =>
    (getI out19 e26).bind fun e27 =>
    bindS (List.set out19 e26.toNat false) fun l28 =>
    some (Sum.inl (l28, IntKind.wrap .i64 (i20 + 1)))
  else
    some (Sum.inr out19)
def spec_l14Behind (x1 : GIns) (has2 : List Bool) : Option (List Bool) :=
  (appI 1 [] has2).bind fun l3 =>
  Option.bind (
    Option.bind (
      if (x1.Op == 3) = true then
        some (x1.Op == 3)
      else
        some (x1.Op == 14)) fun v12 =>
    if v12 = true then
      (getI has2 x1.B).bind fun e15 =>
      bindS (List.set has2 x1.B.toNat false) fun l16 =>
      some l16
    else
      if (x1.Op == 13) = true then
        loopP (spec_l14Behind_l1 x1) (has2, 0)
      else
        if (x1.Op == 17) = true then
          (getI has2 x1.A).bind fun e32 =>
          bindS (List.set has2 x1.A.toNat false) fun l33 =>
          some l33
        else
          some has2) fun out34 =>
  (spec_Writes x1).bind fun r35 =>
  if (decide (r35 ≥ 0)) = true then
    (spec_Writes x1).bind fun r39 =>
    (getI out34 r39).bind fun e41 =>
    bindS (List.set out34 r39.toNat true) fun l42 =>
    some l42
  else
    some out34
def spec_l14Has_l1 (c1 : GCode) : ((List (List Bool)) × Int) → Option (((List (List Bool)) × Int) ⊕ (List (List Bool))) := fun ⟨out8, j9⟩ =>
  if (decide (j9 < (c1.Locals.length : Int))) = true then
    (getI out8 0).bind fun e15 =>
    (getI e15 j9).bind fun e16 =>
    bindS (List.set e15 j9.toNat false) fun l17 =>
    bindS (List.set out8 0 l17) fun l18 =>
    some (Sum.inl (l18, IntKind.wrap .i64 (j9 + 1)))
  else
    some (Sum.inr out8)
def spec_l14Has_l5 (c1 : GCode) (r57 : List Bool) (r59 : List Int) (k63 : Int) : ((List (List Bool)) × Bool × Int) → Option (((List (List Bool)) × Bool × Int) ⊕ ((List (List Bool)) × Bool)) := fun ⟨out72, some73, j74⟩ =>
  if (decide (j74 < (c1.Locals.length : Int))) = true then
    Option.bind (
      (getI r59 k63).bind fun e82 =>
      (getI out72 e82).bind fun e83 =>
      (getI e83 j74).bind fun e84 =>
      if e84 = true then
        (getI r57 j74).bind fun e87 =>
        some (!e87)
      else
        some false) fun v88 =>
    if v88 = true then
      (getI r59 k63).bind fun e91 =>
      (getI out72 e91).bind fun e92 =>
      (getI e92 j74).bind fun e93 =>
      bindS (List.set e92 j74.toNat false) fun l94 =>
      bindS (List.set out72 e91.toNat l94) fun l95 =>
      some (Sum.inl (l95, true, IntKind.wrap .i64 (j74 + 1)))
    else
      some (Sum.inl (out72, some73, IntKind.wrap .i64 (j74 + 1)))
  else
    some (Sum.inr (out72, some73))
def spec_l14Has_l4 (c1 : GCode) (r57 : List Bool) (r59 : List Int) : ((List (List Bool)) × Bool × Int) → Option (((List (List Bool)) × Bool × Int) ⊕ ((List (List Bool)) × Bool)) := fun ⟨out61, some62, k63⟩ =>
  if (decide (k63 < (r59.length : Int))) = true then
    Option.bind (
      loopP (spec_l14Has_l5 c1 r57 r59 k63) (out61, some62, 0)) fun ⟨out97, some98⟩ =>
    some (Sum.inl (out97, some98, IntKind.wrap .i64 (k63 + 1)))
  else
    some (Sum.inr (out61, some62))
def spec_l14Has_l3 (c1 : GCode) (reached2 : List Bool) : ((List (List Bool)) × Bool × Int) → Option (((List (List Bool)) × Bool × Int) ⊕ ((List (List Bool)) × Bool)) := fun ⟨out40, some41, i42⟩ =>
  if (decide (i42 < (c1.Words.length : Int))) = true then
    Option.bind (
      (getI reached2 i42).bind fun e51 =>
      if (!e51) = true then
        some (out40, some41)
      else
        (getI c1.Words i42).bind fun e55 =>
        (getI out40 i42).bind fun e56 =>
        (spec_l14Behind e55 e56).bind fun r57 =>
        (spec_Next c1 i42).bind fun r59 =>
        loopP (spec_l14Has_l4 c1 r57 r59) (out40, some41, 0)) fun ⟨out100, some101⟩ =>
    some (Sum.inl (out100, some101, IntKind.wrap .i64 (i42 + 1)))
  else
    some (Sum.inr (out40, some41))
def spec_l14Has_l2 (c1 : GCode) (reached2 : List Bool) : ((List (List Bool)) × Bool × Int) → Option (((List (List Bool)) × Bool × Int) ⊕ (List (List Bool))) := fun ⟨out24, some25, round26⟩ =>
  Option.bind (
    if some25 = true then
      some (decide (round26 ≤ IntKind.wrap .i64 ((IntKind.wrap .i64 ((c1.Words.length : Int) * (c1.Locals.length : Int))) + 1)))
    else
      some false) fun v34 =>
  if v34 = true then
    Option.bind (
      loopP (spec_l14Has_l3 c1 reached2) (out24, false, 0)) fun ⟨out103, some104⟩ =>
    some (Sum.inl (out103, some104, IntKind.wrap .i64 (round26 + 1)))
  else
    some (Sum.inr out24)
def spec_l14Has (c1 : GCode) (reached2 : List Bool) : Option (List (List Bool)) :=
  (spec_l14Table (c1.Words.length : Int) (c1.Locals.length : Int) true).bind fun r3 =>
  Option.bind (
    loopP (spec_l14Has_l1 c1) (r3, c1.Params)) fun out20 =>
  Option.bind (
    loopP (spec_l14Has_l2 c1 reached2) (out20, true, 0)) fun out106 =>
  some out106
def spec_Reads_l1 (x1 : GIns) : ((List Int) × Int) → Option (((List Int) × Int) ⊕ (List Int)) := fun ⟨out28, i29⟩ =>
  if (decide (i29 < (x1.Args.length : Int))) = true then
    (getI x1.Args i29).bind fun e35 =>
    (spec_l11Add out28 e35).bind fun r36 =>
    some (Sum.inl (r36, IntKind.wrap .i64 (i29 + 1)))
  else
    some (Sum.inr out28)
def spec_Reads (x1 : GIns) : Option (List Int) :=
  Option.bind (
    if (x1.Op == 15) = true then
      (spec_l11Add [] x1.A).bind fun r7 =>
      (spec_l11Add r7 x1.B).bind fun r9 =>
      some r9
    else
      Option.bind (
        if (x1.Op == 16) = true then
          some true
        else
          some (x1.Op == 19)) fun v15 =>
      if v15 = true then
        (spec_l11Add [] x1.A).bind fun r18 =>
        some r18
      else
        if (x1.Op == 20) = true then
          if (x1.A != (-1)) = true then
            (spec_l11Add [] x1.A).bind fun r24 =>
            some r24
          else
            some []
        else
          if (x1.Op == 13) = true then
            loopP (spec_Reads_l1 x1) ([], 0)
          else
            (spec_l11HasB x1.Op).bind fun r39 =>
            if r39 = true then
              (spec_l11Add [] x1.B).bind fun r43 =>
              (spec_l11HasC x1.Op).bind fun r45 =>
              if r45 = true then
                (spec_l11Add r43 x1.C).bind fun r49 =>
                some r49
              else
                some r43
            else
              some []) fun out51 =>
  some out51
def spec_Moves_l2 (r6 : List Bool) (r8 : List (List Bool)) (i13 : Int) (r23 : List Int) : Int → Option ((Int) ⊕ ((Unit) ⊕ ((Int) ⊕ ((Unit) ⊕ (Int))))) := fun k25 =>
  Option.bind (
    if (decide (k25 < (r23.length : Int))) = true then
      (getI r6 i13).bind fun e33 =>
      some e33
    else
      some false) fun v34 =>
  if v34 = true then
    (getI r8 i13).bind fun e38 =>
    (getI r23 k25).bind fun e39 =>
    (getI e38 e39).bind fun e40 =>
    if (!e40) = true then
      some (Sum.inr (Sum.inr (Sum.inr (Sum.inr i13))))
    else
      some (Sum.inl (IntKind.wrap .i64 (k25 + 1)))
  else
    some (Sum.inr (Sum.inl ()))
def spec_Moves_l1 (c1 : GCode) (r6 : List Bool) (r8 : List (List Bool)) : Int → Option ((Int) ⊕ ((Unit) ⊕ (Int))) := fun i13 =>
  if (decide (i13 < (c1.Words.length : Int))) = true then
    Option.bind (
      (getI c1.Words i13).bind fun e22 =>
      (spec_Reads e22).bind fun r23 =>
      loopP (spec_Moves_l2 r6 r8 i13 r23) 0) fun j21 =>
    match j21 with
    | Sum.inr z => some z
    | Sum.inl () =>
      some (Sum.inl (IntKind.wrap .i64 (i13 + 1)))
  else
    some (Sum.inr (Sum.inl ()))
def spec_Moves (c1 : GCode) : Option (Int) :=
  (spec_CodeOk c1).bind fun r2 =>
  if (!r2) = true then
    some (-1)
  else
    (spec_l14Reached c1).bind fun r6 =>
    (spec_l14Has c1 r6).bind fun r8 =>
    Option.bind (
      loopP (spec_Moves_l1 c1 r6 r8) 0) fun j12 =>
    match j12 with
    | Sum.inr z => some z
    | Sum.inl () =>
      some (-1)
def impl_table_l2 (is3 : Bool) (l17 : List Bool) : ((List Bool) × Int) → Option (((List Bool) × Int) ⊕ (List Bool)) := fun ⟨row21, v22⟩ =>
  if (decide (v22 < (l17.length : Int))) = true then
    (getI row21 v22).bind fun e28 =>
    bindS (List.set row21 v22.toNat is3) fun l29 =>
    some (Sum.inl (l29, IntKind.wrap .i64 (v22 + 1)))
  else
    some (Sum.inr row21)
def impl_table_l1 (rows1 : Int) (columns2 : Int) (is3 : Bool) : ((List (List Bool)) × Int) → Option (((List (List Bool)) × Int) ⊕ (List (List Bool))) := fun ⟨out7, v8⟩ =>
  if (decide (v8 < rows1)) = true then
    Option.bind (
      (mkI 1 columns2 false).bind fun l17 =>
      Option.bind (
        loopP (impl_table_l2 is3 l17) (l17, 0)) fun row31 =>
      (appI 24 out7 [row31]).bind fun l32 =>
      some l32) fun out33 =>
    some (Sum.inl (out33, IntKind.wrap .i64 (v8 + 1)))
  else
    some (Sum.inr out7)
def impl_table (rows1 : Int) (columns2 : Int) (is3 : Bool) : Option (List (List Bool)) :=
  Option.bind (
    loopP (impl_table_l1 rows1 columns2 is3) ([], 0)) fun out35 =>
  some out35
def impl_Writes (x1 : GIns) : Option (Int) :=
  (impl_in x1.Op 1 14).bind fun r2 =>
  if r2 = true then
    some x1.A
  else
    some (-1)
def impl_behind_l1 (x1 : GIns) : ((List Bool) × Int) → Option (((List Bool) × Int) ⊕ (List Bool)) := fun ⟨out19, v20⟩ =>
  if (decide (v20 < (x1.Args.length : Int))) = true then
    (getI x1.Args v20).bind fun e26 =>
    (getI out19 e26).bind fun e27 =>
    bindS (List.set out19 e26.toNat false) fun l28 =>
    some (Sum.inl (l28, IntKind.wrap .i64 (v20 + 1)))
  else
    some (Sum.inr out19)
def impl_behind (x1 : GIns) (row2 : List Bool) : Option (List Bool) :=
  (appI 1 [] row2).bind fun l3 =>
  Option.bind (
    Option.bind (
      if (x1.Op == 3) = true then
        some (x1.Op == 3)
      else
        some (x1.Op == 14)) fun v12 =>
    if v12 = true then
      (getI row2 x1.B).bind fun e15 =>
      bindS (List.set row2 x1.B.toNat false) fun l16 =>
      some l16
    else
      if (x1.Op == 13) = true then
        loopP (impl_behind_l1 x1) (row2, 0)
      else
        if (x1.Op == 17) = true then
          (getI row2 x1.A).bind fun e32 =>
          bindS (List.set row2 x1.A.toNat false) fun l33 =>
          some l33
        else
          some row2) fun out34 =>
  (impl_Writes x1).bind fun r35 =>
  if (decide (r35 ≥ 0)) = true then
    (getI out34 r35).bind fun e39 =>
    bindS (List.set out34 r35.toNat true) fun l40 =>
    some l40
  else
    some out34
def impl_HasAt_l1 (c1 : GCode) : ((List (List Bool)) × Int) → Option (((List (List Bool)) × Int) ⊕ (List (List Bool))) := fun ⟨out11, v12⟩ =>
  if (decide (v12 < (c1.Locals.length : Int))) = true then
    (getI out11 0).bind fun e19 =>
    (getI e19 v12).bind fun e20 =>
    bindS (List.set e19 v12.toNat (decide (v12 < c1.Params))) fun l21 =>
    bindS (List.set out11 0 l21) fun l22 =>
    some (Sum.inl (l22, IntKind.wrap .i64 (v12 + 1)))
  else
    some (Sum.inr out11)
def impl_HasAt_l5 (r54 : List Bool) (e69 : Int) : ((List (List Bool)) × Bool × Int) → Option (((List (List Bool)) × Bool × Int) ⊕ ((List (List Bool)) × Bool)) := fun ⟨out70, more71, v72⟩ =>
  if (decide (v72 < (r54.length : Int))) = true then
    (getI r54 v72).bind fun e78 =>
    Option.bind (
      if (!e78) = true then
        (getI out70 e69).bind fun e83 =>
        (getI e83 v72).bind fun e84 =>
        some e84
      else
        some false) fun v85 =>
    if v85 = true then
      (getI out70 e69).bind fun e88 =>
      (getI e88 v72).bind fun e89 =>
      bindS (List.set e88 v72.toNat false) fun l90 =>
      bindS (List.set out70 e69.toNat l90) fun l91 =>
      some (Sum.inl (l91, true, IntKind.wrap .i64 (v72 + 1)))
    else
      some (Sum.inl (out70, more71, IntKind.wrap .i64 (v72 + 1)))
  else
    some (Sum.inr (out70, more71))
def impl_HasAt_l4 (r54 : List Bool) (r56 : List Int) : ((List (List Bool)) × Bool × Int) → Option (((List (List Bool)) × Bool × Int) ⊕ ((List (List Bool)) × Bool)) := fun ⟨out58, more59, v60⟩ =>
  if (decide (v60 < (r56.length : Int))) = true then
    Option.bind (
      (getI r56 v60).bind fun e69 =>
      loopP (impl_HasAt_l5 r54 e69) (out58, more59, 0)) fun ⟨out93, more94⟩ =>
    some (Sum.inl (out93, more94, IntKind.wrap .i64 (v60 + 1)))
  else
    some (Sum.inr (out58, more59))
def impl_HasAt_l3 (c1 : GCode) (r25 : List Bool) : ((List (List Bool)) × Bool × Int) → Option (((List (List Bool)) × Bool × Int) ⊕ (((List (List Bool)) × Bool) ⊕ (List (List Bool)))) := fun ⟨out37, more38, v39⟩ =>
  if (decide (v39 < (c1.Words.length : Int))) = true then
    Option.bind (
      (getI c1.Words v39).bind fun e48 =>
      (getI r25 v39).bind fun e49 =>
      if (!e49) = true then
        some (out37, more38)
      else
        (getI out37 v39).bind fun e53 =>
        (impl_behind e48 e53).bind fun r54 =>
        (impl_Next c1 v39).bind fun r56 =>
        loopP (impl_HasAt_l4 r54 r56) (out37, more38, 0)) fun ⟨out96, more97⟩ =>
    some (Sum.inl (out96, more97, IntKind.wrap .i64 (v39 + 1)))
  else
    some (Sum.inr (Sum.inl (out37, more38)))
def impl_HasAt_l2 (c1 : GCode) (r25 : List Bool) : ((List (List Bool)) × Bool) → Option (((List (List Bool)) × Bool) ⊕ (List (List Bool))) := fun ⟨out30, more31⟩ =>
  if more31 = true then
    loopP (impl_HasAt_l3 c1 r25) (out30, false, 0)
  else
    some (Sum.inr out30)
def impl_HasAt (c1 : GCode) : Option (List (List Bool)) :=
  (impl_CodeOk c1).bind fun r2 =>
  if (!r2) = true then
    some []
  else
    (impl_table (c1.Words.length : Int) (c1.Locals.length : Int) true).bind fun r6 =>
    Option.bind (
      loopP (impl_HasAt_l1 c1) (r6, 0)) fun out24 =>
    (impl_ReachedWords c1).bind fun r25 =>
    Option.bind (
      loopP (impl_HasAt_l2 c1 r25) (out24, true)) fun out100 =>
    some out100
def impl_Reads_l1 (l35 : List Int) : ((List Int) × Int) → Option (((List Int) × Int) ⊕ (List Int)) := fun ⟨out39, v40⟩ =>
  if (decide (v40 < (l35.length : Int))) = true then
    (getI l35 v40).bind fun e46 =>
    (impl_hasInt out39 e46).bind fun r47 =>
    if (!r47) = true then
      (appI 8 out39 [e46]).bind fun l51 =>
      some (Sum.inl (l51, IntKind.wrap .i64 (v40 + 1)))
    else
      some (Sum.inl (out39, IntKind.wrap .i64 (v40 + 1)))
  else
    some (Sum.inr out39)
def impl_Reads (x1 : GIns) : Option (List Int) :=
  Option.bind (
    Option.bind (
      (impl_in x1.Op 2 7).bind fun r7 =>
      if r7 = true then
        some true
      else
        if (x1.Op == 9) = true then
          some true
        else
          some (x1.Op == 14)) fun v13 =>
    if v13 = true then
      some [x1.B]
    else
      (impl_in x1.Op 10 12).bind fun r16 =>
      if r16 = true then
        some [x1.B, x1.C]
      else
        if (x1.Op == 13) = true then
          some x1.Args
        else
          if (x1.Op == 15) = true then
            some [x1.A, x1.B]
          else
            Option.bind (
              if (x1.Op == 16) = true then
                some true
              else
                if (x1.Op == 19) = true then
                  some true
                else
                  if (x1.Op == 20) = true then
                    some (x1.A != (-1))
                  else
                    some false) fun v32 =>
            if v32 = true then
              some [x1.A]
            else
              some []) fun l35 =>
  Option.bind (
    loopP (impl_Reads_l1 l35) ([], 0)) fun out53 =>
  some out53
def impl_Moves_l2 (r2 : List (List Bool)) (v7 : Int) (r17 : List Int) : Int → Option ((Int) ⊕ ((Unit) ⊕ ((Int) ⊕ ((Unit) ⊕ (Int))))) := fun v19 =>
  if (decide (v19 < (r17.length : Int))) = true then
    (getI r17 v19).bind fun e25 =>
    (getI r2 v7).bind fun e26 =>
    (getI e26 e25).bind fun e27 =>
    if (!e27) = true then
      some (Sum.inr (Sum.inr (Sum.inr (Sum.inr v7))))
    else
      some (Sum.inl (IntKind.wrap .i64 (v19 + 1)))
  else
    some (Sum.inr (Sum.inl ()))
def impl_Moves_l1 (c1 : GCode) (r2 : List (List Bool)) : Int → Option ((Int) ⊕ ((Unit) ⊕ (Int))) := fun v7 =>
  if (decide (v7 < (r2.length : Int))) = true then
    Option.bind (
      (getI c1.Words v7).bind fun e16 =>
      (impl_Reads e16).bind fun r17 =>
      loopP (impl_Moves_l2 r2 v7 r17) 0) fun j15 =>
    match j15 with
    | Sum.inr z => some z
    | Sum.inl () =>
      some (Sum.inl (IntKind.wrap .i64 (v7 + 1)))
  else
    some (Sum.inr (Sum.inl ()))
def impl_Moves (c1 : GCode) : Option (Int) :=
  (impl_HasAt c1).bind fun r2 =>
  Option.bind (
    loopP (impl_Moves_l1 c1 r2) 0) fun j6 =>
  match j6 with
  | Sum.inr z => some z
  | Sum.inl () =>
    some (-1)
def laws_FnExactMoves (aC1 : GCode) : Option (Bool) :=
  (laws_szCode aC1 1048576).bind fun r2 =>
  if (decide (r2 < 0)) = true then
    some true
  else
    (laws_toCode aC1).bind fun r6 =>
    (spec_Moves r6).bind fun r8 =>
    (laws_toCode aC1).bind fun r10 =>
    (impl_Moves r10).bind fun r12 =>
    if (r12 != r8) = true then
      some false
    else
      (laws_toCode aC1).bind fun r17 =>
      (laws_eqCode r10 r17).bind fun r19 =>
      if (!r19) = true then
        some false
      else
        some true
def spec_HasAt (c1 : GCode) : Option (List (List Bool)) :=
  (spec_CodeOk c1).bind fun r2 =>
  if (!r2) = true then
    some []
  else
    (spec_l14Reached c1).bind fun r7 =>
    (spec_l14Has c1 r7).bind fun r9 =>
    some r9
def laws_eqBoolSS_l1 (a1 : List (List Bool)) (b2 : List (List Bool)) : Int → Option ((Int) ⊕ ((Unit) ⊕ (Bool))) := fun i8 =>
  if (decide (i8 < (a1.length : Int))) = true then
    (getI a1 i8).bind fun e15 =>
    (getI b2 i8).bind fun e16 =>
    (laws_eqBoolS e15 e16).bind fun r17 =>
    if (!r17) = true then
      some (Sum.inr (Sum.inr false))
    else
      some (Sum.inl (IntKind.wrap .i64 (i8 + 1)))
  else
    some (Sum.inr (Sum.inl ()))
def laws_eqBoolSS (a1 : List (List Bool)) (b2 : List (List Bool)) : Option (Bool) :=
  if ((a1.length : Int) != (b2.length : Int)) = true then
    some false
  else
    Option.bind (
      loopP (laws_eqBoolSS_l1 a1 b2) 0) fun j7 =>
    match j7 with
    | Sum.inr z => some z
    | Sum.inl () =>
      some true
def laws_markBoolSS_l1 : ((List (List Bool)) × Int × Int) → Option (((List (List Bool)) × Int × Int) ⊕ ((List (List Bool)) × Int)) := fun ⟨a6, k7, i8⟩ =>
  if (decide (i8 < (a6.length : Int))) = true then
    (getI a6 i8).bind fun e14 =>
    (laws_markBoolS e14 k7).bind fun ⟨r15, q16⟩ =>
    bindS (List.set a6 i8.toNat q16) fun l18 =>
    some (Sum.inl (l18, r15, IntKind.wrap .i64 (i8 + 1)))
  else
    some (Sum.inr (a6, k7))
def laws_markBoolSS (a1 : List (List Bool)) (k2 : Int) : Option (Int × (List (List Bool))) :=
  Option.bind (
    loopP (laws_markBoolSS_l1) (a1, k2, 0)) fun ⟨a20, k21⟩ =>
  some (k21, a20)
def laws_heldBoolSS_l1 (a1 : List (List Bool)) : (Int × Int) → Option ((Int × Int) ⊕ ((Int) ⊕ (Int))) := fun ⟨k6, i7⟩ =>
  if (decide (i7 < (a1.length : Int))) = true then
    (getI a1 i7).bind fun e13 =>
    (laws_heldBoolS e13 k6).bind fun r14 =>
    if (decide (r14 < 0)) = true then
      some (Sum.inr (Sum.inr (-1)))
    else
      some (Sum.inl (r14, IntKind.wrap .i64 (i7 + 1)))
  else
    some (Sum.inr (Sum.inl k6))
def laws_heldBoolSS (a1 : List (List Bool)) (k2 : Int) : Option (Int) :=
  Option.bind (
    loopP (laws_heldBoolSS_l1 a1) (k2, 0)) fun j5 =>
  match j5 with
  | Sum.inr z => some z
  | Sum.inl k20 =>
    some k20
def laws_FnExactHasAt (aC1 : GCode) : Option (Bool) :=
  (laws_szCode aC1 1048576).bind fun r2 =>
  if (decide (r2 < 0)) = true then
    some true
  else
    (laws_toCode aC1).bind fun r6 =>
    (spec_HasAt r6).bind fun r8 =>
    (laws_toCode aC1).bind fun r10 =>
    (impl_HasAt r10).bind fun r12 =>
    (laws_eqBoolSS r12 r8).bind fun r14 =>
    if (!r14) = true then
      some false
    else
      (laws_toCode aC1).bind fun r19 =>
      (laws_eqCode r10 r19).bind fun r21 =>
      if (!r21) = true then
        some false
      else
        (laws_markCode r10 1).bind fun ⟨r25, q26⟩ =>
        Option.bind (
          if (decide (r25 < 0)) = true then
            some true
          else
            (laws_eqBoolSS r12 r8).bind fun r32 =>
            some (!r32)) fun v34 =>
        if v34 = true then
          some false
        else
          (laws_markBoolSS r12 1).bind fun ⟨r37, q38⟩ =>
          (laws_heldBoolSS q38 1).bind fun r40 =>
          if (decide (r40 < 0)) = true then
            some false
          else
            if (r40 != r37) = true then
              some false
            else
              (laws_toCode aC1).bind fun r46 =>
              (impl_HasAt r46).bind fun r48 =>
              (laws_eqBoolSS r48 r8).bind fun r50 =>
              if (!r50) = true then
                some false
              else
                (laws_heldBoolSS q38 1).bind fun r54 =>
                if (decide (r54 < 0)) = true then
                  some false
                else
                  if (r54 != r37) = true then
                    some false
                  else
                    some true
end Go.OM
end
set_option maxRecDepth 100000
namespace Go.Proofs.T
open Go.OM
noncomputable def ty : TypeId → Option TI
  | 2 => some ⟨1, 8, .int .i64, [.v (.int .i64 0)]⟩
  | 3 => some ⟨1, 8, .int .i64, [.v (.int .i64 0)]⟩
  | 4 => some ⟨1, 1, .bool, [.v (.bool false)]⟩
  | 5 => some ⟨1, 1, .int .u8, [.v (.int .u8 0)]⟩
  | 7 => some ⟨4, 24, .struct [(0, 1), (1, 1), (2, 1), (3, 1)], [.v (.int .i64 0), .v (.int .i64 0), .v (.bool false), .v (.int .u8 0)]⟩
  | 9 => some ⟨1, 16, .str, [.v (.string .empty)]⟩
  | 12 => some ⟨1, 8, .int .u64, [.v (.int .u64 0)]⟩
  | 13 => some ⟨2, 24, .struct [(0, 1), (1, 1)], [.v (.string .empty), .v (.int .u64 0)]⟩
  | 15 => some ⟨1, 8, .ptr, [.v (.pointer none)]⟩
  | 16 => some ⟨1, 8, .ptr, [.v (.pointer none)]⟩
  | 17 => some ⟨1, 8, .ptr, [.v (.pointer none)]⟩
  | 18 => some ⟨1, 8, .struct [(0, 1)], [.v (.pointer none)]⟩
  | 20 => some ⟨1, 16, .iface, [.v .nilIface]⟩
  | 21 => some ⟨1, 4, .int .i32, [.v (.int .i32 0)]⟩
  | 22 => some ⟨9, 72, .struct [(0, 1), (1, 1), (2, 1), (3, 1), (4, 1), (5, 1), (6, 1), (7, 1), (8, 1)], [.v (.int .i64 0), .v (.int .i64 0), .v (.int .i64 0), .v (.int .i64 0), .v (.int .i64 0), .v (.int .i64 0), .v (.int .i64 0), .v (.int .i64 0), .v (.int .i64 0)]⟩
  | 23 => some ⟨9, 72, .struct [(0, 1), (1, 1), (2, 1), (3, 1), (4, 1), (5, 1), (6, 1), (7, 1), (8, 1)], [.v (.int .i64 0), .v (.int .i64 0), .v (.int .i64 0), .v (.int .i64 0), .v (.int .i64 0), .v (.int .i64 0), .v (.int .i64 0), .v (.int .i64 0), .v (.int .i64 0)]⟩
  | 24 => some ⟨1, 8, .func, [.v .nilFunc]⟩
  | 25 => some ⟨9, 72, .struct [(0, 1), (1, 1), (2, 1), (3, 1), (4, 1), (5, 1), (6, 1), (7, 1), (8, 1)], [.v (.int .i64 0), .v (.int .i64 0), .v (.int .i64 0), .v (.int .i64 0), .v (.int .i64 0), .v (.int .i64 0), .v (.int .i64 0), .v (.int .i64 0), .v (.int .i64 0)]⟩
  | 26 => some ⟨1, 8, .func, [.v .nilFunc]⟩
  | 27 => some ⟨1, 8, .func, [.v .nilFunc]⟩
  | 28 => some ⟨1, 24, .slice 3, [.nl true 1 none]⟩
  | 29 => some ⟨1, 24, .slice 101, [.nl true 7 none]⟩
  | 30 => some ⟨4, 72, .struct [(0, 1), (1, 1), (2, 1), (3, 1)], [.v (.string .empty), .v (.int .i64 0), .nl true 1 none, .nl true 7 none]⟩
  | 31 => some ⟨4, 72, .struct [(0, 1), (1, 1), (2, 1), (3, 1)], [.v (.string .empty), .v (.int .i64 0), .nl true 1 none, .nl true 7 none]⟩
  | 32 => some ⟨1, 8, .func, [.v .nilFunc]⟩
  | 33 => some ⟨1, 24, .slice 4, [.nl true 1 none]⟩
  | 34 => some ⟨1, 8, .func, [.v .nilFunc]⟩
  | 35 => some ⟨1, 24, .slice 93, [.nl true 7 none]⟩
  | 36 => some ⟨4, 72, .struct [(0, 1), (1, 1), (2, 1), (3, 1)], [.v (.string .empty), .v (.int .i64 0), .nl true 1 none, .nl true 7 none]⟩
  | 37 => some ⟨4, 72, .struct [(0, 1), (1, 1), (2, 1), (3, 1)], [.v (.string .empty), .v (.int .i64 0), .nl true 1 none, .nl true 7 none]⟩
  | 38 => some ⟨1, 8, .func, [.v .nilFunc]⟩
  | 39 => some ⟨1, 8, .func, [.v .nilFunc]⟩
  | 40 => some ⟨1, 8, .func, [.v .nilFunc]⟩
  | 41 => some ⟨1, 8, .func, [.v .nilFunc]⟩
  | 42 => some ⟨1, 8, .func, [.v .nilFunc]⟩
  | 43 => some ⟨1, 8, .func, [.v .nilFunc]⟩
  | 44 => some ⟨1, 24, .slice 108, [.nl true 4 none]⟩
  | 45 => some ⟨1, 24, .slice 112, [.nl true 5 none]⟩
  | 46 => some ⟨2, 48, .struct [(0, 1), (1, 1)], [.nl true 4 none, .nl true 5 none]⟩
  | 47 => some ⟨2, 48, .struct [(0, 1), (1, 1)], [.nl true 4 none, .nl true 5 none]⟩
  | 48 => some ⟨1, 8, .func, [.v .nilFunc]⟩
  | 50 => some ⟨1, 8, .func, [.v .nilFunc]⟩
  | 51 => some ⟨1, 24, .slice 88, [.nl true 4 none]⟩
  | 52 => some ⟨1, 24, .slice 117, [.nl true 5 none]⟩
  | 53 => some ⟨2, 48, .struct [(0, 1), (1, 1)], [.nl true 4 none, .nl true 5 none]⟩
  | 54 => some ⟨2, 48, .struct [(0, 1), (1, 1)], [.nl true 4 none, .nl true 5 none]⟩
  | 55 => some ⟨1, 8, .func, [.v .nilFunc]⟩
  | 56 => some ⟨1, 8, .func, [.v .nilFunc]⟩
  | 57 => some ⟨1, 8, .func, [.v .nilFunc]⟩
  | 58 => some ⟨1, 8, .func, [.v .nilFunc]⟩
  | 59 => some ⟨1, 24, .slice 91, [.nl true 3 none]⟩
  | 60 => some ⟨1, 8, .func, [.v .nilFunc]⟩
  | 61 => some ⟨1, 8, .func, [.v .nilFunc]⟩
  | 62 => some ⟨1, 8, .func, [.v .nilFunc]⟩
  | 63 => some ⟨1, 8, .func, [.v .nilFunc]⟩
  | 64 => some ⟨1, 24, .slice 33, [.nl true 1 none]⟩
  | 65 => some ⟨1, 8, .func, [.v .nilFunc]⟩
  | 66 => some ⟨1, 8, .func, [.v .nilFunc]⟩
  | 67 => some ⟨1, 8, .func, [.v .nilFunc]⟩
  | 68 => some ⟨1, 8, .func, [.v .nilFunc]⟩
  | 69 => some ⟨1, 8, .func, [.v .nilFunc]⟩
  | 70 => some ⟨1, 8, .func, [.v .nilFunc]⟩
  | 71 => some ⟨1, 8, .func, [.v .nilFunc]⟩
  | 72 => some ⟨1, 8, .func, [.v .nilFunc]⟩
  | 73 => some ⟨1, 8, .func, [.v .nilFunc]⟩
  | 74 => some ⟨1, 8, .func, [.v .nilFunc]⟩
  | 75 => some ⟨1, 8, .func, [.v .nilFunc]⟩
  | 76 => some ⟨1, 8, .func, [.v .nilFunc]⟩
  | 77 => some ⟨1, 8, .func, [.v .nilFunc]⟩
  | 78 => some ⟨1, 8, .func, [.v .nilFunc]⟩
  | 79 => some ⟨1, 8, .func, [.v .nilFunc]⟩
  | 80 => some ⟨1, 8, .func, [.v .nilFunc]⟩
  | 81 => some ⟨1, 8, .func, [.v .nilFunc]⟩
  | 82 => some ⟨1, 8, .func, [.v .nilFunc]⟩
  | 83 => some ⟨1, 8, .func, [.v .nilFunc]⟩
  | 84 => some ⟨1, 8, .func, [.v .nilFunc]⟩
  | 85 => some ⟨1, 8, .func, [.v .nilFunc]⟩
  | 86 => some ⟨1, 8, .func, [.v .nilFunc]⟩
  | 87 => some ⟨4, 56, .struct [(0, 1), (1, 1), (2, 1), (3, 1)], [.v (.int .i64 0), .v (.int .i64 0), .v (.string .empty), .nl true 1 none]⟩
  | 88 => some ⟨4, 56, .struct [(0, 1), (1, 1), (2, 1), (3, 1)], [.v (.int .i64 0), .v (.int .i64 0), .v (.string .empty), .nl true 1 none]⟩
  | 89 => some ⟨1, 8, .func, [.v .nilFunc]⟩
  | 90 => some ⟨3, 40, .struct [(0, 1), (1, 1), (2, 1)], [.v (.int .i64 0), .v (.int .i64 0), .nl true 1 none]⟩
  | 91 => some ⟨3, 40, .struct [(0, 1), (1, 1), (2, 1)], [.v (.int .i64 0), .v (.int .i64 0), .nl true 1 none]⟩
  | 92 => some ⟨7, 80, .struct [(0, 1), (1, 1), (2, 1), (3, 1), (4, 1), (5, 1), (6, 1)], [.v (.int .i64 0), .v (.int .i64 0), .v (.int .i64 0), .v (.int .i64 0), .v (.int .i64 0), .v (.string .empty), .nl true 1 none]⟩
  | 93 => some ⟨7, 80, .struct [(0, 1), (1, 1), (2, 1), (3, 1), (4, 1), (5, 1), (6, 1)], [.v (.int .i64 0), .v (.int .i64 0), .v (.int .i64 0), .v (.int .i64 0), .v (.int .i64 0), .v (.string .empty), .nl true 1 none]⟩
  | 94 => some ⟨1, 8, .func, [.v .nilFunc]⟩
  | 95 => some ⟨1, 8, .func, [.v .nilFunc]⟩
  | 96 => some ⟨1, 8, .func, [.v .nilFunc]⟩
  | 97 => some ⟨1, 8, .func, [.v .nilFunc]⟩
  | 98 => some ⟨1, 8, .func, [.v .nilFunc]⟩
  | 99 => some ⟨1, 8, .func, [.v .nilFunc]⟩
  | 100 => some ⟨1, 8, .func, [.v .nilFunc]⟩
  | 101 => some ⟨7, 80, .struct [(0, 1), (1, 1), (2, 1), (3, 1), (4, 1), (5, 1), (6, 1)], [.v (.int .i64 0), .v (.int .i64 0), .v (.int .i64 0), .v (.int .i64 0), .v (.int .i64 0), .v (.string .empty), .nl true 1 none]⟩
  | 102 => some ⟨1, 8, .func, [.v .nilFunc]⟩
  | 103 => some ⟨1, 8, .func, [.v .nilFunc]⟩
  | 104 => some ⟨1, 8, .func, [.v .nilFunc]⟩
  | 105 => some ⟨1, 8, .func, [.v .nilFunc]⟩
  | 106 => some ⟨1, 8, .func, [.v .nilFunc]⟩
  | 107 => some ⟨1, 8, .func, [.v .nilFunc]⟩
  | 108 => some ⟨4, 56, .struct [(0, 1), (1, 1), (2, 1), (3, 1)], [.v (.int .i64 0), .v (.int .i64 0), .v (.string .empty), .nl true 1 none]⟩
  | 109 => some ⟨1, 8, .func, [.v .nilFunc]⟩
  | 110 => some ⟨1, 24, .slice 141, [.nl true 2 none]⟩
  | 111 => some ⟨5, 64, .struct [(0, 1), (1, 1), (2, 1), (3, 1), (4, 1)], [.v (.string .empty), .nl true 2 none, .v (.int .i64 0), .v (.int .i64 0), .v (.int .i64 0)]⟩
  | 112 => some ⟨5, 64, .struct [(0, 1), (1, 1), (2, 1), (3, 1), (4, 1)], [.v (.string .empty), .nl true 2 none, .v (.int .i64 0), .v (.int .i64 0), .v (.int .i64 0)]⟩
  | 113 => some ⟨1, 8, .func, [.v .nilFunc]⟩
  | 114 => some ⟨1, 8, .func, [.v .nilFunc]⟩
  | 115 => some ⟨1, 24, .slice 144, [.nl true 2 none]⟩
  | 116 => some ⟨5, 64, .struct [(0, 1), (1, 1), (2, 1), (3, 1), (4, 1)], [.v (.string .empty), .nl true 2 none, .v (.int .i64 0), .v (.int .i64 0), .v (.int .i64 0)]⟩
  | 117 => some ⟨5, 64, .struct [(0, 1), (1, 1), (2, 1), (3, 1), (4, 1)], [.v (.string .empty), .nl true 2 none, .v (.int .i64 0), .v (.int .i64 0), .v (.int .i64 0)]⟩
  | 118 => some ⟨1, 8, .func, [.v .nilFunc]⟩
  | 120 => some ⟨1, 8, .func, [.v .nilFunc]⟩
  | 121 => some ⟨1, 8, .func, [.v .nilFunc]⟩
  | 122 => some ⟨1, 8, .func, [.v .nilFunc]⟩
  | 123 => some ⟨1, 8, .func, [.v .nilFunc]⟩
  | 124 => some ⟨1, 8, .func, [.v .nilFunc]⟩
  | 125 => some ⟨1, 8, .func, [.v .nilFunc]⟩
  | 126 => some ⟨1, 8, .func, [.v .nilFunc]⟩
  | 127 => some ⟨1, 24, .slice 5, [.nl true 1 none]⟩
  | 128 => some ⟨1, 8, .func, [.v .nilFunc]⟩
  | 129 => some ⟨1, 8, .func, [.v .nilFunc]⟩
  | 130 => some ⟨1, 8, .func, [.v .nilFunc]⟩
  | 131 => some ⟨1, 8, .func, [.v .nilFunc]⟩
  | 132 => some ⟨1, 8, .func, [.v .nilFunc]⟩
  | 133 => some ⟨1, 8, .func, [.v .nilFunc]⟩
  | 134 => some ⟨1, 8, .func, [.v .nilFunc]⟩
  | 135 => some ⟨1, 8, .func, [.v .nilFunc]⟩
  | 136 => some ⟨1, 24, .slice 9, [.nl true 1 none]⟩
  | 137 => some ⟨1, 8, .func, [.v .nilFunc]⟩
  | 138 => some ⟨1, 8, .func, [.v .nilFunc]⟩
  | 139 => some ⟨1, 8, .func, [.v .nilFunc]⟩
  | 140 => some ⟨2, 24, .struct [(0, 1), (1, 1)], [.v (.string .empty), .v (.int .i64 0)]⟩
  | 141 => some ⟨2, 24, .struct [(0, 1), (1, 1)], [.v (.string .empty), .v (.int .i64 0)]⟩
  | 143 => some ⟨1, 8, .func, [.v .nilFunc]⟩
  | 144 => some ⟨2, 24, .struct [(0, 1), (1, 1)], [.v (.string .empty), .v (.int .i64 0)]⟩
  | 145 => some ⟨1, 8, .func, [.v .nilFunc]⟩
  | 146 => some ⟨1, 8, .func, [.v .nilFunc]⟩
  | 148 => some ⟨1, 8, .int .u64, [.v (.int .u64 0)]⟩
  | 149 => some ⟨1, 8, .func, [.v .nilFunc]⟩
  | 150 => some ⟨1, 8, .func, [.v .nilFunc]⟩
  | 152 => some ⟨1, 8, .func, [.v .nilFunc]⟩
  | 153 => some ⟨1, 8, .func, [.v .nilFunc]⟩
  | 154 => some ⟨1, 8, .func, [.v .nilFunc]⟩
  | 156 => some ⟨1, 4, .int .u32, [.v (.int .u32 0)]⟩
  | 158 => some ⟨1, 8, .int .u64, [.v (.int .u64 0)]⟩
  | 159 => some ⟨1, 8, .func, [.v .nilFunc]⟩
  | 160 => some ⟨1, 8, .func, [.v .nilFunc]⟩
  | 161 => some ⟨1, 8, .func, [.v .nilFunc]⟩
  | 162 => some ⟨1, 8, .func, [.v .nilFunc]⟩
  | 163 => some ⟨1, 8, .func, [.v .nilFunc]⟩
  | 166 => some ⟨1, 8, .func, [.v .nilFunc]⟩
  | 168 => some ⟨1, 8, .func, [.v .nilFunc]⟩
  | 169 => some ⟨1, 8, .func, [.v .nilFunc]⟩
  | 171 => some ⟨2, 2, .struct [(0, 1), (1, 1)], [.v (.int .u8 0), .v (.int .u8 0)]⟩
  | 172 => some ⟨2, 2, .struct [(0, 1), (1, 1)], [.v (.int .u8 0), .v (.int .u8 0)]⟩
  | 175 => some ⟨1, 8, .func, [.v .nilFunc]⟩
  | 176 => some ⟨1, 8, .func, [.v .nilFunc]⟩
  | 177 => some ⟨4, 40, .struct [(0, 1), (1, 1), (2, 1), (3, 1)], [.v (.pointer none), .v (.pointer none), .v (.pointer none), .v (.string .empty)]⟩
  | 182 => some ⟨1, 8, .func, [.v .nilFunc]⟩
  | 185 => some ⟨1, 8, .func, [.v .nilFunc]⟩
  | 186 => some ⟨1, 8, .ptr, [.v (.pointer none)]⟩
  | 189 => some ⟨11, 48, .struct [(0, 1), (1, 1), (2, 1), (3, 1), (4, 1), (5, 1), (6, 1), (7, 1), (8, 1), (9, 1), (10, 1)], [.v (.int .u64 0), .v (.int .u64 0), .v (.int .u32 0), .v (.int .u8 0), .v (.int .u8 0), .v (.int .u8 0), .v (.int .u8 0), .v .nilFunc, .v (.pointer none), .v (.int .i32 0), .v (.int .i32 0)]⟩
  | _ => none
theorem ty_ok (t : TypeId) (ti : TI) (h : ty t = some ti) : TIok Tryd.prog t ti := by
  unfold ty at h
  split at h
  · cases h; exact ⟨by kernel_rfl, Tryd.underlying2, rfl⟩
  · cases h; exact ⟨by kernel_rfl, Tryd.underlying3, rfl⟩
  · cases h; exact ⟨by kernel_rfl, Tryd.underlying4, rfl⟩
  · cases h; exact ⟨by kernel_rfl, Tryd.underlying5, rfl⟩
  · cases h; exact ⟨by kernel_rfl, (show structOffs Tryd.prog 7 = some [(0, 1), (1, 1), (2, 1), (3, 1)] by kernel_rfl), rfl⟩
  · cases h; exact ⟨by kernel_rfl, Tryd.underlying9, rfl⟩
  · cases h; exact ⟨by kernel_rfl, Tryd.underlying12, rfl⟩
  · cases h; exact ⟨by kernel_rfl, (show structOffs Tryd.prog 13 = some [(0, 1), (1, 1)] by kernel_rfl), rfl⟩
  · cases h; exact ⟨by kernel_rfl, ⟨_, Tryd.underlying15⟩, rfl⟩
  · cases h; exact ⟨by kernel_rfl, ⟨_, Tryd.underlying16⟩, rfl⟩
  · cases h; exact ⟨by kernel_rfl, ⟨_, Tryd.underlying17⟩, rfl⟩
  · cases h; exact ⟨by kernel_rfl, (show structOffs Tryd.prog 18 = some [(0, 1)] by kernel_rfl), rfl⟩
  · cases h; exact ⟨by kernel_rfl, ⟨_, Tryd.underlying20⟩, rfl⟩
  · cases h; exact ⟨by kernel_rfl, Tryd.underlying21, rfl⟩
  · cases h; exact ⟨by kernel_rfl, (show structOffs Tryd.prog 22 = some [(0, 1), (1, 1), (2, 1), (3, 1), (4, 1), (5, 1), (6, 1), (7, 1), (8, 1)] by kernel_rfl), rfl⟩
  · cases h; exact ⟨by kernel_rfl, (show structOffs Tryd.prog 23 = some [(0, 1), (1, 1), (2, 1), (3, 1), (4, 1), (5, 1), (6, 1), (7, 1), (8, 1)] by kernel_rfl), rfl⟩
  · cases h; exact ⟨by kernel_rfl, ⟨_, _, _, Tryd.underlying24⟩, rfl⟩
  · cases h; exact ⟨by kernel_rfl, (show structOffs Tryd.prog 25 = some [(0, 1), (1, 1), (2, 1), (3, 1), (4, 1), (5, 1), (6, 1), (7, 1), (8, 1)] by kernel_rfl), rfl⟩
  · cases h; exact ⟨by kernel_rfl, ⟨_, _, _, Tryd.underlying26⟩, rfl⟩
  · cases h; exact ⟨by kernel_rfl, ⟨_, _, _, Tryd.underlying27⟩, rfl⟩
  · cases h; exact ⟨by kernel_rfl, Tryd.underlying28, rfl⟩
  · cases h; exact ⟨by kernel_rfl, Tryd.underlying29, rfl⟩
  · cases h; exact ⟨by kernel_rfl, (show structOffs Tryd.prog 30 = some [(0, 1), (1, 1), (2, 1), (3, 1)] by kernel_rfl), rfl⟩
  · cases h; exact ⟨by kernel_rfl, (show structOffs Tryd.prog 31 = some [(0, 1), (1, 1), (2, 1), (3, 1)] by kernel_rfl), rfl⟩
  · cases h; exact ⟨by kernel_rfl, ⟨_, _, _, Tryd.underlying32⟩, rfl⟩
  · cases h; exact ⟨by kernel_rfl, Tryd.underlying33, rfl⟩
  · cases h; exact ⟨by kernel_rfl, ⟨_, _, _, Tryd.underlying34⟩, rfl⟩
  · cases h; exact ⟨by kernel_rfl, Tryd.underlying35, rfl⟩
  · cases h; exact ⟨by kernel_rfl, (show structOffs Tryd.prog 36 = some [(0, 1), (1, 1), (2, 1), (3, 1)] by kernel_rfl), rfl⟩
  · cases h; exact ⟨by kernel_rfl, (show structOffs Tryd.prog 37 = some [(0, 1), (1, 1), (2, 1), (3, 1)] by kernel_rfl), rfl⟩
  · cases h; exact ⟨by kernel_rfl, ⟨_, _, _, Tryd.underlying38⟩, rfl⟩
  · cases h; exact ⟨by kernel_rfl, ⟨_, _, _, Tryd.underlying39⟩, rfl⟩
  · cases h; exact ⟨by kernel_rfl, ⟨_, _, _, Tryd.underlying40⟩, rfl⟩
  · cases h; exact ⟨by kernel_rfl, ⟨_, _, _, Tryd.underlying41⟩, rfl⟩
  · cases h; exact ⟨by kernel_rfl, ⟨_, _, _, Tryd.underlying42⟩, rfl⟩
  · cases h; exact ⟨by kernel_rfl, ⟨_, _, _, Tryd.underlying43⟩, rfl⟩
  · cases h; exact ⟨by kernel_rfl, Tryd.underlying44, rfl⟩
  · cases h; exact ⟨by kernel_rfl, Tryd.underlying45, rfl⟩
  · cases h; exact ⟨by kernel_rfl, (show structOffs Tryd.prog 46 = some [(0, 1), (1, 1)] by kernel_rfl), rfl⟩
  · cases h; exact ⟨by kernel_rfl, (show structOffs Tryd.prog 47 = some [(0, 1), (1, 1)] by kernel_rfl), rfl⟩
  · cases h; exact ⟨by kernel_rfl, ⟨_, _, _, Tryd.underlying48⟩, rfl⟩
  · cases h; exact ⟨by kernel_rfl, ⟨_, _, _, Tryd.underlying50⟩, rfl⟩
  · cases h; exact ⟨by kernel_rfl, Tryd.underlying51, rfl⟩
  · cases h; exact ⟨by kernel_rfl, Tryd.underlying52, rfl⟩
  · cases h; exact ⟨by kernel_rfl, (show structOffs Tryd.prog 53 = some [(0, 1), (1, 1)] by kernel_rfl), rfl⟩
  · cases h; exact ⟨by kernel_rfl, (show structOffs Tryd.prog 54 = some [(0, 1), (1, 1)] by kernel_rfl), rfl⟩
  · cases h; exact ⟨by kernel_rfl, ⟨_, _, _, Tryd.underlying55⟩, rfl⟩
  · cases h; exact ⟨by kernel_rfl, ⟨_, _, _, Tryd.underlying56⟩, rfl⟩
  · cases h; exact ⟨by kernel_rfl, ⟨_, _, _, Tryd.underlying57⟩, rfl⟩
  · cases h; exact ⟨by kernel_rfl, ⟨_, _, _, Tryd.underlying58⟩, rfl⟩
  · cases h; exact ⟨by kernel_rfl, Tryd.underlying59, rfl⟩
  · cases h; exact ⟨by kernel_rfl, ⟨_, _, _, Tryd.underlying60⟩, rfl⟩
  · cases h; exact ⟨by kernel_rfl, ⟨_, _, _, Tryd.underlying61⟩, rfl⟩
  · cases h; exact ⟨by kernel_rfl, ⟨_, _, _, Tryd.underlying62⟩, rfl⟩
  · cases h; exact ⟨by kernel_rfl, ⟨_, _, _, Tryd.underlying63⟩, rfl⟩
  · cases h; exact ⟨by kernel_rfl, Tryd.underlying64, rfl⟩
  · cases h; exact ⟨by kernel_rfl, ⟨_, _, _, Tryd.underlying65⟩, rfl⟩
  · cases h; exact ⟨by kernel_rfl, ⟨_, _, _, Tryd.underlying66⟩, rfl⟩
  · cases h; exact ⟨by kernel_rfl, ⟨_, _, _, Tryd.underlying67⟩, rfl⟩
  · cases h; exact ⟨by kernel_rfl, ⟨_, _, _, Tryd.underlying68⟩, rfl⟩
  · cases h; exact ⟨by kernel_rfl, ⟨_, _, _, Tryd.underlying69⟩, rfl⟩
  · cases h; exact ⟨by kernel_rfl, ⟨_, _, _, Tryd.underlying70⟩, rfl⟩
  · cases h; exact ⟨by kernel_rfl, ⟨_, _, _, Tryd.underlying71⟩, rfl⟩
  · cases h; exact ⟨by kernel_rfl, ⟨_, _, _, Tryd.underlying72⟩, rfl⟩
  · cases h; exact ⟨by kernel_rfl, ⟨_, _, _, Tryd.underlying73⟩, rfl⟩
  · cases h; exact ⟨by kernel_rfl, ⟨_, _, _, Tryd.underlying74⟩, rfl⟩
  · cases h; exact ⟨by kernel_rfl, ⟨_, _, _, Tryd.underlying75⟩, rfl⟩
  · cases h; exact ⟨by kernel_rfl, ⟨_, _, _, Tryd.underlying76⟩, rfl⟩
  · cases h; exact ⟨by kernel_rfl, ⟨_, _, _, Tryd.underlying77⟩, rfl⟩
  · cases h; exact ⟨by kernel_rfl, ⟨_, _, _, Tryd.underlying78⟩, rfl⟩
  · cases h; exact ⟨by kernel_rfl, ⟨_, _, _, Tryd.underlying79⟩, rfl⟩
  · cases h; exact ⟨by kernel_rfl, ⟨_, _, _, Tryd.underlying80⟩, rfl⟩
  · cases h; exact ⟨by kernel_rfl, ⟨_, _, _, Tryd.underlying81⟩, rfl⟩
  · cases h; exact ⟨by kernel_rfl, ⟨_, _, _, Tryd.underlying82⟩, rfl⟩
  · cases h; exact ⟨by kernel_rfl, ⟨_, _, _, Tryd.underlying83⟩, rfl⟩
  · cases h; exact ⟨by kernel_rfl, ⟨_, _, _, Tryd.underlying84⟩, rfl⟩
  · cases h; exact ⟨by kernel_rfl, ⟨_, _, _, Tryd.underlying85⟩, rfl⟩
  · cases h; exact ⟨by kernel_rfl, ⟨_, _, _, Tryd.underlying86⟩, rfl⟩
  · cases h; exact ⟨by kernel_rfl, (show structOffs Tryd.prog 87 = some [(0, 1), (1, 1), (2, 1), (3, 1)] by kernel_rfl), rfl⟩
  · cases h; exact ⟨by kernel_rfl, (show structOffs Tryd.prog 88 = some [(0, 1), (1, 1), (2, 1), (3, 1)] by kernel_rfl), rfl⟩
  · cases h; exact ⟨by kernel_rfl, ⟨_, _, _, Tryd.underlying89⟩, rfl⟩
  · cases h; exact ⟨by kernel_rfl, (show structOffs Tryd.prog 90 = some [(0, 1), (1, 1), (2, 1)] by kernel_rfl), rfl⟩
  · cases h; exact ⟨by kernel_rfl, (show structOffs Tryd.prog 91 = some [(0, 1), (1, 1), (2, 1)] by kernel_rfl), rfl⟩
  · cases h; exact ⟨by kernel_rfl, (show structOffs Tryd.prog 92 = some [(0, 1), (1, 1), (2, 1), (3, 1), (4, 1), (5, 1), (6, 1)] by kernel_rfl), rfl⟩
  · cases h; exact ⟨by kernel_rfl, (show structOffs Tryd.prog 93 = some [(0, 1), (1, 1), (2, 1), (3, 1), (4, 1), (5, 1), (6, 1)] by kernel_rfl), rfl⟩
  · cases h; exact ⟨by kernel_rfl, ⟨_, _, _, Tryd.underlying94⟩, rfl⟩
  · cases h; exact ⟨by kernel_rfl, ⟨_, _, _, Tryd.underlying95⟩, rfl⟩
  · cases h; exact ⟨by kernel_rfl, ⟨_, _, _, Tryd.underlying96⟩, rfl⟩
  · cases h; exact ⟨by kernel_rfl, ⟨_, _, _, Tryd.underlying97⟩, rfl⟩
  · cases h; exact ⟨by kernel_rfl, ⟨_, _, _, Tryd.underlying98⟩, rfl⟩
  · cases h; exact ⟨by kernel_rfl, ⟨_, _, _, Tryd.underlying99⟩, rfl⟩
  · cases h; exact ⟨by kernel_rfl, ⟨_, _, _, Tryd.underlying100⟩, rfl⟩
  · cases h; exact ⟨by kernel_rfl, (show structOffs Tryd.prog 101 = some [(0, 1), (1, 1), (2, 1), (3, 1), (4, 1), (5, 1), (6, 1)] by kernel_rfl), rfl⟩
  · cases h; exact ⟨by kernel_rfl, ⟨_, _, _, Tryd.underlying102⟩, rfl⟩
  · cases h; exact ⟨by kernel_rfl, ⟨_, _, _, Tryd.underlying103⟩, rfl⟩
  · cases h; exact ⟨by kernel_rfl, ⟨_, _, _, Tryd.underlying104⟩, rfl⟩
  · cases h; exact ⟨by kernel_rfl, ⟨_, _, _, Tryd.underlying105⟩, rfl⟩
  · cases h; exact ⟨by kernel_rfl, ⟨_, _, _, Tryd.underlying106⟩, rfl⟩
  · cases h; exact ⟨by kernel_rfl, ⟨_, _, _, Tryd.underlying107⟩, rfl⟩
  · cases h; exact ⟨by kernel_rfl, (show structOffs Tryd.prog 108 = some [(0, 1), (1, 1), (2, 1), (3, 1)] by kernel_rfl), rfl⟩
  · cases h; exact ⟨by kernel_rfl, ⟨_, _, _, Tryd.underlying109⟩, rfl⟩
  · cases h; exact ⟨by kernel_rfl, Tryd.underlying110, rfl⟩
  · cases h; exact ⟨by kernel_rfl, (show structOffs Tryd.prog 111 = some [(0, 1), (1, 1), (2, 1), (3, 1), (4, 1)] by kernel_rfl), rfl⟩
  · cases h; exact ⟨by kernel_rfl, (show structOffs Tryd.prog 112 = some [(0, 1), (1, 1), (2, 1), (3, 1), (4, 1)] by kernel_rfl), rfl⟩
  · cases h; exact ⟨by kernel_rfl, ⟨_, _, _, Tryd.underlying113⟩, rfl⟩
  · cases h; exact ⟨by kernel_rfl, ⟨_, _, _, Tryd.underlying114⟩, rfl⟩
  · cases h; exact ⟨by kernel_rfl, Tryd.underlying115, rfl⟩
  · cases h; exact ⟨by kernel_rfl, (show structOffs Tryd.prog 116 = some [(0, 1), (1, 1), (2, 1), (3, 1), (4, 1)] by kernel_rfl), rfl⟩
  · cases h; exact ⟨by kernel_rfl, (show structOffs Tryd.prog 117 = some [(0, 1), (1, 1), (2, 1), (3, 1), (4, 1)] by kernel_rfl), rfl⟩
  · cases h; exact ⟨by kernel_rfl, ⟨_, _, _, Tryd.underlying118⟩, rfl⟩
  · cases h; exact ⟨by kernel_rfl, ⟨_, _, _, Tryd.underlying120⟩, rfl⟩
  · cases h; exact ⟨by kernel_rfl, ⟨_, _, _, Tryd.underlying121⟩, rfl⟩
  · cases h; exact ⟨by kernel_rfl, ⟨_, _, _, Tryd.underlying122⟩, rfl⟩
  · cases h; exact ⟨by kernel_rfl, ⟨_, _, _, Tryd.underlying123⟩, rfl⟩
  · cases h; exact ⟨by kernel_rfl, ⟨_, _, _, Tryd.underlying124⟩, rfl⟩
  · cases h; exact ⟨by kernel_rfl, ⟨_, _, _, Tryd.underlying125⟩, rfl⟩
  · cases h; exact ⟨by kernel_rfl, ⟨_, _, _, Tryd.underlying126⟩, rfl⟩
  · cases h; exact ⟨by kernel_rfl, Tryd.underlying127, rfl⟩
  · cases h; exact ⟨by kernel_rfl, ⟨_, _, _, Tryd.underlying128⟩, rfl⟩
  · cases h; exact ⟨by kernel_rfl, ⟨_, _, _, Tryd.underlying129⟩, rfl⟩
  · cases h; exact ⟨by kernel_rfl, ⟨_, _, _, Tryd.underlying130⟩, rfl⟩
  · cases h; exact ⟨by kernel_rfl, ⟨_, _, _, Tryd.underlying131⟩, rfl⟩
  · cases h; exact ⟨by kernel_rfl, ⟨_, _, _, Tryd.underlying132⟩, rfl⟩
  · cases h; exact ⟨by kernel_rfl, ⟨_, _, _, Tryd.underlying133⟩, rfl⟩
  · cases h; exact ⟨by kernel_rfl, ⟨_, _, _, Tryd.underlying134⟩, rfl⟩
  · cases h; exact ⟨by kernel_rfl, ⟨_, _, _, Tryd.underlying135⟩, rfl⟩
  · cases h; exact ⟨by kernel_rfl, Tryd.underlying136, rfl⟩
  · cases h; exact ⟨by kernel_rfl, ⟨_, _, _, Tryd.underlying137⟩, rfl⟩
  · cases h; exact ⟨by kernel_rfl, ⟨_, _, _, Tryd.underlying138⟩, rfl⟩
  · cases h; exact ⟨by kernel_rfl, ⟨_, _, _, Tryd.underlying139⟩, rfl⟩
  · cases h; exact ⟨by kernel_rfl, (show structOffs Tryd.prog 140 = some [(0, 1), (1, 1)] by kernel_rfl), rfl⟩
  · cases h; exact ⟨by kernel_rfl, (show structOffs Tryd.prog 141 = some [(0, 1), (1, 1)] by kernel_rfl), rfl⟩
  · cases h; exact ⟨by kernel_rfl, ⟨_, _, _, Tryd.underlying143⟩, rfl⟩
  · cases h; exact ⟨by kernel_rfl, (show structOffs Tryd.prog 144 = some [(0, 1), (1, 1)] by kernel_rfl), rfl⟩
  · cases h; exact ⟨by kernel_rfl, ⟨_, _, _, Tryd.underlying145⟩, rfl⟩
  · cases h; exact ⟨by kernel_rfl, ⟨_, _, _, Tryd.underlying146⟩, rfl⟩
  · cases h; exact ⟨by kernel_rfl, Tryd.underlying148, rfl⟩
  · cases h; exact ⟨by kernel_rfl, ⟨_, _, _, Tryd.underlying149⟩, rfl⟩
  · cases h; exact ⟨by kernel_rfl, ⟨_, _, _, Tryd.underlying150⟩, rfl⟩
  · cases h; exact ⟨by kernel_rfl, ⟨_, _, _, Tryd.underlying152⟩, rfl⟩
  · cases h; exact ⟨by kernel_rfl, ⟨_, _, _, Tryd.underlying153⟩, rfl⟩
  · cases h; exact ⟨by kernel_rfl, ⟨_, _, _, Tryd.underlying154⟩, rfl⟩
  · cases h; exact ⟨by kernel_rfl, Tryd.underlying156, rfl⟩
  · cases h; exact ⟨by kernel_rfl, Tryd.underlying158, rfl⟩
  · cases h; exact ⟨by kernel_rfl, ⟨_, _, _, Tryd.underlying159⟩, rfl⟩
  · cases h; exact ⟨by kernel_rfl, ⟨_, _, _, Tryd.underlying160⟩, rfl⟩
  · cases h; exact ⟨by kernel_rfl, ⟨_, _, _, Tryd.underlying161⟩, rfl⟩
  · cases h; exact ⟨by kernel_rfl, ⟨_, _, _, Tryd.underlying162⟩, rfl⟩
  · cases h; exact ⟨by kernel_rfl, ⟨_, _, _, Tryd.underlying163⟩, rfl⟩
  · cases h; exact ⟨by kernel_rfl, ⟨_, _, _, Tryd.underlying166⟩, rfl⟩
  · cases h; exact ⟨by kernel_rfl, ⟨_, _, _, Tryd.underlying168⟩, rfl⟩
  · cases h; exact ⟨by kernel_rfl, ⟨_, _, _, Tryd.underlying169⟩, rfl⟩
  · cases h; exact ⟨by kernel_rfl, (show structOffs Tryd.prog 171 = some [(0, 1), (1, 1)] by kernel_rfl), rfl⟩
  · cases h; exact ⟨by kernel_rfl, (show structOffs Tryd.prog 172 = some [(0, 1), (1, 1)] by kernel_rfl), rfl⟩
  · cases h; exact ⟨by kernel_rfl, ⟨_, _, _, Tryd.underlying175⟩, rfl⟩
  · cases h; exact ⟨by kernel_rfl, ⟨_, _, _, Tryd.underlying176⟩, rfl⟩
  · cases h; exact ⟨by kernel_rfl, (show structOffs Tryd.prog 177 = some [(0, 1), (1, 1), (2, 1), (3, 1)] by kernel_rfl), rfl⟩
  · cases h; exact ⟨by kernel_rfl, ⟨_, _, _, Tryd.underlying182⟩, rfl⟩
  · cases h; exact ⟨by kernel_rfl, ⟨_, _, _, Tryd.underlying185⟩, rfl⟩
  · cases h; exact ⟨by kernel_rfl, ⟨_, Tryd.underlying186⟩, rfl⟩
  · cases h; exact ⟨by kernel_rfl, (show structOffs Tryd.prog 189 = some [(0, 1), (1, 1), (2, 1), (3, 1), (4, 1), (5, 1), (6, 1), (7, 1), (8, 1), (9, 1), (10, 1)] by kernel_rfl), rfl⟩
  · cases h
noncomputable def E : Env := ⟨Tryd.prog, ty, ty_ok, by kernel_rfl, [(3, fun cs => ∃ m, cs[0]? = some (.int .i64 m))]⟩
theorem E_P : E.P = Tryd.prog := rfl
@[simp] theorem E_ty2 : E.ty 2 = some ⟨1, 8, .int .i64, [.v (.int .i64 0)]⟩ := rfl
@[simp] theorem E_ty3 : E.ty 3 = some ⟨1, 8, .int .i64, [.v (.int .i64 0)]⟩ := rfl
@[simp] theorem E_ty4 : E.ty 4 = some ⟨1, 1, .bool, [.v (.bool false)]⟩ := rfl
@[simp] theorem E_ty5 : E.ty 5 = some ⟨1, 1, .int .u8, [.v (.int .u8 0)]⟩ := rfl
@[simp] theorem E_ty7 : E.ty 7 = some ⟨4, 24, .struct [(0, 1), (1, 1), (2, 1), (3, 1)], [.v (.int .i64 0), .v (.int .i64 0), .v (.bool false), .v (.int .u8 0)]⟩ := rfl
@[simp] theorem E_ty9 : E.ty 9 = some ⟨1, 16, .str, [.v (.string .empty)]⟩ := rfl
@[simp] theorem E_ty12 : E.ty 12 = some ⟨1, 8, .int .u64, [.v (.int .u64 0)]⟩ := rfl
@[simp] theorem E_ty13 : E.ty 13 = some ⟨2, 24, .struct [(0, 1), (1, 1)], [.v (.string .empty), .v (.int .u64 0)]⟩ := rfl
@[simp] theorem E_ty15 : E.ty 15 = some ⟨1, 8, .ptr, [.v (.pointer none)]⟩ := rfl
@[simp] theorem E_ty16 : E.ty 16 = some ⟨1, 8, .ptr, [.v (.pointer none)]⟩ := rfl
@[simp] theorem E_ty17 : E.ty 17 = some ⟨1, 8, .ptr, [.v (.pointer none)]⟩ := rfl
@[simp] theorem E_ty18 : E.ty 18 = some ⟨1, 8, .struct [(0, 1)], [.v (.pointer none)]⟩ := rfl
@[simp] theorem E_ty20 : E.ty 20 = some ⟨1, 16, .iface, [.v .nilIface]⟩ := rfl
@[simp] theorem E_ty21 : E.ty 21 = some ⟨1, 4, .int .i32, [.v (.int .i32 0)]⟩ := rfl
@[simp] theorem E_ty22 : E.ty 22 = some ⟨9, 72, .struct [(0, 1), (1, 1), (2, 1), (3, 1), (4, 1), (5, 1), (6, 1), (7, 1), (8, 1)], [.v (.int .i64 0), .v (.int .i64 0), .v (.int .i64 0), .v (.int .i64 0), .v (.int .i64 0), .v (.int .i64 0), .v (.int .i64 0), .v (.int .i64 0), .v (.int .i64 0)]⟩ := rfl
@[simp] theorem E_ty23 : E.ty 23 = some ⟨9, 72, .struct [(0, 1), (1, 1), (2, 1), (3, 1), (4, 1), (5, 1), (6, 1), (7, 1), (8, 1)], [.v (.int .i64 0), .v (.int .i64 0), .v (.int .i64 0), .v (.int .i64 0), .v (.int .i64 0), .v (.int .i64 0), .v (.int .i64 0), .v (.int .i64 0), .v (.int .i64 0)]⟩ := rfl
@[simp] theorem E_ty24 : E.ty 24 = some ⟨1, 8, .func, [.v .nilFunc]⟩ := rfl
@[simp] theorem E_ty25 : E.ty 25 = some ⟨9, 72, .struct [(0, 1), (1, 1), (2, 1), (3, 1), (4, 1), (5, 1), (6, 1), (7, 1), (8, 1)], [.v (.int .i64 0), .v (.int .i64 0), .v (.int .i64 0), .v (.int .i64 0), .v (.int .i64 0), .v (.int .i64 0), .v (.int .i64 0), .v (.int .i64 0), .v (.int .i64 0)]⟩ := rfl
@[simp] theorem E_ty26 : E.ty 26 = some ⟨1, 8, .func, [.v .nilFunc]⟩ := rfl
@[simp] theorem E_ty27 : E.ty 27 = some ⟨1, 8, .func, [.v .nilFunc]⟩ := rfl
@[simp] theorem E_ty28 : E.ty 28 = some ⟨1, 24, .slice 3, [.nl true 1 none]⟩ := rfl
@[simp] theorem E_ty29 : E.ty 29 = some ⟨1, 24, .slice 101, [.nl true 7 none]⟩ := rfl
@[simp] theorem E_ty30 : E.ty 30 = some ⟨4, 72, .struct [(0, 1), (1, 1), (2, 1), (3, 1)], [.v (.string .empty), .v (.int .i64 0), .nl true 1 none, .nl true 7 none]⟩ := rfl
@[simp] theorem E_ty31 : E.ty 31 = some ⟨4, 72, .struct [(0, 1), (1, 1), (2, 1), (3, 1)], [.v (.string .empty), .v (.int .i64 0), .nl true 1 none, .nl true 7 none]⟩ := rfl
@[simp] theorem E_ty32 : E.ty 32 = some ⟨1, 8, .func, [.v .nilFunc]⟩ := rfl
@[simp] theorem E_ty33 : E.ty 33 = some ⟨1, 24, .slice 4, [.nl true 1 none]⟩ := rfl
@[simp] theorem E_ty34 : E.ty 34 = some ⟨1, 8, .func, [.v .nilFunc]⟩ := rfl
@[simp] theorem E_ty35 : E.ty 35 = some ⟨1, 24, .slice 93, [.nl true 7 none]⟩ := rfl
@[simp] theorem E_ty36 : E.ty 36 = some ⟨4, 72, .struct [(0, 1), (1, 1), (2, 1), (3, 1)], [.v (.string .empty), .v (.int .i64 0), .nl true 1 none, .nl true 7 none]⟩ := rfl
@[simp] theorem E_ty37 : E.ty 37 = some ⟨4, 72, .struct [(0, 1), (1, 1), (2, 1), (3, 1)], [.v (.string .empty), .v (.int .i64 0), .nl true 1 none, .nl true 7 none]⟩ := rfl
@[simp] theorem E_ty38 : E.ty 38 = some ⟨1, 8, .func, [.v .nilFunc]⟩ := rfl
@[simp] theorem E_ty39 : E.ty 39 = some ⟨1, 8, .func, [.v .nilFunc]⟩ := rfl
@[simp] theorem E_ty40 : E.ty 40 = some ⟨1, 8, .func, [.v .nilFunc]⟩ := rfl
@[simp] theorem E_ty41 : E.ty 41 = some ⟨1, 8, .func, [.v .nilFunc]⟩ := rfl
@[simp] theorem E_ty42 : E.ty 42 = some ⟨1, 8, .func, [.v .nilFunc]⟩ := rfl
@[simp] theorem E_ty43 : E.ty 43 = some ⟨1, 8, .func, [.v .nilFunc]⟩ := rfl
@[simp] theorem E_ty44 : E.ty 44 = some ⟨1, 24, .slice 108, [.nl true 4 none]⟩ := rfl
@[simp] theorem E_ty45 : E.ty 45 = some ⟨1, 24, .slice 112, [.nl true 5 none]⟩ := rfl
@[simp] theorem E_ty46 : E.ty 46 = some ⟨2, 48, .struct [(0, 1), (1, 1)], [.nl true 4 none, .nl true 5 none]⟩ := rfl
@[simp] theorem E_ty47 : E.ty 47 = some ⟨2, 48, .struct [(0, 1), (1, 1)], [.nl true 4 none, .nl true 5 none]⟩ := rfl
@[simp] theorem E_ty48 : E.ty 48 = some ⟨1, 8, .func, [.v .nilFunc]⟩ := rfl
@[simp] theorem E_ty50 : E.ty 50 = some ⟨1, 8, .func, [.v .nilFunc]⟩ := rfl
@[simp] theorem E_ty51 : E.ty 51 = some ⟨1, 24, .slice 88, [.nl true 4 none]⟩ := rfl
@[simp] theorem E_ty52 : E.ty 52 = some ⟨1, 24, .slice 117, [.nl true 5 none]⟩ := rfl
@[simp] theorem E_ty53 : E.ty 53 = some ⟨2, 48, .struct [(0, 1), (1, 1)], [.nl true 4 none, .nl true 5 none]⟩ := rfl
@[simp] theorem E_ty54 : E.ty 54 = some ⟨2, 48, .struct [(0, 1), (1, 1)], [.nl true 4 none, .nl true 5 none]⟩ := rfl
@[simp] theorem E_ty55 : E.ty 55 = some ⟨1, 8, .func, [.v .nilFunc]⟩ := rfl
@[simp] theorem E_ty56 : E.ty 56 = some ⟨1, 8, .func, [.v .nilFunc]⟩ := rfl
@[simp] theorem E_ty57 : E.ty 57 = some ⟨1, 8, .func, [.v .nilFunc]⟩ := rfl
@[simp] theorem E_ty58 : E.ty 58 = some ⟨1, 8, .func, [.v .nilFunc]⟩ := rfl
@[simp] theorem E_ty59 : E.ty 59 = some ⟨1, 24, .slice 91, [.nl true 3 none]⟩ := rfl
@[simp] theorem E_ty60 : E.ty 60 = some ⟨1, 8, .func, [.v .nilFunc]⟩ := rfl
@[simp] theorem E_ty61 : E.ty 61 = some ⟨1, 8, .func, [.v .nilFunc]⟩ := rfl
@[simp] theorem E_ty62 : E.ty 62 = some ⟨1, 8, .func, [.v .nilFunc]⟩ := rfl
@[simp] theorem E_ty63 : E.ty 63 = some ⟨1, 8, .func, [.v .nilFunc]⟩ := rfl
@[simp] theorem E_ty64 : E.ty 64 = some ⟨1, 24, .slice 33, [.nl true 1 none]⟩ := rfl
@[simp] theorem E_ty65 : E.ty 65 = some ⟨1, 8, .func, [.v .nilFunc]⟩ := rfl
@[simp] theorem E_ty66 : E.ty 66 = some ⟨1, 8, .func, [.v .nilFunc]⟩ := rfl
@[simp] theorem E_ty67 : E.ty 67 = some ⟨1, 8, .func, [.v .nilFunc]⟩ := rfl
@[simp] theorem E_ty68 : E.ty 68 = some ⟨1, 8, .func, [.v .nilFunc]⟩ := rfl
@[simp] theorem E_ty69 : E.ty 69 = some ⟨1, 8, .func, [.v .nilFunc]⟩ := rfl
@[simp] theorem E_ty70 : E.ty 70 = some ⟨1, 8, .func, [.v .nilFunc]⟩ := rfl
@[simp] theorem E_ty71 : E.ty 71 = some ⟨1, 8, .func, [.v .nilFunc]⟩ := rfl
@[simp] theorem E_ty72 : E.ty 72 = some ⟨1, 8, .func, [.v .nilFunc]⟩ := rfl
@[simp] theorem E_ty73 : E.ty 73 = some ⟨1, 8, .func, [.v .nilFunc]⟩ := rfl
@[simp] theorem E_ty74 : E.ty 74 = some ⟨1, 8, .func, [.v .nilFunc]⟩ := rfl
@[simp] theorem E_ty75 : E.ty 75 = some ⟨1, 8, .func, [.v .nilFunc]⟩ := rfl
@[simp] theorem E_ty76 : E.ty 76 = some ⟨1, 8, .func, [.v .nilFunc]⟩ := rfl
@[simp] theorem E_ty77 : E.ty 77 = some ⟨1, 8, .func, [.v .nilFunc]⟩ := rfl
@[simp] theorem E_ty78 : E.ty 78 = some ⟨1, 8, .func, [.v .nilFunc]⟩ := rfl
@[simp] theorem E_ty79 : E.ty 79 = some ⟨1, 8, .func, [.v .nilFunc]⟩ := rfl
@[simp] theorem E_ty80 : E.ty 80 = some ⟨1, 8, .func, [.v .nilFunc]⟩ := rfl
@[simp] theorem E_ty81 : E.ty 81 = some ⟨1, 8, .func, [.v .nilFunc]⟩ := rfl
@[simp] theorem E_ty82 : E.ty 82 = some ⟨1, 8, .func, [.v .nilFunc]⟩ := rfl
@[simp] theorem E_ty83 : E.ty 83 = some ⟨1, 8, .func, [.v .nilFunc]⟩ := rfl
@[simp] theorem E_ty84 : E.ty 84 = some ⟨1, 8, .func, [.v .nilFunc]⟩ := rfl
@[simp] theorem E_ty85 : E.ty 85 = some ⟨1, 8, .func, [.v .nilFunc]⟩ := rfl
@[simp] theorem E_ty86 : E.ty 86 = some ⟨1, 8, .func, [.v .nilFunc]⟩ := rfl
@[simp] theorem E_ty87 : E.ty 87 = some ⟨4, 56, .struct [(0, 1), (1, 1), (2, 1), (3, 1)], [.v (.int .i64 0), .v (.int .i64 0), .v (.string .empty), .nl true 1 none]⟩ := rfl
@[simp] theorem E_ty88 : E.ty 88 = some ⟨4, 56, .struct [(0, 1), (1, 1), (2, 1), (3, 1)], [.v (.int .i64 0), .v (.int .i64 0), .v (.string .empty), .nl true 1 none]⟩ := rfl
@[simp] theorem E_ty89 : E.ty 89 = some ⟨1, 8, .func, [.v .nilFunc]⟩ := rfl
@[simp] theorem E_ty90 : E.ty 90 = some ⟨3, 40, .struct [(0, 1), (1, 1), (2, 1)], [.v (.int .i64 0), .v (.int .i64 0), .nl true 1 none]⟩ := rfl
@[simp] theorem E_ty91 : E.ty 91 = some ⟨3, 40, .struct [(0, 1), (1, 1), (2, 1)], [.v (.int .i64 0), .v (.int .i64 0), .nl true 1 none]⟩ := rfl
@[simp] theorem E_ty92 : E.ty 92 = some ⟨7, 80, .struct [(0, 1), (1, 1), (2, 1), (3, 1), (4, 1), (5, 1), (6, 1)], [.v (.int .i64 0), .v (.int .i64 0), .v (.int .i64 0), .v (.int .i64 0), .v (.int .i64 0), .v (.string .empty), .nl true 1 none]⟩ := rfl
@[simp] theorem E_ty93 : E.ty 93 = some ⟨7, 80, .struct [(0, 1), (1, 1), (2, 1), (3, 1), (4, 1), (5, 1), (6, 1)], [.v (.int .i64 0), .v (.int .i64 0), .v (.int .i64 0), .v (.int .i64 0), .v (.int .i64 0), .v (.string .empty), .nl true 1 none]⟩ := rfl
@[simp] theorem E_ty94 : E.ty 94 = some ⟨1, 8, .func, [.v .nilFunc]⟩ := rfl
@[simp] theorem E_ty95 : E.ty 95 = some ⟨1, 8, .func, [.v .nilFunc]⟩ := rfl
@[simp] theorem E_ty96 : E.ty 96 = some ⟨1, 8, .func, [.v .nilFunc]⟩ := rfl
@[simp] theorem E_ty97 : E.ty 97 = some ⟨1, 8, .func, [.v .nilFunc]⟩ := rfl
@[simp] theorem E_ty98 : E.ty 98 = some ⟨1, 8, .func, [.v .nilFunc]⟩ := rfl
@[simp] theorem E_ty99 : E.ty 99 = some ⟨1, 8, .func, [.v .nilFunc]⟩ := rfl
@[simp] theorem E_ty100 : E.ty 100 = some ⟨1, 8, .func, [.v .nilFunc]⟩ := rfl
@[simp] theorem E_ty101 : E.ty 101 = some ⟨7, 80, .struct [(0, 1), (1, 1), (2, 1), (3, 1), (4, 1), (5, 1), (6, 1)], [.v (.int .i64 0), .v (.int .i64 0), .v (.int .i64 0), .v (.int .i64 0), .v (.int .i64 0), .v (.string .empty), .nl true 1 none]⟩ := rfl
@[simp] theorem E_ty102 : E.ty 102 = some ⟨1, 8, .func, [.v .nilFunc]⟩ := rfl
@[simp] theorem E_ty103 : E.ty 103 = some ⟨1, 8, .func, [.v .nilFunc]⟩ := rfl
@[simp] theorem E_ty104 : E.ty 104 = some ⟨1, 8, .func, [.v .nilFunc]⟩ := rfl
@[simp] theorem E_ty105 : E.ty 105 = some ⟨1, 8, .func, [.v .nilFunc]⟩ := rfl
@[simp] theorem E_ty106 : E.ty 106 = some ⟨1, 8, .func, [.v .nilFunc]⟩ := rfl
@[simp] theorem E_ty107 : E.ty 107 = some ⟨1, 8, .func, [.v .nilFunc]⟩ := rfl
@[simp] theorem E_ty108 : E.ty 108 = some ⟨4, 56, .struct [(0, 1), (1, 1), (2, 1), (3, 1)], [.v (.int .i64 0), .v (.int .i64 0), .v (.string .empty), .nl true 1 none]⟩ := rfl
@[simp] theorem E_ty109 : E.ty 109 = some ⟨1, 8, .func, [.v .nilFunc]⟩ := rfl
@[simp] theorem E_ty110 : E.ty 110 = some ⟨1, 24, .slice 141, [.nl true 2 none]⟩ := rfl
@[simp] theorem E_ty111 : E.ty 111 = some ⟨5, 64, .struct [(0, 1), (1, 1), (2, 1), (3, 1), (4, 1)], [.v (.string .empty), .nl true 2 none, .v (.int .i64 0), .v (.int .i64 0), .v (.int .i64 0)]⟩ := rfl
@[simp] theorem E_ty112 : E.ty 112 = some ⟨5, 64, .struct [(0, 1), (1, 1), (2, 1), (3, 1), (4, 1)], [.v (.string .empty), .nl true 2 none, .v (.int .i64 0), .v (.int .i64 0), .v (.int .i64 0)]⟩ := rfl
@[simp] theorem E_ty113 : E.ty 113 = some ⟨1, 8, .func, [.v .nilFunc]⟩ := rfl
@[simp] theorem E_ty114 : E.ty 114 = some ⟨1, 8, .func, [.v .nilFunc]⟩ := rfl
@[simp] theorem E_ty115 : E.ty 115 = some ⟨1, 24, .slice 144, [.nl true 2 none]⟩ := rfl
@[simp] theorem E_ty116 : E.ty 116 = some ⟨5, 64, .struct [(0, 1), (1, 1), (2, 1), (3, 1), (4, 1)], [.v (.string .empty), .nl true 2 none, .v (.int .i64 0), .v (.int .i64 0), .v (.int .i64 0)]⟩ := rfl
@[simp] theorem E_ty117 : E.ty 117 = some ⟨5, 64, .struct [(0, 1), (1, 1), (2, 1), (3, 1), (4, 1)], [.v (.string .empty), .nl true 2 none, .v (.int .i64 0), .v (.int .i64 0), .v (.int .i64 0)]⟩ := rfl
@[simp] theorem E_ty118 : E.ty 118 = some ⟨1, 8, .func, [.v .nilFunc]⟩ := rfl
@[simp] theorem E_ty120 : E.ty 120 = some ⟨1, 8, .func, [.v .nilFunc]⟩ := rfl
@[simp] theorem E_ty121 : E.ty 121 = some ⟨1, 8, .func, [.v .nilFunc]⟩ := rfl
@[simp] theorem E_ty122 : E.ty 122 = some ⟨1, 8, .func, [.v .nilFunc]⟩ := rfl
@[simp] theorem E_ty123 : E.ty 123 = some ⟨1, 8, .func, [.v .nilFunc]⟩ := rfl
@[simp] theorem E_ty124 : E.ty 124 = some ⟨1, 8, .func, [.v .nilFunc]⟩ := rfl
@[simp] theorem E_ty125 : E.ty 125 = some ⟨1, 8, .func, [.v .nilFunc]⟩ := rfl
@[simp] theorem E_ty126 : E.ty 126 = some ⟨1, 8, .func, [.v .nilFunc]⟩ := rfl
@[simp] theorem E_ty127 : E.ty 127 = some ⟨1, 24, .slice 5, [.nl true 1 none]⟩ := rfl
@[simp] theorem E_ty128 : E.ty 128 = some ⟨1, 8, .func, [.v .nilFunc]⟩ := rfl
@[simp] theorem E_ty129 : E.ty 129 = some ⟨1, 8, .func, [.v .nilFunc]⟩ := rfl
@[simp] theorem E_ty130 : E.ty 130 = some ⟨1, 8, .func, [.v .nilFunc]⟩ := rfl
@[simp] theorem E_ty131 : E.ty 131 = some ⟨1, 8, .func, [.v .nilFunc]⟩ := rfl
@[simp] theorem E_ty132 : E.ty 132 = some ⟨1, 8, .func, [.v .nilFunc]⟩ := rfl
@[simp] theorem E_ty133 : E.ty 133 = some ⟨1, 8, .func, [.v .nilFunc]⟩ := rfl
@[simp] theorem E_ty134 : E.ty 134 = some ⟨1, 8, .func, [.v .nilFunc]⟩ := rfl
@[simp] theorem E_ty135 : E.ty 135 = some ⟨1, 8, .func, [.v .nilFunc]⟩ := rfl
@[simp] theorem E_ty136 : E.ty 136 = some ⟨1, 24, .slice 9, [.nl true 1 none]⟩ := rfl
@[simp] theorem E_ty137 : E.ty 137 = some ⟨1, 8, .func, [.v .nilFunc]⟩ := rfl
@[simp] theorem E_ty138 : E.ty 138 = some ⟨1, 8, .func, [.v .nilFunc]⟩ := rfl
@[simp] theorem E_ty139 : E.ty 139 = some ⟨1, 8, .func, [.v .nilFunc]⟩ := rfl
@[simp] theorem E_ty140 : E.ty 140 = some ⟨2, 24, .struct [(0, 1), (1, 1)], [.v (.string .empty), .v (.int .i64 0)]⟩ := rfl
@[simp] theorem E_ty141 : E.ty 141 = some ⟨2, 24, .struct [(0, 1), (1, 1)], [.v (.string .empty), .v (.int .i64 0)]⟩ := rfl
@[simp] theorem E_ty143 : E.ty 143 = some ⟨1, 8, .func, [.v .nilFunc]⟩ := rfl
@[simp] theorem E_ty144 : E.ty 144 = some ⟨2, 24, .struct [(0, 1), (1, 1)], [.v (.string .empty), .v (.int .i64 0)]⟩ := rfl
@[simp] theorem E_ty145 : E.ty 145 = some ⟨1, 8, .func, [.v .nilFunc]⟩ := rfl
@[simp] theorem E_ty146 : E.ty 146 = some ⟨1, 8, .func, [.v .nilFunc]⟩ := rfl
@[simp] theorem E_ty148 : E.ty 148 = some ⟨1, 8, .int .u64, [.v (.int .u64 0)]⟩ := rfl
@[simp] theorem E_ty149 : E.ty 149 = some ⟨1, 8, .func, [.v .nilFunc]⟩ := rfl
@[simp] theorem E_ty150 : E.ty 150 = some ⟨1, 8, .func, [.v .nilFunc]⟩ := rfl
@[simp] theorem E_ty152 : E.ty 152 = some ⟨1, 8, .func, [.v .nilFunc]⟩ := rfl
@[simp] theorem E_ty153 : E.ty 153 = some ⟨1, 8, .func, [.v .nilFunc]⟩ := rfl
@[simp] theorem E_ty154 : E.ty 154 = some ⟨1, 8, .func, [.v .nilFunc]⟩ := rfl
@[simp] theorem E_ty156 : E.ty 156 = some ⟨1, 4, .int .u32, [.v (.int .u32 0)]⟩ := rfl
@[simp] theorem E_ty158 : E.ty 158 = some ⟨1, 8, .int .u64, [.v (.int .u64 0)]⟩ := rfl
@[simp] theorem E_ty159 : E.ty 159 = some ⟨1, 8, .func, [.v .nilFunc]⟩ := rfl
@[simp] theorem E_ty160 : E.ty 160 = some ⟨1, 8, .func, [.v .nilFunc]⟩ := rfl
@[simp] theorem E_ty161 : E.ty 161 = some ⟨1, 8, .func, [.v .nilFunc]⟩ := rfl
@[simp] theorem E_ty162 : E.ty 162 = some ⟨1, 8, .func, [.v .nilFunc]⟩ := rfl
@[simp] theorem E_ty163 : E.ty 163 = some ⟨1, 8, .func, [.v .nilFunc]⟩ := rfl
@[simp] theorem E_ty166 : E.ty 166 = some ⟨1, 8, .func, [.v .nilFunc]⟩ := rfl
@[simp] theorem E_ty168 : E.ty 168 = some ⟨1, 8, .func, [.v .nilFunc]⟩ := rfl
@[simp] theorem E_ty169 : E.ty 169 = some ⟨1, 8, .func, [.v .nilFunc]⟩ := rfl
@[simp] theorem E_ty171 : E.ty 171 = some ⟨2, 2, .struct [(0, 1), (1, 1)], [.v (.int .u8 0), .v (.int .u8 0)]⟩ := rfl
@[simp] theorem E_ty172 : E.ty 172 = some ⟨2, 2, .struct [(0, 1), (1, 1)], [.v (.int .u8 0), .v (.int .u8 0)]⟩ := rfl
@[simp] theorem E_ty175 : E.ty 175 = some ⟨1, 8, .func, [.v .nilFunc]⟩ := rfl
@[simp] theorem E_ty176 : E.ty 176 = some ⟨1, 8, .func, [.v .nilFunc]⟩ := rfl
@[simp] theorem E_ty177 : E.ty 177 = some ⟨4, 40, .struct [(0, 1), (1, 1), (2, 1), (3, 1)], [.v (.pointer none), .v (.pointer none), .v (.pointer none), .v (.string .empty)]⟩ := rfl
@[simp] theorem E_ty182 : E.ty 182 = some ⟨1, 8, .func, [.v .nilFunc]⟩ := rfl
@[simp] theorem E_ty185 : E.ty 185 = some ⟨1, 8, .func, [.v .nilFunc]⟩ := rfl
@[simp] theorem E_ty186 : E.ty 186 = some ⟨1, 8, .ptr, [.v (.pointer none)]⟩ := rfl
@[simp] theorem E_ty189 : E.ty 189 = some ⟨11, 48, .struct [(0, 1), (1, 1), (2, 1), (3, 1), (4, 1), (5, 1), (6, 1), (7, 1), (8, 1), (9, 1), (10, 1)], [.v (.int .u64 0), .v (.int .u64 0), .v (.int .u32 0), .v (.int .u8 0), .v (.int .u8 0), .v (.int .u8 0), .v (.int .u8 0), .v .nilFunc, .v (.pointer none), .v (.int .i32 0), .v (.int .i32 0)]⟩ := rfl
end Go.Proofs.T
set_option linter.unusedVariables false
set_option linter.unusedSimpArgs false
set_option maxHeartbeats 1000000
namespace Go.Proofs.T
open Go.OM
theorem res44 : Tryd.f44.results.toList = [.tmp 4] := rfl
theorem ent44 : Enters E.P 44 := enters_of Tryd.func44 (by simp [Tryd.f44]) rfl
theorem laws_szIntS_ok (a1 : List Int) (left2 : Int) {r0 : Int} (h : laws_szIntS a1 left2 = some r0) : Ok E 44 [.val (.sl false 1 (List.map vi a1)), .val (vi left2)] [vi r0] [] := by
  refine ok_of_body (fn := Tryd.f44) Tryd.func44 rfl (by simp [Tryd.f44]) fun C hN hP => ?_
  have hPB : ∀ l, pinK [] l = true → pinB C.pin l = true := pinB_of (by rw [hP]; rfl)
  have hN' : C.N = 12 := hN
  clear hN
  unfold laws_szIntS at h
  refine SWp.seqR rfl (hPB _ rfl) fun K hK => ?_
  refine wps_cons rfl fun K hK => ?_; simp [hN']; refine hK _ ?_; clear hK
  refine wps_nil (hK _ ?_); clear hK
  refine SWp.seqR rfl (hPB _ rfl) fun K hK => ?_
  iterate 5 (refine wps_cons rfl fun K hK => ?_; simp [hN']; refine hK _ ?_; clear hK)
  refine wps_nil (hK _ ?_); clear hK
  refine SWp.seq ?_
  refine SWp.seqR rfl (hPB _ rfl) fun K hK => ?_
  iterate 2 (refine wps_cons rfl fun K hK => ?_; simp [hN']; refine hK _ ?_; clear hK)
  refine wps_nil (hK _ ?_); clear hK
  rcases ite_or h with ⟨hb3, h⟩ | ⟨hb4, h⟩
  · refine SWp.condT' (b := decide (IntKind.wrap .i64 (left2 - (a1.length : Int)) < 0)) (by simp) hb3 ?_
    refine SWp.seqR rfl (hPB _ rfl) fun K hK => ?_
    refine wps_cons rfl fun K hK => ?_; simp [hN']; refine hK _ ?_; clear hK
    refine wps_nil (hK _ ?_); clear hK
    cases h
    refine SWp.ret ?_
    simp [thenS, inBlockS, res44]
  · refine SWp.condF' (b := decide (IntKind.wrap .i64 (left2 - (a1.length : Int)) < 0)) (by simp) hb4 ?_
    refine SWp.skip ?_
    show SWp E C _ _ _
    refine SWp.seqR rfl (hPB _ rfl) fun K hK => ?_
    iterate 2 (refine wps_cons rfl fun K hK => ?_; simp [hN']; refine hK _ ?_; clear hK)
    refine wps_nil (hK _ ?_); clear hK
    cases h
    refine SWp.ret ?_
    simp [thenS, inBlockS, res44]
end Go.Proofs.T
set_option linter.unusedVariables false
set_option linter.unusedSimpArgs false
set_option maxHeartbeats 1000000
namespace Go.Proofs.T
open Go.OM
theorem res90 : Tryd.f90.results.toList = [.tmp 4] := rfl
theorem ent90 : Enters E.P 90 := enters_of Tryd.func90 (by simp [Tryd.f90]) rfl
theorem laws_szNode_ok (a1 : GNode) (left2 : Int) {r0 : Int} (h : laws_szNode a1 left2 = some r0) : Ok E 90 [.val (GNode.enc false a1), .val (vi left2)] [vi r0] [] := by
  refine ok_of_body (fn := Tryd.f90) Tryd.func90 rfl (by simp [Tryd.f90]) fun C hN hP => ?_
  have hPB : ∀ l, pinK [] l = true → pinB C.pin l = true := pinB_of (by rw [hP]; rfl)
  have hN' : C.N = 19 := hN
  clear hN
  unfold laws_szNode at h
  refine SWp.seqR rfl (hPB _ rfl) fun K hK => ?_
  iterate 2 (refine wps_cons rfl fun K hK => ?_; simp [hN']; refine hK _ ?_; clear hK)
  refine wps_nil (hK _ ?_); clear hK
  refine SWp.seqR rfl (hPB _ rfl) fun K hK => ?_
  iterate 6 (refine wps_cons rfl fun K hK => ?_; simp [hN']; refine hK _ ?_; clear hK)
  refine wps_nil (hK _ ?_); clear hK
  refine SWp.seq ?_
  refine SWp.seqR rfl (hPB _ rfl) fun K hK => ?_
  iterate 2 (refine wps_cons rfl fun K hK => ?_; simp [hN']; refine hK _ ?_; clear hK)
  refine wps_nil (hK _ ?_); clear hK
  rcases ite_or h with ⟨hb3, h⟩ | ⟨hb4, h⟩
  · refine SWp.condT' (b := decide (IntKind.wrap .i64 (left2 - (a1.Name.size : Int)) < 0)) (by simp) hb3 ?_
    refine SWp.seqR rfl (hPB _ rfl) fun K hK => ?_
    refine wps_cons rfl fun K hK => ?_; simp [hN']; refine hK _ ?_; clear hK
    refine wps_nil (hK _ ?_); clear hK
    cases h
    refine SWp.ret ?_
    simp [thenS, inBlockS, res90]
  · refine SWp.condF' (b := decide (IntKind.wrap .i64 (left2 - (a1.Name.size : Int)) < 0)) (by simp) hb4 ?_
    refine SWp.skip ?_
    show SWp E C _ _ _
    refine SWp.seqR rfl (hPB _ rfl) fun K hK => ?_
    iterate 3 (refine wps_cons rfl fun K hK => ?_; simp [hN']; refine hK _ ?_; clear hK)
    obtain ⟨r5, hc6, h⟩ := bind_some h
    refine wps_call [(.take, .tmp 13), (.take, .tmp 14)] rfl rfl ent44 (laws_szIntS_ok _ _ hc6) fun K hK => ?_; simp [hN']; refine hK _ ?_; clear hK
    refine wps_cons rfl fun K hK => ?_; simp [hN']; refine hK _ ?_; clear hK
    refine wps_nil (hK _ ?_); clear hK
    refine SWp.seq ?_
    refine SWp.seqR rfl (hPB _ rfl) fun K hK => ?_
    iterate 2 (refine wps_cons rfl fun K hK => ?_; simp [hN']; refine hK _ ?_; clear hK)
    refine wps_nil (hK _ ?_); clear hK
    rcases ite_or h with ⟨hb7, h⟩ | ⟨hb8, h⟩
    · refine SWp.condT' (b := decide (r5 < 0)) (by simp) hb7 ?_
      refine SWp.seqR rfl (hPB _ rfl) fun K hK => ?_
      refine wps_cons rfl fun K hK => ?_; simp [hN']; refine hK _ ?_; clear hK
      refine wps_nil (hK _ ?_); clear hK
      cases h
      refine SWp.ret ?_
      simp [thenS, inBlockS, res90]
    · refine SWp.condF' (b := decide (r5 < 0)) (by simp) hb8 ?_
      refine SWp.skip ?_
      show SWp E C _ _ _
      refine SWp.seqR rfl (hPB _ rfl) fun K hK => ?_
      iterate 2 (refine wps_cons rfl fun K hK => ?_; simp [hN']; refine hK _ ?_; clear hK)
      refine wps_nil (hK _ ?_); clear hK
      cases h
      refine SWp.ret ?_
      simp [thenS, inBlockS, res90]
end Go.Proofs.T
set_option linter.unusedVariables false
set_option linter.unusedSimpArgs false
set_option maxHeartbeats 1000000
namespace Go.Proofs.T
open Go.OM
theorem res56 : Tryd.f56.results.toList = [.tmp 4] := rfl
theorem ent56 : Enters E.P 56 := enters_of Tryd.func56 (by simp [Tryd.f56]) rfl
theorem laws_szNodeS_ok (a1 : List GNode) (left2 : Int) {r0 : Int} (h : laws_szNodeS a1 left2 = some r0) : Ok E 56 [.val (.sl false 4 (List.map (GNode.enc false) a1)), .val (vi left2)] [vi r0] [] := by
  refine ok_of_body (fn := Tryd.f56) Tryd.func56 rfl (by simp [Tryd.f56]) fun C hN hP => ?_
  have hPB : ∀ l, pinK [] l = true → pinB C.pin l = true := pinB_of (by rw [hP]; rfl)
  have hN' : C.N = 27 := hN
  clear hN
  unfold laws_szNodeS at h
  refine SWp.seqR rfl (hPB _ rfl) fun K hK => ?_
  refine wps_cons rfl fun K hK => ?_; simp [hN']; refine hK _ ?_; clear hK
  refine wps_nil (hK _ ?_); clear hK
  refine SWp.seqR rfl (hPB _ rfl) fun K hK => ?_
  iterate 5 (refine wps_cons rfl fun K hK => ?_; simp [hN']; refine hK _ ?_; clear hK)
  refine wps_nil (hK _ ?_); clear hK
  refine SWp.seq ?_
  refine SWp.seqR rfl (hPB _ rfl) fun K hK => ?_
  iterate 2 (refine wps_cons rfl fun K hK => ?_; simp [hN']; refine hK _ ?_; clear hK)
  refine wps_nil (hK _ ?_); clear hK
  rcases ite_or h with ⟨hb3, h⟩ | ⟨hb4, h⟩
  · refine SWp.condT' (b := decide (IntKind.wrap .i64 (left2 - (a1.length : Int)) < 0)) (by simp) hb3 ?_
    refine SWp.seqR rfl (hPB _ rfl) fun K hK => ?_
    refine wps_cons rfl fun K hK => ?_; simp [hN']; refine hK _ ?_; clear hK
    refine wps_nil (hK _ ?_); clear hK
    cases h
    refine SWp.ret ?_
    simp [thenS, inBlockS, res56]
  · refine SWp.condF' (b := decide (IntKind.wrap .i64 (left2 - (a1.length : Int)) < 0)) (by simp) hb4 ?_
    refine SWp.skip ?_
    show SWp E C _ _ _
    obtain ⟨j7, hj5, h⟩ := bind_some h
    refine SWp.seqC [1] [] (fun v : Int => ⟨[(1, .t (vi v))], []⟩) (fun v => j7 = Sum.inl v) (fun v hv => ?_) fun K6 hK6 => ?_
    rotate_left
    · refine SWp.seqR rfl (hPB _ rfl) fun K hK => ?_
      refine wps_cons rfl fun K hK => ?_; simp [hN']; refine hK _ ?_; clear hK
      refine wps_nil (hK _ ?_); clear hK
      refine SWp.block ?_
      refine SWp.loopO [] [0, 1, 5] [] (fun v : Int × Int => ⟨[(0, .t (.sl false 4 (List.map (GNode.enc false) a1))), (1, .t (vi v.1)), (5, .t (vi v.2))], []⟩) (laws_szNodeS_l1 a1) _ (IntKind.wrap .i64 (left2 - (a1.length : Int)), 0) hj5 (by simp [hN']) ?_
      intro g s12 h10 ho11
      obtain ⟨left8, i9⟩ := g
      simp only [laws_szNodeS_l1] at h10
      try dsimp only
      refine SWp.seq ?_
      refine SWp.seqR rfl (hPB _ rfl) fun K hK => ?_
      iterate 4 (refine wps_cons rfl fun K hK => ?_; simp [hN']; refine hK _ ?_; clear hK)
      refine wps_nil (hK _ ?_); clear hK
      rcases ite_or h10 with ⟨hb13, h10⟩ | ⟨hb14, h10⟩
      · refine SWp.condT' (b := decide (i9 < (a1.length : Int))) (by simp) hb13 ?_
        refine SWp.skip ?_
        show SWp E C _ _ _
        refine SWp.seq ?_
        refine SWp.block ?_
        refine SWp.seqR rfl (hPB _ rfl) fun K hK => ?_
        iterate 2 (refine wps_cons rfl fun K hK => ?_; simp [hN']; refine hK _ ?_; clear hK)
        obtain ⟨e15, he15, h10⟩ := bind_some h10
        obtain ⟨he15a, he15b, he15c, he15d⟩ := getI_some he15
        iterate 3 (refine wps_cons rfl fun K hK => ?_; simp [hN', he15a, he15b, he15c, he15d]; refine hK _ ?_; clear hK)
        obtain ⟨r16, hc17, h10⟩ := bind_some h10
        refine wps_call [(.take, .tmp 21), (.take, .tmp 22)] rfl rfl ent90 (laws_szNode_ok _ _ hc17) fun K hK => ?_; simp [hN', he15a, he15b, he15c, he15d]; refine hK _ ?_; clear hK
        refine wps_cons rfl fun K hK => ?_; simp [hN', he15a, he15b, he15c, he15d]; refine hK _ ?_; clear hK
        refine wps_nil (hK _ ?_); clear hK
        refine SWp.seqR rfl (hPB _ rfl) fun K hK => ?_
        iterate 2 (refine wps_cons rfl fun K hK => ?_; simp [hN']; refine hK _ ?_; clear hK)
        refine wps_nil (hK _ ?_); clear hK
        rcases ite_or h10 with ⟨hb18, h10⟩ | ⟨hb19, h10⟩
        · refine SWp.condT' (b := decide (r16 < 0)) (by simp) hb18 ?_
          refine SWp.seqR rfl (hPB _ rfl) fun K hK => ?_
          refine wps_cons rfl fun K hK => ?_; simp [hN']; refine hK _ ?_; clear hK
          refine wps_nil (hK _ ?_); clear hK
          have h20 := congrArg some (ho11 _ (Option.some.inj h10).symm)
          cases h20
          try dsimp only at h
          cases h
          refine SWp.ret ?_
          simp [thenS, inBlockS, res56]
        · refine SWp.condF' (b := decide (r16 < 0)) (by simp) hb19 ?_
          refine SWp.skip ?_
          show SWp E C _ _ _
          refine SWp.reg rfl (hPB _ rfl) fun K hK => ?_
          iterate 3 (refine wps_cons rfl fun K hK => ?_; simp [hN']; refine hK _ ?_; clear hK)
          refine wps_nil (hK _ ?_); clear hK
          cases h10
          exact ⟨_, [], rfl, by simp [hN']⟩
      · refine SWp.condF' (b := decide (i9 < (a1.length : Int))) (by simp) hb14 ?_
        refine SWp.exit ?_
        have h21 := congrArg some (ho11 _ (Option.some.inj h10).symm)
        cases h21
        exact hK6 _ _ [] rfl (by simp [hN'])
    subst hv
    obtain ⟨left22, hv⟩ : ∃ y, y = v := ⟨_, rfl⟩
    subst hv
    try dsimp only at h ⊢
    refine SWp.seqR rfl (hPB _ rfl) fun K hK => ?_
    iterate 2 (refine wps_cons rfl fun K hK => ?_; simp [hN']; refine hK _ ?_; clear hK)
    refine wps_nil (hK _ ?_); clear hK
    cases h
    refine SWp.ret ?_
    simp [thenS, inBlockS, res56]
end Go.Proofs.T
set_option linter.unusedVariables false
set_option linter.unusedSimpArgs false
set_option maxHeartbeats 1000000
namespace Go.Proofs.T
open Go.OM
theorem res127 : Tryd.f127.results.toList = [.tmp 4] := rfl
theorem ent127 : Enters E.P 127 := enters_of Tryd.func127 (by simp [Tryd.f127]) rfl
theorem laws_szParam_ok (a1 : GParam) (left2 : Int) {r0 : Int} (h : laws_szParam a1 left2 = some r0) : Ok E 127 [.val (GParam.enc a1), .val (vi left2)] [vi r0] [] := by
  refine ok_of_body (fn := Tryd.f127) Tryd.func127 rfl (by simp [Tryd.f127]) fun C hN hP => ?_
  have hPB : ∀ l, pinK [] l = true → pinB C.pin l = true := pinB_of (by rw [hP]; rfl)
  have hN' : C.N = 13 := hN
  clear hN
  unfold laws_szParam at h
  refine SWp.seqR rfl (hPB _ rfl) fun K hK => ?_
  iterate 2 (refine wps_cons rfl fun K hK => ?_; simp [hN']; refine hK _ ?_; clear hK)
  refine wps_nil (hK _ ?_); clear hK
  refine SWp.seqR rfl (hPB _ rfl) fun K hK => ?_
  iterate 6 (refine wps_cons rfl fun K hK => ?_; simp [hN']; refine hK _ ?_; clear hK)
  refine wps_nil (hK _ ?_); clear hK
  refine SWp.seq ?_
  refine SWp.seqR rfl (hPB _ rfl) fun K hK => ?_
  iterate 2 (refine wps_cons rfl fun K hK => ?_; simp [hN']; refine hK _ ?_; clear hK)
  refine wps_nil (hK _ ?_); clear hK
  rcases ite_or h with ⟨hb3, h⟩ | ⟨hb4, h⟩
  · refine SWp.condT' (b := decide (IntKind.wrap .i64 (left2 - (a1.Name.size : Int)) < 0)) (by simp) hb3 ?_
    refine SWp.seqR rfl (hPB _ rfl) fun K hK => ?_
    refine wps_cons rfl fun K hK => ?_; simp [hN']; refine hK _ ?_; clear hK
    refine wps_nil (hK _ ?_); clear hK
    cases h
    refine SWp.ret ?_
    simp [thenS, inBlockS, res127]
  · refine SWp.condF' (b := decide (IntKind.wrap .i64 (left2 - (a1.Name.size : Int)) < 0)) (by simp) hb4 ?_
    refine SWp.skip ?_
    show SWp E C _ _ _
    refine SWp.seqR rfl (hPB _ rfl) fun K hK => ?_
    iterate 2 (refine wps_cons rfl fun K hK => ?_; simp [hN']; refine hK _ ?_; clear hK)
    refine wps_nil (hK _ ?_); clear hK
    cases h
    refine SWp.ret ?_
    simp [thenS, inBlockS, res127]
end Go.Proofs.T
set_option linter.unusedVariables false
set_option linter.unusedSimpArgs false
set_option maxHeartbeats 1000000
namespace Go.Proofs.T
open Go.OM
theorem res118 : Tryd.f118.results.toList = [.tmp 4] := rfl
theorem ent118 : Enters E.P 118 := enters_of Tryd.func118 (by simp [Tryd.f118]) rfl
theorem laws_szParamS_ok (a1 : List GParam) (left2 : Int) {r0 : Int} (h : laws_szParamS a1 left2 = some r0) : Ok E 118 [.val (.sl false 2 (List.map GParam.enc a1)), .val (vi left2)] [vi r0] [] := by
  refine ok_of_body (fn := Tryd.f118) Tryd.func118 rfl (by simp [Tryd.f118]) fun C hN hP => ?_
  have hPB : ∀ l, pinK [] l = true → pinB C.pin l = true := pinB_of (by rw [hP]; rfl)
  have hN' : C.N = 27 := hN
  clear hN
  unfold laws_szParamS at h
  refine SWp.seqR rfl (hPB _ rfl) fun K hK => ?_
  refine wps_cons rfl fun K hK => ?_; simp [hN']; refine hK _ ?_; clear hK
  refine wps_nil (hK _ ?_); clear hK
  refine SWp.seqR rfl (hPB _ rfl) fun K hK => ?_
  iterate 5 (refine wps_cons rfl fun K hK => ?_; simp [hN']; refine hK _ ?_; clear hK)
  refine wps_nil (hK _ ?_); clear hK
  refine SWp.seq ?_
  refine SWp.seqR rfl (hPB _ rfl) fun K hK => ?_
  iterate 2 (refine wps_cons rfl fun K hK => ?_; simp [hN']; refine hK _ ?_; clear hK)
  refine wps_nil (hK _ ?_); clear hK
  rcases ite_or h with ⟨hb3, h⟩ | ⟨hb4, h⟩
  · refine SWp.condT' (b := decide (IntKind.wrap .i64 (left2 - (a1.length : Int)) < 0)) (by simp) hb3 ?_
    refine SWp.seqR rfl (hPB _ rfl) fun K hK => ?_
    refine wps_cons rfl fun K hK => ?_; simp [hN']; refine hK _ ?_; clear hK
    refine wps_nil (hK _ ?_); clear hK
    cases h
    refine SWp.ret ?_
    simp [thenS, inBlockS, res118]
  · refine SWp.condF' (b := decide (IntKind.wrap .i64 (left2 - (a1.length : Int)) < 0)) (by simp) hb4 ?_
    refine SWp.skip ?_
    show SWp E C _ _ _
    obtain ⟨j7, hj5, h⟩ := bind_some h
    refine SWp.seqC [1] [] (fun v : Int => ⟨[(1, .t (vi v))], []⟩) (fun v => j7 = Sum.inl v) (fun v hv => ?_) fun K6 hK6 => ?_
    rotate_left
    · refine SWp.seqR rfl (hPB _ rfl) fun K hK => ?_
      refine wps_cons rfl fun K hK => ?_; simp [hN']; refine hK _ ?_; clear hK
      refine wps_nil (hK _ ?_); clear hK
      refine SWp.block ?_
      refine SWp.loopO [] [0, 1, 5] [] (fun v : Int × Int => ⟨[(0, .t (.sl false 2 (List.map GParam.enc a1))), (1, .t (vi v.1)), (5, .t (vi v.2))], []⟩) (laws_szParamS_l1 a1) _ (IntKind.wrap .i64 (left2 - (a1.length : Int)), 0) hj5 (by simp [hN']) ?_
      intro g s12 h10 ho11
      obtain ⟨left8, i9⟩ := g
      simp only [laws_szParamS_l1] at h10
      try dsimp only
      refine SWp.seq ?_
      refine SWp.seqR rfl (hPB _ rfl) fun K hK => ?_
      iterate 4 (refine wps_cons rfl fun K hK => ?_; simp [hN']; refine hK _ ?_; clear hK)
      refine wps_nil (hK _ ?_); clear hK
      rcases ite_or h10 with ⟨hb13, h10⟩ | ⟨hb14, h10⟩
      · refine SWp.condT' (b := decide (i9 < (a1.length : Int))) (by simp) hb13 ?_
        refine SWp.skip ?_
        show SWp E C _ _ _
        refine SWp.seq ?_
        refine SWp.block ?_
        refine SWp.seqR rfl (hPB _ rfl) fun K hK => ?_
        iterate 2 (refine wps_cons rfl fun K hK => ?_; simp [hN']; refine hK _ ?_; clear hK)
        obtain ⟨e15, he15, h10⟩ := bind_some h10
        obtain ⟨he15a, he15b, he15c, he15d⟩ := getI_some he15
        iterate 3 (refine wps_cons rfl fun K hK => ?_; simp [hN', he15a, he15b, he15c, he15d]; refine hK _ ?_; clear hK)
        obtain ⟨r16, hc17, h10⟩ := bind_some h10
        refine wps_call [(.take, .tmp 21), (.take, .tmp 22)] rfl rfl ent127 (laws_szParam_ok _ _ hc17) fun K hK => ?_; simp [hN', he15a, he15b, he15c, he15d]; refine hK _ ?_; clear hK
        refine wps_cons rfl fun K hK => ?_; simp [hN', he15a, he15b, he15c, he15d]; refine hK _ ?_; clear hK
        refine wps_nil (hK _ ?_); clear hK
        refine SWp.seqR rfl (hPB _ rfl) fun K hK => ?_
        iterate 2 (refine wps_cons rfl fun K hK => ?_; simp [hN']; refine hK _ ?_; clear hK)
        refine wps_nil (hK _ ?_); clear hK
        rcases ite_or h10 with ⟨hb18, h10⟩ | ⟨hb19, h10⟩
        · refine SWp.condT' (b := decide (r16 < 0)) (by simp) hb18 ?_
          refine SWp.seqR rfl (hPB _ rfl) fun K hK => ?_
          refine wps_cons rfl fun K hK => ?_; simp [hN']; refine hK _ ?_; clear hK
          refine wps_nil (hK _ ?_); clear hK
          have h20 := congrArg some (ho11 _ (Option.some.inj h10).symm)
          cases h20
          try dsimp only at h
          cases h
          refine SWp.ret ?_
          simp [thenS, inBlockS, res118]
        · refine SWp.condF' (b := decide (r16 < 0)) (by simp) hb19 ?_
          refine SWp.skip ?_
          show SWp E C _ _ _
          refine SWp.reg rfl (hPB _ rfl) fun K hK => ?_
          iterate 3 (refine wps_cons rfl fun K hK => ?_; simp [hN']; refine hK _ ?_; clear hK)
          refine wps_nil (hK _ ?_); clear hK
          cases h10
          exact ⟨_, [], rfl, by simp [hN']⟩
      · refine SWp.condF' (b := decide (i9 < (a1.length : Int))) (by simp) hb14 ?_
        refine SWp.exit ?_
        have h21 := congrArg some (ho11 _ (Option.some.inj h10).symm)
        cases h21
        exact hK6 _ _ [] rfl (by simp [hN'])
    subst hv
    obtain ⟨left22, hv⟩ : ∃ y, y = v := ⟨_, rfl⟩
    subst hv
    try dsimp only at h ⊢
    refine SWp.seqR rfl (hPB _ rfl) fun K hK => ?_
    iterate 2 (refine wps_cons rfl fun K hK => ?_; simp [hN']; refine hK _ ?_; clear hK)
    refine wps_nil (hK _ ?_); clear hK
    cases h
    refine SWp.ret ?_
    simp [thenS, inBlockS, res118]
end Go.Proofs.T
set_option linter.unusedVariables false
set_option linter.unusedSimpArgs false
set_option maxHeartbeats 1000000
namespace Go.Proofs.T
open Go.OM
theorem res91 : Tryd.f91.results.toList = [.tmp 4] := rfl
theorem ent91 : Enters E.P 91 := enters_of Tryd.func91 (by simp [Tryd.f91]) rfl
theorem laws_szFn_ok (a1 : GFn) (left2 : Int) {r0 : Int} (h : laws_szFn a1 left2 = some r0) : Ok E 91 [.val (GFn.enc false a1), .val (vi left2)] [vi r0] [] := by
  refine ok_of_body (fn := Tryd.f91) Tryd.func91 rfl (by simp [Tryd.f91]) fun C hN hP => ?_
  have hPB : ∀ l, pinK [] l = true → pinB C.pin l = true := pinB_of (by rw [hP]; rfl)
  have hN' : C.N = 19 := hN
  clear hN
  unfold laws_szFn at h
  refine SWp.seqR rfl (hPB _ rfl) fun K hK => ?_
  iterate 2 (refine wps_cons rfl fun K hK => ?_; simp [hN']; refine hK _ ?_; clear hK)
  refine wps_nil (hK _ ?_); clear hK
  refine SWp.seqR rfl (hPB _ rfl) fun K hK => ?_
  iterate 6 (refine wps_cons rfl fun K hK => ?_; simp [hN']; refine hK _ ?_; clear hK)
  refine wps_nil (hK _ ?_); clear hK
  refine SWp.seq ?_
  refine SWp.seqR rfl (hPB _ rfl) fun K hK => ?_
  iterate 2 (refine wps_cons rfl fun K hK => ?_; simp [hN']; refine hK _ ?_; clear hK)
  refine wps_nil (hK _ ?_); clear hK
  rcases ite_or h with ⟨hb3, h⟩ | ⟨hb4, h⟩
  · refine SWp.condT' (b := decide (IntKind.wrap .i64 (left2 - (a1.Name.size : Int)) < 0)) (by simp) hb3 ?_
    refine SWp.seqR rfl (hPB _ rfl) fun K hK => ?_
    refine wps_cons rfl fun K hK => ?_; simp [hN']; refine hK _ ?_; clear hK
    refine wps_nil (hK _ ?_); clear hK
    cases h
    refine SWp.ret ?_
    simp [thenS, inBlockS, res91]
  · refine SWp.condF' (b := decide (IntKind.wrap .i64 (left2 - (a1.Name.size : Int)) < 0)) (by simp) hb4 ?_
    refine SWp.skip ?_
    show SWp E C _ _ _
    refine SWp.seqR rfl (hPB _ rfl) fun K hK => ?_
    iterate 3 (refine wps_cons rfl fun K hK => ?_; simp [hN']; refine hK _ ?_; clear hK)
    obtain ⟨r5, hc6, h⟩ := bind_some h
    refine wps_call [(.take, .tmp 13), (.take, .tmp 14)] rfl rfl ent118 (laws_szParamS_ok _ _ hc6) fun K hK => ?_; simp [hN']; refine hK _ ?_; clear hK
    refine wps_cons rfl fun K hK => ?_; simp [hN']; refine hK _ ?_; clear hK
    refine wps_nil (hK _ ?_); clear hK
    refine SWp.seq ?_
    refine SWp.seqR rfl (hPB _ rfl) fun K hK => ?_
    iterate 2 (refine wps_cons rfl fun K hK => ?_; simp [hN']; refine hK _ ?_; clear hK)
    refine wps_nil (hK _ ?_); clear hK
    rcases ite_or h with ⟨hb7, h⟩ | ⟨hb8, h⟩
    · refine SWp.condT' (b := decide (r5 < 0)) (by simp) hb7 ?_
      refine SWp.seqR rfl (hPB _ rfl) fun K hK => ?_
      refine wps_cons rfl fun K hK => ?_; simp [hN']; refine hK _ ?_; clear hK
      refine wps_nil (hK _ ?_); clear hK
      cases h
      refine SWp.ret ?_
      simp [thenS, inBlockS, res91]
    · refine SWp.condF' (b := decide (r5 < 0)) (by simp) hb8 ?_
      refine SWp.skip ?_
      show SWp E C _ _ _
      refine SWp.seqR rfl (hPB _ rfl) fun K hK => ?_
      iterate 2 (refine wps_cons rfl fun K hK => ?_; simp [hN']; refine hK _ ?_; clear hK)
      refine wps_nil (hK _ ?_); clear hK
      cases h
      refine SWp.ret ?_
      simp [thenS, inBlockS, res91]
end Go.Proofs.T
set_option linter.unusedVariables false
set_option linter.unusedSimpArgs false
set_option maxHeartbeats 1000000
namespace Go.Proofs.T
open Go.OM
theorem res57 : Tryd.f57.results.toList = [.tmp 4] := rfl
theorem ent57 : Enters E.P 57 := enters_of Tryd.func57 (by simp [Tryd.f57]) rfl
theorem laws_szFnS_ok (a1 : List GFn) (left2 : Int) {r0 : Int} (h : laws_szFnS a1 left2 = some r0) : Ok E 57 [.val (.sl false 5 (List.map (GFn.enc false) a1)), .val (vi left2)] [vi r0] [] := by
  refine ok_of_body (fn := Tryd.f57) Tryd.func57 rfl (by simp [Tryd.f57]) fun C hN hP => ?_
  have hPB : ∀ l, pinK [] l = true → pinB C.pin l = true := pinB_of (by rw [hP]; rfl)
  have hN' : C.N = 27 := hN
  clear hN
  unfold laws_szFnS at h
  refine SWp.seqR rfl (hPB _ rfl) fun K hK => ?_
  refine wps_cons rfl fun K hK => ?_; simp [hN']; refine hK _ ?_; clear hK
  refine wps_nil (hK _ ?_); clear hK
  refine SWp.seqR rfl (hPB _ rfl) fun K hK => ?_
  iterate 5 (refine wps_cons rfl fun K hK => ?_; simp [hN']; refine hK _ ?_; clear hK)
  refine wps_nil (hK _ ?_); clear hK
  refine SWp.seq ?_
  refine SWp.seqR rfl (hPB _ rfl) fun K hK => ?_
  iterate 2 (refine wps_cons rfl fun K hK => ?_; simp [hN']; refine hK _ ?_; clear hK)
  refine wps_nil (hK _ ?_); clear hK
  rcases ite_or h with ⟨hb3, h⟩ | ⟨hb4, h⟩
  · refine SWp.condT' (b := decide (IntKind.wrap .i64 (left2 - (a1.length : Int)) < 0)) (by simp) hb3 ?_
    refine SWp.seqR rfl (hPB _ rfl) fun K hK => ?_
    refine wps_cons rfl fun K hK => ?_; simp [hN']; refine hK _ ?_; clear hK
    refine wps_nil (hK _ ?_); clear hK
    cases h
    refine SWp.ret ?_
    simp [thenS, inBlockS, res57]
  · refine SWp.condF' (b := decide (IntKind.wrap .i64 (left2 - (a1.length : Int)) < 0)) (by simp) hb4 ?_
    refine SWp.skip ?_
    show SWp E C _ _ _
    obtain ⟨j7, hj5, h⟩ := bind_some h
    refine SWp.seqC [1] [] (fun v : Int => ⟨[(1, .t (vi v))], []⟩) (fun v => j7 = Sum.inl v) (fun v hv => ?_) fun K6 hK6 => ?_
    rotate_left
    · refine SWp.seqR rfl (hPB _ rfl) fun K hK => ?_
      refine wps_cons rfl fun K hK => ?_; simp [hN']; refine hK _ ?_; clear hK
      refine wps_nil (hK _ ?_); clear hK
      refine SWp.block ?_
      refine SWp.loopO [] [0, 1, 5] [] (fun v : Int × Int => ⟨[(0, .t (.sl false 5 (List.map (GFn.enc false) a1))), (1, .t (vi v.1)), (5, .t (vi v.2))], []⟩) (laws_szFnS_l1 a1) _ (IntKind.wrap .i64 (left2 - (a1.length : Int)), 0) hj5 (by simp [hN']) ?_
      intro g s12 h10 ho11
      obtain ⟨left8, i9⟩ := g
      simp only [laws_szFnS_l1] at h10
      try dsimp only
      refine SWp.seq ?_
      refine SWp.seqR rfl (hPB _ rfl) fun K hK => ?_
      iterate 4 (refine wps_cons rfl fun K hK => ?_; simp [hN']; refine hK _ ?_; clear hK)
      refine wps_nil (hK _ ?_); clear hK
      rcases ite_or h10 with ⟨hb13, h10⟩ | ⟨hb14, h10⟩
      · refine SWp.condT' (b := decide (i9 < (a1.length : Int))) (by simp) hb13 ?_
        refine SWp.skip ?_
        show SWp E C _ _ _
        refine SWp.seq ?_
        refine SWp.block ?_
        refine SWp.seqR rfl (hPB _ rfl) fun K hK => ?_
        iterate 2 (refine wps_cons rfl fun K hK => ?_; simp [hN']; refine hK _ ?_; clear hK)
        obtain ⟨e15, he15, h10⟩ := bind_some h10
        obtain ⟨he15a, he15b, he15c, he15d⟩ := getI_some he15
        iterate 3 (refine wps_cons rfl fun K hK => ?_; simp [hN', he15a, he15b, he15c, he15d]; refine hK _ ?_; clear hK)
        obtain ⟨r16, hc17, h10⟩ := bind_some h10
        refine wps_call [(.take, .tmp 21), (.take, .tmp 22)] rfl rfl ent91 (laws_szFn_ok _ _ hc17) fun K hK => ?_; simp [hN', he15a, he15b, he15c, he15d]; refine hK _ ?_; clear hK
        refine wps_cons rfl fun K hK => ?_; simp [hN', he15a, he15b, he15c, he15d]; refine hK _ ?_; clear hK
        refine wps_nil (hK _ ?_); clear hK
        refine SWp.seqR rfl (hPB _ rfl) fun K hK => ?_
        iterate 2 (refine wps_cons rfl fun K hK => ?_; simp [hN']; refine hK _ ?_; clear hK)
        refine wps_nil (hK _ ?_); clear hK
        rcases ite_or h10 with ⟨hb18, h10⟩ | ⟨hb19, h10⟩
        · refine SWp.condT' (b := decide (r16 < 0)) (by simp) hb18 ?_
          refine SWp.seqR rfl (hPB _ rfl) fun K hK => ?_
          refine wps_cons rfl fun K hK => ?_; simp [hN']; refine hK _ ?_; clear hK
          refine wps_nil (hK _ ?_); clear hK
          have h20 := congrArg some (ho11 _ (Option.some.inj h10).symm)
          cases h20
          try dsimp only at h
          cases h
          refine SWp.ret ?_
          simp [thenS, inBlockS, res57]
        · refine SWp.condF' (b := decide (r16 < 0)) (by simp) hb19 ?_
          refine SWp.skip ?_
          show SWp E C _ _ _
          refine SWp.reg rfl (hPB _ rfl) fun K hK => ?_
          iterate 3 (refine wps_cons rfl fun K hK => ?_; simp [hN']; refine hK _ ?_; clear hK)
          refine wps_nil (hK _ ?_); clear hK
          cases h10
          exact ⟨_, [], rfl, by simp [hN']⟩
      · refine SWp.condF' (b := decide (i9 < (a1.length : Int))) (by simp) hb14 ?_
        refine SWp.exit ?_
        have h21 := congrArg some (ho11 _ (Option.some.inj h10).symm)
        cases h21
        exact hK6 _ _ [] rfl (by simp [hN'])
    subst hv
    obtain ⟨left22, hv⟩ : ∃ y, y = v := ⟨_, rfl⟩
    subst hv
    try dsimp only at h ⊢
    refine SWp.seqR rfl (hPB _ rfl) fun K hK => ?_
    iterate 2 (refine wps_cons rfl fun K hK => ?_; simp [hN']; refine hK _ ?_; clear hK)
    refine wps_nil (hK _ ?_); clear hK
    cases h
    refine SWp.ret ?_
    simp [thenS, inBlockS, res57]
end Go.Proofs.T
set_option linter.unusedVariables false
set_option linter.unusedSimpArgs false
set_option maxHeartbeats 1000000
namespace Go.Proofs.T
open Go.OM
theorem res22 : Tryd.f22.results.toList = [.tmp 4] := rfl
theorem ent22 : Enters E.P 22 := enters_of Tryd.func22 (by simp [Tryd.f22]) rfl
theorem laws_szProgram_ok (a1 : GProgram) (left2 : Int) {r0 : Int} (h : laws_szProgram a1 left2 = some r0) : Ok E 22 [.val (GProgram.enc false a1), .val (vi left2)] [vi r0] [] := by
  refine ok_of_body (fn := Tryd.f22) Tryd.func22 rfl (by simp [Tryd.f22]) fun C hN hP => ?_
  have hPB : ∀ l, pinK [] l = true → pinB C.pin l = true := pinB_of (by rw [hP]; rfl)
  have hN' : C.N = 18 := hN
  clear hN
  unfold laws_szProgram at h
  refine SWp.seqR rfl (hPB _ rfl) fun K hK => ?_
  iterate 2 (refine wps_cons rfl fun K hK => ?_; simp [hN']; refine hK _ ?_; clear hK)
  refine wps_nil (hK _ ?_); clear hK
  refine SWp.seqR rfl (hPB _ rfl) fun K hK => ?_
  iterate 3 (refine wps_cons rfl fun K hK => ?_; simp [hN']; refine hK _ ?_; clear hK)
  obtain ⟨r3, hc4, h⟩ := bind_some h
  refine wps_call [(.take, .tmp 6), (.take, .tmp 7)] rfl rfl ent56 (laws_szNodeS_ok _ _ hc4) fun K hK => ?_; simp [hN']; refine hK _ ?_; clear hK
  refine wps_cons rfl fun K hK => ?_; simp [hN']; refine hK _ ?_; clear hK
  refine wps_nil (hK _ ?_); clear hK
  refine SWp.seq ?_
  refine SWp.seqR rfl (hPB _ rfl) fun K hK => ?_
  iterate 2 (refine wps_cons rfl fun K hK => ?_; simp [hN']; refine hK _ ?_; clear hK)
  refine wps_nil (hK _ ?_); clear hK
  rcases ite_or h with ⟨hb5, h⟩ | ⟨hb6, h⟩
  · refine SWp.condT' (b := decide (r3 < 0)) (by simp) hb5 ?_
    refine SWp.seqR rfl (hPB _ rfl) fun K hK => ?_
    refine wps_cons rfl fun K hK => ?_; simp [hN']; refine hK _ ?_; clear hK
    refine wps_nil (hK _ ?_); clear hK
    cases h
    refine SWp.ret ?_
    simp [thenS, inBlockS, res22]
  · refine SWp.condF' (b := decide (r3 < 0)) (by simp) hb6 ?_
    refine SWp.skip ?_
    show SWp E C _ _ _
    refine SWp.seqR rfl (hPB _ rfl) fun K hK => ?_
    iterate 3 (refine wps_cons rfl fun K hK => ?_; simp [hN']; refine hK _ ?_; clear hK)
    obtain ⟨r7, hc8, h⟩ := bind_some h
    refine wps_call [(.take, .tmp 12), (.take, .tmp 13)] rfl rfl ent57 (laws_szFnS_ok _ _ hc8) fun K hK => ?_; simp [hN']; refine hK _ ?_; clear hK
    refine wps_cons rfl fun K hK => ?_; simp [hN']; refine hK _ ?_; clear hK
    refine wps_nil (hK _ ?_); clear hK
    refine SWp.seq ?_
    refine SWp.seqR rfl (hPB _ rfl) fun K hK => ?_
    iterate 2 (refine wps_cons rfl fun K hK => ?_; simp [hN']; refine hK _ ?_; clear hK)
    refine wps_nil (hK _ ?_); clear hK
    rcases ite_or h with ⟨hb9, h⟩ | ⟨hb10, h⟩
    · refine SWp.condT' (b := decide (r7 < 0)) (by simp) hb9 ?_
      refine SWp.seqR rfl (hPB _ rfl) fun K hK => ?_
      refine wps_cons rfl fun K hK => ?_; simp [hN']; refine hK _ ?_; clear hK
      refine wps_nil (hK _ ?_); clear hK
      cases h
      refine SWp.ret ?_
      simp [thenS, inBlockS, res22]
    · refine SWp.condF' (b := decide (r7 < 0)) (by simp) hb10 ?_
      refine SWp.skip ?_
      show SWp E C _ _ _
      refine SWp.seqR rfl (hPB _ rfl) fun K hK => ?_
      iterate 2 (refine wps_cons rfl fun K hK => ?_; simp [hN']; refine hK _ ?_; clear hK)
      refine wps_nil (hK _ ?_); clear hK
      cases h
      refine SWp.ret ?_
      simp [thenS, inBlockS, res22]
end Go.Proofs.T
set_option linter.unusedVariables false
set_option linter.unusedSimpArgs false
set_option maxHeartbeats 1000000
namespace Go.Proofs.T
open Go.OM
theorem res48 : Tryd.f48.results.toList = [.tmp 2] := rfl
theorem ent48 : Enters E.P 48 := enters_of Tryd.func48 (by simp [Tryd.f48]) rfl
theorem laws_toIntS_ok (a1 : List Int) {r0 : List Int} (h : laws_toIntS a1 = some r0) : Ok E 48 [.val (.sl false 1 (List.map vi a1))] [.sl true 1 (List.map vi r0)] [] := by
  refine ok_of_body (fn := Tryd.f48) Tryd.func48 rfl (by simp [Tryd.f48]) fun C hN hP => ?_
  have hPB : ∀ l, pinK [] l = true → pinB C.pin l = true := pinB_of (by rw [hP]; rfl)
  have hN' : C.N = 22 := hN
  clear hN
  unfold laws_toIntS at h
  refine SWp.seqR rfl (hPB _ rfl) fun K hK => ?_
  refine wps_cons rfl fun K hK => ?_; simp [hN']; refine hK _ ?_; clear hK
  refine wps_nil (hK _ ?_); clear hK
  refine SWp.seqR rfl (hPB _ rfl) fun K hK => ?_
  iterate 2 (refine wps_cons rfl fun K hK => ?_; simp [hN']; refine hK _ ?_; clear hK)
  obtain ⟨l2, hl2, h⟩ := bind_some h
  obtain ⟨hl2a, hl2b, hl2c, hl2d⟩ := mkI_some hl2
  have hl2f : List.replicate (a1.length : Int).toNat (vi 0) = List.map vi l2 := rep_map (f := vi) hl2d
  try simp only [Int.toNat_natCast] at hl2f
  iterate 2 (refine wps_cons rfl fun K hK => ?_; simp [hN', hl2a, hl2b, hl2c, hl2f]; refine hK _ ?_; clear hK)
  refine wps_nil (hK _ ?_); clear hK
  obtain ⟨out17, hj3, h⟩ := bind_some h
  refine SWp.seqC [3] [] (fun _ : Unit => ⟨[(3, .t (.sl true 1 (List.map vi out17)))], []⟩) (fun _ => True) (fun _ _ => ?_) fun K4 hK4 => ?_
  rotate_left
  · refine SWp.seqR rfl (hPB _ rfl) fun K hK => ?_
    refine wps_cons rfl fun K hK => ?_; simp [hN']; refine hK _ ?_; clear hK
    refine wps_nil (hK _ ?_); clear hK
    refine SWp.block ?_
    refine SWp.loopO [] [0, 3, 4] [] (fun v : (List Int) × Int => ⟨[(0, .t (.sl false 1 (List.map vi a1))), (3, .t (.sl true 1 (List.map vi v.1))), (4, .t (vi v.2))], []⟩) (laws_toIntS_l1 a1) _ (l2, 0) hj3 (by simp [hN']) ?_
    intro g s10 h8 ho9
    obtain ⟨out6, i7⟩ := g
    simp only [laws_toIntS_l1] at h8
    try dsimp only
    refine SWp.seq ?_
    refine SWp.seqR rfl (hPB _ rfl) fun K hK => ?_
    iterate 4 (refine wps_cons rfl fun K hK => ?_; simp [hN']; refine hK _ ?_; clear hK)
    refine wps_nil (hK _ ?_); clear hK
    rcases ite_or h8 with ⟨hb11, h8⟩ | ⟨hb12, h8⟩
    · refine SWp.condT' (b := decide (i7 < (a1.length : Int))) (by simp) hb11 ?_
      refine SWp.skip ?_
      show SWp E C _ _ _
      refine SWp.seq ?_
      refine SWp.block ?_
      refine SWp.reg rfl (hPB _ rfl) fun K hK => ?_
      iterate 4 (refine wps_cons rfl fun K hK => ?_; simp [hN']; refine hK _ ?_; clear hK)
      obtain ⟨e13, he13, h8⟩ := bind_some h8
      obtain ⟨he13a, he13b, he13c, he13d⟩ := getI_some he13
      iterate 2 (refine wps_cons rfl fun K hK => ?_; simp [hN', he13a, he13b, he13c, he13d]; refine hK _ ?_; clear hK)
      obtain ⟨e14, he14, h8⟩ := bind_some h8
      obtain ⟨he14a, he14b, he14c, he14d⟩ := getI_some he14
      refine wps_cons rfl fun K hK => ?_; simp [hN', he13a, he13b, he13c, he13d, he14a, he14b, he14c, he14d]; refine hK _ ?_; clear hK
      obtain ⟨l15, hl15, h8⟩ := bindS_some h8
      have hl15f : (List.map vi out6).set i7.toNat (vi e13) = List.map vi l15 := set_map (f := vi) hl15
      try simp only [Int.toNat_natCast] at hl15f
      refine wps_cons rfl fun K hK => ?_; simp [hN', he13a, he13b, he13c, he13d, he14a, he14b, he14c, he14d, hl15f]; refine hK _ ?_; clear hK
      refine wps_nil (hK _ ?_); clear hK
      show SWp E C _ _ _
      refine SWp.reg rfl (hPB _ rfl) fun K hK => ?_
      iterate 3 (refine wps_cons rfl fun K hK => ?_; simp [hN']; refine hK _ ?_; clear hK)
      refine wps_nil (hK _ ?_); clear hK
      cases h8
      exact ⟨_, [], rfl, by simp [hN']⟩
    · refine SWp.condF' (b := decide (i7 < (a1.length : Int))) (by simp) hb12 ?_
      refine SWp.exit ?_
      have h16 := congrArg some (ho9 _ (Option.some.inj h8).symm)
      cases h16
      exact hK4 _ () [] trivial (by simp [hN'])
  refine SWp.seqR rfl (hPB _ rfl) fun K hK => ?_
  iterate 2 (refine wps_cons rfl fun K hK => ?_; simp [hN']; refine hK _ ?_; clear hK)
  refine wps_nil (hK _ ?_); clear hK
  cases h
  refine SWp.ret ?_
  simp [thenS, inBlockS, res48]
end Go.Proofs.T
set_option linter.unusedVariables false
set_option linter.unusedSimpArgs false
set_option maxHeartbeats 1000000
namespace Go.Proofs.T
open Go.OM
theorem res93 : Tryd.f93.results.toList = [.cell 2 88] := rfl
theorem ent93 : Enters E.P 93 := enters_of Tryd.func93 (by simp [Tryd.f93]) rfl
theorem laws_toNode_ok (a1 : GNode) {r0 : GNode} (h : laws_toNode a1 = some r0) : Ok E 93 [.val (GNode.enc false a1)] [GNode.enc true r0] [] := by
  refine ok_of_body (fn := Tryd.f93) Tryd.func93 rfl (by simp [Tryd.f93]) fun C hN hP => ?_
  have hPB : ∀ l, pinK [] l = true → pinB C.pin l = true := pinB_of (by rw [hP]; rfl)
  have hN' : C.N = 18 := hN
  clear hN
  unfold laws_toNode at h
  refine SWp.seqR rfl (hPB _ rfl) fun K hK => ?_
  iterate 2 (refine wps_cons rfl fun K hK => ?_; simp [hN']; refine hK _ ?_; clear hK)
  refine wps_nil (hK _ ?_); clear hK
  refine SWp.seqR rfl (hPB _ rfl) fun K hK => ?_
  refine wps_cons rfl fun K hK => ?_; simp [hN']; refine hK _ ?_; clear hK
  refine wps_nil (hK _ ?_); clear hK
  refine SWp.seqR rfl (hPB _ rfl) fun K hK => ?_
  iterate 4 (refine wps_cons rfl fun K hK => ?_; simp [hN']; refine hK _ ?_; clear hK)
  refine wps_nil (hK _ ?_); clear hK
  refine SWp.seqR rfl (hPB _ rfl) fun K hK => ?_
  iterate 4 (refine wps_cons rfl fun K hK => ?_; simp [hN']; refine hK _ ?_; clear hK)
  refine wps_nil (hK _ ?_); clear hK
  refine SWp.seqR rfl (hPB _ rfl) fun K hK => ?_
  iterate 4 (refine wps_cons rfl fun K hK => ?_; simp [hN']; refine hK _ ?_; clear hK)
  refine wps_nil (hK _ ?_); clear hK
  refine SWp.seqR rfl (hPB _ rfl) fun K hK => ?_
  iterate 2 (refine wps_cons rfl fun K hK => ?_; simp [hN']; refine hK _ ?_; clear hK)
  obtain ⟨r2, hc3, h⟩ := bind_some h
  refine wps_call [(.take, .tmp 14)] rfl rfl ent48 (laws_toIntS_ok _ hc3) fun K hK => ?_; simp [hN']; refine hK _ ?_; clear hK
  iterate 2 (refine wps_cons rfl fun K hK => ?_; simp [hN']; refine hK _ ?_; clear hK)
  refine wps_nil (hK _ ?_); clear hK
  refine SWp.seqR rfl (hPB _ rfl) fun K hK => ?_
  iterate 2 (refine wps_cons rfl fun K hK => ?_; simp [hN']; refine hK _ ?_; clear hK)
  refine wps_nil (hK _ ?_); clear hK
  cases h
  refine SWp.ret ?_
  simp [thenS, inBlockS, res93]
end Go.Proofs.T
set_option linter.unusedVariables false
set_option linter.unusedSimpArgs false
set_option maxHeartbeats 1000000
namespace Go.Proofs.T
open Go.OM
theorem res60 : Tryd.f60.results.toList = [.tmp 2] := rfl
theorem ent60 : Enters E.P 60 := enters_of Tryd.func60 (by simp [Tryd.f60]) rfl
theorem laws_toNodeS_ok (a1 : List GNode) {r0 : List GNode} (h : laws_toNodeS a1 = some r0) : Ok E 60 [.val (.sl false 4 (List.map (GNode.enc false) a1))] [.sl true 4 (List.map (GNode.enc true) r0)] [] := by
  refine ok_of_body (fn := Tryd.f60) Tryd.func60 rfl (by simp [Tryd.f60]) fun C hN hP => ?_
  have hPB : ∀ l, pinK [] l = true → pinB C.pin l = true := pinB_of (by rw [hP]; rfl)
  have hN' : C.N = 23 := hN
  clear hN
  unfold laws_toNodeS at h
  refine SWp.seqR rfl (hPB _ rfl) fun K hK => ?_
  refine wps_cons rfl fun K hK => ?_; simp [hN']; refine hK _ ?_; clear hK
  refine wps_nil (hK _ ?_); clear hK
  refine SWp.seqR rfl (hPB _ rfl) fun K hK => ?_
  iterate 2 (refine wps_cons rfl fun K hK => ?_; simp [hN']; refine hK _ ?_; clear hK)
  obtain ⟨l2, hl2, h⟩ := bind_some h
  obtain ⟨hl2a, hl2b, hl2c, hl2d⟩ := mkI_some hl2
  have hl2f : List.replicate (a1.length : Int).toNat (.agg [vi 0, vi 0, vs ByteArray.empty, .sl true 1 []]) = List.map (GNode.enc true) l2 := rep_map (f := (GNode.enc true)) hl2d
  try simp only [Int.toNat_natCast] at hl2f
  iterate 2 (refine wps_cons rfl fun K hK => ?_; simp [hN', hl2a, hl2b, hl2c, hl2f]; refine hK _ ?_; clear hK)
  refine wps_nil (hK _ ?_); clear hK
  obtain ⟨out19, hj3, h⟩ := bind_some h
  refine SWp.seqC [3] [] (fun _ : Unit => ⟨[(3, .t (.sl true 4 (List.map (GNode.enc true) out19)))], []⟩) (fun _ => True) (fun _ _ => ?_) fun K4 hK4 => ?_
  rotate_left
  · refine SWp.seqR rfl (hPB _ rfl) fun K hK => ?_
    refine wps_cons rfl fun K hK => ?_; simp [hN']; refine hK _ ?_; clear hK
    refine wps_nil (hK _ ?_); clear hK
    refine SWp.block ?_
    refine SWp.loopO [] [0, 3, 4] [] (fun v : (List GNode) × Int => ⟨[(0, .t (.sl false 4 (List.map (GNode.enc false) a1))), (3, .t (.sl true 4 (List.map (GNode.enc true) v.1))), (4, .t (vi v.2))], []⟩) (laws_toNodeS_l1 a1) _ (l2, 0) hj3 (by simp [hN']) ?_
    intro g s10 h8 ho9
    obtain ⟨out6, i7⟩ := g
    simp only [laws_toNodeS_l1] at h8
    try dsimp only
    refine SWp.seq ?_
    refine SWp.seqR rfl (hPB _ rfl) fun K hK => ?_
    iterate 4 (refine wps_cons rfl fun K hK => ?_; simp [hN']; refine hK _ ?_; clear hK)
    refine wps_nil (hK _ ?_); clear hK
    rcases ite_or h8 with ⟨hb11, h8⟩ | ⟨hb12, h8⟩
    · refine SWp.condT' (b := decide (i7 < (a1.length : Int))) (by simp) hb11 ?_
      refine SWp.skip ?_
      show SWp E C _ _ _
      refine SWp.seq ?_
      refine SWp.block ?_
      refine SWp.reg rfl (hPB _ rfl) fun K hK => ?_
      iterate 4 (refine wps_cons rfl fun K hK => ?_; simp [hN']; refine hK _ ?_; clear hK)
      obtain ⟨e13, he13, h8⟩ := bind_some h8
      obtain ⟨he13a, he13b, he13c, he13d⟩ := getI_some he13
      iterate 2 (refine wps_cons rfl fun K hK => ?_; simp [hN', he13a, he13b, he13c, he13d]; refine hK _ ?_; clear hK)
      obtain ⟨r14, hc15, h8⟩ := bind_some h8
      refine wps_call [(.take, .tmp 19)] rfl rfl ent93 (laws_toNode_ok _ hc15) fun K hK => ?_; simp [hN', he13a, he13b, he13c, he13d]; refine hK _ ?_; clear hK
      obtain ⟨e16, he16, h8⟩ := bind_some h8
      obtain ⟨he16a, he16b, he16c, he16d⟩ := getI_some he16
      refine wps_cons rfl fun K hK => ?_; simp [hN', he13a, he13b, he13c, he13d, he16a, he16b, he16c, he16d]; refine hK _ ?_; clear hK
      obtain ⟨l17, hl17, h8⟩ := bindS_some h8
      have hl17f : (List.map (GNode.enc true) out6).set i7.toNat (.agg [vi r14.Kind, vi r14.Num, vs r14.Name, .sl true 1 (List.map vi r14.Kids)]) = List.map (GNode.enc true) l17 := set_map (f := (GNode.enc true)) hl17
      try simp only [Int.toNat_natCast] at hl17f
      refine wps_cons rfl fun K hK => ?_; simp [hN', he13a, he13b, he13c, he13d, he16a, he16b, he16c, he16d, hl17f]; refine hK _ ?_; clear hK
      refine wps_nil (hK _ ?_); clear hK
      show SWp E C _ _ _
      refine SWp.reg rfl (hPB _ rfl) fun K hK => ?_
      iterate 3 (refine wps_cons rfl fun K hK => ?_; simp [hN']; refine hK _ ?_; clear hK)
      refine wps_nil (hK _ ?_); clear hK
      cases h8
      exact ⟨_, [], rfl, by simp [hN']⟩
    · refine SWp.condF' (b := decide (i7 < (a1.length : Int))) (by simp) hb12 ?_
      refine SWp.exit ?_
      have h18 := congrArg some (ho9 _ (Option.some.inj h8).symm)
      cases h18
      exact hK4 _ () [] trivial (by simp [hN'])
  refine SWp.seqR rfl (hPB _ rfl) fun K hK => ?_
  iterate 2 (refine wps_cons rfl fun K hK => ?_; simp [hN']; refine hK _ ?_; clear hK)
  refine wps_nil (hK _ ?_); clear hK
  cases h
  refine SWp.ret ?_
  simp [thenS, inBlockS, res60]
end Go.Proofs.T
set_option linter.unusedVariables false
set_option linter.unusedSimpArgs false
set_option maxHeartbeats 1000000
namespace Go.Proofs.T
open Go.OM
theorem res131 : Tryd.f131.results.toList = [.cell 2 144] := rfl
theorem ent131 : Enters E.P 131 := enters_of Tryd.func131 (by simp [Tryd.f131]) rfl
theorem laws_toParam_ok (a1 : GParam) {r0 : GParam} (h : laws_toParam a1 = some r0) : Ok E 131 [.val (GParam.enc a1)] [GParam.enc r0] [] := by
  refine ok_of_body (fn := Tryd.f131) Tryd.func131 rfl (by simp [Tryd.f131]) fun C hN hP => ?_
  have hPB : ∀ l, pinK [] l = true → pinB C.pin l = true := pinB_of (by rw [hP]; rfl)
  have hN' : C.N = 11 := hN
  clear hN
  unfold laws_toParam at h
  refine SWp.seqR rfl (hPB _ rfl) fun K hK => ?_
  iterate 2 (refine wps_cons rfl fun K hK => ?_; simp [hN']; refine hK _ ?_; clear hK)
  refine wps_nil (hK _ ?_); clear hK
  refine SWp.seqR rfl (hPB _ rfl) fun K hK => ?_
  refine wps_cons rfl fun K hK => ?_; simp [hN']; refine hK _ ?_; clear hK
  refine wps_nil (hK _ ?_); clear hK
  refine SWp.seqR rfl (hPB _ rfl) fun K hK => ?_
  iterate 4 (refine wps_cons rfl fun K hK => ?_; simp [hN']; refine hK _ ?_; clear hK)
  refine wps_nil (hK _ ?_); clear hK
  refine SWp.seqR rfl (hPB _ rfl) fun K hK => ?_
  iterate 4 (refine wps_cons rfl fun K hK => ?_; simp [hN']; refine hK _ ?_; clear hK)
  refine wps_nil (hK _ ?_); clear hK
  refine SWp.seqR rfl (hPB _ rfl) fun K hK => ?_
  iterate 2 (refine wps_cons rfl fun K hK => ?_; simp [hN']; refine hK _ ?_; clear hK)
  refine wps_nil (hK _ ?_); clear hK
  cases h
  refine SWp.ret ?_
  simp [thenS, inBlockS, res131]
end Go.Proofs.T
set_option linter.unusedVariables false
set_option linter.unusedSimpArgs false
set_option maxHeartbeats 1000000
namespace Go.Proofs.T
open Go.OM
theorem res120 : Tryd.f120.results.toList = [.tmp 2] := rfl
theorem ent120 : Enters E.P 120 := enters_of Tryd.func120 (by simp [Tryd.f120]) rfl
theorem laws_toParamS_ok (a1 : List GParam) {r0 : List GParam} (h : laws_toParamS a1 = some r0) : Ok E 120 [.val (.sl false 2 (List.map GParam.enc a1))] [.sl true 2 (List.map GParam.enc r0)] [] := by
  refine ok_of_body (fn := Tryd.f120) Tryd.func120 rfl (by simp [Tryd.f120]) fun C hN hP => ?_
  have hPB : ∀ l, pinK [] l = true → pinB C.pin l = true := pinB_of (by rw [hP]; rfl)
  have hN' : C.N = 23 := hN
  clear hN
  unfold laws_toParamS at h
  refine SWp.seqR rfl (hPB _ rfl) fun K hK => ?_
  refine wps_cons rfl fun K hK => ?_; simp [hN']; refine hK _ ?_; clear hK
  refine wps_nil (hK _ ?_); clear hK
  refine SWp.seqR rfl (hPB _ rfl) fun K hK => ?_
  iterate 2 (refine wps_cons rfl fun K hK => ?_; simp [hN']; refine hK _ ?_; clear hK)
  obtain ⟨l2, hl2, h⟩ := bind_some h
  obtain ⟨hl2a, hl2b, hl2c, hl2d⟩ := mkI_some hl2
  have hl2f : List.replicate (a1.length : Int).toNat (.agg [vs ByteArray.empty, vi 0]) = List.map GParam.enc l2 := rep_map (f := GParam.enc) hl2d
  try simp only [Int.toNat_natCast] at hl2f
  iterate 2 (refine wps_cons rfl fun K hK => ?_; simp [hN', hl2a, hl2b, hl2c, hl2f]; refine hK _ ?_; clear hK)
  refine wps_nil (hK _ ?_); clear hK
  obtain ⟨out19, hj3, h⟩ := bind_some h
  refine SWp.seqC [3] [] (fun _ : Unit => ⟨[(3, .t (.sl true 2 (List.map GParam.enc out19)))], []⟩) (fun _ => True) (fun _ _ => ?_) fun K4 hK4 => ?_
  rotate_left
  · refine SWp.seqR rfl (hPB _ rfl) fun K hK => ?_
    refine wps_cons rfl fun K hK => ?_; simp [hN']; refine hK _ ?_; clear hK
    refine wps_nil (hK _ ?_); clear hK
    refine SWp.block ?_
    refine SWp.loopO [] [0, 3, 4] [] (fun v : (List GParam) × Int => ⟨[(0, .t (.sl false 2 (List.map GParam.enc a1))), (3, .t (.sl true 2 (List.map GParam.enc v.1))), (4, .t (vi v.2))], []⟩) (laws_toParamS_l1 a1) _ (l2, 0) hj3 (by simp [hN']) ?_
    intro g s10 h8 ho9
    obtain ⟨out6, i7⟩ := g
    simp only [laws_toParamS_l1] at h8
    try dsimp only
    refine SWp.seq ?_
    refine SWp.seqR rfl (hPB _ rfl) fun K hK => ?_
    iterate 4 (refine wps_cons rfl fun K hK => ?_; simp [hN']; refine hK _ ?_; clear hK)
    refine wps_nil (hK _ ?_); clear hK
    rcases ite_or h8 with ⟨hb11, h8⟩ | ⟨hb12, h8⟩
    · refine SWp.condT' (b := decide (i7 < (a1.length : Int))) (by simp) hb11 ?_
      refine SWp.skip ?_
      show SWp E C _ _ _
      refine SWp.seq ?_
      refine SWp.block ?_
      refine SWp.reg rfl (hPB _ rfl) fun K hK => ?_
      iterate 4 (refine wps_cons rfl fun K hK => ?_; simp [hN']; refine hK _ ?_; clear hK)
      obtain ⟨e13, he13, h8⟩ := bind_some h8
      obtain ⟨he13a, he13b, he13c, he13d⟩ := getI_some he13
      iterate 2 (refine wps_cons rfl fun K hK => ?_; simp [hN', he13a, he13b, he13c, he13d]; refine hK _ ?_; clear hK)
      obtain ⟨r14, hc15, h8⟩ := bind_some h8
      refine wps_call [(.take, .tmp 19)] rfl rfl ent131 (laws_toParam_ok _ hc15) fun K hK => ?_; simp [hN', he13a, he13b, he13c, he13d]; refine hK _ ?_; clear hK
      obtain ⟨e16, he16, h8⟩ := bind_some h8
      obtain ⟨he16a, he16b, he16c, he16d⟩ := getI_some he16
      refine wps_cons rfl fun K hK => ?_; simp [hN', he13a, he13b, he13c, he13d, he16a, he16b, he16c, he16d]; refine hK _ ?_; clear hK
      obtain ⟨l17, hl17, h8⟩ := bindS_some h8
      have hl17f : (List.map GParam.enc out6).set i7.toNat (.agg [vs r14.Name, vi r14.Typ]) = List.map GParam.enc l17 := set_map (f := GParam.enc) hl17
      try simp only [Int.toNat_natCast] at hl17f
      refine wps_cons rfl fun K hK => ?_; simp [hN', he13a, he13b, he13c, he13d, he16a, he16b, he16c, he16d, hl17f]; refine hK _ ?_; clear hK
      refine wps_nil (hK _ ?_); clear hK
      show SWp E C _ _ _
      refine SWp.reg rfl (hPB _ rfl) fun K hK => ?_
      iterate 3 (refine wps_cons rfl fun K hK => ?_; simp [hN']; refine hK _ ?_; clear hK)
      refine wps_nil (hK _ ?_); clear hK
      cases h8
      exact ⟨_, [], rfl, by simp [hN']⟩
    · refine SWp.condF' (b := decide (i7 < (a1.length : Int))) (by simp) hb12 ?_
      refine SWp.exit ?_
      have h18 := congrArg some (ho9 _ (Option.some.inj h8).symm)
      cases h18
      exact hK4 _ () [] trivial (by simp [hN'])
  refine SWp.seqR rfl (hPB _ rfl) fun K hK => ?_
  iterate 2 (refine wps_cons rfl fun K hK => ?_; simp [hN']; refine hK _ ?_; clear hK)
  refine wps_nil (hK _ ?_); clear hK
  cases h
  refine SWp.ret ?_
  simp [thenS, inBlockS, res120]
end Go.Proofs.T
set_option linter.unusedVariables false
set_option linter.unusedSimpArgs false
set_option maxHeartbeats 1000000
namespace Go.Proofs.T
open Go.OM
theorem res94 : Tryd.f94.results.toList = [.cell 2 117] := rfl
theorem ent94 : Enters E.P 94 := enters_of Tryd.func94 (by simp [Tryd.f94]) rfl
theorem laws_toFn_ok (a1 : GFn) {r0 : GFn} (h : laws_toFn a1 = some r0) : Ok E 94 [.val (GFn.enc false a1)] [GFn.enc true r0] [] := by
  refine ok_of_body (fn := Tryd.f94) Tryd.func94 rfl (by simp [Tryd.f94]) fun C hN hP => ?_
  have hPB : ∀ l, pinK [] l = true → pinB C.pin l = true := pinB_of (by rw [hP]; rfl)
  have hN' : C.N = 21 := hN
  clear hN
  unfold laws_toFn at h
  refine SWp.seqR rfl (hPB _ rfl) fun K hK => ?_
  iterate 2 (refine wps_cons rfl fun K hK => ?_; simp [hN']; refine hK _ ?_; clear hK)
  refine wps_nil (hK _ ?_); clear hK
  refine SWp.seqR rfl (hPB _ rfl) fun K hK => ?_
  refine wps_cons rfl fun K hK => ?_; simp [hN']; refine hK _ ?_; clear hK
  refine wps_nil (hK _ ?_); clear hK
  refine SWp.seqR rfl (hPB _ rfl) fun K hK => ?_
  iterate 4 (refine wps_cons rfl fun K hK => ?_; simp [hN']; refine hK _ ?_; clear hK)
  refine wps_nil (hK _ ?_); clear hK
  refine SWp.seqR rfl (hPB _ rfl) fun K hK => ?_
  iterate 2 (refine wps_cons rfl fun K hK => ?_; simp [hN']; refine hK _ ?_; clear hK)
  obtain ⟨r2, hc3, h⟩ := bind_some h
  refine wps_call [(.take, .tmp 8)] rfl rfl ent120 (laws_toParamS_ok _ hc3) fun K hK => ?_; simp [hN']; refine hK _ ?_; clear hK
  iterate 2 (refine wps_cons rfl fun K hK => ?_; simp [hN']; refine hK _ ?_; clear hK)
  refine wps_nil (hK _ ?_); clear hK
  refine SWp.seqR rfl (hPB _ rfl) fun K hK => ?_
  iterate 4 (refine wps_cons rfl fun K hK => ?_; simp [hN']; refine hK _ ?_; clear hK)
  refine wps_nil (hK _ ?_); clear hK
  refine SWp.seqR rfl (hPB _ rfl) fun K hK => ?_
  iterate 4 (refine wps_cons rfl fun K hK => ?_; simp [hN']; refine hK _ ?_; clear hK)
  refine wps_nil (hK _ ?_); clear hK
  refine SWp.seqR rfl (hPB _ rfl) fun K hK => ?_
  iterate 4 (refine wps_cons rfl fun K hK => ?_; simp [hN']; refine hK _ ?_; clear hK)
  refine wps_nil (hK _ ?_); clear hK
  refine SWp.seqR rfl (hPB _ rfl) fun K hK => ?_
  iterate 2 (refine wps_cons rfl fun K hK => ?_; simp [hN']; refine hK _ ?_; clear hK)
  refine wps_nil (hK _ ?_); clear hK
  cases h
  refine SWp.ret ?_
  simp [thenS, inBlockS, res94]
end Go.Proofs.T
set_option linter.unusedVariables false
set_option linter.unusedSimpArgs false
set_option maxHeartbeats 1000000
namespace Go.Proofs.T
open Go.OM
theorem res61 : Tryd.f61.results.toList = [.tmp 2] := rfl
theorem ent61 : Enters E.P 61 := enters_of Tryd.func61 (by simp [Tryd.f61]) rfl
theorem laws_toFnS_ok (a1 : List GFn) {r0 : List GFn} (h : laws_toFnS a1 = some r0) : Ok E 61 [.val (.sl false 5 (List.map (GFn.enc false) a1))] [.sl true 5 (List.map (GFn.enc true) r0)] [] := by
  refine ok_of_body (fn := Tryd.f61) Tryd.func61 rfl (by simp [Tryd.f61]) fun C hN hP => ?_
  have hPB : ∀ l, pinK [] l = true → pinB C.pin l = true := pinB_of (by rw [hP]; rfl)
  have hN' : C.N = 23 := hN
  clear hN
  unfold laws_toFnS at h
  refine SWp.seqR rfl (hPB _ rfl) fun K hK => ?_
  refine wps_cons rfl fun K hK => ?_; simp [hN']; refine hK _ ?_; clear hK
  refine wps_nil (hK _ ?_); clear hK
  refine SWp.seqR rfl (hPB _ rfl) fun K hK => ?_
  iterate 2 (refine wps_cons rfl fun K hK => ?_; simp [hN']; refine hK _ ?_; clear hK)
  obtain ⟨l2, hl2, h⟩ := bind_some h
  obtain ⟨hl2a, hl2b, hl2c, hl2d⟩ := mkI_some hl2
  have hl2f : List.replicate (a1.length : Int).toNat (.agg [vs ByteArray.empty, .sl true 2 [], vi 0, vi 0, vi 0]) = List.map (GFn.enc true) l2 := rep_map (f := (GFn.enc true)) hl2d
  try simp only [Int.toNat_natCast] at hl2f
  iterate 2 (refine wps_cons rfl fun K hK => ?_; simp [hN', hl2a, hl2b, hl2c, hl2f]; refine hK _ ?_; clear hK)
  refine wps_nil (hK _ ?_); clear hK
  obtain ⟨out19, hj3, h⟩ := bind_some h
  refine SWp.seqC [3] [] (fun _ : Unit => ⟨[(3, .t (.sl true 5 (List.map (GFn.enc true) out19)))], []⟩) (fun _ => True) (fun _ _ => ?_) fun K4 hK4 => ?_
  rotate_left
  · refine SWp.seqR rfl (hPB _ rfl) fun K hK => ?_
    refine wps_cons rfl fun K hK => ?_; simp [hN']; refine hK _ ?_; clear hK
    refine wps_nil (hK _ ?_); clear hK
    refine SWp.block ?_
    refine SWp.loopO [] [0, 3, 4] [] (fun v : (List GFn) × Int => ⟨[(0, .t (.sl false 5 (List.map (GFn.enc false) a1))), (3, .t (.sl true 5 (List.map (GFn.enc true) v.1))), (4, .t (vi v.2))], []⟩) (laws_toFnS_l1 a1) _ (l2, 0) hj3 (by simp [hN']) ?_
    intro g s10 h8 ho9
    obtain ⟨out6, i7⟩ := g
    simp only [laws_toFnS_l1] at h8
    try dsimp only
    refine SWp.seq ?_
    refine SWp.seqR rfl (hPB _ rfl) fun K hK => ?_
    iterate 4 (refine wps_cons rfl fun K hK => ?_; simp [hN']; refine hK _ ?_; clear hK)
    refine wps_nil (hK _ ?_); clear hK
    rcases ite_or h8 with ⟨hb11, h8⟩ | ⟨hb12, h8⟩
    · refine SWp.condT' (b := decide (i7 < (a1.length : Int))) (by simp) hb11 ?_
      refine SWp.skip ?_
      show SWp E C _ _ _
      refine SWp.seq ?_
      refine SWp.block ?_
      refine SWp.reg rfl (hPB _ rfl) fun K hK => ?_
      iterate 4 (refine wps_cons rfl fun K hK => ?_; simp [hN']; refine hK _ ?_; clear hK)
      obtain ⟨e13, he13, h8⟩ := bind_some h8
      obtain ⟨he13a, he13b, he13c, he13d⟩ := getI_some he13
      iterate 2 (refine wps_cons rfl fun K hK => ?_; simp [hN', he13a, he13b, he13c, he13d]; refine hK _ ?_; clear hK)
      obtain ⟨r14, hc15, h8⟩ := bind_some h8
      refine wps_call [(.take, .tmp 19)] rfl rfl ent94 (laws_toFn_ok _ hc15) fun K hK => ?_; simp [hN', he13a, he13b, he13c, he13d]; refine hK _ ?_; clear hK
      obtain ⟨e16, he16, h8⟩ := bind_some h8
      obtain ⟨he16a, he16b, he16c, he16d⟩ := getI_some he16
      refine wps_cons rfl fun K hK => ?_; simp [hN', he13a, he13b, he13c, he13d, he16a, he16b, he16c, he16d]; refine hK _ ?_; clear hK
      obtain ⟨l17, hl17, h8⟩ := bindS_some h8
      have hl17f : (List.map (GFn.enc true) out6).set i7.toNat (.agg [vs r14.Name, .sl true 2 (List.map GParam.enc r14.Params), vi r14.Res, vi r14.Body, vi r14.Ret]) = List.map (GFn.enc true) l17 := set_map (f := (GFn.enc true)) hl17
      try simp only [Int.toNat_natCast] at hl17f
      refine wps_cons rfl fun K hK => ?_; simp [hN', he13a, he13b, he13c, he13d, he16a, he16b, he16c, he16d, hl17f]; refine hK _ ?_; clear hK
      refine wps_nil (hK _ ?_); clear hK
      show SWp E C _ _ _
      refine SWp.reg rfl (hPB _ rfl) fun K hK => ?_
      iterate 3 (refine wps_cons rfl fun K hK => ?_; simp [hN']; refine hK _ ?_; clear hK)
      refine wps_nil (hK _ ?_); clear hK
      cases h8
      exact ⟨_, [], rfl, by simp [hN']⟩
    · refine SWp.condF' (b := decide (i7 < (a1.length : Int))) (by simp) hb12 ?_
      refine SWp.exit ?_
      have h18 := congrArg some (ho9 _ (Option.some.inj h8).symm)
      cases h18
      exact hK4 _ () [] trivial (by simp [hN'])
  refine SWp.seqR rfl (hPB _ rfl) fun K hK => ?_
  iterate 2 (refine wps_cons rfl fun K hK => ?_; simp [hN']; refine hK _ ?_; clear hK)
  refine wps_nil (hK _ ?_); clear hK
  cases h
  refine SWp.ret ?_
  simp [thenS, inBlockS, res61]
end Go.Proofs.T
set_option linter.unusedVariables false
set_option linter.unusedSimpArgs false
set_option maxHeartbeats 1000000
namespace Go.Proofs.T
open Go.OM
theorem res24 : Tryd.f24.results.toList = [.cell 2 54] := rfl
theorem ent24 : Enters E.P 24 := enters_of Tryd.func24 (by simp [Tryd.f24]) rfl
theorem laws_toProgram_ok (a1 : GProgram) {r0 : GProgram} (h : laws_toProgram a1 = some r0) : Ok E 24 [.val (GProgram.enc false a1)] [GProgram.enc true r0] [] := by
  refine ok_of_body (fn := Tryd.f24) Tryd.func24 rfl (by simp [Tryd.f24]) fun C hN hP => ?_
  have hPB : ∀ l, pinK [] l = true → pinB C.pin l = true := pinB_of (by rw [hP]; rfl)
  have hN' : C.N = 13 := hN
  clear hN
  unfold laws_toProgram at h
  refine SWp.seqR rfl (hPB _ rfl) fun K hK => ?_
  iterate 2 (refine wps_cons rfl fun K hK => ?_; simp [hN']; refine hK _ ?_; clear hK)
  refine wps_nil (hK _ ?_); clear hK
  refine SWp.seqR rfl (hPB _ rfl) fun K hK => ?_
  refine wps_cons rfl fun K hK => ?_; simp [hN']; refine hK _ ?_; clear hK
  refine wps_nil (hK _ ?_); clear hK
  refine SWp.seqR rfl (hPB _ rfl) fun K hK => ?_
  iterate 2 (refine wps_cons rfl fun K hK => ?_; simp [hN']; refine hK _ ?_; clear hK)
  obtain ⟨r2, hc3, h⟩ := bind_some h
  refine wps_call [(.take, .tmp 5)] rfl rfl ent60 (laws_toNodeS_ok _ hc3) fun K hK => ?_; simp [hN']; refine hK _ ?_; clear hK
  iterate 2 (refine wps_cons rfl fun K hK => ?_; simp [hN']; refine hK _ ?_; clear hK)
  refine wps_nil (hK _ ?_); clear hK
  refine SWp.seqR rfl (hPB _ rfl) fun K hK => ?_
  iterate 2 (refine wps_cons rfl fun K hK => ?_; simp [hN']; refine hK _ ?_; clear hK)
  obtain ⟨r4, hc5, h⟩ := bind_some h
  refine wps_call [(.take, .tmp 9)] rfl rfl ent61 (laws_toFnS_ok _ hc5) fun K hK => ?_; simp [hN']; refine hK _ ?_; clear hK
  iterate 2 (refine wps_cons rfl fun K hK => ?_; simp [hN']; refine hK _ ?_; clear hK)
  refine wps_nil (hK _ ?_); clear hK
  refine SWp.seqR rfl (hPB _ rfl) fun K hK => ?_
  iterate 2 (refine wps_cons rfl fun K hK => ?_; simp [hN']; refine hK _ ?_; clear hK)
  refine wps_nil (hK _ ?_); clear hK
  cases h
  refine SWp.ret ?_
  simp [thenS, inBlockS, res24]
end Go.Proofs.T
set_option linter.unusedVariables false
set_option linter.unusedSimpArgs false
set_option maxHeartbeats 1000000
namespace Go.Proofs.T
open Go.OM
theorem res52 : Tryd.f52.results.toList = [.tmp 4] := rfl
theorem ent52 : Enters E.P 52 := enters_of Tryd.func52 (by simp [Tryd.f52]) rfl
theorem laws_eqIntS_ok (a1 : List Int) (b2 : List Int) {r0 : Bool} (h : laws_eqIntS a1 b2 = some r0) : Ok E 52 [.val (.sl false 1 (List.map vi a1)), .val (.sl false 1 (List.map vi b2))] [vb r0] [] := by
  refine ok_of_body (fn := Tryd.f52) Tryd.func52 rfl (by simp [Tryd.f52]) fun C hN hP => ?_
  have hPB : ∀ l, pinK [] l = true → pinB C.pin l = true := pinB_of (by rw [hP]; rfl)
  have hN' : C.N = 26 := hN
  clear hN
  unfold laws_eqIntS at h
  refine SWp.seqR rfl (hPB _ rfl) fun K hK => ?_
  refine wps_cons rfl fun K hK => ?_; simp [hN']; refine hK _ ?_; clear hK
  refine wps_nil (hK _ ?_); clear hK
  refine SWp.seq ?_
  refine SWp.seqR rfl (hPB _ rfl) fun K hK => ?_
  iterate 5 (refine wps_cons rfl fun K hK => ?_; simp [hN']; refine hK _ ?_; clear hK)
  refine wps_nil (hK _ ?_); clear hK
  rcases ite_or h with ⟨hb3, h⟩ | ⟨hb4, h⟩
  · refine SWp.condT' (b := (a1.length : Int) != (b2.length : Int)) (by simp) hb3 ?_
    refine SWp.seqR rfl (hPB _ rfl) fun K hK => ?_
    refine wps_cons rfl fun K hK => ?_; simp [hN']; refine hK _ ?_; clear hK
    refine wps_nil (hK _ ?_); clear hK
    cases h
    refine SWp.ret ?_
    simp [thenS, inBlockS, res52]
  · refine SWp.condF' (b := (a1.length : Int) != (b2.length : Int)) (by simp) hb4 ?_
    refine SWp.skip ?_
    show SWp E C _ _ _
    obtain ⟨j7, hj5, h⟩ := bind_some h
    refine SWp.seqC [] [] (fun v : Unit => ⟨[], []⟩) (fun v => j7 = Sum.inl v) (fun v hv => ?_) fun K6 hK6 => ?_
    rotate_left
    · refine SWp.seqR rfl (hPB _ rfl) fun K hK => ?_
      refine wps_cons rfl fun K hK => ?_; simp [hN']; refine hK _ ?_; clear hK
      refine wps_nil (hK _ ?_); clear hK
      refine SWp.block ?_
      refine SWp.loopO [] [0, 1, 5] [] (fun v : Int => ⟨[(0, .t (.sl false 1 (List.map vi a1))), (1, .t (.sl false 1 (List.map vi b2))), (5, .t (vi v))], []⟩) (laws_eqIntS_l1 a1 b2) _ 0 hj5 (by simp [hN']) ?_
      intro g s11 h9 ho10
      obtain ⟨i8, hg⟩ : ∃ y, y = g := ⟨_, rfl⟩
      subst hg
      simp only [laws_eqIntS_l1] at h9
      try dsimp only
      refine SWp.seq ?_
      refine SWp.seqR rfl (hPB _ rfl) fun K hK => ?_
      iterate 4 (refine wps_cons rfl fun K hK => ?_; simp [hN']; refine hK _ ?_; clear hK)
      refine wps_nil (hK _ ?_); clear hK
      rcases ite_or h9 with ⟨hb12, h9⟩ | ⟨hb13, h9⟩
      · refine SWp.condT' (b := decide (i8 < (a1.length : Int))) (by simp) hb12 ?_
        refine SWp.skip ?_
        show SWp E C _ _ _
        refine SWp.seq ?_
        refine SWp.block ?_
        refine SWp.seq ?_
        obtain ⟨e15, he15, h9⟩ := bind_some h9
        obtain ⟨he15a, he15b, he15c, he15d⟩ := getI_some he15
        obtain ⟨e16, he16, h9⟩ := bind_some h9
        obtain ⟨he16a, he16b, he16c, he16d⟩ := getI_some he16
        refine SWp.drawT rfl (hPB _ rfl) [(17, .t (.sl false 1 (List.map vi a1))), (18, .t (vi i8)), (19, .rop [vi e15] 0), (20, .t (vi e15)), (21, .t (.sl false 1 (List.map vi b2))), (22, .t (vi i8)), (23, .rop [vi e16] 0), (24, .t (vi e16))] [[], [], [0, 1], [0, 1, 2], [], [], [4, 5], [4, 5, 6], [0, 1, 2, 3, 4, 5, 6, 7]] (by simp) (by simp) (by simp [look]) rfl rfl rfl ?_ fun K hK => ?_
        · refine ⟨?_, ?_, ?_, ?_, ?_, ?_, ?_, ?_, trivial⟩
          all_goals (intro τ hbx hb hd hf K hK; try simp [vsAt] at hd; simp [vsAt] at hf; first | (refine wps_cons rfl fun K' hK' => ?_; simp [hN', hbx, hb, hd, hf, he15a, he15b, he15c, he15d, he16a, he16b, he16c, he16d]; exact hK' _ (wps_nil (hK _ (by simp [vsAt, hbx, he15a, he15b, he15c, he15d, he16a, he16b, he16c, he16d])))))
        refine wps_cons rfl fun K hK => ?_; simp [hN', he15a, he15b, he15c, he15d, he16a, he16b, he16c, he16d]; refine hK _ ?_; clear hK
        refine wps_nil (hK _ ?_); clear hK
        show SWp E C _ _ _
        rcases ite_or h9 with ⟨hb17, h9⟩ | ⟨hb18, h9⟩
        · refine SWp.condT' (b := e15 != e16) (by simp) hb17 ?_
          refine SWp.seqR rfl (hPB _ rfl) fun K hK => ?_
          refine wps_cons rfl fun K hK => ?_; simp [hN']; refine hK _ ?_; clear hK
          refine wps_nil (hK _ ?_); clear hK
          have h19 := congrArg some (ho10 _ (Option.some.inj h9).symm)
          cases h19
          try dsimp only at h
          cases h
          refine SWp.ret ?_
          simp [thenS, inBlockS, res52]
        · refine SWp.condF' (b := e15 != e16) (by simp) hb18 ?_
          refine SWp.skip ?_
          show SWp E C _ _ _
          refine SWp.reg rfl (hPB _ rfl) fun K hK => ?_
          iterate 3 (refine wps_cons rfl fun K hK => ?_; simp [hN']; refine hK _ ?_; clear hK)
          refine wps_nil (hK _ ?_); clear hK
          cases h9
          exact ⟨_, [], rfl, by simp [hN']⟩
      · refine SWp.condF' (b := decide (i8 < (a1.length : Int))) (by simp) hb13 ?_
        refine SWp.exit ?_
        have h20 := congrArg some (ho10 _ (Option.some.inj h9).symm)
        cases h20
        exact hK6 _ _ [] rfl (by simp [hN'])
    subst hv
    obtain ⟨⟩ := v
    try dsimp only at h ⊢
    refine SWp.seqR rfl (hPB _ rfl) fun K hK => ?_
    refine wps_cons rfl fun K hK => ?_; simp [hN']; refine hK _ ?_; clear hK
    refine wps_nil (hK _ ?_); clear hK
    cases h
    refine SWp.ret ?_
    simp [thenS, inBlockS, res52]
end Go.Proofs.T
set_option linter.unusedVariables false
set_option linter.unusedSimpArgs false
set_option maxHeartbeats 1000000
namespace Go.Proofs.T
open Go.OM
theorem res97 : Tryd.f97.results.toList = [.tmp 4] := rfl
theorem ent97 : Enters E.P 97 := enters_of Tryd.func97 (by simp [Tryd.f97]) rfl
theorem laws_eqNode_ok (a1 : GNode) (b2 : GNode) {r0 : Bool} (h : laws_eqNode a1 b2 = some r0) : Ok E 97 [.val (GNode.enc false a1), .val (GNode.enc false b2)] [vb r0] [] := by
  refine ok_of_body (fn := Tryd.f97) Tryd.func97 rfl (by simp [Tryd.f97]) fun C hN hP => ?_
  have hPB : ∀ l, pinK [] l = true → pinB C.pin l = true := pinB_of (by rw [hP]; rfl)
  have hN' : C.N = 26 := hN
  clear hN
  unfold laws_eqNode at h
  refine SWp.seqR rfl (hPB _ rfl) fun K hK => ?_
  iterate 3 (refine wps_cons rfl fun K hK => ?_; simp [hN']; refine hK _ ?_; clear hK)
  refine wps_nil (hK _ ?_); clear hK
  refine SWp.seq ?_
  refine SWp.seqR rfl (hPB _ rfl) fun K hK => ?_
  iterate 5 (refine wps_cons rfl fun K hK => ?_; simp [hN']; refine hK _ ?_; clear hK)
  refine wps_nil (hK _ ?_); clear hK
  rcases ite_or h with ⟨hb3, h⟩ | ⟨hb4, h⟩
  · refine SWp.condT' (b := a1.Kind != b2.Kind) (by simp) hb3 ?_
    refine SWp.seqR rfl (hPB _ rfl) fun K hK => ?_
    refine wps_cons rfl fun K hK => ?_; simp [hN']; refine hK _ ?_; clear hK
    refine wps_nil (hK _ ?_); clear hK
    cases h
    refine SWp.ret ?_
    simp [thenS, inBlockS, res97]
  · refine SWp.condF' (b := a1.Kind != b2.Kind) (by simp) hb4 ?_
    refine SWp.skip ?_
    show SWp E C _ _ _
    refine SWp.seq ?_
    refine SWp.seqR rfl (hPB _ rfl) fun K hK => ?_
    iterate 5 (refine wps_cons rfl fun K hK => ?_; simp [hN']; refine hK _ ?_; clear hK)
    refine wps_nil (hK _ ?_); clear hK
    rcases ite_or h with ⟨hb5, h⟩ | ⟨hb6, h⟩
    · refine SWp.condT' (b := a1.Num != b2.Num) (by simp) hb5 ?_
      refine SWp.seqR rfl (hPB _ rfl) fun K hK => ?_
      refine wps_cons rfl fun K hK => ?_; simp [hN']; refine hK _ ?_; clear hK
      refine wps_nil (hK _ ?_); clear hK
      cases h
      refine SWp.ret ?_
      simp [thenS, inBlockS, res97]
    · refine SWp.condF' (b := a1.Num != b2.Num) (by simp) hb6 ?_
      refine SWp.skip ?_
      show SWp E C _ _ _
      refine SWp.seq ?_
      refine SWp.seqR rfl (hPB _ rfl) fun K hK => ?_
      iterate 5 (refine wps_cons rfl fun K hK => ?_; simp [hN']; refine hK _ ?_; clear hK)
      refine wps_nil (hK _ ?_); clear hK
      rcases ite_or h with ⟨hb7, h⟩ | ⟨hb8, h⟩
      · refine SWp.condT' (b := !(sEq a1.Name b2.Name)) (by simp) hb7 ?_
        refine SWp.seqR rfl (hPB _ rfl) fun K hK => ?_
        refine wps_cons rfl fun K hK => ?_; simp [hN']; refine hK _ ?_; clear hK
        refine wps_nil (hK _ ?_); clear hK
        cases h
        refine SWp.ret ?_
        simp [thenS, inBlockS, res97]
      · refine SWp.condF' (b := !(sEq a1.Name b2.Name)) (by simp) hb8 ?_
        refine SWp.skip ?_
        show SWp E C _ _ _
        refine SWp.seq ?_
        refine SWp.seqR rfl (hPB _ rfl) fun K hK => ?_
        iterate 4 (refine wps_cons rfl fun K hK => ?_; simp [hN']; refine hK _ ?_; clear hK)
        obtain ⟨r9, hc10, h⟩ := bind_some h
        refine wps_call [(.take, .tmp 21), (.take, .tmp 23)] rfl rfl ent52 (laws_eqIntS_ok _ _ hc10) fun K hK => ?_; simp [hN']; refine hK _ ?_; clear hK
        refine wps_cons rfl fun K hK => ?_; simp [hN']; refine hK _ ?_; clear hK
        refine wps_nil (hK _ ?_); clear hK
        rcases ite_or h with ⟨hb11, h⟩ | ⟨hb12, h⟩
        · refine SWp.condT' (b := !r9) (by simp) hb11 ?_
          refine SWp.seqR rfl (hPB _ rfl) fun K hK => ?_
          refine wps_cons rfl fun K hK => ?_; simp [hN']; refine hK _ ?_; clear hK
          refine wps_nil (hK _ ?_); clear hK
          cases h
          refine SWp.ret ?_
          simp [thenS, inBlockS, res97]
        · refine SWp.condF' (b := !r9) (by simp) hb12 ?_
          refine SWp.skip ?_
          show SWp E C _ _ _
          refine SWp.seqR rfl (hPB _ rfl) fun K hK => ?_
          refine wps_cons rfl fun K hK => ?_; simp [hN']; refine hK _ ?_; clear hK
          refine wps_nil (hK _ ?_); clear hK
          cases h
          refine SWp.ret ?_
          simp [thenS, inBlockS, res97]
end Go.Proofs.T
set_option linter.unusedVariables false
set_option linter.unusedSimpArgs false
set_option maxHeartbeats 1000000
namespace Go.Proofs.T
open Go.OM
theorem res64 : Tryd.f64.results.toList = [.tmp 4] := rfl
theorem ent64 : Enters E.P 64 := enters_of Tryd.func64 (by simp [Tryd.f64]) rfl
theorem laws_eqNodeS_ok (a1 : List GNode) (b2 : List GNode) {r0 : Bool} (h : laws_eqNodeS a1 b2 = some r0) : Ok E 64 [.val (.sl false 4 (List.map (GNode.enc false) a1)), .val (.sl false 4 (List.map (GNode.enc false) b2))] [vb r0] [] := by
  refine ok_of_body (fn := Tryd.f64) Tryd.func64 rfl (by simp [Tryd.f64]) fun C hN hP => ?_
  have hPB : ∀ l, pinK [] l = true → pinB C.pin l = true := pinB_of (by rw [hP]; rfl)
  have hN' : C.N = 27 := hN
  clear hN
  unfold laws_eqNodeS at h
  refine SWp.seqR rfl (hPB _ rfl) fun K hK => ?_
  refine wps_cons rfl fun K hK => ?_; simp [hN']; refine hK _ ?_; clear hK
  refine wps_nil (hK _ ?_); clear hK
  refine SWp.seq ?_
  refine SWp.seqR rfl (hPB _ rfl) fun K hK => ?_
  iterate 5 (refine wps_cons rfl fun K hK => ?_; simp [hN']; refine hK _ ?_; clear hK)
  refine wps_nil (hK _ ?_); clear hK
  rcases ite_or h with ⟨hb3, h⟩ | ⟨hb4, h⟩
  · refine SWp.condT' (b := (a1.length : Int) != (b2.length : Int)) (by simp) hb3 ?_
    refine SWp.seqR rfl (hPB _ rfl) fun K hK => ?_
    refine wps_cons rfl fun K hK => ?_; simp [hN']; refine hK _ ?_; clear hK
    refine wps_nil (hK _ ?_); clear hK
    cases h
    refine SWp.ret ?_
    simp [thenS, inBlockS, res64]
  · refine SWp.condF' (b := (a1.length : Int) != (b2.length : Int)) (by simp) hb4 ?_
    refine SWp.skip ?_
    show SWp E C _ _ _
    obtain ⟨j7, hj5, h⟩ := bind_some h
    refine SWp.seqC [] [] (fun v : Unit => ⟨[], []⟩) (fun v => j7 = Sum.inl v) (fun v hv => ?_) fun K6 hK6 => ?_
    rotate_left
    · refine SWp.seqR rfl (hPB _ rfl) fun K hK => ?_
      refine wps_cons rfl fun K hK => ?_; simp [hN']; refine hK _ ?_; clear hK
      refine wps_nil (hK _ ?_); clear hK
      refine SWp.block ?_
      refine SWp.loopO [] [0, 1, 5] [] (fun v : Int => ⟨[(0, .t (.sl false 4 (List.map (GNode.enc false) a1))), (1, .t (.sl false 4 (List.map (GNode.enc false) b2))), (5, .t (vi v))], []⟩) (laws_eqNodeS_l1 a1 b2) _ 0 hj5 (by simp [hN']) ?_
      intro g s11 h9 ho10
      obtain ⟨i8, hg⟩ : ∃ y, y = g := ⟨_, rfl⟩
      subst hg
      simp only [laws_eqNodeS_l1] at h9
      try dsimp only
      refine SWp.seq ?_
      refine SWp.seqR rfl (hPB _ rfl) fun K hK => ?_
      iterate 4 (refine wps_cons rfl fun K hK => ?_; simp [hN']; refine hK _ ?_; clear hK)
      refine wps_nil (hK _ ?_); clear hK
      rcases ite_or h9 with ⟨hb12, h9⟩ | ⟨hb13, h9⟩
      · refine SWp.condT' (b := decide (i8 < (a1.length : Int))) (by simp) hb12 ?_
        refine SWp.skip ?_
        show SWp E C _ _ _
        refine SWp.seq ?_
        refine SWp.block ?_
        refine SWp.seq ?_
        obtain ⟨e15, he15, h9⟩ := bind_some h9
        obtain ⟨he15a, he15b, he15c, he15d⟩ := getI_some he15
        obtain ⟨e16, he16, h9⟩ := bind_some h9
        obtain ⟨he16a, he16b, he16c, he16d⟩ := getI_some he16
        refine SWp.drawT rfl (hPB _ rfl) [(17, .t (.sl false 4 (List.map (GNode.enc false) a1))), (18, .t (vi i8)), (19, .rop [vi e15.Kind, vi e15.Num, vs e15.Name, .sl false 1 (List.map vi e15.Kids)] 0), (20, .t (GNode.enc false e15)), (21, .t (.sl false 4 (List.map (GNode.enc false) b2))), (22, .t (vi i8)), (23, .rop [vi e16.Kind, vi e16.Num, vs e16.Name, .sl false 1 (List.map vi e16.Kids)] 0), (24, .t (GNode.enc false e16))] [[], [], [0, 1], [0, 1, 2], [], [], [4, 5], [4, 5, 6], [0, 1, 2, 3, 4, 5, 6, 7], [0, 1, 2, 3, 4, 5, 6, 7, 8]] (by simp) (by simp) (by simp [look]) rfl rfl rfl ?_ fun K hK => ?_
        · refine ⟨?_, ?_, ?_, ?_, ?_, ?_, ?_, ?_, trivial⟩
          all_goals (intro τ hbx hb hd hf K hK; try simp [vsAt] at hd; simp [vsAt] at hf; first | (refine wps_cons rfl fun K' hK' => ?_; simp [hN', hbx, hb, hd, hf, he15a, he15b, he15c, he15d, he16a, he16b, he16c, he16d]; exact hK' _ (wps_nil (hK _ (by simp [vsAt, hbx, he15a, he15b, he15c, he15d, he16a, he16b, he16c, he16d])))))
        obtain ⟨r17, hc18, h9⟩ := bind_some h9
        refine wps_call [(.take, .tmp 20), (.take, .tmp 24)] rfl rfl ent97 (laws_eqNode_ok _ _ hc18) fun K hK => ?_; simp [hN', he15a, he15b, he15c, he15d, he16a, he16b, he16c, he16d]; refine hK _ ?_; clear hK
        refine wps_cons rfl fun K hK => ?_; simp [hN', he15a, he15b, he15c, he15d, he16a, he16b, he16c, he16d]; refine hK _ ?_; clear hK
        refine wps_nil (hK _ ?_); clear hK
        show SWp E C _ _ _
        rcases ite_or h9 with ⟨hb19, h9⟩ | ⟨hb20, h9⟩
        · refine SWp.condT' (b := !r17) (by simp) hb19 ?_
          refine SWp.seqR rfl (hPB _ rfl) fun K hK => ?_
          refine wps_cons rfl fun K hK => ?_; simp [hN']; refine hK _ ?_; clear hK
          refine wps_nil (hK _ ?_); clear hK
          have h21 := congrArg some (ho10 _ (Option.some.inj h9).symm)
          cases h21
          try dsimp only at h
          cases h
          refine SWp.ret ?_
          simp [thenS, inBlockS, res64]
        · refine SWp.condF' (b := !r17) (by simp) hb20 ?_
          refine SWp.skip ?_
          show SWp E C _ _ _
          refine SWp.reg rfl (hPB _ rfl) fun K hK => ?_
          iterate 3 (refine wps_cons rfl fun K hK => ?_; simp [hN']; refine hK _ ?_; clear hK)
          refine wps_nil (hK _ ?_); clear hK
          cases h9
          exact ⟨_, [], rfl, by simp [hN']⟩
      · refine SWp.condF' (b := decide (i8 < (a1.length : Int))) (by simp) hb13 ?_
        refine SWp.exit ?_
        have h22 := congrArg some (ho10 _ (Option.some.inj h9).symm)
        cases h22
        exact hK6 _ _ [] rfl (by simp [hN'])
    subst hv
    obtain ⟨⟩ := v
    try dsimp only at h ⊢
    refine SWp.seqR rfl (hPB _ rfl) fun K hK => ?_
    refine wps_cons rfl fun K hK => ?_; simp [hN']; refine hK _ ?_; clear hK
    refine wps_nil (hK _ ?_); clear hK
    cases h
    refine SWp.ret ?_
    simp [thenS, inBlockS, res64]
end Go.Proofs.T
set_option linter.unusedVariables false
set_option linter.unusedSimpArgs false
set_option maxHeartbeats 1000000
namespace Go.Proofs.T
open Go.OM
theorem res135 : Tryd.f135.results.toList = [.tmp 4] := rfl
theorem ent135 : Enters E.P 135 := enters_of Tryd.func135 (by simp [Tryd.f135]) rfl
theorem laws_eqParam_ok (a1 : GParam) (b2 : GParam) {r0 : Bool} (h : laws_eqParam a1 b2 = some r0) : Ok E 135 [.val (GParam.enc a1), .val (GParam.enc b2)] [vb r0] [] := by
  refine ok_of_body (fn := Tryd.f135) Tryd.func135 rfl (by simp [Tryd.f135]) fun C hN hP => ?_
  have hPB : ∀ l, pinK [] l = true → pinB C.pin l = true := pinB_of (by rw [hP]; rfl)
  have hN' : C.N = 15 := hN
  clear hN
  unfold laws_eqParam at h
  refine SWp.seqR rfl (hPB _ rfl) fun K hK => ?_
  iterate 3 (refine wps_cons rfl fun K hK => ?_; simp [hN']; refine hK _ ?_; clear hK)
  refine wps_nil (hK _ ?_); clear hK
  refine SWp.seq ?_
  refine SWp.seqR rfl (hPB _ rfl) fun K hK => ?_
  iterate 5 (refine wps_cons rfl fun K hK => ?_; simp [hN']; refine hK _ ?_; clear hK)
  refine wps_nil (hK _ ?_); clear hK
  rcases ite_or h with ⟨hb3, h⟩ | ⟨hb4, h⟩
  · refine SWp.condT' (b := !(sEq a1.Name b2.Name)) (by simp) hb3 ?_
    refine SWp.seqR rfl (hPB _ rfl) fun K hK => ?_
    refine wps_cons rfl fun K hK => ?_; simp [hN']; refine hK _ ?_; clear hK
    refine wps_nil (hK _ ?_); clear hK
    cases h
    refine SWp.ret ?_
    simp [thenS, inBlockS, res135]
  · refine SWp.condF' (b := !(sEq a1.Name b2.Name)) (by simp) hb4 ?_
    refine SWp.skip ?_
    show SWp E C _ _ _
    refine SWp.seq ?_
    refine SWp.seqR rfl (hPB _ rfl) fun K hK => ?_
    iterate 5 (refine wps_cons rfl fun K hK => ?_; simp [hN']; refine hK _ ?_; clear hK)
    refine wps_nil (hK _ ?_); clear hK
    rcases ite_or h with ⟨hb5, h⟩ | ⟨hb6, h⟩
    · refine SWp.condT' (b := a1.Typ != b2.Typ) (by simp) hb5 ?_
      refine SWp.seqR rfl (hPB _ rfl) fun K hK => ?_
      refine wps_cons rfl fun K hK => ?_; simp [hN']; refine hK _ ?_; clear hK
      refine wps_nil (hK _ ?_); clear hK
      cases h
      refine SWp.ret ?_
      simp [thenS, inBlockS, res135]
    · refine SWp.condF' (b := a1.Typ != b2.Typ) (by simp) hb6 ?_
      refine SWp.skip ?_
      show SWp E C _ _ _
      refine SWp.seqR rfl (hPB _ rfl) fun K hK => ?_
      refine wps_cons rfl fun K hK => ?_; simp [hN']; refine hK _ ?_; clear hK
      refine wps_nil (hK _ ?_); clear hK
      cases h
      refine SWp.ret ?_
      simp [thenS, inBlockS, res135]
end Go.Proofs.T
set_option linter.unusedVariables false
set_option linter.unusedSimpArgs false
set_option maxHeartbeats 1000000
namespace Go.Proofs.T
open Go.OM
theorem res122 : Tryd.f122.results.toList = [.tmp 4] := rfl
theorem ent122 : Enters E.P 122 := enters_of Tryd.func122 (by simp [Tryd.f122]) rfl
theorem laws_eqParamS_ok (a1 : List GParam) (b2 : List GParam) {r0 : Bool} (h : laws_eqParamS a1 b2 = some r0) : Ok E 122 [.val (.sl false 2 (List.map GParam.enc a1)), .val (.sl false 2 (List.map GParam.enc b2))] [vb r0] [] := by
  refine ok_of_body (fn := Tryd.f122) Tryd.func122 rfl (by simp [Tryd.f122]) fun C hN hP => ?_
  have hPB : ∀ l, pinK [] l = true → pinB C.pin l = true := pinB_of (by rw [hP]; rfl)
  have hN' : C.N = 27 := hN
  clear hN
  unfold laws_eqParamS at h
  refine SWp.seqR rfl (hPB _ rfl) fun K hK => ?_
  refine wps_cons rfl fun K hK => ?_; simp [hN']; refine hK _ ?_; clear hK
  refine wps_nil (hK _ ?_); clear hK
  refine SWp.seq ?_
  refine SWp.seqR rfl (hPB _ rfl) fun K hK => ?_
  iterate 5 (refine wps_cons rfl fun K hK => ?_; simp [hN']; refine hK _ ?_; clear hK)
  refine wps_nil (hK _ ?_); clear hK
  rcases ite_or h with ⟨hb3, h⟩ | ⟨hb4, h⟩
  · refine SWp.condT' (b := (a1.length : Int) != (b2.length : Int)) (by simp) hb3 ?_
    refine SWp.seqR rfl (hPB _ rfl) fun K hK => ?_
    refine wps_cons rfl fun K hK => ?_; simp [hN']; refine hK _ ?_; clear hK
    refine wps_nil (hK _ ?_); clear hK
    cases h
    refine SWp.ret ?_
    simp [thenS, inBlockS, res122]
  · refine SWp.condF' (b := (a1.length : Int) != (b2.length : Int)) (by simp) hb4 ?_
    refine SWp.skip ?_
    show SWp E C _ _ _
    obtain ⟨j7, hj5, h⟩ := bind_some h
    refine SWp.seqC [] [] (fun v : Unit => ⟨[], []⟩) (fun v => j7 = Sum.inl v) (fun v hv => ?_) fun K6 hK6 => ?_
    rotate_left
    · refine SWp.seqR rfl (hPB _ rfl) fun K hK => ?_
      refine wps_cons rfl fun K hK => ?_; simp [hN']; refine hK _ ?_; clear hK
      refine wps_nil (hK _ ?_); clear hK
      refine SWp.block ?_
      refine SWp.loopO [] [0, 1, 5] [] (fun v : Int => ⟨[(0, .t (.sl false 2 (List.map GParam.enc a1))), (1, .t (.sl false 2 (List.map GParam.enc b2))), (5, .t (vi v))], []⟩) (laws_eqParamS_l1 a1 b2) _ 0 hj5 (by simp [hN']) ?_
      intro g s11 h9 ho10
      obtain ⟨i8, hg⟩ : ∃ y, y = g := ⟨_, rfl⟩
      subst hg
      simp only [laws_eqParamS_l1] at h9
      try dsimp only
      refine SWp.seq ?_
      refine SWp.seqR rfl (hPB _ rfl) fun K hK => ?_
      iterate 4 (refine wps_cons rfl fun K hK => ?_; simp [hN']; refine hK _ ?_; clear hK)
      refine wps_nil (hK _ ?_); clear hK
      rcases ite_or h9 with ⟨hb12, h9⟩ | ⟨hb13, h9⟩
      · refine SWp.condT' (b := decide (i8 < (a1.length : Int))) (by simp) hb12 ?_
        refine SWp.skip ?_
        show SWp E C _ _ _
        refine SWp.seq ?_
        refine SWp.block ?_
        refine SWp.seq ?_
        obtain ⟨e15, he15, h9⟩ := bind_some h9
        obtain ⟨he15a, he15b, he15c, he15d⟩ := getI_some he15
        obtain ⟨e16, he16, h9⟩ := bind_some h9
        obtain ⟨he16a, he16b, he16c, he16d⟩ := getI_some he16
        refine SWp.drawT rfl (hPB _ rfl) [(17, .t (.sl false 2 (List.map GParam.enc a1))), (18, .t (vi i8)), (19, .rop [vs e15.Name, vi e15.Typ] 0), (20, .t (GParam.enc e15)), (21, .t (.sl false 2 (List.map GParam.enc b2))), (22, .t (vi i8)), (23, .rop [vs e16.Name, vi e16.Typ] 0), (24, .t (GParam.enc e16))] [[], [], [0, 1], [0, 1, 2], [], [], [4, 5], [4, 5, 6], [0, 1, 2, 3, 4, 5, 6, 7], [0, 1, 2, 3, 4, 5, 6, 7, 8]] (by simp) (by simp) (by simp [look]) rfl rfl rfl ?_ fun K hK => ?_
        · refine ⟨?_, ?_, ?_, ?_, ?_, ?_, ?_, ?_, trivial⟩
          all_goals (intro τ hbx hb hd hf K hK; try simp [vsAt] at hd; simp [vsAt] at hf; first | (refine wps_cons rfl fun K' hK' => ?_; simp [hN', hbx, hb, hd, hf, he15a, he15b, he15c, he15d, he16a, he16b, he16c, he16d]; exact hK' _ (wps_nil (hK _ (by simp [vsAt, hbx, he15a, he15b, he15c, he15d, he16a, he16b, he16c, he16d])))))
        obtain ⟨r17, hc18, h9⟩ := bind_some h9
        refine wps_call [(.take, .tmp 20), (.take, .tmp 24)] rfl rfl ent135 (laws_eqParam_ok _ _ hc18) fun K hK => ?_; simp [hN', he15a, he15b, he15c, he15d, he16a, he16b, he16c, he16d]; refine hK _ ?_; clear hK
        refine wps_cons rfl fun K hK => ?_; simp [hN', he15a, he15b, he15c, he15d, he16a, he16b, he16c, he16d]; refine hK _ ?_; clear hK
        refine wps_nil (hK _ ?_); clear hK
        show SWp E C _ _ _
        rcases ite_or h9 with ⟨hb19, h9⟩ | ⟨hb20, h9⟩
        · refine SWp.condT' (b := !r17) (by simp) hb19 ?_
          refine SWp.seqR rfl (hPB _ rfl) fun K hK => ?_
          refine wps_cons rfl fun K hK => ?_; simp [hN']; refine hK _ ?_; clear hK
          refine wps_nil (hK _ ?_); clear hK
          have h21 := congrArg some (ho10 _ (Option.some.inj h9).symm)
          cases h21
          try dsimp only at h
          cases h
          refine SWp.ret ?_
          simp [thenS, inBlockS, res122]
        · refine SWp.condF' (b := !r17) (by simp) hb20 ?_
          refine SWp.skip ?_
          show SWp E C _ _ _
          refine SWp.reg rfl (hPB _ rfl) fun K hK => ?_
          iterate 3 (refine wps_cons rfl fun K hK => ?_; simp [hN']; refine hK _ ?_; clear hK)
          refine wps_nil (hK _ ?_); clear hK
          cases h9
          exact ⟨_, [], rfl, by simp [hN']⟩
      · refine SWp.condF' (b := decide (i8 < (a1.length : Int))) (by simp) hb13 ?_
        refine SWp.exit ?_
        have h22 := congrArg some (ho10 _ (Option.some.inj h9).symm)
        cases h22
        exact hK6 _ _ [] rfl (by simp [hN'])
    subst hv
    obtain ⟨⟩ := v
    try dsimp only at h ⊢
    refine SWp.seqR rfl (hPB _ rfl) fun K hK => ?_
    refine wps_cons rfl fun K hK => ?_; simp [hN']; refine hK _ ?_; clear hK
    refine wps_nil (hK _ ?_); clear hK
    cases h
    refine SWp.ret ?_
    simp [thenS, inBlockS, res122]
end Go.Proofs.T
set_option linter.unusedVariables false
set_option linter.unusedSimpArgs false
set_option maxHeartbeats 1000000
namespace Go.Proofs.T
open Go.OM
theorem res98 : Tryd.f98.results.toList = [.tmp 4] := rfl
theorem ent98 : Enters E.P 98 := enters_of Tryd.func98 (by simp [Tryd.f98]) rfl
theorem laws_eqFn_ok (a1 : GFn) (b2 : GFn) {r0 : Bool} (h : laws_eqFn a1 b2 = some r0) : Ok E 98 [.val (GFn.enc false a1), .val (GFn.enc false b2)] [vb r0] [] := by
  refine ok_of_body (fn := Tryd.f98) Tryd.func98 rfl (by simp [Tryd.f98]) fun C hN hP => ?_
  have hPB : ∀ l, pinK [] l = true → pinB C.pin l = true := pinB_of (by rw [hP]; rfl)
  have hN' : C.N = 31 := hN
  clear hN
  unfold laws_eqFn at h
  refine SWp.seqR rfl (hPB _ rfl) fun K hK => ?_
  iterate 3 (refine wps_cons rfl fun K hK => ?_; simp [hN']; refine hK _ ?_; clear hK)
  refine wps_nil (hK _ ?_); clear hK
  refine SWp.seq ?_
  refine SWp.seqR rfl (hPB _ rfl) fun K hK => ?_
  iterate 5 (refine wps_cons rfl fun K hK => ?_; simp [hN']; refine hK _ ?_; clear hK)
  refine wps_nil (hK _ ?_); clear hK
  rcases ite_or h with ⟨hb3, h⟩ | ⟨hb4, h⟩
  · refine SWp.condT' (b := !(sEq a1.Name b2.Name)) (by simp) hb3 ?_
    refine SWp.seqR rfl (hPB _ rfl) fun K hK => ?_
    refine wps_cons rfl fun K hK => ?_; simp [hN']; refine hK _ ?_; clear hK
    refine wps_nil (hK _ ?_); clear hK
    cases h
    refine SWp.ret ?_
    simp [thenS, inBlockS, res98]
  · refine SWp.condF' (b := !(sEq a1.Name b2.Name)) (by simp) hb4 ?_
    refine SWp.skip ?_
    show SWp E C _ _ _
    refine SWp.seq ?_
    refine SWp.seqR rfl (hPB _ rfl) fun K hK => ?_
    iterate 4 (refine wps_cons rfl fun K hK => ?_; simp [hN']; refine hK _ ?_; clear hK)
    obtain ⟨r5, hc6, h⟩ := bind_some h
    refine wps_call [(.take, .tmp 11), (.take, .tmp 13)] rfl rfl ent122 (laws_eqParamS_ok _ _ hc6) fun K hK => ?_; simp [hN']; refine hK _ ?_; clear hK
    refine wps_cons rfl fun K hK => ?_; simp [hN']; refine hK _ ?_; clear hK
    refine wps_nil (hK _ ?_); clear hK
    rcases ite_or h with ⟨hb7, h⟩ | ⟨hb8, h⟩
    · refine SWp.condT' (b := !r5) (by simp) hb7 ?_
      refine SWp.seqR rfl (hPB _ rfl) fun K hK => ?_
      refine wps_cons rfl fun K hK => ?_; simp [hN']; refine hK _ ?_; clear hK
      refine wps_nil (hK _ ?_); clear hK
      cases h
      refine SWp.ret ?_
      simp [thenS, inBlockS, res98]
    · refine SWp.condF' (b := !r5) (by simp) hb8 ?_
      refine SWp.skip ?_
      show SWp E C _ _ _
      refine SWp.seq ?_
      refine SWp.seqR rfl (hPB _ rfl) fun K hK => ?_
      iterate 5 (refine wps_cons rfl fun K hK => ?_; simp [hN']; refine hK _ ?_; clear hK)
      refine wps_nil (hK _ ?_); clear hK
      rcases ite_or h with ⟨hb9, h⟩ | ⟨hb10, h⟩
      · refine SWp.condT' (b := a1.Res != b2.Res) (by simp) hb9 ?_
        refine SWp.seqR rfl (hPB _ rfl) fun K hK => ?_
        refine wps_cons rfl fun K hK => ?_; simp [hN']; refine hK _ ?_; clear hK
        refine wps_nil (hK _ ?_); clear hK
        cases h
        refine SWp.ret ?_
        simp [thenS, inBlockS, res98]
      · refine SWp.condF' (b := a1.Res != b2.Res) (by simp) hb10 ?_
        refine SWp.skip ?_
        show SWp E C _ _ _
        refine SWp.seq ?_
        refine SWp.seqR rfl (hPB _ rfl) fun K hK => ?_
        iterate 5 (refine wps_cons rfl fun K hK => ?_; simp [hN']; refine hK _ ?_; clear hK)
        refine wps_nil (hK _ ?_); clear hK
        rcases ite_or h with ⟨hb11, h⟩ | ⟨hb12, h⟩
        · refine SWp.condT' (b := a1.Body != b2.Body) (by simp) hb11 ?_
          refine SWp.seqR rfl (hPB _ rfl) fun K hK => ?_
          refine wps_cons rfl fun K hK => ?_; simp [hN']; refine hK _ ?_; clear hK
          refine wps_nil (hK _ ?_); clear hK
          cases h
          refine SWp.ret ?_
          simp [thenS, inBlockS, res98]
        · refine SWp.condF' (b := a1.Body != b2.Body) (by simp) hb12 ?_
          refine SWp.skip ?_
          show SWp E C _ _ _
          refine SWp.seq ?_
          refine SWp.seqR rfl (hPB _ rfl) fun K hK => ?_
          iterate 5 (refine wps_cons rfl fun K hK => ?_; simp [hN']; refine hK _ ?_; clear hK)
          refine wps_nil (hK _ ?_); clear hK
          rcases ite_or h with ⟨hb13, h⟩ | ⟨hb14, h⟩
          · refine SWp.condT' (b := a1.Ret != b2.Ret) (by simp) hb13 ?_
            refine SWp.seqR rfl (hPB _ rfl) fun K hK => ?_
            refine wps_cons rfl fun K hK => ?_; simp [hN']; refine hK _ ?_; clear hK
            refine wps_nil (hK _ ?_); clear hK
            cases h
            refine SWp.ret ?_
            simp [thenS, inBlockS, res98]
          · refine SWp.condF' (b := a1.Ret != b2.Ret) (by simp) hb14 ?_
            refine SWp.skip ?_
            show SWp E C _ _ _
            refine SWp.seqR rfl (hPB _ rfl) fun K hK => ?_
            refine wps_cons rfl fun K hK => ?_; simp [hN']; refine hK _ ?_; clear hK
            refine wps_nil (hK _ ?_); clear hK
            cases h
            refine SWp.ret ?_
            simp [thenS, inBlockS, res98]
end Go.Proofs.T
set_option linter.unusedVariables false
set_option linter.unusedSimpArgs false
set_option maxHeartbeats 1000000
namespace Go.Proofs.T
open Go.OM
theorem res65 : Tryd.f65.results.toList = [.tmp 4] := rfl
theorem ent65 : Enters E.P 65 := enters_of Tryd.func65 (by simp [Tryd.f65]) rfl
theorem laws_eqFnS_ok (a1 : List GFn) (b2 : List GFn) {r0 : Bool} (h : laws_eqFnS a1 b2 = some r0) : Ok E 65 [.val (.sl false 5 (List.map (GFn.enc false) a1)), .val (.sl false 5 (List.map (GFn.enc false) b2))] [vb r0] [] := by
  refine ok_of_body (fn := Tryd.f65) Tryd.func65 rfl (by simp [Tryd.f65]) fun C hN hP => ?_
  have hPB : ∀ l, pinK [] l = true → pinB C.pin l = true := pinB_of (by rw [hP]; rfl)
  have hN' : C.N = 27 := hN
  clear hN
  unfold laws_eqFnS at h
  refine SWp.seqR rfl (hPB _ rfl) fun K hK => ?_
  refine wps_cons rfl fun K hK => ?_; simp [hN']; refine hK _ ?_; clear hK
  refine wps_nil (hK _ ?_); clear hK
  refine SWp.seq ?_
  refine SWp.seqR rfl (hPB _ rfl) fun K hK => ?_
  iterate 5 (refine wps_cons rfl fun K hK => ?_; simp [hN']; refine hK _ ?_; clear hK)
  refine wps_nil (hK _ ?_); clear hK
  rcases ite_or h with ⟨hb3, h⟩ | ⟨hb4, h⟩
  · refine SWp.condT' (b := (a1.length : Int) != (b2.length : Int)) (by simp) hb3 ?_
    refine SWp.seqR rfl (hPB _ rfl) fun K hK => ?_
    refine wps_cons rfl fun K hK => ?_; simp [hN']; refine hK _ ?_; clear hK
    refine wps_nil (hK _ ?_); clear hK
    cases h
    refine SWp.ret ?_
    simp [thenS, inBlockS, res65]
  · refine SWp.condF' (b := (a1.length : Int) != (b2.length : Int)) (by simp) hb4 ?_
    refine SWp.skip ?_
    show SWp E C _ _ _
    obtain ⟨j7, hj5, h⟩ := bind_some h
    refine SWp.seqC [] [] (fun v : Unit => ⟨[], []⟩) (fun v => j7 = Sum.inl v) (fun v hv => ?_) fun K6 hK6 => ?_
    rotate_left
    · refine SWp.seqR rfl (hPB _ rfl) fun K hK => ?_
      refine wps_cons rfl fun K hK => ?_; simp [hN']; refine hK _ ?_; clear hK
      refine wps_nil (hK _ ?_); clear hK
      refine SWp.block ?_
      refine SWp.loopO [] [0, 1, 5] [] (fun v : Int => ⟨[(0, .t (.sl false 5 (List.map (GFn.enc false) a1))), (1, .t (.sl false 5 (List.map (GFn.enc false) b2))), (5, .t (vi v))], []⟩) (laws_eqFnS_l1 a1 b2) _ 0 hj5 (by simp [hN']) ?_
      intro g s11 h9 ho10
      obtain ⟨i8, hg⟩ : ∃ y, y = g := ⟨_, rfl⟩
      subst hg
      simp only [laws_eqFnS_l1] at h9
      try dsimp only
      refine SWp.seq ?_
      refine SWp.seqR rfl (hPB _ rfl) fun K hK => ?_
      iterate 4 (refine wps_cons rfl fun K hK => ?_; simp [hN']; refine hK _ ?_; clear hK)
      refine wps_nil (hK _ ?_); clear hK
      rcases ite_or h9 with ⟨hb12, h9⟩ | ⟨hb13, h9⟩
      · refine SWp.condT' (b := decide (i8 < (a1.length : Int))) (by simp) hb12 ?_
        refine SWp.skip ?_
        show SWp E C _ _ _
        refine SWp.seq ?_
        refine SWp.block ?_
        refine SWp.seq ?_
        obtain ⟨e15, he15, h9⟩ := bind_some h9
        obtain ⟨he15a, he15b, he15c, he15d⟩ := getI_some he15
        obtain ⟨e16, he16, h9⟩ := bind_some h9
        obtain ⟨he16a, he16b, he16c, he16d⟩ := getI_some he16
        refine SWp.drawT rfl (hPB _ rfl) [(17, .t (.sl false 5 (List.map (GFn.enc false) a1))), (18, .t (vi i8)), (19, .rop [vs e15.Name, .sl false 2 (List.map GParam.enc e15.Params), vi e15.Res, vi e15.Body, vi e15.Ret] 0), (20, .t (GFn.enc false e15)), (21, .t (.sl false 5 (List.map (GFn.enc false) b2))), (22, .t (vi i8)), (23, .rop [vs e16.Name, .sl false 2 (List.map GParam.enc e16.Params), vi e16.Res, vi e16.Body, vi e16.Ret] 0), (24, .t (GFn.enc false e16))] [[], [], [0, 1], [0, 1, 2], [], [], [4, 5], [4, 5, 6], [0, 1, 2, 3, 4, 5, 6, 7], [0, 1, 2, 3, 4, 5, 6, 7, 8]] (by simp) (by simp) (by simp [look]) rfl rfl rfl ?_ fun K hK => ?_
        · refine ⟨?_, ?_, ?_, ?_, ?_, ?_, ?_, ?_, trivial⟩
          all_goals (intro τ hbx hb hd hf K hK; try simp [vsAt] at hd; simp [vsAt] at hf; first | (refine wps_cons rfl fun K' hK' => ?_; simp [hN', hbx, hb, hd, hf, he15a, he15b, he15c, he15d, he16a, he16b, he16c, he16d]; exact hK' _ (wps_nil (hK _ (by simp [vsAt, hbx, he15a, he15b, he15c, he15d, he16a, he16b, he16c, he16d])))))
        obtain ⟨r17, hc18, h9⟩ := bind_some h9
        refine wps_call [(.take, .tmp 20), (.take, .tmp 24)] rfl rfl ent98 (laws_eqFn_ok _ _ hc18) fun K hK => ?_; simp [hN', he15a, he15b, he15c, he15d, he16a, he16b, he16c, he16d]; refine hK _ ?_; clear hK
        refine wps_cons rfl fun K hK => ?_; simp [hN', he15a, he15b, he15c, he15d, he16a, he16b, he16c, he16d]; refine hK _ ?_; clear hK
        refine wps_nil (hK _ ?_); clear hK
        show SWp E C _ _ _
        rcases ite_or h9 with ⟨hb19, h9⟩ | ⟨hb20, h9⟩
        · refine SWp.condT' (b := !r17) (by simp) hb19 ?_
          refine SWp.seqR rfl (hPB _ rfl) fun K hK => ?_
          refine wps_cons rfl fun K hK => ?_; simp [hN']; refine hK _ ?_; clear hK
          refine wps_nil (hK _ ?_); clear hK
          have h21 := congrArg some (ho10 _ (Option.some.inj h9).symm)
          cases h21
          try dsimp only at h
          cases h
          refine SWp.ret ?_
          simp [thenS, inBlockS, res65]
        · refine SWp.condF' (b := !r17) (by simp) hb20 ?_
          refine SWp.skip ?_
          show SWp E C _ _ _
          refine SWp.reg rfl (hPB _ rfl) fun K hK => ?_
          iterate 3 (refine wps_cons rfl fun K hK => ?_; simp [hN']; refine hK _ ?_; clear hK)
          refine wps_nil (hK _ ?_); clear hK
          cases h9
          exact ⟨_, [], rfl, by simp [hN']⟩
      · refine SWp.condF' (b := decide (i8 < (a1.length : Int))) (by simp) hb13 ?_
        refine SWp.exit ?_
        have h22 := congrArg some (ho10 _ (Option.some.inj h9).symm)
        cases h22
        exact hK6 _ _ [] rfl (by simp [hN'])
    subst hv
    obtain ⟨⟩ := v
    try dsimp only at h ⊢
    refine SWp.seqR rfl (hPB _ rfl) fun K hK => ?_
    refine wps_cons rfl fun K hK => ?_; simp [hN']; refine hK _ ?_; clear hK
    refine wps_nil (hK _ ?_); clear hK
    cases h
    refine SWp.ret ?_
    simp [thenS, inBlockS, res65]
end Go.Proofs.T
set_option linter.unusedVariables false
set_option linter.unusedSimpArgs false
set_option maxHeartbeats 1000000
namespace Go.Proofs.T
open Go.OM
theorem res26 : Tryd.f26.results.toList = [.tmp 4] := rfl
theorem ent26 : Enters E.P 26 := enters_of Tryd.func26 (by simp [Tryd.f26]) rfl
theorem laws_eqProgram_ok (a1 : GProgram) (b2 : GProgram) {r0 : Bool} (h : laws_eqProgram a1 b2 = some r0) : Ok E 26 [.val (GProgram.enc false a1), .val (GProgram.enc false b2)] [vb r0] [] := by
  refine ok_of_body (fn := Tryd.f26) Tryd.func26 rfl (by simp [Tryd.f26]) fun C hN hP => ?_
  have hPB : ∀ l, pinK [] l = true → pinB C.pin l = true := pinB_of (by rw [hP]; rfl)
  have hN' : C.N = 17 := hN
  clear hN
  unfold laws_eqProgram at h
  refine SWp.seqR rfl (hPB _ rfl) fun K hK => ?_
  iterate 3 (refine wps_cons rfl fun K hK => ?_; simp [hN']; refine hK _ ?_; clear hK)
  refine wps_nil (hK _ ?_); clear hK
  refine SWp.seq ?_
  refine SWp.seqR rfl (hPB _ rfl) fun K hK => ?_
  iterate 4 (refine wps_cons rfl fun K hK => ?_; simp [hN']; refine hK _ ?_; clear hK)
  obtain ⟨r3, hc4, h⟩ := bind_some h
  refine wps_call [(.take, .tmp 6), (.take, .tmp 8)] rfl rfl ent64 (laws_eqNodeS_ok _ _ hc4) fun K hK => ?_; simp [hN']; refine hK _ ?_; clear hK
  refine wps_cons rfl fun K hK => ?_; simp [hN']; refine hK _ ?_; clear hK
  refine wps_nil (hK _ ?_); clear hK
  rcases ite_or h with ⟨hb5, h⟩ | ⟨hb6, h⟩
  · refine SWp.condT' (b := !r3) (by simp) hb5 ?_
    refine SWp.seqR rfl (hPB _ rfl) fun K hK => ?_
    refine wps_cons rfl fun K hK => ?_; simp [hN']; refine hK _ ?_; clear hK
    refine wps_nil (hK _ ?_); clear hK
    cases h
    refine SWp.ret ?_
    simp [thenS, inBlockS, res26]
  · refine SWp.condF' (b := !r3) (by simp) hb6 ?_
    refine SWp.skip ?_
    show SWp E C _ _ _
    refine SWp.seq ?_
    refine SWp.seqR rfl (hPB _ rfl) fun K hK => ?_
    iterate 4 (refine wps_cons rfl fun K hK => ?_; simp [hN']; refine hK _ ?_; clear hK)
    obtain ⟨r7, hc8, h⟩ := bind_some h
    refine wps_call [(.take, .tmp 12), (.take, .tmp 14)] rfl rfl ent65 (laws_eqFnS_ok _ _ hc8) fun K hK => ?_; simp [hN']; refine hK _ ?_; clear hK
    refine wps_cons rfl fun K hK => ?_; simp [hN']; refine hK _ ?_; clear hK
    refine wps_nil (hK _ ?_); clear hK
    rcases ite_or h with ⟨hb9, h⟩ | ⟨hb10, h⟩
    · refine SWp.condT' (b := !r7) (by simp) hb9 ?_
      refine SWp.seqR rfl (hPB _ rfl) fun K hK => ?_
      refine wps_cons rfl fun K hK => ?_; simp [hN']; refine hK _ ?_; clear hK
      refine wps_nil (hK _ ?_); clear hK
      cases h
      refine SWp.ret ?_
      simp [thenS, inBlockS, res26]
    · refine SWp.condF' (b := !r7) (by simp) hb10 ?_
      refine SWp.skip ?_
      show SWp E C _ _ _
      refine SWp.seqR rfl (hPB _ rfl) fun K hK => ?_
      refine wps_cons rfl fun K hK => ?_; simp [hN']; refine hK _ ?_; clear hK
      refine wps_nil (hK _ ?_); clear hK
      cases h
      refine SWp.ret ?_
      simp [thenS, inBlockS, res26]
end Go.Proofs.T
set_option linter.unusedVariables false
set_option linter.unusedSimpArgs false
set_option maxHeartbeats 1000000
namespace Go.Proofs.T
open Go.OM
theorem res82 : Tryd.f82.results.toList = [.tmp 6] := rfl
theorem ent82 : Enters E.P 82 := enters_of Tryd.func82 (by simp [Tryd.f82]) rfl
theorem spec_l01In_ok (x1 : Int) (least2 : Int) (most3 : Int) {r0 : Bool} (h : spec_l01In x1 least2 most3 = some r0) : Ok E 82 [.val (vi x1), .val (vi least2), .val (vi most3)] [vb r0] [] := by
  refine ok_of_body (fn := Tryd.f82) Tryd.func82 rfl (by simp [Tryd.f82]) fun C hN hP => ?_
  have hPB : ∀ l, pinK [] l = true → pinB C.pin l = true := pinB_of (by rw [hP]; rfl)
  have hN' : C.N = 15 := hN
  clear hN
  unfold spec_l01In at h
  refine SWp.seqR rfl (hPB _ rfl) fun K hK => ?_
  refine wps_cons rfl fun K hK => ?_; simp [hN']; refine hK _ ?_; clear hK
  refine wps_nil (hK _ ?_); clear hK
  obtain ⟨v8, hj4, h⟩ := bind_some h
  refine SWp.seqRC rfl (hPB _ rfl) [6] [] (fun _ : Unit => ⟨[(6, .t (vb v8))], []⟩) (fun _ => True) (fun _ _ => ?_) fun K5 hK5 => ?_
  rotate_left
  · refine wps_cons rfl fun K hK => ?_; simp [hN']; refine hK _ ?_; clear hK
    iterate 3 (refine wps_cons rfl fun K hK => ?_; simp [hN']; refine hK _ ?_; clear hK)
    rcases ite_or hj4 with ⟨hb6, hj4⟩ | ⟨hb7, hj4⟩
    · have hb6s := hb6
      try simp at hb6s
      iterate 5 (refine wps_cons rfl fun K hK => ?_; simp [hN', hb6, hb6s]; refine hK _ ?_; clear hK)
      refine wps_nil ?_
      cases hj4
      exact hK5 _ () [] trivial (by simp [hN', hb6, hb6s])
    · have hb7s := hb7
      try simp at hb7s
      iterate 3 (refine wps_off fun K hK => ?_; simp [hN', hb7, hb7s]; refine hK _ ?_; clear hK)
      iterate 2 (refine wps_cons rfl fun K hK => ?_; simp [hN', hb7, hb7s]; refine hK _ ?_; clear hK)
      refine wps_nil ?_
      cases hj4
      exact hK5 _ () [] trivial (by simp [hN', hb7, hb7s])
  cases h
  refine SWp.ret ?_
  simp [thenS, inBlockS, res82]
end Go.Proofs.T
set_option linter.unusedVariables false
set_option linter.unusedSimpArgs false
set_option maxHeartbeats 1000000
namespace Go.Proofs.T
open Go.OM
theorem res106 : Tryd.f106.results.toList = [.tmp 2] := rfl
theorem ent106 : Enters E.P 106 := enters_of Tryd.func106 (by simp [Tryd.f106]) rfl
theorem spec_l03Letter_ok (b1 : Int) {r0 : Bool} (h : spec_l03Letter b1 = some r0) : Ok E 106 [.val (vk .u8 b1)] [vb r0] [] := by
  refine ok_of_body (fn := Tryd.f106) Tryd.func106 rfl (by simp [Tryd.f106]) fun C hN hP => ?_
  have hPB : ∀ l, pinK [] l = true → pinB C.pin l = true := pinB_of (by rw [hP]; rfl)
  have hN' : C.N = 9 := hN
  clear hN
  unfold spec_l03Letter at h
  refine SWp.seqR rfl (hPB _ rfl) fun K hK => ?_
  refine wps_cons rfl fun K hK => ?_; simp [hN']; refine hK _ ?_; clear hK
  refine wps_nil (hK _ ?_); clear hK
  obtain ⟨v6, hj2, h⟩ := bind_some h
  refine SWp.seqRC rfl (hPB _ rfl) [2] [] (fun _ : Unit => ⟨[(2, .t (vb v6))], []⟩) (fun _ => True) (fun _ _ => ?_) fun K3 hK3 => ?_
  rotate_left
  · refine wps_cons rfl fun K hK => ?_; simp [hN']; refine hK _ ?_; clear hK
    iterate 2 (refine wps_cons rfl fun K hK => ?_; simp [hN']; refine hK _ ?_; clear hK)
    rcases ite_or hj2 with ⟨hb4, hj2⟩ | ⟨hb5, hj2⟩
    · have hb4s := hb4
      try simp at hb4s
      iterate 4 (refine wps_cons rfl fun K hK => ?_; simp [hN', hb4, hb4s]; refine hK _ ?_; clear hK)
      refine wps_nil ?_
      cases hj2
      exact hK3 _ () [] trivial (by simp [hN', hb4, hb4s])
    · have hb5s := hb5
      try simp at hb5s
      iterate 2 (refine wps_off fun K hK => ?_; simp [hN', hb5, hb5s]; refine hK _ ?_; clear hK)
      iterate 2 (refine wps_cons rfl fun K hK => ?_; simp [hN', hb5, hb5s]; refine hK _ ?_; clear hK)
      refine wps_nil ?_
      cases hj2
      exact hK3 _ () [] trivial (by simp [hN', hb5, hb5s])
  cases h
  refine SWp.ret ?_
  simp [thenS, inBlockS, res106]
end Go.Proofs.T
set_option linter.unusedVariables false
set_option linter.unusedSimpArgs false
set_option maxHeartbeats 1000000
namespace Go.Proofs.T
open Go.OM
theorem res125 : Tryd.f125.results.toList = [.tmp 0] := rfl
theorem ent125 : Enters E.P 125 := enters_of Tryd.func125 (by simp [Tryd.f125]) rfl
theorem spec_l03Keys_ok {r0 : List ByteArray} (h : spec_l03Keys = some r0) : Ok E 125 [] [.sl true 1 (List.map vs r0)] [] := by
  refine ok_of_body (fn := Tryd.f125) Tryd.func125 rfl (by simp [Tryd.f125]) fun C hN hP => ?_
  have hPB : ∀ l, pinK [] l = true → pinB C.pin l = true := pinB_of (by rw [hP]; rfl)
  have hN' : C.N = 2 := hN
  clear hN
  unfold spec_l03Keys at h
  refine SWp.seqR rfl (hPB _ rfl) fun K hK => ?_
  refine wps_cons rfl fun K hK => ?_; simp [hN']; refine hK _ ?_; clear hK
  refine wps_nil (hK _ ?_); clear hK
  refine SWp.seqR rfl (hPB _ rfl) fun K hK => ?_
  iterate 2 (refine wps_cons rfl fun K hK => ?_; simp [hN']; refine hK _ ?_; clear hK)
  refine wps_nil (hK _ ?_); clear hK
  cases h
  refine SWp.ret ?_
  simp [thenS, inBlockS, res125]
end Go.Proofs.T
set_option linter.unusedVariables false
set_option linter.unusedSimpArgs false
set_option maxHeartbeats 1000000
namespace Go.Proofs.T
open Go.OM
theorem res107 : Tryd.f107.results.toList = [.tmp 2] := rfl
theorem ent107 : Enters E.P 107 := enters_of Tryd.func107 (by simp [Tryd.f107]) rfl
theorem spec_KeyWord_ok (s1 : ByteArray) {r0 : Bool} (h : spec_KeyWord s1 = some r0) : Ok E 107 [.val (vs s1)] [vb r0] [] := by
  refine ok_of_body (fn := Tryd.f107) Tryd.func107 rfl (by simp [Tryd.f107]) fun C hN hP => ?_
  have hPB : ∀ l, pinK [] l = true → pinB C.pin l = true := pinB_of (by rw [hP]; rfl)
  have hN' : C.N = 18 := hN
  clear hN
  unfold spec_KeyWord at h
  refine SWp.seqR rfl (hPB _ rfl) fun K hK => ?_
  refine wps_cons rfl fun K hK => ?_; simp [hN']; refine hK _ ?_; clear hK
  refine wps_nil (hK _ ?_); clear hK
  refine SWp.seqR rfl (hPB _ rfl) fun K hK => ?_
  obtain ⟨r2, hc3, h⟩ := bind_some h
  refine wps_call [] rfl rfl ent125 (spec_l03Keys_ok hc3) fun K hK => ?_; simp [hN']; refine hK _ ?_; clear hK
  refine wps_cons rfl fun K hK => ?_; simp [hN']; refine hK _ ?_; clear hK
  refine wps_nil (hK _ ?_); clear hK
  obtain ⟨j6, hj4, h⟩ := bind_some h
  refine SWp.seqC [] [] (fun v : Unit => ⟨[], []⟩) (fun v => j6 = Sum.inl v) (fun v hv => ?_) fun K5 hK5 => ?_
  rotate_left
  · refine SWp.seqR rfl (hPB _ rfl) fun K hK => ?_
    refine wps_cons rfl fun K hK => ?_; simp [hN']; refine hK _ ?_; clear hK
    refine wps_nil (hK _ ?_); clear hK
    refine SWp.block ?_
    refine SWp.loopO [] [0, 3, 4] [] (fun v : Int => ⟨[(0, .t (vs s1)), (3, .t (.sl true 1 (List.map vs r2))), (4, .t (vi v))], []⟩) (spec_KeyWord_l1 s1 r2) _ 0 hj4 (by simp [hN']) ?_
    intro g s10 h8 ho9
    obtain ⟨i7, hg⟩ : ∃ y, y = g := ⟨_, rfl⟩
    subst hg
    simp only [spec_KeyWord_l1] at h8
    try dsimp only
    refine SWp.seq ?_
    refine SWp.seqR rfl (hPB _ rfl) fun K hK => ?_
    iterate 4 (refine wps_cons rfl fun K hK => ?_; simp [hN']; refine hK _ ?_; clear hK)
    refine wps_nil (hK _ ?_); clear hK
    rcases ite_or h8 with ⟨hb11, h8⟩ | ⟨hb12, h8⟩
    · refine SWp.condT' (b := decide (i7 < (r2.length : Int))) (by simp) hb11 ?_
      refine SWp.skip ?_
      show SWp E C _ _ _
      refine SWp.seq ?_
      refine SWp.block ?_
      refine SWp.seqR rfl (hPB _ rfl) fun K hK => ?_
      iterate 2 (refine wps_cons rfl fun K hK => ?_; simp [hN']; refine hK _ ?_; clear hK)
      obtain ⟨e13, he13, h8⟩ := bind_some h8
      obtain ⟨he13a, he13b, he13c, he13d⟩ := getI_some he13
      iterate 4 (refine wps_cons rfl fun K hK => ?_; simp [hN', he13a, he13b, he13c, he13d]; refine hK _ ?_; clear hK)
      refine wps_nil (hK _ ?_); clear hK
      rcases ite_or h8 with ⟨hb14, h8⟩ | ⟨hb15, h8⟩
      · refine SWp.condT' (b := sEq e13 s1) (by simp) hb14 ?_
        refine SWp.seqR rfl (hPB _ rfl) fun K hK => ?_
        refine wps_cons rfl fun K hK => ?_; simp [hN']; refine hK _ ?_; clear hK
        refine wps_nil (hK _ ?_); clear hK
        have h16 := congrArg some (ho9 _ (Option.some.inj h8).symm)
        cases h16
        try dsimp only at h
        cases h
        refine SWp.ret ?_
        simp [thenS, inBlockS, res107]
      · refine SWp.condF' (b := sEq e13 s1) (by simp) hb15 ?_
        refine SWp.skip ?_
        show SWp E C _ _ _
        refine SWp.reg rfl (hPB _ rfl) fun K hK => ?_
        iterate 3 (refine wps_cons rfl fun K hK => ?_; simp [hN']; refine hK _ ?_; clear hK)
        refine wps_nil (hK _ ?_); clear hK
        cases h8
        exact ⟨_, [], rfl, by simp [hN']⟩
    · refine SWp.condF' (b := decide (i7 < (r2.length : Int))) (by simp) hb12 ?_
      refine SWp.exit ?_
      have h17 := congrArg some (ho9 _ (Option.some.inj h8).symm)
      cases h17
      exact hK5 _ _ [] rfl (by simp [hN'])
  subst hv
  obtain ⟨⟩ := v
  try dsimp only at h ⊢
  refine SWp.seqR rfl (hPB _ rfl) fun K hK => ?_
  refine wps_cons rfl fun K hK => ?_; simp [hN']; refine hK _ ?_; clear hK
  refine wps_nil (hK _ ?_); clear hK
  cases h
  refine SWp.ret ?_
  simp [thenS, inBlockS, res107]
end Go.Proofs.T
set_option linter.unusedVariables false
set_option linter.unusedSimpArgs false
set_option maxHeartbeats 1000000
namespace Go.Proofs.T
open Go.OM
theorem res108 : Tryd.f108.results.toList = [.tmp 2] := rfl
theorem ent108 : Enters E.P 108 := enters_of Tryd.func108 (by simp [Tryd.f108]) rfl
theorem spec_l03Figure_ok (b1 : Int) {r0 : Bool} (h : spec_l03Figure b1 = some r0) : Ok E 108 [.val (vk .u8 b1)] [vb r0] [] := by
  refine ok_of_body (fn := Tryd.f108) Tryd.func108 rfl (by simp [Tryd.f108]) fun C hN hP => ?_
  have hPB : ∀ l, pinK [] l = true → pinB C.pin l = true := pinB_of (by rw [hP]; rfl)
  have hN' : C.N = 9 := hN
  clear hN
  unfold spec_l03Figure at h
  refine SWp.seqR rfl (hPB _ rfl) fun K hK => ?_
  refine wps_cons rfl fun K hK => ?_; simp [hN']; refine hK _ ?_; clear hK
  refine wps_nil (hK _ ?_); clear hK
  obtain ⟨v6, hj2, h⟩ := bind_some h
  refine SWp.seqRC rfl (hPB _ rfl) [2] [] (fun _ : Unit => ⟨[(2, .t (vb v6))], []⟩) (fun _ => True) (fun _ _ => ?_) fun K3 hK3 => ?_
  rotate_left
  · refine wps_cons rfl fun K hK => ?_; simp [hN']; refine hK _ ?_; clear hK
    iterate 2 (refine wps_cons rfl fun K hK => ?_; simp [hN']; refine hK _ ?_; clear hK)
    rcases ite_or hj2 with ⟨hb4, hj2⟩ | ⟨hb5, hj2⟩
    · have hb4s := hb4
      try simp at hb4s
      iterate 4 (refine wps_cons rfl fun K hK => ?_; simp [hN', hb4, hb4s]; refine hK _ ?_; clear hK)
      refine wps_nil ?_
      cases hj2
      exact hK3 _ () [] trivial (by simp [hN', hb4, hb4s])
    · have hb5s := hb5
      try simp at hb5s
      iterate 2 (refine wps_off fun K hK => ?_; simp [hN', hb5, hb5s]; refine hK _ ?_; clear hK)
      iterate 2 (refine wps_cons rfl fun K hK => ?_; simp [hN', hb5, hb5s]; refine hK _ ?_; clear hK)
      refine wps_nil ?_
      cases hj2
      exact hK3 _ () [] trivial (by simp [hN', hb5, hb5s])
  cases h
  refine SWp.ret ?_
  simp [thenS, inBlockS, res108]
end Go.Proofs.T
