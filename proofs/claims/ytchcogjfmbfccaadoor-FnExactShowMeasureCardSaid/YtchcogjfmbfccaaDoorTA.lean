import Derived.Test.YtchcogjfmbfccaaDoorOmB
import Derived.Lib.Split
import Derived.Lib.ItoaNum
import Derived.Test.YtchcogjfmbfccaaDoorProg
import Derived.KernelRfl
import Derived.Shelf.Utf8.RuneCount
import Derived.Shelf.Strconv.Itoa0
import Derived.Shelf.Strconv.Itoa1
import Derived.Shelf.LaysM
import Derived.Shelf.Strconv.Itoa2
import Derived.Shelf.Strconv.Itoa3
import Derived.Shelf.Strings.Search1
import Derived.Shelf.Strings.Search2
import Derived.Shelf.Strings.Search3
import Derived.Shelf.Strings.Count
import Derived.Shelf.Strings.Shaped
import Derived.Shelf.Strings.Split
import Derived.Shelf.Strings.SplitShaped
import Derived.Shelf.Unicode.Decode
import Derived.Shelf.Strings.RuneCount
import Derived.Shelf.Strings.Explode
import Derived.Shelf.Unicode.DecodeSlow
import Derived.Shelf.Unicode.DecodeAny
import Derived.Test.YtchcogjfmbfccaaDoorRows
import Derived.ProofKit
import Derived.Lib.LaidTab
import Derived.LaidLaws
import Derived.LaidHandle
set_option linter.unusedVariables false
noncomputable section
namespace Go.OM
/-! ### Functions of the library, as plain functions -/
def strconv_Itoa (n : Int) : Option ByteArray := if -9223372036854775808 ≤ n ∧ n ≤ 9223372036854775807 then some ⟨(Lib.itoa n).toArray⟩ else none
end Go.OM
end
set_option linter.unusedVariables false
set_option linter.unusedSimpArgs false
namespace Go.OM
abbrev vi (n : Int) : T := .v (.int .i64 n)
abbrev vk (k : IntKind) (n : Int) : T := .v (.int k n)
abbrev vb (b : Bool) : T := .v (.bool b)
abbrev vs (z : ByteArray) : T := .v (.string z)
abbrev eSl {α : Type} (o : Bool) (s : Nat) (f : α → T) (l : List α) : T := .sl o s (l.map f)
@[simp] theorem own_vi (l : List Int) : T.hasOwnL (l.map vi) = false := hasOwnL_map vi (fun _ => rfl) l
@[simp] theorem own_vk (k : IntKind) (l : List Int) : T.hasOwnL (l.map (vk k)) = false := hasOwnL_map _ (fun _ => rfl) l
@[simp] theorem own_vb (l : List Bool) : T.hasOwnL (l.map vb) = false := hasOwnL_map _ (fun _ => rfl) l
@[simp] theorem own_vs (l : List ByteArray) : T.hasOwnL (l.map vs) = false := hasOwnL_map _ (fun _ => rfl) l
@[simp] theorem ro_vi (l : List Int) : T.roL (l.map vi) = l.map vi := roL_map' _ _ (fun _ => rfl) l
@[simp] theorem ro_vk (k : IntKind) (l : List Int) : T.roL (l.map (vk k)) = l.map (vk k) := roL_map' _ _ (fun _ => rfl) l
@[simp] theorem ro_vb (l : List Bool) : T.roL (l.map vb) = l.map vb := roL_map' _ _ (fun _ => rfl) l
@[simp] theorem ro_vs (l : List ByteArray) : T.roL (l.map vs) = l.map vs := roL_map' _ _ (fun _ => rfl) l
@[simp] theorem noRo_vi (l : List Int) : T.noRoL (l.map vi) = true := noRoL_map _ (fun _ => rfl) l
@[simp] theorem noRo_vk (k : IntKind) (l : List Int) : T.noRoL (l.map (vk k)) = true := noRoL_map _ (fun _ => rfl) l
@[simp] theorem noRo_vb (l : List Bool) : T.noRoL (l.map vb) = true := noRoL_map _ (fun _ => rfl) l
@[simp] theorem noRo_vs (l : List ByteArray) : T.noRoL (l.map vs) = true := noRoL_map _ (fun _ => rfl) l
@[simp] theorem own_eSl {α : Type} {s : Nat} {f : α → T} (h : ∀ l : List α, T.hasOwnL (l.map f) = false) (l : List (List α)) : T.hasOwnL (l.map (eSl false s f)) = false := hasOwnL_map _ (fun x => by simp [h x]) l
@[simp] theorem ro_eSl {α : Type} {o : Bool} {s : Nat} {f : α → T} (h : ∀ l : List α, T.roL (l.map f) = l.map f) (l : List (List α)) : T.roL (l.map (eSl o s f)) = l.map (eSl false s f) := roL_map' _ _ (fun x => by simp [h x]) l
@[simp] theorem noRo_eSl {α : Type} {s : Nat} {f : α → T} (h : ∀ l : List α, T.noRoL (l.map f) = true) (l : List (List α)) : T.noRoL (l.map (eSl true s f)) = true := noRoL_map _ (fun x => by simp [h x]) l
theorem ite_or {α : Type} {c : Prop} [Decidable c] {a b : Option α} {r : α} (h : (if c then a else b) = some r) : (c ∧ a = some r) ∨ (¬ c ∧ b = some r) := by
  by_cases hc : c
  · rw [if_pos hc] at h; exact .inl ⟨hc, h⟩
  · rw [if_neg hc] at h; exact .inr ⟨hc, h⟩
structure GIns where
  Op : Int
  A : Int
  B : Int
  C : Int
  Num : Int
  Name : ByteArray
  Args : List Int
  deriving DecidableEq
def GIns.enc (o : Bool) (x : GIns) : T := .agg [vi x.Op, vi x.A, vi x.B, vi x.C, vi x.Num, vs x.Name, .sl o 1 (List.map vi x.Args)]
@[simp] theorem GIns.own (x : GIns) : (x.enc false).hasOwn = false := by simp [GIns.enc]
@[simp] theorem GIns.ownT (x : GIns) : (x.enc true).hasOwn = true := by simp [GIns.enc]
@[simp] theorem GIns.ownL (l : List GIns) : T.hasOwnL (l.map (GIns.enc false)) = false := hasOwnL_map _ (fun x => by simp) l
@[simp] theorem GIns.ro1 (o : Bool) (x : GIns) : (x.enc o).ro = x.enc false := by cases o <;> simp [GIns.enc, T.roL_map, Function.comp_def]
@[simp] theorem GIns.roL (o : Bool) (l : List GIns) : T.roL (l.map (GIns.enc o)) = l.map (GIns.enc false) := roL_map' _ _ (fun x => by simp) l
@[simp] theorem GIns.noRo (x : GIns) : (x.enc true).noRo = true := by simp [GIns.enc]
@[simp] theorem GIns.noRoL (l : List GIns) : T.noRoL (l.map (GIns.enc true)) = true := noRoL_map _ (fun x => by simp) l
structure GCode where
  Name : ByteArray
  Params : Int
  Locals : List Int
  Words : List GIns
  deriving DecidableEq
def GCode.enc (o : Bool) (x : GCode) : T := .agg [vs x.Name, vi x.Params, .sl o 1 (List.map vi x.Locals), .sl o 7 (List.map (GIns.enc o) x.Words)]
@[simp] theorem GCode.own (x : GCode) : (x.enc false).hasOwn = false := by simp [GCode.enc]
@[simp] theorem GCode.ownT (x : GCode) : (x.enc true).hasOwn = true := by simp [GCode.enc]
@[simp] theorem GCode.ownL (l : List GCode) : T.hasOwnL (l.map (GCode.enc false)) = false := hasOwnL_map _ (fun x => by simp) l
@[simp] theorem GCode.ro1 (o : Bool) (x : GCode) : (x.enc o).ro = x.enc false := by cases o <;> simp [GCode.enc, T.roL_map, Function.comp_def]
@[simp] theorem GCode.roL (o : Bool) (l : List GCode) : T.roL (l.map (GCode.enc o)) = l.map (GCode.enc false) := roL_map' _ _ (fun x => by simp) l
@[simp] theorem GCode.noRo (x : GCode) : (x.enc true).noRo = true := by simp [GCode.enc]
@[simp] theorem GCode.noRoL (l : List GCode) : T.noRoL (l.map (GCode.enc true)) = true := noRoL_map _ (fun x => by simp) l
structure GBlock where
  From : Int
  To : Int
  Next : List Int
  deriving DecidableEq
def GBlock.enc (o : Bool) (x : GBlock) : T := .agg [vi x.From, vi x.To, .sl o 1 (List.map vi x.Next)]
@[simp] theorem GBlock.own (x : GBlock) : (x.enc false).hasOwn = false := by simp [GBlock.enc]
@[simp] theorem GBlock.ownT (x : GBlock) : (x.enc true).hasOwn = true := by simp [GBlock.enc]
@[simp] theorem GBlock.ownL (l : List GBlock) : T.hasOwnL (l.map (GBlock.enc false)) = false := hasOwnL_map _ (fun x => by simp) l
@[simp] theorem GBlock.ro1 (o : Bool) (x : GBlock) : (x.enc o).ro = x.enc false := by cases o <;> simp [GBlock.enc, T.roL_map, Function.comp_def]
@[simp] theorem GBlock.roL (o : Bool) (l : List GBlock) : T.roL (l.map (GBlock.enc o)) = l.map (GBlock.enc false) := roL_map' _ _ (fun x => by simp) l
@[simp] theorem GBlock.noRo (x : GBlock) : (x.enc true).noRo = true := by simp [GBlock.enc]
@[simp] theorem GBlock.noRoL (l : List GBlock) : T.noRoL (l.map (GBlock.enc true)) = true := noRoL_map _ (fun x => by simp) l
structure GMeasure where
  Fns : Int
  Nodes : Int
  Steps : Int
  Values : Int
  Blocks : Int
  Lets : Int
  News : Int
  Lends : Int
  Deep : Int
  deriving DecidableEq
def GMeasure.enc (x : GMeasure) : T := .agg [vi x.Fns, vi x.Nodes, vi x.Steps, vi x.Values, vi x.Blocks, vi x.Lets, vi x.News, vi x.Lends, vi x.Deep]
@[simp] theorem GMeasure.own (x : GMeasure) : x.enc.hasOwn = false := by simp [GMeasure.enc]
@[simp] theorem GMeasure.ownL (l : List GMeasure) : T.hasOwnL (l.map GMeasure.enc) = false := hasOwnL_map _ (fun x => by simp) l
@[simp] theorem GMeasure.ro1 (x : GMeasure) : x.enc.ro = x.enc := by simp [GMeasure.enc]
@[simp] theorem GMeasure.roL (l : List GMeasure) : T.roL (l.map GMeasure.enc) = l.map GMeasure.enc := roL_map' _ _ (fun x => by simp) l
@[simp] theorem GMeasure.noRo (x : GMeasure) : x.enc.noRo = true := by simp [GMeasure.enc]
@[simp] theorem GMeasure.noRoL (l : List GMeasure) : T.noRoL (l.map GMeasure.enc) = true := noRoL_map _ (fun x => by simp) l
structure GNode where
  Kind : Int
  Num : Int
  Name : ByteArray
  Kids : List Int
  deriving DecidableEq
def GNode.enc (o : Bool) (x : GNode) : T := .agg [vi x.Kind, vi x.Num, vs x.Name, .sl o 1 (List.map vi x.Kids)]
@[simp] theorem GNode.own (x : GNode) : (x.enc false).hasOwn = false := by simp [GNode.enc]
@[simp] theorem GNode.ownT (x : GNode) : (x.enc true).hasOwn = true := by simp [GNode.enc]
@[simp] theorem GNode.ownL (l : List GNode) : T.hasOwnL (l.map (GNode.enc false)) = false := hasOwnL_map _ (fun x => by simp) l
@[simp] theorem GNode.ro1 (o : Bool) (x : GNode) : (x.enc o).ro = x.enc false := by cases o <;> simp [GNode.enc, T.roL_map, Function.comp_def]
@[simp] theorem GNode.roL (o : Bool) (l : List GNode) : T.roL (l.map (GNode.enc o)) = l.map (GNode.enc false) := roL_map' _ _ (fun x => by simp) l
@[simp] theorem GNode.noRo (x : GNode) : (x.enc true).noRo = true := by simp [GNode.enc]
@[simp] theorem GNode.noRoL (l : List GNode) : T.noRoL (l.map (GNode.enc true)) = true := noRoL_map _ (fun x => by simp) l
structure GParam where
  Name : ByteArray
  Typ : Int
  deriving DecidableEq
def GParam.enc (x : GParam) : T := .agg [vs x.Name, vi x.Typ]
@[simp] theorem GParam.own (x : GParam) : x.enc.hasOwn = false := by simp [GParam.enc]
@[simp] theorem GParam.ownL (l : List GParam) : T.hasOwnL (l.map GParam.enc) = false := hasOwnL_map _ (fun x => by simp) l
@[simp] theorem GParam.ro1 (x : GParam) : x.enc.ro = x.enc := by simp [GParam.enc]
@[simp] theorem GParam.roL (l : List GParam) : T.roL (l.map GParam.enc) = l.map GParam.enc := roL_map' _ _ (fun x => by simp) l
@[simp] theorem GParam.noRo (x : GParam) : x.enc.noRo = true := by simp [GParam.enc]
@[simp] theorem GParam.noRoL (l : List GParam) : T.noRoL (l.map GParam.enc) = true := noRoL_map _ (fun x => by simp) l
structure GFn where
  Name : ByteArray
  Params : List GParam
  Res : Int
  Body : Int
  Ret : Int
  deriving DecidableEq
def GFn.enc (o : Bool) (x : GFn) : T := .agg [vs x.Name, .sl o 2 (List.map GParam.enc x.Params), vi x.Res, vi x.Body, vi x.Ret]
@[simp] theorem GFn.own (x : GFn) : (x.enc false).hasOwn = false := by simp [GFn.enc]
@[simp] theorem GFn.ownT (x : GFn) : (x.enc true).hasOwn = true := by simp [GFn.enc]
@[simp] theorem GFn.ownL (l : List GFn) : T.hasOwnL (l.map (GFn.enc false)) = false := hasOwnL_map _ (fun x => by simp) l
@[simp] theorem GFn.ro1 (o : Bool) (x : GFn) : (x.enc o).ro = x.enc false := by cases o <;> simp [GFn.enc, T.roL_map, Function.comp_def]
@[simp] theorem GFn.roL (o : Bool) (l : List GFn) : T.roL (l.map (GFn.enc o)) = l.map (GFn.enc false) := roL_map' _ _ (fun x => by simp) l
@[simp] theorem GFn.noRo (x : GFn) : (x.enc true).noRo = true := by simp [GFn.enc]
@[simp] theorem GFn.noRoL (l : List GFn) : T.noRoL (l.map (GFn.enc true)) = true := noRoL_map _ (fun x => by simp) l
structure GProgram where
  Nodes : List GNode
  Fns : List GFn
  deriving DecidableEq
def GProgram.enc (o : Bool) (x : GProgram) : T := .agg [.sl o 4 (List.map (GNode.enc o) x.Nodes), .sl o 5 (List.map (GFn.enc o) x.Fns)]
@[simp] theorem GProgram.own (x : GProgram) : (x.enc false).hasOwn = false := by simp [GProgram.enc]
@[simp] theorem GProgram.ownT (x : GProgram) : (x.enc true).hasOwn = true := by simp [GProgram.enc]
@[simp] theorem GProgram.ownL (l : List GProgram) : T.hasOwnL (l.map (GProgram.enc false)) = false := hasOwnL_map _ (fun x => by simp) l
@[simp] theorem GProgram.ro1 (o : Bool) (x : GProgram) : (x.enc o).ro = x.enc false := by cases o <;> simp [GProgram.enc, T.roL_map, Function.comp_def]
@[simp] theorem GProgram.roL (o : Bool) (l : List GProgram) : T.roL (l.map (GProgram.enc o)) = l.map (GProgram.enc false) := roL_map' _ _ (fun x => by simp) l
@[simp] theorem GProgram.noRo (x : GProgram) : (x.enc true).noRo = true := by simp [GProgram.enc]
@[simp] theorem GProgram.noRoL (l : List GProgram) : T.noRoL (l.map (GProgram.enc true)) = true := noRoL_map _ (fun x => by simp) l
attribute [simp] GIns.enc GCode.enc GBlock.enc GMeasure.enc GNode.enc GParam.enc GFn.enc GProgram.enc
end Go.OM
set_option linter.unusedVariables false
noncomputable section
namespace Go.OM
def spec_l01Figure (x1 : Int) : Option (Int) :=
  if (decide (x1 < 10)) = true then
    some (IntKind.wrap .u8 (IntKind.wrap .i64 (48 + x1)))
  else
    some (IntKind.wrap .u8 (IntKind.wrap .i64 ((IntKind.wrap .i64 (97 + x1)) - 10)))
def spec_Decimal_l1 : (Int × ByteArray) → Option ((Int × ByteArray) ⊕ (ByteArray)) := fun ⟨n7, s8⟩ =>
  if (n7 != 0) = true then
    Option.bind (
      if (decide (Int.tmod n7 10 < 0)) = true then
        some (IntKind.wrap .i64 (0 - (Int.tmod n7 10)))
      else
        some (Int.tmod n7 10)) fun d19 =>
    (spec_l01Figure d19).bind fun r20 =>
    (sCat (bytesOf [r20]) s8).bind fun t22 =>
    some (Sum.inl (IntKind.wrap .i64 (Int.tdiv n7 10), t22))
  else
    some (Sum.inr s8)
def spec_Decimal (n1 : Int) : Option (ByteArray) :=
  if (n1 == 0) = true then
    some (⟨#[48]⟩ : ByteArray)
  else
    Option.bind (
      loopP (spec_Decimal_l1) (n1, (⟨#[]⟩ : ByteArray))) fun s24 =>
    if (decide (n1 < 0)) = true then
      (sCat (⟨#[45]⟩ : ByteArray) s24).bind fun t27 =>
      some t27
    else
      some s24
def spec_l25Num (n1 : Int) : Option (ByteArray) :=
  if (decide (n1 < 0)) = true then
    some (⟨#[48]⟩ : ByteArray)
  else
    (spec_Decimal n1).bind fun r4 =>
    some r4
def spec_ShowMeasure (m1 : GMeasure) : Option (ByteArray) :=
  (spec_l25Num m1.Fns).bind fun r3 =>
  (sCat (⟨#[102, 110, 115, 32]⟩ : ByteArray) r3).bind fun t5 =>
  (sCat t5 (⟨#[32, 110, 111, 100, 101, 115, 32]⟩ : ByteArray)).bind fun t6 =>
  (spec_l25Num m1.Nodes).bind fun r7 =>
  (sCat t6 r7).bind fun t9 =>
  (sCat t9 (⟨#[32, 115, 116, 101, 112, 115, 32]⟩ : ByteArray)).bind fun t10 =>
  (spec_l25Num m1.Steps).bind fun r11 =>
  (sCat t10 r11).bind fun t13 =>
  (sCat t13 (⟨#[32, 118, 97, 108, 117, 101, 115, 32]⟩ : ByteArray)).bind fun t14 =>
  (spec_l25Num m1.Values).bind fun r15 =>
  (sCat t14 r15).bind fun t17 =>
  (sCat t17 (⟨#[32, 98, 108, 111, 99, 107, 115, 32]⟩ : ByteArray)).bind fun t19 =>
  (spec_l25Num m1.Blocks).bind fun r20 =>
  (sCat t19 r20).bind fun t22 =>
  (sCat t22 (⟨#[32, 108, 101, 116, 115, 32]⟩ : ByteArray)).bind fun t23 =>
  (spec_l25Num m1.Lets).bind fun r24 =>
  (sCat t23 r24).bind fun t26 =>
  (sCat t26 (⟨#[32, 110, 101, 119, 115, 32]⟩ : ByteArray)).bind fun t27 =>
  (spec_l25Num m1.News).bind fun r28 =>
  (sCat t27 r28).bind fun t30 =>
  (sCat t30 (⟨#[32, 108, 101, 110, 100, 115, 32]⟩ : ByteArray)).bind fun t31 =>
  (spec_l25Num m1.Lends).bind fun r32 =>
  (sCat t31 r32).bind fun t34 =>
  (sCat t34 (⟨#[32, 100, 101, 101, 112, 32]⟩ : ByteArray)).bind fun t35 =>
  (spec_l25Num m1.Deep).bind fun r36 =>
  (sCat t35 r36).bind fun t38 =>
  (sCat t38 (⟨#[10]⟩ : ByteArray)).bind fun t39 =>
  some t39
def laws_toMeasure (a1 : GMeasure) : Option (GMeasure) :=
  some (⟨a1.Fns, a1.Nodes, a1.Steps, a1.Values, a1.Blocks, a1.Lets, a1.News, a1.Lends, a1.Deep⟩ : GMeasure)
def impl_Decimal (n1 : Int) : Option (ByteArray) :=
  (strconv_Itoa n1).bind fun r2 =>
  some r2
def impl_ShowMeasure_1 (s1 : ByteArray) (n2 : Int) : Option (ByteArray) :=
  (sCat s1 (⟨#[32]⟩ : ByteArray)).bind fun t3 =>
  (impl_Decimal (if 0 > n2 then 0 else n2)).bind fun r4 =>
  (sCat t3 r4).bind fun t6 =>
  some t6
def impl_ShowMeasure (m1 : GMeasure) : Option (ByteArray) :=
  (impl_ShowMeasure_1 (⟨#[102, 110, 115]⟩ : ByteArray) m1.Fns).bind fun r3 =>
  (impl_ShowMeasure_1 (⟨#[32, 110, 111, 100, 101, 115]⟩ : ByteArray) m1.Nodes).bind fun r5 =>
  (sCat r3 r5).bind fun t7 =>
  (impl_ShowMeasure_1 (⟨#[32, 115, 116, 101, 112, 115]⟩ : ByteArray) m1.Steps).bind fun r8 =>
  (sCat t7 r8).bind fun t10 =>
  (impl_ShowMeasure_1 (⟨#[32, 118, 97, 108, 117, 101, 115]⟩ : ByteArray) m1.Values).bind fun r11 =>
  (sCat t10 r11).bind fun t13 =>
  (impl_ShowMeasure_1 (⟨#[32, 98, 108, 111, 99, 107, 115]⟩ : ByteArray) m1.Blocks).bind fun r14 =>
  (sCat t13 r14).bind fun t16 =>
  (impl_ShowMeasure_1 (⟨#[32, 108, 101, 116, 115]⟩ : ByteArray) m1.Lets).bind fun r17 =>
  (sCat t16 r17).bind fun t19 =>
  (impl_ShowMeasure_1 (⟨#[32, 110, 101, 119, 115]⟩ : ByteArray) m1.News).bind fun r20 =>
  (sCat t19 r20).bind fun t22 =>
  (impl_ShowMeasure_1 (⟨#[32, 108, 101, 110, 100, 115]⟩ : ByteArray) m1.Lends).bind fun r23 =>
  (sCat t22 r23).bind fun t25 =>
  (impl_ShowMeasure_1 (⟨#[32, 100, 101, 101, 112]⟩ : ByteArray) m1.Deep).bind fun r26 =>
  (sCat t25 r26).bind fun t28 =>
  (sCat t28 (⟨#[10]⟩ : ByteArray)).bind fun t29 =>
  some t29
def laws_FnExactShowMeasure (aM1 : GMeasure) : Option (Bool) :=
  (laws_toMeasure aM1).bind fun r2 =>
  (spec_ShowMeasure r2).bind fun r4 =>
  (laws_toMeasure aM1).bind fun r6 =>
  (impl_ShowMeasure r6).bind fun r8 =>
  if (!(sEq r8 r4)) = true then
    some false
  else
    some true
end Go.OM
end
set_option maxRecDepth 100000
namespace Go.Proofs.T
open Go.OM
noncomputable def ty : TypeId → Option TI
  | 2 => some ⟨1, 8, .int .i64, [.v (.int .i64 0)]⟩
  | 3 => some ⟨1, 8, .int .i64, [.v (.int .i64 0)]⟩
  | 4 => some ⟨1, 1, .bool, [.v (.bool false)]⟩
  | 5 => some ⟨1, 1, .int .u8, [.v (.int .u8 0)]⟩
  | 7 => some ⟨4, 24, .struct [(0, 1), (1, 1), (2, 1), (3, 1)], [.v (.int .i64 0), .v (.int .i64 0), .v (.bool false), .v (.int .u8 0)]⟩
  | 9 => some ⟨1, 16, .str, [.v (.string .empty)]⟩
  | 12 => some ⟨1, 8, .int .u64, [.v (.int .u64 0)]⟩
  | 13 => some ⟨2, 24, .struct [(0, 1), (1, 1)], [.v (.string .empty), .v (.int .u64 0)]⟩
  | 15 => some ⟨1, 8, .ptr, [.v (.pointer none)]⟩
  | 16 => some ⟨1, 8, .ptr, [.v (.pointer none)]⟩
  | 17 => some ⟨1, 8, .ptr, [.v (.pointer none)]⟩
  | 18 => some ⟨1, 8, .struct [(0, 1)], [.v (.pointer none)]⟩
  | 20 => some ⟨1, 16, .iface, [.v .nilIface]⟩
  | 21 => some ⟨1, 4, .int .i32, [.v (.int .i32 0)]⟩
  | 22 => some ⟨9, 72, .struct [(0, 1), (1, 1), (2, 1), (3, 1), (4, 1), (5, 1), (6, 1), (7, 1), (8, 1)], [.v (.int .i64 0), .v (.int .i64 0), .v (.int .i64 0), .v (.int .i64 0), .v (.int .i64 0), .v (.int .i64 0), .v (.int .i64 0), .v (.int .i64 0), .v (.int .i64 0)]⟩
  | 23 => some ⟨9, 72, .struct [(0, 1), (1, 1), (2, 1), (3, 1), (4, 1), (5, 1), (6, 1), (7, 1), (8, 1)], [.v (.int .i64 0), .v (.int .i64 0), .v (.int .i64 0), .v (.int .i64 0), .v (.int .i64 0), .v (.int .i64 0), .v (.int .i64 0), .v (.int .i64 0), .v (.int .i64 0)]⟩
  | 24 => some ⟨1, 8, .func, [.v .nilFunc]⟩
  | 25 => some ⟨9, 72, .struct [(0, 1), (1, 1), (2, 1), (3, 1), (4, 1), (5, 1), (6, 1), (7, 1), (8, 1)], [.v (.int .i64 0), .v (.int .i64 0), .v (.int .i64 0), .v (.int .i64 0), .v (.int .i64 0), .v (.int .i64 0), .v (.int .i64 0), .v (.int .i64 0), .v (.int .i64 0)]⟩
  | 26 => some ⟨1, 8, .func, [.v .nilFunc]⟩
  | 27 => some ⟨1, 8, .func, [.v .nilFunc]⟩
  | 28 => some ⟨1, 24, .slice 3, [.nl true 1 none]⟩
  | 29 => some ⟨1, 24, .slice 101, [.nl true 7 none]⟩
  | 30 => some ⟨4, 72, .struct [(0, 1), (1, 1), (2, 1), (3, 1)], [.v (.string .empty), .v (.int .i64 0), .nl true 1 none, .nl true 7 none]⟩
  | 31 => some ⟨4, 72, .struct [(0, 1), (1, 1), (2, 1), (3, 1)], [.v (.string .empty), .v (.int .i64 0), .nl true 1 none, .nl true 7 none]⟩
  | 32 => some ⟨1, 8, .func, [.v .nilFunc]⟩
  | 33 => some ⟨1, 24, .slice 4, [.nl true 1 none]⟩
  | 34 => some ⟨1, 8, .func, [.v .nilFunc]⟩
  | 35 => some ⟨1, 24, .slice 93, [.nl true 7 none]⟩
  | 36 => some ⟨4, 72, .struct [(0, 1), (1, 1), (2, 1), (3, 1)], [.v (.string .empty), .v (.int .i64 0), .nl true 1 none, .nl true 7 none]⟩
  | 37 => some ⟨4, 72, .struct [(0, 1), (1, 1), (2, 1), (3, 1)], [.v (.string .empty), .v (.int .i64 0), .nl true 1 none, .nl true 7 none]⟩
  | 38 => some ⟨1, 8, .func, [.v .nilFunc]⟩
  | 39 => some ⟨1, 8, .func, [.v .nilFunc]⟩
  | 40 => some ⟨1, 8, .func, [.v .nilFunc]⟩
  | 41 => some ⟨1, 8, .func, [.v .nilFunc]⟩
  | 42 => some ⟨1, 8, .func, [.v .nilFunc]⟩
  | 43 => some ⟨1, 8, .func, [.v .nilFunc]⟩
  | 44 => some ⟨1, 24, .slice 108, [.nl true 4 none]⟩
  | 45 => some ⟨1, 24, .slice 112, [.nl true 5 none]⟩
  | 46 => some ⟨2, 48, .struct [(0, 1), (1, 1)], [.nl true 4 none, .nl true 5 none]⟩
  | 47 => some ⟨2, 48, .struct [(0, 1), (1, 1)], [.nl true 4 none, .nl true 5 none]⟩
  | 48 => some ⟨1, 8, .func, [.v .nilFunc]⟩
  | 50 => some ⟨1, 8, .func, [.v .nilFunc]⟩
  | 51 => some ⟨1, 24, .slice 88, [.nl true 4 none]⟩
  | 52 => some ⟨1, 24, .slice 117, [.nl true 5 none]⟩
  | 53 => some ⟨2, 48, .struct [(0, 1), (1, 1)], [.nl true 4 none, .nl true 5 none]⟩
  | 54 => some ⟨2, 48, .struct [(0, 1), (1, 1)], [.nl true 4 none, .nl true 5 none]⟩
  | 55 => some ⟨1, 8, .func, [.v .nilFunc]⟩
  | 56 => some ⟨1, 8, .func, [.v .nilFunc]⟩
  | 57 => some ⟨1, 8, .func, [.v .nilFunc]⟩
  | 58 => some ⟨1, 8, .func, [.v .nilFunc]⟩
  | 59 => some ⟨1, 24, .slice 91, [.nl true 3 none]⟩
  | 60 => some ⟨1, 8, .func, [.v .nilFunc]⟩
  | 61 => some ⟨1, 8, .func, [.v .nilFunc]⟩
  | 62 => some ⟨1, 8, .func, [.v .nilFunc]⟩
  | 63 => some ⟨1, 8, .func, [.v .nilFunc]⟩
  | 64 => some ⟨1, 24, .slice 33, [.nl true 1 none]⟩
  | 65 => some ⟨1, 8, .func, [.v .nilFunc]⟩
  | 66 => some ⟨1, 8, .func, [.v .nilFunc]⟩
  | 67 => some ⟨1, 8, .func, [.v .nilFunc]⟩
  | 68 => some ⟨1, 8, .func, [.v .nilFunc]⟩
  | 69 => some ⟨1, 8, .func, [.v .nilFunc]⟩
  | 70 => some ⟨1, 8, .func, [.v .nilFunc]⟩
  | 71 => some ⟨1, 8, .func, [.v .nilFunc]⟩
  | 72 => some ⟨1, 8, .func, [.v .nilFunc]⟩
  | 73 => some ⟨1, 8, .func, [.v .nilFunc]⟩
  | 74 => some ⟨1, 8, .func, [.v .nilFunc]⟩
  | 75 => some ⟨1, 8, .func, [.v .nilFunc]⟩
  | 76 => some ⟨1, 8, .func, [.v .nilFunc]⟩
  | 77 => some ⟨1, 8, .func, [.v .nilFunc]⟩
  | 78 => some ⟨1, 8, .func, [.v .nilFunc]⟩
  | 79 => some ⟨1, 8, .func, [.v .nilFunc]⟩
  | 80 => some ⟨1, 8, .func, [.v .nilFunc]⟩
  | 81 => some ⟨1, 8, .func, [.v .nilFunc]⟩
  | 82 => some ⟨1, 8, .func, [.v .nilFunc]⟩
  | 83 => some ⟨1, 8, .func, [.v .nilFunc]⟩
  | 84 => some ⟨1, 8, .func, [.v .nilFunc]⟩
  | 85 => some ⟨1, 8, .func, [.v .nilFunc]⟩
  | 86 => some ⟨1, 8, .func, [.v .nilFunc]⟩
  | 87 => some ⟨4, 56, .struct [(0, 1), (1, 1), (2, 1), (3, 1)], [.v (.int .i64 0), .v (.int .i64 0), .v (.string .empty), .nl true 1 none]⟩
  | 88 => some ⟨4, 56, .struct [(0, 1), (1, 1), (2, 1), (3, 1)], [.v (.int .i64 0), .v (.int .i64 0), .v (.string .empty), .nl true 1 none]⟩
  | 89 => some ⟨1, 8, .func, [.v .nilFunc]⟩
  | 90 => some ⟨3, 40, .struct [(0, 1), (1, 1), (2, 1)], [.v (.int .i64 0), .v (.int .i64 0), .nl true 1 none]⟩
  | 91 => some ⟨3, 40, .struct [(0, 1), (1, 1), (2, 1)], [.v (.int .i64 0), .v (.int .i64 0), .nl true 1 none]⟩
  | 92 => some ⟨7, 80, .struct [(0, 1), (1, 1), (2, 1), (3, 1), (4, 1), (5, 1), (6, 1)], [.v (.int .i64 0), .v (.int .i64 0), .v (.int .i64 0), .v (.int .i64 0), .v (.int .i64 0), .v (.string .empty), .nl true 1 none]⟩
  | 93 => some ⟨7, 80, .struct [(0, 1), (1, 1), (2, 1), (3, 1), (4, 1), (5, 1), (6, 1)], [.v (.int .i64 0), .v (.int .i64 0), .v (.int .i64 0), .v (.int .i64 0), .v (.int .i64 0), .v (.string .empty), .nl true 1 none]⟩
  | 94 => some ⟨1, 8, .func, [.v .nilFunc]⟩
  | 95 => some ⟨1, 8, .func, [.v .nilFunc]⟩
  | 96 => some ⟨1, 8, .func, [.v .nilFunc]⟩
  | 97 => some ⟨1, 8, .func, [.v .nilFunc]⟩
  | 98 => some ⟨1, 8, .func, [.v .nilFunc]⟩
  | 99 => some ⟨1, 8, .func, [.v .nilFunc]⟩
  | 100 => some ⟨1, 8, .func, [.v .nilFunc]⟩
  | 101 => some ⟨7, 80, .struct [(0, 1), (1, 1), (2, 1), (3, 1), (4, 1), (5, 1), (6, 1)], [.v (.int .i64 0), .v (.int .i64 0), .v (.int .i64 0), .v (.int .i64 0), .v (.int .i64 0), .v (.string .empty), .nl true 1 none]⟩
  | 102 => some ⟨1, 8, .func, [.v .nilFunc]⟩
  | 103 => some ⟨1, 8, .func, [.v .nilFunc]⟩
  | 104 => some ⟨1, 8, .func, [.v .nilFunc]⟩
  | 105 => some ⟨1, 8, .func, [.v .nilFunc]⟩
  | 106 => some ⟨1, 8, .func, [.v .nilFunc]⟩
  | 107 => some ⟨1, 8, .func, [.v .nilFunc]⟩
  | 108 => some ⟨4, 56, .struct [(0, 1), (1, 1), (2, 1), (3, 1)], [.v (.int .i64 0), .v (.int .i64 0), .v (.string .empty), .nl true 1 none]⟩
  | 109 => some ⟨1, 8, .func, [.v .nilFunc]⟩
  | 110 => some ⟨1, 24, .slice 141, [.nl true 2 none]⟩
  | 111 => some ⟨5, 64, .struct [(0, 1), (1, 1), (2, 1), (3, 1), (4, 1)], [.v (.string .empty), .nl true 2 none, .v (.int .i64 0), .v (.int .i64 0), .v (.int .i64 0)]⟩
  | 112 => some ⟨5, 64, .struct [(0, 1), (1, 1), (2, 1), (3, 1), (4, 1)], [.v (.string .empty), .nl true 2 none, .v (.int .i64 0), .v (.int .i64 0), .v (.int .i64 0)]⟩
  | 113 => some ⟨1, 8, .func, [.v .nilFunc]⟩
  | 114 => some ⟨1, 8, .func, [.v .nilFunc]⟩
  | 115 => some ⟨1, 24, .slice 144, [.nl true 2 none]⟩
  | 116 => some ⟨5, 64, .struct [(0, 1), (1, 1), (2, 1), (3, 1), (4, 1)], [.v (.string .empty), .nl true 2 none, .v (.int .i64 0), .v (.int .i64 0), .v (.int .i64 0)]⟩
  | 117 => some ⟨5, 64, .struct [(0, 1), (1, 1), (2, 1), (3, 1), (4, 1)], [.v (.string .empty), .nl true 2 none, .v (.int .i64 0), .v (.int .i64 0), .v (.int .i64 0)]⟩
  | 118 => some ⟨1, 8, .func, [.v .nilFunc]⟩
  | 120 => some ⟨1, 8, .func, [.v .nilFunc]⟩
  | 121 => some ⟨1, 8, .func, [.v .nilFunc]⟩
  | 122 => some ⟨1, 8, .func, [.v .nilFunc]⟩
  | 123 => some ⟨1, 8, .func, [.v .nilFunc]⟩
  | 124 => some ⟨1, 8, .func, [.v .nilFunc]⟩
  | 125 => some ⟨1, 8, .func, [.v .nilFunc]⟩
  | 126 => some ⟨1, 8, .func, [.v .nilFunc]⟩
  | 127 => some ⟨1, 24, .slice 5, [.nl true 1 none]⟩
  | 128 => some ⟨1, 8, .func, [.v .nilFunc]⟩
  | 129 => some ⟨1, 8, .func, [.v .nilFunc]⟩
  | 130 => some ⟨1, 8, .func, [.v .nilFunc]⟩
  | 131 => some ⟨1, 8, .func, [.v .nilFunc]⟩
  | 132 => some ⟨1, 8, .func, [.v .nilFunc]⟩
  | 133 => some ⟨1, 8, .func, [.v .nilFunc]⟩
  | 134 => some ⟨1, 8, .func, [.v .nilFunc]⟩
  | 135 => some ⟨1, 8, .func, [.v .nilFunc]⟩
  | 136 => some ⟨1, 24, .slice 9, [.nl true 1 none]⟩
  | 137 => some ⟨1, 8, .func, [.v .nilFunc]⟩
  | 138 => some ⟨1, 8, .func, [.v .nilFunc]⟩
  | 139 => some ⟨1, 8, .func, [.v .nilFunc]⟩
  | 140 => some ⟨2, 24, .struct [(0, 1), (1, 1)], [.v (.string .empty), .v (.int .i64 0)]⟩
  | 141 => some ⟨2, 24, .struct [(0, 1), (1, 1)], [.v (.string .empty), .v (.int .i64 0)]⟩
  | 143 => some ⟨1, 8, .func, [.v .nilFunc]⟩
  | 144 => some ⟨2, 24, .struct [(0, 1), (1, 1)], [.v (.string .empty), .v (.int .i64 0)]⟩
  | 145 => some ⟨1, 8, .func, [.v .nilFunc]⟩
  | 146 => some ⟨1, 8, .func, [.v .nilFunc]⟩
  | 148 => some ⟨1, 8, .int .u64, [.v (.int .u64 0)]⟩
  | 149 => some ⟨1, 8, .func, [.v .nilFunc]⟩
  | 150 => some ⟨1, 8, .func, [.v .nilFunc]⟩
  | 152 => some ⟨1, 8, .func, [.v .nilFunc]⟩
  | 153 => some ⟨1, 8, .func, [.v .nilFunc]⟩
  | 154 => some ⟨1, 8, .func, [.v .nilFunc]⟩
  | 156 => some ⟨1, 4, .int .u32, [.v (.int .u32 0)]⟩
  | 158 => some ⟨1, 8, .int .u64, [.v (.int .u64 0)]⟩
  | 159 => some ⟨1, 8, .func, [.v .nilFunc]⟩
  | 160 => some ⟨1, 8, .func, [.v .nilFunc]⟩
  | 161 => some ⟨1, 8, .func, [.v .nilFunc]⟩
  | 162 => some ⟨1, 8, .func, [.v .nilFunc]⟩
  | 163 => some ⟨1, 8, .func, [.v .nilFunc]⟩
  | 166 => some ⟨1, 8, .func, [.v .nilFunc]⟩
  | 168 => some ⟨1, 8, .func, [.v .nilFunc]⟩
  | 169 => some ⟨1, 8, .func, [.v .nilFunc]⟩
  | 171 => some ⟨2, 2, .struct [(0, 1), (1, 1)], [.v (.int .u8 0), .v (.int .u8 0)]⟩
  | 172 => some ⟨2, 2, .struct [(0, 1), (1, 1)], [.v (.int .u8 0), .v (.int .u8 0)]⟩
  | 175 => some ⟨1, 8, .func, [.v .nilFunc]⟩
  | 176 => some ⟨1, 8, .func, [.v .nilFunc]⟩
  | 177 => some ⟨4, 40, .struct [(0, 1), (1, 1), (2, 1), (3, 1)], [.v (.pointer none), .v (.pointer none), .v (.pointer none), .v (.string .empty)]⟩
  | 182 => some ⟨1, 8, .func, [.v .nilFunc]⟩
  | 185 => some ⟨1, 8, .func, [.v .nilFunc]⟩
  | 186 => some ⟨1, 8, .ptr, [.v (.pointer none)]⟩
  | 189 => some ⟨11, 48, .struct [(0, 1), (1, 1), (2, 1), (3, 1), (4, 1), (5, 1), (6, 1), (7, 1), (8, 1), (9, 1), (10, 1)], [.v (.int .u64 0), .v (.int .u64 0), .v (.int .u32 0), .v (.int .u8 0), .v (.int .u8 0), .v (.int .u8 0), .v (.int .u8 0), .v .nilFunc, .v (.pointer none), .v (.int .i32 0), .v (.int .i32 0)]⟩
  | _ => none
theorem ty_ok (t : TypeId) (ti : TI) (h : ty t = some ti) : TIok Tryd.prog t ti := by
  unfold ty at h
  split at h
  · cases h; exact ⟨by kernel_rfl, Tryd.underlying2, rfl⟩
  · cases h; exact ⟨by kernel_rfl, Tryd.underlying3, rfl⟩
  · cases h; exact ⟨by kernel_rfl, Tryd.underlying4, rfl⟩
  · cases h; exact ⟨by kernel_rfl, Tryd.underlying5, rfl⟩
  · cases h; exact ⟨by kernel_rfl, (show structOffs Tryd.prog 7 = some [(0, 1), (1, 1), (2, 1), (3, 1)] by kernel_rfl), rfl⟩
  · cases h; exact ⟨by kernel_rfl, Tryd.underlying9, rfl⟩
  · cases h; exact ⟨by kernel_rfl, Tryd.underlying12, rfl⟩
  · cases h; exact ⟨by kernel_rfl, (show structOffs Tryd.prog 13 = some [(0, 1), (1, 1)] by kernel_rfl), rfl⟩
  · cases h; exact ⟨by kernel_rfl, ⟨_, Tryd.underlying15⟩, rfl⟩
  · cases h; exact ⟨by kernel_rfl, ⟨_, Tryd.underlying16⟩, rfl⟩
  · cases h; exact ⟨by kernel_rfl, ⟨_, Tryd.underlying17⟩, rfl⟩
  · cases h; exact ⟨by kernel_rfl, (show structOffs Tryd.prog 18 = some [(0, 1)] by kernel_rfl), rfl⟩
  · cases h; exact ⟨by kernel_rfl, ⟨_, Tryd.underlying20⟩, rfl⟩
  · cases h; exact ⟨by kernel_rfl, Tryd.underlying21, rfl⟩
  · cases h; exact ⟨by kernel_rfl, (show structOffs Tryd.prog 22 = some [(0, 1), (1, 1), (2, 1), (3, 1), (4, 1), (5, 1), (6, 1), (7, 1), (8, 1)] by kernel_rfl), rfl⟩
  · cases h; exact ⟨by kernel_rfl, (show structOffs Tryd.prog 23 = some [(0, 1), (1, 1), (2, 1), (3, 1), (4, 1), (5, 1), (6, 1), (7, 1), (8, 1)] by kernel_rfl), rfl⟩
  · cases h; exact ⟨by kernel_rfl, ⟨_, _, _, Tryd.underlying24⟩, rfl⟩
  · cases h; exact ⟨by kernel_rfl, (show structOffs Tryd.prog 25 = some [(0, 1), (1, 1), (2, 1), (3, 1), (4, 1), (5, 1), (6, 1), (7, 1), (8, 1)] by kernel_rfl), rfl⟩
  · cases h; exact ⟨by kernel_rfl, ⟨_, _, _, Tryd.underlying26⟩, rfl⟩
  · cases h; exact ⟨by kernel_rfl, ⟨_, _, _, Tryd.underlying27⟩, rfl⟩
  · cases h; exact ⟨by kernel_rfl, Tryd.underlying28, rfl⟩
  · cases h; exact ⟨by kernel_rfl, Tryd.underlying29, rfl⟩
  · cases h; exact ⟨by kernel_rfl, (show structOffs Tryd.prog 30 = some [(0, 1), (1, 1), (2, 1), (3, 1)] by kernel_rfl), rfl⟩
  · cases h; exact ⟨by kernel_rfl, (show structOffs Tryd.prog 31 = some [(0, 1), (1, 1), (2, 1), (3, 1)] by kernel_rfl), rfl⟩
  · cases h; exact ⟨by kernel_rfl, ⟨_, _, _, Tryd.underlying32⟩, rfl⟩
  · cases h; exact ⟨by kernel_rfl, Tryd.underlying33, rfl⟩
  · cases h; exact ⟨by kernel_rfl, ⟨_, _, _, Tryd.underlying34⟩, rfl⟩
  · cases h; exact ⟨by kernel_rfl, Tryd.underlying35, rfl⟩
  · cases h; exact ⟨by kernel_rfl, (show structOffs Tryd.prog 36 = some [(0, 1), (1, 1), (2, 1), (3, 1)] by kernel_rfl), rfl⟩
  · cases h; exact ⟨by kernel_rfl, (show structOffs Tryd.prog 37 = some [(0, 1), (1, 1), (2, 1), (3, 1)] by kernel_rfl), rfl⟩
  · cases h; exact ⟨by kernel_rfl, ⟨_, _, _, Tryd.underlying38⟩, rfl⟩
  · cases h; exact ⟨by kernel_rfl, ⟨_, _, _, Tryd.underlying39⟩, rfl⟩
  · cases h; exact ⟨by kernel_rfl, ⟨_, _, _, Tryd.underlying40⟩, rfl⟩
  · cases h; exact ⟨by kernel_rfl, ⟨_, _, _, Tryd.underlying41⟩, rfl⟩
  · cases h; exact ⟨by kernel_rfl, ⟨_, _, _, Tryd.underlying42⟩, rfl⟩
  · cases h; exact ⟨by kernel_rfl, ⟨_, _, _, Tryd.underlying43⟩, rfl⟩
  · cases h; exact ⟨by kernel_rfl, Tryd.underlying44, rfl⟩
  · cases h; exact ⟨by kernel_rfl, Tryd.underlying45, rfl⟩
  · cases h; exact ⟨by kernel_rfl, (show structOffs Tryd.prog 46 = some [(0, 1), (1, 1)] by kernel_rfl), rfl⟩
  · cases h; exact ⟨by kernel_rfl, (show structOffs Tryd.prog 47 = some [(0, 1), (1, 1)] by kernel_rfl), rfl⟩
  · cases h; exact ⟨by kernel_rfl, ⟨_, _, _, Tryd.underlying48⟩, rfl⟩
  · cases h; exact ⟨by kernel_rfl, ⟨_, _, _, Tryd.underlying50⟩, rfl⟩
  · cases h; exact ⟨by kernel_rfl, Tryd.underlying51, rfl⟩
  · cases h; exact ⟨by kernel_rfl, Tryd.underlying52, rfl⟩
  · cases h; exact ⟨by kernel_rfl, (show structOffs Tryd.prog 53 = some [(0, 1), (1, 1)] by kernel_rfl), rfl⟩
  · cases h; exact ⟨by kernel_rfl, (show structOffs Tryd.prog 54 = some [(0, 1), (1, 1)] by kernel_rfl), rfl⟩
  · cases h; exact ⟨by kernel_rfl, ⟨_, _, _, Tryd.underlying55⟩, rfl⟩
  · cases h; exact ⟨by kernel_rfl, ⟨_, _, _, Tryd.underlying56⟩, rfl⟩
  · cases h; exact ⟨by kernel_rfl, ⟨_, _, _, Tryd.underlying57⟩, rfl⟩
  · cases h; exact ⟨by kernel_rfl, ⟨_, _, _, Tryd.underlying58⟩, rfl⟩
  · cases h; exact ⟨by kernel_rfl, Tryd.underlying59, rfl⟩
  · cases h; exact ⟨by kernel_rfl, ⟨_, _, _, Tryd.underlying60⟩, rfl⟩
  · cases h; exact ⟨by kernel_rfl, ⟨_, _, _, Tryd.underlying61⟩, rfl⟩
  · cases h; exact ⟨by kernel_rfl, ⟨_, _, _, Tryd.underlying62⟩, rfl⟩
  · cases h; exact ⟨by kernel_rfl, ⟨_, _, _, Tryd.underlying63⟩, rfl⟩
  · cases h; exact ⟨by kernel_rfl, Tryd.underlying64, rfl⟩
  · cases h; exact ⟨by kernel_rfl, ⟨_, _, _, Tryd.underlying65⟩, rfl⟩
  · cases h; exact ⟨by kernel_rfl, ⟨_, _, _, Tryd.underlying66⟩, rfl⟩
  · cases h; exact ⟨by kernel_rfl, ⟨_, _, _, Tryd.underlying67⟩, rfl⟩
  · cases h; exact ⟨by kernel_rfl, ⟨_, _, _, Tryd.underlying68⟩, rfl⟩
  · cases h; exact ⟨by kernel_rfl, ⟨_, _, _, Tryd.underlying69⟩, rfl⟩
  · cases h; exact ⟨by kernel_rfl, ⟨_, _, _, Tryd.underlying70⟩, rfl⟩
  · cases h; exact ⟨by kernel_rfl, ⟨_, _, _, Tryd.underlying71⟩, rfl⟩
  · cases h; exact ⟨by kernel_rfl, ⟨_, _, _, Tryd.underlying72⟩, rfl⟩
  · cases h; exact ⟨by kernel_rfl, ⟨_, _, _, Tryd.underlying73⟩, rfl⟩
  · cases h; exact ⟨by kernel_rfl, ⟨_, _, _, Tryd.underlying74⟩, rfl⟩
  · cases h; exact ⟨by kernel_rfl, ⟨_, _, _, Tryd.underlying75⟩, rfl⟩
  · cases h; exact ⟨by kernel_rfl, ⟨_, _, _, Tryd.underlying76⟩, rfl⟩
  · cases h; exact ⟨by kernel_rfl, ⟨_, _, _, Tryd.underlying77⟩, rfl⟩
  · cases h; exact ⟨by kernel_rfl, ⟨_, _, _, Tryd.underlying78⟩, rfl⟩
  · cases h; exact ⟨by kernel_rfl, ⟨_, _, _, Tryd.underlying79⟩, rfl⟩
  · cases h; exact ⟨by kernel_rfl, ⟨_, _, _, Tryd.underlying80⟩, rfl⟩
  · cases h; exact ⟨by kernel_rfl, ⟨_, _, _, Tryd.underlying81⟩, rfl⟩
  · cases h; exact ⟨by kernel_rfl, ⟨_, _, _, Tryd.underlying82⟩, rfl⟩
  · cases h; exact ⟨by kernel_rfl, ⟨_, _, _, Tryd.underlying83⟩, rfl⟩
  · cases h; exact ⟨by kernel_rfl, ⟨_, _, _, Tryd.underlying84⟩, rfl⟩
  · cases h; exact ⟨by kernel_rfl, ⟨_, _, _, Tryd.underlying85⟩, rfl⟩
  · cases h; exact ⟨by kernel_rfl, ⟨_, _, _, Tryd.underlying86⟩, rfl⟩
  · cases h; exact ⟨by kernel_rfl, (show structOffs Tryd.prog 87 = some [(0, 1), (1, 1), (2, 1), (3, 1)] by kernel_rfl), rfl⟩
  · cases h; exact ⟨by kernel_rfl, (show structOffs Tryd.prog 88 = some [(0, 1), (1, 1), (2, 1), (3, 1)] by kernel_rfl), rfl⟩
  · cases h; exact ⟨by kernel_rfl, ⟨_, _, _, Tryd.underlying89⟩, rfl⟩
  · cases h; exact ⟨by kernel_rfl, (show structOffs Tryd.prog 90 = some [(0, 1), (1, 1), (2, 1)] by kernel_rfl), rfl⟩
  · cases h; exact ⟨by kernel_rfl, (show structOffs Tryd.prog 91 = some [(0, 1), (1, 1), (2, 1)] by kernel_rfl), rfl⟩
  · cases h; exact ⟨by kernel_rfl, (show structOffs Tryd.prog 92 = some [(0, 1), (1, 1), (2, 1), (3, 1), (4, 1), (5, 1), (6, 1)] by kernel_rfl), rfl⟩
  · cases h; exact ⟨by kernel_rfl, (show structOffs Tryd.prog 93 = some [(0, 1), (1, 1), (2, 1), (3, 1), (4, 1), (5, 1), (6, 1)] by kernel_rfl), rfl⟩
  · cases h; exact ⟨by kernel_rfl, ⟨_, _, _, Tryd.underlying94⟩, rfl⟩
  · cases h; exact ⟨by kernel_rfl, ⟨_, _, _, Tryd.underlying95⟩, rfl⟩
  · cases h; exact ⟨by kernel_rfl, ⟨_, _, _, Tryd.underlying96⟩, rfl⟩
  · cases h; exact ⟨by kernel_rfl, ⟨_, _, _, Tryd.underlying97⟩, rfl⟩
  · cases h; exact ⟨by kernel_rfl, ⟨_, _, _, Tryd.underlying98⟩, rfl⟩
  · cases h; exact ⟨by kernel_rfl, ⟨_, _, _, Tryd.underlying99⟩, rfl⟩
  · cases h; exact ⟨by kernel_rfl, ⟨_, _, _, Tryd.underlying100⟩, rfl⟩
  · cases h; exact ⟨by kernel_rfl, (show structOffs Tryd.prog 101 = some [(0, 1), (1, 1), (2, 1), (3, 1), (4, 1), (5, 1), (6, 1)] by kernel_rfl), rfl⟩
  · cases h; exact ⟨by kernel_rfl, ⟨_, _, _, Tryd.underlying102⟩, rfl⟩
  · cases h; exact ⟨by kernel_rfl, ⟨_, _, _, Tryd.underlying103⟩, rfl⟩
  · cases h; exact ⟨by kernel_rfl, ⟨_, _, _, Tryd.underlying104⟩, rfl⟩
  · cases h; exact ⟨by kernel_rfl, ⟨_, _, _, Tryd.underlying105⟩, rfl⟩
  · cases h; exact ⟨by kernel_rfl, ⟨_, _, _, Tryd.underlying106⟩, rfl⟩
  · cases h; exact ⟨by kernel_rfl, ⟨_, _, _, Tryd.underlying107⟩, rfl⟩
  · cases h; exact ⟨by kernel_rfl, (show structOffs Tryd.prog 108 = some [(0, 1), (1, 1), (2, 1), (3, 1)] by kernel_rfl), rfl⟩
  · cases h; exact ⟨by kernel_rfl, ⟨_, _, _, Tryd.underlying109⟩, rfl⟩
  · cases h; exact ⟨by kernel_rfl, Tryd.underlying110, rfl⟩
  · cases h; exact ⟨by kernel_rfl, (show structOffs Tryd.prog 111 = some [(0, 1), (1, 1), (2, 1), (3, 1), (4, 1)] by kernel_rfl), rfl⟩
  · cases h; exact ⟨by kernel_rfl, (show structOffs Tryd.prog 112 = some [(0, 1), (1, 1), (2, 1), (3, 1), (4, 1)] by kernel_rfl), rfl⟩
  · cases h; exact ⟨by kernel_rfl, ⟨_, _, _, Tryd.underlying113⟩, rfl⟩
  · cases h; exact ⟨by kernel_rfl, ⟨_, _, _, Tryd.underlying114⟩, rfl⟩
  · cases h; exact ⟨by kernel_rfl, Tryd.underlying115, rfl⟩
  · cases h; exact ⟨by kernel_rfl, (show structOffs Tryd.prog 116 = some [(0, 1), (1, 1), (2, 1), (3, 1), (4, 1)] by kernel_rfl), rfl⟩
  · cases h; exact ⟨by kernel_rfl, (show structOffs Tryd.prog 117 = some [(0, 1), (1, 1), (2, 1), (3, 1), (4, 1)] by kernel_rfl), rfl⟩
  · cases h; exact ⟨by kernel_rfl, ⟨_, _, _, Tryd.underlying118⟩, rfl⟩
  · cases h; exact ⟨by kernel_rfl, ⟨_, _, _, Tryd.underlying120⟩, rfl⟩
  · cases h; exact ⟨by kernel_rfl, ⟨_, _, _, Tryd.underlying121⟩, rfl⟩
  · cases h; exact ⟨by kernel_rfl, ⟨_, _, _, Tryd.underlying122⟩, rfl⟩
  · cases h; exact ⟨by kernel_rfl, ⟨_, _, _, Tryd.underlying123⟩, rfl⟩
  · cases h; exact ⟨by kernel_rfl, ⟨_, _, _, Tryd.underlying124⟩, rfl⟩
  · cases h; exact ⟨by kernel_rfl, ⟨_, _, _, Tryd.underlying125⟩, rfl⟩
  · cases h; exact ⟨by kernel_rfl, ⟨_, _, _, Tryd.underlying126⟩, rfl⟩
  · cases h; exact ⟨by kernel_rfl, Tryd.underlying127, rfl⟩
  · cases h; exact ⟨by kernel_rfl, ⟨_, _, _, Tryd.underlying128⟩, rfl⟩
  · cases h; exact ⟨by kernel_rfl, ⟨_, _, _, Tryd.underlying129⟩, rfl⟩
  · cases h; exact ⟨by kernel_rfl, ⟨_, _, _, Tryd.underlying130⟩, rfl⟩
  · cases h; exact ⟨by kernel_rfl, ⟨_, _, _, Tryd.underlying131⟩, rfl⟩
  · cases h; exact ⟨by kernel_rfl, ⟨_, _, _, Tryd.underlying132⟩, rfl⟩
  · cases h; exact ⟨by kernel_rfl, ⟨_, _, _, Tryd.underlying133⟩, rfl⟩
  · cases h; exact ⟨by kernel_rfl, ⟨_, _, _, Tryd.underlying134⟩, rfl⟩
  · cases h; exact ⟨by kernel_rfl, ⟨_, _, _, Tryd.underlying135⟩, rfl⟩
  · cases h; exact ⟨by kernel_rfl, Tryd.underlying136, rfl⟩
  · cases h; exact ⟨by kernel_rfl, ⟨_, _, _, Tryd.underlying137⟩, rfl⟩
  · cases h; exact ⟨by kernel_rfl, ⟨_, _, _, Tryd.underlying138⟩, rfl⟩
  · cases h; exact ⟨by kernel_rfl, ⟨_, _, _, Tryd.underlying139⟩, rfl⟩
  · cases h; exact ⟨by kernel_rfl, (show structOffs Tryd.prog 140 = some [(0, 1), (1, 1)] by kernel_rfl), rfl⟩
  · cases h; exact ⟨by kernel_rfl, (show structOffs Tryd.prog 141 = some [(0, 1), (1, 1)] by kernel_rfl), rfl⟩
  · cases h; exact ⟨by kernel_rfl, ⟨_, _, _, Tryd.underlying143⟩, rfl⟩
  · cases h; exact ⟨by kernel_rfl, (show structOffs Tryd.prog 144 = some [(0, 1), (1, 1)] by kernel_rfl), rfl⟩
  · cases h; exact ⟨by kernel_rfl, ⟨_, _, _, Tryd.underlying145⟩, rfl⟩
  · cases h; exact ⟨by kernel_rfl, ⟨_, _, _, Tryd.underlying146⟩, rfl⟩
  · cases h; exact ⟨by kernel_rfl, Tryd.underlying148, rfl⟩
  · cases h; exact ⟨by kernel_rfl, ⟨_, _, _, Tryd.underlying149⟩, rfl⟩
  · cases h; exact ⟨by kernel_rfl, ⟨_, _, _, Tryd.underlying150⟩, rfl⟩
  · cases h; exact ⟨by kernel_rfl, ⟨_, _, _, Tryd.underlying152⟩, rfl⟩
  · cases h; exact ⟨by kernel_rfl, ⟨_, _, _, Tryd.underlying153⟩, rfl⟩
  · cases h; exact ⟨by kernel_rfl, ⟨_, _, _, Tryd.underlying154⟩, rfl⟩
  · cases h; exact ⟨by kernel_rfl, Tryd.underlying156, rfl⟩
  · cases h; exact ⟨by kernel_rfl, Tryd.underlying158, rfl⟩
  · cases h; exact ⟨by kernel_rfl, ⟨_, _, _, Tryd.underlying159⟩, rfl⟩
  · cases h; exact ⟨by kernel_rfl, ⟨_, _, _, Tryd.underlying160⟩, rfl⟩
  · cases h; exact ⟨by kernel_rfl, ⟨_, _, _, Tryd.underlying161⟩, rfl⟩
  · cases h; exact ⟨by kernel_rfl, ⟨_, _, _, Tryd.underlying162⟩, rfl⟩
  · cases h; exact ⟨by kernel_rfl, ⟨_, _, _, Tryd.underlying163⟩, rfl⟩
  · cases h; exact ⟨by kernel_rfl, ⟨_, _, _, Tryd.underlying166⟩, rfl⟩
  · cases h; exact ⟨by kernel_rfl, ⟨_, _, _, Tryd.underlying168⟩, rfl⟩
  · cases h; exact ⟨by kernel_rfl, ⟨_, _, _, Tryd.underlying169⟩, rfl⟩
  · cases h; exact ⟨by kernel_rfl, (show structOffs Tryd.prog 171 = some [(0, 1), (1, 1)] by kernel_rfl), rfl⟩
  · cases h; exact ⟨by kernel_rfl, (show structOffs Tryd.prog 172 = some [(0, 1), (1, 1)] by kernel_rfl), rfl⟩
  · cases h; exact ⟨by kernel_rfl, ⟨_, _, _, Tryd.underlying175⟩, rfl⟩
  · cases h; exact ⟨by kernel_rfl, ⟨_, _, _, Tryd.underlying176⟩, rfl⟩
  · cases h; exact ⟨by kernel_rfl, (show structOffs Tryd.prog 177 = some [(0, 1), (1, 1), (2, 1), (3, 1)] by kernel_rfl), rfl⟩
  · cases h; exact ⟨by kernel_rfl, ⟨_, _, _, Tryd.underlying182⟩, rfl⟩
  · cases h; exact ⟨by kernel_rfl, ⟨_, _, _, Tryd.underlying185⟩, rfl⟩
  · cases h; exact ⟨by kernel_rfl, ⟨_, Tryd.underlying186⟩, rfl⟩
  · cases h; exact ⟨by kernel_rfl, (show structOffs Tryd.prog 189 = some [(0, 1), (1, 1), (2, 1), (3, 1), (4, 1), (5, 1), (6, 1), (7, 1), (8, 1), (9, 1), (10, 1)] by kernel_rfl), rfl⟩
  · cases h
noncomputable def E : Env := ⟨Tryd.prog, ty, ty_ok, by kernel_rfl, [(0, fun cs => cs = ((Lib.pow10Tab.map fun z => Value.int .u64 z).toArray))]⟩
theorem E_P : E.P = Tryd.prog := rfl
@[simp] theorem E_ty2 : E.ty 2 = some ⟨1, 8, .int .i64, [.v (.int .i64 0)]⟩ := rfl
@[simp] theorem E_ty3 : E.ty 3 = some ⟨1, 8, .int .i64, [.v (.int .i64 0)]⟩ := rfl
@[simp] theorem E_ty4 : E.ty 4 = some ⟨1, 1, .bool, [.v (.bool false)]⟩ := rfl
@[simp] theorem E_ty5 : E.ty 5 = some ⟨1, 1, .int .u8, [.v (.int .u8 0)]⟩ := rfl
@[simp] theorem E_ty7 : E.ty 7 = some ⟨4, 24, .struct [(0, 1), (1, 1), (2, 1), (3, 1)], [.v (.int .i64 0), .v (.int .i64 0), .v (.bool false), .v (.int .u8 0)]⟩ := rfl
@[simp] theorem E_ty9 : E.ty 9 = some ⟨1, 16, .str, [.v (.string .empty)]⟩ := rfl
@[simp] theorem E_ty12 : E.ty 12 = some ⟨1, 8, .int .u64, [.v (.int .u64 0)]⟩ := rfl
@[simp] theorem E_ty13 : E.ty 13 = some ⟨2, 24, .struct [(0, 1), (1, 1)], [.v (.string .empty), .v (.int .u64 0)]⟩ := rfl
@[simp] theorem E_ty15 : E.ty 15 = some ⟨1, 8, .ptr, [.v (.pointer none)]⟩ := rfl
@[simp] theorem E_ty16 : E.ty 16 = some ⟨1, 8, .ptr, [.v (.pointer none)]⟩ := rfl
@[simp] theorem E_ty17 : E.ty 17 = some ⟨1, 8, .ptr, [.v (.pointer none)]⟩ := rfl
@[simp] theorem E_ty18 : E.ty 18 = some ⟨1, 8, .struct [(0, 1)], [.v (.pointer none)]⟩ := rfl
@[simp] theorem E_ty20 : E.ty 20 = some ⟨1, 16, .iface, [.v .nilIface]⟩ := rfl
@[simp] theorem E_ty21 : E.ty 21 = some ⟨1, 4, .int .i32, [.v (.int .i32 0)]⟩ := rfl
@[simp] theorem E_ty22 : E.ty 22 = some ⟨9, 72, .struct [(0, 1), (1, 1), (2, 1), (3, 1), (4, 1), (5, 1), (6, 1), (7, 1), (8, 1)], [.v (.int .i64 0), .v (.int .i64 0), .v (.int .i64 0), .v (.int .i64 0), .v (.int .i64 0), .v (.int .i64 0), .v (.int .i64 0), .v (.int .i64 0), .v (.int .i64 0)]⟩ := rfl
@[simp] theorem E_ty23 : E.ty 23 = some ⟨9, 72, .struct [(0, 1), (1, 1), (2, 1), (3, 1), (4, 1), (5, 1), (6, 1), (7, 1), (8, 1)], [.v (.int .i64 0), .v (.int .i64 0), .v (.int .i64 0), .v (.int .i64 0), .v (.int .i64 0), .v (.int .i64 0), .v (.int .i64 0), .v (.int .i64 0), .v (.int .i64 0)]⟩ := rfl
@[simp] theorem E_ty24 : E.ty 24 = some ⟨1, 8, .func, [.v .nilFunc]⟩ := rfl
@[simp] theorem E_ty25 : E.ty 25 = some ⟨9, 72, .struct [(0, 1), (1, 1), (2, 1), (3, 1), (4, 1), (5, 1), (6, 1), (7, 1), (8, 1)], [.v (.int .i64 0), .v (.int .i64 0), .v (.int .i64 0), .v (.int .i64 0), .v (.int .i64 0), .v (.int .i64 0), .v (.int .i64 0), .v (.int .i64 0), .v (.int .i64 0)]⟩ := rfl
@[simp] theorem E_ty26 : E.ty 26 = some ⟨1, 8, .func, [.v .nilFunc]⟩ := rfl
@[simp] theorem E_ty27 : E.ty 27 = some ⟨1, 8, .func, [.v .nilFunc]⟩ := rfl
@[simp] theorem E_ty28 : E.ty 28 = some ⟨1, 24, .slice 3, [.nl true 1 none]⟩ := rfl
@[simp] theorem E_ty29 : E.ty 29 = some ⟨1, 24, .slice 101, [.nl true 7 none]⟩ := rfl
@[simp] theorem E_ty30 : E.ty 30 = some ⟨4, 72, .struct [(0, 1), (1, 1), (2, 1), (3, 1)], [.v (.string .empty), .v (.int .i64 0), .nl true 1 none, .nl true 7 none]⟩ := rfl
@[simp] theorem E_ty31 : E.ty 31 = some ⟨4, 72, .struct [(0, 1), (1, 1), (2, 1), (3, 1)], [.v (.string .empty), .v (.int .i64 0), .nl true 1 none, .nl true 7 none]⟩ := rfl
@[simp] theorem E_ty32 : E.ty 32 = some ⟨1, 8, .func, [.v .nilFunc]⟩ := rfl
@[simp] theorem E_ty33 : E.ty 33 = some ⟨1, 24, .slice 4, [.nl true 1 none]⟩ := rfl
@[simp] theorem E_ty34 : E.ty 34 = some ⟨1, 8, .func, [.v .nilFunc]⟩ := rfl
@[simp] theorem E_ty35 : E.ty 35 = some ⟨1, 24, .slice 93, [.nl true 7 none]⟩ := rfl
@[simp] theorem E_ty36 : E.ty 36 = some ⟨4, 72, .struct [(0, 1), (1, 1), (2, 1), (3, 1)], [.v (.string .empty), .v (.int .i64 0), .nl true 1 none, .nl true 7 none]⟩ := rfl
@[simp] theorem E_ty37 : E.ty 37 = some ⟨4, 72, .struct [(0, 1), (1, 1), (2, 1), (3, 1)], [.v (.string .empty), .v (.int .i64 0), .nl true 1 none, .nl true 7 none]⟩ := rfl
@[simp] theorem E_ty38 : E.ty 38 = some ⟨1, 8, .func, [.v .nilFunc]⟩ := rfl
@[simp] theorem E_ty39 : E.ty 39 = some ⟨1, 8, .func, [.v .nilFunc]⟩ := rfl
@[simp] theorem E_ty40 : E.ty 40 = some ⟨1, 8, .func, [.v .nilFunc]⟩ := rfl
@[simp] theorem E_ty41 : E.ty 41 = some ⟨1, 8, .func, [.v .nilFunc]⟩ := rfl
@[simp] theorem E_ty42 : E.ty 42 = some ⟨1, 8, .func, [.v .nilFunc]⟩ := rfl
@[simp] theorem E_ty43 : E.ty 43 = some ⟨1, 8, .func, [.v .nilFunc]⟩ := rfl
@[simp] theorem E_ty44 : E.ty 44 = some ⟨1, 24, .slice 108, [.nl true 4 none]⟩ := rfl
@[simp] theorem E_ty45 : E.ty 45 = some ⟨1, 24, .slice 112, [.nl true 5 none]⟩ := rfl
@[simp] theorem E_ty46 : E.ty 46 = some ⟨2, 48, .struct [(0, 1), (1, 1)], [.nl true 4 none, .nl true 5 none]⟩ := rfl
@[simp] theorem E_ty47 : E.ty 47 = some ⟨2, 48, .struct [(0, 1), (1, 1)], [.nl true 4 none, .nl true 5 none]⟩ := rfl
@[simp] theorem E_ty48 : E.ty 48 = some ⟨1, 8, .func, [.v .nilFunc]⟩ := rfl
@[simp] theorem E_ty50 : E.ty 50 = some ⟨1, 8, .func, [.v .nilFunc]⟩ := rfl
@[simp] theorem E_ty51 : E.ty 51 = some ⟨1, 24, .slice 88, [.nl true 4 none]⟩ := rfl
@[simp] theorem E_ty52 : E.ty 52 = some ⟨1, 24, .slice 117, [.nl true 5 none]⟩ := rfl
@[simp] theorem E_ty53 : E.ty 53 = some ⟨2, 48, .struct [(0, 1), (1, 1)], [.nl true 4 none, .nl true 5 none]⟩ := rfl
@[simp] theorem E_ty54 : E.ty 54 = some ⟨2, 48, .struct [(0, 1), (1, 1)], [.nl true 4 none, .nl true 5 none]⟩ := rfl
@[simp] theorem E_ty55 : E.ty 55 = some ⟨1, 8, .func, [.v .nilFunc]⟩ := rfl
@[simp] theorem E_ty56 : E.ty 56 = some ⟨1, 8, .func, [.v .nilFunc]⟩ := rfl
@[simp] theorem E_ty57 : E.ty 57 = some ⟨1, 8, .func, [.v .nilFunc]⟩ := rfl
@[simp] theorem E_ty58 : E.ty 58 = some ⟨1, 8, .func, [.v .nilFunc]⟩ := rfl
@[simp] theorem E_ty59 : E.ty 59 = some ⟨1, 24, .slice 91, [.nl true 3 none]⟩ := rfl
@[simp] theorem E_ty60 : E.ty 60 = some ⟨1, 8, .func, [.v .nilFunc]⟩ := rfl
@[simp] theorem E_ty61 : E.ty 61 = some ⟨1, 8, .func, [.v .nilFunc]⟩ := rfl
@[simp] theorem E_ty62 : E.ty 62 = some ⟨1, 8, .func, [.v .nilFunc]⟩ := rfl
@[simp] theorem E_ty63 : E.ty 63 = some ⟨1, 8, .func, [.v .nilFunc]⟩ := rfl
@[simp] theorem E_ty64 : E.ty 64 = some ⟨1, 24, .slice 33, [.nl true 1 none]⟩ := rfl
@[simp] theorem E_ty65 : E.ty 65 = some ⟨1, 8, .func, [.v .nilFunc]⟩ := rfl
@[simp] theorem E_ty66 : E.ty 66 = some ⟨1, 8, .func, [.v .nilFunc]⟩ := rfl
@[simp] theorem E_ty67 : E.ty 67 = some ⟨1, 8, .func, [.v .nilFunc]⟩ := rfl
@[simp] theorem E_ty68 : E.ty 68 = some ⟨1, 8, .func, [.v .nilFunc]⟩ := rfl
@[simp] theorem E_ty69 : E.ty 69 = some ⟨1, 8, .func, [.v .nilFunc]⟩ := rfl
@[simp] theorem E_ty70 : E.ty 70 = some ⟨1, 8, .func, [.v .nilFunc]⟩ := rfl
@[simp] theorem E_ty71 : E.ty 71 = some ⟨1, 8, .func, [.v .nilFunc]⟩ := rfl
@[simp] theorem E_ty72 : E.ty 72 = some ⟨1, 8, .func, [.v .nilFunc]⟩ := rfl
@[simp] theorem E_ty73 : E.ty 73 = some ⟨1, 8, .func, [.v .nilFunc]⟩ := rfl
@[simp] theorem E_ty74 : E.ty 74 = some ⟨1, 8, .func, [.v .nilFunc]⟩ := rfl
@[simp] theorem E_ty75 : E.ty 75 = some ⟨1, 8, .func, [.v .nilFunc]⟩ := rfl
@[simp] theorem E_ty76 : E.ty 76 = some ⟨1, 8, .func, [.v .nilFunc]⟩ := rfl
@[simp] theorem E_ty77 : E.ty 77 = some ⟨1, 8, .func, [.v .nilFunc]⟩ := rfl
@[simp] theorem E_ty78 : E.ty 78 = some ⟨1, 8, .func, [.v .nilFunc]⟩ := rfl
@[simp] theorem E_ty79 : E.ty 79 = some ⟨1, 8, .func, [.v .nilFunc]⟩ := rfl
@[simp] theorem E_ty80 : E.ty 80 = some ⟨1, 8, .func, [.v .nilFunc]⟩ := rfl
@[simp] theorem E_ty81 : E.ty 81 = some ⟨1, 8, .func, [.v .nilFunc]⟩ := rfl
@[simp] theorem E_ty82 : E.ty 82 = some ⟨1, 8, .func, [.v .nilFunc]⟩ := rfl
@[simp] theorem E_ty83 : E.ty 83 = some ⟨1, 8, .func, [.v .nilFunc]⟩ := rfl
@[simp] theorem E_ty84 : E.ty 84 = some ⟨1, 8, .func, [.v .nilFunc]⟩ := rfl
@[simp] theorem E_ty85 : E.ty 85 = some ⟨1, 8, .func, [.v .nilFunc]⟩ := rfl
@[simp] theorem E_ty86 : E.ty 86 = some ⟨1, 8, .func, [.v .nilFunc]⟩ := rfl
@[simp] theorem E_ty87 : E.ty 87 = some ⟨4, 56, .struct [(0, 1), (1, 1), (2, 1), (3, 1)], [.v (.int .i64 0), .v (.int .i64 0), .v (.string .empty), .nl true 1 none]⟩ := rfl
@[simp] theorem E_ty88 : E.ty 88 = some ⟨4, 56, .struct [(0, 1), (1, 1), (2, 1), (3, 1)], [.v (.int .i64 0), .v (.int .i64 0), .v (.string .empty), .nl true 1 none]⟩ := rfl
@[simp] theorem E_ty89 : E.ty 89 = some ⟨1, 8, .func, [.v .nilFunc]⟩ := rfl
@[simp] theorem E_ty90 : E.ty 90 = some ⟨3, 40, .struct [(0, 1), (1, 1), (2, 1)], [.v (.int .i64 0), .v (.int .i64 0), .nl true 1 none]⟩ := rfl
@[simp] theorem E_ty91 : E.ty 91 = some ⟨3, 40, .struct [(0, 1), (1, 1), (2, 1)], [.v (.int .i64 0), .v (.int .i64 0), .nl true 1 none]⟩ := rfl
@[simp] theorem E_ty92 : E.ty 92 = some ⟨7, 80, .struct [(0, 1), (1, 1), (2, 1), (3, 1), (4, 1), (5, 1), (6, 1)], [.v (.int .i64 0), .v (.int .i64 0), .v (.int .i64 0), .v (.int .i64 0), .v (.int .i64 0), .v (.string .empty), .nl true 1 none]⟩ := rfl
@[simp] theorem E_ty93 : E.ty 93 = some ⟨7, 80, .struct [(0, 1), (1, 1), (2, 1), (3, 1), (4, 1), (5, 1), (6, 1)], [.v (.int .i64 0), .v (.int .i64 0), .v (.int .i64 0), .v (.int .i64 0), .v (.int .i64 0), .v (.string .empty), .nl true 1 none]⟩ := rfl
@[simp] theorem E_ty94 : E.ty 94 = some ⟨1, 8, .func, [.v .nilFunc]⟩ := rfl
@[simp] theorem E_ty95 : E.ty 95 = some ⟨1, 8, .func, [.v .nilFunc]⟩ := rfl
@[simp] theorem E_ty96 : E.ty 96 = some ⟨1, 8, .func, [.v .nilFunc]⟩ := rfl
@[simp] theorem E_ty97 : E.ty 97 = some ⟨1, 8, .func, [.v .nilFunc]⟩ := rfl
@[simp] theorem E_ty98 : E.ty 98 = some ⟨1, 8, .func, [.v .nilFunc]⟩ := rfl
@[simp] theorem E_ty99 : E.ty 99 = some ⟨1, 8, .func, [.v .nilFunc]⟩ := rfl
@[simp] theorem E_ty100 : E.ty 100 = some ⟨1, 8, .func, [.v .nilFunc]⟩ := rfl
@[simp] theorem E_ty101 : E.ty 101 = some ⟨7, 80, .struct [(0, 1), (1, 1), (2, 1), (3, 1), (4, 1), (5, 1), (6, 1)], [.v (.int .i64 0), .v (.int .i64 0), .v (.int .i64 0), .v (.int .i64 0), .v (.int .i64 0), .v (.string .empty), .nl true 1 none]⟩ := rfl
@[simp] theorem E_ty102 : E.ty 102 = some ⟨1, 8, .func, [.v .nilFunc]⟩ := rfl
@[simp] theorem E_ty103 : E.ty 103 = some ⟨1, 8, .func, [.v .nilFunc]⟩ := rfl
@[simp] theorem E_ty104 : E.ty 104 = some ⟨1, 8, .func, [.v .nilFunc]⟩ := rfl
@[simp] theorem E_ty105 : E.ty 105 = some ⟨1, 8, .func, [.v .nilFunc]⟩ := rfl
@[simp] theorem E_ty106 : E.ty 106 = some ⟨1, 8, .func, [.v .nilFunc]⟩ := rfl
@[simp] theorem E_ty107 : E.ty 107 = some ⟨1, 8, .func, [.v .nilFunc]⟩ := rfl
@[simp] theorem E_ty108 : E.ty 108 = some ⟨4, 56, .struct [(0, 1), (1, 1), (2, 1), (3, 1)], [.v (.int .i64 0), .v (.int .i64 0), .v (.string .empty), .nl true 1 none]⟩ := rfl
@[simp] theorem E_ty109 : E.ty 109 = some ⟨1, 8, .func, [.v .nilFunc]⟩ := rfl
@[simp] theorem E_ty110 : E.ty 110 = some ⟨1, 24, .slice 141, [.nl true 2 none]⟩ := rfl
@[simp] theorem E_ty111 : E.ty 111 = some ⟨5, 64, .struct [(0, 1), (1, 1), (2, 1), (3, 1), (4, 1)], [.v (.string .empty), .nl true 2 none, .v (.int .i64 0), .v (.int .i64 0), .v (.int .i64 0)]⟩ := rfl
@[simp] theorem E_ty112 : E.ty 112 = some ⟨5, 64, .struct [(0, 1), (1, 1), (2, 1), (3, 1), (4, 1)], [.v (.string .empty), .nl true 2 none, .v (.int .i64 0), .v (.int .i64 0), .v (.int .i64 0)]⟩ := rfl
@[simp] theorem E_ty113 : E.ty 113 = some ⟨1, 8, .func, [.v .nilFunc]⟩ := rfl
@[simp] theorem E_ty114 : E.ty 114 = some ⟨1, 8, .func, [.v .nilFunc]⟩ := rfl
@[simp] theorem E_ty115 : E.ty 115 = some ⟨1, 24, .slice 144, [.nl true 2 none]⟩ := rfl
@[simp] theorem E_ty116 : E.ty 116 = some ⟨5, 64, .struct [(0, 1), (1, 1), (2, 1), (3, 1), (4, 1)], [.v (.string .empty), .nl true 2 none, .v (.int .i64 0), .v (.int .i64 0), .v (.int .i64 0)]⟩ := rfl
@[simp] theorem E_ty117 : E.ty 117 = some ⟨5, 64, .struct [(0, 1), (1, 1), (2, 1), (3, 1), (4, 1)], [.v (.string .empty), .nl true 2 none, .v (.int .i64 0), .v (.int .i64 0), .v (.int .i64 0)]⟩ := rfl
@[simp] theorem E_ty118 : E.ty 118 = some ⟨1, 8, .func, [.v .nilFunc]⟩ := rfl
@[simp] theorem E_ty120 : E.ty 120 = some ⟨1, 8, .func, [.v .nilFunc]⟩ := rfl
@[simp] theorem E_ty121 : E.ty 121 = some ⟨1, 8, .func, [.v .nilFunc]⟩ := rfl
@[simp] theorem E_ty122 : E.ty 122 = some ⟨1, 8, .func, [.v .nilFunc]⟩ := rfl
@[simp] theorem E_ty123 : E.ty 123 = some ⟨1, 8, .func, [.v .nilFunc]⟩ := rfl
@[simp] theorem E_ty124 : E.ty 124 = some ⟨1, 8, .func, [.v .nilFunc]⟩ := rfl
@[simp] theorem E_ty125 : E.ty 125 = some ⟨1, 8, .func, [.v .nilFunc]⟩ := rfl
@[simp] theorem E_ty126 : E.ty 126 = some ⟨1, 8, .func, [.v .nilFunc]⟩ := rfl
@[simp] theorem E_ty127 : E.ty 127 = some ⟨1, 24, .slice 5, [.nl true 1 none]⟩ := rfl
@[simp] theorem E_ty128 : E.ty 128 = some ⟨1, 8, .func, [.v .nilFunc]⟩ := rfl
@[simp] theorem E_ty129 : E.ty 129 = some ⟨1, 8, .func, [.v .nilFunc]⟩ := rfl
@[simp] theorem E_ty130 : E.ty 130 = some ⟨1, 8, .func, [.v .nilFunc]⟩ := rfl
@[simp] theorem E_ty131 : E.ty 131 = some ⟨1, 8, .func, [.v .nilFunc]⟩ := rfl
@[simp] theorem E_ty132 : E.ty 132 = some ⟨1, 8, .func, [.v .nilFunc]⟩ := rfl
@[simp] theorem E_ty133 : E.ty 133 = some ⟨1, 8, .func, [.v .nilFunc]⟩ := rfl
@[simp] theorem E_ty134 : E.ty 134 = some ⟨1, 8, .func, [.v .nilFunc]⟩ := rfl
@[simp] theorem E_ty135 : E.ty 135 = some ⟨1, 8, .func, [.v .nilFunc]⟩ := rfl
@[simp] theorem E_ty136 : E.ty 136 = some ⟨1, 24, .slice 9, [.nl true 1 none]⟩ := rfl
@[simp] theorem E_ty137 : E.ty 137 = some ⟨1, 8, .func, [.v .nilFunc]⟩ := rfl
@[simp] theorem E_ty138 : E.ty 138 = some ⟨1, 8, .func, [.v .nilFunc]⟩ := rfl
@[simp] theorem E_ty139 : E.ty 139 = some ⟨1, 8, .func, [.v .nilFunc]⟩ := rfl
@[simp] theorem E_ty140 : E.ty 140 = some ⟨2, 24, .struct [(0, 1), (1, 1)], [.v (.string .empty), .v (.int .i64 0)]⟩ := rfl
@[simp] theorem E_ty141 : E.ty 141 = some ⟨2, 24, .struct [(0, 1), (1, 1)], [.v (.string .empty), .v (.int .i64 0)]⟩ := rfl
@[simp] theorem E_ty143 : E.ty 143 = some ⟨1, 8, .func, [.v .nilFunc]⟩ := rfl
@[simp] theorem E_ty144 : E.ty 144 = some ⟨2, 24, .struct [(0, 1), (1, 1)], [.v (.string .empty), .v (.int .i64 0)]⟩ := rfl
@[simp] theorem E_ty145 : E.ty 145 = some ⟨1, 8, .func, [.v .nilFunc]⟩ := rfl
@[simp] theorem E_ty146 : E.ty 146 = some ⟨1, 8, .func, [.v .nilFunc]⟩ := rfl
@[simp] theorem E_ty148 : E.ty 148 = some ⟨1, 8, .int .u64, [.v (.int .u64 0)]⟩ := rfl
@[simp] theorem E_ty149 : E.ty 149 = some ⟨1, 8, .func, [.v .nilFunc]⟩ := rfl
@[simp] theorem E_ty150 : E.ty 150 = some ⟨1, 8, .func, [.v .nilFunc]⟩ := rfl
@[simp] theorem E_ty152 : E.ty 152 = some ⟨1, 8, .func, [.v .nilFunc]⟩ := rfl
@[simp] theorem E_ty153 : E.ty 153 = some ⟨1, 8, .func, [.v .nilFunc]⟩ := rfl
@[simp] theorem E_ty154 : E.ty 154 = some ⟨1, 8, .func, [.v .nilFunc]⟩ := rfl
@[simp] theorem E_ty156 : E.ty 156 = some ⟨1, 4, .int .u32, [.v (.int .u32 0)]⟩ := rfl
@[simp] theorem E_ty158 : E.ty 158 = some ⟨1, 8, .int .u64, [.v (.int .u64 0)]⟩ := rfl
@[simp] theorem E_ty159 : E.ty 159 = some ⟨1, 8, .func, [.v .nilFunc]⟩ := rfl
@[simp] theorem E_ty160 : E.ty 160 = some ⟨1, 8, .func, [.v .nilFunc]⟩ := rfl
@[simp] theorem E_ty161 : E.ty 161 = some ⟨1, 8, .func, [.v .nilFunc]⟩ := rfl
@[simp] theorem E_ty162 : E.ty 162 = some ⟨1, 8, .func, [.v .nilFunc]⟩ := rfl
@[simp] theorem E_ty163 : E.ty 163 = some ⟨1, 8, .func, [.v .nilFunc]⟩ := rfl
@[simp] theorem E_ty166 : E.ty 166 = some ⟨1, 8, .func, [.v .nilFunc]⟩ := rfl
@[simp] theorem E_ty168 : E.ty 168 = some ⟨1, 8, .func, [.v .nilFunc]⟩ := rfl
@[simp] theorem E_ty169 : E.ty 169 = some ⟨1, 8, .func, [.v .nilFunc]⟩ := rfl
@[simp] theorem E_ty171 : E.ty 171 = some ⟨2, 2, .struct [(0, 1), (1, 1)], [.v (.int .u8 0), .v (.int .u8 0)]⟩ := rfl
@[simp] theorem E_ty172 : E.ty 172 = some ⟨2, 2, .struct [(0, 1), (1, 1)], [.v (.int .u8 0), .v (.int .u8 0)]⟩ := rfl
@[simp] theorem E_ty175 : E.ty 175 = some ⟨1, 8, .func, [.v .nilFunc]⟩ := rfl
@[simp] theorem E_ty176 : E.ty 176 = some ⟨1, 8, .func, [.v .nilFunc]⟩ := rfl
@[simp] theorem E_ty177 : E.ty 177 = some ⟨4, 40, .struct [(0, 1), (1, 1), (2, 1), (3, 1)], [.v (.pointer none), .v (.pointer none), .v (.pointer none), .v (.string .empty)]⟩ := rfl
@[simp] theorem E_ty182 : E.ty 182 = some ⟨1, 8, .func, [.v .nilFunc]⟩ := rfl
@[simp] theorem E_ty185 : E.ty 185 = some ⟨1, 8, .func, [.v .nilFunc]⟩ := rfl
@[simp] theorem E_ty186 : E.ty 186 = some ⟨1, 8, .ptr, [.v (.pointer none)]⟩ := rfl
@[simp] theorem E_ty189 : E.ty 189 = some ⟨11, 48, .struct [(0, 1), (1, 1), (2, 1), (3, 1), (4, 1), (5, 1), (6, 1), (7, 1), (8, 1), (9, 1), (10, 1)], [.v (.int .u64 0), .v (.int .u64 0), .v (.int .u32 0), .v (.int .u8 0), .v (.int .u8 0), .v (.int .u8 0), .v (.int .u8 0), .v .nilFunc, .v (.pointer none), .v (.int .i32 0), .v (.int .i32 0)]⟩ := rfl
end Go.Proofs.T
set_option linter.unusedVariables false
set_option linter.unusedSimpArgs false
set_option maxHeartbeats 1000000
namespace Go.Proofs.T
open Go.OM
theorem res104 : Tryd.f104.results.toList = [.tmp 2] := rfl
theorem ent104 : Enters E.P 104 := enters_of Tryd.func104 (by simp [Tryd.f104]) rfl
theorem spec_l01Figure_ok (x1 : Int) {r0 : Int} (h : spec_l01Figure x1 = some r0) : Ok E 104 [.val (vi x1)] [vk .u8 r0] [] := by
  refine ok_of_body (fn := Tryd.f104) Tryd.func104 rfl (by simp [Tryd.f104]) fun C hN hP => ?_
  have hPB : ∀ l, pinK [] l = true → pinB C.pin l = true := pinB_of (by rw [hP]; rfl)
  have hN' : C.N = 12 := hN
  clear hN
  unfold spec_l01Figure at h
  refine SWp.seqR rfl (hPB _ rfl) fun K hK => ?_
  refine wps_cons rfl fun K hK => ?_; simp [hN']; refine hK _ ?_; clear hK
  refine wps_nil (hK _ ?_); clear hK
  refine SWp.seq ?_
  refine SWp.seqR rfl (hPB _ rfl) fun K hK => ?_
  refine wps_cons rfl fun K hK => ?_; simp [hN']; refine hK _ ?_; clear hK
  refine wps_cons rfl fun K hK => ?_; simp [hN']; refine hK _ ?_; clear hK
  refine wps_nil (hK _ ?_); clear hK
  rcases ite_or h with ⟨hb2, h⟩ | ⟨hb3, h⟩
  · refine SWp.condT' (b := decide (x1 < 10)) (by simp) hb2 ?_
    refine SWp.seqR rfl (hPB _ rfl) fun K hK => ?_
    refine wps_cons rfl fun K hK => ?_; simp [hN']; refine hK _ ?_; clear hK
    refine wps_cons rfl fun K hK => ?_; simp [hN']; refine hK _ ?_; clear hK
    refine wps_cons rfl fun K hK => ?_; simp [hN']; refine hK _ ?_; clear hK
    refine wps_cons rfl fun K hK => ?_; simp [hN']; refine hK _ ?_; clear hK
    refine wps_nil (hK _ ?_); clear hK
    cases h
    refine SWp.ret ?_
    simp [thenS, inBlockS, res104]
  · refine SWp.condF' (b := decide (x1 < 10)) (by simp) hb3 ?_
    refine SWp.skip ?_
    show SWp E C _ _ _
    refine SWp.seqR rfl (hPB _ rfl) fun K hK => ?_
    refine wps_cons rfl fun K hK => ?_; simp [hN']; refine hK _ ?_; clear hK
    refine wps_cons rfl fun K hK => ?_; simp [hN']; refine hK _ ?_; clear hK
    refine wps_cons rfl fun K hK => ?_; simp [hN']; refine hK _ ?_; clear hK
    refine wps_cons rfl fun K hK => ?_; simp [hN']; refine hK _ ?_; clear hK
    refine wps_cons rfl fun K hK => ?_; simp [hN']; refine hK _ ?_; clear hK
    refine wps_nil (hK _ ?_); clear hK
    cases h
    refine SWp.ret ?_
    simp [thenS, inBlockS, res104]
end Go.Proofs.T
set_option linter.unusedVariables false
set_option linter.unusedSimpArgs false
set_option maxHeartbeats 1000000
namespace Go.Proofs.T
open Go.OM
theorem res78 : Tryd.f78.results.toList = [.tmp 2] := rfl
theorem ent78 : Enters E.P 78 := enters_of Tryd.func78 (by simp [Tryd.f78]) rfl
theorem spec_Decimal_ok (n1 : Int) {r0 : ByteArray} (h : spec_Decimal n1 = some r0) : Ok E 78 [.val (vi n1)] [vs r0] [] := by
  refine ok_of_body (fn := Tryd.f78) Tryd.func78 rfl (by simp [Tryd.f78]) fun C hN hP => ?_
  have hPB : ∀ l, pinK [] l = true → pinB C.pin l = true := pinB_of (by rw [hP]; rfl)
  have hN' : C.N = 30 := hN
  clear hN
  unfold spec_Decimal at h
  refine SWp.seqR rfl (hPB _ rfl) fun K hK => ?_
  refine wps_cons rfl fun K hK => ?_; simp [hN']; refine hK _ ?_; clear hK
  refine wps_nil (hK _ ?_); clear hK
  refine SWp.seq ?_
  refine SWp.seqR rfl (hPB _ rfl) fun K hK => ?_
  refine wps_cons rfl fun K hK => ?_; simp [hN']; refine hK _ ?_; clear hK
  refine wps_cons rfl fun K hK => ?_; simp [hN']; refine hK _ ?_; clear hK
  refine wps_nil (hK _ ?_); clear hK
  rcases ite_or h with ⟨hb2, h⟩ | ⟨hb3, h⟩
  · refine SWp.condT' (b := n1 == 0) (by simp) hb2 ?_
    refine SWp.seqR rfl (hPB _ rfl) fun K hK => ?_
    refine wps_cons rfl fun K hK => ?_; simp [hN']; refine hK _ ?_; clear hK
    refine wps_nil (hK _ ?_); clear hK
    cases h
    refine SWp.ret ?_
    simp [thenS, inBlockS, res78]
  · refine SWp.condF' (b := n1 == 0) (by simp) hb3 ?_
    refine SWp.skip ?_
    show SWp E C _ _ _
    refine SWp.seqR rfl (hPB _ rfl) fun K hK => ?_
    refine wps_cons rfl fun K hK => ?_; simp [hN']; refine hK _ ?_; clear hK
    refine wps_cons rfl fun K hK => ?_; simp [hN']; refine hK _ ?_; clear hK
    refine wps_cons rfl fun K hK => ?_; simp [hN']; refine hK _ ?_; clear hK
    refine wps_nil (hK _ ?_); clear hK
    refine SWp.seqR rfl (hPB _ rfl) fun K hK => ?_
    refine wps_cons rfl fun K hK => ?_; simp [hN']; refine hK _ ?_; clear hK
    refine wps_nil (hK _ ?_); clear hK
    obtain ⟨s24, hj4, h⟩ := bind_some h
    refine SWp.seqC [3, 4] [] (fun _ : Unit => ⟨[(3, .t (vb (decide (n1 < 0)))), (4, .t (vs s24))], []⟩) (fun _ => True) (fun _ _ => ?_) fun K5 hK5 => ?_
    rotate_left
    · refine SWp.block ?_
      refine SWp.loopO [] [0, 3, 4] [] (fun v : Int × ByteArray => ⟨[(0, .t (vi v.1)), (3, .t (vb (decide (n1 < 0)))), (4, .t (vs v.2))], []⟩) (spec_Decimal_l1) _ (n1, (⟨#[]⟩ : ByteArray)) hj4 (by simp [hN']) ?_
      intro g s11 h9 ho10
      obtain ⟨n7, s8⟩ := g
      simp only [spec_Decimal_l1] at h9
      try dsimp only
      refine SWp.seq ?_
      refine SWp.seqR rfl (hPB _ rfl) fun K hK => ?_
      refine wps_cons rfl fun K hK => ?_; simp [hN']; refine hK _ ?_; clear hK
      refine wps_cons rfl fun K hK => ?_; simp [hN']; refine hK _ ?_; clear hK
      refine wps_nil (hK _ ?_); clear hK
      rcases ite_or h9 with ⟨hb12, h9⟩ | ⟨hb13, h9⟩
      · refine SWp.condT' (b := n7 != 0) (by simp) hb12 ?_
        refine SWp.skip ?_
        show SWp E C _ _ _
        refine SWp.block ?_
        refine SWp.seqR rfl (hPB _ rfl) fun K hK => ?_
        refine wps_cons rfl fun K hK => ?_; simp [hN']; refine hK _ ?_; clear hK
        refine wps_cons rfl fun K hK => ?_; simp [hN']; refine hK _ ?_; clear hK
        refine wps_cons rfl fun K hK => ?_; simp [hN']; refine hK _ ?_; clear hK
        refine wps_nil (hK _ ?_); clear hK
        obtain ⟨d19, hj14, h9⟩ := bind_some h9
        refine SWp.seqC [0, 3, 4, 5] [] (fun _ : Unit => ⟨[(0, .t (vi n7)), (3, .t (vb (decide (n1 < 0)))), (4, .t (vs s8)), (5, .t (vi d19))], []⟩) (fun _ => True) (fun _ _ => ?_) fun K15 hK15 => ?_
        rotate_left
        · refine SWp.seqR rfl (hPB _ rfl) fun K hK => ?_
          refine wps_cons rfl fun K hK => ?_; simp [hN']; refine hK _ ?_; clear hK
          refine wps_cons rfl fun K hK => ?_; simp [hN']; refine hK _ ?_; clear hK
          refine wps_nil (hK _ ?_); clear hK
          rcases ite_or hj14 with ⟨hb17, hj14⟩ | ⟨hb18, hj14⟩
          · refine SWp.condT' (b := decide (Int.tmod n7 10 < 0)) (by simp) hb17 ?_
            refine SWp.reg rfl (hPB _ rfl) fun K hK => ?_
            refine wps_cons rfl fun K hK => ?_; simp [hN']; refine hK _ ?_; clear hK
            refine wps_cons rfl fun K hK => ?_; simp [hN']; refine hK _ ?_; clear hK
            refine wps_cons rfl fun K hK => ?_; simp [hN']; refine hK _ ?_; clear hK
            refine wps_nil (hK _ ?_); clear hK
            cases hj14
            exact hK15 _ () [] trivial (by simp [hN'])
          · refine SWp.condF' (b := decide (Int.tmod n7 10 < 0)) (by simp) hb18 ?_
            refine SWp.skip ?_
            cases hj14
            exact hK15 _ () [] trivial (by simp [hN'])
        refine SWp.seqR rfl (hPB _ rfl) fun K hK => ?_
        refine wps_cons rfl fun K hK => ?_; simp [hN']; refine hK _ ?_; clear hK
        obtain ⟨r20, hc21, h9⟩ := bind_some h9
        refine wps_call [(.take, .tmp 18)] rfl rfl ent104 (spec_l01Figure_ok _ hc21) fun K hK => ?_; simp [hN']; refine hK _ ?_; clear hK
        refine wps_cons rfl fun K hK => ?_; simp [hN']; refine hK _ ?_; clear hK
        refine wps_cons rfl fun K hK => ?_; simp [hN']; refine hK _ ?_; clear hK
        refine wps_cons rfl fun K hK => ?_; simp [hN']; refine hK _ ?_; clear hK
        obtain ⟨t22, ht22, h9⟩ := bind_some h9
        obtain ⟨ht22a, ht22b⟩ := sCat_some ht22
        refine wps_cons rfl fun K hK => ?_; simp [hN', ht22a, ht22b]; refine hK _ ?_; clear hK
        refine wps_cons rfl fun K hK => ?_; simp [hN', ht22a, ht22b]; refine hK _ ?_; clear hK
        refine wps_nil (hK _ ?_); clear hK
        refine SWp.reg rfl (hPB _ rfl) fun K hK => ?_
        refine wps_cons rfl fun K hK => ?_; simp [hN']; refine hK _ ?_; clear hK
        refine wps_cons rfl fun K hK => ?_; simp [hN']; refine hK _ ?_; clear hK
        refine wps_cons rfl fun K hK => ?_; simp [hN']; refine hK _ ?_; clear hK
        refine wps_nil (hK _ ?_); clear hK
        cases h9
        exact ⟨_, [], rfl, by simp [hN']⟩
      · refine SWp.condF' (b := n7 != 0) (by simp) hb13 ?_
        refine SWp.exit ?_
        have h23 := congrArg some (ho10 _ (Option.some.inj h9).symm)
        cases h23
        exact hK5 _ () [] trivial (by simp [hN'])
    refine SWp.seq ?_
    refine SWp.seqR rfl (hPB _ rfl) fun K hK => ?_
    refine wps_cons rfl fun K hK => ?_; simp [hN']; refine hK _ ?_; clear hK
    refine wps_nil (hK _ ?_); clear hK
    rcases ite_or h with ⟨hb25, h⟩ | ⟨hb26, h⟩
    · refine SWp.condT' (b := decide (n1 < 0)) (by simp) hb25 ?_
      refine SWp.seqR rfl (hPB _ rfl) fun K hK => ?_
      refine wps_cons rfl fun K hK => ?_; simp [hN']; refine hK _ ?_; clear hK
      obtain ⟨t27, ht27, h⟩ := bind_some h
      obtain ⟨ht27a, ht27b⟩ := sCat_some ht27
      refine wps_cons rfl fun K hK => ?_; simp [hN', ht27a, ht27b]; refine hK _ ?_; clear hK
      refine wps_cons rfl fun K hK => ?_; simp [hN', ht27a, ht27b]; refine hK _ ?_; clear hK
      refine wps_nil (hK _ ?_); clear hK
      cases h
      refine SWp.ret ?_
      simp [thenS, inBlockS, res78]
    · refine SWp.condF' (b := decide (n1 < 0)) (by simp) hb26 ?_
      refine SWp.skip ?_
      show SWp E C _ _ _
      refine SWp.seqR rfl (hPB _ rfl) fun K hK => ?_
      refine wps_cons rfl fun K hK => ?_; simp [hN']; refine hK _ ?_; clear hK
      refine wps_cons rfl fun K hK => ?_; simp [hN']; refine hK _ ?_; clear hK
      refine wps_nil (hK _ ?_); clear hK
      cases h
      refine SWp.ret ?_
      simp [thenS, inBlockS, res78]
end Go.Proofs.T
set_option linter.unusedVariables false
set_option linter.unusedSimpArgs false
set_option maxHeartbeats 1000000
namespace Go.Proofs.T
open Go.OM
theorem res41 : Tryd.f41.results.toList = [.tmp 2] := rfl
theorem ent41 : Enters E.P 41 := enters_of Tryd.func41 (by simp [Tryd.f41]) rfl
theorem spec_l25Num_ok (n1 : Int) {r0 : ByteArray} (h : spec_l25Num n1 = some r0) : Ok E 41 [.val (vi n1)] [vs r0] [] := by
  refine ok_of_body (fn := Tryd.f41) Tryd.func41 rfl (by simp [Tryd.f41]) fun C hN hP => ?_
  have hPB : ∀ l, pinK [] l = true → pinB C.pin l = true := pinB_of (by rw [hP]; rfl)
  have hN' : C.N = 7 := hN
  clear hN
  unfold spec_l25Num at h
  refine SWp.seqR rfl (hPB _ rfl) fun K hK => ?_
  refine wps_cons rfl fun K hK => ?_; simp [hN']; refine hK _ ?_; clear hK
  refine wps_nil (hK _ ?_); clear hK
  refine SWp.seq ?_
  refine SWp.seqR rfl (hPB _ rfl) fun K hK => ?_
  refine wps_cons rfl fun K hK => ?_; simp [hN']; refine hK _ ?_; clear hK
  refine wps_cons rfl fun K hK => ?_; simp [hN']; refine hK _ ?_; clear hK
  refine wps_nil (hK _ ?_); clear hK
  rcases ite_or h with ⟨hb2, h⟩ | ⟨hb3, h⟩
  · refine SWp.condT' (b := decide (n1 < 0)) (by simp) hb2 ?_
    refine SWp.seqR rfl (hPB _ rfl) fun K hK => ?_
    refine wps_cons rfl fun K hK => ?_; simp [hN']; refine hK _ ?_; clear hK
    refine wps_nil (hK _ ?_); clear hK
    cases h
    refine SWp.ret ?_
    simp [thenS, inBlockS, res41]
  · refine SWp.condF' (b := decide (n1 < 0)) (by simp) hb3 ?_
    refine SWp.skip ?_
    show SWp E C _ _ _
    refine SWp.seqR rfl (hPB _ rfl) fun K hK => ?_
    refine wps_cons rfl fun K hK => ?_; simp [hN']; refine hK _ ?_; clear hK
    obtain ⟨r4, hc5, h⟩ := bind_some h
    refine wps_call [(.take, .tmp 5)] rfl rfl ent78 (spec_Decimal_ok _ hc5) fun K hK => ?_; simp [hN']; refine hK _ ?_; clear hK
    refine wps_cons rfl fun K hK => ?_; simp [hN']; refine hK _ ?_; clear hK
    refine wps_nil (hK _ ?_); clear hK
    cases h
    refine SWp.ret ?_
    simp [thenS, inBlockS, res41]
end Go.Proofs.T
set_option linter.unusedVariables false
set_option linter.unusedSimpArgs false
set_option maxHeartbeats 1000000
namespace Go.Proofs.T
open Go.OM
theorem res10 : Tryd.f10.results.toList = [.tmp 2] := rfl
theorem ent10 : Enters E.P 10 := enters_of Tryd.func10 (by simp [Tryd.f10]) rfl
theorem spec_ShowMeasure_ok (m1 : GMeasure) {r0 : ByteArray} (h : spec_ShowMeasure m1 = some r0) : Ok E 10 [.val (GMeasure.enc m1)] [vs r0] [] := by
  refine ok_of_body (fn := Tryd.f10) Tryd.func10 rfl (by simp [Tryd.f10]) fun C hN hP => ?_
  have hPB : ∀ l, pinK [] l = true → pinB C.pin l = true := pinB_of (by rw [hP]; rfl)
  have hN' : C.N = 50 := hN
  clear hN
  unfold spec_ShowMeasure at h
  refine SWp.seqR rfl (hPB _ rfl) fun K hK => ?_
  refine wps_cons rfl fun K hK => ?_; simp [hN']; refine hK _ ?_; clear hK
  refine wps_cons rfl fun K hK => ?_; simp [hN']; refine hK _ ?_; clear hK
  refine wps_nil (hK _ ?_); clear hK
  refine SWp.seq ?_
  obtain ⟨r3, hc4, h⟩ := bind_some h
  obtain ⟨t5, ht5, h⟩ := bind_some h
  obtain ⟨ht5a, ht5b⟩ := sCat_some ht5
  obtain ⟨t6, ht6, h⟩ := bind_some h
  obtain ⟨ht6a, ht6b⟩ := sCat_some ht6
  obtain ⟨r7, hc8, h⟩ := bind_some h
  obtain ⟨t9, ht9, h⟩ := bind_some h
  obtain ⟨ht9a, ht9b⟩ := sCat_some ht9
  obtain ⟨t10, ht10, h⟩ := bind_some h
  obtain ⟨ht10a, ht10b⟩ := sCat_some ht10
  obtain ⟨r11, hc12, h⟩ := bind_some h
  obtain ⟨t13, ht13, h⟩ := bind_some h
  obtain ⟨ht13a, ht13b⟩ := sCat_some ht13
  obtain ⟨t14, ht14, h⟩ := bind_some h
  obtain ⟨ht14a, ht14b⟩ := sCat_some ht14
  obtain ⟨r15, hc16, h⟩ := bind_some h
  obtain ⟨t17, ht17, h⟩ := bind_some h
  obtain ⟨ht17a, ht17b⟩ := sCat_some ht17
  refine SWp.drawA rfl (hPB _ rfl) [(4, .ref (.box 1) 0 []), (5, .t (vi m1.Fns)), (6, .t (vs r3)), (7, .t (vs t5)), (8, .t (vs t6)), (9, .ref (.box 1) 1 []), (10, .t (vi m1.Nodes)), (11, .t (vs r7)), (12, .t (vs t9)), (13, .t (vs t10)), (14, .ref (.box 1) 2 []), (15, .t (vi m1.Steps)), (16, .t (vs r11)), (17, .t (vs t13)), (18, .t (vs t14)), (19, .ref (.box 1) 3 []), (20, .t (vi m1.Values)), (21, .t (vs r15)), (22, .t (vs t17))] [[], [0], [0, 1], [0, 1, 2], [0, 1, 2, 3], [], [5], [0, 1, 2, 5, 6], [0, 1, 2, 3, 4, 5, 6, 7], [0, 1, 2, 3, 4, 5, 6, 7, 8], [], [10], [0, 1, 2, 5, 6, 7, 10, 11], [0, 1, 2, 3, 4, 5, 6, 7, 8, 9, 10, 11, 12], [0, 1, 2, 3, 4, 5, 6, 7, 8, 9, 10, 11, 12, 13], [], [15], [0, 1, 2, 5, 6, 7, 10, 11, 12, 15, 16], [0, 1, 2, 3, 4, 5, 6, 7, 8, 9, 10, 11, 12, 13, 14, 15, 16, 17]] (by simp) (by simp) (by simp [look]) rfl rfl rfl ?_ fun K hK => ?_
  · refine ⟨?_, ?_, ?_, ?_, ?_, ?_, ?_, ?_, ?_, ?_, ?_, ?_, ?_, ?_, ?_, ?_, ?_, ?_, ?_, trivial⟩
    all_goals (intro τ hbx hb hd hf K hK; try simp [vsAt] at hd; simp [vsAt] at hf; first | (refine wps_cons rfl fun K' hK' => ?_; simp [hN', hbx, hb, hd, hf, ht5a, ht5b, ht6a, ht6b, ht9a, ht9b, ht10a, ht10b, ht13a, ht13b, ht14a, ht14b, ht17a, ht17b]; exact hK' _ (wps_nil (hK _ (by simp [vsAt, hbx, ht5a, ht5b, ht6a, ht6b, ht9a, ht9b, ht10a, ht10b, ht13a, ht13b, ht14a, ht14b, ht17a, ht17b])))) | (refine wps_call [(.take, .tmp 5)] rfl rfl ent41 (spec_l25Num_ok _ hc4) fun K' hK' => ?_; simp [hN', hbx, hb, hd, hf, ht5a, ht5b, ht6a, ht6b, ht9a, ht9b, ht10a, ht10b, ht13a, ht13b, ht14a, ht14b, ht17a, ht17b]; exact hK' _ (wps_nil (hK _ (by simp [vsAt, hbx, ht5a, ht5b, ht6a, ht6b, ht9a, ht9b, ht10a, ht10b, ht13a, ht13b, ht14a, ht14b, ht17a, ht17b])))) | (refine wps_call [(.take, .tmp 10)] rfl rfl ent41 (spec_l25Num_ok _ hc8) fun K' hK' => ?_; simp [hN', hbx, hb, hd, hf, ht5a, ht5b, ht6a, ht6b, ht9a, ht9b, ht10a, ht10b, ht13a, ht13b, ht14a, ht14b, ht17a, ht17b]; exact hK' _ (wps_nil (hK _ (by simp [vsAt, hbx, ht5a, ht5b, ht6a, ht6b, ht9a, ht9b, ht10a, ht10b, ht13a, ht13b, ht14a, ht14b, ht17a, ht17b])))) | (refine wps_call [(.take, .tmp 15)] rfl rfl ent41 (spec_l25Num_ok _ hc12) fun K' hK' => ?_; simp [hN', hbx, hb, hd, hf, ht5a, ht5b, ht6a, ht6b, ht9a, ht9b, ht10a, ht10b, ht13a, ht13b, ht14a, ht14b, ht17a, ht17b]; exact hK' _ (wps_nil (hK _ (by simp [vsAt, hbx, ht5a, ht5b, ht6a, ht6b, ht9a, ht9b, ht10a, ht10b, ht13a, ht13b, ht14a, ht14b, ht17a, ht17b])))) | (refine wps_call [(.take, .tmp 20)] rfl rfl ent41 (spec_l25Num_ok _ hc16) fun K' hK' => ?_; simp [hN', hbx, hb, hd, hf, ht5a, ht5b, ht6a, ht6b, ht9a, ht9b, ht10a, ht10b, ht13a, ht13b, ht14a, ht14b, ht17a, ht17b]; exact hK' _ (wps_nil (hK _ (by simp [vsAt, hbx, ht5a, ht5b, ht6a, ht6b, ht9a, ht9b, ht10a, ht10b, ht13a, ht13b, ht14a, ht14b, ht17a, ht17b])))))
  refine wps_cons rfl fun K hK => ?_; simp [hN', ht5a, ht5b, ht6a, ht6b, ht9a, ht9b, ht10a, ht10b, ht13a, ht13b, ht14a, ht14b, ht17a, ht17b]; refine hK _ ?_; clear hK
  refine wps_nil (hK _ ?_); clear hK
  show SWp E C _ _ _
  refine SWp.seq ?_
  obtain ⟨t19, ht19, h⟩ := bind_some h
  obtain ⟨ht19a, ht19b⟩ := sCat_some ht19
  obtain ⟨r20, hc21, h⟩ := bind_some h
  obtain ⟨t22, ht22, h⟩ := bind_some h
  obtain ⟨ht22a, ht22b⟩ := sCat_some ht22
  obtain ⟨t23, ht23, h⟩ := bind_some h
  obtain ⟨ht23a, ht23b⟩ := sCat_some ht23
  obtain ⟨r24, hc25, h⟩ := bind_some h
  obtain ⟨t26, ht26, h⟩ := bind_some h
  obtain ⟨ht26a, ht26b⟩ := sCat_some ht26
  obtain ⟨t27, ht27, h⟩ := bind_some h
  obtain ⟨ht27a, ht27b⟩ := sCat_some ht27
  obtain ⟨r28, hc29, h⟩ := bind_some h
  obtain ⟨t30, ht30, h⟩ := bind_some h
  obtain ⟨ht30a, ht30b⟩ := sCat_some ht30
  obtain ⟨t31, ht31, h⟩ := bind_some h
  obtain ⟨ht31a, ht31b⟩ := sCat_some ht31
  obtain ⟨r32, hc33, h⟩ := bind_some h
  obtain ⟨t34, ht34, h⟩ := bind_some h
  obtain ⟨ht34a, ht34b⟩ := sCat_some ht34
  obtain ⟨t35, ht35, h⟩ := bind_some h
  obtain ⟨ht35a, ht35b⟩ := sCat_some ht35
  obtain ⟨r36, hc37, h⟩ := bind_some h
  obtain ⟨t38, ht38, h⟩ := bind_some h
  obtain ⟨ht38a, ht38b⟩ := sCat_some ht38
  obtain ⟨t39, ht39, h⟩ := bind_some h
  obtain ⟨ht39a, ht39b⟩ := sCat_some ht39
  refine SWp.drawA rfl (hPB _ rfl) [(23, .t (vs t17)), (24, .t (vs t19)), (25, .ref (.box 1) 4 []), (26, .t (vi m1.Blocks)), (27, .t (vs r20)), (28, .t (vs t22)), (29, .t (vs t23)), (30, .ref (.box 1) 5 []), (31, .t (vi m1.Lets)), (32, .t (vs r24)), (33, .t (vs t26)), (34, .t (vs t27)), (35, .ref (.box 1) 6 []), (36, .t (vi m1.News)), (37, .t (vs r28)), (38, .t (vs t30)), (39, .t (vs t31)), (40, .ref (.box 1) 7 []), (41, .t (vi m1.Lends)), (42, .t (vs r32)), (43, .t (vs t34)), (44, .t (vs t35)), (45, .ref (.box 1) 8 []), (46, .t (vi m1.Deep)), (47, .t (vs r36)), (48, .t (vs t38)), (49, .t (vs t39))] [[], [0], [], [2], [2, 3], [0, 1, 2, 3, 4], [0, 1, 2, 3, 4, 5], [], [7], [2, 3, 4, 7, 8], [0, 1, 2, 3, 4, 5, 6, 7, 8, 9], [0, 1, 2, 3, 4, 5, 6, 7, 8, 9, 10], [], [12], [2, 3, 4, 7, 8, 9, 12, 13], [0, 1, 2, 3, 4, 5, 6, 7, 8, 9, 10, 11, 12, 13, 14], [0, 1, 2, 3, 4, 5, 6, 7, 8, 9, 10, 11, 12, 13, 14, 15], [], [17], [2, 3, 4, 7, 8, 9, 12, 13, 14, 17, 18], [0, 1, 2, 3, 4, 5, 6, 7, 8, 9, 10, 11, 12, 13, 14, 15, 16, 17, 18, 19], [0, 1, 2, 3, 4, 5, 6, 7, 8, 9, 10, 11, 12, 13, 14, 15, 16, 17, 18, 19, 20], [], [22], [2, 3, 4, 7, 8, 9, 12, 13, 14, 17, 18, 19, 22, 23], [0, 1, 2, 3, 4, 5, 6, 7, 8, 9, 10, 11, 12, 13, 14, 15, 16, 17, 18, 19, 20, 21, 22, 23, 24], [0, 1, 2, 3, 4, 5, 6, 7, 8, 9, 10, 11, 12, 13, 14, 15, 16, 17, 18, 19, 20, 21, 22, 23, 24, 25]] (by simp) (by simp) (by simp [look]) rfl rfl rfl ?_ fun K hK => ?_
  · refine ⟨?_, ?_, ?_, ?_, ?_, ?_, ?_, ?_, ?_, ?_, ?_, ?_, ?_, ?_, ?_, ?_, ?_, ?_, ?_, ?_, ?_, ?_, ?_, ?_, ?_, ?_, ?_, trivial⟩
    all_goals (intro τ hbx hb hd hf K hK; try simp [vsAt] at hd; simp [vsAt] at hf; first | (refine wps_cons rfl fun K' hK' => ?_; simp [hN', hbx, hb, hd, hf, ht19a, ht19b, ht22a, ht22b, ht23a, ht23b, ht26a, ht26b, ht27a, ht27b, ht30a, ht30b, ht31a, ht31b, ht34a, ht34b, ht35a, ht35b, ht38a, ht38b, ht39a, ht39b]; exact hK' _ (wps_nil (hK _ (by simp [vsAt, hbx, ht19a, ht19b, ht22a, ht22b, ht23a, ht23b, ht26a, ht26b, ht27a, ht27b, ht30a, ht30b, ht31a, ht31b, ht34a, ht34b, ht35a, ht35b, ht38a, ht38b, ht39a, ht39b])))) | (refine wps_call [(.take, .tmp 26)] rfl rfl ent41 (spec_l25Num_ok _ hc21) fun K' hK' => ?_; simp [hN', hbx, hb, hd, hf, ht19a, ht19b, ht22a, ht22b, ht23a, ht23b, ht26a, ht26b, ht27a, ht27b, ht30a, ht30b, ht31a, ht31b, ht34a, ht34b, ht35a, ht35b, ht38a, ht38b, ht39a, ht39b]; exact hK' _ (wps_nil (hK _ (by simp [vsAt, hbx, ht19a, ht19b, ht22a, ht22b, ht23a, ht23b, ht26a, ht26b, ht27a, ht27b, ht30a, ht30b, ht31a, ht31b, ht34a, ht34b, ht35a, ht35b, ht38a, ht38b, ht39a, ht39b])))) | (refine wps_call [(.take, .tmp 31)] rfl rfl ent41 (spec_l25Num_ok _ hc25) fun K' hK' => ?_; simp [hN', hbx, hb, hd, hf, ht19a, ht19b, ht22a, ht22b, ht23a, ht23b, ht26a, ht26b, ht27a, ht27b, ht30a, ht30b, ht31a, ht31b, ht34a, ht34b, ht35a, ht35b, ht38a, ht38b, ht39a, ht39b]; exact hK' _ (wps_nil (hK _ (by simp [vsAt, hbx, ht19a, ht19b, ht22a, ht22b, ht23a, ht23b, ht26a, ht26b, ht27a, ht27b, ht30a, ht30b, ht31a, ht31b, ht34a, ht34b, ht35a, ht35b, ht38a, ht38b, ht39a, ht39b])))) | (refine wps_call [(.take, .tmp 36)] rfl rfl ent41 (spec_l25Num_ok _ hc29) fun K' hK' => ?_; simp [hN', hbx, hb, hd, hf, ht19a, ht19b, ht22a, ht22b, ht23a, ht23b, ht26a, ht26b, ht27a, ht27b, ht30a, ht30b, ht31a, ht31b, ht34a, ht34b, ht35a, ht35b, ht38a, ht38b, ht39a, ht39b]; exact hK' _ (wps_nil (hK _ (by simp [vsAt, hbx, ht19a, ht19b, ht22a, ht22b, ht23a, ht23b, ht26a, ht26b, ht27a, ht27b, ht30a, ht30b, ht31a, ht31b, ht34a, ht34b, ht35a, ht35b, ht38a, ht38b, ht39a, ht39b])))) | (refine wps_call [(.take, .tmp 41)] rfl rfl ent41 (spec_l25Num_ok _ hc33) fun K' hK' => ?_; simp [hN', hbx, hb, hd, hf, ht19a, ht19b, ht22a, ht22b, ht23a, ht23b, ht26a, ht26b, ht27a, ht27b, ht30a, ht30b, ht31a, ht31b, ht34a, ht34b, ht35a, ht35b, ht38a, ht38b, ht39a, ht39b]; exact hK' _ (wps_nil (hK _ (by simp [vsAt, hbx, ht19a, ht19b, ht22a, ht22b, ht23a, ht23b, ht26a, ht26b, ht27a, ht27b, ht30a, ht30b, ht31a, ht31b, ht34a, ht34b, ht35a, ht35b, ht38a, ht38b, ht39a, ht39b])))) | (refine wps_call [(.take, .tmp 46)] rfl rfl ent41 (spec_l25Num_ok _ hc37) fun K' hK' => ?_; simp [hN', hbx, hb, hd, hf, ht19a, ht19b, ht22a, ht22b, ht23a, ht23b, ht26a, ht26b, ht27a, ht27b, ht30a, ht30b, ht31a, ht31b, ht34a, ht34b, ht35a, ht35b, ht38a, ht38b, ht39a, ht39b]; exact hK' _ (wps_nil (hK _ (by simp [vsAt, hbx, ht19a, ht19b, ht22a, ht22b, ht23a, ht23b, ht26a, ht26b, ht27a, ht27b, ht30a, ht30b, ht31a, ht31b, ht34a, ht34b, ht35a, ht35b, ht38a, ht38b, ht39a, ht39b])))))
  refine wps_cons rfl fun K hK => ?_; simp [hN', ht19a, ht19b, ht22a, ht22b, ht23a, ht23b, ht26a, ht26b, ht27a, ht27b, ht30a, ht30b, ht31a, ht31b, ht34a, ht34b, ht35a, ht35b, ht38a, ht38b, ht39a, ht39b]; refine hK _ ?_; clear hK
  refine wps_nil (hK _ ?_); clear hK
  show SWp E C _ _ _
  cases h
  refine SWp.ret ?_
  simp [thenS, inBlockS, res10]
end Go.Proofs.T
set_option linter.unusedVariables false
set_option linter.unusedSimpArgs false
set_option maxHeartbeats 1000000
namespace Go.Proofs.T
open Go.OM
theorem res11 : Tryd.f11.results.toList = [.cell 2 25] := rfl
theorem ent11 : Enters E.P 11 := enters_of Tryd.func11 (by simp [Tryd.f11]) rfl
theorem laws_toMeasure_ok (a1 : GMeasure) {r0 : GMeasure} (h : laws_toMeasure a1 = some r0) : Ok E 11 [.val (GMeasure.enc a1)] [GMeasure.enc r0] [] := by
  refine ok_of_body (fn := Tryd.f11) Tryd.func11 rfl (by simp [Tryd.f11]) fun C hN hP => ?_
  have hPB : ∀ l, pinK [] l = true → pinB C.pin l = true := pinB_of (by rw [hP]; rfl)
  have hN' : C.N = 32 := hN
  clear hN
  unfold laws_toMeasure at h
  refine SWp.seqR rfl (hPB _ rfl) fun K hK => ?_
  refine wps_cons rfl fun K hK => ?_; simp [hN']; refine hK _ ?_; clear hK
  refine wps_cons rfl fun K hK => ?_; simp [hN']; refine hK _ ?_; clear hK
  refine wps_nil (hK _ ?_); clear hK
  refine SWp.seqR rfl (hPB _ rfl) fun K hK => ?_
  refine wps_cons rfl fun K hK => ?_; simp [hN']; refine hK _ ?_; clear hK
  refine wps_nil (hK _ ?_); clear hK
  refine SWp.seqR rfl (hPB _ rfl) fun K hK => ?_
  refine wps_cons rfl fun K hK => ?_; simp [hN']; refine hK _ ?_; clear hK
  refine wps_cons rfl fun K hK => ?_; simp [hN']; refine hK _ ?_; clear hK
  refine wps_cons rfl fun K hK => ?_; simp [hN']; refine hK _ ?_; clear hK
  refine wps_cons rfl fun K hK => ?_; simp [hN']; refine hK _ ?_; clear hK
  refine wps_nil (hK _ ?_); clear hK
  refine SWp.seqR rfl (hPB _ rfl) fun K hK => ?_
  refine wps_cons rfl fun K hK => ?_; simp [hN']; refine hK _ ?_; clear hK
  refine wps_cons rfl fun K hK => ?_; simp [hN']; refine hK _ ?_; clear hK
  refine wps_cons rfl fun K hK => ?_; simp [hN']; refine hK _ ?_; clear hK
  refine wps_cons rfl fun K hK => ?_; simp [hN']; refine hK _ ?_; clear hK
  refine wps_nil (hK _ ?_); clear hK
  refine SWp.seqR rfl (hPB _ rfl) fun K hK => ?_
  refine wps_cons rfl fun K hK => ?_; simp [hN']; refine hK _ ?_; clear hK
  refine wps_cons rfl fun K hK => ?_; simp [hN']; refine hK _ ?_; clear hK
  refine wps_cons rfl fun K hK => ?_; simp [hN']; refine hK _ ?_; clear hK
  refine wps_cons rfl fun K hK => ?_; simp [hN']; refine hK _ ?_; clear hK
  refine wps_nil (hK _ ?_); clear hK
  refine SWp.seqR rfl (hPB _ rfl) fun K hK => ?_
  refine wps_cons rfl fun K hK => ?_; simp [hN']; refine hK _ ?_; clear hK
  refine wps_cons rfl fun K hK => ?_; simp [hN']; refine hK _ ?_; clear hK
  refine wps_cons rfl fun K hK => ?_; simp [hN']; refine hK _ ?_; clear hK
  refine wps_cons rfl fun K hK => ?_; simp [hN']; refine hK _ ?_; clear hK
  refine wps_nil (hK _ ?_); clear hK
  refine SWp.seqR rfl (hPB _ rfl) fun K hK => ?_
  refine wps_cons rfl fun K hK => ?_; simp [hN']; refine hK _ ?_; clear hK
  refine wps_cons rfl fun K hK => ?_; simp [hN']; refine hK _ ?_; clear hK
  refine wps_cons rfl fun K hK => ?_; simp [hN']; refine hK _ ?_; clear hK
  refine wps_cons rfl fun K hK => ?_; simp [hN']; refine hK _ ?_; clear hK
  refine wps_nil (hK _ ?_); clear hK
  refine SWp.seqR rfl (hPB _ rfl) fun K hK => ?_
  refine wps_cons rfl fun K hK => ?_; simp [hN']; refine hK _ ?_; clear hK
  refine wps_cons rfl fun K hK => ?_; simp [hN']; refine hK _ ?_; clear hK
  refine wps_cons rfl fun K hK => ?_; simp [hN']; refine hK _ ?_; clear hK
  refine wps_cons rfl fun K hK => ?_; simp [hN']; refine hK _ ?_; clear hK
  refine wps_nil (hK _ ?_); clear hK
  refine SWp.seqR rfl (hPB _ rfl) fun K hK => ?_
  refine wps_cons rfl fun K hK => ?_; simp [hN']; refine hK _ ?_; clear hK
  refine wps_cons rfl fun K hK => ?_; simp [hN']; refine hK _ ?_; clear hK
  refine wps_cons rfl fun K hK => ?_; simp [hN']; refine hK _ ?_; clear hK
  refine wps_cons rfl fun K hK => ?_; simp [hN']; refine hK _ ?_; clear hK
  refine wps_nil (hK _ ?_); clear hK
  refine SWp.seqR rfl (hPB _ rfl) fun K hK => ?_
  refine wps_cons rfl fun K hK => ?_; simp [hN']; refine hK _ ?_; clear hK
  refine wps_cons rfl fun K hK => ?_; simp [hN']; refine hK _ ?_; clear hK
  refine wps_cons rfl fun K hK => ?_; simp [hN']; refine hK _ ?_; clear hK
  refine wps_cons rfl fun K hK => ?_; simp [hN']; refine hK _ ?_; clear hK
  refine wps_nil (hK _ ?_); clear hK
  refine SWp.seqR rfl (hPB _ rfl) fun K hK => ?_
  refine wps_cons rfl fun K hK => ?_; simp [hN']; refine hK _ ?_; clear hK
  refine wps_cons rfl fun K hK => ?_; simp [hN']; refine hK _ ?_; clear hK
  refine wps_cons rfl fun K hK => ?_; simp [hN']; refine hK _ ?_; clear hK
  refine wps_cons rfl fun K hK => ?_; simp [hN']; refine hK _ ?_; clear hK
  refine wps_nil (hK _ ?_); clear hK
  refine SWp.seqR rfl (hPB _ rfl) fun K hK => ?_
  refine wps_cons rfl fun K hK => ?_; simp [hN']; refine hK _ ?_; clear hK
  refine wps_cons rfl fun K hK => ?_; simp [hN']; refine hK _ ?_; clear hK
  refine wps_nil (hK _ ?_); clear hK
  cases h
  refine SWp.ret ?_
  simp [thenS, inBlockS, res11]
end Go.Proofs.T
/-
  DERIVED: THE SHELF's CONTRACTS AT THIS DUMP, IN PLAIN WORDS (tools/lay-plain.mjs out of 'TrydShelf.lean', which tools/lay-shelf.mjs wrote): THE SAME DECLARATIONS UNDER THE SAME NAMES: 'import', 'namespace', 'open', 'def', 'theorem' AND NOTHING ELSE: no command of the shelf's: FOR A HAND-IN. Each laying: the table of numbers ('.._ren') and one theorem, a field a fact of the dump's own or the kernel's comparison; each contract: ONE APPLICATION.
-/
namespace Go.Proofs
open Go.Shelf
def Tryd.lays195_ren : Go.Shelf.Ren := ⟨fun | 195 => 156 | n => n, fun | 9 => 9 | 3 => 3 | 0 => 0 | 4 => 4 | n => n, fun | n => n⟩
theorem Tryd.lays195 : Go.Proofs.Lays.n195 Tryd.prog Tryd.lays195_ren := {
  mixed := by kernel_rfl
  f195 := Tryd.func156.trans (congrArg some (by kernel_rfl))
  t0 := Tryd.underlying0
  a0 := Tryd.isAgg0
  z0 := Tryd.sizeOf0
  v0 := Tryd.zeroValue0
  t3 := Tryd.underlying3
  a3 := Tryd.isAgg3
  z3 := Tryd.sizeOf3
  v3 := Tryd.zeroValue3
  t4 := Tryd.underlying4
  a4 := Tryd.isAgg4
  z4 := Tryd.sizeOf4
  v4 := Tryd.zeroValue4
  t9 := Tryd.underlying9
  a9 := Tryd.isAgg9
  z9 := Tryd.sizeOf9
  v9 := Tryd.zeroValue9 }
open Go.RowKit in
/-- unicode/utf8.RuneCountInString: "RuneCountInString is like RuneCount but its input is a string." ("RuneCount returns the number of runes in p. Erroneous and short encodings are treated as single runes of width 1 byte."): EVERY STRING, valid UTF-8 or not: 'Lib.runeCount s' (plain Lean over the model's own 'Utf8.decode'; 'Lib.runeCount_le': at most len(s); 'Lib.runeCount_ascii': on ASCII: len(s)). THE ONE CONDITION: len(s) below 2^63 - 1 (the counter does not wrap): the form's reach pays it. THE WORLD BEHIND THE CALL: ONE BLOCK MORE: the model's iterator over s, at its end: all else as it was. (LAID: no walk: one application.) -/
theorem Tryd.utf8_RuneCountInString (s : ByteArray) (w : World) (hs : s.size < 9223372036854775807) :
    Calls Tryd.prog 156 #[.string s] w fun e w' => e = .returned (.int .i64 (Lib.runeCount s)) ∧ ∃ pos, w' = w.iter s pos := Any.utf8_RuneCountInString Tryd.lays195 s w hs
def Tryd.lays129_ren : Go.Shelf.Ren := ⟨fun | 129 => 146 | n => n, fun | 53 => 148 | 3 => 3 | 4 => 4 | 46 => 158 | 5 => 5 | 9 => 9 | n => n, fun | n => n⟩
theorem Tryd.lays129 : Go.Proofs.Lays.n129 Tryd.prog Tryd.lays129_ren := {
  mixed := by kernel_rfl
  f129 := Tryd.func146.trans (congrArg some (by kernel_rfl))
  t3 := Tryd.underlying3
  a3 := Tryd.isAgg3
  z3 := Tryd.sizeOf3
  v3 := Tryd.zeroValue3
  t4 := Tryd.underlying4
  a4 := Tryd.isAgg4
  z4 := Tryd.sizeOf4
  v4 := Tryd.zeroValue4
  t5 := Tryd.underlying5
  a5 := Tryd.isAgg5
  z5 := Tryd.sizeOf5
  v5 := Tryd.zeroValue5
  t9 := Tryd.underlying9
  a9 := Tryd.isAgg9
  z9 := Tryd.sizeOf9
  v9 := Tryd.zeroValue9
  t46 := Tryd.underlying158
  a46 := Tryd.isAgg158
  z46 := Tryd.sizeOf158
  v46 := Tryd.zeroValue158
  t53 := Tryd.underlying148
  a53 := Tryd.isAgg148
  z53 := Tryd.sizeOf148
  v53 := Tryd.zeroValue148 }
/-- bits.Len64: "Len64 returns the minimum number of bits required to represent x; the result is 0 for x == 0.": IT RETURNS 'Lib.bitLen x'; the world is as it was. ('h0', 'h1': x is a uint64.) (LAID: no walk: one application.) -/
theorem Tryd.bits_Len64 (x : Int) (w : World) (h0 : 0 ≤ x) (h1 : x ≤ 18446744073709551615) :
    Calls Tryd.prog 146 #[.int .u64 x] w fun e w' => e = .returned (.int .i64 (Lib.bitLen x.toNat)) ∧ w' = w := Any.bits_Len64 Tryd.lays129 x w h0 h1
def Tryd.lays317_ren : Go.Shelf.Ren := ⟨fun | 317 => 145 | n => n, fun | 3 => 3 | 46 => 158 | n => n, fun | n => n⟩
theorem Tryd.lays317 : Go.Proofs.Lays.n317 Tryd.prog Tryd.lays317_ren := {
  mixed := by kernel_rfl
  f317 := Tryd.func145.trans (congrArg some (by kernel_rfl))
  t3 := Tryd.underlying3
  a3 := Tryd.isAgg3
  z3 := Tryd.sizeOf3
  v3 := Tryd.zeroValue3
  t46 := Tryd.underlying158
  a46 := Tryd.isAgg158
  z46 := Tryd.sizeOf158
  v46 := Tryd.zeroValue158 }
open Go.Lib in
/-- internal/strconv.log10Pow2: "log10Pow2(x) returns ⌊log₁₀ 2**x⌋ = ⌊x * log₁₀ 2⌋.": '(x * 78913) >> 18', at an x up to 64 (a length in bits). The world is as it was. (LAID: no walk: one application.) -/
theorem Tryd.internal_strconv_log10Pow2 (x : Nat) (h : x ≤ 64) (w : World) :
    Calls Tryd.prog 145 #[.int .i64 x] w fun e w' => e = .returned (.int .i64 (Lib.l10 x)) ∧ w' = w := Any.internal_strconv_log10Pow2 Tryd.lays317 x h w
def Tryd.lays318_ren : Go.Shelf.Ren := ⟨fun | 318 => 147 | n => n, fun | 3 => 3 | 4 => 4 | n => n, fun | n => n⟩
theorem Tryd.lays318 : Go.Proofs.Lays.n318 Tryd.prog Tryd.lays318_ren := {
  mixed := by kernel_rfl
  f318 := Tryd.func147.trans (congrArg some (by kernel_rfl))
  t3 := Tryd.underlying3
  a3 := Tryd.isAgg3
  z3 := Tryd.sizeOf3
  v3 := Tryd.zeroValue3
  t4 := Tryd.underlying4
  a4 := Tryd.isAgg4
  z4 := Tryd.sizeOf4
  v4 := Tryd.zeroValue4 }
open Go.Lib in
/-- internal/strconv.bool2: "bool2 converts b to an integer: 1 for true, 0 for false." The world is as it was. (LAID: no walk: one application.) -/
theorem Tryd.internal_strconv_bool2_int (b : Bool) (w : World) :
    Calls Tryd.prog 147 #[.bool b] w fun e w' => e = .returned (.int .i64 (if b then 1 else 0)) ∧ w' = w := Any.internal_strconv_bool2_int Tryd.lays318 b w
def Tryd.lays283_ren : Go.Shelf.Ren := ⟨fun | 283 => 136 | n => n, fun | 3 => 3 | 9 => 9 | 4 => 4 | n => n, fun | n => n⟩
theorem Tryd.lays283 : Go.Proofs.Lays.n283 Tryd.prog Tryd.lays283_ren := {
  mixed := by kernel_rfl
  f283 := Tryd.func136.trans (congrArg some (by kernel_rfl))
  t3 := Tryd.underlying3
  a3 := Tryd.isAgg3
  z3 := Tryd.sizeOf3
  v3 := Tryd.zeroValue3
  t4 := Tryd.underlying4
  a4 := Tryd.isAgg4
  z4 := Tryd.sizeOf4
  v4 := Tryd.zeroValue4
  t9 := Tryd.underlying9
  a9 := Tryd.isAgg9
  z9 := Tryd.sizeOf9
  v9 := Tryd.zeroValue9 }
open Go.Lib in
/-- internal/strconv.small: "small returns the string for an i with 0 <= i < nSmalls.": i's decimal numeral. The world is as it was. (LAID: no walk: one application.) -/
theorem Tryd.internal_strconv_small (i : Nat) (h : i < 100) (w : World) :
    Calls Tryd.prog 136 #[.int .i64 i] w fun e w' => e = .returned (.string ⟨(Lib.decDigits i).toArray⟩) ∧ w' = w := Any.internal_strconv_small Tryd.lays283 i h w
def Tryd.laysM284_ren : Go.Shelf.Ren := ⟨fun | 284 => 137 | 129 => 146 | 317 => 145 | 318 => 147 | n => n, fun | 53 => 148 | 3 => 3 | 212 => 155 | 0 => 0 | 4 => 4 | 46 => 158 | 5 => 5 | 9 => 9 | n => n, fun | 17 => 0 | n => n⟩
theorem Tryd.laysM284 : Go.Proofs.LaysM.n284 Tryd.prog Tryd.laysM284_ren := {
  mixed := by kernel_rfl
  f129 := Tryd.func146.trans (congrArg some (by kernel_rfl))
  f284 := Tryd.func137.trans (congrArg some (by kernel_rfl))
  f317 := Tryd.func145.trans (congrArg some (by kernel_rfl))
  f318 := Tryd.func147.trans (congrArg some (by kernel_rfl))
  t0 := Tryd.underlying0
  a0 := Tryd.isAgg0
  z0 := Tryd.sizeOf0
  v0 := Tryd.zeroValue0
  t3 := Tryd.underlying3
  a3 := Tryd.isAgg3
  z3 := Tryd.sizeOf3
  v3 := Tryd.zeroValue3
  t4 := Tryd.underlying4
  a4 := Tryd.isAgg4
  z4 := Tryd.sizeOf4
  v4 := Tryd.zeroValue4
  t5 := Tryd.underlying5
  a5 := Tryd.isAgg5
  z5 := Tryd.sizeOf5
  v5 := Tryd.zeroValue5
  t9 := Tryd.underlying9
  a9 := Tryd.isAgg9
  z9 := Tryd.sizeOf9
  v9 := Tryd.zeroValue9
  t46 := Tryd.underlying158
  a46 := Tryd.isAgg158
  z46 := Tryd.sizeOf158
  v46 := Tryd.zeroValue158
  t53 := Tryd.underlying148
  a53 := Tryd.isAgg148
  z53 := Tryd.sizeOf148
  v53 := Tryd.zeroValue148
  t212 := Tryd.underlying155
  a212 := Tryd.isAgg155
  z212 := Tryd.sizeOf155
  v212 := Tryd.zeroValue155
  g17 := by kernel_rfl
  i0 := by kernel_rfl
  i3 := by kernel_rfl
  i4 := by kernel_rfl
  i5 := by kernel_rfl
  i9 := by kernel_rfl
  i46 := by kernel_rfl
  i53 := by kernel_rfl
  i212 := by kernel_rfl
  m17 := by kernel_rfl }
open Go.Lib in
/-- internal/strconv.numDigits, at a d that is not 0: THE NUMBER OF d's DECIMAL DIGITS. The world is as it was. (LAID: no walk: one application.) -/
theorem Tryd.internal_strconv_numDigits (u : Nat) (h1 : 1 ≤ u) (h2 : u < 18446744073709551616) (w : World) (htab : Lib.TabIs Tryd.prog w "internal/strconv.uint64pow10" .u64 Lib.pow10Tab) :
    Calls Tryd.prog 137 #[.int .u64 u] w fun e w' => e = .returned (.int .i64 (Lib.nDigits u)) ∧ w' = w := Any.internal_strconv_numDigits Tryd.laysM284 u h1 h2 w htab
def Tryd.lays285_ren : Go.Shelf.Ren := ⟨fun | 285 => 138 | n => n, fun | 37 => 127 | 53 => 148 | 3 => 3 | 4 => 4 | 51 => 156 | 9 => 9 | 5 => 5 | 0 => 0 | n => n, fun | n => n⟩
theorem Tryd.lays285 : Go.Proofs.Lays.n285 Tryd.prog Tryd.lays285_ren := {
  mixed := by kernel_rfl
  f285 := Tryd.func138.trans (congrArg some (by kernel_rfl))
  t0 := Tryd.underlying0
  a0 := Tryd.isAgg0
  z0 := Tryd.sizeOf0
  v0 := Tryd.zeroValue0
  t3 := Tryd.underlying3
  a3 := Tryd.isAgg3
  z3 := Tryd.sizeOf3
  v3 := Tryd.zeroValue3
  t4 := Tryd.underlying4
  a4 := Tryd.isAgg4
  z4 := Tryd.sizeOf4
  v4 := Tryd.zeroValue4
  t5 := Tryd.underlying5
  a5 := Tryd.isAgg5
  z5 := Tryd.sizeOf5
  v5 := Tryd.zeroValue5
  t9 := Tryd.underlying9
  a9 := Tryd.isAgg9
  z9 := Tryd.sizeOf9
  v9 := Tryd.zeroValue9
  t37 := Tryd.underlying127
  a37 := Tryd.isAgg127
  z37 := Tryd.sizeOf127
  v37 := Tryd.zeroValue127
  t51 := Tryd.underlying156
  a51 := Tryd.isAgg156
  z51 := Tryd.sizeOf156
  v51 := Tryd.zeroValue156
  t53 := Tryd.underlying148
  a53 := Tryd.isAgg148
  z53 := Tryd.sizeOf148
  v53 := Tryd.zeroValue148 }
open Go.RowKit Go.Sort Go.Lib in
/-- internal/strconv.formatBase10: "formatBase10 formats the decimal representation of u into a. The caller is responsible for ensuring that a is big enough to hold u. If a is too big, leading zeros will be filled in as needed.": THE ROW HOLDS u's DIGITS ('FmtInv .. 0 ..': every place t holds 'dg u (len - 1 - t)'); all else is as it was but for the count of draws. (LAID: no walk: one application.) -/
theorem Tryd.internal_strconv_formatBase10 (blk off cap : Nat) (u : Nat) (d : Array UInt8) (w : World) (hH : Holds (fun (b : UInt8) => Value.int .u8 (b.toNat : Int)) w blk off d) (hu : u < 10 ^ d.size) (hu64 : u < 18446744073709551616) (hsz : d.size < 4611686018427387904) :
    Calls Tryd.prog 138 #[.slice (some ⟨blk, off, none⟩) d.size cap, .int .u64 u] w fun e w' =>
      e = .returned (.tuple #[]) ∧ ∃ (n v' : Nat) (dk : Array UInt8), w' = (putRow (fun (b : UInt8) => Value.int .u8 (b.toNat : Int)) w blk off dk).drewN n ∧ FmtInv d.size u 0 v' dk := Any.internal_strconv_formatBase10 Tryd.lays285 blk off cap u d w hH hu hu64 hsz
def Tryd.laysM246_ren : Go.Shelf.Ren := ⟨fun | 246 => 124 | 283 => 136 | 284 => 137 | 285 => 138 | 286 => 139 | 129 => 146 | 317 => 145 | 318 => 147 | 319 => 148 | 320 => 149 | 337 => 151 | 338 => 152 | n => n, fun | 2 => 2 | 3 => 3 | 9 => 9 | 4 => 4 | 171 => 147 | 0 => 0 | 53 => 148 | 37 => 127 | 5 => 5 | 173 => 151 | 212 => 155 | 51 => 156 | 20 => 20 | 213 => 157 | 46 => 158 | 232 => 164 | 233 => 165 | n => n, fun | 17 => 0 | 18 => 1 | 19 => 2 | n => n⟩
theorem Tryd.laysM246 : Go.Proofs.LaysM.n246 Tryd.prog Tryd.laysM246_ren := {
  mixed := by kernel_rfl
  f129 := Tryd.func146.trans (congrArg some (by kernel_rfl))
  f246 := Tryd.func124.trans (congrArg some (by kernel_rfl))
  f283 := Tryd.func136.trans (congrArg some (by kernel_rfl))
  f284 := Tryd.func137.trans (congrArg some (by kernel_rfl))
  f285 := Tryd.func138.trans (congrArg some (by kernel_rfl))
  f286 := Tryd.func139.trans (congrArg some (by kernel_rfl))
  f317 := Tryd.func145.trans (congrArg some (by kernel_rfl))
  f318 := Tryd.func147.trans (congrArg some (by kernel_rfl))
  f319 := Tryd.func148.trans (congrArg some (by kernel_rfl))
  f320 := Tryd.func149.trans (congrArg some (by kernel_rfl))
  f337 := Tryd.func151.trans (congrArg some (by kernel_rfl))
  f338 := Tryd.func152.trans (congrArg some (by kernel_rfl))
  t0 := Tryd.underlying0
  a0 := Tryd.isAgg0
  z0 := Tryd.sizeOf0
  v0 := Tryd.zeroValue0
  t2 := Tryd.underlying2
  a2 := Tryd.isAgg2
  z2 := Tryd.sizeOf2
  v2 := Tryd.zeroValue2
  t3 := Tryd.underlying3
  a3 := Tryd.isAgg3
  z3 := Tryd.sizeOf3
  v3 := Tryd.zeroValue3
  t4 := Tryd.underlying4
  a4 := Tryd.isAgg4
  z4 := Tryd.sizeOf4
  v4 := Tryd.zeroValue4
  t5 := Tryd.underlying5
  a5 := Tryd.isAgg5
  z5 := Tryd.sizeOf5
  v5 := Tryd.zeroValue5
  t9 := Tryd.underlying9
  a9 := Tryd.isAgg9
  z9 := Tryd.sizeOf9
  v9 := Tryd.zeroValue9
  t20 := Tryd.underlying20
  a20 := Tryd.isAgg20
  z20 := Tryd.sizeOf20
  v20 := Tryd.zeroValue20
  t37 := Tryd.underlying127
  a37 := Tryd.isAgg127
  z37 := Tryd.sizeOf127
  v37 := Tryd.zeroValue127
  t46 := Tryd.underlying158
  a46 := Tryd.isAgg158
  z46 := Tryd.sizeOf158
  v46 := Tryd.zeroValue158
  t51 := Tryd.underlying156
  a51 := Tryd.isAgg156
  z51 := Tryd.sizeOf156
  v51 := Tryd.zeroValue156
  t53 := Tryd.underlying148
  a53 := Tryd.isAgg148
  z53 := Tryd.sizeOf148
  v53 := Tryd.zeroValue148
  t171 := Tryd.underlying147
  a171 := Tryd.isAgg147
  z171 := Tryd.sizeOf147
  v171 := Tryd.zeroValue147
  t173 := Tryd.underlying151
  a173 := Tryd.isAgg151
  z173 := Tryd.sizeOf151
  v173 := Tryd.zeroValue151
  t212 := Tryd.underlying155
  a212 := Tryd.isAgg155
  z212 := Tryd.sizeOf155
  v212 := Tryd.zeroValue155
  t213 := Tryd.underlying157
  a213 := Tryd.isAgg157
  z213 := Tryd.sizeOf157
  t232 := Tryd.underlying164
  a232 := Tryd.isAgg164
  z232 := Tryd.sizeOf164
  v232 := Tryd.zeroValue164
  t233 := Tryd.underlying165
  a233 := Tryd.isAgg165
  z233 := Tryd.sizeOf165
  v233 := Tryd.zeroValue165
  g17 := by kernel_rfl
  g18 := by kernel_rfl
  g19 := by kernel_rfl
  i0 := by kernel_rfl
  i2 := by kernel_rfl
  i3 := by kernel_rfl
  i4 := by kernel_rfl
  i5 := by kernel_rfl
  i9 := by kernel_rfl
  i20 := by kernel_rfl
  i37 := by kernel_rfl
  i46 := by kernel_rfl
  i51 := by kernel_rfl
  i53 := by kernel_rfl
  i171 := by kernel_rfl
  i173 := by kernel_rfl
  i212 := by kernel_rfl
  i232 := by kernel_rfl
  i233 := by kernel_rfl
  m17 := by kernel_rfl
  m18 := by kernel_rfl
  m19 := by kernel_rfl }
open Go.RowKit Go.Sort Go.Lib in
/-- internal/strconv.FormatInt: "FormatInt returns the string representation of i in the given base": AT BASE 10: i's decimal numeral, for every int64. The world behind the call: the world before it, new blocks behind the heap, draws. (LAID: no walk: one application.) -/
theorem Tryd.internal_strconv_FormatInt_10 (n : Int) (h0 : -9223372036854775808 ≤ n) (h1 : n ≤ 9223372036854775807) (w : World) (htab : Lib.TabIs Tryd.prog w "internal/strconv.uint64pow10" .u64 Lib.pow10Tab) :
    Calls Tryd.prog 124 #[.int .i64 n, .int .i64 10] w fun e w' => e = .returned (.string ⟨(Lib.itoa n).toArray⟩) ∧ ∃ k os, w' = grow (w.drewN k) os := Any.internal_strconv_FormatInt_10 Tryd.laysM246 n h0 h1 w htab
def Tryd.lays246_ren : Go.Shelf.Ren := ⟨fun | 246 => 124 | 283 => 136 | 284 => 137 | 285 => 138 | 286 => 139 | 129 => 146 | 317 => 145 | 318 => 147 | 319 => 148 | 320 => 149 | 337 => 151 | 338 => 152 | n => n, fun | 2 => 2 | 3 => 3 | 9 => 9 | 4 => 4 | 171 => 147 | 0 => 0 | 53 => 148 | 37 => 127 | 5 => 5 | 173 => 151 | 212 => 155 | 51 => 156 | 20 => 20 | 213 => 157 | 46 => 158 | 232 => 164 | 233 => 165 | n => n, fun | 17 => 0 | 18 => 1 | 19 => 2 | n => n⟩
theorem Tryd.lays246 : Go.Proofs.Lays.n246 Tryd.prog Tryd.lays246_ren := {
  mixed := by kernel_rfl
  f129 := Tryd.func146.trans (congrArg some (by kernel_rfl))
  f246 := Tryd.func124.trans (congrArg some (by kernel_rfl))
  f283 := Tryd.func136.trans (congrArg some (by kernel_rfl))
  f284 := Tryd.func137.trans (congrArg some (by kernel_rfl))
  f285 := Tryd.func138.trans (congrArg some (by kernel_rfl))
  f286 := Tryd.func139.trans (congrArg some (by kernel_rfl))
  f317 := Tryd.func145.trans (congrArg some (by kernel_rfl))
  f318 := Tryd.func147.trans (congrArg some (by kernel_rfl))
  f319 := Tryd.func148.trans (congrArg some (by kernel_rfl))
  f320 := Tryd.func149.trans (congrArg some (by kernel_rfl))
  f337 := Tryd.func151.trans (congrArg some (by kernel_rfl))
  f338 := Tryd.func152.trans (congrArg some (by kernel_rfl))
  t0 := Tryd.underlying0
  a0 := Tryd.isAgg0
  z0 := Tryd.sizeOf0
  v0 := Tryd.zeroValue0
  t2 := Tryd.underlying2
  a2 := Tryd.isAgg2
  z2 := Tryd.sizeOf2
  v2 := Tryd.zeroValue2
  t3 := Tryd.underlying3
  a3 := Tryd.isAgg3
  z3 := Tryd.sizeOf3
  v3 := Tryd.zeroValue3
  t4 := Tryd.underlying4
  a4 := Tryd.isAgg4
  z4 := Tryd.sizeOf4
  v4 := Tryd.zeroValue4
  t5 := Tryd.underlying5
  a5 := Tryd.isAgg5
  z5 := Tryd.sizeOf5
  v5 := Tryd.zeroValue5
  t9 := Tryd.underlying9
  a9 := Tryd.isAgg9
  z9 := Tryd.sizeOf9
  v9 := Tryd.zeroValue9
  t20 := Tryd.underlying20
  a20 := Tryd.isAgg20
  z20 := Tryd.sizeOf20
  v20 := Tryd.zeroValue20
  t37 := Tryd.underlying127
  a37 := Tryd.isAgg127
  z37 := Tryd.sizeOf127
  v37 := Tryd.zeroValue127
  t46 := Tryd.underlying158
  a46 := Tryd.isAgg158
  z46 := Tryd.sizeOf158
  v46 := Tryd.zeroValue158
  t51 := Tryd.underlying156
  a51 := Tryd.isAgg156
  z51 := Tryd.sizeOf156
  v51 := Tryd.zeroValue156
  t53 := Tryd.underlying148
  a53 := Tryd.isAgg148
  z53 := Tryd.sizeOf148
  v53 := Tryd.zeroValue148
  t171 := Tryd.underlying147
  a171 := Tryd.isAgg147
  z171 := Tryd.sizeOf147
  v171 := Tryd.zeroValue147
  t173 := Tryd.underlying151
  a173 := Tryd.isAgg151
  z173 := Tryd.sizeOf151
  v173 := Tryd.zeroValue151
  t212 := Tryd.underlying155
  a212 := Tryd.isAgg155
  z212 := Tryd.sizeOf155
  v212 := Tryd.zeroValue155
  t213 := Tryd.underlying157
  a213 := Tryd.isAgg157
  z213 := Tryd.sizeOf157
  t232 := Tryd.underlying164
  a232 := Tryd.isAgg164
  z232 := Tryd.sizeOf164
  v232 := Tryd.zeroValue164
  t233 := Tryd.underlying165
  a233 := Tryd.isAgg165
  z233 := Tryd.sizeOf165
  v233 := Tryd.zeroValue165
  g17 := by kernel_rfl
  g18 := by kernel_rfl
  g19 := by kernel_rfl }
open Go.RowKit Go.Sort Go.Lib in
/-- THE ROAD WITHOUT THE TABLE: 0 <= i < 100: two constants are read, nothing is laid: no premise on the world, and the world is as it was. (LAID: no walk: one application.) -/
theorem Tryd.internal_strconv_FormatInt_10_small (i : Nat) (hi : i < 100) (w : World) :
    Calls Tryd.prog 124 #[.int .i64 i, .int .i64 10] w fun e w' => e = .returned (.string ⟨(Lib.decDigits i).toArray⟩) ∧ w' = w := Any.internal_strconv_FormatInt_10_small Tryd.lays246 i hi w
def Tryd.laysM243_ren : Go.Shelf.Ren := ⟨fun | 243 => 105 | 246 => 124 | 283 => 136 | 284 => 137 | 285 => 138 | 286 => 139 | 129 => 146 | 317 => 145 | 318 => 147 | 319 => 148 | 320 => 149 | 337 => 151 | 338 => 152 | n => n, fun | 3 => 3 | 9 => 9 | 2 => 2 | 4 => 4 | 171 => 147 | 0 => 0 | 53 => 148 | 37 => 127 | 5 => 5 | 173 => 151 | 212 => 155 | 51 => 156 | 20 => 20 | 213 => 157 | 46 => 158 | 232 => 164 | 233 => 165 | n => n, fun | 17 => 0 | 18 => 1 | 19 => 2 | n => n⟩
theorem Tryd.laysM243 : Go.Proofs.LaysM.n243 Tryd.prog Tryd.laysM243_ren := {
  mixed := by kernel_rfl
  f129 := Tryd.func146.trans (congrArg some (by kernel_rfl))
  f243 := Tryd.func105.trans (congrArg some (by kernel_rfl))
  f246 := Tryd.func124.trans (congrArg some (by kernel_rfl))
  f283 := Tryd.func136.trans (congrArg some (by kernel_rfl))
  f284 := Tryd.func137.trans (congrArg some (by kernel_rfl))
  f285 := Tryd.func138.trans (congrArg some (by kernel_rfl))
  f286 := Tryd.func139.trans (congrArg some (by kernel_rfl))
  f317 := Tryd.func145.trans (congrArg some (by kernel_rfl))
  f318 := Tryd.func147.trans (congrArg some (by kernel_rfl))
  f319 := Tryd.func148.trans (congrArg some (by kernel_rfl))
  f320 := Tryd.func149.trans (congrArg some (by kernel_rfl))
  f337 := Tryd.func151.trans (congrArg some (by kernel_rfl))
  f338 := Tryd.func152.trans (congrArg some (by kernel_rfl))
  t0 := Tryd.underlying0
  a0 := Tryd.isAgg0
  z0 := Tryd.sizeOf0
  v0 := Tryd.zeroValue0
  t2 := Tryd.underlying2
  a2 := Tryd.isAgg2
  z2 := Tryd.sizeOf2
  v2 := Tryd.zeroValue2
  t3 := Tryd.underlying3
  a3 := Tryd.isAgg3
  z3 := Tryd.sizeOf3
  v3 := Tryd.zeroValue3
  t4 := Tryd.underlying4
  a4 := Tryd.isAgg4
  z4 := Tryd.sizeOf4
  v4 := Tryd.zeroValue4
  t5 := Tryd.underlying5
  a5 := Tryd.isAgg5
  z5 := Tryd.sizeOf5
  v5 := Tryd.zeroValue5
  t9 := Tryd.underlying9
  a9 := Tryd.isAgg9
  z9 := Tryd.sizeOf9
  v9 := Tryd.zeroValue9
  t20 := Tryd.underlying20
  a20 := Tryd.isAgg20
  z20 := Tryd.sizeOf20
  v20 := Tryd.zeroValue20
  t37 := Tryd.underlying127
  a37 := Tryd.isAgg127
  z37 := Tryd.sizeOf127
  v37 := Tryd.zeroValue127
  t46 := Tryd.underlying158
  a46 := Tryd.isAgg158
  z46 := Tryd.sizeOf158
  v46 := Tryd.zeroValue158
  t51 := Tryd.underlying156
  a51 := Tryd.isAgg156
  z51 := Tryd.sizeOf156
  v51 := Tryd.zeroValue156
  t53 := Tryd.underlying148
  a53 := Tryd.isAgg148
  z53 := Tryd.sizeOf148
  v53 := Tryd.zeroValue148
  t171 := Tryd.underlying147
  a171 := Tryd.isAgg147
  z171 := Tryd.sizeOf147
  v171 := Tryd.zeroValue147
  t173 := Tryd.underlying151
  a173 := Tryd.isAgg151
  z173 := Tryd.sizeOf151
  v173 := Tryd.zeroValue151
  t212 := Tryd.underlying155
  a212 := Tryd.isAgg155
  z212 := Tryd.sizeOf155
  v212 := Tryd.zeroValue155
  t213 := Tryd.underlying157
  a213 := Tryd.isAgg157
  z213 := Tryd.sizeOf157
  t232 := Tryd.underlying164
  a232 := Tryd.isAgg164
  z232 := Tryd.sizeOf164
  v232 := Tryd.zeroValue164
  t233 := Tryd.underlying165
  a233 := Tryd.isAgg165
  z233 := Tryd.sizeOf165
  v233 := Tryd.zeroValue165
  g17 := by kernel_rfl
  g18 := by kernel_rfl
  g19 := by kernel_rfl
  i0 := by kernel_rfl
  i2 := by kernel_rfl
  i3 := by kernel_rfl
  i4 := by kernel_rfl
  i5 := by kernel_rfl
  i9 := by kernel_rfl
  i20 := by kernel_rfl
  i37 := by kernel_rfl
  i46 := by kernel_rfl
  i51 := by kernel_rfl
  i53 := by kernel_rfl
  i171 := by kernel_rfl
  i173 := by kernel_rfl
  i212 := by kernel_rfl
  i232 := by kernel_rfl
  i233 := by kernel_rfl
  m17 := by kernel_rfl
  m18 := by kernel_rfl
  m19 := by kernel_rfl }
open Go.RowKit Go.Sort Go.Lib in
/-- internal/strconv.Itoa: "Itoa is equivalent to FormatInt(int64(i), 10).": i's decimal numeral, for every int. (LAID: no walk: one application.) -/
theorem Tryd.internal_strconv_Itoa (n : Int) (h0 : -9223372036854775808 ≤ n) (h1 : n ≤ 9223372036854775807) (w : World) (htab : Lib.TabIs Tryd.prog w "internal/strconv.uint64pow10" .u64 Lib.pow10Tab) :
    Calls Tryd.prog 105 #[.int .i64 n] w fun e w' => e = .returned (.string ⟨(Lib.itoa n).toArray⟩) ∧ ∃ k os, w' = grow (w.drewN k) os := Any.internal_strconv_Itoa Tryd.laysM243 n h0 h1 w htab
def Tryd.lays243_ren : Go.Shelf.Ren := ⟨fun | 243 => 105 | 246 => 124 | 283 => 136 | 284 => 137 | 285 => 138 | 286 => 139 | 129 => 146 | 317 => 145 | 318 => 147 | 319 => 148 | 320 => 149 | 337 => 151 | 338 => 152 | n => n, fun | 3 => 3 | 9 => 9 | 2 => 2 | 4 => 4 | 171 => 147 | 0 => 0 | 53 => 148 | 37 => 127 | 5 => 5 | 173 => 151 | 212 => 155 | 51 => 156 | 20 => 20 | 213 => 157 | 46 => 158 | 232 => 164 | 233 => 165 | n => n, fun | 17 => 0 | 18 => 1 | 19 => 2 | n => n⟩
theorem Tryd.lays243 : Go.Proofs.Lays.n243 Tryd.prog Tryd.lays243_ren := {
  mixed := by kernel_rfl
  f129 := Tryd.func146.trans (congrArg some (by kernel_rfl))
  f243 := Tryd.func105.trans (congrArg some (by kernel_rfl))
  f246 := Tryd.func124.trans (congrArg some (by kernel_rfl))
  f283 := Tryd.func136.trans (congrArg some (by kernel_rfl))
  f284 := Tryd.func137.trans (congrArg some (by kernel_rfl))
  f285 := Tryd.func138.trans (congrArg some (by kernel_rfl))
  f286 := Tryd.func139.trans (congrArg some (by kernel_rfl))
  f317 := Tryd.func145.trans (congrArg some (by kernel_rfl))
  f318 := Tryd.func147.trans (congrArg some (by kernel_rfl))
  f319 := Tryd.func148.trans (congrArg some (by kernel_rfl))
  f320 := Tryd.func149.trans (congrArg some (by kernel_rfl))
  f337 := Tryd.func151.trans (congrArg some (by kernel_rfl))
  f338 := Tryd.func152.trans (congrArg some (by kernel_rfl))
  t0 := Tryd.underlying0
  a0 := Tryd.isAgg0
  z0 := Tryd.sizeOf0
  v0 := Tryd.zeroValue0
  t2 := Tryd.underlying2
  a2 := Tryd.isAgg2
  z2 := Tryd.sizeOf2
  v2 := Tryd.zeroValue2
  t3 := Tryd.underlying3
  a3 := Tryd.isAgg3
  z3 := Tryd.sizeOf3
  v3 := Tryd.zeroValue3
  t4 := Tryd.underlying4
  a4 := Tryd.isAgg4
  z4 := Tryd.sizeOf4
  v4 := Tryd.zeroValue4
  t5 := Tryd.underlying5
  a5 := Tryd.isAgg5
  z5 := Tryd.sizeOf5
  v5 := Tryd.zeroValue5
  t9 := Tryd.underlying9
  a9 := Tryd.isAgg9
  z9 := Tryd.sizeOf9
  v9 := Tryd.zeroValue9
  t20 := Tryd.underlying20
  a20 := Tryd.isAgg20
  z20 := Tryd.sizeOf20
  v20 := Tryd.zeroValue20
  t37 := Tryd.underlying127
  a37 := Tryd.isAgg127
  z37 := Tryd.sizeOf127
  v37 := Tryd.zeroValue127
  t46 := Tryd.underlying158
  a46 := Tryd.isAgg158
  z46 := Tryd.sizeOf158
  v46 := Tryd.zeroValue158
  t51 := Tryd.underlying156
  a51 := Tryd.isAgg156
  z51 := Tryd.sizeOf156
  v51 := Tryd.zeroValue156
  t53 := Tryd.underlying148
  a53 := Tryd.isAgg148
  z53 := Tryd.sizeOf148
  v53 := Tryd.zeroValue148
  t171 := Tryd.underlying147
  a171 := Tryd.isAgg147
  z171 := Tryd.sizeOf147
  v171 := Tryd.zeroValue147
  t173 := Tryd.underlying151
  a173 := Tryd.isAgg151
  z173 := Tryd.sizeOf151
  v173 := Tryd.zeroValue151
  t212 := Tryd.underlying155
  a212 := Tryd.isAgg155
  z212 := Tryd.sizeOf155
  v212 := Tryd.zeroValue155
  t213 := Tryd.underlying157
  a213 := Tryd.isAgg157
  z213 := Tryd.sizeOf157
  t232 := Tryd.underlying164
  a232 := Tryd.isAgg164
  z232 := Tryd.sizeOf164
  v232 := Tryd.zeroValue164
  t233 := Tryd.underlying165
  a233 := Tryd.isAgg165
  z233 := Tryd.sizeOf165
  v233 := Tryd.zeroValue165
  g17 := by kernel_rfl
  g18 := by kernel_rfl
  g19 := by kernel_rfl }
open Go.RowKit Go.Sort Go.Lib in
/-- THE ROAD WITHOUT THE TABLE: 0 <= i < 100. (LAID: no walk: one application.) -/
theorem Tryd.internal_strconv_Itoa_small (i : Nat) (hi : i < 100) (w : World) :
    Calls Tryd.prog 105 #[.int .i64 i] w fun e w' => e = .returned (.string ⟨(Lib.decDigits i).toArray⟩) ∧ w' = w := Any.internal_strconv_Itoa_small Tryd.lays243 i hi w
def Tryd.laysM171_ren : Go.Shelf.Ren := ⟨fun | 171 => 79 | 243 => 105 | 246 => 124 | 283 => 136 | 284 => 137 | 285 => 138 | 286 => 139 | 129 => 146 | 317 => 145 | 318 => 147 | 319 => 148 | 320 => 149 | 337 => 151 | 338 => 152 | n => n, fun | 3 => 3 | 9 => 9 | 2 => 2 | 4 => 4 | 171 => 147 | 0 => 0 | 53 => 148 | 37 => 127 | 5 => 5 | 173 => 151 | 212 => 155 | 51 => 156 | 20 => 20 | 213 => 157 | 46 => 158 | 232 => 164 | 233 => 165 | n => n, fun | 17 => 0 | 18 => 1 | 19 => 2 | n => n⟩
theorem Tryd.laysM171 : Go.Proofs.LaysM.n171 Tryd.prog Tryd.laysM171_ren := {
  mixed := by kernel_rfl
  f129 := Tryd.func146.trans (congrArg some (by kernel_rfl))
  f171 := Tryd.func79.trans (congrArg some (by kernel_rfl))
  f243 := Tryd.func105.trans (congrArg some (by kernel_rfl))
  f246 := Tryd.func124.trans (congrArg some (by kernel_rfl))
  f283 := Tryd.func136.trans (congrArg some (by kernel_rfl))
  f284 := Tryd.func137.trans (congrArg some (by kernel_rfl))
  f285 := Tryd.func138.trans (congrArg some (by kernel_rfl))
  f286 := Tryd.func139.trans (congrArg some (by kernel_rfl))
  f317 := Tryd.func145.trans (congrArg some (by kernel_rfl))
  f318 := Tryd.func147.trans (congrArg some (by kernel_rfl))
  f319 := Tryd.func148.trans (congrArg some (by kernel_rfl))
  f320 := Tryd.func149.trans (congrArg some (by kernel_rfl))
  f337 := Tryd.func151.trans (congrArg some (by kernel_rfl))
  f338 := Tryd.func152.trans (congrArg some (by kernel_rfl))
  t0 := Tryd.underlying0
  a0 := Tryd.isAgg0
  z0 := Tryd.sizeOf0
  v0 := Tryd.zeroValue0
  t2 := Tryd.underlying2
  a2 := Tryd.isAgg2
  z2 := Tryd.sizeOf2
  v2 := Tryd.zeroValue2
  t3 := Tryd.underlying3
  a3 := Tryd.isAgg3
  z3 := Tryd.sizeOf3
  v3 := Tryd.zeroValue3
  t4 := Tryd.underlying4
  a4 := Tryd.isAgg4
  z4 := Tryd.sizeOf4
  v4 := Tryd.zeroValue4
  t5 := Tryd.underlying5
  a5 := Tryd.isAgg5
  z5 := Tryd.sizeOf5
  v5 := Tryd.zeroValue5
  t9 := Tryd.underlying9
  a9 := Tryd.isAgg9
  z9 := Tryd.sizeOf9
  v9 := Tryd.zeroValue9
  t20 := Tryd.underlying20
  a20 := Tryd.isAgg20
  z20 := Tryd.sizeOf20
  v20 := Tryd.zeroValue20
  t37 := Tryd.underlying127
  a37 := Tryd.isAgg127
  z37 := Tryd.sizeOf127
  v37 := Tryd.zeroValue127
  t46 := Tryd.underlying158
  a46 := Tryd.isAgg158
  z46 := Tryd.sizeOf158
  v46 := Tryd.zeroValue158
  t51 := Tryd.underlying156
  a51 := Tryd.isAgg156
  z51 := Tryd.sizeOf156
  v51 := Tryd.zeroValue156
  t53 := Tryd.underlying148
  a53 := Tryd.isAgg148
  z53 := Tryd.sizeOf148
  v53 := Tryd.zeroValue148
  t171 := Tryd.underlying147
  a171 := Tryd.isAgg147
  z171 := Tryd.sizeOf147
  v171 := Tryd.zeroValue147
  t173 := Tryd.underlying151
  a173 := Tryd.isAgg151
  z173 := Tryd.sizeOf151
  v173 := Tryd.zeroValue151
  t212 := Tryd.underlying155
  a212 := Tryd.isAgg155
  z212 := Tryd.sizeOf155
  v212 := Tryd.zeroValue155
  t213 := Tryd.underlying157
  a213 := Tryd.isAgg157
  z213 := Tryd.sizeOf157
  t232 := Tryd.underlying164
  a232 := Tryd.isAgg164
  z232 := Tryd.sizeOf164
  v232 := Tryd.zeroValue164
  t233 := Tryd.underlying165
  a233 := Tryd.isAgg165
  z233 := Tryd.sizeOf165
  v233 := Tryd.zeroValue165
  g17 := by kernel_rfl
  g18 := by kernel_rfl
  g19 := by kernel_rfl
  i0 := by kernel_rfl
  i2 := by kernel_rfl
  i3 := by kernel_rfl
  i4 := by kernel_rfl
  i5 := by kernel_rfl
  i9 := by kernel_rfl
  i20 := by kernel_rfl
  i37 := by kernel_rfl
  i46 := by kernel_rfl
  i51 := by kernel_rfl
  i53 := by kernel_rfl
  i171 := by kernel_rfl
  i173 := by kernel_rfl
  i212 := by kernel_rfl
  i232 := by kernel_rfl
  i233 := by kernel_rfl
  m17 := by kernel_rfl
  m18 := by kernel_rfl
  m19 := by kernel_rfl }
open Go.RowKit Go.Sort Go.Lib in
/-- strconv.Itoa: "Itoa is equivalent to FormatInt(int64(i), 10).": i's DECIMAL NUMERAL ('Lib.itoa': a '-' where i is negative, then the digits), FOR EVERY int. The world behind the call: the world before it, new blocks behind the heap (the library's 'var a [24]byte'), draws. (LAID: no walk: one application.) -/
theorem Tryd.strconv_Itoa (n : Int) (h0 : -9223372036854775808 ≤ n) (h1 : n ≤ 9223372036854775807) (w : World) (htab : Lib.TabIs Tryd.prog w "internal/strconv.uint64pow10" .u64 Lib.pow10Tab) :
    Calls Tryd.prog 79 #[.int .i64 n] w fun e w' => e = .returned (.string ⟨(Lib.itoa n).toArray⟩) ∧ ∃ k os, w' = grow (w.drewN k) os := Any.strconv_Itoa Tryd.laysM171 n h0 h1 w htab
def Tryd.lays171_ren : Go.Shelf.Ren := ⟨fun | 171 => 79 | 243 => 105 | 246 => 124 | 283 => 136 | 284 => 137 | 285 => 138 | 286 => 139 | 129 => 146 | 317 => 145 | 318 => 147 | 319 => 148 | 320 => 149 | 337 => 151 | 338 => 152 | n => n, fun | 3 => 3 | 9 => 9 | 2 => 2 | 4 => 4 | 171 => 147 | 0 => 0 | 53 => 148 | 37 => 127 | 5 => 5 | 173 => 151 | 212 => 155 | 51 => 156 | 20 => 20 | 213 => 157 | 46 => 158 | 232 => 164 | 233 => 165 | n => n, fun | 17 => 0 | 18 => 1 | 19 => 2 | n => n⟩
theorem Tryd.lays171 : Go.Proofs.Lays.n171 Tryd.prog Tryd.lays171_ren := {
  mixed := by kernel_rfl
  f129 := Tryd.func146.trans (congrArg some (by kernel_rfl))
  f171 := Tryd.func79.trans (congrArg some (by kernel_rfl))
  f243 := Tryd.func105.trans (congrArg some (by kernel_rfl))
  f246 := Tryd.func124.trans (congrArg some (by kernel_rfl))
  f283 := Tryd.func136.trans (congrArg some (by kernel_rfl))
  f284 := Tryd.func137.trans (congrArg some (by kernel_rfl))
  f285 := Tryd.func138.trans (congrArg some (by kernel_rfl))
  f286 := Tryd.func139.trans (congrArg some (by kernel_rfl))
  f317 := Tryd.func145.trans (congrArg some (by kernel_rfl))
  f318 := Tryd.func147.trans (congrArg some (by kernel_rfl))
  f319 := Tryd.func148.trans (congrArg some (by kernel_rfl))
  f320 := Tryd.func149.trans (congrArg some (by kernel_rfl))
  f337 := Tryd.func151.trans (congrArg some (by kernel_rfl))
  f338 := Tryd.func152.trans (congrArg some (by kernel_rfl))
  t0 := Tryd.underlying0
  a0 := Tryd.isAgg0
  z0 := Tryd.sizeOf0
  v0 := Tryd.zeroValue0
  t2 := Tryd.underlying2
  a2 := Tryd.isAgg2
  z2 := Tryd.sizeOf2
  v2 := Tryd.zeroValue2
  t3 := Tryd.underlying3
  a3 := Tryd.isAgg3
  z3 := Tryd.sizeOf3
  v3 := Tryd.zeroValue3
  t4 := Tryd.underlying4
  a4 := Tryd.isAgg4
  z4 := Tryd.sizeOf4
  v4 := Tryd.zeroValue4
  t5 := Tryd.underlying5
  a5 := Tryd.isAgg5
  z5 := Tryd.sizeOf5
  v5 := Tryd.zeroValue5
  t9 := Tryd.underlying9
  a9 := Tryd.isAgg9
  z9 := Tryd.sizeOf9
  v9 := Tryd.zeroValue9
  t20 := Tryd.underlying20
  a20 := Tryd.isAgg20
  z20 := Tryd.sizeOf20
  v20 := Tryd.zeroValue20
  t37 := Tryd.underlying127
  a37 := Tryd.isAgg127
  z37 := Tryd.sizeOf127
  v37 := Tryd.zeroValue127
  t46 := Tryd.underlying158
  a46 := Tryd.isAgg158
  z46 := Tryd.sizeOf158
  v46 := Tryd.zeroValue158
  t51 := Tryd.underlying156
  a51 := Tryd.isAgg156
  z51 := Tryd.sizeOf156
  v51 := Tryd.zeroValue156
  t53 := Tryd.underlying148
  a53 := Tryd.isAgg148
  z53 := Tryd.sizeOf148
  v53 := Tryd.zeroValue148
  t171 := Tryd.underlying147
  a171 := Tryd.isAgg147
  z171 := Tryd.sizeOf147
  v171 := Tryd.zeroValue147
  t173 := Tryd.underlying151
  a173 := Tryd.isAgg151
  z173 := Tryd.sizeOf151
  v173 := Tryd.zeroValue151
  t212 := Tryd.underlying155
  a212 := Tryd.isAgg155
  z212 := Tryd.sizeOf155
  v212 := Tryd.zeroValue155
  t213 := Tryd.underlying157
  a213 := Tryd.isAgg157
  z213 := Tryd.sizeOf157
  t232 := Tryd.underlying164
  a232 := Tryd.isAgg164
  z232 := Tryd.sizeOf164
  v232 := Tryd.zeroValue164
  t233 := Tryd.underlying165
  a233 := Tryd.isAgg165
  z233 := Tryd.sizeOf165
  v233 := Tryd.zeroValue165
  g17 := by kernel_rfl
  g18 := by kernel_rfl
  g19 := by kernel_rfl }
open Go.RowKit Go.Sort Go.Lib in
/-- THE ROAD WITHOUT THE TABLE: 0 <= i < 100: NO PREMISE ON THE WORLD, AND THE WORLD IS AS IT WAS: a row that keeps its argument in that range need list no table ('laid = []'). (LAID: no walk: one application.) -/
theorem Tryd.strconv_Itoa_small (i : Nat) (hi : i < 100) (w : World) :
    Calls Tryd.prog 79 #[.int .i64 i] w fun e w' => e = .returned (.string ⟨(Lib.decDigits i).toArray⟩) ∧ w' = w := Any.strconv_Itoa_small Tryd.lays171 i hi w
def Tryd.lays217_ren : Go.Shelf.Ren := ⟨fun | 217 => 161 | 266 => 165 | n => n, fun | 9 => 9 | 5 => 5 | 3 => 3 | n => n, fun | n => n⟩
theorem Tryd.lays217 : Go.Proofs.Lays.n217 Tryd.prog Tryd.lays217_ren := {
  mixed := by kernel_rfl
  f217 := Tryd.func161.trans (congrArg some (by kernel_rfl))
  f266 := Tryd.func165.trans (congrArg some (by kernel_rfl))
  t3 := Tryd.underlying3
  a3 := Tryd.isAgg3
  z3 := Tryd.sizeOf3
  v3 := Tryd.zeroValue3
  t5 := Tryd.underlying5
  a5 := Tryd.isAgg5
  z5 := Tryd.sizeOf5
  v5 := Tryd.zeroValue5
  t9 := Tryd.underlying9
  a9 := Tryd.isAgg9
  z9 := Tryd.sizeOf9
  v9 := Tryd.zeroValue9 }
open Go.RowKit Go.Lib in
/-- internal/stringslite.IndexByte (what strings.IndexByte calls): IT RETURNS 'Lib.indexByte s c'; the world is as it was. (LAID: no walk: one application.) -/
theorem Tryd.stringslite_IndexByte (s : ByteArray) (c : Int) (w : World) :
    Calls Tryd.prog 161 #[.string s, .int .u8 c] w fun e w' => e = .returned (.int .i64 (Lib.indexByte s.data.toList c.toNat.toUInt8)) ∧ w' = w := Any.stringslite_IndexByte Tryd.lays217 s c w
def Tryd.lays224_ren : Go.Shelf.Ren := ⟨fun | 224 => 163 | n => n, fun | 3 => 3 | n => n, fun | n => n⟩
theorem Tryd.lays224 : Go.Proofs.Lays.n224 Tryd.prog Tryd.lays224_ren := {
  mixed := by kernel_rfl
  f224 := Tryd.func163.trans (congrArg some (by kernel_rfl))
  t3 := Tryd.underlying3
  a3 := Tryd.isAgg3
  z3 := Tryd.sizeOf3
  v3 := Tryd.zeroValue3 }
open Go.RowKit Go.Lib in
/-- internal/bytealg.Cutover: "Cutover reports the number of failures of IndexByte we should tolerate before switching over to Index. n is the number of bytes processed so far.": on amd64: (n + 16) / 8. (LAID: no walk: one application.) -/
theorem Tryd.bytealg_Cutover (n : Int) (h0 : 0 ≤ n) (h1 : n < 4611686018427387904) (w : World) :
    Calls Tryd.prog 163 #[.int .i64 n] w fun e w' => e = .returned (.int .i64 ((n + 16) / 8)) ∧ w' = w := Any.bytealg_Cutover Tryd.lays224 n h0 h1 w
def Tryd.lays314_ren : Go.Shelf.Ren := ⟨fun | 314 => 166 | n => n, fun | 9 => 9 | 51 => 156 | 3 => 3 | 4 => 4 | 5 => 5 | 46 => 158 | n => n, fun | n => n⟩
theorem Tryd.lays314 : Go.Proofs.Lays.n314 Tryd.prog Tryd.lays314_ren := {
  mixed := by kernel_rfl
  f314 := Tryd.func166.trans (congrArg some (by kernel_rfl))
  t3 := Tryd.underlying3
  a3 := Tryd.isAgg3
  z3 := Tryd.sizeOf3
  v3 := Tryd.zeroValue3
  t4 := Tryd.underlying4
  a4 := Tryd.isAgg4
  z4 := Tryd.sizeOf4
  v4 := Tryd.zeroValue4
  t5 := Tryd.underlying5
  a5 := Tryd.isAgg5
  z5 := Tryd.sizeOf5
  v5 := Tryd.zeroValue5
  t9 := Tryd.underlying9
  a9 := Tryd.isAgg9
  z9 := Tryd.sizeOf9
  v9 := Tryd.zeroValue9
  t46 := Tryd.underlying158
  a46 := Tryd.isAgg158
  z46 := Tryd.sizeOf158
  v46 := Tryd.zeroValue158
  t51 := Tryd.underlying156
  a51 := Tryd.isAgg156
  z51 := Tryd.sizeOf156
  v51 := Tryd.zeroValue156 }
open Go.RowKit Go.Lib in
/-- hashStr: "returns the hash and the appropriate multiplicative factor for use in Rabin-Karp algorithm": THE HASH OF ALL OF sep, AND 16777619 ^ len(sep), both in uint32. (LAID: no walk: one application.) -/
theorem Tryd.bytealg_hashStr (sep : ByteArray) (hs : sep.size < 4294967281) (w : World) :
    Calls Tryd.prog 166 #[.string sep] w fun e w' => e = .returned (.tuple #[.int .u32 (RK.H sep.data.toList % 4294967296), .int .u32 (16777619 ^ sep.size % 4294967296)]) ∧ w' = w := Any.bytealg_hashStr Tryd.lays314 sep hs w
def Tryd.lays267_ren : Go.Shelf.Ren := ⟨fun | 267 => 164 | 314 => 166 | n => n, fun | 9 => 9 | 3 => 3 | 146 => 174 | 51 => 156 | 4 => 4 | 5 => 5 | 46 => 158 | n => n, fun | n => n⟩
theorem Tryd.lays267 : Go.Proofs.Lays.n267 Tryd.prog Tryd.lays267_ren := {
  mixed := by kernel_rfl
  f267 := Tryd.func164.trans (congrArg some (by kernel_rfl))
  f314 := Tryd.func166.trans (congrArg some (by kernel_rfl))
  t3 := Tryd.underlying3
  a3 := Tryd.isAgg3
  z3 := Tryd.sizeOf3
  v3 := Tryd.zeroValue3
  t4 := Tryd.underlying4
  a4 := Tryd.isAgg4
  z4 := Tryd.sizeOf4
  v4 := Tryd.zeroValue4
  t5 := Tryd.underlying5
  a5 := Tryd.isAgg5
  z5 := Tryd.sizeOf5
  v5 := Tryd.zeroValue5
  t9 := Tryd.underlying9
  a9 := Tryd.isAgg9
  z9 := Tryd.sizeOf9
  v9 := Tryd.zeroValue9
  t46 := Tryd.underlying158
  a46 := Tryd.isAgg158
  z46 := Tryd.sizeOf158
  v46 := Tryd.zeroValue158
  t51 := Tryd.underlying156
  a51 := Tryd.isAgg156
  z51 := Tryd.sizeOf156
  v51 := Tryd.zeroValue156
  t146 := Tryd.underlying174
  a146 := Tryd.isAgg174
  z146 := Tryd.sizeOf174
  v146 := Tryd.zeroValue174 }
open Go.RowKit Go.Lib in
theorem Tryd.bytealg_IndexRabinKarp (s sep : ByteArray) (h1 : 1 ≤ sep.size) (h2 : sep.size ≤ s.size) (hs : s.size < 4294967281) (w : World) :
    Calls Tryd.prog 164 #[.string s, .string sep] w fun e w' => e = .returned (.int .i64 (Lib.index s.data.toList sep.data.toList)) ∧ w' = w := Any.bytealg_IndexRabinKarp Tryd.lays267 s sep h1 h2 hs w
def Tryd.lays219_ren : Go.Shelf.Ren := ⟨fun | 219 => 159 | 217 => 161 | 225 => 162 | 224 => 163 | 267 => 164 | 266 => 165 | 314 => 166 | n => n, fun | 9 => 9 | 3 => 3 | 4 => 4 | 5 => 5 | 46 => 158 | 146 => 174 | 51 => 156 | n => n, fun | 1 => 3 | n => n⟩
theorem Tryd.lays219 : Go.Proofs.Lays.n219 Tryd.prog Tryd.lays219_ren := {
  mixed := by kernel_rfl
  f217 := Tryd.func161.trans (congrArg some (by kernel_rfl))
  f219 := Tryd.func159.trans (congrArg some (by kernel_rfl))
  f224 := Tryd.func163.trans (congrArg some (by kernel_rfl))
  f225 := Tryd.func162.trans (congrArg some (by kernel_rfl))
  f266 := Tryd.func165.trans (congrArg some (by kernel_rfl))
  f267 := Tryd.func164.trans (congrArg some (by kernel_rfl))
  f314 := Tryd.func166.trans (congrArg some (by kernel_rfl))
  t3 := Tryd.underlying3
  a3 := Tryd.isAgg3
  z3 := Tryd.sizeOf3
  v3 := Tryd.zeroValue3
  t4 := Tryd.underlying4
  a4 := Tryd.isAgg4
  z4 := Tryd.sizeOf4
  v4 := Tryd.zeroValue4
  t5 := Tryd.underlying5
  a5 := Tryd.isAgg5
  z5 := Tryd.sizeOf5
  v5 := Tryd.zeroValue5
  t9 := Tryd.underlying9
  a9 := Tryd.isAgg9
  z9 := Tryd.sizeOf9
  v9 := Tryd.zeroValue9
  t46 := Tryd.underlying158
  a46 := Tryd.isAgg158
  z46 := Tryd.sizeOf158
  v46 := Tryd.zeroValue158
  t51 := Tryd.underlying156
  a51 := Tryd.isAgg156
  z51 := Tryd.sizeOf156
  v51 := Tryd.zeroValue156
  t146 := Tryd.underlying174
  a146 := Tryd.isAgg174
  z146 := Tryd.sizeOf174
  v146 := Tryd.zeroValue174
  g1 := by kernel_rfl }
open Go.RowKit Go.Lib in
/-- internal/stringslite.Index (what strings.Index calls) AT A substr OF ONE BYTE c: IT RETURNS 'Lib.indexByte s c'; the world is as it was. (LAID: no walk: one application.) -/
theorem Tryd.stringslite_Index_one (s : ByteArray) (c : UInt8) (w : World) :
    Calls Tryd.prog 159 #[.string s, .string ⟨#[c]⟩] w fun e w' => e = .returned (.int .i64 (Lib.indexByte s.data.toList c)) ∧ w' = w := Any.stringslite_Index_one Tryd.lays219 s c w
open Go.RowKit Go.Lib in
/-- internal/stringslite.Index (what strings.Index calls) AT A substr OF WHATEVER LENGTH: IT RETURNS 'Lib.index s substr'; the world is as it was. 'm': what internal/bytealg.MaxLen holds: whatever. (LAID: no walk: one application.) -/
theorem Tryd.stringslite_Index (s sub : ByteArray) (m : Int) (w : World) (hs : s.size < 4294967281) (hm : w.cell? ⟨3, 0, none⟩ = some (.int .i64 m)) :
    Calls Tryd.prog 159 #[.string s, .string sub] w fun e w' => e = .returned (.int .i64 (Lib.index s.data.toList sub.data.toList)) ∧ w' = w := Any.stringslite_Index Tryd.lays219 s sub m w hs hm
def Tryd.lays143_ren : Go.Shelf.Ren := ⟨fun | 143 => 155 | 219 => 159 | 217 => 161 | 225 => 162 | 224 => 163 | 267 => 164 | 266 => 165 | 314 => 166 | n => n, fun | 9 => 9 | 3 => 3 | 4 => 4 | 5 => 5 | 46 => 158 | 146 => 174 | 51 => 156 | n => n, fun | 1 => 3 | n => n⟩
theorem Tryd.lays143 : Go.Proofs.Lays.n143 Tryd.prog Tryd.lays143_ren := {
  mixed := by kernel_rfl
  f143 := Tryd.func155.trans (congrArg some (by kernel_rfl))
  f217 := Tryd.func161.trans (congrArg some (by kernel_rfl))
  f219 := Tryd.func159.trans (congrArg some (by kernel_rfl))
  f224 := Tryd.func163.trans (congrArg some (by kernel_rfl))
  f225 := Tryd.func162.trans (congrArg some (by kernel_rfl))
  f266 := Tryd.func165.trans (congrArg some (by kernel_rfl))
  f267 := Tryd.func164.trans (congrArg some (by kernel_rfl))
  f314 := Tryd.func166.trans (congrArg some (by kernel_rfl))
  t3 := Tryd.underlying3
  a3 := Tryd.isAgg3
  z3 := Tryd.sizeOf3
  v3 := Tryd.zeroValue3
  t4 := Tryd.underlying4
  a4 := Tryd.isAgg4
  z4 := Tryd.sizeOf4
  v4 := Tryd.zeroValue4
  t5 := Tryd.underlying5
  a5 := Tryd.isAgg5
  z5 := Tryd.sizeOf5
  v5 := Tryd.zeroValue5
  t9 := Tryd.underlying9
  a9 := Tryd.isAgg9
  z9 := Tryd.sizeOf9
  v9 := Tryd.zeroValue9
  t46 := Tryd.underlying158
  a46 := Tryd.isAgg158
  z46 := Tryd.sizeOf158
  v46 := Tryd.zeroValue158
  t51 := Tryd.underlying156
  a51 := Tryd.isAgg156
  z51 := Tryd.sizeOf156
  v51 := Tryd.zeroValue156
  t146 := Tryd.underlying174
  a146 := Tryd.isAgg174
  z146 := Tryd.sizeOf174
  v146 := Tryd.zeroValue174
  g1 := by kernel_rfl }
open Go.RowKit Go.Lib in
/-- strings.Index: "Index returns the index of the first instance of substr in s, or -1 if substr is not present in s.": AT A substr OF ONE BYTE c: IT RETURNS 'Lib.indexByte s c'; the world is as it was. (LAID: no walk: one application.) -/
theorem Tryd.strings_Index_one (s : ByteArray) (c : UInt8) (w : World) :
    Calls Tryd.prog 155 #[.string s, .string ⟨#[c]⟩] w fun e w' => e = .returned (.int .i64 (Lib.indexByte s.data.toList c)) ∧ w' = w := Any.strings_Index_one Tryd.lays143 s c w
open Go.RowKit Go.Lib in
/-- strings.Index: "Index returns the index of the first instance of substr in s, or -1 if substr is not present in s.": IT RETURNS 'Lib.index s substr'; the world is as it was. (LAID: no walk: one application.) -/
theorem Tryd.strings_Index (s sub : ByteArray) (m : Int) (w : World) (hs : s.size < 4294967281) (hm : w.cell? ⟨3, 0, none⟩ = some (.int .i64 m)) :
    Calls Tryd.prog 155 #[.string s, .string sub] w fun e w' => e = .returned (.int .i64 (Lib.index s.data.toList sub.data.toList)) ∧ w' = w := Any.strings_Index Tryd.lays143 s sub m w hs hm
def Tryd.lays138_ren : Go.Shelf.Ren := ⟨fun | 138 => 154 | 195 => 156 | 218 => 158 | 143 => 155 | 219 => 159 | 217 => 161 | 225 => 162 | 224 => 163 | 267 => 164 | 266 => 165 | 314 => 166 | n => n, fun | 9 => 9 | 3 => 3 | 4 => 4 | 5 => 5 | 0 => 0 | 46 => 158 | 146 => 174 | 51 => 156 | n => n, fun | 1 => 3 | n => n⟩
theorem Tryd.lays138 : Go.Proofs.Lays.n138 Tryd.prog Tryd.lays138_ren := {
  mixed := by kernel_rfl
  f138 := Tryd.func154.trans (congrArg some (by kernel_rfl))
  f143 := Tryd.func155.trans (congrArg some (by kernel_rfl))
  f195 := Tryd.func156.trans (congrArg some (by kernel_rfl))
  f217 := Tryd.func161.trans (congrArg some (by kernel_rfl))
  f218 := Tryd.func158.trans (congrArg some (by kernel_rfl))
  f219 := Tryd.func159.trans (congrArg some (by kernel_rfl))
  f224 := Tryd.func163.trans (congrArg some (by kernel_rfl))
  f225 := Tryd.func162.trans (congrArg some (by kernel_rfl))
  f266 := Tryd.func165.trans (congrArg some (by kernel_rfl))
  f267 := Tryd.func164.trans (congrArg some (by kernel_rfl))
  f314 := Tryd.func166.trans (congrArg some (by kernel_rfl))
  t0 := Tryd.underlying0
  a0 := Tryd.isAgg0
  z0 := Tryd.sizeOf0
  v0 := Tryd.zeroValue0
  t3 := Tryd.underlying3
  a3 := Tryd.isAgg3
  z3 := Tryd.sizeOf3
  v3 := Tryd.zeroValue3
  t4 := Tryd.underlying4
  a4 := Tryd.isAgg4
  z4 := Tryd.sizeOf4
  v4 := Tryd.zeroValue4
  t5 := Tryd.underlying5
  a5 := Tryd.isAgg5
  z5 := Tryd.sizeOf5
  v5 := Tryd.zeroValue5
  t9 := Tryd.underlying9
  a9 := Tryd.isAgg9
  z9 := Tryd.sizeOf9
  v9 := Tryd.zeroValue9
  t46 := Tryd.underlying158
  a46 := Tryd.isAgg158
  z46 := Tryd.sizeOf158
  v46 := Tryd.zeroValue158
  t51 := Tryd.underlying156
  a51 := Tryd.isAgg156
  z51 := Tryd.sizeOf156
  v51 := Tryd.zeroValue156
  t146 := Tryd.underlying174
  a146 := Tryd.isAgg174
  z146 := Tryd.sizeOf174
  v146 := Tryd.zeroValue174
  g1 := by kernel_rfl }
open Go.RowKit Go.Lib in
/-- strings.Count AT A substr OF ONE BYTE ('hp'): "Count counts the number of non-overlapping instances of substr in s.": IT RETURNS 'Lib.countByte s (that byte)'; the world is as it was. ✋ NO CONTRACT HERE YET at an empty substr (utf8.RuneCountInString) or at a longer one (a loop over strings.Index). (LAID: no walk: one application.) -/
theorem Tryd.strings_Count_one (s : ByteArray) (c : UInt8) (w : World) :
    Calls Tryd.prog 154 #[.string s, .string ⟨#[c]⟩] w fun e w' => e = .returned (.int .i64 (Lib.countByte s.data.toList c)) ∧ w' = w := Any.strings_Count_one Tryd.lays138 s c w
open Go.RowKit Go.Lib in
/-- strings.Count AT A substr OF TWO BYTES OR MORE: "Count counts the number of non-overlapping instances of substr in s.": IT RETURNS 'Lib.count s substr'; the world is as it was. (LAID: no walk: one application.) -/
theorem Tryd.strings_Count (s sub : ByteArray) (m : Int) (w : World) (hs : s.size < 4294967281) (hm : w.cell? ⟨3, 0, none⟩ = some (.int .i64 m)) (h2 : 2 ≤ sub.size) :
    Calls Tryd.prog 154 #[.string s, .string sub] w fun e w' => e = .returned (.int .i64 (Lib.countB s sub)) ∧ w' = w := Any.strings_Count Tryd.lays138 s sub m w hs hm h2
def Tryd.laysM219_ren : Go.Shelf.Ren := ⟨fun | 219 => 159 | 217 => 161 | 225 => 162 | 224 => 163 | 267 => 164 | 266 => 165 | 314 => 166 | n => n, fun | 9 => 9 | 3 => 3 | 4 => 4 | 5 => 5 | 46 => 158 | 146 => 174 | 51 => 156 | n => n, fun | 1 => 3 | n => n⟩
theorem Tryd.laysM219 : Go.Proofs.LaysM.n219 Tryd.prog Tryd.laysM219_ren := {
  mixed := by kernel_rfl
  f217 := Tryd.func161.trans (congrArg some (by kernel_rfl))
  f219 := Tryd.func159.trans (congrArg some (by kernel_rfl))
  f224 := Tryd.func163.trans (congrArg some (by kernel_rfl))
  f225 := Tryd.func162.trans (congrArg some (by kernel_rfl))
  f266 := Tryd.func165.trans (congrArg some (by kernel_rfl))
  f267 := Tryd.func164.trans (congrArg some (by kernel_rfl))
  f314 := Tryd.func166.trans (congrArg some (by kernel_rfl))
  t3 := Tryd.underlying3
  a3 := Tryd.isAgg3
  z3 := Tryd.sizeOf3
  v3 := Tryd.zeroValue3
  t4 := Tryd.underlying4
  a4 := Tryd.isAgg4
  z4 := Tryd.sizeOf4
  v4 := Tryd.zeroValue4
  t5 := Tryd.underlying5
  a5 := Tryd.isAgg5
  z5 := Tryd.sizeOf5
  v5 := Tryd.zeroValue5
  t9 := Tryd.underlying9
  a9 := Tryd.isAgg9
  z9 := Tryd.sizeOf9
  v9 := Tryd.zeroValue9
  t46 := Tryd.underlying158
  a46 := Tryd.isAgg158
  z46 := Tryd.sizeOf158
  v46 := Tryd.zeroValue158
  t51 := Tryd.underlying156
  a51 := Tryd.isAgg156
  z51 := Tryd.sizeOf156
  v51 := Tryd.zeroValue156
  t146 := Tryd.underlying174
  a146 := Tryd.isAgg174
  z146 := Tryd.sizeOf174
  v146 := Tryd.zeroValue174
  g1 := by kernel_rfl
  i3 := by kernel_rfl
  i4 := by kernel_rfl
  i5 := by kernel_rfl
  i9 := by kernel_rfl
  i46 := by kernel_rfl
  i51 := by kernel_rfl
  i146 := by kernel_rfl
  m1 := by kernel_rfl
  s1_3 := fun w h => Go.Proofs.cell_of_shapedOpen_int (zero := #[.int .i64 0]) (t := 3) h (of_decide_eq_true (by kernel_rfl)) (by kernel_rfl) rfl (by kernel_rfl) (by kernel_rfl) Tryd.underlying3 }
open Go.RowKit Go.Lib in
theorem Tryd.stringslite_Index_shaped (s sub : ByteArray) (w : World) (h : w.ShapedOpen Tryd.prog) (hs : s.size < 4294967281) :
    Calls Tryd.prog 159 #[.string s, .string sub] w fun e w' => e = .returned (.int .i64 (Lib.index s.data.toList sub.data.toList)) ∧ w' = w := Any.stringslite_Index_shaped Tryd.laysM219 s sub w h hs
def Tryd.laysM143_ren : Go.Shelf.Ren := ⟨fun | 143 => 155 | 219 => 159 | 217 => 161 | 225 => 162 | 224 => 163 | 267 => 164 | 266 => 165 | 314 => 166 | n => n, fun | 9 => 9 | 3 => 3 | 4 => 4 | 5 => 5 | 46 => 158 | 146 => 174 | 51 => 156 | n => n, fun | 1 => 3 | n => n⟩
theorem Tryd.laysM143 : Go.Proofs.LaysM.n143 Tryd.prog Tryd.laysM143_ren := {
  mixed := by kernel_rfl
  f143 := Tryd.func155.trans (congrArg some (by kernel_rfl))
  f217 := Tryd.func161.trans (congrArg some (by kernel_rfl))
  f219 := Tryd.func159.trans (congrArg some (by kernel_rfl))
  f224 := Tryd.func163.trans (congrArg some (by kernel_rfl))
  f225 := Tryd.func162.trans (congrArg some (by kernel_rfl))
  f266 := Tryd.func165.trans (congrArg some (by kernel_rfl))
  f267 := Tryd.func164.trans (congrArg some (by kernel_rfl))
  f314 := Tryd.func166.trans (congrArg some (by kernel_rfl))
  t3 := Tryd.underlying3
  a3 := Tryd.isAgg3
  z3 := Tryd.sizeOf3
  v3 := Tryd.zeroValue3
  t4 := Tryd.underlying4
  a4 := Tryd.isAgg4
  z4 := Tryd.sizeOf4
  v4 := Tryd.zeroValue4
  t5 := Tryd.underlying5
  a5 := Tryd.isAgg5
  z5 := Tryd.sizeOf5
  v5 := Tryd.zeroValue5
  t9 := Tryd.underlying9
  a9 := Tryd.isAgg9
  z9 := Tryd.sizeOf9
  v9 := Tryd.zeroValue9
  t46 := Tryd.underlying158
  a46 := Tryd.isAgg158
  z46 := Tryd.sizeOf158
  v46 := Tryd.zeroValue158
  t51 := Tryd.underlying156
  a51 := Tryd.isAgg156
  z51 := Tryd.sizeOf156
  v51 := Tryd.zeroValue156
  t146 := Tryd.underlying174
  a146 := Tryd.isAgg174
  z146 := Tryd.sizeOf174
  v146 := Tryd.zeroValue174
  g1 := by kernel_rfl
  i3 := by kernel_rfl
  i4 := by kernel_rfl
  i5 := by kernel_rfl
  i9 := by kernel_rfl
  i46 := by kernel_rfl
  i51 := by kernel_rfl
  i146 := by kernel_rfl
  m1 := by kernel_rfl
  s1_3 := fun w h => Go.Proofs.cell_of_shapedOpen_int (zero := #[.int .i64 0]) (t := 3) h (of_decide_eq_true (by kernel_rfl)) (by kernel_rfl) rfl (by kernel_rfl) (by kernel_rfl) Tryd.underlying3 }
open Go.RowKit Go.Lib in
theorem Tryd.strings_Index_shaped (s sub : ByteArray) (w : World) (h : w.ShapedOpen Tryd.prog) (hs : s.size < 4294967281) :
    Calls Tryd.prog 155 #[.string s, .string sub] w fun e w' => e = .returned (.int .i64 (Lib.index s.data.toList sub.data.toList)) ∧ w' = w := Any.strings_Index_shaped Tryd.laysM143 s sub w h hs
def Tryd.laysM138_ren : Go.Shelf.Ren := ⟨fun | 138 => 154 | 195 => 156 | 218 => 158 | 143 => 155 | 219 => 159 | 217 => 161 | 225 => 162 | 224 => 163 | 267 => 164 | 266 => 165 | 314 => 166 | n => n, fun | 9 => 9 | 3 => 3 | 4 => 4 | 5 => 5 | 0 => 0 | 46 => 158 | 146 => 174 | 51 => 156 | n => n, fun | 1 => 3 | n => n⟩
theorem Tryd.laysM138 : Go.Proofs.LaysM.n138 Tryd.prog Tryd.laysM138_ren := {
  mixed := by kernel_rfl
  f138 := Tryd.func154.trans (congrArg some (by kernel_rfl))
  f143 := Tryd.func155.trans (congrArg some (by kernel_rfl))
  f195 := Tryd.func156.trans (congrArg some (by kernel_rfl))
  f217 := Tryd.func161.trans (congrArg some (by kernel_rfl))
  f218 := Tryd.func158.trans (congrArg some (by kernel_rfl))
  f219 := Tryd.func159.trans (congrArg some (by kernel_rfl))
  f224 := Tryd.func163.trans (congrArg some (by kernel_rfl))
  f225 := Tryd.func162.trans (congrArg some (by kernel_rfl))
  f266 := Tryd.func165.trans (congrArg some (by kernel_rfl))
  f267 := Tryd.func164.trans (congrArg some (by kernel_rfl))
  f314 := Tryd.func166.trans (congrArg some (by kernel_rfl))
  t0 := Tryd.underlying0
  a0 := Tryd.isAgg0
  z0 := Tryd.sizeOf0
  v0 := Tryd.zeroValue0
  t3 := Tryd.underlying3
  a3 := Tryd.isAgg3
  z3 := Tryd.sizeOf3
  v3 := Tryd.zeroValue3
  t4 := Tryd.underlying4
  a4 := Tryd.isAgg4
  z4 := Tryd.sizeOf4
  v4 := Tryd.zeroValue4
  t5 := Tryd.underlying5
  a5 := Tryd.isAgg5
  z5 := Tryd.sizeOf5
  v5 := Tryd.zeroValue5
  t9 := Tryd.underlying9
  a9 := Tryd.isAgg9
  z9 := Tryd.sizeOf9
  v9 := Tryd.zeroValue9
  t46 := Tryd.underlying158
  a46 := Tryd.isAgg158
  z46 := Tryd.sizeOf158
  v46 := Tryd.zeroValue158
  t51 := Tryd.underlying156
  a51 := Tryd.isAgg156
  z51 := Tryd.sizeOf156
  v51 := Tryd.zeroValue156
  t146 := Tryd.underlying174
  a146 := Tryd.isAgg174
  z146 := Tryd.sizeOf174
  v146 := Tryd.zeroValue174
  g1 := by kernel_rfl
  i0 := by kernel_rfl
  i3 := by kernel_rfl
  i4 := by kernel_rfl
  i5 := by kernel_rfl
  i9 := by kernel_rfl
  i46 := by kernel_rfl
  i51 := by kernel_rfl
  i146 := by kernel_rfl
  m1 := by kernel_rfl
  s1_3 := fun w h => Go.Proofs.cell_of_shapedOpen_int (zero := #[.int .i64 0]) (t := 3) h (of_decide_eq_true (by kernel_rfl)) (by kernel_rfl) rfl (by kernel_rfl) (by kernel_rfl) Tryd.underlying3 }
open Go.RowKit Go.Lib in
theorem Tryd.strings_Count_shaped (s sub : ByteArray) (w : World) (h : w.ShapedOpen Tryd.prog) (hs : s.size < 4294967281) (h2 : 2 ≤ sub.size) :
    Calls Tryd.prog 154 #[.string s, .string sub] w fun e w' => e = .returned (.int .i64 (Lib.countB s sub)) ∧ w' = w := Any.strings_Count_shaped Tryd.laysM138 s sub w h hs h2
open Go.RowKit Go.Lib in
/-- strings.Count at whatever sep that is not empty: the two roads under one statement. (LAID: no walk: one application.) -/
theorem Tryd.strings_Count_any (s sep : ByteArray) (m : Int) (w : World) (hs : s.size < 4294967281) (hm : w.cell? ⟨3, 0, none⟩ = some (.int .i64 m)) (h1 : 1 ≤ sep.size) :
    Calls Tryd.prog 154 #[.string s, .string sep] w fun e w' => e = .returned (.int .i64 (Lib.countB s sep)) ∧ w' = w := Any.strings_Count_any Tryd.lays138 s sep m w hs hm h1
def Tryd.lays221_ren : Go.Shelf.Ren := ⟨fun | 221 => 150 | 268 => 153 | 138 => 154 | 143 => 155 | 195 => 156 | 197 => 157 | 218 => 158 | 219 => 159 | 260 => 160 | 217 => 161 | 225 => 162 | 224 => 163 | 267 => 164 | 266 => 165 | 314 => 166 | n => n, fun | 9 => 9 | 3 => 3 | 31 => 136 | 4 => 4 | 0 => 0 | 105 => 167 | 21 => 21 | 5 => 5 | 46 => 158 | 119 => 170 | 139 => 173 | 138 => 172 | 146 => 174 | 51 => 156 | n => n, fun | 1 => 3 | 3 => 4 | 4 => 5 | n => n⟩
theorem Tryd.lays221 : Go.Proofs.Lays.n221 Tryd.prog Tryd.lays221_ren := {
  mixed := by kernel_rfl
  f138 := Tryd.func154.trans (congrArg some (by kernel_rfl))
  f143 := Tryd.func155.trans (congrArg some (by kernel_rfl))
  f195 := Tryd.func156.trans (congrArg some (by kernel_rfl))
  f197 := Tryd.func157.trans (congrArg some (by kernel_rfl))
  f217 := Tryd.func161.trans (congrArg some (by kernel_rfl))
  f218 := Tryd.func158.trans (congrArg some (by kernel_rfl))
  f219 := Tryd.func159.trans (congrArg some (by kernel_rfl))
  f221 := Tryd.func150.trans (congrArg some (by kernel_rfl))
  f224 := Tryd.func163.trans (congrArg some (by kernel_rfl))
  f225 := Tryd.func162.trans (congrArg some (by kernel_rfl))
  f260 := Tryd.func160.trans (congrArg some (by kernel_rfl))
  f266 := Tryd.func165.trans (congrArg some (by kernel_rfl))
  f267 := Tryd.func164.trans (congrArg some (by kernel_rfl))
  f268 := Tryd.func153.trans (congrArg some (by kernel_rfl))
  f314 := Tryd.func166.trans (congrArg some (by kernel_rfl))
  t0 := Tryd.underlying0
  a0 := Tryd.isAgg0
  z0 := Tryd.sizeOf0
  v0 := Tryd.zeroValue0
  t3 := Tryd.underlying3
  a3 := Tryd.isAgg3
  z3 := Tryd.sizeOf3
  v3 := Tryd.zeroValue3
  t4 := Tryd.underlying4
  a4 := Tryd.isAgg4
  z4 := Tryd.sizeOf4
  v4 := Tryd.zeroValue4
  t5 := Tryd.underlying5
  a5 := Tryd.isAgg5
  z5 := Tryd.sizeOf5
  v5 := Tryd.zeroValue5
  t9 := Tryd.underlying9
  a9 := Tryd.isAgg9
  z9 := Tryd.sizeOf9
  v9 := Tryd.zeroValue9
  t21 := Tryd.underlying21
  a21 := Tryd.isAgg21
  z21 := Tryd.sizeOf21
  v21 := Tryd.zeroValue21
  t31 := Tryd.underlying136
  a31 := Tryd.isAgg136
  z31 := Tryd.sizeOf136
  v31 := Tryd.zeroValue136
  t46 := Tryd.underlying158
  a46 := Tryd.isAgg158
  z46 := Tryd.sizeOf158
  v46 := Tryd.zeroValue158
  t51 := Tryd.underlying156
  a51 := Tryd.isAgg156
  z51 := Tryd.sizeOf156
  v51 := Tryd.zeroValue156
  t105 := Tryd.underlying167
  a105 := Tryd.isAgg167
  z105 := Tryd.sizeOf167
  v105 := Tryd.zeroValue167
  t119 := Tryd.underlying170
  a119 := Tryd.isAgg170
  z119 := Tryd.sizeOf170
  t138 := Tryd.underlying172
  a138 := Tryd.isAgg172
  z138 := Tryd.sizeOf172
  v138 := Tryd.zeroValue172
  t139 := Tryd.underlying173
  a139 := Tryd.isAgg173
  z139 := Tryd.sizeOf173
  v139 := Tryd.zeroValue173
  t146 := Tryd.underlying174
  a146 := Tryd.isAgg174
  z146 := Tryd.sizeOf174
  v146 := Tryd.zeroValue174
  g1 := by kernel_rfl
  g3 := by kernel_rfl
  g4 := by kernel_rfl }
open Go.RowKit Go.Lib in
theorem Tryd.strings_genSplit (s sep : ByteArray) (sv : Nat) (n : Int) (N : Nat) (m : Int) (w : World) (hs : s.size < 4294967281) (hm : w.cell? ⟨3, 0, none⟩ = some (.int .i64 m)) (h1 : 1 ≤ sep.size) (hsv : sv ≤ sep.size) (hn0 : n ≠ 0) (hn63 : n ≤ 9223372036854775807) (hN : (N : Int) = min (if n < 0 then (Lib.countB s sep : Int) + 1 else n) ((s.size : Int) + 1)) :
    Calls Tryd.prog 150 #[.string s, .string sep, .int .i64 sv, .int .i64 n] w fun e w' =>
      e = .returned (.slice (some ⟨w.heap.size, 0, none⟩) (Lib.splitB sep sv (N - 1) s).length N) ∧ w' = w.alloc (.cells (Lib.cellsOf (Lib.splitB sep sv (N - 1) s) N) 9) := Any.strings_genSplit Tryd.lays221 (by kernel_rfl) s sep sv n N m w hs hm h1 hsv hn0 hn63 hN
def Tryd.lays146_ren : Go.Shelf.Ren := ⟨fun | 146 => 140 | 221 => 150 | 268 => 153 | 138 => 154 | 143 => 155 | 195 => 156 | 197 => 157 | 218 => 158 | 219 => 159 | 260 => 160 | 217 => 161 | 225 => 162 | 224 => 163 | 267 => 164 | 266 => 165 | 314 => 166 | n => n, fun | 9 => 9 | 31 => 136 | 3 => 3 | 4 => 4 | 0 => 0 | 105 => 167 | 21 => 21 | 5 => 5 | 46 => 158 | 119 => 170 | 139 => 173 | 138 => 172 | 146 => 174 | 51 => 156 | n => n, fun | 1 => 3 | 3 => 4 | 4 => 5 | n => n⟩
theorem Tryd.lays146 : Go.Proofs.Lays.n146 Tryd.prog Tryd.lays146_ren := {
  mixed := by kernel_rfl
  f138 := Tryd.func154.trans (congrArg some (by kernel_rfl))
  f143 := Tryd.func155.trans (congrArg some (by kernel_rfl))
  f146 := Tryd.func140.trans (congrArg some (by kernel_rfl))
  f195 := Tryd.func156.trans (congrArg some (by kernel_rfl))
  f197 := Tryd.func157.trans (congrArg some (by kernel_rfl))
  f217 := Tryd.func161.trans (congrArg some (by kernel_rfl))
  f218 := Tryd.func158.trans (congrArg some (by kernel_rfl))
  f219 := Tryd.func159.trans (congrArg some (by kernel_rfl))
  f221 := Tryd.func150.trans (congrArg some (by kernel_rfl))
  f224 := Tryd.func163.trans (congrArg some (by kernel_rfl))
  f225 := Tryd.func162.trans (congrArg some (by kernel_rfl))
  f260 := Tryd.func160.trans (congrArg some (by kernel_rfl))
  f266 := Tryd.func165.trans (congrArg some (by kernel_rfl))
  f267 := Tryd.func164.trans (congrArg some (by kernel_rfl))
  f268 := Tryd.func153.trans (congrArg some (by kernel_rfl))
  f314 := Tryd.func166.trans (congrArg some (by kernel_rfl))
  t0 := Tryd.underlying0
  a0 := Tryd.isAgg0
  z0 := Tryd.sizeOf0
  v0 := Tryd.zeroValue0
  t3 := Tryd.underlying3
  a3 := Tryd.isAgg3
  z3 := Tryd.sizeOf3
  v3 := Tryd.zeroValue3
  t4 := Tryd.underlying4
  a4 := Tryd.isAgg4
  z4 := Tryd.sizeOf4
  v4 := Tryd.zeroValue4
  t5 := Tryd.underlying5
  a5 := Tryd.isAgg5
  z5 := Tryd.sizeOf5
  v5 := Tryd.zeroValue5
  t9 := Tryd.underlying9
  a9 := Tryd.isAgg9
  z9 := Tryd.sizeOf9
  v9 := Tryd.zeroValue9
  t21 := Tryd.underlying21
  a21 := Tryd.isAgg21
  z21 := Tryd.sizeOf21
  v21 := Tryd.zeroValue21
  t31 := Tryd.underlying136
  a31 := Tryd.isAgg136
  z31 := Tryd.sizeOf136
  v31 := Tryd.zeroValue136
  t46 := Tryd.underlying158
  a46 := Tryd.isAgg158
  z46 := Tryd.sizeOf158
  v46 := Tryd.zeroValue158
  t51 := Tryd.underlying156
  a51 := Tryd.isAgg156
  z51 := Tryd.sizeOf156
  v51 := Tryd.zeroValue156
  t105 := Tryd.underlying167
  a105 := Tryd.isAgg167
  z105 := Tryd.sizeOf167
  v105 := Tryd.zeroValue167
  t119 := Tryd.underlying170
  a119 := Tryd.isAgg170
  z119 := Tryd.sizeOf170
  t138 := Tryd.underlying172
  a138 := Tryd.isAgg172
  z138 := Tryd.sizeOf172
  v138 := Tryd.zeroValue172
  t139 := Tryd.underlying173
  a139 := Tryd.isAgg173
  z139 := Tryd.sizeOf173
  v139 := Tryd.zeroValue173
  t146 := Tryd.underlying174
  a146 := Tryd.isAgg174
  z146 := Tryd.sizeOf174
  v146 := Tryd.zeroValue174
  g1 := by kernel_rfl
  g3 := by kernel_rfl
  g4 := by kernel_rfl }
open Go.RowKit Go.Lib in
/-- strings.Split. (LAID: no walk: one application.) -/
theorem Tryd.strings_Split (s sep : ByteArray) (m : Int) (w : World) (hs : s.size < 4294967281) (hm : w.cell? ⟨3, 0, none⟩ = some (.int .i64 m)) (h1 : 1 ≤ sep.size) :
    Calls Tryd.prog 140 #[.string s, .string sep] w fun e w' =>
      e = .returned (.slice (some ⟨w.heap.size, 0, none⟩) (Lib.countB s sep + 1) (Lib.countB s sep + 1)) ∧ w' = w.alloc (.cells ((Lib.splitB sep 0 (Lib.countB s sep) s).map Value.string).toArray 9) := Any.strings_Split Tryd.lays146 (by kernel_rfl) s sep m w hs hm h1
def Tryd.laysM146_ren : Go.Shelf.Ren := ⟨fun | 146 => 140 | 221 => 150 | 268 => 153 | 138 => 154 | 143 => 155 | 195 => 156 | 197 => 157 | 218 => 158 | 219 => 159 | 260 => 160 | 217 => 161 | 225 => 162 | 224 => 163 | 267 => 164 | 266 => 165 | 314 => 166 | n => n, fun | 9 => 9 | 31 => 136 | 3 => 3 | 4 => 4 | 0 => 0 | 105 => 167 | 21 => 21 | 5 => 5 | 46 => 158 | 119 => 170 | 139 => 173 | 138 => 172 | 146 => 174 | 51 => 156 | n => n, fun | 1 => 3 | 3 => 4 | 4 => 5 | n => n⟩
theorem Tryd.laysM146 : Go.Proofs.LaysM.n146 Tryd.prog Tryd.laysM146_ren := {
  mixed := by kernel_rfl
  f138 := Tryd.func154.trans (congrArg some (by kernel_rfl))
  f143 := Tryd.func155.trans (congrArg some (by kernel_rfl))
  f146 := Tryd.func140.trans (congrArg some (by kernel_rfl))
  f195 := Tryd.func156.trans (congrArg some (by kernel_rfl))
  f197 := Tryd.func157.trans (congrArg some (by kernel_rfl))
  f217 := Tryd.func161.trans (congrArg some (by kernel_rfl))
  f218 := Tryd.func158.trans (congrArg some (by kernel_rfl))
  f219 := Tryd.func159.trans (congrArg some (by kernel_rfl))
  f221 := Tryd.func150.trans (congrArg some (by kernel_rfl))
  f224 := Tryd.func163.trans (congrArg some (by kernel_rfl))
  f225 := Tryd.func162.trans (congrArg some (by kernel_rfl))
  f260 := Tryd.func160.trans (congrArg some (by kernel_rfl))
  f266 := Tryd.func165.trans (congrArg some (by kernel_rfl))
  f267 := Tryd.func164.trans (congrArg some (by kernel_rfl))
  f268 := Tryd.func153.trans (congrArg some (by kernel_rfl))
  f314 := Tryd.func166.trans (congrArg some (by kernel_rfl))
  t0 := Tryd.underlying0
  a0 := Tryd.isAgg0
  z0 := Tryd.sizeOf0
  v0 := Tryd.zeroValue0
  t3 := Tryd.underlying3
  a3 := Tryd.isAgg3
  z3 := Tryd.sizeOf3
  v3 := Tryd.zeroValue3
  t4 := Tryd.underlying4
  a4 := Tryd.isAgg4
  z4 := Tryd.sizeOf4
  v4 := Tryd.zeroValue4
  t5 := Tryd.underlying5
  a5 := Tryd.isAgg5
  z5 := Tryd.sizeOf5
  v5 := Tryd.zeroValue5
  t9 := Tryd.underlying9
  a9 := Tryd.isAgg9
  z9 := Tryd.sizeOf9
  v9 := Tryd.zeroValue9
  t21 := Tryd.underlying21
  a21 := Tryd.isAgg21
  z21 := Tryd.sizeOf21
  v21 := Tryd.zeroValue21
  t31 := Tryd.underlying136
  a31 := Tryd.isAgg136
  z31 := Tryd.sizeOf136
  v31 := Tryd.zeroValue136
  t46 := Tryd.underlying158
  a46 := Tryd.isAgg158
  z46 := Tryd.sizeOf158
  v46 := Tryd.zeroValue158
  t51 := Tryd.underlying156
  a51 := Tryd.isAgg156
  z51 := Tryd.sizeOf156
  v51 := Tryd.zeroValue156
  t105 := Tryd.underlying167
  a105 := Tryd.isAgg167
  z105 := Tryd.sizeOf167
  v105 := Tryd.zeroValue167
  t119 := Tryd.underlying170
  a119 := Tryd.isAgg170
  z119 := Tryd.sizeOf170
  t138 := Tryd.underlying172
  a138 := Tryd.isAgg172
  z138 := Tryd.sizeOf172
  v138 := Tryd.zeroValue172
  t139 := Tryd.underlying173
  a139 := Tryd.isAgg173
  z139 := Tryd.sizeOf173
  v139 := Tryd.zeroValue173
  t146 := Tryd.underlying174
  a146 := Tryd.isAgg174
  z146 := Tryd.sizeOf174
  v146 := Tryd.zeroValue174
  g1 := by kernel_rfl
  g3 := by kernel_rfl
  g4 := by kernel_rfl
  i0 := by kernel_rfl
  i3 := by kernel_rfl
  i4 := by kernel_rfl
  i5 := by kernel_rfl
  i9 := by kernel_rfl
  i21 := by kernel_rfl
  i31 := by kernel_rfl
  i46 := by kernel_rfl
  i51 := by kernel_rfl
  i105 := by kernel_rfl
  i138 := by kernel_rfl
  i139 := by kernel_rfl
  i146 := by kernel_rfl
  m1 := by kernel_rfl
  s1_3 := fun w h => Go.Proofs.cell_of_shapedOpen_int (zero := #[.int .i64 0]) (t := 3) h (of_decide_eq_true (by kernel_rfl)) (by kernel_rfl) rfl (by kernel_rfl) (by kernel_rfl) Tryd.underlying3
  m3 := by kernel_rfl
  m4 := by kernel_rfl }
open Go.RowKit Go.Lib in
/-- strings.Split, sep not empty. (LAID: no walk: one application.) -/
theorem Tryd.strings_Split_shaped (s sep : ByteArray) (w : World) (h : w.ShapedOpen Tryd.prog) (hs : s.size < 4294967281) (h1 : 1 ≤ sep.size) :
    Calls Tryd.prog 140 #[.string s, .string sep] w fun e w' =>
      e = .returned (.slice (some ⟨w.heap.size, 0, none⟩) (Lib.countB s sep + 1) (Lib.countB s sep + 1)) ∧ w' = w.alloc (.cells ((Lib.splitB sep 0 (Lib.countB s sep) s).map Value.string).toArray 9) := Any.strings_Split_shaped Tryd.laysM146 s sep w h hs h1
def Tryd.lays197_ren : Go.Shelf.Ren := ⟨fun | 197 => 157 | 260 => 160 | n => n, fun | 9 => 9 | 21 => 21 | 3 => 3 | 4 => 4 | 5 => 5 | 105 => 167 | 119 => 170 | 0 => 0 | 46 => 158 | 139 => 173 | 138 => 172 | n => n, fun | 3 => 4 | 4 => 5 | n => n⟩
theorem Tryd.lays197 : Go.Proofs.Lays.n197 Tryd.prog Tryd.lays197_ren := {
  mixed := by kernel_rfl
  f197 := Tryd.func157.trans (congrArg some (by kernel_rfl))
  f260 := Tryd.func160.trans (congrArg some (by kernel_rfl))
  t0 := Tryd.underlying0
  a0 := Tryd.isAgg0
  z0 := Tryd.sizeOf0
  v0 := Tryd.zeroValue0
  t3 := Tryd.underlying3
  a3 := Tryd.isAgg3
  z3 := Tryd.sizeOf3
  v3 := Tryd.zeroValue3
  t4 := Tryd.underlying4
  a4 := Tryd.isAgg4
  z4 := Tryd.sizeOf4
  v4 := Tryd.zeroValue4
  t5 := Tryd.underlying5
  a5 := Tryd.isAgg5
  z5 := Tryd.sizeOf5
  v5 := Tryd.zeroValue5
  t9 := Tryd.underlying9
  a9 := Tryd.isAgg9
  z9 := Tryd.sizeOf9
  v9 := Tryd.zeroValue9
  t21 := Tryd.underlying21
  a21 := Tryd.isAgg21
  z21 := Tryd.sizeOf21
  v21 := Tryd.zeroValue21
  t46 := Tryd.underlying158
  a46 := Tryd.isAgg158
  z46 := Tryd.sizeOf158
  v46 := Tryd.zeroValue158
  t105 := Tryd.underlying167
  a105 := Tryd.isAgg167
  z105 := Tryd.sizeOf167
  v105 := Tryd.zeroValue167
  t119 := Tryd.underlying170
  a119 := Tryd.isAgg170
  z119 := Tryd.sizeOf170
  t138 := Tryd.underlying172
  a138 := Tryd.isAgg172
  z138 := Tryd.sizeOf172
  v138 := Tryd.zeroValue172
  t139 := Tryd.underlying173
  a139 := Tryd.isAgg173
  z139 := Tryd.sizeOf173
  v139 := Tryd.zeroValue173
  g3 := by kernel_rfl
  g4 := by kernel_rfl }
open Go.RowKit Go.Lib in
/-- unicode/utf8.DecodeRuneInString: "DecodeRuneInString is like DecodeRune but its input is a string.": ("DecodeRune unpacks the first UTF-8 encoding in p and returns the rune and its width in bytes."): WHERE s BEGINS WITH AN ASCII BYTE x: (x, 1). (LAID: no walk: one application.) -/
theorem Tryd.utf8_DecodeRuneInString_ascii (s : ByteArray) (x : UInt8) (w : World) (h0 : s.data.toList[0]? = some x) (hx : x.toNat < 128) :
    Calls Tryd.prog 157 #[.string s] w fun e w' => e = .returned (.tuple #[.int .i32 x.toNat, .int .i64 1]) ∧ w' = w := Any.utf8_DecodeRuneInString_ascii Tryd.lays197 s x w h0 hx
open Go.RowKit Go.Lib in
theorem Tryd.utf8_RuneCountInString_ascii (s : ByteArray) (w : World) (hs : s.size < 4294967281) (hascii : ∀ (j : Nat) b, s.data.toList[j]? = some b → b.toNat < 128) :
    Calls Tryd.prog 156 #[.string s] w fun e w' => e = .returned (.int .i64 s.size) ∧ w' = w.iter s s.size := Any.utf8_RuneCountInString_ascii Tryd.lays195 s w hs hascii
def Tryd.lays268_ren : Go.Shelf.Ren := ⟨fun | 268 => 153 | 195 => 156 | 197 => 157 | 260 => 160 | n => n, fun | 9 => 9 | 3 => 3 | 31 => 136 | 4 => 4 | 105 => 167 | 21 => 21 | 0 => 0 | 5 => 5 | 119 => 170 | 46 => 158 | 139 => 173 | 138 => 172 | n => n, fun | 3 => 4 | 4 => 5 | n => n⟩
theorem Tryd.lays268 : Go.Proofs.Lays.n268 Tryd.prog Tryd.lays268_ren := {
  mixed := by kernel_rfl
  f195 := Tryd.func156.trans (congrArg some (by kernel_rfl))
  f197 := Tryd.func157.trans (congrArg some (by kernel_rfl))
  f260 := Tryd.func160.trans (congrArg some (by kernel_rfl))
  f268 := Tryd.func153.trans (congrArg some (by kernel_rfl))
  t0 := Tryd.underlying0
  a0 := Tryd.isAgg0
  z0 := Tryd.sizeOf0
  v0 := Tryd.zeroValue0
  t3 := Tryd.underlying3
  a3 := Tryd.isAgg3
  z3 := Tryd.sizeOf3
  v3 := Tryd.zeroValue3
  t4 := Tryd.underlying4
  a4 := Tryd.isAgg4
  z4 := Tryd.sizeOf4
  v4 := Tryd.zeroValue4
  t5 := Tryd.underlying5
  a5 := Tryd.isAgg5
  z5 := Tryd.sizeOf5
  v5 := Tryd.zeroValue5
  t9 := Tryd.underlying9
  a9 := Tryd.isAgg9
  z9 := Tryd.sizeOf9
  v9 := Tryd.zeroValue9
  t21 := Tryd.underlying21
  a21 := Tryd.isAgg21
  z21 := Tryd.sizeOf21
  v21 := Tryd.zeroValue21
  t31 := Tryd.underlying136
  a31 := Tryd.isAgg136
  z31 := Tryd.sizeOf136
  v31 := Tryd.zeroValue136
  t46 := Tryd.underlying158
  a46 := Tryd.isAgg158
  z46 := Tryd.sizeOf158
  v46 := Tryd.zeroValue158
  t105 := Tryd.underlying167
  a105 := Tryd.isAgg167
  z105 := Tryd.sizeOf167
  v105 := Tryd.zeroValue167
  t119 := Tryd.underlying170
  a119 := Tryd.isAgg170
  z119 := Tryd.sizeOf170
  t138 := Tryd.underlying172
  a138 := Tryd.isAgg172
  z138 := Tryd.sizeOf172
  v138 := Tryd.zeroValue172
  t139 := Tryd.underlying173
  a139 := Tryd.isAgg173
  z139 := Tryd.sizeOf173
  v139 := Tryd.zeroValue173
  g3 := by kernel_rfl
  g4 := by kernel_rfl }
open Go.RowKit Go.Lib in
theorem Tryd.strings_explode_all (s : ByteArray) (n : Int) (w : World) (hn : n < 0) (hs : s.size < 4294967281) (hascii : ∀ (j : Nat) b, s.data.toList[j]? = some b → b.toNat < 128) :
    Calls Tryd.prog 153 #[.string s, .int .i64 n] w fun e w' =>
      e = .returned (.slice (some ⟨(w.iter s s.size).heap.size, 0, none⟩) s.size s.size) ∧ w' = (w.iter s s.size).alloc (.cells ((Lib.charsB s).map Value.string).toArray 9) := Any.strings_explode_all Tryd.lays268 (by kernel_rfl) s n w hn hs hascii
open Go.RowKit Go.Lib in
/-- strings.genSplit at sep == "", n < 0: 'return explode(s, n)'. (LAID: no walk: one application.) -/
theorem Tryd.strings_genSplit_chars (s sep : ByteArray) (sv n : Int) (w : World) (h0 : sep.size = 0) (hn : n < 0) (hs : s.size < 4294967281) (hascii : ∀ (j : Nat) b, s.data.toList[j]? = some b → b.toNat < 128) :
    Calls Tryd.prog 150 #[.string s, .string sep, .int .i64 sv, .int .i64 n] w fun e w' =>
      e = .returned (.slice (some ⟨(w.iter s s.size).heap.size, 0, none⟩) s.size s.size) ∧ w' = (w.iter s s.size).alloc (.cells ((Lib.charsB s).map Value.string).toArray 9) := Any.strings_genSplit_chars Tryd.lays221 (by kernel_rfl) s sep sv n w h0 hn hs hascii
open Go.RowKit Go.Lib in
/-- strings.Split(s, ""), s ASCII: a piece a byte. (LAID: no walk: one application.) -/
theorem Tryd.strings_Split_chars (s sep : ByteArray) (w : World) (h0 : sep.size = 0) (hs : s.size < 4294967281) (hascii : ∀ (j : Nat) b, s.data.toList[j]? = some b → b.toNat < 128) :
    Calls Tryd.prog 140 #[.string s, .string sep] w fun e w' =>
      e = .returned (.slice (some ⟨(w.iter s s.size).heap.size, 0, none⟩) s.size s.size) ∧ w' = (w.iter s s.size).alloc (.cells ((Lib.charsB s).map Value.string).toArray 9) := Any.strings_Split_chars Tryd.lays146 (by kernel_rfl) s sep w h0 hs hascii
def Tryd.lays260_ren : Go.Shelf.Ren := ⟨fun | 260 => 160 | n => n, fun | 9 => 9 | 21 => 21 | 3 => 3 | 4 => 4 | 5 => 5 | 119 => 170 | 0 => 0 | 46 => 158 | 139 => 173 | 138 => 172 | n => n, fun | 3 => 4 | 4 => 5 | n => n⟩
theorem Tryd.lays260 : Go.Proofs.Lays.n260 Tryd.prog Tryd.lays260_ren := {
  mixed := by kernel_rfl
  f260 := Tryd.func160.trans (congrArg some (by kernel_rfl))
  t0 := Tryd.underlying0
  a0 := Tryd.isAgg0
  z0 := Tryd.sizeOf0
  v0 := Tryd.zeroValue0
  t3 := Tryd.underlying3
  a3 := Tryd.isAgg3
  z3 := Tryd.sizeOf3
  v3 := Tryd.zeroValue3
  t4 := Tryd.underlying4
  a4 := Tryd.isAgg4
  z4 := Tryd.sizeOf4
  v4 := Tryd.zeroValue4
  t5 := Tryd.underlying5
  a5 := Tryd.isAgg5
  z5 := Tryd.sizeOf5
  v5 := Tryd.zeroValue5
  t9 := Tryd.underlying9
  a9 := Tryd.isAgg9
  z9 := Tryd.sizeOf9
  v9 := Tryd.zeroValue9
  t21 := Tryd.underlying21
  a21 := Tryd.isAgg21
  z21 := Tryd.sizeOf21
  v21 := Tryd.zeroValue21
  t46 := Tryd.underlying158
  a46 := Tryd.isAgg158
  z46 := Tryd.sizeOf158
  v46 := Tryd.zeroValue158
  t119 := Tryd.underlying170
  a119 := Tryd.isAgg170
  z119 := Tryd.sizeOf170
  t138 := Tryd.underlying172
  a138 := Tryd.isAgg172
  z138 := Tryd.sizeOf172
  v138 := Tryd.zeroValue172
  t139 := Tryd.underlying173
  a139 := Tryd.isAgg173
  z139 := Tryd.sizeOf173
  v139 := Tryd.zeroValue173
  g3 := by kernel_rfl
  g4 := by kernel_rfl }
open Go.RowKit Go.Lib in
theorem Tryd.utf8_decodeRuneInStringSlow (s : ByteArray) (w : World) (hT : Lib.Utf8Tabs 4 5 w) :
    Calls Tryd.prog 160 #[.string s] w fun e w' => e = .returned (.tuple #[.int .i32 (Lib.decodeGo s).1, .int .i64 (Lib.decodeGo s).2]) ∧ Below w.heap.size w w' := Any.utf8_decodeRuneInStringSlow Tryd.lays260 s w hT
open Go.RowKit Go.Lib in
/-- **unicode/utf8.DecodeRuneInString AT EVERY STRING.** (LAID: no walk: one application.) -/
theorem Tryd.utf8_DecodeRuneInString (s : ByteArray) (w : World) (hT : Lib.Utf8Tabs 4 5 w) :
    Calls Tryd.prog 157 #[.string s] w fun e w' => e = .returned (.tuple #[.int .i32 (Lib.decodeGo s).1, .int .i64 (Lib.decodeGo s).2]) ∧ Below w.heap.size w w' := Any.utf8_DecodeRuneInString Tryd.lays197 s w hT
end Go.Proofs
set_option linter.unusedVariables false
set_option linter.unusedSimpArgs false
namespace Go.Proofs.T
open Go.OM
theorem ent79 : Enters E.P 79 := enters_of Tryd.func79 (by simp [Tryd.f79]) rfl
theorem pow10_named : Tryd.prog.globalNamed "internal/strconv.uint64pow10" = some 0 := by kernel_rfl
theorem pow10_tab {w : World} (h : E.Gl w) : Lib.TabIs Tryd.prog w "internal/strconv.uint64pow10" .u64 Lib.pow10Tab := by
  obtain ⟨cs, t, fr, h1, h2⟩ := h _ (List.mem_singleton.2 rfl)
  unfold Lib.TabIs World.var?
  rw [pow10_named]
  simp only [Option.bind_some, h1]
  exact congrArg some h2
theorem strconv_Itoa_ok (n : Int) {r0 : ByteArray} (h : strconv_Itoa n = some r0) : Ok E 79 [.val (vi n)] [vs r0] [] := by
  unfold strconv_Itoa at h
  split at h
  case isFalse => cases h
  rename_i hr
  injection h with h
  subst h
  exact ok_plain (xs := [.int .i64 n]) (rs := [.string ⟨(Lib.itoa n).toArray⟩]) (by simp [TA.OneCell]) fun w hw => Tryd.strconv_Itoa n hr.1 hr.2 w (pow10_tab hw)
end Go.Proofs.T
set_option linter.unusedVariables false
set_option linter.unusedSimpArgs false
set_option maxHeartbeats 1000000
namespace Go.Proofs.T
open Go.OM
theorem res43 : Tryd.f43.results.toList = [.tmp 2] := rfl
theorem ent43 : Enters E.P 43 := enters_of Tryd.func43 (by simp [Tryd.f43]) rfl
theorem impl_Decimal_ok (n1 : Int) {r0 : ByteArray} (h : impl_Decimal n1 = some r0) : Ok E 43 [.val (vi n1)] [vs r0] [] := by
  refine ok_of_body (fn := Tryd.f43) Tryd.func43 rfl (by simp [Tryd.f43]) fun C hN hP => ?_
  have hPB : ∀ l, pinK [] l = true → pinB C.pin l = true := pinB_of (by rw [hP]; rfl)
  have hN' : C.N = 5 := hN
  clear hN
  unfold impl_Decimal at h
  refine SWp.seqR rfl (hPB _ rfl) fun K hK => ?_
  refine wps_cons rfl fun K hK => ?_; simp [hN']; refine hK _ ?_; clear hK
  refine wps_nil (hK _ ?_); clear hK
  refine SWp.seqR rfl (hPB _ rfl) fun K hK => ?_
  refine wps_cons rfl fun K hK => ?_; simp [hN']; refine hK _ ?_; clear hK
  obtain ⟨r2, hc3, h⟩ := bind_some h
  refine wps_call [(.take, .tmp 3)] rfl rfl ent79 (strconv_Itoa_ok _ hc3) fun K hK => ?_; simp [hN']; refine hK _ ?_; clear hK
  refine wps_cons rfl fun K hK => ?_; simp [hN']; refine hK _ ?_; clear hK
  refine wps_nil (hK _ ?_); clear hK
  cases h
  refine SWp.ret ?_
  simp [thenS, inBlockS, res43]
end Go.Proofs.T
set_option linter.unusedVariables false
set_option linter.unusedSimpArgs false
set_option maxHeartbeats 1000000
namespace Go.Proofs.T
open Go.OM
theorem res42 : Tryd.f42.results.toList = [.tmp 4] := rfl
theorem ent42 : Enters E.P 42 := enters_of Tryd.func42 (by simp [Tryd.f42]) rfl
theorem impl_ShowMeasure_1_ok (s1 : ByteArray) (n2 : Int) {r0 : ByteArray} (h : impl_ShowMeasure_1 s1 n2 = some r0) : Ok E 42 [.val (vs s1), .val (vi n2)] [vs r0] [] := by
  refine ok_of_body (fn := Tryd.f42) Tryd.func42 rfl (by simp [Tryd.f42]) fun C hN hP => ?_
  have hPB : ∀ l, pinK [] l = true → pinB C.pin l = true := pinB_of (by rw [hP]; rfl)
  have hN' : C.N = 11 := hN
  clear hN
  unfold impl_ShowMeasure_1 at h
  refine SWp.seqR rfl (hPB _ rfl) fun K hK => ?_
  refine wps_cons rfl fun K hK => ?_; simp [hN']; refine hK _ ?_; clear hK
  refine wps_nil (hK _ ?_); clear hK
  refine SWp.seqR rfl (hPB _ rfl) fun K hK => ?_
  refine wps_cons rfl fun K hK => ?_; simp [hN']; refine hK _ ?_; clear hK
  obtain ⟨t3, ht3, h⟩ := bind_some h
  obtain ⟨ht3a, ht3b⟩ := sCat_some ht3
  refine wps_cons rfl fun K hK => ?_; simp [hN', ht3a, ht3b]; refine hK _ ?_; clear hK
  refine wps_cons rfl fun K hK => ?_; simp [hN', ht3a, ht3b]; refine hK _ ?_; clear hK
  refine wps_cons rfl fun K hK => ?_; simp [hN', ht3a, ht3b]; refine hK _ ?_; clear hK
  obtain ⟨r4, hc5, h⟩ := bind_some h
  refine wps_call [(.take, .tmp 8)] rfl rfl ent43 (impl_Decimal_ok _ hc5) fun K hK => ?_; simp [hN', ht3a, ht3b]; refine hK _ ?_; clear hK
  obtain ⟨t6, ht6, h⟩ := bind_some h
  obtain ⟨ht6a, ht6b⟩ := sCat_some ht6
  refine wps_cons rfl fun K hK => ?_; simp [hN', ht3a, ht3b, ht6a, ht6b]; refine hK _ ?_; clear hK
  refine wps_cons rfl fun K hK => ?_; simp [hN', ht3a, ht3b, ht6a, ht6b]; refine hK _ ?_; clear hK
  refine wps_nil (hK _ ?_); clear hK
  cases h
  refine SWp.ret ?_
  simp [thenS, inBlockS, res42]
end Go.Proofs.T
set_option linter.unusedVariables false
set_option linter.unusedSimpArgs false
set_option maxHeartbeats 1000000
namespace Go.Proofs.T
open Go.OM
theorem res12 : Tryd.f12.results.toList = [.tmp 2] := rfl
theorem ent12 : Enters E.P 12 := enters_of Tryd.func12 (by simp [Tryd.f12]) rfl
theorem impl_ShowMeasure_ok (m1 : GMeasure) {r0 : ByteArray} (h : impl_ShowMeasure m1 = some r0) : Ok E 12 [.val (GMeasure.enc m1)] [vs r0] [] := by
  refine ok_of_body (fn := Tryd.f12) Tryd.func12 rfl (by simp [Tryd.f12]) fun C hN hP => ?_
  have hPB : ∀ l, pinK [] l = true → pinB C.pin l = true := pinB_of (by rw [hP]; rfl)
  have hN' : C.N = 49 := hN
  clear hN
  unfold impl_ShowMeasure at h
  refine SWp.seqR rfl (hPB _ rfl) fun K hK => ?_
  refine wps_cons rfl fun K hK => ?_; simp [hN']; refine hK _ ?_; clear hK
  refine wps_cons rfl fun K hK => ?_; simp [hN']; refine hK _ ?_; clear hK
  refine wps_nil (hK _ ?_); clear hK
  refine SWp.seqR rfl (hPB _ rfl) fun K hK => ?_
  refine wps_cons rfl fun K hK => ?_; simp [hN']; refine hK _ ?_; clear hK
  refine wps_nil (hK _ ?_); clear hK
  refine SWp.seq ?_
  obtain ⟨r3, hc4, h⟩ := bind_some h
  obtain ⟨r5, hc6, h⟩ := bind_some h
  obtain ⟨t7, ht7, h⟩ := bind_some h
  obtain ⟨ht7a, ht7b⟩ := sCat_some ht7
  obtain ⟨r8, hc9, h⟩ := bind_some h
  obtain ⟨t10, ht10, h⟩ := bind_some h
  obtain ⟨ht10a, ht10b⟩ := sCat_some ht10
  obtain ⟨r11, hc12, h⟩ := bind_some h
  obtain ⟨t13, ht13, h⟩ := bind_some h
  obtain ⟨ht13a, ht13b⟩ := sCat_some ht13
  obtain ⟨r14, hc15, h⟩ := bind_some h
  obtain ⟨t16, ht16, h⟩ := bind_some h
  obtain ⟨ht16a, ht16b⟩ := sCat_some ht16
  obtain ⟨r17, hc18, h⟩ := bind_some h
  obtain ⟨t19, ht19, h⟩ := bind_some h
  obtain ⟨ht19a, ht19b⟩ := sCat_some ht19
  obtain ⟨r20, hc21, h⟩ := bind_some h
  obtain ⟨t22, ht22, h⟩ := bind_some h
  obtain ⟨ht22a, ht22b⟩ := sCat_some ht22
  obtain ⟨r23, hc24, h⟩ := bind_some h
  obtain ⟨t25, ht25, h⟩ := bind_some h
  obtain ⟨ht25a, ht25b⟩ := sCat_some ht25
  obtain ⟨r26, hc27, h⟩ := bind_some h
  obtain ⟨t28, ht28, h⟩ := bind_some h
  obtain ⟨ht28a, ht28b⟩ := sCat_some ht28
  obtain ⟨t29, ht29, h⟩ := bind_some h
  obtain ⟨ht29a, ht29b⟩ := sCat_some ht29
  refine SWp.drawA rfl (hPB _ rfl) [(4, .t (.v (.func (.func 42) #[] #[]))), (5, .ref (.box 1) 0 []), (6, .t (vi m1.Fns)), (7, .t (vs r3)), (8, .t (.v (.func (.func 42) #[] #[]))), (9, .ref (.box 1) 1 []), (10, .t (vi m1.Nodes)), (11, .t (vs r5)), (12, .t (vs t7)), (13, .t (.v (.func (.func 42) #[] #[]))), (14, .ref (.box 1) 2 []), (15, .t (vi m1.Steps)), (16, .t (vs r8)), (17, .t (vs t10)), (18, .t (.v (.func (.func 42) #[] #[]))), (19, .ref (.box 1) 3 []), (20, .t (vi m1.Values)), (21, .t (vs r11)), (22, .t (vs t13)), (23, .t (.v (.func (.func 42) #[] #[]))), (24, .ref (.box 1) 4 []), (25, .t (vi m1.Blocks)), (26, .t (vs r14)), (27, .t (vs t16)), (28, .t (.v (.func (.func 42) #[] #[]))), (29, .ref (.box 1) 5 []), (30, .t (vi m1.Lets)), (31, .t (vs r17)), (32, .t (vs t19)), (33, .t (.v (.func (.func 42) #[] #[]))), (34, .ref (.box 1) 6 []), (35, .t (vi m1.News)), (36, .t (vs r20)), (37, .t (vs t22)), (38, .t (.v (.func (.func 42) #[] #[]))), (39, .ref (.box 1) 7 []), (40, .t (vi m1.Lends)), (41, .t (vs r23)), (42, .t (vs t25)), (43, .t (.v (.func (.func 42) #[] #[]))), (44, .ref (.box 1) 8 []), (45, .t (vi m1.Deep)), (46, .t (vs r26)), (47, .t (vs t28)), (48, .t (vs t29))] [[], [], [1], [0, 1, 2], [], [], [5], [0, 1, 2, 3, 4, 5, 6], [0, 1, 2, 3, 4, 5, 6, 7], [], [], [10], [0, 1, 2, 3, 4, 5, 6, 7, 9, 10, 11], [0, 1, 2, 3, 4, 5, 6, 7, 8, 9, 10, 11, 12], [], [], [15], [0, 1, 2, 3, 4, 5, 6, 7, 9, 10, 11, 12, 14, 15, 16], [0, 1, 2, 3, 4, 5, 6, 7, 8, 9, 10, 11, 12, 13, 14, 15, 16, 17], [], [], [20], [0, 1, 2, 3, 4, 5, 6, 7, 9, 10, 11, 12, 14, 15, 16, 17, 19, 20, 21], [0, 1, 2, 3, 4, 5, 6, 7, 8, 9, 10, 11, 12, 13, 14, 15, 16, 17, 18, 19, 20, 21, 22], [], [], [25], [0, 1, 2, 3, 4, 5, 6, 7, 9, 10, 11, 12, 14, 15, 16, 17, 19, 20, 21, 22, 24, 25, 26], [0, 1, 2, 3, 4, 5, 6, 7, 8, 9, 10, 11, 12, 13, 14, 15, 16, 17, 18, 19, 20, 21, 22, 23, 24, 25, 26, 27], [], [], [30], [0, 1, 2, 3, 4, 5, 6, 7, 9, 10, 11, 12, 14, 15, 16, 17, 19, 20, 21, 22, 24, 25, 26, 27, 29, 30, 31], [0, 1, 2, 3, 4, 5, 6, 7, 8, 9, 10, 11, 12, 13, 14, 15, 16, 17, 18, 19, 20, 21, 22, 23, 24, 25, 26, 27, 28, 29, 30, 31, 32], [], [], [35], [0, 1, 2, 3, 4, 5, 6, 7, 9, 10, 11, 12, 14, 15, 16, 17, 19, 20, 21, 22, 24, 25, 26, 27, 29, 30, 31, 32, 34, 35, 36], [0, 1, 2, 3, 4, 5, 6, 7, 8, 9, 10, 11, 12, 13, 14, 15, 16, 17, 18, 19, 20, 21, 22, 23, 24, 25, 26, 27, 28, 29, 30, 31, 32, 33, 34, 35, 36, 37], [], [], [40], [0, 1, 2, 3, 4, 5, 6, 7, 9, 10, 11, 12, 14, 15, 16, 17, 19, 20, 21, 22, 24, 25, 26, 27, 29, 30, 31, 32, 34, 35, 36, 37, 39, 40, 41], [0, 1, 2, 3, 4, 5, 6, 7, 8, 9, 10, 11, 12, 13, 14, 15, 16, 17, 18, 19, 20, 21, 22, 23, 24, 25, 26, 27, 28, 29, 30, 31, 32, 33, 34, 35, 36, 37, 38, 39, 40, 41, 42], [0, 1, 2, 3, 4, 5, 6, 7, 8, 9, 10, 11, 12, 13, 14, 15, 16, 17, 18, 19, 20, 21, 22, 23, 24, 25, 26, 27, 28, 29, 30, 31, 32, 33, 34, 35, 36, 37, 38, 39, 40, 41, 42, 43]] (by simp) (by simp) (by simp [look]) rfl rfl rfl ?_ fun K hK => ?_
  · refine ⟨?_, ?_, ?_, ?_, ?_, ?_, ?_, ?_, ?_, ?_, ?_, ?_, ?_, ?_, ?_, ?_, ?_, ?_, ?_, ?_, ?_, ?_, ?_, ?_, ?_, ?_, ?_, ?_, ?_, ?_, ?_, ?_, ?_, ?_, ?_, ?_, ?_, ?_, ?_, ?_, ?_, ?_, ?_, ?_, ?_, trivial⟩
    all_goals (intro τ hbx hb hd hf K hK; try simp [vsAt] at hd; simp [vsAt] at hf; first | (refine wps_cons rfl fun K' hK' => ?_; simp [hN', hbx, hb, hd, hf, ht7a, ht7b, ht10a, ht10b, ht13a, ht13b, ht16a, ht16b, ht19a, ht19b, ht22a, ht22b, ht25a, ht25b, ht28a, ht28b, ht29a, ht29b]; exact hK' _ (wps_nil (hK _ (by simp [vsAt, hbx, ht7a, ht7b, ht10a, ht10b, ht13a, ht13b, ht16a, ht16b, ht19a, ht19b, ht22a, ht22b, ht25a, ht25b, ht28a, ht28b, ht29a, ht29b])))) | (refine wps_call [(.take, .const (.string (⟨#[102, 110, 115]⟩ : ByteArray))), (.take, .tmp 6)] rfl rfl ent42 (impl_ShowMeasure_1_ok _ _ hc4) fun K' hK' => ?_; simp [hN', hbx, hb, hd, hf, ht7a, ht7b, ht10a, ht10b, ht13a, ht13b, ht16a, ht16b, ht19a, ht19b, ht22a, ht22b, ht25a, ht25b, ht28a, ht28b, ht29a, ht29b]; exact hK' _ (wps_nil (hK _ (by simp [vsAt, hbx, ht7a, ht7b, ht10a, ht10b, ht13a, ht13b, ht16a, ht16b, ht19a, ht19b, ht22a, ht22b, ht25a, ht25b, ht28a, ht28b, ht29a, ht29b])))) | (refine wps_call [(.take, .const (.string (⟨#[32, 110, 111, 100, 101, 115]⟩ : ByteArray))), (.take, .tmp 10)] rfl rfl ent42 (impl_ShowMeasure_1_ok _ _ hc6) fun K' hK' => ?_; simp [hN', hbx, hb, hd, hf, ht7a, ht7b, ht10a, ht10b, ht13a, ht13b, ht16a, ht16b, ht19a, ht19b, ht22a, ht22b, ht25a, ht25b, ht28a, ht28b, ht29a, ht29b]; exact hK' _ (wps_nil (hK _ (by simp [vsAt, hbx, ht7a, ht7b, ht10a, ht10b, ht13a, ht13b, ht16a, ht16b, ht19a, ht19b, ht22a, ht22b, ht25a, ht25b, ht28a, ht28b, ht29a, ht29b])))) | (refine wps_call [(.take, .const (.string (⟨#[32, 115, 116, 101, 112, 115]⟩ : ByteArray))), (.take, .tmp 15)] rfl rfl ent42 (impl_ShowMeasure_1_ok _ _ hc9) fun K' hK' => ?_; simp [hN', hbx, hb, hd, hf, ht7a, ht7b, ht10a, ht10b, ht13a, ht13b, ht16a, ht16b, ht19a, ht19b, ht22a, ht22b, ht25a, ht25b, ht28a, ht28b, ht29a, ht29b]; exact hK' _ (wps_nil (hK _ (by simp [vsAt, hbx, ht7a, ht7b, ht10a, ht10b, ht13a, ht13b, ht16a, ht16b, ht19a, ht19b, ht22a, ht22b, ht25a, ht25b, ht28a, ht28b, ht29a, ht29b])))) | (refine wps_call [(.take, .const (.string (⟨#[32, 118, 97, 108, 117, 101, 115]⟩ : ByteArray))), (.take, .tmp 20)] rfl rfl ent42 (impl_ShowMeasure_1_ok _ _ hc12) fun K' hK' => ?_; simp [hN', hbx, hb, hd, hf, ht7a, ht7b, ht10a, ht10b, ht13a, ht13b, ht16a, ht16b, ht19a, ht19b, ht22a, ht22b, ht25a, ht25b, ht28a, ht28b, ht29a, ht29b]; exact hK' _ (wps_nil (hK _ (by simp [vsAt, hbx, ht7a, ht7b, ht10a, ht10b, ht13a, ht13b, ht16a, ht16b, ht19a, ht19b, ht22a, ht22b, ht25a, ht25b, ht28a, ht28b, ht29a, ht29b])))) | (refine wps_call [(.take, .const (.string (⟨#[32, 98, 108, 111, 99, 107, 115]⟩ : ByteArray))), (.take, .tmp 25)] rfl rfl ent42 (impl_ShowMeasure_1_ok _ _ hc15) fun K' hK' => ?_; simp [hN', hbx, hb, hd, hf, ht7a, ht7b, ht10a, ht10b, ht13a, ht13b, ht16a, ht16b, ht19a, ht19b, ht22a, ht22b, ht25a, ht25b, ht28a, ht28b, ht29a, ht29b]; exact hK' _ (wps_nil (hK _ (by simp [vsAt, hbx, ht7a, ht7b, ht10a, ht10b, ht13a, ht13b, ht16a, ht16b, ht19a, ht19b, ht22a, ht22b, ht25a, ht25b, ht28a, ht28b, ht29a, ht29b])))) | (refine wps_call [(.take, .const (.string (⟨#[32, 108, 101, 116, 115]⟩ : ByteArray))), (.take, .tmp 30)] rfl rfl ent42 (impl_ShowMeasure_1_ok _ _ hc18) fun K' hK' => ?_; simp [hN', hbx, hb, hd, hf, ht7a, ht7b, ht10a, ht10b, ht13a, ht13b, ht16a, ht16b, ht19a, ht19b, ht22a, ht22b, ht25a, ht25b, ht28a, ht28b, ht29a, ht29b]; exact hK' _ (wps_nil (hK _ (by simp [vsAt, hbx, ht7a, ht7b, ht10a, ht10b, ht13a, ht13b, ht16a, ht16b, ht19a, ht19b, ht22a, ht22b, ht25a, ht25b, ht28a, ht28b, ht29a, ht29b])))) | (refine wps_call [(.take, .const (.string (⟨#[32, 110, 101, 119, 115]⟩ : ByteArray))), (.take, .tmp 35)] rfl rfl ent42 (impl_ShowMeasure_1_ok _ _ hc21) fun K' hK' => ?_; simp [hN', hbx, hb, hd, hf, ht7a, ht7b, ht10a, ht10b, ht13a, ht13b, ht16a, ht16b, ht19a, ht19b, ht22a, ht22b, ht25a, ht25b, ht28a, ht28b, ht29a, ht29b]; exact hK' _ (wps_nil (hK _ (by simp [vsAt, hbx, ht7a, ht7b, ht10a, ht10b, ht13a, ht13b, ht16a, ht16b, ht19a, ht19b, ht22a, ht22b, ht25a, ht25b, ht28a, ht28b, ht29a, ht29b])))) | (refine wps_call [(.take, .const (.string (⟨#[32, 108, 101, 110, 100, 115]⟩ : ByteArray))), (.take, .tmp 40)] rfl rfl ent42 (impl_ShowMeasure_1_ok _ _ hc24) fun K' hK' => ?_; simp [hN', hbx, hb, hd, hf, ht7a, ht7b, ht10a, ht10b, ht13a, ht13b, ht16a, ht16b, ht19a, ht19b, ht22a, ht22b, ht25a, ht25b, ht28a, ht28b, ht29a, ht29b]; exact hK' _ (wps_nil (hK _ (by simp [vsAt, hbx, ht7a, ht7b, ht10a, ht10b, ht13a, ht13b, ht16a, ht16b, ht19a, ht19b, ht22a, ht22b, ht25a, ht25b, ht28a, ht28b, ht29a, ht29b])))) | (refine wps_call [(.take, .const (.string (⟨#[32, 100, 101, 101, 112]⟩ : ByteArray))), (.take, .tmp 45)] rfl rfl ent42 (impl_ShowMeasure_1_ok _ _ hc27) fun K' hK' => ?_; simp [hN', hbx, hb, hd, hf, ht7a, ht7b, ht10a, ht10b, ht13a, ht13b, ht16a, ht16b, ht19a, ht19b, ht22a, ht22b, ht25a, ht25b, ht28a, ht28b, ht29a, ht29b]; exact hK' _ (wps_nil (hK _ (by simp [vsAt, hbx, ht7a, ht7b, ht10a, ht10b, ht13a, ht13b, ht16a, ht16b, ht19a, ht19b, ht22a, ht22b, ht25a, ht25b, ht28a, ht28b, ht29a, ht29b])))))
  refine wps_cons rfl fun K hK => ?_; simp [hN', ht7a, ht7b, ht10a, ht10b, ht13a, ht13b, ht16a, ht16b, ht19a, ht19b, ht22a, ht22b, ht25a, ht25b, ht28a, ht28b, ht29a, ht29b]; refine hK _ ?_; clear hK
  refine wps_nil (hK _ ?_); clear hK
  show SWp E C _ _ _
  cases h
  refine SWp.ret ?_
  simp [thenS, inBlockS, res12]
end Go.Proofs.T
set_option linter.unusedVariables false
set_option linter.unusedSimpArgs false
set_option maxHeartbeats 1000000
namespace Go.Proofs.T
open Go.OM
theorem res3 : Tryd.f3.results.toList = [.tmp 2] := rfl
theorem ent3 : Enters E.P 3 := enters_of Tryd.func3 (by simp [Tryd.f3]) rfl
theorem laws_FnExactShowMeasure_ok (aM1 : GMeasure) {r0 : Bool} (h : laws_FnExactShowMeasure aM1 = some r0) : Ok E 3 [.val (GMeasure.enc aM1)] [vb r0] [] := by
  refine ok_of_body (fn := Tryd.f3) Tryd.func3 rfl (by simp [Tryd.f3]) fun C hN hP => ?_
  have hPB : ∀ l, pinK [] l = true → pinB C.pin l = true := pinB_of (by rw [hP]; rfl)
  have hN' : C.N = 14 := hN
  clear hN
  unfold laws_FnExactShowMeasure at h
  refine SWp.seqR rfl (hPB _ rfl) fun K hK => ?_
  refine wps_cons rfl fun K hK => ?_; simp [hN']; refine hK _ ?_; clear hK
  refine wps_cons rfl fun K hK => ?_; simp [hN']; refine hK _ ?_; clear hK
  refine wps_nil (hK _ ?_); clear hK
  refine SWp.seqR rfl (hPB _ rfl) fun K hK => ?_
  refine wps_cons rfl fun K hK => ?_; simp [hN']; refine hK _ ?_; clear hK
  obtain ⟨r2, hc3, h⟩ := bind_some h
  refine wps_call [(.take, .tmp 5)] rfl rfl ent11 (laws_toMeasure_ok _ hc3) fun K hK => ?_; simp [hN']; refine hK _ ?_; clear hK
  obtain ⟨r4, hc5, h⟩ := bind_some h
  refine wps_call [(.take, .tmp 6)] rfl rfl ent10 (spec_ShowMeasure_ok _ hc5) fun K hK => ?_; simp [hN']; refine hK _ ?_; clear hK
  refine wps_cons rfl fun K hK => ?_; simp [hN']; refine hK _ ?_; clear hK
  refine wps_nil (hK _ ?_); clear hK
  refine SWp.seqR rfl (hPB _ rfl) fun K hK => ?_
  refine wps_cons rfl fun K hK => ?_; simp [hN']; refine hK _ ?_; clear hK
  obtain ⟨r6, hc7, h⟩ := bind_some h
  refine wps_call [(.take, .tmp 8)] rfl rfl ent11 (laws_toMeasure_ok _ hc7) fun K hK => ?_; simp [hN']; refine hK _ ?_; clear hK
  obtain ⟨r8, hc9, h⟩ := bind_some h
  refine wps_call [(.take, .tmp 9)] rfl rfl ent12 (impl_ShowMeasure_ok _ hc9) fun K hK => ?_; simp [hN']; refine hK _ ?_; clear hK
  refine wps_cons rfl fun K hK => ?_; simp [hN']; refine hK _ ?_; clear hK
  refine wps_nil (hK _ ?_); clear hK
  refine SWp.seq ?_
  refine SWp.seqR rfl (hPB _ rfl) fun K hK => ?_
  refine wps_cons rfl fun K hK => ?_; simp [hN']; refine hK _ ?_; clear hK
  refine wps_cons rfl fun K hK => ?_; simp [hN']; refine hK _ ?_; clear hK
  refine wps_cons rfl fun K hK => ?_; simp [hN']; refine hK _ ?_; clear hK
  refine wps_nil (hK _ ?_); clear hK
  rcases ite_or h with ⟨hb10, h⟩ | ⟨hb11, h⟩
  · refine SWp.condT' (b := !(sEq r8 r4)) (by simp) hb10 ?_
    refine SWp.seqR rfl (hPB _ rfl) fun K hK => ?_
    refine wps_cons rfl fun K hK => ?_; simp [hN']; refine hK _ ?_; clear hK
    refine wps_nil (hK _ ?_); clear hK
    cases h
    refine SWp.ret ?_
    simp [thenS, inBlockS, res3]
  · refine SWp.condF' (b := !(sEq r8 r4)) (by simp) hb11 ?_
    refine SWp.skip ?_
    show SWp E C _ _ _
    refine SWp.seqR rfl (hPB _ rfl) fun K hK => ?_
    refine wps_cons rfl fun K hK => ?_; simp [hN']; refine hK _ ?_; clear hK
    refine wps_nil (hK _ ?_); clear hK
    cases h
    refine SWp.ret ?_
    simp [thenS, inBlockS, res3]
end Go.Proofs.T
set_option linter.unusedVariables false
set_option linter.unusedSimpArgs false
namespace Go.OM
/-! ### Plain words on loops over rows -/
theorem w64 {n : Int} (h1 : -9223372036854775808 ≤ n) (h2 : n ≤ 9223372036854775807) : IntKind.wrap .i64 n = n := wrap64 h1 h2
theorem w64_succ {k n : Nat} (hk : k < n) (hn : n ≤ maxLen) : IntKind.wrap .i64 ((k : Int) + 1) = ((k + 1 : Nat) : Int) := by
  have hn' : n ≤ 9223372036854775807 := hn
  rw [w64 (by omega) (by omega)]; omega
@[simp] theorem getI_nat {α : Type} (l : List α) (k : Nat) : getI l (k : Int) = l[k]? := by simp [getI]
theorem getI_at {α : Type} {l : List α} {k : Nat} (hk : k < l.length) : getI l (k : Int) = some l[k] := by simp [hk]
theorem getI_zero {α : Type} (l : List α) : getI l 0 = l[0]? := by simp [getI]
theorem sEq_iff (x y : ByteArray) : sEq x y = decide (x = y) := by
  unfold sEq
  have hxy : x.toList = y.toList ↔ x = y := by
    constructor
    · intro h
      have hx : ∀ z : ByteArray, z.toList = z.data.toList := by
        intro z
        have loop : ∀ (n i : Nat) (r : List UInt8), z.size - i = n → ByteArray.toList.loop z i r = r.reverse ++ z.data.toList.drop i := by
          intro n
          induction n with
          | zero =>
            intro i r hn
            unfold ByteArray.toList.loop
            rw [if_neg (by omega), List.drop_eq_nil_of_le (by have : z.data.toList.length = z.size := Array.length_toList
                                                              omega)]
            simp
          | succ n ih =>
            intro i r hn
            unfold ByteArray.toList.loop
            rw [if_pos (by omega), ih (i + 1) _ (by omega)]
            have hlt : i < z.data.toList.length := by have : z.data.toList.length = z.size := Array.length_toList
                                                      omega
            rw [List.drop_eq_getElem_cons hlt]
            have hz : i < z.size := by omega
            simp [ByteArray.get!, Array.getElem!_eq_getD, Array.getD, hz]
        unfold ByteArray.toList
        rw [loop _ 0 [] rfl]; simp
      rw [hx, hx] at h
      cases x; cases y
      simp only [ByteArray.mk.injEq]
      exact Array.toList_inj.1 h
    · intro h; rw [h]
  by_cases h : x = y
  · simp [h]
  · have : ¬ (x.toList = y.toList) := fun e => h (hxy.1 e)
    simp [h, this]
theorem ofNat_lt_true {k n : Nat} (h : k < n) : decide ((k : Int) < (n : Int)) = true := by simpa using h
theorem len_not_lt (n : Nat) : decide ((n : Int) < (n : Int)) = false := by simp
/-- Sizes of a row. -/
theorem szS_gen {α : Type} (ok : α → Prop) (a : List α) (f : Int × Int → Option ((Int × Int) ⊕ (Int ⊕ Int))) (B : Int)
    (hf : ∀ (m : Int) (k : Nat) (h0 : 0 ≤ m) (h1 : m ≤ B) (hk : k < a.length), ∃ r, r ≤ m ∧ (0 ≤ r → ok a[k]) ∧ f (m, k) = some (if r < 0 then .inr (.inr (-1)) else .inl (r, ((k + 1 : Nat) : Int))))
    (he : ∀ m, f (m, a.length) = some (.inr (.inl m))) (n : Int) (h0 : 0 ≤ n) (h1 : n ≤ B) :
    ∃ j, loopP f (n, 0) = some j ∧ (j = .inr (-1) ∨ ∃ m, j = .inl m ∧ 0 ≤ m ∧ m ≤ n ∧ ∀ x ∈ a, ok x) := by
  refine loopP_run (f := f) (fun s : Int × Int => ∃ k : Nat, s.2 = k ∧ k ≤ a.length ∧ 0 ≤ s.1 ∧ s.1 ≤ n ∧ ∀ (j : Nat) (h : j < a.length), j < k → ok a[j]) (fun s => a.length - s.2.toNat) _ ?_ (n, 0) ⟨0, rfl, by omega, h0, by simp, fun j _ h => by omega⟩
  rintro ⟨m, i⟩ ⟨k, hi, hk, h2, h3, h4⟩
  simp only at hi h2 h3
  subst hi
  by_cases hlt : k < a.length
  · obtain ⟨r, r1, r2, r3⟩ := hf m k h2 (by omega) hlt
    rw [r3]
    by_cases hr : r < 0
    · right
      rw [if_pos hr]
      exact ⟨_, rfl, .inl rfl⟩
    · left
      rw [if_neg hr]
      refine ⟨_, rfl, ⟨k + 1, rfl, by omega, by simp only; omega, by simp only; omega, fun j h hj => ?_⟩, ?_⟩
      · by_cases e : j = k
        · subst e; exact r2 (by omega)
        · exact h4 j h (by omega)
      · simp only [Int.toNat_natCast]; omega
  · right
    have hke : k = a.length := by omega
    subst hke
    rw [he]
    refine ⟨_, rfl, .inr ⟨m, rfl, h2, h3, fun x hx => ?_⟩⟩
    obtain ⟨j, hj, rfl⟩ := List.mem_iff_getElem.1 hx
    exact h4 j hj hj
/-- Rows copied. -/
theorem toS_gen {α : Type} (a : List α) (z : α) (f : List α × Int → Option ((List α × Int) ⊕ List α))
    (hf : ∀ (out : List α) (k : Nat) (hk : k < a.length), out.length = a.length → f (out, k) = some (.inl (out.set k a[k], ((k + 1 : Nat) : Int))))
    (he : ∀ out, f (out, a.length) = some (.inr out)) : loopP f (List.replicate a.length z, 0) = some a := by
  obtain ⟨r, h1, h2⟩ := loopP_run (fun s : List α × Int => ∃ k : Nat, s.2 = k ∧ k ≤ a.length ∧ s.1.length = a.length ∧ ∀ j, j < k → s.1[j]? = a[j]?) (fun s => a.length - s.2.toNat) (fun r => r = a) (f := f) (by
    rintro ⟨out, i⟩ ⟨k, hi, hk, h2, h3⟩
    simp only at hi h2 h3
    subst hi
    by_cases hlt : k < a.length
    · left
      rw [hf out k hlt h2]
      refine ⟨_, rfl, ⟨k + 1, rfl, by omega, by simpa using h2, fun j hj => ?_⟩, by simp only [Int.toNat_natCast]; omega⟩
      simp only [List.getElem?_set]
      by_cases e : k = j
      · subst e; simp [h2, hlt]
      · rw [if_neg e]; exact h3 j (by omega)
    · right
      have hke : k = a.length := by omega
      subst hke
      rw [he]
      refine ⟨_, rfl, ?_⟩
      apply List.ext_getElem?
      intro j
      by_cases hj : j < a.length
      · exact h3 j hj
      · rw [List.getElem?_eq_none (by omega), List.getElem?_eq_none (by omega)]) (List.replicate a.length z, 0) ⟨0, rfl, by omega, by simp, fun j h => by omega⟩
  rw [h1, h2]
/-- Rows held against each other. -/
theorem eqS_gen {α : Type} (a b : List α) (p : α → α → Bool) (hp : ∀ x ∈ a, ∀ y, y ∈ b → (p x y = true ↔ x = y)) (hlen : a.length = b.length) (f : Int → Option (Int ⊕ (Unit ⊕ Bool)))
    (hf : ∀ (k : Nat) (hk : k < a.length) (hk2 : k < b.length), f k = some (if p a[k] b[k] = true then .inl ((k + 1 : Nat) : Int) else .inr (.inr false)))
    (he : f a.length = some (.inr (.inl ()))) : (a = b → loopP f 0 = some (.inl ())) ∧ (a ≠ b → loopP f 0 = some (.inr false)) := by
  obtain ⟨r, h1, h2⟩ := loopP_run (fun i : Int => ∃ k : Nat, i = k ∧ k ≤ a.length ∧ ∀ j, j < k → a[j]? = b[j]?) (fun i => a.length - i.toNat) (fun r => (r = .inl () ∧ a = b) ∨ (r = .inr false ∧ a ≠ b)) (f := f) (by
    rintro i ⟨k, rfl, hk, h3⟩
    by_cases hlt : k < a.length
    · have hlt2 : k < b.length := by omega
      rw [hf k hlt hlt2]
      by_cases hpk : p a[k] b[k] = true
      · left
        rw [if_pos hpk]
        refine ⟨_, rfl, ⟨k + 1, rfl, by omega, fun j hj => ?_⟩, by simp only [Int.toNat_natCast]; omega⟩
        by_cases e : j = k
        · subst e
          rw [List.getElem?_eq_getElem hlt, List.getElem?_eq_getElem hlt2, (hp _ (List.getElem_mem hlt) _ (List.getElem_mem hlt2)).1 hpk]
        · exact h3 j (by omega)
      · right
        rw [if_neg hpk]
        refine ⟨_, rfl, .inr ⟨rfl, fun e => hpk ?_⟩⟩
        subst e
        exact (hp _ (List.getElem_mem hlt) _ (List.getElem_mem hlt)).2 rfl
    · right
      have hke : k = a.length := by omega
      subst hke
      rw [he]
      refine ⟨_, rfl, .inl ⟨rfl, ?_⟩⟩
      apply List.ext_getElem?
      intro j
      by_cases hj : j < a.length
      · exact h3 j hj
      · rw [List.getElem?_eq_none (by omega), List.getElem?_eq_none (by omega)]) 0 ⟨0, rfl, by omega, fun j h => by omega⟩
  rcases h2 with ⟨e, hab⟩ | ⟨e, hab⟩
  · exact ⟨fun _ => by rw [h1, e], fun h => absurd hab h⟩
  · exact ⟨fun h => absurd h hab, fun _ => by rw [h1, e]⟩
theorem mkI_len {α : Type} (b : Int) (n : Nat) (z : α) (h1 : b * n ≤ 140737488355328) (h2 : (n : Int) ≤ 140737488355328) : mkI b (n : Int) z = some (List.replicate n z) := by
  unfold mkI
  rw [if_pos ⟨by omega, h1, h2⟩]
  simp
theorem bindS_def {α β : Type} (x : α) (f : α → β) : bindS x f = f x := rfl
end Go.OM
set_option linter.unusedVariables false
set_option linter.unusedSimpArgs false
namespace Go.OM
theorem wrap_u8 {n : Int} (h : 0 ≤ n) (h2 : n < 256) : IntKind.wrap .u8 n = n := by
  simp [IntKind.wrap, IntKind.bits, IntKind.signed]; omega
theorem sCat_ok {x y : ByteArray} (h : x.size + y.size ≤ 9223372036854775807) : sCat x y = some (x ++ y) := by unfold sCat; rw [if_pos h]
theorem size_mk (a : Array UInt8) : (ByteArray.mk a).size = a.size := rfl
theorem ba_ext {x y : ByteArray} (h : x.data.toList = y.data.toList) : x = y := by
  cases x; cases y
  simp only [ByteArray.mk.injEq]
  exact Array.toList_inj.1 h
theorem nDigits_le : ∀ (k u : Nat), u < 10 ^ (k + 1) → Lib.nDigits u ≤ k + 1
  | 0, u, h => by rw [Lib.nDigits_small (by simpa using h)]; omega
  | k + 1, u, h => by
    by_cases h10 : u < 10
    · rw [Lib.nDigits_small h10]; omega
    · rw [Lib.nDigits_big h10]
      have := nDigits_le k (u / 10) (by rw [Nat.pow_succ] at h; omega)
      omega
theorem decDigits_len {n : Nat} (h : n ≤ 9223372036854775807) : (Lib.decDigits n).length ≤ 19 := by
  rw [Lib.decDigits_length]
  exact nDigits_le 18 n (by omega)
def digs (m : Nat) : List UInt8 := if m = 0 then [] else Lib.decDigits m
theorem digs_step {m : Nat} (h : m ≠ 0) : digs m = digs (m / 10) ++ [UInt8.ofNat (48 + m % 10)] := by
  unfold digs
  rw [if_neg h]
  by_cases h10 : m < 10
  · rw [if_pos (by omega), Lib.decDigits_one h10, Nat.mod_eq_of_lt h10]; rfl
  · rw [if_neg (by omega)]
    conv => lhs; rw [Lib.decDigits, dif_neg h10]
theorem decimal_eq (n : Nat) (h : n ≤ 9223372036854775807) : spec_Decimal n = some ⟨(Lib.decDigits n).toArray⟩ := by
  unfold spec_Decimal
  by_cases h0 : n = 0
  · subst h0
    rw [Lib.decDigits_one (by omega)]; rfl
  · have hne : ((n : Int) == 0) = false := by simp; omega
    have hneg : decide ((n : Int) < 0) = false := by simp
    obtain ⟨r, h1, h2⟩ := loopP_run (f := spec_Decimal_l1) (fun s : Int × ByteArray => ∃ m : Nat, s.1 = m ∧ m ≤ n ∧ digs m ++ s.2.data.toList = Lib.decDigits n) (fun s => s.1.toNat) (fun r => r = ⟨(Lib.decDigits n).toArray⟩) (by
      rintro ⟨i, s⟩ ⟨m, hi, hm, hs⟩
      simp only at hi hs
      subst hi
      by_cases hz : m = 0
      · right
        subst hz
        refine ⟨s, by simp [spec_Decimal_l1], ?_⟩
        apply ba_ext
        rw [← hs]; simp [digs]
      · left
        have hb : ((m : Int) != 0) = true := by simp; omega
        have ht : Int.tmod (m : Int) 10 = ((m % 10 : Nat) : Int) := by rw [Int.tmod_eq_emod_of_nonneg (by omega)]; omega
        have hd : Int.tdiv (m : Int) 10 = ((m / 10 : Nat) : Int) := by rw [Int.tdiv_eq_ediv_of_nonneg (by omega)]; omega
        have hn0 : decide (((m % 10 : Nat) : Int) < 0) = false := by simp; omega
        have hlt : decide (((m % 10 : Nat) : Int) < 10) = true := by simp; omega
        have hw : IntKind.wrap .u8 (IntKind.wrap .i64 (48 + ((m % 10 : Nat) : Int))) = ((48 + m % 10 : Nat) : Int) := by
          rw [w64 (by omega) (by omega), wrap_u8 (by omega) (by omega)]; omega
        have hsz : s.size ≤ 19 := by
          have e1 := congrArg List.length hs
          have e2 := decDigits_len h
          have e3 : s.data.toList.length = s.size := Array.length_toList
          simp only [List.length_append] at e1
          omega
        have hsz2 : (bytesOf [((48 + m % 10 : Nat) : Int)]).size = 1 := rfl
        refine ⟨(((m / 10 : Nat) : Int), bytesOf [((48 + m % 10 : Nat) : Int)] ++ s), ?_, ⟨m / 10, rfl, by omega, ?_⟩, by simp only [Int.toNat_natCast]; omega⟩
        · simp only [spec_Decimal_l1, spec_l01Figure, hb, if_true, ht, hn0, Bool.false_eq_true, if_false, Option.bind_some, hlt, hw, hd]
          rw [sCat_ok (by omega), w64 (by omega) (by omega)]
          rfl
        · have hb2 : (bytesOf [((48 + m % 10 : Nat) : Int)]).data.toList = [UInt8.ofNat (48 + m % 10)] := by
            simp only [bytesOf, List.map_cons, List.map_nil, Int.toNat_natCast]
          rw [← hs, digs_step hz]
          simp only
          rw [ByteArray.data_append, Array.toList_append, hb2, List.append_assoc]) ((n : Int), ⟨#[]⟩) ⟨n, rfl, Nat.le_refl _, by simp [digs, h0]⟩
    rw [hne]
    simp only [Bool.false_eq_true, if_false]
    rw [h1, h2]
    simp only [Option.bind_some, hneg, Bool.false_eq_true, if_false]
/-- A number's text, no less than nought. -/
def num (x : Int) : ByteArray := ⟨(Lib.decDigits x.toNat).toArray⟩
theorem num_size (x : Int) (h : x ≤ 9223372036854775807) : (num x).size ≤ 19 := by
  show (Lib.decDigits x.toNat).toArray.size ≤ 19
  rw [List.size_toArray]
  exact decDigits_len (by omega)
theorem l25Num_eq (x : Int) (h : x ≤ 9223372036854775807) : spec_l25Num x = some (num x) := by
  unfold spec_l25Num
  by_cases h0 : x < 0
  · have hd : decide (x < 0) = true := by simp; omega
    rw [hd, if_pos rfl]
    unfold num
    rw [show x.toNat = 0 by omega, Lib.decDigits_one (by omega)]; rfl
  · have hd : decide (x < 0) = false := by simp; omega
    rw [hd]
    obtain ⟨n, rfl⟩ := Int.eq_ofNat_of_zero_le (show 0 ≤ x by omega)
    simp only [Bool.false_eq_true, if_false]
    rw [show spec_Decimal (n : Int) = _ from decimal_eq n (by omega)]
    rfl
theorem impl_num_eq (x : Int) (h : x ≤ 9223372036854775807) : impl_Decimal (if 0 > x then 0 else x) = some (num x) := by
  unfold impl_Decimal strconv_Itoa
  have e : (if 0 > x then 0 else x) = ((x.toNat : Nat) : Int) := by split <;> omega
  rw [e, if_pos ⟨by omega, by omega⟩]
  simp only [Option.bind_some]
  unfold Lib.itoa num
  rw [if_neg (by omega), Int.toNat_natCast]
def GMeasure.rng (m : GMeasure) : Prop := m.Fns ≤ 9223372036854775807 ∧ m.Nodes ≤ 9223372036854775807 ∧ m.Steps ≤ 9223372036854775807 ∧ m.Values ≤ 9223372036854775807 ∧ m.Blocks ≤ 9223372036854775807 ∧ m.Lets ≤ 9223372036854775807 ∧ m.News ≤ 9223372036854775807 ∧ m.Lends ≤ 9223372036854775807 ∧ m.Deep ≤ 9223372036854775807
theorem sCat_bind {α : Type} {x y : ByteArray} {n k : Nat} {f : ByteArray → Option α} {P : Option α → Prop} (hx : x.size ≤ n) (hy : y.size ≤ k) (hn : n + k ≤ 9223372036854775807)
    (h : ∀ z : ByteArray, z.size ≤ n + k → z.data.toList = x.data.toList ++ y.data.toList → P (f z)) : P ((sCat x y).bind f) := by
  rw [sCat_ok (by omega), Option.bind_some]
  exact h _ (by rw [ByteArray.size_append]; omega) (by rw [ByteArray.data_append, Array.toList_append])
theorem word_bind {α : Type} {s : ByteArray} {x : Int} {f : ByteArray → Option α} {P : Option α → Prop} (hs : s.size ≤ 20) (h : x ≤ 9223372036854775807)
    (H : ∀ z : ByteArray, z.size ≤ 40 → z.data.toList = s.data.toList ++ [32] ++ (num x).data.toList → P (f z)) : P ((impl_ShowMeasure_1 s x).bind f) := by
  have h1 := num_size x h
  have h2 : (⟨#[32]⟩ : ByteArray).size = 1 := rfl
  have e : impl_ShowMeasure_1 s x = some (s ++ ⟨#[32]⟩ ++ num x) := by
    unfold impl_ShowMeasure_1
    rw [sCat_ok (by omega)]
    simp only [Option.bind_some, impl_num_eq x h]
    rw [sCat_ok (by simp only [ByteArray.size_append]; omega)]
    rfl
  rw [e, Option.bind_some]
  exact H _ (by simp only [ByteArray.size_append]; omega) (by simp only [ByteArray.data_append, Array.toList_append])
theorem num_bind {α : Type} {x : Int} {f : ByteArray → Option α} {P : Option α → Prop} (h : x ≤ 9223372036854775807) (H : ∀ z : ByteArray, z = num x → z.size ≤ 19 → P (f z)) : P ((spec_l25Num x).bind f) := by
  rw [l25Num_eq x h, Option.bind_some]
  exact H _ rfl (num_size x h)
def showL (m : GMeasure) : List UInt8 := ([102, 110, 115, 32] : List UInt8) ++ (num m.Fns).data.toList ++ ([32, 110, 111, 100, 101, 115, 32] : List UInt8) ++ (num m.Nodes).data.toList ++ ([32, 115, 116, 101, 112, 115, 32] : List UInt8) ++ (num m.Steps).data.toList ++ ([32, 118, 97, 108, 117, 101, 115, 32] : List UInt8) ++ (num m.Values).data.toList ++ ([32, 98, 108, 111, 99, 107, 115, 32] : List UInt8) ++ (num m.Blocks).data.toList ++ ([32, 108, 101, 116, 115, 32] : List UInt8) ++ (num m.Lets).data.toList ++ ([32, 110, 101, 119, 115, 32] : List UInt8) ++ (num m.News).data.toList ++ ([32, 108, 101, 110, 100, 115, 32] : List UInt8) ++ (num m.Lends).data.toList ++ ([32, 100, 101, 101, 112, 32] : List UInt8) ++ (num m.Deep).data.toList ++ [10]
theorem spec_show (m : GMeasure) (hm : GMeasure.rng m) : ∃ z, spec_ShowMeasure m = some z ∧ z.data.toList = showL m := by
  obtain ⟨h1, h2, h3, h4, h5, h6, h7, h8, h9⟩ := hm
  unfold spec_ShowMeasure
  refine num_bind (P := fun o => ∃ z : ByteArray, o = some z ∧ z.data.toList = showL m) h1 fun a1 e1 b1 => ?_
  refine sCat_bind (P := fun o => ∃ z : ByteArray, o = some z ∧ z.data.toList = showL m) (n := 20) (k := 20) (by decide) (by omega) (by omega) fun t1 s1 d1 => ?_
  refine sCat_bind (P := fun o => ∃ z : ByteArray, o = some z ∧ z.data.toList = showL m) (n := 40) (k := 20) (by omega) (by decide) (by omega) fun t2 s2 d2 => ?_
  refine num_bind (P := fun o => ∃ z : ByteArray, o = some z ∧ z.data.toList = showL m) h2 fun a2 e2 b2 => ?_
  refine sCat_bind (P := fun o => ∃ z : ByteArray, o = some z ∧ z.data.toList = showL m) (n := 60) (k := 20) (by omega) (by omega) (by omega) fun t3 s3 d3 => ?_
  refine sCat_bind (P := fun o => ∃ z : ByteArray, o = some z ∧ z.data.toList = showL m) (n := 80) (k := 20) (by omega) (by decide) (by omega) fun t4 s4 d4 => ?_
  refine num_bind (P := fun o => ∃ z : ByteArray, o = some z ∧ z.data.toList = showL m) h3 fun a3 e3 b3 => ?_
  refine sCat_bind (P := fun o => ∃ z : ByteArray, o = some z ∧ z.data.toList = showL m) (n := 100) (k := 20) (by omega) (by omega) (by omega) fun t5 s5 d5 => ?_
  refine sCat_bind (P := fun o => ∃ z : ByteArray, o = some z ∧ z.data.toList = showL m) (n := 120) (k := 20) (by omega) (by decide) (by omega) fun t6 s6 d6 => ?_
  refine num_bind (P := fun o => ∃ z : ByteArray, o = some z ∧ z.data.toList = showL m) h4 fun a4 e4 b4 => ?_
  refine sCat_bind (P := fun o => ∃ z : ByteArray, o = some z ∧ z.data.toList = showL m) (n := 140) (k := 20) (by omega) (by omega) (by omega) fun t7 s7 d7 => ?_
  refine sCat_bind (P := fun o => ∃ z : ByteArray, o = some z ∧ z.data.toList = showL m) (n := 160) (k := 20) (by omega) (by decide) (by omega) fun t8 s8 d8 => ?_
  refine num_bind (P := fun o => ∃ z : ByteArray, o = some z ∧ z.data.toList = showL m) h5 fun a5 e5 b5 => ?_
  refine sCat_bind (P := fun o => ∃ z : ByteArray, o = some z ∧ z.data.toList = showL m) (n := 180) (k := 20) (by omega) (by omega) (by omega) fun t9 s9 d9 => ?_
  refine sCat_bind (P := fun o => ∃ z : ByteArray, o = some z ∧ z.data.toList = showL m) (n := 200) (k := 20) (by omega) (by decide) (by omega) fun t10 s10 d10 => ?_
  refine num_bind (P := fun o => ∃ z : ByteArray, o = some z ∧ z.data.toList = showL m) h6 fun a6 e6 b6 => ?_
  refine sCat_bind (P := fun o => ∃ z : ByteArray, o = some z ∧ z.data.toList = showL m) (n := 220) (k := 20) (by omega) (by omega) (by omega) fun t11 s11 d11 => ?_
  refine sCat_bind (P := fun o => ∃ z : ByteArray, o = some z ∧ z.data.toList = showL m) (n := 240) (k := 20) (by omega) (by decide) (by omega) fun t12 s12 d12 => ?_
  refine num_bind (P := fun o => ∃ z : ByteArray, o = some z ∧ z.data.toList = showL m) h7 fun a7 e7 b7 => ?_
  refine sCat_bind (P := fun o => ∃ z : ByteArray, o = some z ∧ z.data.toList = showL m) (n := 260) (k := 20) (by omega) (by omega) (by omega) fun t13 s13 d13 => ?_
  refine sCat_bind (P := fun o => ∃ z : ByteArray, o = some z ∧ z.data.toList = showL m) (n := 280) (k := 20) (by omega) (by decide) (by omega) fun t14 s14 d14 => ?_
  refine num_bind (P := fun o => ∃ z : ByteArray, o = some z ∧ z.data.toList = showL m) h8 fun a8 e8 b8 => ?_
  refine sCat_bind (P := fun o => ∃ z : ByteArray, o = some z ∧ z.data.toList = showL m) (n := 300) (k := 20) (by omega) (by omega) (by omega) fun t15 s15 d15 => ?_
  refine sCat_bind (P := fun o => ∃ z : ByteArray, o = some z ∧ z.data.toList = showL m) (n := 320) (k := 20) (by omega) (by decide) (by omega) fun t16 s16 d16 => ?_
  refine num_bind (P := fun o => ∃ z : ByteArray, o = some z ∧ z.data.toList = showL m) h9 fun a9 e9 b9 => ?_
  refine sCat_bind (P := fun o => ∃ z : ByteArray, o = some z ∧ z.data.toList = showL m) (n := 340) (k := 20) (by omega) (by omega) (by omega) fun t17 s17 d17 => ?_
  refine sCat_bind (P := fun o => ∃ z : ByteArray, o = some z ∧ z.data.toList = showL m) (n := 360) (k := 20) (by omega) (by decide) (by omega) fun t18 s18 d18 => ?_
  refine ⟨t18, rfl, ?_⟩
  rw [d18, d17, d16, d15, d14, d13, d12, d11, d10, d9, d8, d7, d6, d5, d4, d3, d2, d1]
  simp only [e1, e2, e3, e4, e5, e6, e7, e8, e9, showL, List.append_assoc]
theorem impl_show (m : GMeasure) (hm : GMeasure.rng m) : ∃ z, impl_ShowMeasure m = some z ∧ z.data.toList = showL m := by
  obtain ⟨h1, h2, h3, h4, h5, h6, h7, h8, h9⟩ := hm
  unfold impl_ShowMeasure
  refine word_bind (P := fun o => ∃ z : ByteArray, o = some z ∧ z.data.toList = showL m) (Nat.le_of_ble_eq_true rfl) h1 fun a1 b1 e1 => ?_
  refine word_bind (P := fun o => ∃ z : ByteArray, o = some z ∧ z.data.toList = showL m) (Nat.le_of_ble_eq_true rfl) h2 fun a2 b2 e2 => ?_
  refine sCat_bind (P := fun o => ∃ z : ByteArray, o = some z ∧ z.data.toList = showL m) (n := 40) (k := 40) (by omega) (by omega) (by omega) fun t1 s1 d1 => ?_
  refine word_bind (P := fun o => ∃ z : ByteArray, o = some z ∧ z.data.toList = showL m) (Nat.le_of_ble_eq_true rfl) h3 fun a3 b3 e3 => ?_
  refine sCat_bind (P := fun o => ∃ z : ByteArray, o = some z ∧ z.data.toList = showL m) (n := 80) (k := 40) (by omega) (by omega) (by omega) fun t2 s2 d2 => ?_
  refine word_bind (P := fun o => ∃ z : ByteArray, o = some z ∧ z.data.toList = showL m) (Nat.le_of_ble_eq_true rfl) h4 fun a4 b4 e4 => ?_
  refine sCat_bind (P := fun o => ∃ z : ByteArray, o = some z ∧ z.data.toList = showL m) (n := 120) (k := 40) (by omega) (by omega) (by omega) fun t3 s3 d3 => ?_
  refine word_bind (P := fun o => ∃ z : ByteArray, o = some z ∧ z.data.toList = showL m) (Nat.le_of_ble_eq_true rfl) h5 fun a5 b5 e5 => ?_
  refine sCat_bind (P := fun o => ∃ z : ByteArray, o = some z ∧ z.data.toList = showL m) (n := 160) (k := 40) (by omega) (by omega) (by omega) fun t4 s4 d4 => ?_
  refine word_bind (P := fun o => ∃ z : ByteArray, o = some z ∧ z.data.toList = showL m) (Nat.le_of_ble_eq_true rfl) h6 fun a6 b6 e6 => ?_
  refine sCat_bind (P := fun o => ∃ z : ByteArray, o = some z ∧ z.data.toList = showL m) (n := 200) (k := 40) (by omega) (by omega) (by omega) fun t5 s5 d5 => ?_
  refine word_bind (P := fun o => ∃ z : ByteArray, o = some z ∧ z.data.toList = showL m) (Nat.le_of_ble_eq_true rfl) h7 fun a7 b7 e7 => ?_
  refine sCat_bind (P := fun o => ∃ z : ByteArray, o = some z ∧ z.data.toList = showL m) (n := 240) (k := 40) (by omega) (by omega) (by omega) fun t6 s6 d6 => ?_
  refine word_bind (P := fun o => ∃ z : ByteArray, o = some z ∧ z.data.toList = showL m) (Nat.le_of_ble_eq_true rfl) h8 fun a8 b8 e8 => ?_
  refine sCat_bind (P := fun o => ∃ z : ByteArray, o = some z ∧ z.data.toList = showL m) (n := 280) (k := 40) (by omega) (by omega) (by omega) fun t7 s7 d7 => ?_
  refine word_bind (P := fun o => ∃ z : ByteArray, o = some z ∧ z.data.toList = showL m) (Nat.le_of_ble_eq_true rfl) h9 fun a9 b9 e9 => ?_
  refine sCat_bind (P := fun o => ∃ z : ByteArray, o = some z ∧ z.data.toList = showL m) (n := 320) (k := 40) (by omega) (by omega) (by omega) fun t8 s8 d8 => ?_
  refine sCat_bind (P := fun o => ∃ z : ByteArray, o = some z ∧ z.data.toList = showL m) (n := 360) (k := 20) (by omega) (by decide) (by omega) fun t9 s9 d9 => ?_
  refine ⟨t9, rfl, ?_⟩
  rw [d9, d8, d7, d6, d5, d4, d3, d2, d1, e1, e2, e3, e4, e5, e6, e7, e8, e9]
  simp only [showL, List.append_assoc, List.cons_append, List.nil_append]
theorem law_ShowMeasure (m : GMeasure) (hm : GMeasure.rng m) : laws_FnExactShowMeasure m = some true := by
  obtain ⟨a, h1, h2⟩ := spec_show m hm
  obtain ⟨b, h3, h4⟩ := impl_show m hm
  have e : b = a := ba_ext (h4.trans h2.symm)
  subst e
  unfold laws_FnExactShowMeasure laws_toMeasure
  simp only [Option.bind_some]
  rw [show spec_ShowMeasure ⟨m.Fns, m.Nodes, m.Steps, m.Values, m.Blocks, m.Lets, m.News, m.Lends, m.Deep⟩ = some b from h1, show impl_ShowMeasure ⟨m.Fns, m.Nodes, m.Steps, m.Values, m.Blocks, m.Lets, m.News, m.Lends, m.Deep⟩ = some b from h3]
  simp only [Option.bind_some, sEq_iff, decide_true, Bool.not_true, Bool.false_eq_true, if_false]
end Go.OM
set_option linter.unusedVariables false
namespace Go.Proofs.YtchcogjfmbfccaaDoor
open Go
theorem laidMet_tail {P : Program} {x : String × DataW Unit} {rest : List (String × DataW Unit)} {W : World} (h : laidMet P (x :: rest) W) : laidMet P rest W := by
  obtain ⟨ps, h1, h2, h3⟩ := h
  obtain ⟨g, t, cs, fuel, p, q, e1, e2, e3, e4, e5, rfl⟩ := h1
  exact ⟨q, e5, (List.nodup_append.1 h2).2.1, fun b off hm => h3 b off (List.mem_append_right _ hm)⟩
theorem gT : Tryd.prog.globalNamed "internal/strconv.uint64pow10" = some 0 := by kernel_rfl
theorem gTy : (Tryd.prog.globals[0]?).map (·.type) = some 155 := by kernel_rfl
theorem pow10_data : (Rows.laid_internal_strconv_uint64pow10 (H := Unit)) = Lib.tabData .u64 Lib.pow10Tab := by kernel_rfl
theorem pow10_of_laid {W : World} (h : laidMetH Tryd.prog Rows.fnExactShowMeasureRow.laid W) : Lib.TabIs Tryd.prog W "internal/strconv.uint64pow10" .u64 Lib.pow10Tab := by
  have h1 : laidMet Tryd.prog [("math/bits.deBruijn32tab", Rows.laid_math_bits_deBruijn32tab), ("math/bits.deBruijn64tab", Rows.laid_math_bits_deBruijn64tab), ("internal/strconv.uint64pow10", Rows.laid_internal_strconv_uint64pow10)] W := h
  have h2 := laidMet_tail (laidMet_tail h1)
  rw [pow10_data] at h2
  exact Lib.tabIs_of_head gT gTy Tryd.underlying155 Tryd.underlying148 (by kernel_rfl) (by kernel_rfl) h2
end Go.Proofs.YtchcogjfmbfccaaDoor
