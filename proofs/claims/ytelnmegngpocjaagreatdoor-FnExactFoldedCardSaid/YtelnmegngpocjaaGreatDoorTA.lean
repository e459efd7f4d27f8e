import Derived.Test.YtelnmegngpocjaaGreatDoorOmC
import Derived.Lib.Split
import Derived.Lib.ItoaNum
import Derived.Test.YtelnmegngpocjaaGreatDoorProg
import Derived.KernelRfl
set_option linter.unusedVariables false
set_option linter.unusedSimpArgs false
set_option linter.unusedVariables false
noncomputable section
namespace Go.OM
def strings_Split (s sep : ByteArray) : Option (List ByteArray) := if s.size < 4294967281 ∧ 1 ≤ sep.size ∧ (Lib.splitB sep 0 (Lib.countB s sep) s).length = Lib.countB s sep + 1 then some (Lib.splitB sep 0 (Lib.countB s sep) s) else none
end Go.OM
end
namespace Go.OM
end Go.OM
set_option linter.unusedSimpArgs false
namespace Go.OM
def recFuel : Nat := 1048576
abbrev vi (n : Int) : T := .v (.int .i64 n)
abbrev vk (k : IntKind) (n : Int) : T := .v (.int k n)
abbrev vb (b : Bool) : T := .v (.bool b)
abbrev vs (z : ByteArray) : T := .v (.string z)
abbrev eSl {α : Type} (o : Bool) (s : Nat) (f : α → T) (l : List α) : T := .sl o s (l.map f)
@[simp] theorem own_vi (l : List Int) : T.hasOwnL (l.map vi) = false := hasOwnL_map vi (fun _ => rfl) l
@[simp] theorem own_vk (k : IntKind) (l : List Int) : T.hasOwnL (l.map (vk k)) = false := hasOwnL_map _ (fun _ => rfl) l
@[simp] theorem own_vb (l : List Bool) : T.hasOwnL (l.map vb) = false := hasOwnL_map _ (fun _ => rfl) l
@[simp] theorem own_vs (l : List ByteArray) : T.hasOwnL (l.map vs) = false := hasOwnL_map _ (fun _ => rfl) l
@[simp] theorem ro_vi (l : List Int) : T.roL (l.map vi) = l.map vi := roL_map' _ _ (fun _ => rfl) l
@[simp] theorem ro_vk (k : IntKind) (l : List Int) : T.roL (l.map (vk k)) = l.map (vk k) := roL_map' _ _ (fun _ => rfl) l
@[simp] theorem ro_vb (l : List Bool) : T.roL (l.map vb) = l.map vb := roL_map' _ _ (fun _ => rfl) l
@[simp] theorem ro_vs (l : List ByteArray) : T.roL (l.map vs) = l.map vs := roL_map' _ _ (fun _ => rfl) l
@[simp] theorem noRo_vi (l : List Int) : T.noRoL (l.map vi) = true := noRoL_map _ (fun _ => rfl) l
@[simp] theorem noRo_vk (k : IntKind) (l : List Int) : T.noRoL (l.map (vk k)) = true := noRoL_map _ (fun _ => rfl) l
@[simp] theorem noRo_vb (l : List Bool) : T.noRoL (l.map vb) = true := noRoL_map _ (fun _ => rfl) l
@[simp] theorem noRo_vs (l : List ByteArray) : T.noRoL (l.map vs) = true := noRoL_map _ (fun _ => rfl) l
@[simp] theorem own_eSl {α : Type} {s : Nat} {f : α → T} (h : ∀ l : List α, T.hasOwnL (l.map f) = false) (l : List (List α)) : T.hasOwnL (l.map (eSl false s f)) = false := hasOwnL_map _ (fun x => by simp [h x]) l
@[simp] theorem ro_eSl {α : Type} {o : Bool} {s : Nat} {f : α → T} (h : ∀ l : List α, T.roL (l.map f) = l.map f) (l : List (List α)) : T.roL (l.map (eSl o s f)) = l.map (eSl false s f) := roL_map' _ _ (fun x => by simp [h x]) l
@[simp] theorem noRo_eSl {α : Type} {s : Nat} {f : α → T} (h : ∀ l : List α, T.noRoL (l.map f) = true) (l : List (List α)) : T.noRoL (l.map (eSl true s f)) = true := noRoL_map _ (fun x => by simp [h x]) l
theorem ite_or {α : Type} {c : Prop} [Decidable c] {a b : Option α} {r : α} (h : (if c then a else b) = some r) : (c ∧ a = some r) ∨ (¬ c ∧ b = some r) := by
 by_cases hc : c
 ·rw [if_pos hc] at h; exact .inl ⟨hc, h⟩
 ·rw [if_neg hc] at h; exact .inr ⟨hc, h⟩
structure GNode where
 Kind : Int
 Num : Int
 Name : ByteArray
 Kids : List Int
 deriving DecidableEq
def GNode.enc (o : Bool) (x : GNode) : T := .agg [vi x.Kind, vi x.Num, vs x.Name, .sl o 1 (List.map vi x.Kids)]
@[simp] theorem GNode.own (x : GNode) : (x.enc false).hasOwn = false := by simp [GNode.enc]
@[simp] theorem GNode.ownT (x : GNode) : (x.enc true).hasOwn = true := by simp [GNode.enc]
@[simp] theorem GNode.ownL (l : List GNode) : T.hasOwnL (l.map (GNode.enc false)) = false := hasOwnL_map _ (fun x => by simp) l
@[simp] theorem GNode.ro1 (o : Bool) (x : GNode) : (x.enc o).ro = x.enc false := by cases o <;> simp [GNode.enc, T.roL_map, Function.comp_def]
@[simp] theorem GNode.roL (o : Bool) (l : List GNode) : T.roL (l.map (GNode.enc o)) = l.map (GNode.enc false) := roL_map' _ _ (fun x => by simp) l
@[simp] theorem GNode.noRo (x : GNode) : (x.enc true).noRo = true := by simp [GNode.enc]
@[simp] theorem GNode.noRoL (l : List GNode) : T.noRoL (l.map (GNode.enc true)) = true := noRoL_map _ (fun x => by simp) l
structure GParam where
 Name : ByteArray
 Typ : Int
 deriving DecidableEq
def GParam.enc (x : GParam) : T := .agg [vs x.Name, vi x.Typ]
@[simp] theorem GParam.own (x : GParam) : x.enc.hasOwn = false := by simp [GParam.enc]
@[simp] theorem GParam.ownL (l : List GParam) : T.hasOwnL (l.map GParam.enc) = false := hasOwnL_map _ (fun x => by simp) l
@[simp] theorem GParam.ro1 (x : GParam) : x.enc.ro = x.enc := by simp [GParam.enc]
@[simp] theorem GParam.roL (l : List GParam) : T.roL (l.map GParam.enc) = l.map GParam.enc := roL_map' _ _ (fun x => by simp) l
@[simp] theorem GParam.noRo (x : GParam) : x.enc.noRo = true := by simp [GParam.enc]
@[simp] theorem GParam.noRoL (l : List GParam) : T.noRoL (l.map GParam.enc) = true := noRoL_map _ (fun x => by simp) l
structure GFn where
 Name : ByteArray
 Params : List GParam
 Res : Int
 Body : Int
 Ret : Int
 deriving DecidableEq
def GFn.enc (o : Bool) (x : GFn) : T := .agg [vs x.Name, .sl o 2 (List.map GParam.enc x.Params), vi x.Res, vi x.Body, vi x.Ret]
@[simp] theorem GFn.own (x : GFn) : (x.enc false).hasOwn = false := by simp [GFn.enc]
@[simp] theorem GFn.ownT (x : GFn) : (x.enc true).hasOwn = true := by simp [GFn.enc]
@[simp] theorem GFn.ownL (l : List GFn) : T.hasOwnL (l.map (GFn.enc false)) = false := hasOwnL_map _ (fun x => by simp) l
@[simp] theorem GFn.ro1 (o : Bool) (x : GFn) : (x.enc o).ro = x.enc false := by cases o <;> simp [GFn.enc, T.roL_map, Function.comp_def]
@[simp] theorem GFn.roL (o : Bool) (l : List GFn) : T.roL (l.map (GFn.enc o)) = l.map (GFn.enc false) := roL_map' _ _ (fun x => by simp) l
@[simp] theorem GFn.noRo (x : GFn) : (x.enc true).noRo = true := by simp [GFn.enc]
@[simp] theorem GFn.noRoL (l : List GFn) : T.noRoL (l.map (GFn.enc true)) = true := noRoL_map _ (fun x => by simp) l
structure GProgram where
 Nodes : List GNode
 Fns : List GFn
 deriving DecidableEq
def GProgram.enc (o : Bool) (x : GProgram) : T := .agg [.sl o 4 (List.map (GNode.enc o) x.Nodes), .sl o 5 (List.map (GFn.enc o) x.Fns)]
@[simp] theorem GProgram.own (x : GProgram) : (x.enc false).hasOwn = false := by simp [GProgram.enc]
@[simp] theorem GProgram.ownT (x : GProgram) : (x.enc true).hasOwn = true := by simp [GProgram.enc]
@[simp] theorem GProgram.ownL (l : List GProgram) : T.hasOwnL (l.map (GProgram.enc false)) = false := hasOwnL_map _ (fun x => by simp) l
@[simp] theorem GProgram.ro1 (o : Bool) (x : GProgram) : (x.enc o).ro = x.enc false := by cases o <;> simp [GProgram.enc, T.roL_map, Function.comp_def]
@[simp] theorem GProgram.roL (o : Bool) (l : List GProgram) : T.roL (l.map (GProgram.enc o)) = l.map (GProgram.enc false) := roL_map' _ _ (fun x => by simp) l
@[simp] theorem GProgram.noRo (x : GProgram) : (x.enc true).noRo = true := by simp [GProgram.enc]
@[simp] theorem GProgram.noRoL (l : List GProgram) : T.noRoL (l.map (GProgram.enc true)) = true := noRoL_map _ (fun x => by simp) l
structure Gl04Pack where
 from_ : List GNode
 to_ : List GNode
 bad : Bool
 deriving DecidableEq
def Gl04Pack.enc (o : Bool) (x : Gl04Pack) : T := .agg [.sl o 4 (List.map (GNode.enc o) x.from_), .sl o 4 (List.map (GNode.enc o) x.to_), vb x.bad]
@[simp] theorem Gl04Pack.own (x : Gl04Pack) : (x.enc false).hasOwn = false := by simp [Gl04Pack.enc]
@[simp] theorem Gl04Pack.ownT (x : Gl04Pack) : (x.enc true).hasOwn = true := by simp [Gl04Pack.enc]
@[simp] theorem Gl04Pack.ownL (l : List Gl04Pack) : T.hasOwnL (l.map (Gl04Pack.enc false)) = false := hasOwnL_map _ (fun x => by simp) l
@[simp] theorem Gl04Pack.ro1 (o : Bool) (x : Gl04Pack) : (x.enc o).ro = x.enc false := by cases o <;> simp [Gl04Pack.enc, T.roL_map, Function.comp_def]
@[simp] theorem Gl04Pack.roL (o : Bool) (l : List Gl04Pack) : T.roL (l.map (Gl04Pack.enc o)) = l.map (Gl04Pack.enc false) := roL_map' _ _ (fun x => by simp) l
@[simp] theorem Gl04Pack.noRo (x : Gl04Pack) : (x.enc true).noRo = true := by simp [Gl04Pack.enc]
@[simp] theorem Gl04Pack.noRoL (l : List Gl04Pack) : T.noRoL (l.map (Gl04Pack.enc true)) = true := noRoL_map _ (fun x => by simp) l
structure Gpacker where
 from_ : List GNode
 to_ : List GNode
 bad : Bool
 deriving DecidableEq
def Gpacker.enc (o : Bool) (x : Gpacker) : T := .agg [.sl o 4 (List.map (GNode.enc o) x.from_), .sl o 4 (List.map (GNode.enc o) x.to_), vb x.bad]
@[simp] theorem Gpacker.own (x : Gpacker) : (x.enc false).hasOwn = false := by simp [Gpacker.enc]
@[simp] theorem Gpacker.ownT (x : Gpacker) : (x.enc true).hasOwn = true := by simp [Gpacker.enc]
@[simp] theorem Gpacker.ownL (l : List Gpacker) : T.hasOwnL (l.map (Gpacker.enc false)) = false := hasOwnL_map _ (fun x => by simp) l
@[simp] theorem Gpacker.ro1 (o : Bool) (x : Gpacker) : (x.enc o).ro = x.enc false := by cases o <;> simp [Gpacker.enc, T.roL_map, Function.comp_def]
@[simp] theorem Gpacker.roL (o : Bool) (l : List Gpacker) : T.roL (l.map (Gpacker.enc o)) = l.map (Gpacker.enc false) := roL_map' _ _ (fun x => by simp) l
@[simp] theorem Gpacker.noRo (x : Gpacker) : (x.enc true).noRo = true := by simp [Gpacker.enc]
@[simp] theorem Gpacker.noRoL (l : List Gpacker) : T.noRoL (l.map (Gpacker.enc true)) = true := noRoL_map _ (fun x => by simp) l
attribute [simp] GNode.enc GParam.enc GFn.enc GProgram.enc Gl04Pack.enc Gpacker.enc
end Go.OM
noncomputable section
namespace Go.OM
def laws_szIntS (a1 : List Int) (left2 : Int) : Option (Int) :=
 if (decide (IntKind.wrap .i64 (left2 - (a1.length : Int)) < 0)) = true then
  some (-1)
 else
  some (IntKind.wrap .i64 (left2 - (a1.length : Int)))
def laws_szNode (a1 : GNode) (left2 : Int) : Option (Int) :=
 if (decide (IntKind.wrap .i64 (left2 - (a1.Name.size : Int)) < 0)) = true then
  some (-1)
 else
  (laws_szIntS a1.Kids (IntKind.wrap .i64 (left2 - (a1.Name.size : Int)))).bind fun r5 =>
  if (decide (r5 < 0)) = true then
   some (-1)
  else
   some r5
def laws_szNodeS_l1 (a1 : List GNode) : (Int × Int) → Option ((Int × Int) ⊕ ((Int) ⊕ (Int))) := fun ⟨left8, i9⟩ =>
 if (decide (i9 < (a1.length : Int))) = true then
  (getI a1 i9).bind fun e15 =>
  (laws_szNode e15 left8).bind fun r16 =>
  if (decide (r16 < 0)) = true then
   some (Sum.inr (Sum.inr (-1)))
  else
   some (Sum.inl (r16, IntKind.wrap .i64 (i9 + 1)))
 else
  some (Sum.inr (Sum.inl left8))
def laws_szNodeS (a1 : List GNode) (left2 : Int) : Option (Int) :=
 if (decide (IntKind.wrap .i64 (left2 - (a1.length : Int)) < 0)) = true then
  some (-1)
 else
  Option.bind (
   loopP (laws_szNodeS_l1 a1) (IntKind.wrap .i64 (left2 - (a1.length : Int)), 0)) fun j7 =>
  match j7 with
  | Sum.inr z => some z
  | Sum.inl left22 =>
   some left22
def laws_szParam (a1 : GParam) (left2 : Int) : Option (Int) :=
 if (decide (IntKind.wrap .i64 (left2 - (a1.Name.size : Int)) < 0)) = true then
  some (-1)
 else
  some (IntKind.wrap .i64 (left2 - (a1.Name.size : Int)))
def laws_szParamS_l1 (a1 : List GParam) : (Int × Int) → Option ((Int × Int) ⊕ ((Int) ⊕ (Int))) := fun ⟨left8, i9⟩ =>
 if (decide (i9 < (a1.length : Int))) = true then
  (getI a1 i9).bind fun e15 =>
  (laws_szParam e15 left8).bind fun r16 =>
  if (decide (r16 < 0)) = true then
   some (Sum.inr (Sum.inr (-1)))
  else
   some (Sum.inl (r16, IntKind.wrap .i64 (i9 + 1)))
 else
  some (Sum.inr (Sum.inl left8))
def laws_szParamS (a1 : List GParam) (left2 : Int) : Option (Int) :=
 if (decide (IntKind.wrap .i64 (left2 - (a1.length : Int)) < 0)) = true then
  some (-1)
 else
  Option.bind (
   loopP (laws_szParamS_l1 a1) (IntKind.wrap .i64 (left2 - (a1.length : Int)), 0)) fun j7 =>
  match j7 with
  | Sum.inr z => some z
  | Sum.inl left22 =>
   some left22
def laws_szFn (a1 : GFn) (left2 : Int) : Option (Int) :=
 if (decide (IntKind.wrap .i64 (left2 - (a1.Name.size : Int)) < 0)) = true then
  some (-1)
 else
  (laws_szParamS a1.Params (IntKind.wrap .i64 (left2 - (a1.Name.size : Int)))).bind fun r5 =>
  if (decide (r5 < 0)) = true then
   some (-1)
  else
   some r5
def laws_szFnS_l1 (a1 : List GFn) : (Int × Int) → Option ((Int × Int) ⊕ ((Int) ⊕ (Int))) := fun ⟨left8, i9⟩ =>
 if (decide (i9 < (a1.length : Int))) = true then
  (getI a1 i9).bind fun e15 =>
  (laws_szFn e15 left8).bind fun r16 =>
  if (decide (r16 < 0)) = true then
   some (Sum.inr (Sum.inr (-1)))
  else
   some (Sum.inl (r16, IntKind.wrap .i64 (i9 + 1)))
 else
  some (Sum.inr (Sum.inl left8))
def laws_szFnS (a1 : List GFn) (left2 : Int) : Option (Int) :=
 if (decide (IntKind.wrap .i64 (left2 - (a1.length : Int)) < 0)) = true then
  some (-1)
 else
  Option.bind (
   loopP (laws_szFnS_l1 a1) (IntKind.wrap .i64 (left2 - (a1.length : Int)), 0)) fun j7 =>
  match j7 with
  | Sum.inr z => some z
  | Sum.inl left22 =>
   some left22
def laws_szProgram (a1 : GProgram) (left2 : Int) : Option (Int) :=
 (laws_szNodeS a1.Nodes left2).bind fun r3 =>
 if (decide (r3 < 0)) = true then
  some (-1)
 else
  (laws_szFnS a1.Fns r3).bind fun r7 =>
  if (decide (r7 < 0)) = true then
   some (-1)
  else
   some r7
def spec_l01In (x1 : Int) (least2 : Int) (most3 : Int) : Option (Bool) :=
 Option.bind (
  if (decide (x1 ≥ least2)) = true then
   some (decide (x1 ≤ most3))
  else
   some false) fun v8 =>
 some v8
def spec_l03Letter (b1 : Int) : Option (Bool) :=
 Option.bind (
  if (decide (b1 ≥ 97)) = true then
   some (decide (b1 ≤ 122))
  else
   some false) fun v6 =>
 some v6
def spec_l03Keys : Option (List ByteArray) :=
 some [(⟨#[102, 110]⟩ : ByteArray), (⟨#[108, 101, 116]⟩ : ByteArray), (⟨#[105, 102]⟩ : ByteArray), (⟨#[101, 108, 115, 101]⟩ : ByteArray), (⟨#[119, 104, 105, 108, 101]⟩ : ByteArray), (⟨#[112, 114, 105, 110, 116]⟩ : ByteArray), (⟨#[100, 111]⟩ : ByteArray), (⟨#[110, 101, 119]⟩ : ByteArray), (⟨#[99, 108, 111, 110, 101]⟩ : ByteArray), (⟨#[109, 117, 116]⟩ : ByteArray), (⟨#[105, 110, 112, 117, 116]⟩ : ByteArray), (⟨#[105, 110, 116]⟩ : ByteArray), (⟨#[98, 111, 120]⟩ : ByteArray), (⟨#[114, 101, 116]⟩ : ByteArray)]
def spec_KeyWord_l1 (s1 : ByteArray) (r2 : List ByteArray) : Int → Option ((Int) ⊕ ((Unit) ⊕ (Bool))) := fun i7 =>
 if (decide (i7 < (r2.length : Int))) = true then
  (getI r2 i7).bind fun e13 =>
  if (sEq e13 s1) = true then
   some (Sum.inr (Sum.inr true))
  else
   some (Sum.inl (IntKind.wrap .i64 (i7 + 1)))
 else
  some (Sum.inr (Sum.inl ()))
def spec_KeyWord (s1 : ByteArray) : Option (Bool) :=
 (spec_l03Keys ).bind fun r2 =>
 Option.bind (
  loopP (spec_KeyWord_l1 s1 r2) 0) fun j6 =>
 match j6 with
 | Sum.inr z => some z
 | Sum.inl () =>
  some false
def spec_l03Figure (b1 : Int) : Option (Bool) :=
 Option.bind (
  if (decide (b1 ≥ 48)) = true then
   some (decide (b1 ≤ 57))
  else
   some false) fun v6 =>
 some v6
def spec_NameOk_l1 (s1 : ByteArray) : Int → Option ((Int) ⊕ ((Unit) ⊕ (Bool))) := fun i21 =>
 if (decide (i21 < (s1.size : Int))) = true then
  Option.bind (
   (sAt s1 i21).bind fun c29 =>
   (spec_l03Letter c29).bind fun r30 =>
   if (!r30) = true then
    (spec_l03Figure c29).bind fun r34 =>
    some (!r34)
   else
    some false) fun v36 =>
  if v36 = true then
   some (Sum.inr (Sum.inr false))
  else
   some (Sum.inl (IntKind.wrap .i64 (i21 + 1)))
 else
  some (Sum.inr (Sum.inl ()))
def spec_NameOk (s1 : ByteArray) : Option (Bool) :=
 Option.bind (
  (spec_l01In (s1.size : Int) 1 8).bind fun r4 =>
  if (!r4) = true then
   some true
  else
   (sAt s1 0).bind fun c8 =>
   (spec_l03Letter c8).bind fun r9 =>
   if (!r9) = true then
    some true
   else
    (spec_KeyWord s1).bind fun r13 =>
    some r13) fun v15 =>
 if v15 = true then
  some false
 else
  Option.bind (
   loopP (spec_NameOk_l1 s1) 0) fun j20 =>
  match j20 with
  | Sum.inr z => some z
  | Sum.inl () =>
   some true
def spec_l04Kids (kind1 : Int) : Option (Int × Int) :=
 Option.bind (
  if (kind1 == 8) = true then
   some (kind1 == 8)
  else
   if (kind1 == 13) = true then
    some (kind1 == 13)
   else
    if (kind1 == 14) = true then
     some (kind1 == 14)
    else
     if (kind1 == 15) = true then
      some (kind1 == 15)
     else
      if (kind1 == 18) = true then
       some (kind1 == 18)
      else
       some (kind1 == 19)) fun v15 =>
 if v15 = true then
  some (1, 1)
 else
  Option.bind (
   if (kind1 == 9) = true then
    some (kind1 == 9)
   else
    if (kind1 == 10) = true then
     some (kind1 == 10)
    else
     if (kind1 == 11) = true then
      some (kind1 == 11)
     else
      some (kind1 == 17)) fun v27 =>
  if v27 = true then
   some (2, 2)
  else
   if (kind1 == 12) = true then
    some (0, 3)
   else
    if (kind1 == 16) = true then
     some (3, 3)
    else
     if (kind1 == 20) = true then
      some (0, 12)
     else
      some (0, 0)
def spec_l04Named (kind1 : Int) : Option (Bool) :=
 Option.bind (
  if (kind1 == 2) = true then
   some (kind1 == 2)
  else
   if (kind1 == 3) = true then
    some (kind1 == 3)
   else
    if (kind1 == 4) = true then
     some (kind1 == 4)
    else
     if (kind1 == 5) = true then
      some (kind1 == 5)
     else
      if (kind1 == 6) = true then
       some (kind1 == 6)
      else
       if (kind1 == 12) = true then
        some (kind1 == 12)
       else
        if (kind1 == 13) = true then
         some (kind1 == 13)
        else
         if (kind1 == 14) = true then
          some (kind1 == 14)
         else
          some (kind1 == 15)) fun v21 =>
 if v21 = true then
  some true
 else
  some false
def spec_l04Value (kind1 : Int) : Option (Bool) :=
 (spec_l01In kind1 1 12).bind fun r2 =>
 some r2
def spec_l04Statement (kind1 : Int) : Option (Bool) :=
 (spec_l01In kind1 13 19).bind fun r2 =>
 some r2
def spec_l04Fits (kind1 : Int) (at2 : Int) (kid3 : Int) : Option (Bool) :=
 if (kind1 == 20) = true then
  (spec_l04Statement kid3).bind fun r6 =>
  some r6
 else
  Option.bind (
   if (kind1 == 16) = true then
    some (kind1 == 16)
   else
    some (kind1 == 17)) fun v13 =>
  if v13 = true then
   if (decide (at2 > 0)) = true then
    some (kid3 == 20)
   else
    (spec_l04Value kid3).bind fun r18 =>
    some r18
  else
   if (kind1 == 19) = true then
    some (kid3 == 12)
   else
    (spec_l04Value kid3).bind fun r22 =>
    some r22
def spec_NodeOk_l2 (e15 : GNode) (i50 : Int) : Int → Option ((Int) ⊕ ((Unit) ⊕ ((Int) ⊕ ((Unit) ⊕ (Bool))))) := fun j73 =>
 if (decide (j73 < i50)) = true then
  (getI e15.Kids i50).bind fun e80 =>
  (getI e15.Kids j73).bind fun e81 =>
  if (e80 == e81) = true then
   some (Sum.inr (Sum.inr (Sum.inr (Sum.inr false))))
  else
   some (Sum.inl (IntKind.wrap .i64 (j73 + 1)))
 else
  some (Sum.inr (Sum.inl ()))
def spec_NodeOk_l1 (nodes1 : List GNode) (k2 : Int) (e15 : GNode) : Int → Option ((Int) ⊕ ((Unit) ⊕ (Bool))) := fun i50 =>
 if (decide (i50 < (e15.Kids.length : Int))) = true then
  Option.bind (
   Option.bind (
    (getI e15.Kids i50).bind fun e61 =>
    (spec_l01In e61 0 (IntKind.wrap .i64 (k2 - 1))).bind fun r62 =>
    if (!r62) = true then
     some true
    else
     (getI nodes1 e61).bind fun e66 =>
     (spec_l04Fits e15.Kind i50 e66.Kind).bind fun r67 =>
     some (!r67)) fun v69 =>
   if v69 = true then
    some (Sum.inr (Sum.inr (Sum.inr false)))
   else
    loopP (spec_NodeOk_l2 e15 i50) 0) fun j58 =>
  match j58 with
  | Sum.inr z => some z
  | Sum.inl () =>
   some (Sum.inl (IntKind.wrap .i64 (i50 + 1)))
 else
  some (Sum.inr (Sum.inl ()))
def spec_NodeOk (nodes1 : List GNode) (k2 : Int) : Option (Bool) :=
 Option.bind (
  (spec_l01In k2 0 (IntKind.wrap .i64 ((nodes1.length : Int) - 1))).bind fun r5 =>
  if (!r5) = true then
   some true
  else
   (getI nodes1 k2).bind fun e9 =>
   (spec_l01In e9.Kind 1 20).bind fun r10 =>
   some (!r10)) fun v12 =>
 if v12 = true then
  some false
 else
  (getI nodes1 k2).bind fun e15 =>
  (spec_l04Kids e15.Kind).bind fun ⟨r16, r17⟩ =>
  Option.bind (
   (spec_l01In (e15.Kids.length : Int) r16 r17).bind fun r21 =>
   if (!r21) = true then
    some true
   else
    (spec_l01In e15.Num 0 1000000000).bind fun r25 =>
    if (!r25) = true then
     some true
    else
     if (e15.Kind != 1) = true then
      some (e15.Num != 0)
     else
      some false) fun v31 =>
  if v31 = true then
   some false
  else
   Option.bind (
    (spec_l04Named e15.Kind).bind fun r36 =>
    if (!(r36 == (!(sEq e15.Name (⟨#[]⟩ : ByteArray))))) = true then
     some true
    else
     if (!(sEq e15.Name (⟨#[]⟩ : ByteArray))) = true then
      (spec_NameOk e15.Name).bind fun r42 =>
      some (!r42)
     else
      some false) fun v44 =>
   if v44 = true then
    some false
   else
    Option.bind (
     loopP (spec_NodeOk_l1 nodes1 k2 e15) 0) fun j49 =>
    match j49 with
    | Sum.inr z => some z
    | Sum.inl () =>
     some true
def spec_l04Deeps_l2 (nodes1 : List GNode) (out6 : List Int) (i7 : Int) : (Int × Int) → Option ((Int × Int) ⊕ (Int)) := fun ⟨deep40, j41⟩ =>
 Option.bind (
  if (decide (deep40 > 0)) = true then
   (getI nodes1 i7).bind fun e49 =>
   some (decide (j41 < (e49.Kids.length : Int)))
  else
   some false) fun v50 =>
 if v50 = true then
  (getI nodes1 i7).bind fun e53 =>
  (getI e53.Kids j41).bind fun e54 =>
  (getI out6 e54).bind fun e55 =>
  if (decide (IntKind.wrap .i64 (e55 + 1) > deep40)) = true then
   (getI nodes1 i7).bind fun e58 =>
   (getI e58.Kids j41).bind fun e59 =>
   (getI out6 e59).bind fun e60 =>
   some (Sum.inl (IntKind.wrap .i64 (e60 + 1), IntKind.wrap .i64 (j41 + 1)))
  else
   some (Sum.inl (deep40, IntKind.wrap .i64 (j41 + 1)))
 else
  some (Sum.inr deep40)
def spec_l04Deeps_l1 (nodes1 : List GNode) (k2 : Int) : ((List Int) × Int) → Option (((List Int) × Int) ⊕ (List Int)) := fun ⟨out6, i7⟩ =>
 Option.bind (
  if (decide (i7 ≤ k2)) = true then
   some (decide (i7 < (nodes1.length : Int)))
  else
   some false) fun v15 =>
 if v15 = true then
  Option.bind (
   Option.bind (
    Option.bind (
     (spec_NodeOk nodes1 i7).bind fun r26 =>
     if (!r26) = true then
      some true
     else
      if (decide (i7 > 0)) = true then
       (getI out6 (IntKind.wrap .i64 (i7 - 1))).bind fun e32 =>
       some (e32 == 0)
      else
       some false) fun v33 =>
    if v33 = true then
     some 0
    else
     some 1) fun deep36 =>
   Option.bind (
    loopP (spec_l04Deeps_l2 nodes1 out6 i7) (deep36, 0)) fun deep62 =>
   Option.bind (
    if (decide (deep62 > 10)) = true then
     some 0
    else
     some deep62) fun deep68 =>
   (appI 8 out6 [deep68]).bind fun l69 =>
   some l69) fun out70 =>
  some (Sum.inl (out70, IntKind.wrap .i64 (i7 + 1)))
 else
  some (Sum.inr out6)
def spec_l04Deeps (nodes1 : List GNode) (k2 : Int) : Option (List Int) :=
 Option.bind (
  loopP (spec_l04Deeps_l1 nodes1 k2) ([], 0)) fun out72 =>
 some out72
def laws_toIntS_l1 (a1 : List Int) : ((List Int) × Int) → Option (((List Int) × Int) ⊕ (List Int)) := fun ⟨out6, i7⟩ =>
 if (decide (i7 < (a1.length : Int))) = true then
  (getI a1 i7).bind fun e13 =>
  (getI out6 i7).bind fun e14 =>
  bindS (List.set out6 i7.toNat e13) fun l15 =>
  some (Sum.inl (l15, IntKind.wrap .i64 (i7 + 1)))
 else
  some (Sum.inr out6)
def laws_toIntS (a1 : List Int) : Option (List Int) :=
 (mkI 8 (a1.length : Int) 0).bind fun l2 =>
 Option.bind (
  loopP (laws_toIntS_l1 a1) (l2, 0)) fun out17 =>
 some out17
def laws_toNode (a1 : GNode) : Option (GNode) :=
 (laws_toIntS a1.Kids).bind fun r2 =>
 some (⟨a1.Kind, a1.Num, a1.Name, r2⟩ : GNode)
def laws_toNodeS_l1 (a1 : List GNode) : ((List GNode) × Int) → Option (((List GNode) × Int) ⊕ (List GNode)) := fun ⟨out6, i7⟩ =>
 if (decide (i7 < (a1.length : Int))) = true then
  (getI a1 i7).bind fun e13 =>
  (laws_toNode e13).bind fun r14 =>
  (getI out6 i7).bind fun e16 =>
  bindS (List.set out6 i7.toNat r14) fun l17 =>
  some (Sum.inl (l17, IntKind.wrap .i64 (i7 + 1)))
 else
  some (Sum.inr out6)
def laws_toNodeS (a1 : List GNode) : Option (List GNode) :=
 (mkI 56 (a1.length : Int) (⟨0, 0, ByteArray.empty, []⟩ : GNode)).bind fun l2 =>
 Option.bind (
  loopP (laws_toNodeS_l1 a1) (l2, 0)) fun out19 =>
 some out19
def laws_toParam (a1 : GParam) : Option (GParam) :=
 some (⟨a1.Name, a1.Typ⟩ : GParam)
def laws_toParamS_l1 (a1 : List GParam) : ((List GParam) × Int) → Option (((List GParam) × Int) ⊕ (List GParam)) := fun ⟨out6, i7⟩ =>
 if (decide (i7 < (a1.length : Int))) = true then
  (getI a1 i7).bind fun e13 =>
  (laws_toParam e13).bind fun r14 =>
  (getI out6 i7).bind fun e16 =>
  bindS (List.set out6 i7.toNat r14) fun l17 =>
  some (Sum.inl (l17, IntKind.wrap .i64 (i7 + 1)))
 else
  some (Sum.inr out6)
def laws_toParamS (a1 : List GParam) : Option (List GParam) :=
 (mkI 24 (a1.length : Int) (⟨ByteArray.empty, 0⟩ : GParam)).bind fun l2 =>
 Option.bind (
  loopP (laws_toParamS_l1 a1) (l2, 0)) fun out19 =>
 some out19
def laws_toFn (a1 : GFn) : Option (GFn) :=
 (laws_toParamS a1.Params).bind fun r2 =>
 some (⟨a1.Name, r2, a1.Res, a1.Body, a1.Ret⟩ : GFn)
def laws_toFnS_l1 (a1 : List GFn) : ((List GFn) × Int) → Option (((List GFn) × Int) ⊕ (List GFn)) := fun ⟨out6, i7⟩ =>
 if (decide (i7 < (a1.length : Int))) = true then
  (getI a1 i7).bind fun e13 =>
  (laws_toFn e13).bind fun r14 =>
  (getI out6 i7).bind fun e16 =>
  bindS (List.set out6 i7.toNat r14) fun l17 =>
  some (Sum.inl (l17, IntKind.wrap .i64 (i7 + 1)))
 else
  some (Sum.inr out6)
def laws_toFnS (a1 : List GFn) : Option (List GFn) :=
 (mkI 64 (a1.length : Int) (⟨ByteArray.empty, [], 0, 0, 0⟩ : GFn)).bind fun l2 =>
 Option.bind (
  loopP (laws_toFnS_l1 a1) (l2, 0)) fun out19 =>
 some out19
def laws_toProgram (a1 : GProgram) : Option (GProgram) :=
 (laws_toNodeS a1.Nodes).bind fun r2 =>
 (laws_toFnS a1.Fns).bind fun r4 =>
 some (⟨r2, r4⟩ : GProgram)
def impl_hasInt_l1 (l1 : List Int) (n2 : Int) : Int → Option ((Int) ⊕ ((Unit) ⊕ (Bool))) := fun v6 =>
 if (decide (v6 < (l1.length : Int))) = true then
  (getI l1 v6).bind fun e12 =>
  if (e12 == n2) = true then
   some (Sum.inr (Sum.inr true))
  else
   some (Sum.inl (IntKind.wrap .i64 (v6 + 1)))
 else
  some (Sum.inr (Sum.inl ()))
def impl_hasInt (l1 : List Int) (n2 : Int) : Option (Bool) :=
 Option.bind (
  loopP (impl_hasInt_l1 l1 n2) 0) fun j5 =>
 match j5 with
 | Sum.inr z => some z
 | Sum.inl () =>
  some false
def impl_in (n1 : Int) (low2 : Int) (high3 : Int) : Option (Bool) :=
 Option.bind (
  if (decide (n1 ≥ low2)) = true then
   some (decide (n1 ≤ high3))
  else
   some false) fun v8 =>
 some v8
def impl_isLetter (b1 : Int) : Option (Bool) :=
 Option.bind (
  if (decide (b1 ≥ 97)) = true then
   some (decide (b1 ≤ 122))
  else
   some false) fun v6 =>
 some v6
def impl_isFigure (b1 : Int) : Option (Bool) :=
 Option.bind (
  if (decide (b1 ≥ 48)) = true then
   some (decide (b1 ≤ 57))
  else
   some false) fun v6 =>
 some v6
def impl_oneOf_l1 (s1 : ByteArray) (r6 : List ByteArray) : Int → Option ((Int) ⊕ ((Unit) ⊕ (Bool))) := fun v8 =>
 if (decide (v8 < (r6.length : Int))) = true then
  (getI r6 v8).bind fun e14 =>
  if (sEq e14 s1) = true then
   some (Sum.inr (Sum.inr true))
  else
   some (Sum.inl (IntKind.wrap .i64 (v8 + 1)))
 else
  some (Sum.inr (Sum.inl ()))
def impl_oneOf (s1 : ByteArray) (words2 : ByteArray) : Option (Bool) :=
 Option.bind (
  (strings_Split words2 (⟨#[32]⟩ : ByteArray)).bind fun r6 =>
  loopP (impl_oneOf_l1 s1 r6) 0) fun j5 =>
 match j5 with
 | Sum.inr z => some z
 | Sum.inl () =>
  some false
def impl_KeyWord (s1 : ByteArray) : Option (Bool) :=
 (impl_oneOf s1 (⟨#[102, 110, 32, 108, 101, 116, 32, 105, 102, 32, 101, 108, 115, 101, 32, 119, 104, 105, 108, 101, 32, 112, 114, 105, 110, 116, 32, 100, 111, 32, 110, 101, 119, 32, 99, 108, 111, 110, 101, 32, 109, 117, 116, 32, 105, 110, 112, 117, 116, 32, 105, 110, 116, 32, 98, 111, 120, 32, 114, 101, 116]⟩ : ByteArray)).bind fun r2 =>
 some r2
def impl_NameOk_l1 (s1 : ByteArray) : Int → Option ((Int) ⊕ ((Unit) ⊕ (Bool))) := fun i17 =>
 if (decide (i17 < (s1.size : Int))) = true then
  Option.bind (
   (sAt s1 i17).bind fun c25 =>
   (impl_isLetter c25).bind fun r26 =>
   if (!r26) = true then
    (impl_isFigure c25).bind fun r30 =>
    some (!r30)
   else
    some false) fun v32 =>
  if v32 = true then
   some (Sum.inr (Sum.inr false))
  else
   some (Sum.inl (IntKind.wrap .i64 (i17 + 1)))
 else
  some (Sum.inr (Sum.inl ()))
def impl_NameOk (s1 : ByteArray) : Option (Bool) :=
 Option.bind (
  (impl_in (s1.size : Int) 1 8).bind fun r4 =>
  if (!r4) = true then
   some true
  else
   (sAt s1 0).bind fun c8 =>
   (impl_isLetter c8).bind fun r9 =>
   some (!r9)) fun v11 =>
 if v11 = true then
  some false
 else
  Option.bind (
   loopP (impl_NameOk_l1 s1) 0) fun j16 =>
  match j16 with
  | Sum.inr z => some z
  | Sum.inl () =>
   (impl_KeyWord s1).bind fun r37 =>
   some (!r37)
def impl_shape (kind1 : Int) : Option (Int × Int) :=
 Option.bind (
  if (kind1 == 8) = true then
   some (kind1 == 8)
  else
   if (kind1 == 13) = true then
    some (kind1 == 13)
   else
    if (kind1 == 14) = true then
     some (kind1 == 14)
    else
     if (kind1 == 15) = true then
      some (kind1 == 15)
     else
      if (kind1 == 18) = true then
       some (kind1 == 18)
      else
       some (kind1 == 19)) fun v15 =>
 if v15 = true then
  some (1, 1)
 else
  Option.bind (
   if (kind1 == 9) = true then
    some (kind1 == 9)
   else
    if (kind1 == 10) = true then
     some (kind1 == 10)
    else
     if (kind1 == 11) = true then
      some (kind1 == 11)
     else
      some (kind1 == 17)) fun v27 =>
  if v27 = true then
   some (2, 2)
  else
   if (kind1 == 16) = true then
    some (3, 3)
   else
    if (kind1 == 12) = true then
     some (0, 3)
    else
     if (kind1 == 20) = true then
      some (0, 12)
     else
      some (0, 0)
def impl_isValue (kind1 : Int) : Option (Bool) :=
 (impl_in kind1 1 12).bind fun r2 =>
 some r2
def impl_isStep (kind1 : Int) : Option (Bool) :=
 (impl_in kind1 13 19).bind fun r2 =>
 some r2
def impl_kidFits (kind1 : Int) (i2 : Int) (kid3 : Int) : Option (Bool) :=
 if (kind1 == 20) = true then
  (impl_isStep kid3).bind fun r6 =>
  some r6
 else
  Option.bind (
   if (kind1 == 16) = true then
    some (decide (i2 > 0))
   else
    if (kind1 == 17) = true then
     some (decide (i2 > 0))
    else
     some false) fun v14 =>
  if v14 = true then
   some (kid3 == 20)
  else
   if (kind1 == 19) = true then
    some (kid3 == 12)
   else
    (impl_isValue kid3).bind fun r19 =>
    some r19
def impl_hasName (kind1 : Int) : Option (Bool) :=
 Option.bind (
  (impl_in kind1 2 6).bind fun r4 =>
  if r4 = true then
   some true
  else
   (impl_in kind1 12 15).bind fun r8 =>
   some r8) fun v10 =>
 some v10
def impl_NodeOk_l1 (nodes1 : List GNode) (k2 : Int) (e7 : GNode) : Int → Option ((Int) ⊕ ((Unit) ⊕ (Bool))) := fun v25 =>
 if (decide (v25 < (e7.Kids.length : Int))) = true then
  (getI e7.Kids v25).bind fun e31 =>
  Option.bind (
   (impl_in e31 0 (IntKind.wrap .i64 (k2 - 1))).bind fun r34 =>
   if (!r34) = true then
    some true
   else
    (subI e7.Kids 0 v25).bind fun l38 =>
    (impl_hasInt l38 e31).bind fun r39 =>
    if r39 = true then
     some true
    else
     (getI nodes1 e31).bind fun e43 =>
     (impl_kidFits e7.Kind v25 e43.Kind).bind fun r44 =>
     some (!r44)) fun v46 =>
  if v46 = true then
   some (Sum.inr (Sum.inr false))
  else
   some (Sum.inl (IntKind.wrap .i64 (v25 + 1)))
 else
  some (Sum.inr (Sum.inl ()))
def impl_NodeOk (nodes1 : List GNode) (k2 : Int) : Option (Bool) :=
 (impl_in k2 0 (IntKind.wrap .i64 ((nodes1.length : Int) - 1))).bind fun r3 =>
 if (!r3) = true then
  some false
 else
  (getI nodes1 k2).bind fun e7 =>
  (impl_shape e7.Kind).bind fun ⟨r8, r9⟩ =>
  Option.bind (
   (impl_in e7.Kind 1 20).bind fun r13 =>
   if (!r13) = true then
    some true
   else
    (impl_in (e7.Kids.length : Int) r8 r9).bind fun r17 =>
    some (!r17)) fun v19 =>
  if v19 = true then
   some false
  else
   Option.bind (
    loopP (impl_NodeOk_l1 nodes1 k2 e7) 0) fun j24 =>
   match j24 with
   | Sum.inr z => some z
   | Sum.inl () =>
    Option.bind (
     if (e7.Kind == 1) = true then
      (impl_in e7.Num 0 1000000000).bind fun r55 =>
      if (!r55) = true then
       some true
      else
       some false
     else
      some (e7.Num != 0)) fun v61 =>
    if v61 = true then
     some false
    else
     (impl_hasName e7.Kind).bind fun r64 =>
     if r64 = true then
      (impl_NameOk e7.Name).bind fun r68 =>
      some r68
     else
      some (sEq e7.Name (⟨#[]⟩ : ByteArray))
def impl_depths_l2 (out10 : List Int) (e28 : GNode) : (Int × Int) → Option ((Int × Int) ⊕ (Int)) := fun ⟨d29, v30⟩ =>
 if (decide (v30 < (e28.Kids.length : Int))) = true then
  (getI e28.Kids v30).bind fun e36 =>
  (getI out10 e36).bind fun e37 =>
  some (Sum.inl (if IntKind.wrap .i64 (e37 + 1) > d29 then IntKind.wrap .i64 (e37 + 1) else d29, IntKind.wrap .i64 (v30 + 1)))
 else
  some (Sum.inr d29)
def impl_depths_l1 (nodes1 : List GNode) (k2 : Int) : ((List Int) × Int) → Option (((List Int) × Int) ⊕ ((List Int) ⊕ ((List Int) × Bool))) := fun ⟨out10, i11⟩ =>
 if (decide (i11 ≤ k2)) = true then
  Option.bind (
   (impl_NodeOk nodes1 i11).bind fun r20 =>
   if (!r20) = true then
    some (Sum.inr (Sum.inr (Sum.inr ([], false))))
   else
    Option.bind (
     (getI nodes1 i11).bind fun e28 =>
     loopP (impl_depths_l2 out10 e28) (1, 0)) fun d39 =>
    if (decide (d39 > 10)) = true then
     some (Sum.inr (Sum.inr (Sum.inr ([], false))))
    else
     (appI 8 out10 [d39]).bind fun l43 =>
     some (Sum.inl l43)) fun j19 =>
  match j19 with
  | Sum.inr z => some z
  | Sum.inl out44 =>
   some (Sum.inl (out44, IntKind.wrap .i64 (i11 + 1)))
 else
  some (Sum.inr (Sum.inl out10))
def impl_depths (nodes1 : List GNode) (k2 : Int) : Option ((List Int) × Bool) :=
 (impl_in k2 0 (IntKind.wrap .i64 ((nodes1.length : Int) - 1))).bind fun r3 =>
 if (!r3) = true then
  some ([], false)
 else
  Option.bind (
   loopP (impl_depths_l1 nodes1 k2) ([], 0)) fun j9 =>
  match j9 with
  | Sum.inr z => some z
  | Sum.inl out46 =>
   some (out46, true)
def impl_DeepOf (nodes1 : List GNode) (k2 : Int) : Option (Int) :=
 (impl_depths nodes1 k2).bind fun ⟨r3, r4⟩ =>
 if (!r4) = true then
  some 0
 else
  (getI r3 k2).bind fun e8 =>
  some e8
def laws_eqIntS_l1 (a1 : List Int) (b2 : List Int) : Int → Option ((Int) ⊕ ((Unit) ⊕ (Bool))) := fun i8 =>
 if (decide (i8 < (a1.length : Int))) = true then
  (getI a1 i8).bind fun e15 =>
  (getI b2 i8).bind fun e16 =>
  if (e15 != e16) = true then
   some (Sum.inr (Sum.inr false))
  else
   some (Sum.inl (IntKind.wrap .i64 (i8 + 1)))
 else
  some (Sum.inr (Sum.inl ()))
def laws_eqIntS (a1 : List Int) (b2 : List Int) : Option (Bool) :=
 if ((a1.length : Int) != (b2.length : Int)) = true then
  some false
 else
  Option.bind (
   loopP (laws_eqIntS_l1 a1 b2) 0) fun j7 =>
  match j7 with
  | Sum.inr z => some z
  | Sum.inl () =>
   some true
def laws_eqNode (a1 : GNode) (b2 : GNode) : Option (Bool) :=
 if (a1.Kind != b2.Kind) = true then
  some false
 else
  if (a1.Num != b2.Num) = true then
   some false
  else
   if (!(sEq a1.Name b2.Name)) = true then
    some false
   else
    (laws_eqIntS a1.Kids b2.Kids).bind fun r9 =>
    if (!r9) = true then
     some false
    else
     some true
def laws_eqNodeS_l1 (a1 : List GNode) (b2 : List GNode) : Int → Option ((Int) ⊕ ((Unit) ⊕ (Bool))) := fun i8 =>
 if (decide (i8 < (a1.length : Int))) = true then
  (getI a1 i8).bind fun e15 =>
  (getI b2 i8).bind fun e16 =>
  (laws_eqNode e15 e16).bind fun r17 =>
  if (!r17) = true then
   some (Sum.inr (Sum.inr false))
  else
   some (Sum.inl (IntKind.wrap .i64 (i8 + 1)))
 else
  some (Sum.inr (Sum.inl ()))
def laws_eqNodeS (a1 : List GNode) (b2 : List GNode) : Option (Bool) :=
 if ((a1.length : Int) != (b2.length : Int)) = true then
  some false
 else
  Option.bind (
   loopP (laws_eqNodeS_l1 a1 b2) 0) fun j7 =>
  match j7 with
  | Sum.inr z => some z
  | Sum.inl () =>
   some true
def laws_eqParam (a1 : GParam) (b2 : GParam) : Option (Bool) :=
 if (!(sEq a1.Name b2.Name)) = true then
  some false
 else
  if (a1.Typ != b2.Typ) = true then
   some false
  else
   some true
def laws_eqParamS_l1 (a1 : List GParam) (b2 : List GParam) : Int → Option ((Int) ⊕ ((Unit) ⊕ (Bool))) := fun i8 =>
 if (decide (i8 < (a1.length : Int))) = true then
  (getI a1 i8).bind fun e15 =>
  (getI b2 i8).bind fun e16 =>
  (laws_eqParam e15 e16).bind fun r17 =>
  if (!r17) = true then
   some (Sum.inr (Sum.inr false))
  else
   some (Sum.inl (IntKind.wrap .i64 (i8 + 1)))
 else
  some (Sum.inr (Sum.inl ()))
def laws_eqParamS (a1 : List GParam) (b2 : List GParam) : Option (Bool) :=
 if ((a1.length : Int) != (b2.length : Int)) = true then
  some false
 else
  Option.bind (
   loopP (laws_eqParamS_l1 a1 b2) 0) fun j7 =>
  match j7 with
  | Sum.inr z => some z
  | Sum.inl () =>
   some true
def laws_eqFn (a1 : GFn) (b2 : GFn) : Option (Bool) :=
 if (!(sEq a1.Name b2.Name)) = true then
  some false
 else
  (laws_eqParamS a1.Params b2.Params).bind fun r5 =>
  if (!r5) = true then
   some false
  else
   if (a1.Res != b2.Res) = true then
    some false
   else
    if (a1.Body != b2.Body) = true then
     some false
    else
     if (a1.Ret != b2.Ret) = true then
      some false
     else
      some true
def laws_eqFnS_l1 (a1 : List GFn) (b2 : List GFn) : Int → Option ((Int) ⊕ ((Unit) ⊕ (Bool))) := fun i8 =>
 if (decide (i8 < (a1.length : Int))) = true then
  (getI a1 i8).bind fun e15 =>
  (getI b2 i8).bind fun e16 =>
  (laws_eqFn e15 e16).bind fun r17 =>
  if (!r17) = true then
   some (Sum.inr (Sum.inr false))
  else
   some (Sum.inl (IntKind.wrap .i64 (i8 + 1)))
 else
  some (Sum.inr (Sum.inl ()))
def laws_eqFnS (a1 : List GFn) (b2 : List GFn) : Option (Bool) :=
 if ((a1.length : Int) != (b2.length : Int)) = true then
  some false
 else
  Option.bind (
   loopP (laws_eqFnS_l1 a1 b2) 0) fun j7 =>
  match j7 with
  | Sum.inr z => some z
  | Sum.inl () =>
   some true
def laws_eqProgram (a1 : GProgram) (b2 : GProgram) : Option (Bool) :=
 (laws_eqNodeS a1.Nodes b2.Nodes).bind fun r3 =>
 if (!r3) = true then
  some false
 else
  (laws_eqFnS a1.Fns b2.Fns).bind fun r7 =>
  if (!r7) = true then
   some false
  else
   some true
def spec_l04Used_l2 (nodes1 : List GNode) (i7 : Int) : ((List Int) × Int) → Option (((List Int) × Int) ⊕ (List Int)) := fun ⟨out16, j17⟩ =>
 (getI nodes1 i7).bind fun e21 =>
 if (decide (j17 < (e21.Kids.length : Int))) = true then
  (getI nodes1 i7).bind fun e24 =>
  (getI e24.Kids j17).bind fun e25 =>
  (getI out16 e25).bind fun e26 =>
  bindS (List.set out16 e25.toNat (IntKind.wrap .i64 (e26 + 1))) fun l27 =>
  some (Sum.inl (l27, IntKind.wrap .i64 (j17 + 1)))
 else
  some (Sum.inr out16)
def spec_l04Used_l1 (nodes1 : List GNode) : ((List Int) × Int) → Option (((List Int) × Int) ⊕ (List Int)) := fun ⟨out6, i7⟩ =>
 if (decide (i7 < (nodes1.length : Int))) = true then
  Option.bind (
   loopP (spec_l04Used_l2 nodes1 i7) (out6, 0)) fun out29 =>
  some (Sum.inl (out29, IntKind.wrap .i64 (i7 + 1)))
 else
  some (Sum.inr out6)
def spec_l04Used (nodes1 : List GNode) : Option (List Int) :=
 (mkI 8 (nodes1.length : Int) 0).bind fun l2 =>
 Option.bind (
  loopP (spec_l04Used_l1 nodes1) (l2, 0)) fun out31 =>
 some out31
def spec_FnAt_l1 (p1 : GProgram) (name2 : ByteArray) : Int → Option ((Int) ⊕ ((Unit) ⊕ (Int))) := fun i6 =>
 if (decide (i6 < (p1.Fns.length : Int))) = true then
  (getI p1.Fns i6).bind fun e12 =>
  if (sEq e12.Name name2) = true then
   some (Sum.inr (Sum.inr i6))
  else
   some (Sum.inl (IntKind.wrap .i64 (i6 + 1)))
 else
  some (Sum.inr (Sum.inl ()))
def spec_FnAt (p1 : GProgram) (name2 : ByteArray) : Option (Int) :=
 Option.bind (
  loopP (spec_FnAt_l1 p1 name2) 0) fun j5 =>
 match j5 with
 | Sum.inr z => some z
 | Sum.inl () =>
  some (-1)
def spec_l04Fn_l1 (e3 : GFn) : Int → Option ((Int) ⊕ ((Unit) ⊕ (Bool))) := fun k24 =>
 if (decide (k24 < (e3.Params.length : Int))) = true then
  Option.bind (
   (getI e3.Params k24).bind fun e32 =>
   (spec_NameOk e32.Name).bind fun r33 =>
   if (!r33) = true then
    some true
   else
    (spec_l01In e32.Typ 1 4).bind fun r37 =>
    some (!r37)) fun v39 =>
  if v39 = true then
   some (Sum.inr (Sum.inr false))
  else
   some (Sum.inl (IntKind.wrap .i64 (k24 + 1)))
 else
  some (Sum.inr (Sum.inl ()))
def spec_l04Fn (p1 : GProgram) (i2 : Int) : Option (Bool) :=
 (getI p1.Fns i2).bind fun e3 =>
 Option.bind (
  (spec_NameOk e3.Name).bind fun r6 =>
  if (!r6) = true then
   some true
  else
   (spec_FnAt p1 e3.Name).bind fun r10 =>
   if (r10 != i2) = true then
    some true
   else
    if (decide ((e3.Params.length : Int) > 3)) = true then
     some true
    else
     (spec_l01In e3.Res 0 2).bind fun r16 =>
     some (!r16)) fun v18 =>
 if v18 = true then
  some false
 else
  Option.bind (
   loopP (spec_l04Fn_l1 e3) 0) fun j23 =>
  match j23 with
  | Sum.inr z => some z
  | Sum.inl () =>
   Option.bind (
    (spec_l01In e3.Body 0 (IntKind.wrap .i64 ((p1.Nodes.length : Int) - 1))).bind fun r46 =>
    if (!r46) = true then
     some true
    else
     (getI p1.Nodes e3.Body).bind fun e50 =>
     some (e50.Kind != 20)) fun v51 =>
   if v51 = true then
    some false
   else
    if (e3.Res == 0) = true then
     some (e3.Ret == (-1))
    else
     Option.bind (
      (spec_l01In e3.Ret 0 (IntKind.wrap .i64 ((p1.Nodes.length : Int) - 1))).bind fun r58 =>
      if r58 = true then
       (getI p1.Nodes e3.Ret).bind fun e62 =>
       (spec_l04Value e62.Kind).bind fun r63 =>
       some r63
      else
       some false) fun v65 =>
     some v65
def spec_ProgramOk_l1 (p1 : GProgram) : ((List Int) × Int) → Option (((List Int) × Int) ⊕ ((List Int) ⊕ (Bool))) := fun ⟨used23, i24⟩ =>
 if (decide (i24 < (p1.Fns.length : Int))) = true then
  (spec_l04Fn p1 i24).bind fun r30 =>
  if (!r30) = true then
   some (Sum.inr (Sum.inr false))
  else
   (getI p1.Fns i24).bind fun e36 =>
   (getI used23 e36.Body).bind fun e37 =>
   bindS (List.set used23 e36.Body.toNat (IntKind.wrap .i64 (e37 + 1000))) fun l38 =>
   (getI p1.Fns i24).bind fun e39 =>
   if (decide (e39.Ret ≥ 0)) = true then
    (getI p1.Fns i24).bind fun e43 =>
    (getI l38 e43.Ret).bind fun e44 =>
    bindS (List.set l38 e43.Ret.toNat (IntKind.wrap .i64 (e44 + 1000))) fun l45 =>
    some (Sum.inl (l45, IntKind.wrap .i64 (i24 + 1)))
   else
    some (Sum.inl (l38, IntKind.wrap .i64 (i24 + 1)))
 else
  some (Sum.inr (Sum.inl used23))
def spec_ProgramOk_l2 (used47 : List Int) : Int → Option ((Int) ⊕ ((Unit) ⊕ (Bool))) := fun i51 =>
 if (decide (i51 < (used47.length : Int))) = true then
  Option.bind (
   (getI used47 i51).bind fun e59 =>
   if (e59 != 1) = true then
    some (e59 != 1000)
   else
    some false) fun v62 =>
  if v62 = true then
   some (Sum.inr (Sum.inr false))
  else
   some (Sum.inl (IntKind.wrap .i64 (i51 + 1)))
 else
  some (Sum.inr (Sum.inl ()))
def spec_ProgramOk (p1 : GProgram) : Option (Bool) :=
 Option.bind (
  (spec_l01In (p1.Nodes.length : Int) 1 300).bind fun r4 =>
  if (!r4) = true then
   some true
  else
   (spec_l01In (p1.Fns.length : Int) 1 8).bind fun r8 =>
   some (!r8)) fun v10 =>
 if v10 = true then
  some false
 else
  (spec_l04Deeps p1.Nodes (IntKind.wrap .i64 ((p1.Nodes.length : Int) - 1))).bind fun r13 =>
  (getI r13 (IntKind.wrap .i64 ((r13.length : Int) - 1))).bind fun e15 =>
  if (e15 == 0) = true then
   some false
  else
   (spec_l04Used p1.Nodes).bind fun r18 =>
   Option.bind (
    loopP (spec_ProgramOk_l1 p1) (r18, 0)) fun j22 =>
   match j22 with
   | Sum.inr z => some z
   | Sum.inl used47 =>
    Option.bind (
     loopP (spec_ProgramOk_l2 used47) 0) fun j50 =>
    match j50 with
    | Sum.inr z => some z
    | Sum.inl () =>
     some true
def spec_l04Nodes_l1 (nodes1 : List GNode) : ((List GNode) × Int) → Option (((List GNode) × Int) ⊕ (List GNode)) := fun ⟨out5, i6⟩ =>
 if (decide (i6 < (nodes1.length : Int))) = true then
  (getI nodes1 i6).bind fun e12 =>
  (appI 8 [] e12.Kids).bind fun l13 =>
  (appI 56 out5 [(⟨e12.Kind, e12.Num, e12.Name, e12.Kids⟩ : GNode)]).bind fun l14 =>
  some (Sum.inl (l14, IntKind.wrap .i64 (i6 + 1)))
 else
  some (Sum.inr out5)
def spec_l04Nodes (nodes1 : List GNode) : Option (List GNode) :=
 Option.bind (
  loopP (spec_l04Nodes_l1 nodes1) ([], 0)) fun out16 =>
 some out16
def spec_l04Copy_l1 (p1 : GProgram) : (Int × GProgram) → Option ((Int × GProgram) ⊕ (GProgram)) := fun ⟨i7, v8⟩ =>
 if (decide (i7 < (p1.Fns.length : Int))) = true then
  (getI p1.Fns i7).bind fun e14 =>
  (appI 24 [] e14.Params).bind fun l15 =>
  (appI 64 v8.Fns [(⟨e14.Name, e14.Params, e14.Res, e14.Body, e14.Ret⟩ : GFn)]).bind fun l16 =>
  some (Sum.inl (IntKind.wrap .i64 (i7 + 1), (⟨v8.Nodes, l16⟩ : GProgram)))
 else
  some (Sum.inr v8)
def spec_l04Copy (p1 : GProgram) : Option (GProgram) :=
 (spec_l04Nodes p1.Nodes).bind fun r2 =>
 Option.bind (
  loopP (spec_l04Copy_l1 p1) (0, (⟨r2, []⟩ : GProgram))) fun v18 =>
 some v18
def spec_l26Const_b (rec_spec_l26Const : (List GNode) → Int → Option (Int × Bool)) (nodes1 : List GNode) (k2 : Int) : Option (Int × Bool) :=
 (getI nodes1 k2).bind fun e3 =>
 if (e3.Kind == 1) = true then
  some (e3.Num, true)
 else
  Option.bind (
   if (e3.Kind == 9) = true then
    some (e3.Kind == 9)
   else
    if (e3.Kind == 10) = true then
     some (e3.Kind == 10)
    else
     some (e3.Kind == 11)) fun v13 =>
  if v13 = true then
   (getI e3.Kids 0).bind fun e16 =>
   (rec_spec_l26Const nodes1 e16).bind fun ⟨r17, r18⟩ =>
   (getI e3.Kids 1).bind fun e20 =>
   (rec_spec_l26Const nodes1 e20).bind fun ⟨r21, r22⟩ =>
   Option.bind (
    if (!r18) = true then
     some true
    else
     some (!r22)) fun v28 =>
   if v28 = true then
    some (0, false)
   else
    Option.bind (
     if (e3.Kind == 9) = true then
      some (IntKind.wrap .i64 (r17 + r21))
     else
      Option.bind (
       if (e3.Kind == 10) = true then
        if (decide (r17 < r21)) = true then
         some true
        else
         some false
       else
        if (e3.Kind == 11) = true then
         some (r17 == r21)
        else
         some false) fun v45 =>
      if v45 = true then
       some 1
      else
       some 0) fun n48 =>
    if (decide (n48 > 1000000000)) = true then
     some (0, false)
    else
     some (n48, true)
  else
   some (0, false)
def spec_l26Const_rec : Nat → (List GNode) → Int → Option (Int × Bool)
 | 0 => fun _ _ => none
 | n + 1 => spec_l26Const_b (spec_l26Const_rec n)
def spec_l26Const : (List GNode) → Int → Option (Int × Bool) := (spec_l26Const_rec recFuel)
def spec_l26Tops_l2 (p1 : GProgram) (i8 : Int) (ok25 : Bool) (out38 : List Int) : ((List Bool) × Int) → Option (((List Bool) × Int) ⊕ ((List Bool) × (List Int))) := fun ⟨in39, k40⟩ =>
 (getI p1.Nodes i8).bind fun e44 =>
 if (decide (k40 < (e44.Kids.length : Int))) = true then
  (getI p1.Nodes i8).bind fun e49 =>
  (getI e49.Kids k40).bind fun e50 =>
  if ok25 = true then
   (getI in39 e50).bind fun e53 =>
   bindS (List.set in39 e50.toNat true) fun l54 =>
   some (Sum.inl (l54, IntKind.wrap .i64 (k40 + 1)))
  else
   (getI in39 i8).bind fun e55 =>
   (getI in39 e50).bind fun e56 =>
   bindS (List.set in39 e50.toNat e55) fun l57 =>
   some (Sum.inl (l57, IntKind.wrap .i64 (k40 + 1)))
 else
  some (Sum.inr (in39, out38))
def spec_l26Tops_l1 (p1 : GProgram) : ((List Bool) × (List Int) × Int) → Option (((List Bool) × (List Int) × Int) ⊕ (List Int)) := fun ⟨in6, out7, i8⟩ =>
 if (decide (i8 ≥ 0)) = true then
  Option.bind (
   (spec_l26Const p1.Nodes i8).bind fun ⟨r17, r18⟩ =>
   Option.bind (
    if r18 = true then
     (getI p1.Nodes i8).bind fun e24 =>
     some (e24.Kind != 1)
    else
     some false) fun ok25 =>
   Option.bind (
    Option.bind (
     if ok25 = true then
      (getI in6 i8).bind fun e33 =>
      some (!e33)
     else
      some false) fun v34 =>
    if v34 = true then
     (appI 8 out7 [i8]).bind fun l37 =>
     some l37
    else
     some out7) fun out38 =>
   loopP (spec_l26Tops_l2 p1 i8 ok25 out38) (in6, 0)) fun ⟨in59, out60⟩ =>
  some (Sum.inl (in59, out60, IntKind.wrap .i64 (i8 - 1)))
 else
  some (Sum.inr out7)
def spec_l26Tops (p1 : GProgram) : Option (List Int) :=
 (mkI 1 (p1.Nodes.length : Int) false).bind fun l2 =>
 Option.bind (
  loopP (spec_l26Tops_l1 p1) (l2, [], IntKind.wrap .i64 ((p1.Nodes.length : Int) - 1))) fun out62 =>
 some out62
def spec_l04Pack_put_l1 (rec_spec_l04Pack_put : Gl04Pack → Int → Int → Option (Int × Gl04Pack)) (k2 : Int) (deep3 : Int) : (Int × GNode × Gl04Pack) → Option ((Int × GNode × Gl04Pack) ⊕ (GNode × Gl04Pack)) := fun ⟨i21, v22, v23⟩ =>
 Option.bind (
  (getI v23.from_ k2).bind fun e29 =>
  if (decide (i21 < (e29.Kids.length : Int))) = true then
   some (!v23.bad)
  else
   some false) fun v32 =>
 if v32 = true then
  (getI v23.from_ k2).bind fun e35 =>
  (getI e35.Kids i21).bind fun e36 =>
  (rec_spec_l04Pack_put (⟨v23.from_, v23.to_, v23.bad⟩ : Gl04Pack) e36 (IntKind.wrap .i64 (deep3 + 1))).bind fun ⟨r37, q38⟩ =>
  (appI 8 v22.Kids [r37]).bind fun l40 =>
  some (Sum.inl (IntKind.wrap .i64 (i21 + 1), (⟨v22.Kind, v22.Num, v22.Name, l40⟩ : GNode), (⟨q38.from_, q38.to_, q38.bad⟩ : Gl04Pack)))
 else
  some (Sum.inr (v22, (⟨v23.from_, v23.to_, v23.bad⟩ : Gl04Pack)))
def spec_l04Pack_put_b (rec_spec_l04Pack_put : Gl04Pack → Int → Int → Option (Int × Gl04Pack)) (x1 : Gl04Pack) (k2 : Int) (deep3 : Int) : Option (Int × Gl04Pack) :=
 Option.bind (
  if x1.bad = true then
   some true
  else
   if (decide (deep3 > 10)) = true then
    some true
   else
    (spec_l01In k2 0 (IntKind.wrap .i64 ((x1.from_.length : Int) - 1))).bind fun r10 =>
    if (!r10) = true then
     some true
    else
     some (decide ((x1.to_.length : Int) > 300))) fun v14 =>
 if v14 = true then
  some ((-1), (⟨x1.from_, x1.to_, true⟩ : Gl04Pack))
 else
  (getI x1.from_ k2).bind fun e17 =>
  Option.bind (
   loopP (spec_l04Pack_put_l1 rec_spec_l04Pack_put k2 deep3) (0, (⟨e17.Kind, e17.Num, e17.Name, []⟩ : GNode), (⟨x1.from_, x1.to_, x1.bad⟩ : Gl04Pack))) fun ⟨v42, v43⟩ =>
  (appI 56 v43.to_ [v42]).bind fun l44 =>
  some (IntKind.wrap .i64 ((l44.length : Int) - 1), (⟨v43.from_, l44, v43.bad⟩ : Gl04Pack))
def spec_l04Pack_put_rec : Nat → Gl04Pack → Int → Int → Option (Int × Gl04Pack)
 | 0 => fun _ _ _ => none
 | n + 1 => spec_l04Pack_put_b (spec_l04Pack_put_rec n)
def spec_l04Pack_put : Gl04Pack → Int → Int → Option (Int × Gl04Pack) := (spec_l04Pack_put_rec recFuel)
def spec_Packed_l1 (p1 : GProgram) : (Int × GProgram × Gl04Pack) → Option ((Int × GProgram × Gl04Pack) ⊕ (GProgram × Gl04Pack)) := fun ⟨i5, v6, v7⟩ =>
 if (decide (i5 < (p1.Fns.length : Int))) = true then
  (getI p1.Fns i5).bind fun e13 =>
  (appI 24 [] e13.Params).bind fun l14 =>
  (spec_l04Pack_put (⟨v7.from_, v7.to_, v7.bad⟩ : Gl04Pack) e13.Body 1).bind fun ⟨r15, q16⟩ =>
  Option.bind (
   if (decide (e13.Ret ≥ 0)) = true then
    (spec_l04Pack_put (⟨q16.from_, q16.to_, q16.bad⟩ : Gl04Pack) e13.Ret 1).bind fun ⟨r23, q24⟩ =>
    some ((⟨e13.Name, e13.Params, e13.Res, r15, r23⟩ : GFn), (⟨q24.from_, q24.to_, q24.bad⟩ : Gl04Pack))
   else
    some ((⟨e13.Name, e13.Params, e13.Res, r15, e13.Ret⟩ : GFn), (⟨q16.from_, q16.to_, q16.bad⟩ : Gl04Pack))) fun ⟨v26, v27⟩ =>
  (appI 64 v6.Fns [v26]).bind fun l28 =>
  some (Sum.inl (IntKind.wrap .i64 (i5 + 1), (⟨v6.Nodes, l28⟩ : GProgram), (⟨v27.from_, v27.to_, v27.bad⟩ : Gl04Pack)))
 else
  some (Sum.inr (v6, (⟨v7.from_, v7.to_, v7.bad⟩ : Gl04Pack)))
def spec_Packed (p1 : GProgram) : Option (GProgram × Bool) :=
 Option.bind (
  loopP (spec_Packed_l1 p1) (0, (⟨[], []⟩ : GProgram), (⟨p1.Nodes, [], false⟩ : Gl04Pack))) fun ⟨v30, v31⟩ =>
 Option.bind (
  if v31.bad = true then
   some true
  else
   some (decide ((v31.to_.length : Int) > 300))) fun v36 =>
 if v36 = true then
  some ((⟨[], []⟩ : GProgram), false)
 else
  some ((⟨v31.to_, v30.Fns⟩ : GProgram), true)
def spec_Folded_l1 (p1 : GProgram) (r10 : List Int) : (Int × GProgram) → Option ((Int × GProgram) ⊕ (GProgram)) := fun ⟨i15, v16⟩ =>
 if (decide (i15 < (r10.length : Int))) = true then
  (getI r10 i15).bind fun e23 =>
  (spec_l26Const p1.Nodes e23).bind fun ⟨r24, r25⟩ =>
  (getI r10 i15).bind fun e28 =>
  (getI v16.Nodes e28).bind fun e29 =>
  bindS (List.set v16.Nodes e28.toNat (⟨1, r24, ByteArray.empty, []⟩ : GNode)) fun l30 =>
  some (Sum.inl (IntKind.wrap .i64 (i15 + 1), (⟨l30, v16.Fns⟩ : GProgram)))
 else
  some (Sum.inr v16)
def spec_Folded (p1 : GProgram) : Option (GProgram) :=
 (spec_ProgramOk p1).bind fun r2 =>
 if (!r2) = true then
  (spec_l04Copy p1).bind fun r6 =>
  some r6
 else
  (spec_l04Copy p1).bind fun r8 =>
  (spec_l26Tops p1).bind fun r10 =>
  Option.bind (
   loopP (spec_Folded_l1 p1 r10) (0, r8)) fun v32 =>
  (spec_Packed v32).bind fun ⟨r33, r34⟩ =>
  if (!r34) = true then
   (spec_l04Copy p1).bind fun r38 =>
   some r38
  else
   some r33
def impl_fnOk_l1 (f2 : GFn) : Int → Option ((Int) ⊕ ((Unit) ⊕ (Bool))) := fun v21 =>
 if (decide (v21 < (f2.Params.length : Int))) = true then
  (getI f2.Params v21).bind fun e27 =>
  Option.bind (
   (impl_NameOk e27.Name).bind fun r30 =>
   if (!r30) = true then
    some true
   else
    (impl_in e27.Typ 1 4).bind fun r34 =>
    some (!r34)) fun v36 =>
  if v36 = true then
   some (Sum.inr (Sum.inr false))
  else
   some (Sum.inl (IntKind.wrap .i64 (v21 + 1)))
 else
  some (Sum.inr (Sum.inl ()))
def impl_fnOk (p1 : GProgram) (f2 : GFn) : Option (Bool) :=
 Option.bind (
  (impl_NameOk f2.Name).bind fun r5 =>
  if (!r5) = true then
   some true
  else
   if (decide ((f2.Params.length : Int) > 3)) = true then
    some true
   else
    if (f2.Res != 0) = true then
     if (f2.Res != 1) = true then
      some (f2.Res != 2)
     else
      some false
    else
     some false) fun v15 =>
 if v15 = true then
  some false
 else
  Option.bind (
   loopP (impl_fnOk_l1 f2) 0) fun j20 =>
  match j20 with
  | Sum.inr z => some z
  | Sum.inl () =>
   Option.bind (
    (impl_in f2.Body 0 (IntKind.wrap .i64 ((p1.Nodes.length : Int) - 1))).bind fun r43 =>
    if (!r43) = true then
     some true
    else
     (getI p1.Nodes f2.Body).bind fun e47 =>
     some (e47.Kind != 20)) fun v48 =>
   if v48 = true then
    some false
   else
    if (f2.Res == 0) = true then
     some (f2.Ret == (-1))
    else
     Option.bind (
      (impl_in f2.Ret 0 (IntKind.wrap .i64 ((p1.Nodes.length : Int) - 1))).bind fun r55 =>
      if r55 = true then
       (getI p1.Nodes f2.Ret).bind fun e59 =>
       (impl_isValue e59.Kind).bind fun r60 =>
       some r60
      else
       some false) fun v62 =>
     some v62
def impl_FnAt_l1 (p1 : GProgram) (name2 : ByteArray) : Int → Option ((Int) ⊕ ((Unit) ⊕ (Int))) := fun v6 =>
 if (decide (v6 < (p1.Fns.length : Int))) = true then
  (getI p1.Fns v6).bind fun e12 =>
  if (sEq e12.Name name2) = true then
   some (Sum.inr (Sum.inr v6))
  else
   some (Sum.inl (IntKind.wrap .i64 (v6 + 1)))
 else
  some (Sum.inr (Sum.inl ()))
def impl_FnAt (p1 : GProgram) (name2 : ByteArray) : Option (Int) :=
 Option.bind (
  loopP (impl_FnAt_l1 p1 name2) 0) fun j5 =>
 match j5 with
 | Sum.inr z => some z
 | Sum.inl () =>
  some (-1)
def impl_ProgramOk_l2 (e31 : GNode) : ((List Int) × Int) → Option (((List Int) × Int) ⊕ (List Int)) := fun ⟨met32, v33⟩ =>
 if (decide (v33 < (e31.Kids.length : Int))) = true then
  (getI e31.Kids v33).bind fun e39 =>
  (getI met32 e39).bind fun e40 =>
  bindS (List.set met32 e39.toNat (IntKind.wrap .i64 (e40 + 1))) fun l41 =>
  some (Sum.inl (l41, IntKind.wrap .i64 (v33 + 1)))
 else
  some (Sum.inr met32)
def impl_ProgramOk_l1 (p1 : GProgram) : ((List Int) × Int) → Option (((List Int) × Int) ⊕ (List Int)) := fun ⟨met21, v22⟩ =>
 if (decide (v22 < (p1.Nodes.length : Int))) = true then
  Option.bind (
   (getI p1.Nodes v22).bind fun e31 =>
   loopP (impl_ProgramOk_l2 e31) (met21, 0)) fun met43 =>
  some (Sum.inl (met43, IntKind.wrap .i64 (v22 + 1)))
 else
  some (Sum.inr met21)
def impl_ProgramOk_l4 (e59 : GFn) : ((List Int) × Int) → Option (((List Int) × Int) ⊕ ((List Int) ⊕ (((List Int) × Int) ⊕ ((List Int) ⊕ (Bool))))) := fun ⟨met72, v73⟩ =>
 if (decide (v73 < ([e59.Body, e59.Ret].length : Int))) = true then
  (getI [e59.Body, e59.Ret] v73).bind fun e79 =>
  if (decide (e79 < 0)) = true then
   some (Sum.inl (met72, IntKind.wrap .i64 (v73 + 1)))
  else
   (getI met72 e79).bind fun e82 =>
   if (e82 != 0) = true then
    some (Sum.inr (Sum.inr (Sum.inr (Sum.inr false))))
   else
    (getI met72 e79).bind fun e87 =>
    bindS (List.set met72 e79.toNat (-1)) fun l88 =>
    some (Sum.inl (l88, IntKind.wrap .i64 (v73 + 1)))
 else
  some (Sum.inr (Sum.inl met72))
def impl_ProgramOk_l3 (p1 : GProgram) : ((List Int) × Int) → Option (((List Int) × Int) ⊕ ((List Int) ⊕ (Bool))) := fun ⟨met49, v50⟩ =>
 if (decide (v50 < (p1.Fns.length : Int))) = true then
  Option.bind (
   (getI p1.Fns v50).bind fun e59 =>
   Option.bind (
    (impl_fnOk p1 e59).bind fun r62 =>
    if (!r62) = true then
     some true
    else
     (impl_FnAt p1 e59.Name).bind fun r66 =>
     some (r66 != v50)) fun v68 =>
   if v68 = true then
    some (Sum.inr (Sum.inr (Sum.inr false)))
   else
    loopP (impl_ProgramOk_l4 e59) (met49, 0)) fun j58 =>
  match j58 with
  | Sum.inr z => some z
  | Sum.inl met90 =>
   some (Sum.inl (met90, IntKind.wrap .i64 (v50 + 1)))
 else
  some (Sum.inr (Sum.inl met49))
def impl_ProgramOk_l5 (met92 : List Int) : Int → Option ((Int) ⊕ ((Unit) ⊕ (Bool))) := fun v96 =>
 if (decide (v96 < (met92.length : Int))) = true then
  (getI met92 v96).bind fun e102 =>
  Option.bind (
   if (e102 != 1) = true then
    some (e102 != (-1))
   else
    some false) fun v107 =>
  if v107 = true then
   some (Sum.inr (Sum.inr false))
  else
   some (Sum.inl (IntKind.wrap .i64 (v96 + 1)))
 else
  some (Sum.inr (Sum.inl ()))
def impl_ProgramOk (p1 : GProgram) : Option (Bool) :=
 Option.bind (
  (impl_in (p1.Nodes.length : Int) 1 300).bind fun r4 =>
  if (!r4) = true then
   some true
  else
   (impl_in (p1.Fns.length : Int) 1 8).bind fun r8 =>
   if (!r8) = true then
    some true
   else
    (impl_DeepOf p1.Nodes (IntKind.wrap .i64 ((p1.Nodes.length : Int) - 1))).bind fun r12 =>
    some (r12 == 0)) fun v14 =>
 if v14 = true then
  some false
 else
  (mkI 8 (p1.Nodes.length : Int) 0).bind fun l17 =>
  Option.bind (
   loopP (impl_ProgramOk_l1 p1) (l17, 0)) fun met45 =>
  Option.bind (
   loopP (impl_ProgramOk_l3 p1) (met45, 0)) fun j48 =>
  match j48 with
  | Sum.inr z => some z
  | Sum.inl met92 =>
   Option.bind (
    loopP (impl_ProgramOk_l5 met92) 0) fun j95 =>
   match j95 with
   | Sum.inr z => some z
   | Sum.inl () =>
    some true
def impl_copyInts (l1 : List Int) : Option (List Int) :=
 (appI 8 [] l1).bind fun l2 =>
 some l1
def impl_copyNodes_l1 (l1 : List GNode) : ((List GNode) × Int) → Option (((List GNode) × Int) ⊕ (List GNode)) := fun ⟨out5, v6⟩ =>
 if (decide (v6 < (l1.length : Int))) = true then
  (getI l1 v6).bind fun e12 =>
  (impl_copyInts e12.Kids).bind fun r13 =>
  (appI 56 out5 [(⟨e12.Kind, e12.Num, e12.Name, r13⟩ : GNode)]).bind fun l15 =>
  some (Sum.inl (l15, IntKind.wrap .i64 (v6 + 1)))
 else
  some (Sum.inr out5)
def impl_copyNodes (l1 : List GNode) : Option (List GNode) :=
 Option.bind (
  loopP (impl_copyNodes_l1 l1) ([], 0)) fun out17 =>
 some out17
def impl_copyFn (f1 : GFn) : Option (GFn) :=
 (appI 24 [] f1.Params).bind fun l2 =>
 some (⟨f1.Name, f1.Params, f1.Res, f1.Body, f1.Ret⟩ : GFn)
def impl_copyProgram_l1 (p1 : GProgram) : (Int × GProgram) → Option ((Int × GProgram) ⊕ (GProgram)) := fun ⟨v7, v8⟩ =>
 if (decide (v7 < (p1.Fns.length : Int))) = true then
  (getI p1.Fns v7).bind fun e14 =>
  (impl_copyFn e14).bind fun r15 =>
  (appI 64 v8.Fns [r15]).bind fun l17 =>
  some (Sum.inl (IntKind.wrap .i64 (v7 + 1), (⟨v8.Nodes, l17⟩ : GProgram)))
 else
  some (Sum.inr v8)
def impl_copyProgram (p1 : GProgram) : Option (GProgram) :=
 (impl_copyNodes p1.Nodes).bind fun r2 =>
 Option.bind (
  loopP (impl_copyProgram_l1 p1) (0, (⟨r2, []⟩ : GProgram))) fun v19 =>
 some v19
def impl_bit (is1 : Bool) : Option (Int) :=
 if is1 = true then
  some 1
 else
  some 0
def impl_constOf_b (rec_impl_constOf : GProgram → Int → Option (Int × Bool)) (p1 : GProgram) (k2 : Int) : Option (Int × Bool) :=
 (getI p1.Nodes k2).bind fun e3 =>
 if (e3.Kind == 1) = true then
  some (e3.Num, true)
 else
  (impl_in e3.Kind 9 11).bind fun r6 =>
  if (!r6) = true then
   some (0, false)
  else
   (getI e3.Kids 0).bind fun e11 =>
   (rec_impl_constOf p1 e11).bind fun ⟨r12, r13⟩ =>
   (getI e3.Kids 1).bind fun e16 =>
   (rec_impl_constOf p1 e16).bind fun ⟨r17, r18⟩ =>
   Option.bind (
    if (!r13) = true then
     some true
    else
     some (!r18)) fun v24 =>
   if v24 = true then
    some (0, false)
   else
    if (e3.Kind == 9) = true then
     if (decide (IntKind.wrap .i64 (r12 + r17) > 1000000000)) = true then
      some (0, false)
     else
      some (IntKind.wrap .i64 (r12 + r17), true)
    else
     if (e3.Kind == 10) = true then
      (impl_bit (decide (r12 < r17))).bind fun r33 =>
      some (r33, true)
     else
      (impl_bit (r12 == r17)).bind fun r35 =>
      some (r35, true)
def impl_constOf_rec : Nat → GProgram → Int → Option (Int × Bool)
 | 0 => fun _ _ => none
 | n + 1 => impl_constOf_b (impl_constOf_rec n)
def impl_constOf : GProgram → Int → Option (Int × Bool) := (impl_constOf_rec recFuel)
def impl_ConstOf (p1 : GProgram) (k2 : Int) : Option (Int × Bool) :=
 (impl_DeepOf p1.Nodes k2).bind fun r3 =>
 if (r3 == 0) = true then
  some (0, false)
 else
  (impl_constOf p1 k2).bind fun ⟨r7, r8⟩ =>
  some (r7, r8)
def impl_Foldable (p1 : GProgram) (k2 : Int) : Option (Bool) :=
 (impl_ConstOf p1 k2).bind fun ⟨r3, r4⟩ =>
 Option.bind (
  if r4 = true then
   (getI p1.Nodes k2).bind fun e10 =>
   (impl_in e10.Kind 9 11).bind fun r11 =>
   some r11
  else
   some false) fun v13 =>
 some v13
def impl_outermost_l2 (k8 : Int) (r17 : Bool) (out31 : List Int) (e32 : GNode) : ((List Bool) × Int) → Option (((List Bool) × Int) ⊕ ((List Bool) × (List Int))) := fun ⟨inner33, v34⟩ =>
 if (decide (v34 < (e32.Kids.length : Int))) = true then
  (getI e32.Kids v34).bind fun e40 =>
  (getI inner33 k8).bind fun e41 =>
  if e41 = true then
   (getI inner33 e40).bind fun e44 =>
   bindS (List.set inner33 e40.toNat true) fun l45 =>
   some (Sum.inl (l45, IntKind.wrap .i64 (v34 + 1)))
  else
   (getI inner33 e40).bind fun e46 =>
   bindS (List.set inner33 e40.toNat r17) fun l47 =>
   some (Sum.inl (l47, IntKind.wrap .i64 (v34 + 1)))
 else
  some (Sum.inr (inner33, out31))
def impl_outermost_l1 (p1 : GProgram) : ((List Bool) × (List Int) × Int) → Option (((List Bool) × (List Int) × Int) ⊕ (List Int)) := fun ⟨inner6, out7, k8⟩ =>
 if (decide (k8 ≥ 0)) = true then
  Option.bind (
   (impl_Foldable p1 k8).bind fun r17 =>
   Option.bind (
    Option.bind (
     if r17 = true then
      (getI inner6 k8).bind fun e26 =>
      some (!e26)
     else
      some false) fun v27 =>
    if v27 = true then
     (appI 8 out7 [k8]).bind fun l30 =>
     some l30
    else
     some out7) fun out31 =>
   (getI p1.Nodes k8).bind fun e32 =>
   loopP (impl_outermost_l2 k8 r17 out31 e32) (inner6, 0)) fun ⟨inner49, out50⟩ =>
  some (Sum.inl (inner49, out50, IntKind.wrap .i64 (k8 - 1)))
 else
  some (Sum.inr out7)
def impl_outermost (p1 : GProgram) : Option (List Int) :=
 (mkI 1 (p1.Nodes.length : Int) false).bind fun l2 =>
 Option.bind (
  loopP (impl_outermost_l1 p1) (l2, [], IntKind.wrap .i64 ((p1.Nodes.length : Int) - 1))) fun out52 =>
 some out52
def impl_packer_put_l1 (rec_impl_packer_put : Gpacker → Int → Int → Option (Int × Gpacker)) (deep3 : Int) (e17 : GNode) : ((List Int) × Int × Gpacker) → Option (((List Int) × Int × Gpacker) ⊕ (((List Int) × Gpacker) ⊕ (Int × Gpacker))) := fun ⟨kids21, v22, v23⟩ =>
 if (decide (v22 < (e17.Kids.length : Int))) = true then
  (getI e17.Kids v22).bind fun e29 =>
  (rec_impl_packer_put (⟨v23.from_, v23.to_, v23.bad⟩ : Gpacker) e29 (IntKind.wrap .i64 (deep3 + 1))).bind fun ⟨r30, q31⟩ =>
  if q31.bad = true then
   some (Sum.inr (Sum.inr ((-1), (⟨q31.from_, q31.to_, q31.bad⟩ : Gpacker))))
  else
   (appI 8 kids21 [r30]).bind fun l36 =>
   some (Sum.inl (l36, IntKind.wrap .i64 (v22 + 1), (⟨q31.from_, q31.to_, q31.bad⟩ : Gpacker)))
 else
  some (Sum.inr (Sum.inl (kids21, (⟨v23.from_, v23.to_, v23.bad⟩ : Gpacker))))
def impl_packer_put_b (rec_impl_packer_put : Gpacker → Int → Int → Option (Int × Gpacker)) (x1 : Gpacker) (k2 : Int) (deep3 : Int) : Option (Int × Gpacker) :=
 Option.bind (
  if x1.bad = true then
   some true
  else
   (impl_in k2 0 (IntKind.wrap .i64 ((x1.from_.length : Int) - 1))).bind fun r8 =>
   if (!r8) = true then
    some true
   else
    if (decide (deep3 > 10)) = true then
     some true
    else
     some (decide ((x1.to_.length : Int) ≥ 300))) fun v14 =>
 if v14 = true then
  some ((-1), (⟨x1.from_, x1.to_, true⟩ : Gpacker))
 else
  (getI x1.from_ k2).bind fun e17 =>
  Option.bind (
   loopP (impl_packer_put_l1 rec_impl_packer_put deep3 e17) ([], 0, (⟨x1.from_, x1.to_, x1.bad⟩ : Gpacker))) fun j20 =>
  match j20 with
  | Sum.inr z => some z
  | Sum.inl (kids38, v39) =>
   if (decide ((v39.to_.length : Int) ≥ 300)) = true then
    some ((-1), (⟨v39.from_, v39.to_, true⟩ : Gpacker))
   else
    (appI 56 v39.to_ [(⟨e17.Kind, e17.Num, e17.Name, kids38⟩ : GNode)]).bind fun l42 =>
    some (IntKind.wrap .i64 ((l42.length : Int) - 1), (⟨v39.from_, l42, v39.bad⟩ : Gpacker))
def impl_packer_put_rec : Nat → Gpacker → Int → Int → Option (Int × Gpacker)
 | 0 => fun _ _ _ => none
 | n + 1 => impl_packer_put_b (impl_packer_put_rec n)
def impl_packer_put : Gpacker → Int → Int → Option (Int × Gpacker) := (impl_packer_put_rec recFuel)
def impl_Packed_l1 (p1 : GProgram) : (Int × Gpacker × GProgram) → Option ((Int × Gpacker × GProgram) ⊕ (Gpacker × GProgram)) := fun ⟨v5, v6, v7⟩ =>
 if (decide (v5 < (p1.Fns.length : Int))) = true then
  (getI p1.Fns v5).bind fun e13 =>
  (impl_copyFn e13).bind fun r14 =>
  (impl_packer_put (⟨v6.from_, v6.to_, v6.bad⟩ : Gpacker) r14.Body 1).bind fun ⟨r16, q17⟩ =>
  Option.bind (
   if (decide (r14.Ret ≥ 0)) = true then
    (impl_packer_put (⟨q17.from_, q17.to_, q17.bad⟩ : Gpacker) r14.Ret 1).bind fun ⟨r24, q25⟩ =>
    some ((⟨q25.from_, q25.to_, q25.bad⟩ : Gpacker), (⟨r14.Name, r14.Params, r14.Res, r16, r24⟩ : GFn))
   else
    some ((⟨q17.from_, q17.to_, q17.bad⟩ : Gpacker), (⟨r14.Name, r14.Params, r14.Res, r16, r14.Ret⟩ : GFn))) fun ⟨v27, v28⟩ =>
  (appI 64 v7.Fns [v28]).bind fun l29 =>
  some (Sum.inl (IntKind.wrap .i64 (v5 + 1), (⟨v27.from_, v27.to_, v27.bad⟩ : Gpacker), (⟨v7.Nodes, l29⟩ : GProgram)))
 else
  some (Sum.inr ((⟨v6.from_, v6.to_, v6.bad⟩ : Gpacker), v7))
def impl_Packed (p1 : GProgram) : Option (GProgram × Bool) :=
 Option.bind (
  loopP (impl_Packed_l1 p1) (0, (⟨p1.Nodes, [], false⟩ : Gpacker), (⟨[], []⟩ : GProgram))) fun ⟨v31, v32⟩ =>
 if v31.bad = true then
  some ((⟨[], []⟩ : GProgram), false)
 else
  some ((⟨v31.to_, v32.Fns⟩ : GProgram), true)
def impl_Folded_l1 (p1 : GProgram) (r13 : List Int) : (Int × GProgram) → Option ((Int × GProgram) ⊕ (GProgram)) := fun ⟨v15, v16⟩ =>
 if (decide (v15 < (r13.length : Int))) = true then
  (getI r13 v15).bind fun e22 =>
  (impl_constOf p1 e22).bind fun ⟨r23, r24⟩ =>
  (getI v16.Nodes e22).bind fun e26 =>
  bindS (List.set v16.Nodes e22.toNat (⟨1, r23, ByteArray.empty, []⟩ : GNode)) fun l27 =>
  some (Sum.inl (IntKind.wrap .i64 (v15 + 1), (⟨l27, v16.Fns⟩ : GProgram)))
 else
  some (Sum.inr v16)
def impl_Folded (p1 : GProgram) : Option (GProgram) :=
 (impl_ProgramOk p1).bind fun r2 =>
 if (!r2) = true then
  (impl_copyProgram p1).bind fun r6 =>
  some r6
 else
  (impl_copyProgram p1).bind fun r8 =>
  Option.bind (
   (impl_outermost p1).bind fun r13 =>
   loopP (impl_Folded_l1 p1 r13) (0, r8)) fun v29 =>
  (impl_Packed v29).bind fun ⟨r30, r31⟩ =>
  if (!r31) = true then
   (impl_copyProgram p1).bind fun r35 =>
   some r35
  else
   some r30
def laws_markIntS_l1 : ((List Int) × Int × Int) → Option (((List Int) × Int × Int) ⊕ ((List Int) × Int)) := fun ⟨a6, k7, i8⟩ =>
 if (decide (i8 < (a6.length : Int))) = true then
  (getI a6 i8).bind fun e14 =>
  bindS (List.set a6 i8.toNat k7) fun l15 =>
  some (Sum.inl (l15, IntKind.wrap .i64 (k7 + 1), IntKind.wrap .i64 (i8 + 1)))
 else
  some (Sum.inr (a6, k7))
def laws_markIntS (a1 : List Int) (k2 : Int) : Option (Int × (List Int)) :=
 Option.bind (
  loopP (laws_markIntS_l1) (a1, k2, 0)) fun ⟨a17, k18⟩ =>
 some (k18, a17)
def laws_markText_l1 : (Int × ByteArray) → Option ((Int × ByteArray) ⊕ (ByteArray)) := fun ⟨k7, out8⟩ =>
 if (decide (k7 > 0)) = true then
  (sCat (bytesOf [IntKind.wrap .u8 (IntKind.wrap .i64 (48 + (Int.tmod k7 10)))]) out8).bind fun t14 =>
  some (Sum.inl (IntKind.wrap .i64 (Int.tdiv k7 10), t14))
 else
  some (Sum.inr out8)
def laws_markText (k1 : Int) : Option (ByteArray) :=
 if (decide (k1 ≤ 0)) = true then
  some (⟨#[109, 48]⟩ : ByteArray)
 else
  Option.bind (
   loopP (laws_markText_l1) (k1, (⟨#[]⟩ : ByteArray))) fun out16 =>
  (sCat (⟨#[109]⟩ : ByteArray) out16).bind fun t17 =>
  some t17
def laws_markNodeS_l1 : ((List GNode) × Int × Int) → Option (((List GNode) × Int × Int) ⊕ ((List GNode) × Int)) := fun ⟨a6, k7, i8⟩ =>
 if (decide (i8 < (a6.length : Int))) = true then
  (getI a6 i8).bind fun e14 =>
  bindS (List.set a6 i8.toNat (⟨k7, e14.Num, e14.Name, e14.Kids⟩ : GNode)) fun l15 =>
  (getI l15 i8).bind fun e16 =>
  bindS (List.set l15 i8.toNat (⟨e16.Kind, IntKind.wrap .i64 (k7 + 1), e16.Name, e16.Kids⟩ : GNode)) fun l17 =>
  (laws_markText (IntKind.wrap .i64 ((IntKind.wrap .i64 (k7 + 1)) + 1))).bind fun r18 =>
  (getI l17 i8).bind fun e20 =>
  bindS (List.set l17 i8.toNat (⟨e20.Kind, e20.Num, r18, e20.Kids⟩ : GNode)) fun l21 =>
  (getI l21 i8).bind fun e22 =>
  (laws_markIntS e22.Kids (IntKind.wrap .i64 ((IntKind.wrap .i64 ((IntKind.wrap .i64 (k7 + 1)) + 1)) + 1))).bind fun ⟨r23, q24⟩ =>
  bindS (List.set l21 i8.toNat (⟨e22.Kind, e22.Num, e22.Name, q24⟩ : GNode)) fun l26 =>
  some (Sum.inl (l26, r23, IntKind.wrap .i64 (i8 + 1)))
 else
  some (Sum.inr (a6, k7))
def laws_markNodeS (a1 : List GNode) (k2 : Int) : Option (Int × (List GNode)) :=
 Option.bind (
  loopP (laws_markNodeS_l1) (a1, k2, 0)) fun ⟨a28, k29⟩ =>
 some (k29, a28)
def laws_markParamS_l1 : ((List GParam) × Int × Int) → Option (((List GParam) × Int × Int) ⊕ ((List GParam) × Int)) := fun ⟨a6, k7, i8⟩ =>
 if (decide (i8 < (a6.length : Int))) = true then
  (laws_markText k7).bind fun r14 =>
  (getI a6 i8).bind fun e16 =>
  bindS (List.set a6 i8.toNat (⟨r14, e16.Typ⟩ : GParam)) fun l17 =>
  (getI l17 i8).bind fun e18 =>
  bindS (List.set l17 i8.toNat (⟨e18.Name, IntKind.wrap .i64 (k7 + 1)⟩ : GParam)) fun l19 =>
  some (Sum.inl (l19, IntKind.wrap .i64 ((IntKind.wrap .i64 (k7 + 1)) + 1), IntKind.wrap .i64 (i8 + 1)))
 else
  some (Sum.inr (a6, k7))
def laws_markParamS (a1 : List GParam) (k2 : Int) : Option (Int × (List GParam)) :=
 Option.bind (
  loopP (laws_markParamS_l1) (a1, k2, 0)) fun ⟨a21, k22⟩ =>
 some (k22, a21)
def laws_markFnS_l1 : ((List GFn) × Int × Int) → Option (((List GFn) × Int × Int) ⊕ ((List GFn) × Int)) := fun ⟨a6, k7, i8⟩ =>
 if (decide (i8 < (a6.length : Int))) = true then
  (laws_markText k7).bind fun r14 =>
  (getI a6 i8).bind fun e16 =>
  bindS (List.set a6 i8.toNat (⟨r14, e16.Params, e16.Res, e16.Body, e16.Ret⟩ : GFn)) fun l17 =>
  (getI l17 i8).bind fun e18 =>
  (laws_markParamS e18.Params (IntKind.wrap .i64 (k7 + 1))).bind fun ⟨r19, q20⟩ =>
  bindS (List.set l17 i8.toNat (⟨e18.Name, q20, e18.Res, e18.Body, e18.Ret⟩ : GFn)) fun l22 =>
  (getI l22 i8).bind fun e23 =>
  bindS (List.set l22 i8.toNat (⟨e23.Name, e23.Params, r19, e23.Body, e23.Ret⟩ : GFn)) fun l24 =>
  (getI l24 i8).bind fun e25 =>
  bindS (List.set l24 i8.toNat (⟨e25.Name, e25.Params, e25.Res, IntKind.wrap .i64 (r19 + 1), e25.Ret⟩ : GFn)) fun l26 =>
  (getI l26 i8).bind fun e27 =>
  bindS (List.set l26 i8.toNat (⟨e27.Name, e27.Params, e27.Res, e27.Body, IntKind.wrap .i64 ((IntKind.wrap .i64 (r19 + 1)) + 1)⟩ : GFn)) fun l28 =>
  some (Sum.inl (l28, IntKind.wrap .i64 ((IntKind.wrap .i64 ((IntKind.wrap .i64 (r19 + 1)) + 1)) + 1), IntKind.wrap .i64 (i8 + 1)))
 else
  some (Sum.inr (a6, k7))
def laws_markFnS (a1 : List GFn) (k2 : Int) : Option (Int × (List GFn)) :=
 Option.bind (
  loopP (laws_markFnS_l1) (a1, k2, 0)) fun ⟨a30, k31⟩ =>
 some (k31, a30)
def laws_markProgram (a1 : GProgram) (k2 : Int) : Option (Int × GProgram) :=
 (laws_markNodeS a1.Nodes k2).bind fun ⟨r3, q4⟩ =>
 (laws_markFnS a1.Fns r3).bind fun ⟨r6, q7⟩ =>
 some (r6, (⟨q4, q7⟩ : GProgram))
def laws_heldIntS_l1 (a1 : List Int) : (Int × Int) → Option ((Int × Int) ⊕ ((Int) ⊕ (Int))) := fun ⟨k6, i7⟩ =>
 if (decide (i7 < (a1.length : Int))) = true then
  (getI a1 i7).bind fun e13 =>
  if (e13 != k6) = true then
   some (Sum.inr (Sum.inr (-1)))
  else
   some (Sum.inl (IntKind.wrap .i64 (k6 + 1), IntKind.wrap .i64 (i7 + 1)))
 else
  some (Sum.inr (Sum.inl k6))
def laws_heldIntS (a1 : List Int) (k2 : Int) : Option (Int) :=
 Option.bind (
  loopP (laws_heldIntS_l1 a1) (k2, 0)) fun j5 =>
 match j5 with
 | Sum.inr z => some z
 | Sum.inl k18 =>
  some k18
def laws_heldNodeS_l1 (a1 : List GNode) : (Int × Int) → Option ((Int × Int) ⊕ ((Int) ⊕ (Int))) := fun ⟨k6, i7⟩ =>
 if (decide (i7 < (a1.length : Int))) = true then
  (getI a1 i7).bind fun e13 =>
  if (e13.Kind != k6) = true then
   some (Sum.inr (Sum.inr (-1)))
  else
   (getI a1 i7).bind fun e17 =>
   if (e17.Num != (IntKind.wrap .i64 (k6 + 1))) = true then
    some (Sum.inr (Sum.inr (-1)))
   else
    (getI a1 i7).bind fun e22 =>
    (laws_markText (IntKind.wrap .i64 ((IntKind.wrap .i64 (k6 + 1)) + 1))).bind fun r23 =>
    if (!(sEq e22.Name r23)) = true then
     some (Sum.inr (Sum.inr (-1)))
    else
     (getI a1 i7).bind fun e28 =>
     (laws_heldIntS e28.Kids (IntKind.wrap .i64 ((IntKind.wrap .i64 ((IntKind.wrap .i64 (k6 + 1)) + 1)) + 1))).bind fun r29 =>
     if (decide (r29 < 0)) = true then
      some (Sum.inr (Sum.inr (-1)))
     else
      some (Sum.inl (r29, IntKind.wrap .i64 (i7 + 1)))
 else
  some (Sum.inr (Sum.inl k6))
def laws_heldNodeS (a1 : List GNode) (k2 : Int) : Option (Int) :=
 Option.bind (
  loopP (laws_heldNodeS_l1 a1) (k2, 0)) fun j5 =>
 match j5 with
 | Sum.inr z => some z
 | Sum.inl k35 =>
  some k35
def laws_heldParamS_l1 (a1 : List GParam) : (Int × Int) → Option ((Int × Int) ⊕ ((Int) ⊕ (Int))) := fun ⟨k6, i7⟩ =>
 if (decide (i7 < (a1.length : Int))) = true then
  (getI a1 i7).bind fun e14 =>
  (laws_markText k6).bind fun r15 =>
  if (!(sEq e14.Name r15)) = true then
   some (Sum.inr (Sum.inr (-1)))
  else
   (getI a1 i7).bind fun e20 =>
   if (e20.Typ != (IntKind.wrap .i64 (k6 + 1))) = true then
    some (Sum.inr (Sum.inr (-1)))
   else
    some (Sum.inl (IntKind.wrap .i64 ((IntKind.wrap .i64 (k6 + 1)) + 1), IntKind.wrap .i64 (i7 + 1)))
 else
  some (Sum.inr (Sum.inl k6))
def laws_heldParamS (a1 : List GParam) (k2 : Int) : Option (Int) :=
 Option.bind (
  loopP (laws_heldParamS_l1 a1) (k2, 0)) fun j5 =>
 match j5 with
 | Sum.inr z => some z
 | Sum.inl k25 =>
  some k25
def laws_heldFnS_l1 (a1 : List GFn) : (Int × Int) → Option ((Int × Int) ⊕ ((Int) ⊕ (Int))) := fun ⟨k6, i7⟩ =>
 if (decide (i7 < (a1.length : Int))) = true then
  (getI a1 i7).bind fun e14 =>
  (laws_markText k6).bind fun r15 =>
  if (!(sEq e14.Name r15)) = true then
   some (Sum.inr (Sum.inr (-1)))
  else
   (getI a1 i7).bind fun e20 =>
   (laws_heldParamS e20.Params (IntKind.wrap .i64 (k6 + 1))).bind fun r21 =>
   if (decide (r21 < 0)) = true then
    some (Sum.inr (Sum.inr (-1)))
   else
    (getI a1 i7).bind fun e26 =>
    if (e26.Res != r21) = true then
     some (Sum.inr (Sum.inr (-1)))
    else
     (getI a1 i7).bind fun e30 =>
     if (e30.Body != (IntKind.wrap .i64 (r21 + 1))) = true then
      some (Sum.inr (Sum.inr (-1)))
     else
      (getI a1 i7).bind fun e34 =>
      if (e34.Ret != (IntKind.wrap .i64 ((IntKind.wrap .i64 (r21 + 1)) + 1))) = true then
       some (Sum.inr (Sum.inr (-1)))
      else
       some (Sum.inl (IntKind.wrap .i64 ((IntKind.wrap .i64 ((IntKind.wrap .i64 (r21 + 1)) + 1)) + 1), IntKind.wrap .i64 (i7 + 1)))
 else
  some (Sum.inr (Sum.inl k6))
def laws_heldFnS (a1 : List GFn) (k2 : Int) : Option (Int) :=
 Option.bind (
  loopP (laws_heldFnS_l1 a1) (k2, 0)) fun j5 =>
 match j5 with
 | Sum.inr z => some z
 | Sum.inl k39 =>
  some k39
def laws_heldProgram (a1 : GProgram) (k2 : Int) : Option (Int) :=
 (laws_heldNodeS a1.Nodes k2).bind fun r3 =>
 if (decide (r3 < 0)) = true then
  some (-1)
 else
  (laws_heldFnS a1.Fns r3).bind fun r7 =>
  if (decide (r7 < 0)) = true then
   some (-1)
  else
   some r7
def laws_FnExactFolded (aP1 : GProgram) : Option (Bool) :=
 (laws_szProgram aP1 1048576).bind fun r2 =>
 if (decide (r2 < 0)) = true then
  some true
 else
  (laws_toProgram aP1).bind fun r6 =>
  (spec_Folded r6).bind fun r8 =>
  (laws_toProgram aP1).bind fun r10 =>
  (impl_Folded r10).bind fun r12 =>
  (laws_eqProgram r12 r8).bind fun r14 =>
  if (!r14) = true then
   some false
  else
   (laws_toProgram aP1).bind fun r19 =>
   (laws_eqProgram r10 r19).bind fun r21 =>
   if (!r21) = true then
    some false
   else
    (laws_markProgram r10 1).bind fun ⟨r25, q26⟩ =>
    Option.bind (
     if (decide (r25 < 0)) = true then
      some true
     else
      (laws_eqProgram r12 r8).bind fun r32 =>
      some (!r32)) fun v34 =>
    if v34 = true then
     some false
    else
     (laws_markProgram r12 1).bind fun ⟨r37, q38⟩ =>
     (laws_heldProgram q38 1).bind fun r40 =>
     if (decide (r40 < 0)) = true then
      some false
     else
      if (r40 != r37) = true then
       some false
      else
       (laws_toProgram aP1).bind fun r46 =>
       (impl_Folded r46).bind fun r48 =>
       (laws_eqProgram r48 r8).bind fun r50 =>
       if (!r50) = true then
        some false
       else
        (laws_heldProgram q38 1).bind fun r54 =>
        if (decide (r54 < 0)) = true then
         some false
        else
         if (r54 != r37) = true then
          some false
         else
          some true
end Go.OM
end
set_option maxRecDepth 100000
namespace Go.Proofs.T
open Go.OM
noncomputable def ty : TypeId → Option TI
 | 2 => some ⟨1, 8, .int .i64, [.v (.int .i64 0)]⟩
 | 3 => some ⟨1, 8, .int .i64, [.v (.int .i64 0)]⟩
 | 4 => some ⟨1, 1, .bool, [.v (.bool false)]⟩
 | 5 => some ⟨1, 1, .int .u8, [.v (.int .u8 0)]⟩
 | 7 => some ⟨4, 24, .struct [(0, 1), (1, 1), (2, 1), (3, 1)], [.v (.int .i64 0), .v (.int .i64 0), .v (.bool false), .v (.int .u8 0)]⟩
 | 9 => some ⟨1, 16, .str, [.v (.string .empty)]⟩
 | 12 => some ⟨1, 8, .int .u64, [.v (.int .u64 0)]⟩
 | 13 => some ⟨2, 24, .struct [(0, 1), (1, 1)], [.v (.string .empty), .v (.int .u64 0)]⟩
 | 15 => some ⟨1, 8, .ptr, [.v (.pointer none)]⟩
 | 16 => some ⟨1, 8, .ptr, [.v (.pointer none)]⟩
 | 17 => some ⟨1, 8, .ptr, [.v (.pointer none)]⟩
 | 18 => some ⟨1, 8, .struct [(0, 1)], [.v (.pointer none)]⟩
 | 20 => some ⟨1, 16, .iface, [.v .nilIface]⟩
 | 21 => some ⟨1, 4, .int .i32, [.v (.int .i32 0)]⟩
 | 22 => some ⟨1, 24, .slice 63, [.nl true 4 none]⟩
 | 23 => some ⟨1, 24, .slice 67, [.nl true 5 none]⟩
 | 24 => some ⟨2, 48, .struct [(0, 1), (1, 1)], [.nl true 4 none, .nl true 5 none]⟩
 | 25 => some ⟨2, 48, .struct [(0, 1), (1, 1)], [.nl true 4 none, .nl true 5 none]⟩
 | 26 => some ⟨1, 8, .func, [.v .nilFunc]⟩
 | 27 => some ⟨1, 8, .func, [.v .nilFunc]⟩
 | 28 => some ⟨1, 24, .slice 52, [.nl true 4 none]⟩
 | 29 => some ⟨1, 24, .slice 70, [.nl true 5 none]⟩
 | 30 => some ⟨2, 48, .struct [(0, 1), (1, 1)], [.nl true 4 none, .nl true 5 none]⟩
 | 31 => some ⟨2, 48, .struct [(0, 1), (1, 1)], [.nl true 4 none, .nl true 5 none]⟩
 | 32 => some ⟨1, 8, .func, [.v .nilFunc]⟩
 | 33 => some ⟨1, 8, .func, [.v .nilFunc]⟩
 | 34 => some ⟨1, 8, .func, [.v .nilFunc]⟩
 | 35 => some ⟨1, 8, .func, [.v .nilFunc]⟩
 | 36 => some ⟨1, 8, .func, [.v .nilFunc]⟩
 | 37 => some ⟨1, 24, .slice 3, [.nl true 1 none]⟩
 | 38 => some ⟨1, 8, .func, [.v .nilFunc]⟩
 | 39 => some ⟨1, 8, .func, [.v .nilFunc]⟩
 | 40 => some ⟨1, 8, .func, [.v .nilFunc]⟩
 | 41 => some ⟨1, 8, .func, [.v .nilFunc]⟩
 | 42 => some ⟨1, 8, .func, [.v .nilFunc]⟩
 | 43 => some ⟨1, 8, .func, [.v .nilFunc]⟩
 | 44 => some ⟨1, 8, .func, [.v .nilFunc]⟩
 | 45 => some ⟨1, 8, .func, [.v .nilFunc]⟩
 | 46 => some ⟨1, 8, .func, [.v .nilFunc]⟩
 | 47 => some ⟨1, 8, .func, [.v .nilFunc]⟩
 | 48 => some ⟨1, 8, .func, [.v .nilFunc]⟩
 | 50 => some ⟨1, 8, .func, [.v .nilFunc]⟩
 | 51 => some ⟨4, 56, .struct [(0, 1), (1, 1), (2, 1), (3, 1)], [.v (.int .i64 0), .v (.int .i64 0), .v (.string .empty), .nl true 1 none]⟩
 | 52 => some ⟨4, 56, .struct [(0, 1), (1, 1), (2, 1), (3, 1)], [.v (.int .i64 0), .v (.int .i64 0), .v (.string .empty), .nl true 1 none]⟩
 | 54 => some ⟨1, 8, .func, [.v .nilFunc]⟩
 | 55 => some ⟨1, 8, .func, [.v .nilFunc]⟩
 | 56 => some ⟨1, 8, .func, [.v .nilFunc]⟩
 | 57 => some ⟨1, 8, .func, [.v .nilFunc]⟩
 | 58 => some ⟨1, 8, .func, [.v .nilFunc]⟩
 | 59 => some ⟨1, 8, .func, [.v .nilFunc]⟩
 | 60 => some ⟨1, 24, .slice 4, [.nl true 1 none]⟩
 | 61 => some ⟨1, 8, .func, [.v .nilFunc]⟩
 | 62 => some ⟨1, 8, .func, [.v .nilFunc]⟩
 | 63 => some ⟨4, 56, .struct [(0, 1), (1, 1), (2, 1), (3, 1)], [.v (.int .i64 0), .v (.int .i64 0), .v (.string .empty), .nl true 1 none]⟩
 | 64 => some ⟨1, 8, .func, [.v .nilFunc]⟩
 | 65 => some ⟨1, 24, .slice 110, [.nl true 2 none]⟩
 | 66 => some ⟨5, 64, .struct [(0, 1), (1, 1), (2, 1), (3, 1), (4, 1)], [.v (.string .empty), .nl true 2 none, .v (.int .i64 0), .v (.int .i64 0), .v (.int .i64 0)]⟩
 | 67 => some ⟨5, 64, .struct [(0, 1), (1, 1), (2, 1), (3, 1), (4, 1)], [.v (.string .empty), .nl true 2 none, .v (.int .i64 0), .v (.int .i64 0), .v (.int .i64 0)]⟩
 | 68 => some ⟨1, 24, .slice 100, [.nl true 2 none]⟩
 | 69 => some ⟨5, 64, .struct [(0, 1), (1, 1), (2, 1), (3, 1), (4, 1)], [.v (.string .empty), .nl true 2 none, .v (.int .i64 0), .v (.int .i64 0), .v (.int .i64 0)]⟩
 | 70 => some ⟨5, 64, .struct [(0, 1), (1, 1), (2, 1), (3, 1), (4, 1)], [.v (.string .empty), .nl true 2 none, .v (.int .i64 0), .v (.int .i64 0), .v (.int .i64 0)]⟩
 | 71 => some ⟨1, 8, .func, [.v .nilFunc]⟩
 | 72 => some ⟨1, 8, .func, [.v .nilFunc]⟩
 | 73 => some ⟨1, 8, .func, [.v .nilFunc]⟩
 | 74 => some ⟨1, 8, .func, [.v .nilFunc]⟩
 | 75 => some ⟨1, 8, .func, [.v .nilFunc]⟩
 | 76 => some ⟨1, 8, .func, [.v .nilFunc]⟩
 | 77 => some ⟨1, 8, .func, [.v .nilFunc]⟩
 | 78 => some ⟨1, 8, .func, [.v .nilFunc]⟩
 | 79 => some ⟨1, 8, .ptr, [.v (.pointer none)]⟩
 | 80 => some ⟨3, 56, .struct [(0, 1), (1, 1), (2, 1)], [.nl true 4 none, .nl true 4 none, .v (.bool false)]⟩
 | 81 => some ⟨3, 56, .struct [(0, 1), (1, 1), (2, 1)], [.nl true 4 none, .nl true 4 none, .v (.bool false)]⟩
 | 82 => some ⟨1, 8, .func, [.v .nilFunc]⟩
 | 83 => some ⟨1, 8, .func, [.v .nilFunc]⟩
 | 84 => some ⟨1, 8, .func, [.v .nilFunc]⟩
 | 85 => some ⟨1, 8, .func, [.v .nilFunc]⟩
 | 86 => some ⟨1, 8, .func, [.v .nilFunc]⟩
 | 87 => some ⟨3, 56, .struct [(0, 1), (1, 1), (2, 1)], [.nl true 4 none, .nl true 4 none, .v (.bool false)]⟩
 | 88 => some ⟨3, 56, .struct [(0, 1), (1, 1), (2, 1)], [.nl true 4 none, .nl true 4 none, .v (.bool false)]⟩
 | 89 => some ⟨1, 8, .func, [.v .nilFunc]⟩
 | 90 => some ⟨1, 8, .func, [.v .nilFunc]⟩
 | 91 => some ⟨1, 8, .func, [.v .nilFunc]⟩
 | 92 => some ⟨1, 8, .func, [.v .nilFunc]⟩
 | 93 => some ⟨1, 8, .func, [.v .nilFunc]⟩
 | 94 => some ⟨1, 8, .func, [.v .nilFunc]⟩
 | 95 => some ⟨1, 8, .func, [.v .nilFunc]⟩
 | 96 => some ⟨1, 8, .func, [.v .nilFunc]⟩
 | 97 => some ⟨1, 8, .func, [.v .nilFunc]⟩
 | 98 => some ⟨1, 8, .func, [.v .nilFunc]⟩
 | 99 => some ⟨2, 24, .struct [(0, 1), (1, 1)], [.v (.string .empty), .v (.int .i64 0)]⟩
 | 100 => some ⟨2, 24, .struct [(0, 1), (1, 1)], [.v (.string .empty), .v (.int .i64 0)]⟩
 | 101 => some ⟨1, 8, .func, [.v .nilFunc]⟩
 | 103 => some ⟨1, 8, .func, [.v .nilFunc]⟩
 | 104 => some ⟨1, 8, .ptr, [.v (.pointer none)]⟩
 | 105 => some ⟨1, 24, .slice 5, [.nl true 1 none]⟩
 | 106 => some ⟨1, 8, .func, [.v .nilFunc]⟩
 | 107 => some ⟨1, 8, .func, [.v .nilFunc]⟩
 | 108 => some ⟨1, 8, .int .u64, [.v (.int .u64 0)]⟩
 | 109 => some ⟨1, 8, .func, [.v .nilFunc]⟩
 | 110 => some ⟨2, 24, .struct [(0, 1), (1, 1)], [.v (.string .empty), .v (.int .i64 0)]⟩
 | 111 => some ⟨1, 8, .func, [.v .nilFunc]⟩
 | 112 => some ⟨1, 8, .func, [.v .nilFunc]⟩
 | 114 => some ⟨1, 8, .func, [.v .nilFunc]⟩
 | 115 => some ⟨1, 8, .func, [.v .nilFunc]⟩
 | 116 => some ⟨1, 8, .func, [.v .nilFunc]⟩
 | 117 => some ⟨1, 8, .int .i64, [.v (.int .i64 0)]⟩
 | 119 => some ⟨1, 8, .func, [.v .nilFunc]⟩
 | 120 => some ⟨1, 8, .func, [.v .nilFunc]⟩
 | 121 => some ⟨1, 8, .func, [.v .nilFunc]⟩
 | 122 => some ⟨1, 8, .func, [.v .nilFunc]⟩
 | 123 => some ⟨1, 8, .func, [.v .nilFunc]⟩
 | 124 => some ⟨1, 8, .func, [.v .nilFunc]⟩
 | 125 => some ⟨1, 4, .int .u32, [.v (.int .u32 0)]⟩
 | 126 => some ⟨1, 8, .func, [.v .nilFunc]⟩
 | 127 => some ⟨1, 8, .int .u64, [.v (.int .u64 0)]⟩
 | 128 => some ⟨1, 24, .slice 9, [.nl true 1 none]⟩
 | 129 => some ⟨1, 8, .func, [.v .nilFunc]⟩
 | 130 => some ⟨1, 8, .func, [.v .nilFunc]⟩
 | 131 => some ⟨1, 8, .int .u64, [.v (.int .u64 0)]⟩
 | 132 => some ⟨1, 8, .func, [.v .nilFunc]⟩
 | 133 => some ⟨1, 8, .func, [.v .nilFunc]⟩
 | 134 => some ⟨1, 8, .func, [.v .nilFunc]⟩
 | 135 => some ⟨1, 8, .ptr, [.v (.pointer none)]⟩
 | 136 => some ⟨1, 8, .func, [.v .nilFunc]⟩
 | 137 => some ⟨1, 8, .func, [.v .nilFunc]⟩
 | 138 => some ⟨1, 8, .ptr, [.v (.pointer none)]⟩
 | 139 => some ⟨1, 8, .func, [.v .nilFunc]⟩
 | 140 => some ⟨1, 8, .func, [.v .nilFunc]⟩
 | 141 => some ⟨1, 8, .func, [.v .nilFunc]⟩
 | 142 => some ⟨1, 8, .func, [.v .nilFunc]⟩
 | 143 => some ⟨1, 8, .func, [.v .nilFunc]⟩
 | 145 => some ⟨1, 8, .func, [.v .nilFunc]⟩
 | 146 => some ⟨1, 8, .func, [.v .nilFunc]⟩
 | 147 => some ⟨1, 8, .func, [.v .nilFunc]⟩
 | 149 => some ⟨2, 2, .struct [(0, 1), (1, 1)], [.v (.int .u8 0), .v (.int .u8 0)]⟩
 | 150 => some ⟨2, 2, .struct [(0, 1), (1, 1)], [.v (.int .u8 0), .v (.int .u8 0)]⟩
 | 153 => some ⟨1, 8, .func, [.v .nilFunc]⟩
 | 154 => some ⟨1, 8, .func, [.v .nilFunc]⟩
 | 155 => some ⟨4, 40, .struct [(0, 1), (1, 1), (2, 1), (3, 1)], [.v (.pointer none), .v (.pointer none), .v (.pointer none), .v (.string .empty)]⟩
 | 160 => some ⟨1, 8, .func, [.v .nilFunc]⟩
 | 163 => some ⟨1, 8, .func, [.v .nilFunc]⟩
 | 164 => some ⟨1, 8, .ptr, [.v (.pointer none)]⟩
 | 167 => some ⟨11, 48, .struct [(0, 1), (1, 1), (2, 1), (3, 1), (4, 1), (5, 1), (6, 1), (7, 1), (8, 1), (9, 1), (10, 1)], [.v (.int .u64 0), .v (.int .u64 0), .v (.int .u32 0), .v (.int .u8 0), .v (.int .u8 0), .v (.int .u8 0), .v (.int .u8 0), .v .nilFunc, .v (.pointer none), .v (.int .i32 0), .v (.int .i32 0)]⟩
 | _ => none
theorem ty_ok (t : TypeId) (ti : TI) (h : ty t = some ti) : TIok Tryz.prog t ti := by
 unfold ty at h
 split at h
 ·cases h; exact ⟨by kernel_rfl, Tryz.underlying2, rfl⟩
 ·cases h; exact ⟨by kernel_rfl, Tryz.underlying3, rfl⟩
 ·cases h; exact ⟨by kernel_rfl, Tryz.underlying4, rfl⟩
 ·cases h; exact ⟨by kernel_rfl, Tryz.underlying5, rfl⟩
 ·cases h; exact ⟨by kernel_rfl, (show structOffs Tryz.prog 7 = some [(0, 1), (1, 1), (2, 1), (3, 1)] by kernel_rfl), rfl⟩
 ·cases h; exact ⟨by kernel_rfl, Tryz.underlying9, rfl⟩
 ·cases h; exact ⟨by kernel_rfl, Tryz.underlying12, rfl⟩
 ·cases h; exact ⟨by kernel_rfl, (show structOffs Tryz.prog 13 = some [(0, 1), (1, 1)] by kernel_rfl), rfl⟩
 ·cases h; exact ⟨by kernel_rfl, ⟨_, Tryz.underlying15⟩, rfl⟩
 ·cases h; exact ⟨by kernel_rfl, ⟨_, Tryz.underlying16⟩, rfl⟩
 ·cases h; exact ⟨by kernel_rfl, ⟨_, Tryz.underlying17⟩, rfl⟩
 ·cases h; exact ⟨by kernel_rfl, (show structOffs Tryz.prog 18 = some [(0, 1)] by kernel_rfl), rfl⟩
 ·cases h; exact ⟨by kernel_rfl, ⟨_, Tryz.underlying20⟩, rfl⟩
 ·cases h; exact ⟨by kernel_rfl, Tryz.underlying21, rfl⟩
 ·cases h; exact ⟨by kernel_rfl, Tryz.underlying22, rfl⟩
 ·cases h; exact ⟨by kernel_rfl, Tryz.underlying23, rfl⟩
 ·cases h; exact ⟨by kernel_rfl, (show structOffs Tryz.prog 24 = some [(0, 1), (1, 1)] by kernel_rfl), rfl⟩
 ·cases h; exact ⟨by kernel_rfl, (show structOffs Tryz.prog 25 = some [(0, 1), (1, 1)] by kernel_rfl), rfl⟩
 ·cases h; exact ⟨by kernel_rfl, ⟨_, _, _, Tryz.underlying26⟩, rfl⟩
 ·cases h; exact ⟨by kernel_rfl, ⟨_, _, _, Tryz.underlying27⟩, rfl⟩
 ·cases h; exact ⟨by kernel_rfl, Tryz.underlying28, rfl⟩
 ·cases h; exact ⟨by kernel_rfl, Tryz.underlying29, rfl⟩
 ·cases h; exact ⟨by kernel_rfl, (show structOffs Tryz.prog 30 = some [(0, 1), (1, 1)] by kernel_rfl), rfl⟩
 ·cases h; exact ⟨by kernel_rfl, (show structOffs Tryz.prog 31 = some [(0, 1), (1, 1)] by kernel_rfl), rfl⟩
 ·cases h; exact ⟨by kernel_rfl, ⟨_, _, _, Tryz.underlying32⟩, rfl⟩
 ·cases h; exact ⟨by kernel_rfl, ⟨_, _, _, Tryz.underlying33⟩, rfl⟩
 ·cases h; exact ⟨by kernel_rfl, ⟨_, _, _, Tryz.underlying34⟩, rfl⟩
 ·cases h; exact ⟨by kernel_rfl, ⟨_, _, _, Tryz.underlying35⟩, rfl⟩
 ·cases h; exact ⟨by kernel_rfl, ⟨_, _, _, Tryz.underlying36⟩, rfl⟩
 ·cases h; exact ⟨by kernel_rfl, Tryz.underlying37, rfl⟩
 ·cases h; exact ⟨by kernel_rfl, ⟨_, _, _, Tryz.underlying38⟩, rfl⟩
 ·cases h; exact ⟨by kernel_rfl, ⟨_, _, _, Tryz.underlying39⟩, rfl⟩
 ·cases h; exact ⟨by kernel_rfl, ⟨_, _, _, Tryz.underlying40⟩, rfl⟩
 ·cases h; exact ⟨by kernel_rfl, ⟨_, _, _, Tryz.underlying41⟩, rfl⟩
 ·cases h; exact ⟨by kernel_rfl, ⟨_, _, _, Tryz.underlying42⟩, rfl⟩
 ·cases h; exact ⟨by kernel_rfl, ⟨_, _, _, Tryz.underlying43⟩, rfl⟩
 ·cases h; exact ⟨by kernel_rfl, ⟨_, _, _, Tryz.underlying44⟩, rfl⟩
 ·cases h; exact ⟨by kernel_rfl, ⟨_, _, _, Tryz.underlying45⟩, rfl⟩
 ·cases h; exact ⟨by kernel_rfl, ⟨_, _, _, Tryz.underlying46⟩, rfl⟩
 ·cases h; exact ⟨by kernel_rfl, ⟨_, _, _, Tryz.underlying47⟩, rfl⟩
 ·cases h; exact ⟨by kernel_rfl, ⟨_, _, _, Tryz.underlying48⟩, rfl⟩
 ·cases h; exact ⟨by kernel_rfl, ⟨_, _, _, Tryz.underlying50⟩, rfl⟩
 ·cases h; exact ⟨by kernel_rfl, (show structOffs Tryz.prog 51 = some [(0, 1), (1, 1), (2, 1), (3, 1)] by kernel_rfl), rfl⟩
 ·cases h; exact ⟨by kernel_rfl, (show structOffs Tryz.prog 52 = some [(0, 1), (1, 1), (2, 1), (3, 1)] by kernel_rfl), rfl⟩
 ·cases h; exact ⟨by kernel_rfl, ⟨_, _, _, Tryz.underlying54⟩, rfl⟩
 ·cases h; exact ⟨by kernel_rfl, ⟨_, _, _, Tryz.underlying55⟩, rfl⟩
 ·cases h; exact ⟨by kernel_rfl, ⟨_, _, _, Tryz.underlying56⟩, rfl⟩
 ·cases h; exact ⟨by kernel_rfl, ⟨_, _, _, Tryz.underlying57⟩, rfl⟩
 ·cases h; exact ⟨by kernel_rfl, ⟨_, _, _, Tryz.underlying58⟩, rfl⟩
 ·cases h; exact ⟨by kernel_rfl, ⟨_, _, _, Tryz.underlying59⟩, rfl⟩
 ·cases h; exact ⟨by kernel_rfl, Tryz.underlying60, rfl⟩
 ·cases h; exact ⟨by kernel_rfl, ⟨_, _, _, Tryz.underlying61⟩, rfl⟩
 ·cases h; exact ⟨by kernel_rfl, ⟨_, _, _, Tryz.underlying62⟩, rfl⟩
 ·cases h; exact ⟨by kernel_rfl, (show structOffs Tryz.prog 63 = some [(0, 1), (1, 1), (2, 1), (3, 1)] by kernel_rfl), rfl⟩
 ·cases h; exact ⟨by kernel_rfl, ⟨_, _, _, Tryz.underlying64⟩, rfl⟩
 ·cases h; exact ⟨by kernel_rfl, Tryz.underlying65, rfl⟩
 ·cases h; exact ⟨by kernel_rfl, (show structOffs Tryz.prog 66 = some [(0, 1), (1, 1), (2, 1), (3, 1), (4, 1)] by kernel_rfl), rfl⟩
 ·cases h; exact ⟨by kernel_rfl, (show structOffs Tryz.prog 67 = some [(0, 1), (1, 1), (2, 1), (3, 1), (4, 1)] by kernel_rfl), rfl⟩
 ·cases h; exact ⟨by kernel_rfl, Tryz.underlying68, rfl⟩
 ·cases h; exact ⟨by kernel_rfl, (show structOffs Tryz.prog 69 = some [(0, 1), (1, 1), (2, 1), (3, 1), (4, 1)] by kernel_rfl), rfl⟩
 ·cases h; exact ⟨by kernel_rfl, (show structOffs Tryz.prog 70 = some [(0, 1), (1, 1), (2, 1), (3, 1), (4, 1)] by kernel_rfl), rfl⟩
 ·cases h; exact ⟨by kernel_rfl, ⟨_, _, _, Tryz.underlying71⟩, rfl⟩
 ·cases h; exact ⟨by kernel_rfl, ⟨_, _, _, Tryz.underlying72⟩, rfl⟩
 ·cases h; exact ⟨by kernel_rfl, ⟨_, _, _, Tryz.underlying73⟩, rfl⟩
 ·cases h; exact ⟨by kernel_rfl, ⟨_, _, _, Tryz.underlying74⟩, rfl⟩
 ·cases h; exact ⟨by kernel_rfl, ⟨_, _, _, Tryz.underlying75⟩, rfl⟩
 ·cases h; exact ⟨by kernel_rfl, ⟨_, _, _, Tryz.underlying76⟩, rfl⟩
 ·cases h; exact ⟨by kernel_rfl, ⟨_, _, _, Tryz.underlying77⟩, rfl⟩
 ·cases h; exact ⟨by kernel_rfl, ⟨_, _, _, Tryz.underlying78⟩, rfl⟩
 ·cases h; exact ⟨by kernel_rfl, ⟨_, Tryz.underlying79⟩, rfl⟩
 ·cases h; exact ⟨by kernel_rfl, (show structOffs Tryz.prog 80 = some [(0, 1), (1, 1), (2, 1)] by kernel_rfl), rfl⟩
 ·cases h; exact ⟨by kernel_rfl, (show structOffs Tryz.prog 81 = some [(0, 1), (1, 1), (2, 1)] by kernel_rfl), rfl⟩
 ·cases h; exact ⟨by kernel_rfl, ⟨_, _, _, Tryz.underlying82⟩, rfl⟩
 ·cases h; exact ⟨by kernel_rfl, ⟨_, _, _, Tryz.underlying83⟩, rfl⟩
 ·cases h; exact ⟨by kernel_rfl, ⟨_, _, _, Tryz.underlying84⟩, rfl⟩
 ·cases h; exact ⟨by kernel_rfl, ⟨_, _, _, Tryz.underlying85⟩, rfl⟩
 ·cases h; exact ⟨by kernel_rfl, ⟨_, _, _, Tryz.underlying86⟩, rfl⟩
 ·cases h; exact ⟨by kernel_rfl, (show structOffs Tryz.prog 87 = some [(0, 1), (1, 1), (2, 1)] by kernel_rfl), rfl⟩
 ·cases h; exact ⟨by kernel_rfl, (show structOffs Tryz.prog 88 = some [(0, 1), (1, 1), (2, 1)] by kernel_rfl), rfl⟩
 ·cases h; exact ⟨by kernel_rfl, ⟨_, _, _, Tryz.underlying89⟩, rfl⟩
 ·cases h; exact ⟨by kernel_rfl, ⟨_, _, _, Tryz.underlying90⟩, rfl⟩
 ·cases h; exact ⟨by kernel_rfl, ⟨_, _, _, Tryz.underlying91⟩, rfl⟩
 ·cases h; exact ⟨by kernel_rfl, ⟨_, _, _, Tryz.underlying92⟩, rfl⟩
 ·cases h; exact ⟨by kernel_rfl, ⟨_, _, _, Tryz.underlying93⟩, rfl⟩
 ·cases h; exact ⟨by kernel_rfl, ⟨_, _, _, Tryz.underlying94⟩, rfl⟩
 ·cases h; exact ⟨by kernel_rfl, ⟨_, _, _, Tryz.underlying95⟩, rfl⟩
 ·cases h; exact ⟨by kernel_rfl, ⟨_, _, _, Tryz.underlying96⟩, rfl⟩
 ·cases h; exact ⟨by kernel_rfl, ⟨_, _, _, Tryz.underlying97⟩, rfl⟩
 ·cases h; exact ⟨by kernel_rfl, ⟨_, _, _, Tryz.underlying98⟩, rfl⟩
 ·cases h; exact ⟨by kernel_rfl, (show structOffs Tryz.prog 99 = some [(0, 1), (1, 1)] by kernel_rfl), rfl⟩
 ·cases h; exact ⟨by kernel_rfl, (show structOffs Tryz.prog 100 = some [(0, 1), (1, 1)] by kernel_rfl), rfl⟩
 ·cases h; exact ⟨by kernel_rfl, ⟨_, _, _, Tryz.underlying101⟩, rfl⟩
 ·cases h; exact ⟨by kernel_rfl, ⟨_, _, _, Tryz.underlying103⟩, rfl⟩
 ·cases h; exact ⟨by kernel_rfl, ⟨_, Tryz.underlying104⟩, rfl⟩
 ·cases h; exact ⟨by kernel_rfl, Tryz.underlying105, rfl⟩
 ·cases h; exact ⟨by kernel_rfl, ⟨_, _, _, Tryz.underlying106⟩, rfl⟩
 ·cases h; exact ⟨by kernel_rfl, ⟨_, _, _, Tryz.underlying107⟩, rfl⟩
 ·cases h; exact ⟨by kernel_rfl, Tryz.underlying108, rfl⟩
 ·cases h; exact ⟨by kernel_rfl, ⟨_, _, _, Tryz.underlying109⟩, rfl⟩
 ·cases h; exact ⟨by kernel_rfl, (show structOffs Tryz.prog 110 = some [(0, 1), (1, 1)] by kernel_rfl), rfl⟩
 ·cases h; exact ⟨by kernel_rfl, ⟨_, _, _, Tryz.underlying111⟩, rfl⟩
 ·cases h; exact ⟨by kernel_rfl, ⟨_, _, _, Tryz.underlying112⟩, rfl⟩
 ·cases h; exact ⟨by kernel_rfl, ⟨_, _, _, Tryz.underlying114⟩, rfl⟩
 ·cases h; exact ⟨by kernel_rfl, ⟨_, _, _, Tryz.underlying115⟩, rfl⟩
 ·cases h; exact ⟨by kernel_rfl, ⟨_, _, _, Tryz.underlying116⟩, rfl⟩
 ·cases h; exact ⟨by kernel_rfl, Tryz.underlying117, rfl⟩
 ·cases h; exact ⟨by kernel_rfl, ⟨_, _, _, Tryz.underlying119⟩, rfl⟩
 ·cases h; exact ⟨by kernel_rfl, ⟨_, _, _, Tryz.underlying120⟩, rfl⟩
 ·cases h; exact ⟨by kernel_rfl, ⟨_, _, _, Tryz.underlying121⟩, rfl⟩
 ·cases h; exact ⟨by kernel_rfl, ⟨_, _, _, Tryz.underlying122⟩, rfl⟩
 ·cases h; exact ⟨by kernel_rfl, ⟨_, _, _, Tryz.underlying123⟩, rfl⟩
 ·cases h; exact ⟨by kernel_rfl, ⟨_, _, _, Tryz.underlying124⟩, rfl⟩
 ·cases h; exact ⟨by kernel_rfl, Tryz.underlying125, rfl⟩
 ·cases h; exact ⟨by kernel_rfl, ⟨_, _, _, Tryz.underlying126⟩, rfl⟩
 ·cases h; exact ⟨by kernel_rfl, Tryz.underlying127, rfl⟩
 ·cases h; exact ⟨by kernel_rfl, Tryz.underlying128, rfl⟩
 ·cases h; exact ⟨by kernel_rfl, ⟨_, _, _, Tryz.underlying129⟩, rfl⟩
 ·cases h; exact ⟨by kernel_rfl, ⟨_, _, _, Tryz.underlying130⟩, rfl⟩
 ·cases h; exact ⟨by kernel_rfl, Tryz.underlying131, rfl⟩
 ·cases h; exact ⟨by kernel_rfl, ⟨_, _, _, Tryz.underlying132⟩, rfl⟩
 ·cases h; exact ⟨by kernel_rfl, ⟨_, _, _, Tryz.underlying133⟩, rfl⟩
 ·cases h; exact ⟨by kernel_rfl, ⟨_, _, _, Tryz.underlying134⟩, rfl⟩
 ·cases h; exact ⟨by kernel_rfl, ⟨_, Tryz.underlying135⟩, rfl⟩
 ·cases h; exact ⟨by kernel_rfl, ⟨_, _, _, Tryz.underlying136⟩, rfl⟩
 ·cases h; exact ⟨by kernel_rfl, ⟨_, _, _, Tryz.underlying137⟩, rfl⟩
 ·cases h; exact ⟨by kernel_rfl, ⟨_, Tryz.underlying138⟩, rfl⟩
 ·cases h; exact ⟨by kernel_rfl, ⟨_, _, _, Tryz.underlying139⟩, rfl⟩
 ·cases h; exact ⟨by kernel_rfl, ⟨_, _, _, Tryz.underlying140⟩, rfl⟩
 ·cases h; exact ⟨by kernel_rfl, ⟨_, _, _, Tryz.underlying141⟩, rfl⟩
 ·cases h; exact ⟨by kernel_rfl, ⟨_, _, _, Tryz.underlying142⟩, rfl⟩
 ·cases h; exact ⟨by kernel_rfl, ⟨_, _, _, Tryz.underlying143⟩, rfl⟩
 ·cases h; exact ⟨by kernel_rfl, ⟨_, _, _, Tryz.underlying145⟩, rfl⟩
 ·cases h; exact ⟨by kernel_rfl, ⟨_, _, _, Tryz.underlying146⟩, rfl⟩
 ·cases h; exact ⟨by kernel_rfl, ⟨_, _, _, Tryz.underlying147⟩, rfl⟩
 ·cases h; exact ⟨by kernel_rfl, (show structOffs Tryz.prog 149 = some [(0, 1), (1, 1)] by kernel_rfl), rfl⟩
 ·cases h; exact ⟨by kernel_rfl, (show structOffs Tryz.prog 150 = some [(0, 1), (1, 1)] by kernel_rfl), rfl⟩
 ·cases h; exact ⟨by kernel_rfl, ⟨_, _, _, Tryz.underlying153⟩, rfl⟩
 ·cases h; exact ⟨by kernel_rfl, ⟨_, _, _, Tryz.underlying154⟩, rfl⟩
 ·cases h; exact ⟨by kernel_rfl, (show structOffs Tryz.prog 155 = some [(0, 1), (1, 1), (2, 1), (3, 1)] by kernel_rfl), rfl⟩
 ·cases h; exact ⟨by kernel_rfl, ⟨_, _, _, Tryz.underlying160⟩, rfl⟩
 ·cases h; exact ⟨by kernel_rfl, ⟨_, _, _, Tryz.underlying163⟩, rfl⟩
 ·cases h; exact ⟨by kernel_rfl, ⟨_, Tryz.underlying164⟩, rfl⟩
 ·cases h; exact ⟨by kernel_rfl, (show structOffs Tryz.prog 167 = some [(0, 1), (1, 1), (2, 1), (3, 1), (4, 1), (5, 1), (6, 1), (7, 1), (8, 1), (9, 1), (10, 1)] by kernel_rfl), rfl⟩
 ·cases h
noncomputable def E : Env := ⟨Tryz.prog, ty, ty_ok, by kernel_rfl, [(0, fun cs => ∃ m, cs[0]? = some (.int .i64 m))]⟩
@[simp] theorem E_ty2 : E.ty 2 = some ⟨1, 8, .int .i64, [.v (.int .i64 0)]⟩ := rfl
@[simp] theorem E_ty3 : E.ty 3 = some ⟨1, 8, .int .i64, [.v (.int .i64 0)]⟩ := rfl
@[simp] theorem E_ty4 : E.ty 4 = some ⟨1, 1, .bool, [.v (.bool false)]⟩ := rfl
@[simp] theorem E_ty5 : E.ty 5 = some ⟨1, 1, .int .u8, [.v (.int .u8 0)]⟩ := rfl
@[simp] theorem E_ty7 : E.ty 7 = some ⟨4, 24, .struct [(0, 1), (1, 1), (2, 1), (3, 1)], [.v (.int .i64 0), .v (.int .i64 0), .v (.bool false), .v (.int .u8 0)]⟩ := rfl
@[simp] theorem E_ty9 : E.ty 9 = some ⟨1, 16, .str, [.v (.string .empty)]⟩ := rfl
@[simp] theorem E_ty12 : E.ty 12 = some ⟨1, 8, .int .u64, [.v (.int .u64 0)]⟩ := rfl
@[simp] theorem E_ty13 : E.ty 13 = some ⟨2, 24, .struct [(0, 1), (1, 1)], [.v (.string .empty), .v (.int .u64 0)]⟩ := rfl
@[simp] theorem E_ty15 : E.ty 15 = some ⟨1, 8, .ptr, [.v (.pointer none)]⟩ := rfl
@[simp] theorem E_ty16 : E.ty 16 = some ⟨1, 8, .ptr, [.v (.pointer none)]⟩ := rfl
@[simp] theorem E_ty17 : E.ty 17 = some ⟨1, 8, .ptr, [.v (.pointer none)]⟩ := rfl
@[simp] theorem E_ty18 : E.ty 18 = some ⟨1, 8, .struct [(0, 1)], [.v (.pointer none)]⟩ := rfl
@[simp] theorem E_ty20 : E.ty 20 = some ⟨1, 16, .iface, [.v .nilIface]⟩ := rfl
@[simp] theorem E_ty21 : E.ty 21 = some ⟨1, 4, .int .i32, [.v (.int .i32 0)]⟩ := rfl
@[simp] theorem E_ty22 : E.ty 22 = some ⟨1, 24, .slice 63, [.nl true 4 none]⟩ := rfl
@[simp] theorem E_ty23 : E.ty 23 = some ⟨1, 24, .slice 67, [.nl true 5 none]⟩ := rfl
@[simp] theorem E_ty24 : E.ty 24 = some ⟨2, 48, .struct [(0, 1), (1, 1)], [.nl true 4 none, .nl true 5 none]⟩ := rfl
@[simp] theorem E_ty25 : E.ty 25 = some ⟨2, 48, .struct [(0, 1), (1, 1)], [.nl true 4 none, .nl true 5 none]⟩ := rfl
@[simp] theorem E_ty26 : E.ty 26 = some ⟨1, 8, .func, [.v .nilFunc]⟩ := rfl
@[simp] theorem E_ty27 : E.ty 27 = some ⟨1, 8, .func, [.v .nilFunc]⟩ := rfl
@[simp] theorem E_ty28 : E.ty 28 = some ⟨1, 24, .slice 52, [.nl true 4 none]⟩ := rfl
@[simp] theorem E_ty29 : E.ty 29 = some ⟨1, 24, .slice 70, [.nl true 5 none]⟩ := rfl
@[simp] theorem E_ty30 : E.ty 30 = some ⟨2, 48, .struct [(0, 1), (1, 1)], [.nl true 4 none, .nl true 5 none]⟩ := rfl
@[simp] theorem E_ty31 : E.ty 31 = some ⟨2, 48, .struct [(0, 1), (1, 1)], [.nl true 4 none, .nl true 5 none]⟩ := rfl
@[simp] theorem E_ty32 : E.ty 32 = some ⟨1, 8, .func, [.v .nilFunc]⟩ := rfl
@[simp] theorem E_ty33 : E.ty 33 = some ⟨1, 8, .func, [.v .nilFunc]⟩ := rfl
@[simp] theorem E_ty34 : E.ty 34 = some ⟨1, 8, .func, [.v .nilFunc]⟩ := rfl
@[simp] theorem E_ty35 : E.ty 35 = some ⟨1, 8, .func, [.v .nilFunc]⟩ := rfl
@[simp] theorem E_ty36 : E.ty 36 = some ⟨1, 8, .func, [.v .nilFunc]⟩ := rfl
@[simp] theorem E_ty37 : E.ty 37 = some ⟨1, 24, .slice 3, [.nl true 1 none]⟩ := rfl
@[simp] theorem E_ty38 : E.ty 38 = some ⟨1, 8, .func, [.v .nilFunc]⟩ := rfl
@[simp] theorem E_ty39 : E.ty 39 = some ⟨1, 8, .func, [.v .nilFunc]⟩ := rfl
@[simp] theorem E_ty40 : E.ty 40 = some ⟨1, 8, .func, [.v .nilFunc]⟩ := rfl
@[simp] theorem E_ty41 : E.ty 41 = some ⟨1, 8, .func, [.v .nilFunc]⟩ := rfl
@[simp] theorem E_ty42 : E.ty 42 = some ⟨1, 8, .func, [.v .nilFunc]⟩ := rfl
@[simp] theorem E_ty43 : E.ty 43 = some ⟨1, 8, .func, [.v .nilFunc]⟩ := rfl
@[simp] theorem E_ty44 : E.ty 44 = some ⟨1, 8, .func, [.v .nilFunc]⟩ := rfl
@[simp] theorem E_ty45 : E.ty 45 = some ⟨1, 8, .func, [.v .nilFunc]⟩ := rfl
@[simp] theorem E_ty46 : E.ty 46 = some ⟨1, 8, .func, [.v .nilFunc]⟩ := rfl
@[simp] theorem E_ty47 : E.ty 47 = some ⟨1, 8, .func, [.v .nilFunc]⟩ := rfl
@[simp] theorem E_ty48 : E.ty 48 = some ⟨1, 8, .func, [.v .nilFunc]⟩ := rfl
@[simp] theorem E_ty50 : E.ty 50 = some ⟨1, 8, .func, [.v .nilFunc]⟩ := rfl
@[simp] theorem E_ty51 : E.ty 51 = some ⟨4, 56, .struct [(0, 1), (1, 1), (2, 1), (3, 1)], [.v (.int .i64 0), .v (.int .i64 0), .v (.string .empty), .nl true 1 none]⟩ := rfl
@[simp] theorem E_ty52 : E.ty 52 = some ⟨4, 56, .struct [(0, 1), (1, 1), (2, 1), (3, 1)], [.v (.int .i64 0), .v (.int .i64 0), .v (.string .empty), .nl true 1 none]⟩ := rfl
@[simp] theorem E_ty54 : E.ty 54 = some ⟨1, 8, .func, [.v .nilFunc]⟩ := rfl
@[simp] theorem E_ty55 : E.ty 55 = some ⟨1, 8, .func, [.v .nilFunc]⟩ := rfl
@[simp] theorem E_ty56 : E.ty 56 = some ⟨1, 8, .func, [.v .nilFunc]⟩ := rfl
@[simp] theorem E_ty57 : E.ty 57 = some ⟨1, 8, .func, [.v .nilFunc]⟩ := rfl
@[simp] theorem E_ty58 : E.ty 58 = some ⟨1, 8, .func, [.v .nilFunc]⟩ := rfl
@[simp] theorem E_ty59 : E.ty 59 = some ⟨1, 8, .func, [.v .nilFunc]⟩ := rfl
@[simp] theorem E_ty60 : E.ty 60 = some ⟨1, 24, .slice 4, [.nl true 1 none]⟩ := rfl
@[simp] theorem E_ty61 : E.ty 61 = some ⟨1, 8, .func, [.v .nilFunc]⟩ := rfl
@[simp] theorem E_ty62 : E.ty 62 = some ⟨1, 8, .func, [.v .nilFunc]⟩ := rfl
@[simp] theorem E_ty63 : E.ty 63 = some ⟨4, 56, .struct [(0, 1), (1, 1), (2, 1), (3, 1)], [.v (.int .i64 0), .v (.int .i64 0), .v (.string .empty), .nl true 1 none]⟩ := rfl
@[simp] theorem E_ty64 : E.ty 64 = some ⟨1, 8, .func, [.v .nilFunc]⟩ := rfl
@[simp] theorem E_ty65 : E.ty 65 = some ⟨1, 24, .slice 110, [.nl true 2 none]⟩ := rfl
@[simp] theorem E_ty66 : E.ty 66 = some ⟨5, 64, .struct [(0, 1), (1, 1), (2, 1), (3, 1), (4, 1)], [.v (.string .empty), .nl true 2 none, .v (.int .i64 0), .v (.int .i64 0), .v (.int .i64 0)]⟩ := rfl
@[simp] theorem E_ty67 : E.ty 67 = some ⟨5, 64, .struct [(0, 1), (1, 1), (2, 1), (3, 1), (4, 1)], [.v (.string .empty), .nl true 2 none, .v (.int .i64 0), .v (.int .i64 0), .v (.int .i64 0)]⟩ := rfl
@[simp] theorem E_ty68 : E.ty 68 = some ⟨1, 24, .slice 100, [.nl true 2 none]⟩ := rfl
@[simp] theorem E_ty69 : E.ty 69 = some ⟨5, 64, .struct [(0, 1), (1, 1), (2, 1), (3, 1), (4, 1)], [.v (.string .empty), .nl true 2 none, .v (.int .i64 0), .v (.int .i64 0), .v (.int .i64 0)]⟩ := rfl
@[simp] theorem E_ty70 : E.ty 70 = some ⟨5, 64, .struct [(0, 1), (1, 1), (2, 1), (3, 1), (4, 1)], [.v (.string .empty), .nl true 2 none, .v (.int .i64 0), .v (.int .i64 0), .v (.int .i64 0)]⟩ := rfl
@[simp] theorem E_ty71 : E.ty 71 = some ⟨1, 8, .func, [.v .nilFunc]⟩ := rfl
@[simp] theorem E_ty72 : E.ty 72 = some ⟨1, 8, .func, [.v .nilFunc]⟩ := rfl
@[simp] theorem E_ty73 : E.ty 73 = some ⟨1, 8, .func, [.v .nilFunc]⟩ := rfl
@[simp] theorem E_ty74 : E.ty 74 = some ⟨1, 8, .func, [.v .nilFunc]⟩ := rfl
@[simp] theorem E_ty75 : E.ty 75 = some ⟨1, 8, .func, [.v .nilFunc]⟩ := rfl
@[simp] theorem E_ty76 : E.ty 76 = some ⟨1, 8, .func, [.v .nilFunc]⟩ := rfl
@[simp] theorem E_ty77 : E.ty 77 = some ⟨1, 8, .func, [.v .nilFunc]⟩ := rfl
@[simp] theorem E_ty78 : E.ty 78 = some ⟨1, 8, .func, [.v .nilFunc]⟩ := rfl
@[simp] theorem E_ty79 : E.ty 79 = some ⟨1, 8, .ptr, [.v (.pointer none)]⟩ := rfl
@[simp] theorem E_ty80 : E.ty 80 = some ⟨3, 56, .struct [(0, 1), (1, 1), (2, 1)], [.nl true 4 none, .nl true 4 none, .v (.bool false)]⟩ := rfl
@[simp] theorem E_ty81 : E.ty 81 = some ⟨3, 56, .struct [(0, 1), (1, 1), (2, 1)], [.nl true 4 none, .nl true 4 none, .v (.bool false)]⟩ := rfl
@[simp] theorem E_ty82 : E.ty 82 = some ⟨1, 8, .func, [.v .nilFunc]⟩ := rfl
@[simp] theorem E_ty83 : E.ty 83 = some ⟨1, 8, .func, [.v .nilFunc]⟩ := rfl
@[simp] theorem E_ty84 : E.ty 84 = some ⟨1, 8, .func, [.v .nilFunc]⟩ := rfl
@[simp] theorem E_ty85 : E.ty 85 = some ⟨1, 8, .func, [.v .nilFunc]⟩ := rfl
@[simp] theorem E_ty86 : E.ty 86 = some ⟨1, 8, .func, [.v .nilFunc]⟩ := rfl
@[simp] theorem E_ty87 : E.ty 87 = some ⟨3, 56, .struct [(0, 1), (1, 1), (2, 1)], [.nl true 4 none, .nl true 4 none, .v (.bool false)]⟩ := rfl
@[simp] theorem E_ty88 : E.ty 88 = some ⟨3, 56, .struct [(0, 1), (1, 1), (2, 1)], [.nl true 4 none, .nl true 4 none, .v (.bool false)]⟩ := rfl
@[simp] theorem E_ty89 : E.ty 89 = some ⟨1, 8, .func, [.v .nilFunc]⟩ := rfl
@[simp] theorem E_ty90 : E.ty 90 = some ⟨1, 8, .func, [.v .nilFunc]⟩ := rfl
@[simp] theorem E_ty91 : E.ty 91 = some ⟨1, 8, .func, [.v .nilFunc]⟩ := rfl
@[simp] theorem E_ty92 : E.ty 92 = some ⟨1, 8, .func, [.v .nilFunc]⟩ := rfl
@[simp] theorem E_ty93 : E.ty 93 = some ⟨1, 8, .func, [.v .nilFunc]⟩ := rfl
@[simp] theorem E_ty94 : E.ty 94 = some ⟨1, 8, .func, [.v .nilFunc]⟩ := rfl
@[simp] theorem E_ty95 : E.ty 95 = some ⟨1, 8, .func, [.v .nilFunc]⟩ := rfl
@[simp] theorem E_ty96 : E.ty 96 = some ⟨1, 8, .func, [.v .nilFunc]⟩ := rfl
@[simp] theorem E_ty97 : E.ty 97 = some ⟨1, 8, .func, [.v .nilFunc]⟩ := rfl
@[simp] theorem E_ty98 : E.ty 98 = some ⟨1, 8, .func, [.v .nilFunc]⟩ := rfl
@[simp] theorem E_ty99 : E.ty 99 = some ⟨2, 24, .struct [(0, 1), (1, 1)], [.v (.string .empty), .v (.int .i64 0)]⟩ := rfl
@[simp] theorem E_ty100 : E.ty 100 = some ⟨2, 24, .struct [(0, 1), (1, 1)], [.v (.string .empty), .v (.int .i64 0)]⟩ := rfl
@[simp] theorem E_ty101 : E.ty 101 = some ⟨1, 8, .func, [.v .nilFunc]⟩ := rfl
@[simp] theorem E_ty103 : E.ty 103 = some ⟨1, 8, .func, [.v .nilFunc]⟩ := rfl
@[simp] theorem E_ty104 : E.ty 104 = some ⟨1, 8, .ptr, [.v (.pointer none)]⟩ := rfl
@[simp] theorem E_ty105 : E.ty 105 = some ⟨1, 24, .slice 5, [.nl true 1 none]⟩ := rfl
@[simp] theorem E_ty106 : E.ty 106 = some ⟨1, 8, .func, [.v .nilFunc]⟩ := rfl
@[simp] theorem E_ty107 : E.ty 107 = some ⟨1, 8, .func, [.v .nilFunc]⟩ := rfl
@[simp] theorem E_ty108 : E.ty 108 = some ⟨1, 8, .int .u64, [.v (.int .u64 0)]⟩ := rfl
@[simp] theorem E_ty109 : E.ty 109 = some ⟨1, 8, .func, [.v .nilFunc]⟩ := rfl
@[simp] theorem E_ty110 : E.ty 110 = some ⟨2, 24, .struct [(0, 1), (1, 1)], [.v (.string .empty), .v (.int .i64 0)]⟩ := rfl
@[simp] theorem E_ty111 : E.ty 111 = some ⟨1, 8, .func, [.v .nilFunc]⟩ := rfl
@[simp] theorem E_ty112 : E.ty 112 = some ⟨1, 8, .func, [.v .nilFunc]⟩ := rfl
@[simp] theorem E_ty114 : E.ty 114 = some ⟨1, 8, .func, [.v .nilFunc]⟩ := rfl
@[simp] theorem E_ty115 : E.ty 115 = some ⟨1, 8, .func, [.v .nilFunc]⟩ := rfl
@[simp] theorem E_ty116 : E.ty 116 = some ⟨1, 8, .func, [.v .nilFunc]⟩ := rfl
@[simp] theorem E_ty117 : E.ty 117 = some ⟨1, 8, .int .i64, [.v (.int .i64 0)]⟩ := rfl
@[simp] theorem E_ty119 : E.ty 119 = some ⟨1, 8, .func, [.v .nilFunc]⟩ := rfl
@[simp] theorem E_ty120 : E.ty 120 = some ⟨1, 8, .func, [.v .nilFunc]⟩ := rfl
@[simp] theorem E_ty121 : E.ty 121 = some ⟨1, 8, .func, [.v .nilFunc]⟩ := rfl
@[simp] theorem E_ty122 : E.ty 122 = some ⟨1, 8, .func, [.v .nilFunc]⟩ := rfl
@[simp] theorem E_ty123 : E.ty 123 = some ⟨1, 8, .func, [.v .nilFunc]⟩ := rfl
@[simp] theorem E_ty124 : E.ty 124 = some ⟨1, 8, .func, [.v .nilFunc]⟩ := rfl
@[simp] theorem E_ty125 : E.ty 125 = some ⟨1, 4, .int .u32, [.v (.int .u32 0)]⟩ := rfl
@[simp] theorem E_ty126 : E.ty 126 = some ⟨1, 8, .func, [.v .nilFunc]⟩ := rfl
@[simp] theorem E_ty127 : E.ty 127 = some ⟨1, 8, .int .u64, [.v (.int .u64 0)]⟩ := rfl
@[simp] theorem E_ty128 : E.ty 128 = some ⟨1, 24, .slice 9, [.nl true 1 none]⟩ := rfl
@[simp] theorem E_ty129 : E.ty 129 = some ⟨1, 8, .func, [.v .nilFunc]⟩ := rfl
@[simp] theorem E_ty130 : E.ty 130 = some ⟨1, 8, .func, [.v .nilFunc]⟩ := rfl
@[simp] theorem E_ty131 : E.ty 131 = some ⟨1, 8, .int .u64, [.v (.int .u64 0)]⟩ := rfl
@[simp] theorem E_ty132 : E.ty 132 = some ⟨1, 8, .func, [.v .nilFunc]⟩ := rfl
@[simp] theorem E_ty133 : E.ty 133 = some ⟨1, 8, .func, [.v .nilFunc]⟩ := rfl
@[simp] theorem E_ty134 : E.ty 134 = some ⟨1, 8, .func, [.v .nilFunc]⟩ := rfl
@[simp] theorem E_ty135 : E.ty 135 = some ⟨1, 8, .ptr, [.v (.pointer none)]⟩ := rfl
@[simp] theorem E_ty136 : E.ty 136 = some ⟨1, 8, .func, [.v .nilFunc]⟩ := rfl
@[simp] theorem E_ty137 : E.ty 137 = some ⟨1, 8, .func, [.v .nilFunc]⟩ := rfl
@[simp] theorem E_ty138 : E.ty 138 = some ⟨1, 8, .ptr, [.v (.pointer none)]⟩ := rfl
@[simp] theorem E_ty139 : E.ty 139 = some ⟨1, 8, .func, [.v .nilFunc]⟩ := rfl
@[simp] theorem E_ty140 : E.ty 140 = some ⟨1, 8, .func, [.v .nilFunc]⟩ := rfl
@[simp] theorem E_ty141 : E.ty 141 = some ⟨1, 8, .func, [.v .nilFunc]⟩ := rfl
@[simp] theorem E_ty142 : E.ty 142 = some ⟨1, 8, .func, [.v .nilFunc]⟩ := rfl
@[simp] theorem E_ty143 : E.ty 143 = some ⟨1, 8, .func, [.v .nilFunc]⟩ := rfl
@[simp] theorem E_ty145 : E.ty 145 = some ⟨1, 8, .func, [.v .nilFunc]⟩ := rfl
@[simp] theorem E_ty146 : E.ty 146 = some ⟨1, 8, .func, [.v .nilFunc]⟩ := rfl
@[simp] theorem E_ty147 : E.ty 147 = some ⟨1, 8, .func, [.v .nilFunc]⟩ := rfl
@[simp] theorem E_ty149 : E.ty 149 = some ⟨2, 2, .struct [(0, 1), (1, 1)], [.v (.int .u8 0), .v (.int .u8 0)]⟩ := rfl
@[simp] theorem E_ty150 : E.ty 150 = some ⟨2, 2, .struct [(0, 1), (1, 1)], [.v (.int .u8 0), .v (.int .u8 0)]⟩ := rfl
@[simp] theorem E_ty153 : E.ty 153 = some ⟨1, 8, .func, [.v .nilFunc]⟩ := rfl
@[simp] theorem E_ty154 : E.ty 154 = some ⟨1, 8, .func, [.v .nilFunc]⟩ := rfl
@[simp] theorem E_ty155 : E.ty 155 = some ⟨4, 40, .struct [(0, 1), (1, 1), (2, 1), (3, 1)], [.v (.pointer none), .v (.pointer none), .v (.pointer none), .v (.string .empty)]⟩ := rfl
@[simp] theorem E_ty160 : E.ty 160 = some ⟨1, 8, .func, [.v .nilFunc]⟩ := rfl
@[simp] theorem E_ty163 : E.ty 163 = some ⟨1, 8, .func, [.v .nilFunc]⟩ := rfl
@[simp] theorem E_ty164 : E.ty 164 = some ⟨1, 8, .ptr, [.v (.pointer none)]⟩ := rfl
@[simp] theorem E_ty167 : E.ty 167 = some ⟨11, 48, .struct [(0, 1), (1, 1), (2, 1), (3, 1), (4, 1), (5, 1), (6, 1), (7, 1), (8, 1), (9, 1), (10, 1)], [.v (.int .u64 0), .v (.int .u64 0), .v (.int .u32 0), .v (.int .u8 0), .v (.int .u8 0), .v (.int .u8 0), .v (.int .u8 0), .v .nilFunc, .v (.pointer none), .v (.int .i32 0), .v (.int .i32 0)]⟩ := rfl
end Go.Proofs.T
set_option maxHeartbeats 1000000
namespace Go.Proofs.T
open Go.OM
theorem res82 : Tryz.f82.results.toList = [.tmp 4] := rfl
theorem ent82 : Enters E.P 82 := eO Tryz.func82 (by simp [Tryz.f82]) rfl
theorem laws_szIntS_ok (a1 : List Int) (left2 : Int) {r0 : Int} (h : laws_szIntS a1 left2 = some r0) : Ok E 82 [.val (.sl false 1 (List.map vi a1)), .val (vi left2)] [vi r0] [] := by
 refine oB (fn := Tryz.f82) Tryz.func82 rfl (by simp [Tryz.f82]) fun C hN hP => ?_
 have u : ∀ l, pinK [] l = true → pinB C.pin l = true := pO (by rw [hP]; rfl)
 have y : C.N = 12 := hN
 clear hN
 unfold laws_szIntS at h
 refine SWp.sR rfl (u _ rfl) fun K q => ?_
 refine wC rfl fun K q => ?_; simp [y]; refine q _ ?_; clear q
 refine wN (q _ ?_); clear q
 refine SWp.sR rfl (u _ rfl) fun K q => ?_
 iterate 5 (refine wC rfl fun K q => ?_; simp [y]; refine q _ ?_; clear q)
 refine wN (q _ ?_); clear q
 refine SWp.seq ?_
 refine SWp.sR rfl (u _ rfl) fun K q => ?_
 iterate 2 (refine wC rfl fun K q => ?_; simp [y]; refine q _ ?_; clear q)
 refine wN (q _ ?_); clear q
 rcases ite_or h with ⟨hb3, h⟩ | ⟨hb4, h⟩
 ·refine SWp.cT' (b := decide (IntKind.wrap .i64 (left2 - (a1.length : Int)) < 0)) (by simp) hb3 ?_
  refine SWp.sR rfl (u _ rfl) fun K q => ?_
  refine wC rfl fun K q => ?_; simp [y]; refine q _ ?_; clear q
  refine wN (q _ ?_); clear q
  cases h
  refine SWp.ret ?_
  simp [thenS, iB, res82]
 ·refine SWp.cF' (b := decide (IntKind.wrap .i64 (left2 - (a1.length : Int)) < 0)) (by simp) hb4 ?_
  refine SWp.skip ?_
  show SWp E C _ _ _
  refine SWp.sR rfl (u _ rfl) fun K q => ?_
  iterate 2 (refine wC rfl fun K q => ?_; simp [y]; refine q _ ?_; clear q)
  refine wN (q _ ?_); clear q
  cases h
  refine SWp.ret ?_
  simp [thenS, iB, res82]
theorem res54 : Tryz.f54.results.toList = [.tmp 4] := rfl
theorem ent54 : Enters E.P 54 := eO Tryz.func54 (by simp [Tryz.f54]) rfl
theorem laws_szNode_ok (a1 : GNode) (left2 : Int) {r0 : Int} (h : laws_szNode a1 left2 = some r0) : Ok E 54 [.val (GNode.enc false a1), .val (vi left2)] [vi r0] [] := by
 refine oB (fn := Tryz.f54) Tryz.func54 rfl (by simp [Tryz.f54]) fun C hN hP => ?_
 have u : ∀ l, pinK [] l = true → pinB C.pin l = true := pO (by rw [hP]; rfl)
 have y : C.N = 19 := hN
 clear hN
 unfold laws_szNode at h
 refine SWp.sR rfl (u _ rfl) fun K q => ?_
 iterate 2 (refine wC rfl fun K q => ?_; simp [y]; refine q _ ?_; clear q)
 refine wN (q _ ?_); clear q
 refine SWp.sR rfl (u _ rfl) fun K q => ?_
 iterate 6 (refine wC rfl fun K q => ?_; simp [y]; refine q _ ?_; clear q)
 refine wN (q _ ?_); clear q
 refine SWp.seq ?_
 refine SWp.sR rfl (u _ rfl) fun K q => ?_
 iterate 2 (refine wC rfl fun K q => ?_; simp [y]; refine q _ ?_; clear q)
 refine wN (q _ ?_); clear q
 rcases ite_or h with ⟨hb3, h⟩ | ⟨hb4, h⟩
 ·refine SWp.cT' (b := decide (IntKind.wrap .i64 (left2 - (a1.Name.size : Int)) < 0)) (by simp) hb3 ?_
  refine SWp.sR rfl (u _ rfl) fun K q => ?_
  refine wC rfl fun K q => ?_; simp [y]; refine q _ ?_; clear q
  refine wN (q _ ?_); clear q
  cases h
  refine SWp.ret ?_
  simp [thenS, iB, res54]
 ·refine SWp.cF' (b := decide (IntKind.wrap .i64 (left2 - (a1.Name.size : Int)) < 0)) (by simp) hb4 ?_
  refine SWp.skip ?_
  show SWp E C _ _ _
  refine SWp.sR rfl (u _ rfl) fun K q => ?_
  iterate 3 (refine wC rfl fun K q => ?_; simp [y]; refine q _ ?_; clear q)
  obtain ⟨r5, hc6, h⟩ := bS h
  refine wL [(.take, .tmp 13), (.take, .tmp 14)] rfl rfl ent82 (laws_szIntS_ok _ _ hc6) fun K q => ?_; simp [y]; refine q _ ?_; clear q
  refine wC rfl fun K q => ?_; simp [y]; refine q _ ?_; clear q
  refine wN (q _ ?_); clear q
  refine SWp.seq ?_
  refine SWp.sR rfl (u _ rfl) fun K q => ?_
  iterate 2 (refine wC rfl fun K q => ?_; simp [y]; refine q _ ?_; clear q)
  refine wN (q _ ?_); clear q
  rcases ite_or h with ⟨hb7, h⟩ | ⟨hb8, h⟩
  ·refine SWp.cT' (b := decide (r5 < 0)) (by simp) hb7 ?_
   refine SWp.sR rfl (u _ rfl) fun K q => ?_
   refine wC rfl fun K q => ?_; simp [y]; refine q _ ?_; clear q
   refine wN (q _ ?_); clear q
   cases h
   refine SWp.ret ?_
   simp [thenS, iB, res54]
  ·refine SWp.cF' (b := decide (r5 < 0)) (by simp) hb8 ?_
   refine SWp.skip ?_
   show SWp E C _ _ _
   refine SWp.sR rfl (u _ rfl) fun K q => ?_
   iterate 2 (refine wC rfl fun K q => ?_; simp [y]; refine q _ ?_; clear q)
   refine wN (q _ ?_); clear q
   cases h
   refine SWp.ret ?_
   simp [thenS, iB, res54]
theorem res26 : Tryz.f26.results.toList = [.tmp 4] := rfl
theorem ent26 : Enters E.P 26 := eO Tryz.func26 (by simp [Tryz.f26]) rfl
theorem laws_szNodeS_ok (a1 : List GNode) (left2 : Int) {r0 : Int} (h : laws_szNodeS a1 left2 = some r0) : Ok E 26 [.val (.sl false 4 (List.map (GNode.enc false) a1)), .val (vi left2)] [vi r0] [] := by
 refine oB (fn := Tryz.f26) Tryz.func26 rfl (by simp [Tryz.f26]) fun C hN hP => ?_
 have hPB : ∀ l, pinK [] l = true → pinB C.pin l = true := pO (by rw [hP]; rfl)
 have hN' : C.N = 27 := hN
 clear hN
 unfold laws_szNodeS at h
 refine SWp.sR rfl (hPB _ rfl) fun K hK => ?_
 refine wC rfl fun K hK => ?_; simp [hN']; refine hK _ ?_; clear hK
 refine wN (hK _ ?_); clear hK
 refine SWp.sR rfl (hPB _ rfl) fun K hK => ?_
 iterate 5 (refine wC rfl fun K hK => ?_; simp [hN']; refine hK _ ?_; clear hK)
 refine wN (hK _ ?_); clear hK
 refine SWp.seq ?_
 refine SWp.sR rfl (hPB _ rfl) fun K hK => ?_
 iterate 2 (refine wC rfl fun K hK => ?_; simp [hN']; refine hK _ ?_; clear hK)
 refine wN (hK _ ?_); clear hK
 rcases ite_or h with ⟨hb3, h⟩ | ⟨hb4, h⟩
 ·refine SWp.cT' (b := decide (IntKind.wrap .i64 (left2 - (a1.length : Int)) < 0)) (by simp) hb3 ?_
  refine SWp.sR rfl (hPB _ rfl) fun K hK => ?_
  refine wC rfl fun K hK => ?_; simp [hN']; refine hK _ ?_; clear hK
  refine wN (hK _ ?_); clear hK
  cases h
  refine SWp.ret ?_
  simp [thenS, iB, res26]
 ·refine SWp.cF' (b := decide (IntKind.wrap .i64 (left2 - (a1.length : Int)) < 0)) (by simp) hb4 ?_
  refine SWp.skip ?_
  show SWp E C _ _ _
  obtain ⟨j7, hj5, h⟩ := bS h
  refine SWp.seqC [1] [] (fun v : Int => ⟨[(1, .t (vi v))], []⟩) (fun v => j7 = Sum.inl v) (fun v hv => ?_) fun K6 hK6 => ?_
  rotate_left
  ·refine SWp.sR rfl (hPB _ rfl) fun K hK => ?_
   refine wC rfl fun K hK => ?_; simp [hN']; refine hK _ ?_; clear hK
   refine wN (hK _ ?_); clear hK
   refine SWp.block ?_
   refine SWp.loopO [] [0, 1, 5] [] (fun v : Int × Int => ⟨[(0, .t (.sl false 4 (List.map (GNode.enc false) a1))), (1, .t (vi v.1)), (5, .t (vi v.2))], []⟩) (laws_szNodeS_l1 a1) _ (IntKind.wrap .i64 (left2 - (a1.length : Int)), 0) hj5 (by simp [hN']) ?_
   intro g s12 h10 ho11
   obtain ⟨left8, i9⟩ := g
   simp only [laws_szNodeS_l1] at h10
   try dsimp only
   refine SWp.seq ?_
   refine SWp.sR rfl (hPB _ rfl) fun K hK => ?_
   iterate 4 (refine wC rfl fun K hK => ?_; simp [hN']; refine hK _ ?_; clear hK)
   refine wN (hK _ ?_); clear hK
   rcases ite_or h10 with ⟨hb13, h10⟩ | ⟨hb14, h10⟩
   ·refine SWp.cT' (b := decide (i9 < (a1.length : Int))) (by simp) hb13 ?_
    refine SWp.skip ?_
    show SWp E C _ _ _
    refine SWp.seq ?_
    refine SWp.block ?_
    refine SWp.sR rfl (hPB _ rfl) fun K hK => ?_
    iterate 2 (refine wC rfl fun K hK => ?_; simp [hN']; refine hK _ ?_; clear hK)
    obtain ⟨e15, he15, h10⟩ := bS h10
    obtain ⟨he15a, he15b, he15c, he15d⟩ := gS he15
    iterate 3 (refine wC rfl fun K hK => ?_; simp [hN', he15a, he15b, he15c, he15d]; refine hK _ ?_; clear hK)
    obtain ⟨r16, hc17, h10⟩ := bS h10
    refine wL [(.take, .tmp 21), (.take, .tmp 22)] rfl rfl ent54 (laws_szNode_ok _ _ hc17) fun K hK => ?_; simp [hN', he15a, he15b, he15c, he15d]; refine hK _ ?_; clear hK
    refine wC rfl fun K hK => ?_; simp [hN', he15a, he15b, he15c, he15d]; refine hK _ ?_; clear hK
    refine wN (hK _ ?_); clear hK
    refine SWp.sR rfl (hPB _ rfl) fun K hK => ?_
    iterate 2 (refine wC rfl fun K hK => ?_; simp [hN']; refine hK _ ?_; clear hK)
    refine wN (hK _ ?_); clear hK
    rcases ite_or h10 with ⟨hb18, h10⟩ | ⟨hb19, h10⟩
    ·refine SWp.cT' (b := decide (r16 < 0)) (by simp) hb18 ?_
     refine SWp.sR rfl (hPB _ rfl) fun K hK => ?_
     refine wC rfl fun K hK => ?_; simp [hN']; refine hK _ ?_; clear hK
     refine wN (hK _ ?_); clear hK
     have h20 := congrArg some (ho11 _ (Option.some.inj h10).symm)
     cases h20
     try dsimp only at h
     cases h
     refine SWp.ret ?_
     simp [thenS, iB, res26]
    ·refine SWp.cF' (b := decide (r16 < 0)) (by simp) hb19 ?_
     refine SWp.skip ?_
     show SWp E C _ _ _
     refine SWp.reg rfl (hPB _ rfl) fun K hK => ?_
     iterate 3 (refine wC rfl fun K hK => ?_; simp [hN']; refine hK _ ?_; clear hK)
     refine wN (hK _ ?_); clear hK
     cases h10
     exact ⟨_, [], rfl, by simp [hN']⟩
   ·refine SWp.cF' (b := decide (i9 < (a1.length : Int))) (by simp) hb14 ?_
    refine SWp.exit ?_
    have h21 := congrArg some (ho11 _ (Option.some.inj h10).symm)
    cases h21
    exact hK6 _ _ [] rfl (by simp [hN'])
  subst hv
  obtain ⟨left22, hv⟩ : ∃ y, y = v := ⟨_, rfl⟩
  subst hv
  try dsimp only at h ⊢
  refine SWp.sR rfl (hPB _ rfl) fun K hK => ?_
  iterate 2 (refine wC rfl fun K hK => ?_; simp [hN']; refine hK _ ?_; clear hK)
  refine wN (hK _ ?_); clear hK
  cases h
  refine SWp.ret ?_
  simp [thenS, iB, res26]
theorem res100 : Tryz.f100.results.toList = [.tmp 4] := rfl
theorem ent100 : Enters E.P 100 := eO Tryz.func100 (by simp [Tryz.f100]) rfl
theorem laws_szParam_ok (a1 : GParam) (left2 : Int) {r0 : Int} (h : laws_szParam a1 left2 = some r0) : Ok E 100 [.val (GParam.enc a1), .val (vi left2)] [vi r0] [] := by
 refine oB (fn := Tryz.f100) Tryz.func100 rfl (by simp [Tryz.f100]) fun C hN hP => ?_
 have u : ∀ l, pinK [] l = true → pinB C.pin l = true := pO (by rw [hP]; rfl)
 have y : C.N = 13 := hN
 clear hN
 unfold laws_szParam at h
 refine SWp.sR rfl (u _ rfl) fun K q => ?_
 iterate 2 (refine wC rfl fun K q => ?_; simp [y]; refine q _ ?_; clear q)
 refine wN (q _ ?_); clear q
 refine SWp.sR rfl (u _ rfl) fun K q => ?_
 iterate 6 (refine wC rfl fun K q => ?_; simp [y]; refine q _ ?_; clear q)
 refine wN (q _ ?_); clear q
 refine SWp.seq ?_
 refine SWp.sR rfl (u _ rfl) fun K q => ?_
 iterate 2 (refine wC rfl fun K q => ?_; simp [y]; refine q _ ?_; clear q)
 refine wN (q _ ?_); clear q
 rcases ite_or h with ⟨hb3, h⟩ | ⟨hb4, h⟩
 ·refine SWp.cT' (b := decide (IntKind.wrap .i64 (left2 - (a1.Name.size : Int)) < 0)) (by simp) hb3 ?_
  refine SWp.sR rfl (u _ rfl) fun K q => ?_
  refine wC rfl fun K q => ?_; simp [y]; refine q _ ?_; clear q
  refine wN (q _ ?_); clear q
  cases h
  refine SWp.ret ?_
  simp [thenS, iB, res100]
 ·refine SWp.cF' (b := decide (IntKind.wrap .i64 (left2 - (a1.Name.size : Int)) < 0)) (by simp) hb4 ?_
  refine SWp.skip ?_
  show SWp E C _ _ _
  refine SWp.sR rfl (u _ rfl) fun K q => ?_
  iterate 2 (refine wC rfl fun K q => ?_; simp [y]; refine q _ ?_; clear q)
  refine wN (q _ ?_); clear q
  cases h
  refine SWp.ret ?_
  simp [thenS, iB, res100]
theorem res83 : Tryz.f83.results.toList = [.tmp 4] := rfl
theorem ent83 : Enters E.P 83 := eO Tryz.func83 (by simp [Tryz.f83]) rfl
theorem laws_szParamS_ok (a1 : List GParam) (left2 : Int) {r0 : Int} (h : laws_szParamS a1 left2 = some r0) : Ok E 83 [.val (.sl false 2 (List.map GParam.enc a1)), .val (vi left2)] [vi r0] [] := by
 refine oB (fn := Tryz.f83) Tryz.func83 rfl (by simp [Tryz.f83]) fun C hN hP => ?_
 have hPB : ∀ l, pinK [] l = true → pinB C.pin l = true := pO (by rw [hP]; rfl)
 have hN' : C.N = 27 := hN
 clear hN
 unfold laws_szParamS at h
 refine SWp.sR rfl (hPB _ rfl) fun K hK => ?_
 refine wC rfl fun K hK => ?_; simp [hN']; refine hK _ ?_; clear hK
 refine wN (hK _ ?_); clear hK
 refine SWp.sR rfl (hPB _ rfl) fun K hK => ?_
 iterate 5 (refine wC rfl fun K hK => ?_; simp [hN']; refine hK _ ?_; clear hK)
 refine wN (hK _ ?_); clear hK
 refine SWp.seq ?_
 refine SWp.sR rfl (hPB _ rfl) fun K hK => ?_
 iterate 2 (refine wC rfl fun K hK => ?_; simp [hN']; refine hK _ ?_; clear hK)
 refine wN (hK _ ?_); clear hK
 rcases ite_or h with ⟨hb3, h⟩ | ⟨hb4, h⟩
 ·refine SWp.cT' (b := decide (IntKind.wrap .i64 (left2 - (a1.length : Int)) < 0)) (by simp) hb3 ?_
  refine SWp.sR rfl (hPB _ rfl) fun K hK => ?_
  refine wC rfl fun K hK => ?_; simp [hN']; refine hK _ ?_; clear hK
  refine wN (hK _ ?_); clear hK
  cases h
  refine SWp.ret ?_
  simp [thenS, iB, res83]
 ·refine SWp.cF' (b := decide (IntKind.wrap .i64 (left2 - (a1.length : Int)) < 0)) (by simp) hb4 ?_
  refine SWp.skip ?_
  show SWp E C _ _ _
  obtain ⟨j7, hj5, h⟩ := bS h
  refine SWp.seqC [1] [] (fun v : Int => ⟨[(1, .t (vi v))], []⟩) (fun v => j7 = Sum.inl v) (fun v hv => ?_) fun K6 hK6 => ?_
  rotate_left
  ·refine SWp.sR rfl (hPB _ rfl) fun K hK => ?_
   refine wC rfl fun K hK => ?_; simp [hN']; refine hK _ ?_; clear hK
   refine wN (hK _ ?_); clear hK
   refine SWp.block ?_
   refine SWp.loopO [] [0, 1, 5] [] (fun v : Int × Int => ⟨[(0, .t (.sl false 2 (List.map GParam.enc a1))), (1, .t (vi v.1)), (5, .t (vi v.2))], []⟩) (laws_szParamS_l1 a1) _ (IntKind.wrap .i64 (left2 - (a1.length : Int)), 0) hj5 (by simp [hN']) ?_
   intro g s12 h10 ho11
   obtain ⟨left8, i9⟩ := g
   simp only [laws_szParamS_l1] at h10
   try dsimp only
   refine SWp.seq ?_
   refine SWp.sR rfl (hPB _ rfl) fun K hK => ?_
   iterate 4 (refine wC rfl fun K hK => ?_; simp [hN']; refine hK _ ?_; clear hK)
   refine wN (hK _ ?_); clear hK
   rcases ite_or h10 with ⟨hb13, h10⟩ | ⟨hb14, h10⟩
   ·refine SWp.cT' (b := decide (i9 < (a1.length : Int))) (by simp) hb13 ?_
    refine SWp.skip ?_
    show SWp E C _ _ _
    refine SWp.seq ?_
    refine SWp.block ?_
    refine SWp.sR rfl (hPB _ rfl) fun K hK => ?_
    iterate 2 (refine wC rfl fun K hK => ?_; simp [hN']; refine hK _ ?_; clear hK)
    obtain ⟨e15, he15, h10⟩ := bS h10
    obtain ⟨he15a, he15b, he15c, he15d⟩ := gS he15
    iterate 3 (refine wC rfl fun K hK => ?_; simp [hN', he15a, he15b, he15c, he15d]; refine hK _ ?_; clear hK)
    obtain ⟨r16, hc17, h10⟩ := bS h10
    refine wL [(.take, .tmp 21), (.take, .tmp 22)] rfl rfl ent100 (laws_szParam_ok _ _ hc17) fun K hK => ?_; simp [hN', he15a, he15b, he15c, he15d]; refine hK _ ?_; clear hK
    refine wC rfl fun K hK => ?_; simp [hN', he15a, he15b, he15c, he15d]; refine hK _ ?_; clear hK
    refine wN (hK _ ?_); clear hK
    refine SWp.sR rfl (hPB _ rfl) fun K hK => ?_
    iterate 2 (refine wC rfl fun K hK => ?_; simp [hN']; refine hK _ ?_; clear hK)
    refine wN (hK _ ?_); clear hK
    rcases ite_or h10 with ⟨hb18, h10⟩ | ⟨hb19, h10⟩
    ·refine SWp.cT' (b := decide (r16 < 0)) (by simp) hb18 ?_
     refine SWp.sR rfl (hPB _ rfl) fun K hK => ?_
     refine wC rfl fun K hK => ?_; simp [hN']; refine hK _ ?_; clear hK
     refine wN (hK _ ?_); clear hK
     have h20 := congrArg some (ho11 _ (Option.some.inj h10).symm)
     cases h20
     try dsimp only at h
     cases h
     refine SWp.ret ?_
     simp [thenS, iB, res83]
    ·refine SWp.cF' (b := decide (r16 < 0)) (by simp) hb19 ?_
     refine SWp.skip ?_
     show SWp E C _ _ _
     refine SWp.reg rfl (hPB _ rfl) fun K hK => ?_
     iterate 3 (refine wC rfl fun K hK => ?_; simp [hN']; refine hK _ ?_; clear hK)
     refine wN (hK _ ?_); clear hK
     cases h10
     exact ⟨_, [], rfl, by simp [hN']⟩
   ·refine SWp.cF' (b := decide (i9 < (a1.length : Int))) (by simp) hb14 ?_
    refine SWp.exit ?_
    have h21 := congrArg some (ho11 _ (Option.some.inj h10).symm)
    cases h21
    exact hK6 _ _ [] rfl (by simp [hN'])
  subst hv
  obtain ⟨left22, hv⟩ : ∃ y, y = v := ⟨_, rfl⟩
  subst hv
  try dsimp only at h ⊢
  refine SWp.sR rfl (hPB _ rfl) fun K hK => ?_
  iterate 2 (refine wC rfl fun K hK => ?_; simp [hN']; refine hK _ ?_; clear hK)
  refine wN (hK _ ?_); clear hK
  cases h
  refine SWp.ret ?_
  simp [thenS, iB, res83]
theorem res55 : Tryz.f55.results.toList = [.tmp 4] := rfl
theorem ent55 : Enters E.P 55 := eO Tryz.func55 (by simp [Tryz.f55]) rfl
theorem laws_szFn_ok (a1 : GFn) (left2 : Int) {r0 : Int} (h : laws_szFn a1 left2 = some r0) : Ok E 55 [.val (GFn.enc false a1), .val (vi left2)] [vi r0] [] := by
 refine oB (fn := Tryz.f55) Tryz.func55 rfl (by simp [Tryz.f55]) fun C hN hP => ?_
 have u : ∀ l, pinK [] l = true → pinB C.pin l = true := pO (by rw [hP]; rfl)
 have y : C.N = 19 := hN
 clear hN
 unfold laws_szFn at h
 refine SWp.sR rfl (u _ rfl) fun K q => ?_
 iterate 2 (refine wC rfl fun K q => ?_; simp [y]; refine q _ ?_; clear q)
 refine wN (q _ ?_); clear q
 refine SWp.sR rfl (u _ rfl) fun K q => ?_
 iterate 6 (refine wC rfl fun K q => ?_; simp [y]; refine q _ ?_; clear q)
 refine wN (q _ ?_); clear q
 refine SWp.seq ?_
 refine SWp.sR rfl (u _ rfl) fun K q => ?_
 iterate 2 (refine wC rfl fun K q => ?_; simp [y]; refine q _ ?_; clear q)
 refine wN (q _ ?_); clear q
 rcases ite_or h with ⟨hb3, h⟩ | ⟨hb4, h⟩
 ·refine SWp.cT' (b := decide (IntKind.wrap .i64 (left2 - (a1.Name.size : Int)) < 0)) (by simp) hb3 ?_
  refine SWp.sR rfl (u _ rfl) fun K q => ?_
  refine wC rfl fun K q => ?_; simp [y]; refine q _ ?_; clear q
  refine wN (q _ ?_); clear q
  cases h
  refine SWp.ret ?_
  simp [thenS, iB, res55]
 ·refine SWp.cF' (b := decide (IntKind.wrap .i64 (left2 - (a1.Name.size : Int)) < 0)) (by simp) hb4 ?_
  refine SWp.skip ?_
  show SWp E C _ _ _
  refine SWp.sR rfl (u _ rfl) fun K q => ?_
  iterate 3 (refine wC rfl fun K q => ?_; simp [y]; refine q _ ?_; clear q)
  obtain ⟨r5, hc6, h⟩ := bS h
  refine wL [(.take, .tmp 13), (.take, .tmp 14)] rfl rfl ent83 (laws_szParamS_ok _ _ hc6) fun K q => ?_; simp [y]; refine q _ ?_; clear q
  refine wC rfl fun K q => ?_; simp [y]; refine q _ ?_; clear q
  refine wN (q _ ?_); clear q
  refine SWp.seq ?_
  refine SWp.sR rfl (u _ rfl) fun K q => ?_
  iterate 2 (refine wC rfl fun K q => ?_; simp [y]; refine q _ ?_; clear q)
  refine wN (q _ ?_); clear q
  rcases ite_or h with ⟨hb7, h⟩ | ⟨hb8, h⟩
  ·refine SWp.cT' (b := decide (r5 < 0)) (by simp) hb7 ?_
   refine SWp.sR rfl (u _ rfl) fun K q => ?_
   refine wC rfl fun K q => ?_; simp [y]; refine q _ ?_; clear q
   refine wN (q _ ?_); clear q
   cases h
   refine SWp.ret ?_
   simp [thenS, iB, res55]
  ·refine SWp.cF' (b := decide (r5 < 0)) (by simp) hb8 ?_
   refine SWp.skip ?_
   show SWp E C _ _ _
   refine SWp.sR rfl (u _ rfl) fun K q => ?_
   iterate 2 (refine wC rfl fun K q => ?_; simp [y]; refine q _ ?_; clear q)
   refine wN (q _ ?_); clear q
   cases h
   refine SWp.ret ?_
   simp [thenS, iB, res55]
theorem res27 : Tryz.f27.results.toList = [.tmp 4] := rfl
theorem ent27 : Enters E.P 27 := eO Tryz.func27 (by simp [Tryz.f27]) rfl
theorem laws_szFnS_ok (a1 : List GFn) (left2 : Int) {r0 : Int} (h : laws_szFnS a1 left2 = some r0) : Ok E 27 [.val (.sl false 5 (List.map (GFn.enc false) a1)), .val (vi left2)] [vi r0] [] := by
 refine oB (fn := Tryz.f27) Tryz.func27 rfl (by simp [Tryz.f27]) fun C hN hP => ?_
 have hPB : ∀ l, pinK [] l = true → pinB C.pin l = true := pO (by rw [hP]; rfl)
 have hN' : C.N = 27 := hN
 clear hN
 unfold laws_szFnS at h
 refine SWp.sR rfl (hPB _ rfl) fun K hK => ?_
 refine wC rfl fun K hK => ?_; simp [hN']; refine hK _ ?_; clear hK
 refine wN (hK _ ?_); clear hK
 refine SWp.sR rfl (hPB _ rfl) fun K hK => ?_
 iterate 5 (refine wC rfl fun K hK => ?_; simp [hN']; refine hK _ ?_; clear hK)
 refine wN (hK _ ?_); clear hK
 refine SWp.seq ?_
 refine SWp.sR rfl (hPB _ rfl) fun K hK => ?_
 iterate 2 (refine wC rfl fun K hK => ?_; simp [hN']; refine hK _ ?_; clear hK)
 refine wN (hK _ ?_); clear hK
 rcases ite_or h with ⟨hb3, h⟩ | ⟨hb4, h⟩
 ·refine SWp.cT' (b := decide (IntKind.wrap .i64 (left2 - (a1.length : Int)) < 0)) (by simp) hb3 ?_
  refine SWp.sR rfl (hPB _ rfl) fun K hK => ?_
  refine wC rfl fun K hK => ?_; simp [hN']; refine hK _ ?_; clear hK
  refine wN (hK _ ?_); clear hK
  cases h
  refine SWp.ret ?_
  simp [thenS, iB, res27]
 ·refine SWp.cF' (b := decide (IntKind.wrap .i64 (left2 - (a1.length : Int)) < 0)) (by simp) hb4 ?_
  refine SWp.skip ?_
  show SWp E C _ _ _
  obtain ⟨j7, hj5, h⟩ := bS h
  refine SWp.seqC [1] [] (fun v : Int => ⟨[(1, .t (vi v))], []⟩) (fun v => j7 = Sum.inl v) (fun v hv => ?_) fun K6 hK6 => ?_
  rotate_left
  ·refine SWp.sR rfl (hPB _ rfl) fun K hK => ?_
   refine wC rfl fun K hK => ?_; simp [hN']; refine hK _ ?_; clear hK
   refine wN (hK _ ?_); clear hK
   refine SWp.block ?_
   refine SWp.loopO [] [0, 1, 5] [] (fun v : Int × Int => ⟨[(0, .t (.sl false 5 (List.map (GFn.enc false) a1))), (1, .t (vi v.1)), (5, .t (vi v.2))], []⟩) (laws_szFnS_l1 a1) _ (IntKind.wrap .i64 (left2 - (a1.length : Int)), 0) hj5 (by simp [hN']) ?_
   intro g s12 h10 ho11
   obtain ⟨left8, i9⟩ := g
   simp only [laws_szFnS_l1] at h10
   try dsimp only
   refine SWp.seq ?_
   refine SWp.sR rfl (hPB _ rfl) fun K hK => ?_
   iterate 4 (refine wC rfl fun K hK => ?_; simp [hN']; refine hK _ ?_; clear hK)
   refine wN (hK _ ?_); clear hK
   rcases ite_or h10 with ⟨hb13, h10⟩ | ⟨hb14, h10⟩
   ·refine SWp.cT' (b := decide (i9 < (a1.length : Int))) (by simp) hb13 ?_
    refine SWp.skip ?_
    show SWp E C _ _ _
    refine SWp.seq ?_
    refine SWp.block ?_
    refine SWp.sR rfl (hPB _ rfl) fun K hK => ?_
    iterate 2 (refine wC rfl fun K hK => ?_; simp [hN']; refine hK _ ?_; clear hK)
    obtain ⟨e15, he15, h10⟩ := bS h10
    obtain ⟨he15a, he15b, he15c, he15d⟩ := gS he15
    iterate 3 (refine wC rfl fun K hK => ?_; simp [hN', he15a, he15b, he15c, he15d]; refine hK _ ?_; clear hK)
    obtain ⟨r16, hc17, h10⟩ := bS h10
    refine wL [(.take, .tmp 21), (.take, .tmp 22)] rfl rfl ent55 (laws_szFn_ok _ _ hc17) fun K hK => ?_; simp [hN', he15a, he15b, he15c, he15d]; refine hK _ ?_; clear hK
    refine wC rfl fun K hK => ?_; simp [hN', he15a, he15b, he15c, he15d]; refine hK _ ?_; clear hK
    refine wN (hK _ ?_); clear hK
    refine SWp.sR rfl (hPB _ rfl) fun K hK => ?_
    iterate 2 (refine wC rfl fun K hK => ?_; simp [hN']; refine hK _ ?_; clear hK)
    refine wN (hK _ ?_); clear hK
    rcases ite_or h10 with ⟨hb18, h10⟩ | ⟨hb19, h10⟩
    ·refine SWp.cT' (b := decide (r16 < 0)) (by simp) hb18 ?_
     refine SWp.sR rfl (hPB _ rfl) fun K hK => ?_
     refine wC rfl fun K hK => ?_; simp [hN']; refine hK _ ?_; clear hK
     refine wN (hK _ ?_); clear hK
     have h20 := congrArg some (ho11 _ (Option.some.inj h10).symm)
     cases h20
     try dsimp only at h
     cases h
     refine SWp.ret ?_
     simp [thenS, iB, res27]
    ·refine SWp.cF' (b := decide (r16 < 0)) (by simp) hb19 ?_
     refine SWp.skip ?_
     show SWp E C _ _ _
     refine SWp.reg rfl (hPB _ rfl) fun K hK => ?_
     iterate 3 (refine wC rfl fun K hK => ?_; simp [hN']; refine hK _ ?_; clear hK)
     refine wN (hK _ ?_); clear hK
     cases h10
     exact ⟨_, [], rfl, by simp [hN']⟩
   ·refine SWp.cF' (b := decide (i9 < (a1.length : Int))) (by simp) hb14 ?_
    refine SWp.exit ?_
    have h21 := congrArg some (ho11 _ (Option.some.inj h10).symm)
    cases h21
    exact hK6 _ _ [] rfl (by simp [hN'])
  subst hv
  obtain ⟨left22, hv⟩ : ∃ y, y = v := ⟨_, rfl⟩
  subst hv
  try dsimp only at h ⊢
  refine SWp.sR rfl (hPB _ rfl) fun K hK => ?_
  iterate 2 (refine wC rfl fun K hK => ?_; simp [hN']; refine hK _ ?_; clear hK)
  refine wN (hK _ ?_); clear hK
  cases h
  refine SWp.ret ?_
  simp [thenS, iB, res27]
theorem res8 : Tryz.f8.results.toList = [.tmp 4] := rfl
theorem ent8 : Enters E.P 8 := eO Tryz.func8 (by simp [Tryz.f8]) rfl
theorem laws_szProgram_ok (a1 : GProgram) (left2 : Int) {r0 : Int} (h : laws_szProgram a1 left2 = some r0) : Ok E 8 [.val (GProgram.enc false a1), .val (vi left2)] [vi r0] [] := by
 refine oB (fn := Tryz.f8) Tryz.func8 rfl (by simp [Tryz.f8]) fun C hN hP => ?_
 have u : ∀ l, pinK [] l = true → pinB C.pin l = true := pO (by rw [hP]; rfl)
 have y : C.N = 18 := hN
 clear hN
 unfold laws_szProgram at h
 refine SWp.sR rfl (u _ rfl) fun K q => ?_
 iterate 2 (refine wC rfl fun K q => ?_; simp [y]; refine q _ ?_; clear q)
 refine wN (q _ ?_); clear q
 refine SWp.sR rfl (u _ rfl) fun K q => ?_
 iterate 3 (refine wC rfl fun K q => ?_; simp [y]; refine q _ ?_; clear q)
 obtain ⟨r3, hc4, h⟩ := bS h
 refine wL [(.take, .tmp 6), (.take, .tmp 7)] rfl rfl ent26 (laws_szNodeS_ok _ _ hc4) fun K q => ?_; simp [y]; refine q _ ?_; clear q
 refine wC rfl fun K q => ?_; simp [y]; refine q _ ?_; clear q
 refine wN (q _ ?_); clear q
 refine SWp.seq ?_
 refine SWp.sR rfl (u _ rfl) fun K q => ?_
 iterate 2 (refine wC rfl fun K q => ?_; simp [y]; refine q _ ?_; clear q)
 refine wN (q _ ?_); clear q
 rcases ite_or h with ⟨hb5, h⟩ | ⟨hb6, h⟩
 ·refine SWp.cT' (b := decide (r3 < 0)) (by simp) hb5 ?_
  refine SWp.sR rfl (u _ rfl) fun K q => ?_
  refine wC rfl fun K q => ?_; simp [y]; refine q _ ?_; clear q
  refine wN (q _ ?_); clear q
  cases h
  refine SWp.ret ?_
  simp [thenS, iB, res8]
 ·refine SWp.cF' (b := decide (r3 < 0)) (by simp) hb6 ?_
  refine SWp.skip ?_
  show SWp E C _ _ _
  refine SWp.sR rfl (u _ rfl) fun K q => ?_
  iterate 3 (refine wC rfl fun K q => ?_; simp [y]; refine q _ ?_; clear q)
  obtain ⟨r7, hc8, h⟩ := bS h
  refine wL [(.take, .tmp 12), (.take, .tmp 13)] rfl rfl ent27 (laws_szFnS_ok _ _ hc8) fun K q => ?_; simp [y]; refine q _ ?_; clear q
  refine wC rfl fun K q => ?_; simp [y]; refine q _ ?_; clear q
  refine wN (q _ ?_); clear q
  refine SWp.seq ?_
  refine SWp.sR rfl (u _ rfl) fun K q => ?_
  iterate 2 (refine wC rfl fun K q => ?_; simp [y]; refine q _ ?_; clear q)
  refine wN (q _ ?_); clear q
  rcases ite_or h with ⟨hb9, h⟩ | ⟨hb10, h⟩
  ·refine SWp.cT' (b := decide (r7 < 0)) (by simp) hb9 ?_
   refine SWp.sR rfl (u _ rfl) fun K q => ?_
   refine wC rfl fun K q => ?_; simp [y]; refine q _ ?_; clear q
   refine wN (q _ ?_); clear q
   cases h
   refine SWp.ret ?_
   simp [thenS, iB, res8]
  ·refine SWp.cF' (b := decide (r7 < 0)) (by simp) hb10 ?_
   refine SWp.skip ?_
   show SWp E C _ _ _
   refine SWp.sR rfl (u _ rfl) fun K q => ?_
   iterate 2 (refine wC rfl fun K q => ?_; simp [y]; refine q _ ?_; clear q)
   refine wN (q _ ?_); clear q
   cases h
   refine SWp.ret ?_
   simp [thenS, iB, res8]
theorem res86 : Tryz.f86.results.toList = [.tmp 2] := rfl
theorem ent86 : Enters E.P 86 := eO Tryz.func86 (by simp [Tryz.f86]) rfl
theorem laws_toIntS_ok (a1 : List Int) {r0 : List Int} (h : laws_toIntS a1 = some r0) : Ok E 86 [.val (.sl false 1 (List.map vi a1))] [.sl true 1 (List.map vi r0)] [] := by
 refine oB (fn := Tryz.f86) Tryz.func86 rfl (by simp [Tryz.f86]) fun C hN hP => ?_
 have u : ∀ l, pinK [] l = true → pinB C.pin l = true := pO (by rw [hP]; rfl)
 have y : C.N = 22 := hN
 clear hN
 unfold laws_toIntS at h
 refine SWp.sR rfl (u _ rfl) fun K q => ?_
 refine wC rfl fun K q => ?_; simp [y]; refine q _ ?_; clear q
 refine wN (q _ ?_); clear q
 refine SWp.sR rfl (u _ rfl) fun K q => ?_
 iterate 2 (refine wC rfl fun K q => ?_; simp [y]; refine q _ ?_; clear q)
 obtain ⟨l2, hl2, h⟩ := bS h
 obtain ⟨hl2a, hl2b, hl2c, hl2d⟩ := mS hl2
 have hl2f : List.replicate (a1.length : Int).toNat (vi 0) = List.map vi l2 := rep_map (f := vi) hl2d
 try simp only [Int.toNat_natCast] at hl2f
 iterate 2 (refine wC rfl fun K q => ?_; simp [y, hl2a, hl2b, hl2c, hl2f]; refine q _ ?_; clear q)
 refine wN (q _ ?_); clear q
 obtain ⟨out17, hj3, h⟩ := bS h
 refine SWp.seqC [3] [] (fun _ : Unit => ⟨[(3, .t (.sl true 1 (List.map vi out17)))], []⟩) (fun _ => True) (fun _ _ => ?_) fun K4 hK4 => ?_
 rotate_left
 ·refine SWp.sR rfl (u _ rfl) fun K q => ?_
  refine wC rfl fun K q => ?_; simp [y]; refine q _ ?_; clear q
  refine wN (q _ ?_); clear q
  refine SWp.block ?_
  refine SWp.loopO [] [0, 3, 4] [] (fun v : (List Int) × Int => ⟨[(0, .t (.sl false 1 (List.map vi a1))), (3, .t (.sl true 1 (List.map vi v.1))), (4, .t (vi v.2))], []⟩) (laws_toIntS_l1 a1) _ (l2, 0) hj3 (by simp [y]) ?_
  intro g s10 h8 ho9
  obtain ⟨out6, i7⟩ := g
  simp only [laws_toIntS_l1] at h8
  try dsimp only
  refine SWp.seq ?_
  refine SWp.sR rfl (u _ rfl) fun K q => ?_
  iterate 4 (refine wC rfl fun K q => ?_; simp [y]; refine q _ ?_; clear q)
  refine wN (q _ ?_); clear q
  rcases ite_or h8 with ⟨hb11, h8⟩ | ⟨hb12, h8⟩
  ·refine SWp.cT' (b := decide (i7 < (a1.length : Int))) (by simp) hb11 ?_
   refine SWp.skip ?_
   show SWp E C _ _ _
   refine SWp.seq ?_
   refine SWp.block ?_
   refine SWp.reg rfl (u _ rfl) fun K q => ?_
   iterate 4 (refine wC rfl fun K q => ?_; simp [y]; refine q _ ?_; clear q)
   obtain ⟨e13, he13, h8⟩ := bS h8
   obtain ⟨he13a, he13b, he13c, he13d⟩ := gS he13
   iterate 2 (refine wC rfl fun K q => ?_; simp [y, he13a, he13b, he13c, he13d]; refine q _ ?_; clear q)
   obtain ⟨e14, he14, h8⟩ := bS h8
   obtain ⟨he14a, he14b, he14c, he14d⟩ := gS he14
   refine wC rfl fun K q => ?_; simp [y, he13a, he13b, he13c, he13d, he14a, he14b, he14c, he14d]; refine q _ ?_; clear q
   obtain ⟨l15, hl15, h8⟩ := bZ h8
   have hl15f : (List.map vi out6).set i7.toNat (vi e13) = List.map vi l15 := set_map (f := vi) hl15
   try simp only [Int.toNat_natCast] at hl15f
   refine wC rfl fun K q => ?_; simp [y, he13a, he13b, he13c, he13d, he14a, he14b, he14c, he14d, hl15f]; refine q _ ?_; clear q
   refine wN (q _ ?_); clear q
   show SWp E C _ _ _
   refine SWp.reg rfl (u _ rfl) fun K q => ?_
   iterate 3 (refine wC rfl fun K q => ?_; simp [y]; refine q _ ?_; clear q)
   refine wN (q _ ?_); clear q
   cases h8
   exact ⟨_, [], rfl, by simp [y]⟩
  ·refine SWp.cF' (b := decide (i7 < (a1.length : Int))) (by simp) hb12 ?_
   refine SWp.exit ?_
   have h16 := congrArg some (ho9 _ (Option.some.inj h8).symm)
   cases h16
   exact hK4 _ () [] trivial (by simp [y])
 refine SWp.sR rfl (u _ rfl) fun K q => ?_
 iterate 2 (refine wC rfl fun K q => ?_; simp [y]; refine q _ ?_; clear q)
 refine wN (q _ ?_); clear q
 cases h
 refine SWp.ret ?_
 simp [thenS, iB, res86]
theorem res57 : Tryz.f57.results.toList = [.cell 2 52] := rfl
theorem ent57 : Enters E.P 57 := eO Tryz.func57 (by simp [Tryz.f57]) rfl
theorem laws_toNode_ok (a1 : GNode) {r0 : GNode} (h : laws_toNode a1 = some r0) : Ok E 57 [.val (GNode.enc false a1)] [GNode.enc true r0] [] := by
 refine oB (fn := Tryz.f57) Tryz.func57 rfl (by simp [Tryz.f57]) fun C hN hP => ?_
 have u : ∀ l, pinK [] l = true → pinB C.pin l = true := pO (by rw [hP]; rfl)
 have y : C.N = 18 := hN
 clear hN
 unfold laws_toNode at h
 refine SWp.sR rfl (u _ rfl) fun K q => ?_
 iterate 2 (refine wC rfl fun K q => ?_; simp [y]; refine q _ ?_; clear q)
 refine wN (q _ ?_); clear q
 refine SWp.sR rfl (u _ rfl) fun K q => ?_
 refine wC rfl fun K q => ?_; simp [y]; refine q _ ?_; clear q
 refine wN (q _ ?_); clear q
 refine SWp.sR rfl (u _ rfl) fun K q => ?_
 iterate 4 (refine wC rfl fun K q => ?_; simp [y]; refine q _ ?_; clear q)
 refine wN (q _ ?_); clear q
 refine SWp.sR rfl (u _ rfl) fun K q => ?_
 iterate 4 (refine wC rfl fun K q => ?_; simp [y]; refine q _ ?_; clear q)
 refine wN (q _ ?_); clear q
 refine SWp.sR rfl (u _ rfl) fun K q => ?_
 iterate 4 (refine wC rfl fun K q => ?_; simp [y]; refine q _ ?_; clear q)
 refine wN (q _ ?_); clear q
 refine SWp.sR rfl (u _ rfl) fun K q => ?_
 iterate 2 (refine wC rfl fun K q => ?_; simp [y]; refine q _ ?_; clear q)
 obtain ⟨r2, hc3, h⟩ := bS h
 refine wL [(.take, .tmp 14)] rfl rfl ent86 (laws_toIntS_ok _ hc3) fun K q => ?_; simp [y]; refine q _ ?_; clear q
 iterate 2 (refine wC rfl fun K q => ?_; simp [y]; refine q _ ?_; clear q)
 refine wN (q _ ?_); clear q
 refine SWp.sR rfl (u _ rfl) fun K q => ?_
 iterate 2 (refine wC rfl fun K q => ?_; simp [y]; refine q _ ?_; clear q)
 refine wN (q _ ?_); clear q
 cases h
 refine SWp.ret ?_
 simp [thenS, iB, res57]
theorem res29 : Tryz.f29.results.toList = [.tmp 2] := rfl
theorem ent29 : Enters E.P 29 := eO Tryz.func29 (by simp [Tryz.f29]) rfl
theorem laws_toNodeS_ok (a1 : List GNode) {r0 : List GNode} (h : laws_toNodeS a1 = some r0) : Ok E 29 [.val (.sl false 4 (List.map (GNode.enc false) a1))] [.sl true 4 (List.map (GNode.enc true) r0)] [] := by
 refine oB (fn := Tryz.f29) Tryz.func29 rfl (by simp [Tryz.f29]) fun C hN hP => ?_
 have u : ∀ l, pinK [] l = true → pinB C.pin l = true := pO (by rw [hP]; rfl)
 have y : C.N = 23 := hN
 clear hN
 unfold laws_toNodeS at h
 refine SWp.sR rfl (u _ rfl) fun K q => ?_
 refine wC rfl fun K q => ?_; simp [y]; refine q _ ?_; clear q
 refine wN (q _ ?_); clear q
 refine SWp.sR rfl (u _ rfl) fun K q => ?_
 iterate 2 (refine wC rfl fun K q => ?_; simp [y]; refine q _ ?_; clear q)
 obtain ⟨l2, hl2, h⟩ := bS h
 obtain ⟨hl2a, hl2b, hl2c, hl2d⟩ := mS hl2
 have hl2f : List.replicate (a1.length : Int).toNat (.agg [vi 0, vi 0, vs ByteArray.empty, .sl true 1 []]) = List.map (GNode.enc true) l2 := rep_map (f := (GNode.enc true)) hl2d
 try simp only [Int.toNat_natCast] at hl2f
 iterate 2 (refine wC rfl fun K q => ?_; simp [y, hl2a, hl2b, hl2c, hl2f]; refine q _ ?_; clear q)
 refine wN (q _ ?_); clear q
 obtain ⟨out19, hj3, h⟩ := bS h
 refine SWp.seqC [3] [] (fun _ : Unit => ⟨[(3, .t (.sl true 4 (List.map (GNode.enc true) out19)))], []⟩) (fun _ => True) (fun _ _ => ?_) fun K4 hK4 => ?_
 rotate_left
 ·refine SWp.sR rfl (u _ rfl) fun K q => ?_
  refine wC rfl fun K q => ?_; simp [y]; refine q _ ?_; clear q
  refine wN (q _ ?_); clear q
  refine SWp.block ?_
  refine SWp.loopO [] [0, 3, 4] [] (fun v : (List GNode) × Int => ⟨[(0, .t (.sl false 4 (List.map (GNode.enc false) a1))), (3, .t (.sl true 4 (List.map (GNode.enc true) v.1))), (4, .t (vi v.2))], []⟩) (laws_toNodeS_l1 a1) _ (l2, 0) hj3 (by simp [y]) ?_
  intro g s10 h8 ho9
  obtain ⟨out6, i7⟩ := g
  simp only [laws_toNodeS_l1] at h8
  try dsimp only
  refine SWp.seq ?_
  refine SWp.sR rfl (u _ rfl) fun K q => ?_
  iterate 4 (refine wC rfl fun K q => ?_; simp [y]; refine q _ ?_; clear q)
  refine wN (q _ ?_); clear q
  rcases ite_or h8 with ⟨hb11, h8⟩ | ⟨hb12, h8⟩
  ·refine SWp.cT' (b := decide (i7 < (a1.length : Int))) (by simp) hb11 ?_
   refine SWp.skip ?_
   show SWp E C _ _ _
   refine SWp.seq ?_
   refine SWp.block ?_
   refine SWp.reg rfl (u _ rfl) fun K q => ?_
   iterate 4 (refine wC rfl fun K q => ?_; simp [y]; refine q _ ?_; clear q)
   obtain ⟨e13, he13, h8⟩ := bS h8
   obtain ⟨he13a, he13b, he13c, he13d⟩ := gS he13
   iterate 2 (refine wC rfl fun K q => ?_; simp [y, he13a, he13b, he13c, he13d]; refine q _ ?_; clear q)
   obtain ⟨r14, hc15, h8⟩ := bS h8
   refine wL [(.take, .tmp 19)] rfl rfl ent57 (laws_toNode_ok _ hc15) fun K q => ?_; simp [y, he13a, he13b, he13c, he13d]; refine q _ ?_; clear q
   obtain ⟨e16, he16, h8⟩ := bS h8
   obtain ⟨he16a, he16b, he16c, he16d⟩ := gS he16
   refine wC rfl fun K q => ?_; simp [y, he13a, he13b, he13c, he13d, he16a, he16b, he16c, he16d]; refine q _ ?_; clear q
   obtain ⟨l17, hl17, h8⟩ := bZ h8
   have hl17f : (List.map (GNode.enc true) out6).set i7.toNat (.agg [vi r14.Kind, vi r14.Num, vs r14.Name, .sl true 1 (List.map vi r14.Kids)]) = List.map (GNode.enc true) l17 := set_map (f := (GNode.enc true)) hl17
   try simp only [Int.toNat_natCast] at hl17f
   refine wC rfl fun K q => ?_; simp [y, he13a, he13b, he13c, he13d, he16a, he16b, he16c, he16d, hl17f]; refine q _ ?_; clear q
   refine wN (q _ ?_); clear q
   show SWp E C _ _ _
   refine SWp.reg rfl (u _ rfl) fun K q => ?_
   iterate 3 (refine wC rfl fun K q => ?_; simp [y]; refine q _ ?_; clear q)
   refine wN (q _ ?_); clear q
   cases h8
   exact ⟨_, [], rfl, by simp [y]⟩
  ·refine SWp.cF' (b := decide (i7 < (a1.length : Int))) (by simp) hb12 ?_
   refine SWp.exit ?_
   have h18 := congrArg some (ho9 _ (Option.some.inj h8).symm)
   cases h18
   exact hK4 _ () [] trivial (by simp [y])
 refine SWp.sR rfl (u _ rfl) fun K q => ?_
 iterate 2 (refine wC rfl fun K q => ?_; simp [y]; refine q _ ?_; clear q)
 refine wN (q _ ?_); clear q
 cases h
 refine SWp.ret ?_
 simp [thenS, iB, res29]
theorem res101 : Tryz.f101.results.toList = [.cell 2 100] := rfl
theorem ent101 : Enters E.P 101 := eO Tryz.func101 (by simp [Tryz.f101]) rfl
theorem laws_toParam_ok (a1 : GParam) {r0 : GParam} (h : laws_toParam a1 = some r0) : Ok E 101 [.val (GParam.enc a1)] [GParam.enc r0] [] := by
 refine oB (fn := Tryz.f101) Tryz.func101 rfl (by simp [Tryz.f101]) fun C hN hP => ?_
 have u : ∀ l, pinK [] l = true → pinB C.pin l = true := pO (by rw [hP]; rfl)
 have y : C.N = 11 := hN
 clear hN
 unfold laws_toParam at h
 refine SWp.sR rfl (u _ rfl) fun K q => ?_
 iterate 2 (refine wC rfl fun K q => ?_; simp [y]; refine q _ ?_; clear q)
 refine wN (q _ ?_); clear q
 refine SWp.sR rfl (u _ rfl) fun K q => ?_
 refine wC rfl fun K q => ?_; simp [y]; refine q _ ?_; clear q
 refine wN (q _ ?_); clear q
 refine SWp.sR rfl (u _ rfl) fun K q => ?_
 iterate 4 (refine wC rfl fun K q => ?_; simp [y]; refine q _ ?_; clear q)
 refine wN (q _ ?_); clear q
 refine SWp.sR rfl (u _ rfl) fun K q => ?_
 iterate 4 (refine wC rfl fun K q => ?_; simp [y]; refine q _ ?_; clear q)
 refine wN (q _ ?_); clear q
 refine SWp.sR rfl (u _ rfl) fun K q => ?_
 iterate 2 (refine wC rfl fun K q => ?_; simp [y]; refine q _ ?_; clear q)
 refine wN (q _ ?_); clear q
 cases h
 refine SWp.ret ?_
 simp [thenS, iB, res101]
theorem res87 : Tryz.f87.results.toList = [.tmp 2] := rfl
theorem ent87 : Enters E.P 87 := eO Tryz.func87 (by simp [Tryz.f87]) rfl
theorem laws_toParamS_ok (a1 : List GParam) {r0 : List GParam} (h : laws_toParamS a1 = some r0) : Ok E 87 [.val (.sl false 2 (List.map GParam.enc a1))] [.sl true 2 (List.map GParam.enc r0)] [] := by
 refine oB (fn := Tryz.f87) Tryz.func87 rfl (by simp [Tryz.f87]) fun C hN hP => ?_
 have u : ∀ l, pinK [] l = true → pinB C.pin l = true := pO (by rw [hP]; rfl)
 have y : C.N = 23 := hN
 clear hN
 unfold laws_toParamS at h
 refine SWp.sR rfl (u _ rfl) fun K q => ?_
 refine wC rfl fun K q => ?_; simp [y]; refine q _ ?_; clear q
 refine wN (q _ ?_); clear q
 refine SWp.sR rfl (u _ rfl) fun K q => ?_
 iterate 2 (refine wC rfl fun K q => ?_; simp [y]; refine q _ ?_; clear q)
 obtain ⟨l2, hl2, h⟩ := bS h
 obtain ⟨hl2a, hl2b, hl2c, hl2d⟩ := mS hl2
 have hl2f : List.replicate (a1.length : Int).toNat (.agg [vs ByteArray.empty, vi 0]) = List.map GParam.enc l2 := rep_map (f := GParam.enc) hl2d
 try simp only [Int.toNat_natCast] at hl2f
 iterate 2 (refine wC rfl fun K q => ?_; simp [y, hl2a, hl2b, hl2c, hl2f]; refine q _ ?_; clear q)
 refine wN (q _ ?_); clear q
 obtain ⟨out19, hj3, h⟩ := bS h
 refine SWp.seqC [3] [] (fun _ : Unit => ⟨[(3, .t (.sl true 2 (List.map GParam.enc out19)))], []⟩) (fun _ => True) (fun _ _ => ?_) fun K4 hK4 => ?_
 rotate_left
 ·refine SWp.sR rfl (u _ rfl) fun K q => ?_
  refine wC rfl fun K q => ?_; simp [y]; refine q _ ?_; clear q
  refine wN (q _ ?_); clear q
  refine SWp.block ?_
  refine SWp.loopO [] [0, 3, 4] [] (fun v : (List GParam) × Int => ⟨[(0, .t (.sl false 2 (List.map GParam.enc a1))), (3, .t (.sl true 2 (List.map GParam.enc v.1))), (4, .t (vi v.2))], []⟩) (laws_toParamS_l1 a1) _ (l2, 0) hj3 (by simp [y]) ?_
  intro g s10 h8 ho9
  obtain ⟨out6, i7⟩ := g
  simp only [laws_toParamS_l1] at h8
  try dsimp only
  refine SWp.seq ?_
  refine SWp.sR rfl (u _ rfl) fun K q => ?_
  iterate 4 (refine wC rfl fun K q => ?_; simp [y]; refine q _ ?_; clear q)
  refine wN (q _ ?_); clear q
  rcases ite_or h8 with ⟨hb11, h8⟩ | ⟨hb12, h8⟩
  ·refine SWp.cT' (b := decide (i7 < (a1.length : Int))) (by simp) hb11 ?_
   refine SWp.skip ?_
   show SWp E C _ _ _
   refine SWp.seq ?_
   refine SWp.block ?_
   refine SWp.reg rfl (u _ rfl) fun K q => ?_
   iterate 4 (refine wC rfl fun K q => ?_; simp [y]; refine q _ ?_; clear q)
   obtain ⟨e13, he13, h8⟩ := bS h8
   obtain ⟨he13a, he13b, he13c, he13d⟩ := gS he13
   iterate 2 (refine wC rfl fun K q => ?_; simp [y, he13a, he13b, he13c, he13d]; refine q _ ?_; clear q)
   obtain ⟨r14, hc15, h8⟩ := bS h8
   refine wL [(.take, .tmp 19)] rfl rfl ent101 (laws_toParam_ok _ hc15) fun K q => ?_; simp [y, he13a, he13b, he13c, he13d]; refine q _ ?_; clear q
   obtain ⟨e16, he16, h8⟩ := bS h8
   obtain ⟨he16a, he16b, he16c, he16d⟩ := gS he16
   refine wC rfl fun K q => ?_; simp [y, he13a, he13b, he13c, he13d, he16a, he16b, he16c, he16d]; refine q _ ?_; clear q
   obtain ⟨l17, hl17, h8⟩ := bZ h8
   have hl17f : (List.map GParam.enc out6).set i7.toNat (.agg [vs r14.Name, vi r14.Typ]) = List.map GParam.enc l17 := set_map (f := GParam.enc) hl17
   try simp only [Int.toNat_natCast] at hl17f
   refine wC rfl fun K q => ?_; simp [y, he13a, he13b, he13c, he13d, he16a, he16b, he16c, he16d, hl17f]; refine q _ ?_; clear q
   refine wN (q _ ?_); clear q
   show SWp E C _ _ _
   refine SWp.reg rfl (u _ rfl) fun K q => ?_
   iterate 3 (refine wC rfl fun K q => ?_; simp [y]; refine q _ ?_; clear q)
   refine wN (q _ ?_); clear q
   cases h8
   exact ⟨_, [], rfl, by simp [y]⟩
  ·refine SWp.cF' (b := decide (i7 < (a1.length : Int))) (by simp) hb12 ?_
   refine SWp.exit ?_
   have h18 := congrArg some (ho9 _ (Option.some.inj h8).symm)
   cases h18
   exact hK4 _ () [] trivial (by simp [y])
 refine SWp.sR rfl (u _ rfl) fun K q => ?_
 iterate 2 (refine wC rfl fun K q => ?_; simp [y]; refine q _ ?_; clear q)
 refine wN (q _ ?_); clear q
 cases h
 refine SWp.ret ?_
 simp [thenS, iB, res87]
theorem res58 : Tryz.f58.results.toList = [.cell 2 70] := rfl
theorem ent58 : Enters E.P 58 := eO Tryz.func58 (by simp [Tryz.f58]) rfl
theorem laws_toFn_ok (a1 : GFn) {r0 : GFn} (h : laws_toFn a1 = some r0) : Ok E 58 [.val (GFn.enc false a1)] [GFn.enc true r0] [] := by
 refine oB (fn := Tryz.f58) Tryz.func58 rfl (by simp [Tryz.f58]) fun C hN hP => ?_
 have u : ∀ l, pinK [] l = true → pinB C.pin l = true := pO (by rw [hP]; rfl)
 have y : C.N = 21 := hN
 clear hN
 unfold laws_toFn at h
 refine SWp.sR rfl (u _ rfl) fun K q => ?_
 iterate 2 (refine wC rfl fun K q => ?_; simp [y]; refine q _ ?_; clear q)
 refine wN (q _ ?_); clear q
 refine SWp.sR rfl (u _ rfl) fun K q => ?_
 refine wC rfl fun K q => ?_; simp [y]; refine q _ ?_; clear q
 refine wN (q _ ?_); clear q
 refine SWp.sR rfl (u _ rfl) fun K q => ?_
 iterate 4 (refine wC rfl fun K q => ?_; simp [y]; refine q _ ?_; clear q)
 refine wN (q _ ?_); clear q
 refine SWp.sR rfl (u _ rfl) fun K q => ?_
 iterate 2 (refine wC rfl fun K q => ?_; simp [y]; refine q _ ?_; clear q)
 obtain ⟨r2, hc3, h⟩ := bS h
 refine wL [(.take, .tmp 8)] rfl rfl ent87 (laws_toParamS_ok _ hc3) fun K q => ?_; simp [y]; refine q _ ?_; clear q
 iterate 2 (refine wC rfl fun K q => ?_; simp [y]; refine q _ ?_; clear q)
 refine wN (q _ ?_); clear q
 refine SWp.sR rfl (u _ rfl) fun K q => ?_
 iterate 4 (refine wC rfl fun K q => ?_; simp [y]; refine q _ ?_; clear q)
 refine wN (q _ ?_); clear q
 refine SWp.sR rfl (u _ rfl) fun K q => ?_
 iterate 4 (refine wC rfl fun K q => ?_; simp [y]; refine q _ ?_; clear q)
 refine wN (q _ ?_); clear q
 refine SWp.sR rfl (u _ rfl) fun K q => ?_
 iterate 4 (refine wC rfl fun K q => ?_; simp [y]; refine q _ ?_; clear q)
 refine wN (q _ ?_); clear q
 refine SWp.sR rfl (u _ rfl) fun K q => ?_
 iterate 2 (refine wC rfl fun K q => ?_; simp [y]; refine q _ ?_; clear q)
 refine wN (q _ ?_); clear q
 cases h
 refine SWp.ret ?_
 simp [thenS, iB, res58]
theorem res30 : Tryz.f30.results.toList = [.tmp 2] := rfl
theorem ent30 : Enters E.P 30 := eO Tryz.func30 (by simp [Tryz.f30]) rfl
theorem laws_toFnS_ok (a1 : List GFn) {r0 : List GFn} (h : laws_toFnS a1 = some r0) : Ok E 30 [.val (.sl false 5 (List.map (GFn.enc false) a1))] [.sl true 5 (List.map (GFn.enc true) r0)] [] := by
 refine oB (fn := Tryz.f30) Tryz.func30 rfl (by simp [Tryz.f30]) fun C hN hP => ?_
 have u : ∀ l, pinK [] l = true → pinB C.pin l = true := pO (by rw [hP]; rfl)
 have y : C.N = 23 := hN
 clear hN
 unfold laws_toFnS at h
 refine SWp.sR rfl (u _ rfl) fun K q => ?_
 refine wC rfl fun K q => ?_; simp [y]; refine q _ ?_; clear q
 refine wN (q _ ?_); clear q
 refine SWp.sR rfl (u _ rfl) fun K q => ?_
 iterate 2 (refine wC rfl fun K q => ?_; simp [y]; refine q _ ?_; clear q)
 obtain ⟨l2, hl2, h⟩ := bS h
 obtain ⟨hl2a, hl2b, hl2c, hl2d⟩ := mS hl2
 have hl2f : List.replicate (a1.length : Int).toNat (.agg [vs ByteArray.empty, .sl true 2 [], vi 0, vi 0, vi 0]) = List.map (GFn.enc true) l2 := rep_map (f := (GFn.enc true)) hl2d
 try simp only [Int.toNat_natCast] at hl2f
 iterate 2 (refine wC rfl fun K q => ?_; simp [y, hl2a, hl2b, hl2c, hl2f]; refine q _ ?_; clear q)
 refine wN (q _ ?_); clear q
 obtain ⟨out19, hj3, h⟩ := bS h
 refine SWp.seqC [3] [] (fun _ : Unit => ⟨[(3, .t (.sl true 5 (List.map (GFn.enc true) out19)))], []⟩) (fun _ => True) (fun _ _ => ?_) fun K4 hK4 => ?_
 rotate_left
 ·refine SWp.sR rfl (u _ rfl) fun K q => ?_
  refine wC rfl fun K q => ?_; simp [y]; refine q _ ?_; clear q
  refine wN (q _ ?_); clear q
  refine SWp.block ?_
  refine SWp.loopO [] [0, 3, 4] [] (fun v : (List GFn) × Int => ⟨[(0, .t (.sl false 5 (List.map (GFn.enc false) a1))), (3, .t (.sl true 5 (List.map (GFn.enc true) v.1))), (4, .t (vi v.2))], []⟩) (laws_toFnS_l1 a1) _ (l2, 0) hj3 (by simp [y]) ?_
  intro g s10 h8 ho9
  obtain ⟨out6, i7⟩ := g
  simp only [laws_toFnS_l1] at h8
  try dsimp only
  refine SWp.seq ?_
  refine SWp.sR rfl (u _ rfl) fun K q => ?_
  iterate 4 (refine wC rfl fun K q => ?_; simp [y]; refine q _ ?_; clear q)
  refine wN (q _ ?_); clear q
  rcases ite_or h8 with ⟨hb11, h8⟩ | ⟨hb12, h8⟩
  ·refine SWp.cT' (b := decide (i7 < (a1.length : Int))) (by simp) hb11 ?_
   refine SWp.skip ?_
   show SWp E C _ _ _
   refine SWp.seq ?_
   refine SWp.block ?_
   refine SWp.reg rfl (u _ rfl) fun K q => ?_
   iterate 4 (refine wC rfl fun K q => ?_; simp [y]; refine q _ ?_; clear q)
   obtain ⟨e13, he13, h8⟩ := bS h8
   obtain ⟨he13a, he13b, he13c, he13d⟩ := gS he13
   iterate 2 (refine wC rfl fun K q => ?_; simp [y, he13a, he13b, he13c, he13d]; refine q _ ?_; clear q)
   obtain ⟨r14, hc15, h8⟩ := bS h8
   refine wL [(.take, .tmp 19)] rfl rfl ent58 (laws_toFn_ok _ hc15) fun K q => ?_; simp [y, he13a, he13b, he13c, he13d]; refine q _ ?_; clear q
   obtain ⟨e16, he16, h8⟩ := bS h8
   obtain ⟨he16a, he16b, he16c, he16d⟩ := gS he16
   refine wC rfl fun K q => ?_; simp [y, he13a, he13b, he13c, he13d, he16a, he16b, he16c, he16d]; refine q _ ?_; clear q
   obtain ⟨l17, hl17, h8⟩ := bZ h8
   have hl17f : (List.map (GFn.enc true) out6).set i7.toNat (.agg [vs r14.Name, .sl true 2 (List.map GParam.enc r14.Params), vi r14.Res, vi r14.Body, vi r14.Ret]) = List.map (GFn.enc true) l17 := set_map (f := (GFn.enc true)) hl17
   try simp only [Int.toNat_natCast] at hl17f
   refine wC rfl fun K q => ?_; simp [y, he13a, he13b, he13c, he13d, he16a, he16b, he16c, he16d, hl17f]; refine q _ ?_; clear q
   refine wN (q _ ?_); clear q
   show SWp E C _ _ _
   refine SWp.reg rfl (u _ rfl) fun K q => ?_
   iterate 3 (refine wC rfl fun K q => ?_; simp [y]; refine q _ ?_; clear q)
   refine wN (q _ ?_); clear q
   cases h8
   exact ⟨_, [], rfl, by simp [y]⟩
  ·refine SWp.cF' (b := decide (i7 < (a1.length : Int))) (by simp) hb12 ?_
   refine SWp.exit ?_
   have h18 := congrArg some (ho9 _ (Option.some.inj h8).symm)
   cases h18
   exact hK4 _ () [] trivial (by simp [y])
 refine SWp.sR rfl (u _ rfl) fun K q => ?_
 iterate 2 (refine wC rfl fun K q => ?_; simp [y]; refine q _ ?_; clear q)
 refine wN (q _ ?_); clear q
 cases h
 refine SWp.ret ?_
 simp [thenS, iB, res30]
theorem res10 : Tryz.f10.results.toList = [.cell 2 31] := rfl
theorem ent10 : Enters E.P 10 := eO Tryz.func10 (by simp [Tryz.f10]) rfl
theorem laws_toProgram_ok (a1 : GProgram) {r0 : GProgram} (h : laws_toProgram a1 = some r0) : Ok E 10 [.val (GProgram.enc false a1)] [GProgram.enc true r0] [] := by
 refine oB (fn := Tryz.f10) Tryz.func10 rfl (by simp [Tryz.f10]) fun C hN hP => ?_
 have u : ∀ l, pinK [] l = true → pinB C.pin l = true := pO (by rw [hP]; rfl)
 have y : C.N = 13 := hN
 clear hN
 unfold laws_toProgram at h
 refine SWp.sR rfl (u _ rfl) fun K q => ?_
 iterate 2 (refine wC rfl fun K q => ?_; simp [y]; refine q _ ?_; clear q)
 refine wN (q _ ?_); clear q
 refine SWp.sR rfl (u _ rfl) fun K q => ?_
 refine wC rfl fun K q => ?_; simp [y]; refine q _ ?_; clear q
 refine wN (q _ ?_); clear q
 refine SWp.sR rfl (u _ rfl) fun K q => ?_
 iterate 2 (refine wC rfl fun K q => ?_; simp [y]; refine q _ ?_; clear q)
 obtain ⟨r2, hc3, h⟩ := bS h
 refine wL [(.take, .tmp 5)] rfl rfl ent29 (laws_toNodeS_ok _ hc3) fun K q => ?_; simp [y]; refine q _ ?_; clear q
 iterate 2 (refine wC rfl fun K q => ?_; simp [y]; refine q _ ?_; clear q)
 refine wN (q _ ?_); clear q
 refine SWp.sR rfl (u _ rfl) fun K q => ?_
 iterate 2 (refine wC rfl fun K q => ?_; simp [y]; refine q _ ?_; clear q)
 obtain ⟨r4, hc5, h⟩ := bS h
 refine wL [(.take, .tmp 9)] rfl rfl ent30 (laws_toFnS_ok _ hc5) fun K q => ?_; simp [y]; refine q _ ?_; clear q
 iterate 2 (refine wC rfl fun K q => ?_; simp [y]; refine q _ ?_; clear q)
 refine wN (q _ ?_); clear q
 refine SWp.sR rfl (u _ rfl) fun K q => ?_
 iterate 2 (refine wC rfl fun K q => ?_; simp [y]; refine q _ ?_; clear q)
 refine wN (q _ ?_); clear q
 cases h
 refine SWp.ret ?_
 simp [thenS, iB, res10]
theorem res19 : Tryz.f19.results.toList = [.tmp 4] := rfl
theorem ent19 : Enters E.P 19 := eO Tryz.func19 (by simp [Tryz.f19]) rfl
theorem laws_eqIntS_ok (a1 : List Int) (b2 : List Int) {r0 : Bool} (h : laws_eqIntS a1 b2 = some r0) : Ok E 19 [.val (.sl false 1 (List.map vi a1)), .val (.sl false 1 (List.map vi b2))] [vb r0] [] := by
 refine oB (fn := Tryz.f19) Tryz.func19 rfl (by simp [Tryz.f19]) fun C hN hP => ?_
 have hPB : ∀ l, pinK [] l = true → pinB C.pin l = true := pO (by rw [hP]; rfl)
 have hN' : C.N = 26 := hN
 clear hN
 unfold laws_eqIntS at h
 refine SWp.sR rfl (hPB _ rfl) fun K hK => ?_
 refine wC rfl fun K hK => ?_; simp [hN']; refine hK _ ?_; clear hK
 refine wN (hK _ ?_); clear hK
 refine SWp.seq ?_
 refine SWp.sR rfl (hPB _ rfl) fun K hK => ?_
 iterate 5 (refine wC rfl fun K hK => ?_; simp [hN']; refine hK _ ?_; clear hK)
 refine wN (hK _ ?_); clear hK
 rcases ite_or h with ⟨hb3, h⟩ | ⟨hb4, h⟩
 ·refine SWp.cT' (b := (a1.length : Int) != (b2.length : Int)) (by simp) hb3 ?_
  refine SWp.sR rfl (hPB _ rfl) fun K hK => ?_
  refine wC rfl fun K hK => ?_; simp [hN']; refine hK _ ?_; clear hK
  refine wN (hK _ ?_); clear hK
  cases h
  refine SWp.ret ?_
  simp [thenS, iB, res19]
 ·refine SWp.cF' (b := (a1.length : Int) != (b2.length : Int)) (by simp) hb4 ?_
  refine SWp.skip ?_
  show SWp E C _ _ _
  obtain ⟨j7, hj5, h⟩ := bS h
  refine SWp.seqC [] [] (fun v : Unit => ⟨[], []⟩) (fun v => j7 = Sum.inl v) (fun v hv => ?_) fun K6 hK6 => ?_
  rotate_left
  ·refine SWp.sR rfl (hPB _ rfl) fun K hK => ?_
   refine wC rfl fun K hK => ?_; simp [hN']; refine hK _ ?_; clear hK
   refine wN (hK _ ?_); clear hK
   refine SWp.block ?_
   refine SWp.loopO [] [0, 1, 5] [] (fun v : Int => ⟨[(0, .t (.sl false 1 (List.map vi a1))), (1, .t (.sl false 1 (List.map vi b2))), (5, .t (vi v))], []⟩) (laws_eqIntS_l1 a1 b2) _ 0 hj5 (by simp [hN']) ?_
   intro g s11 h9 ho10
   obtain ⟨i8, hg⟩ : ∃ y, y = g := ⟨_, rfl⟩
   subst hg
   simp only [laws_eqIntS_l1] at h9
   try dsimp only
   refine SWp.seq ?_
   refine SWp.sR rfl (hPB _ rfl) fun K hK => ?_
   iterate 4 (refine wC rfl fun K hK => ?_; simp [hN']; refine hK _ ?_; clear hK)
   refine wN (hK _ ?_); clear hK
   rcases ite_or h9 with ⟨hb12, h9⟩ | ⟨hb13, h9⟩
   ·refine SWp.cT' (b := decide (i8 < (a1.length : Int))) (by simp) hb12 ?_
    refine SWp.skip ?_
    show SWp E C _ _ _
    refine SWp.seq ?_
    refine SWp.block ?_
    refine SWp.seq ?_
    obtain ⟨e15, he15, h9⟩ := bS h9
    obtain ⟨he15a, he15b, he15c, he15d⟩ := gS he15
    obtain ⟨e16, he16, h9⟩ := bS h9
    obtain ⟨he16a, he16b, he16c, he16d⟩ := gS he16
    refine SWp.dT rfl (hPB _ rfl) [(17, .t (.sl false 1 (List.map vi a1))), (18, .t (vi i8)), (19, .rop [vi e15] 0), (20, .t (vi e15)), (21, .t (.sl false 1 (List.map vi b2))), (22, .t (vi i8)), (23, .rop [vi e16] 0), (24, .t (vi e16))] [[], [], [0, 1], [0, 1, 2], [], [], [4, 5], [4, 5, 6], [0, 1, 2, 3, 4, 5, 6, 7]] (by simp) (by simp) (by simp [look]) rfl rfl rfl ?_ fun K hK => ?_
    ·refine ⟨?_, ?_, ?_, ?_, ?_, ?_, ?_, ?_, trivial⟩
     all_goals (intro τ hbx hb hd hf K hK; try simp [vsAt] at hd; simp [vsAt] at hf; first | (refine wC rfl fun K' hK' => ?_; simp [hN', hbx, hb, hd, hf, he15a, he15b, he15c, he15d, he16a, he16b, he16c, he16d]; exact hK' _ (wN (hK _ (by simp [vsAt, hbx, he15a, he15b, he15c, he15d, he16a, he16b, he16c, he16d])))))
    refine wC rfl fun K hK => ?_; simp [hN', he15a, he15b, he15c, he15d, he16a, he16b, he16c, he16d]; refine hK _ ?_; clear hK
    refine wN (hK _ ?_); clear hK
    show SWp E C _ _ _
    rcases ite_or h9 with ⟨hb17, h9⟩ | ⟨hb18, h9⟩
    ·refine SWp.cT' (b := e15 != e16) (by simp) hb17 ?_
     refine SWp.sR rfl (hPB _ rfl) fun K hK => ?_
     refine wC rfl fun K hK => ?_; simp [hN']; refine hK _ ?_; clear hK
     refine wN (hK _ ?_); clear hK
     have h19 := congrArg some (ho10 _ (Option.some.inj h9).symm)
     cases h19
     try dsimp only at h
     cases h
     refine SWp.ret ?_
     simp [thenS, iB, res19]
    ·refine SWp.cF' (b := e15 != e16) (by simp) hb18 ?_
     refine SWp.skip ?_
     show SWp E C _ _ _
     refine SWp.reg rfl (hPB _ rfl) fun K hK => ?_
     iterate 3 (refine wC rfl fun K hK => ?_; simp [hN']; refine hK _ ?_; clear hK)
     refine wN (hK _ ?_); clear hK
     cases h9
     exact ⟨_, [], rfl, by simp [hN']⟩
   ·refine SWp.cF' (b := decide (i8 < (a1.length : Int))) (by simp) hb13 ?_
    refine SWp.exit ?_
    have h20 := congrArg some (ho10 _ (Option.some.inj h9).symm)
    cases h20
    exact hK6 _ _ [] rfl (by simp [hN'])
  subst hv
  obtain ⟨⟩ := v
  try dsimp only at h ⊢
  refine SWp.sR rfl (hPB _ rfl) fun K hK => ?_
  refine wC rfl fun K hK => ?_; simp [hN']; refine hK _ ?_; clear hK
  refine wN (hK _ ?_); clear hK
  cases h
  refine SWp.ret ?_
  simp [thenS, iB, res19]
theorem res61 : Tryz.f61.results.toList = [.tmp 4] := rfl
theorem ent61 : Enters E.P 61 := eO Tryz.func61 (by simp [Tryz.f61]) rfl
theorem laws_eqNode_ok (a1 : GNode) (b2 : GNode) {r0 : Bool} (h : laws_eqNode a1 b2 = some r0) : Ok E 61 [.val (GNode.enc false a1), .val (GNode.enc false b2)] [vb r0] [] := by
 refine oB (fn := Tryz.f61) Tryz.func61 rfl (by simp [Tryz.f61]) fun C hN hP => ?_
 have u : ∀ l, pinK [] l = true → pinB C.pin l = true := pO (by rw [hP]; rfl)
 have y : C.N = 26 := hN
 clear hN
 unfold laws_eqNode at h
 refine SWp.sR rfl (u _ rfl) fun K q => ?_
 iterate 3 (refine wC rfl fun K q => ?_; simp [y]; refine q _ ?_; clear q)
 refine wN (q _ ?_); clear q
 refine SWp.seq ?_
 refine SWp.sR rfl (u _ rfl) fun K q => ?_
 iterate 5 (refine wC rfl fun K q => ?_; simp [y]; refine q _ ?_; clear q)
 refine wN (q _ ?_); clear q
 rcases ite_or h with ⟨hb3, h⟩ | ⟨hb4, h⟩
 ·refine SWp.cT' (b := a1.Kind != b2.Kind) (by simp) hb3 ?_
  refine SWp.sR rfl (u _ rfl) fun K q => ?_
  refine wC rfl fun K q => ?_; simp [y]; refine q _ ?_; clear q
  refine wN (q _ ?_); clear q
  cases h
  refine SWp.ret ?_
  simp [thenS, iB, res61]
 ·refine SWp.cF' (b := a1.Kind != b2.Kind) (by simp) hb4 ?_
  refine SWp.skip ?_
  show SWp E C _ _ _
  refine SWp.seq ?_
  refine SWp.sR rfl (u _ rfl) fun K q => ?_
  iterate 5 (refine wC rfl fun K q => ?_; simp [y]; refine q _ ?_; clear q)
  refine wN (q _ ?_); clear q
  rcases ite_or h with ⟨hb5, h⟩ | ⟨hb6, h⟩
  ·refine SWp.cT' (b := a1.Num != b2.Num) (by simp) hb5 ?_
   refine SWp.sR rfl (u _ rfl) fun K q => ?_
   refine wC rfl fun K q => ?_; simp [y]; refine q _ ?_; clear q
   refine wN (q _ ?_); clear q
   cases h
   refine SWp.ret ?_
   simp [thenS, iB, res61]
  ·refine SWp.cF' (b := a1.Num != b2.Num) (by simp) hb6 ?_
   refine SWp.skip ?_
   show SWp E C _ _ _
   refine SWp.seq ?_
   refine SWp.sR rfl (u _ rfl) fun K q => ?_
   iterate 5 (refine wC rfl fun K q => ?_; simp [y]; refine q _ ?_; clear q)
   refine wN (q _ ?_); clear q
   rcases ite_or h with ⟨hb7, h⟩ | ⟨hb8, h⟩
   ·refine SWp.cT' (b := !(sEq a1.Name b2.Name)) (by simp) hb7 ?_
    refine SWp.sR rfl (u _ rfl) fun K q => ?_
    refine wC rfl fun K q => ?_; simp [y]; refine q _ ?_; clear q
    refine wN (q _ ?_); clear q
    cases h
    refine SWp.ret ?_
    simp [thenS, iB, res61]
   ·refine SWp.cF' (b := !(sEq a1.Name b2.Name)) (by simp) hb8 ?_
    refine SWp.skip ?_
    show SWp E C _ _ _
    refine SWp.seq ?_
    refine SWp.sR rfl (u _ rfl) fun K q => ?_
    iterate 4 (refine wC rfl fun K q => ?_; simp [y]; refine q _ ?_; clear q)
    obtain ⟨r9, hc10, h⟩ := bS h
    refine wL [(.take, .tmp 21), (.take, .tmp 23)] rfl rfl ent19 (laws_eqIntS_ok _ _ hc10) fun K q => ?_; simp [y]; refine q _ ?_; clear q
    refine wC rfl fun K q => ?_; simp [y]; refine q _ ?_; clear q
    refine wN (q _ ?_); clear q
    rcases ite_or h with ⟨hb11, h⟩ | ⟨hb12, h⟩
    ·refine SWp.cT' (b := !r9) (by simp) hb11 ?_
     refine SWp.sR rfl (u _ rfl) fun K q => ?_
     refine wC rfl fun K q => ?_; simp [y]; refine q _ ?_; clear q
     refine wN (q _ ?_); clear q
     cases h
     refine SWp.ret ?_
     simp [thenS, iB, res61]
    ·refine SWp.cF' (b := !r9) (by simp) hb12 ?_
     refine SWp.skip ?_
     show SWp E C _ _ _
     refine SWp.sR rfl (u _ rfl) fun K q => ?_
     refine wC rfl fun K q => ?_; simp [y]; refine q _ ?_; clear q
     refine wN (q _ ?_); clear q
     cases h
     refine SWp.ret ?_
     simp [thenS, iB, res61]
theorem res32 : Tryz.f32.results.toList = [.tmp 4] := rfl
theorem ent32 : Enters E.P 32 := eO Tryz.func32 (by simp [Tryz.f32]) rfl
theorem laws_eqNodeS_ok (a1 : List GNode) (b2 : List GNode) {r0 : Bool} (h : laws_eqNodeS a1 b2 = some r0) : Ok E 32 [.val (.sl false 4 (List.map (GNode.enc false) a1)), .val (.sl false 4 (List.map (GNode.enc false) b2))] [vb r0] [] := by
 refine oB (fn := Tryz.f32) Tryz.func32 rfl (by simp [Tryz.f32]) fun C hN hP => ?_
 have hPB : ∀ l, pinK [] l = true → pinB C.pin l = true := pO (by rw [hP]; rfl)
 have hN' : C.N = 27 := hN
 clear hN
 unfold laws_eqNodeS at h
 refine SWp.sR rfl (hPB _ rfl) fun K hK => ?_
 refine wC rfl fun K hK => ?_; simp [hN']; refine hK _ ?_; clear hK
 refine wN (hK _ ?_); clear hK
 refine SWp.seq ?_
 refine SWp.sR rfl (hPB _ rfl) fun K hK => ?_
 iterate 5 (refine wC rfl fun K hK => ?_; simp [hN']; refine hK _ ?_; clear hK)
 refine wN (hK _ ?_); clear hK
 rcases ite_or h with ⟨hb3, h⟩ | ⟨hb4, h⟩
 ·refine SWp.cT' (b := (a1.length : Int) != (b2.length : Int)) (by simp) hb3 ?_
  refine SWp.sR rfl (hPB _ rfl) fun K hK => ?_
  refine wC rfl fun K hK => ?_; simp [hN']; refine hK _ ?_; clear hK
  refine wN (hK _ ?_); clear hK
  cases h
  refine SWp.ret ?_
  simp [thenS, iB, res32]
 ·refine SWp.cF' (b := (a1.length : Int) != (b2.length : Int)) (by simp) hb4 ?_
  refine SWp.skip ?_
  show SWp E C _ _ _
  obtain ⟨j7, hj5, h⟩ := bS h
  refine SWp.seqC [] [] (fun v : Unit => ⟨[], []⟩) (fun v => j7 = Sum.inl v) (fun v hv => ?_) fun K6 hK6 => ?_
  rotate_left
  ·refine SWp.sR rfl (hPB _ rfl) fun K hK => ?_
   refine wC rfl fun K hK => ?_; simp [hN']; refine hK _ ?_; clear hK
   refine wN (hK _ ?_); clear hK
   refine SWp.block ?_
   refine SWp.loopO [] [0, 1, 5] [] (fun v : Int => ⟨[(0, .t (.sl false 4 (List.map (GNode.enc false) a1))), (1, .t (.sl false 4 (List.map (GNode.enc false) b2))), (5, .t (vi v))], []⟩) (laws_eqNodeS_l1 a1 b2) _ 0 hj5 (by simp [hN']) ?_
   intro g s11 h9 ho10
   obtain ⟨i8, hg⟩ : ∃ y, y = g := ⟨_, rfl⟩
   subst hg
   simp only [laws_eqNodeS_l1] at h9
   try dsimp only
   refine SWp.seq ?_
   refine SWp.sR rfl (hPB _ rfl) fun K hK => ?_
   iterate 4 (refine wC rfl fun K hK => ?_; simp [hN']; refine hK _ ?_; clear hK)
   refine wN (hK _ ?_); clear hK
   rcases ite_or h9 with ⟨hb12, h9⟩ | ⟨hb13, h9⟩
   ·refine SWp.cT' (b := decide (i8 < (a1.length : Int))) (by simp) hb12 ?_
    refine SWp.skip ?_
    show SWp E C _ _ _
    refine SWp.seq ?_
    refine SWp.block ?_
    refine SWp.seq ?_
    obtain ⟨e15, he15, h9⟩ := bS h9
    obtain ⟨he15a, he15b, he15c, he15d⟩ := gS he15
    obtain ⟨e16, he16, h9⟩ := bS h9
    obtain ⟨he16a, he16b, he16c, he16d⟩ := gS he16
    refine SWp.dT rfl (hPB _ rfl) [(17, .t (.sl false 4 (List.map (GNode.enc false) a1))), (18, .t (vi i8)), (19, .rop [vi e15.Kind, vi e15.Num, vs e15.Name, .sl false 1 (List.map vi e15.Kids)] 0), (20, .t (GNode.enc false e15)), (21, .t (.sl false 4 (List.map (GNode.enc false) b2))), (22, .t (vi i8)), (23, .rop [vi e16.Kind, vi e16.Num, vs e16.Name, .sl false 1 (List.map vi e16.Kids)] 0), (24, .t (GNode.enc false e16))] [[], [], [0, 1], [0, 1, 2], [], [], [4, 5], [4, 5, 6], [0, 1, 2, 3, 4, 5, 6, 7], [0, 1, 2, 3, 4, 5, 6, 7, 8]] (by simp) (by simp) (by simp [look]) rfl rfl rfl ?_ fun K hK => ?_
    ·refine ⟨?_, ?_, ?_, ?_, ?_, ?_, ?_, ?_, trivial⟩
     all_goals (intro τ hbx hb hd hf K hK; try simp [vsAt] at hd; simp [vsAt] at hf; first | (refine wC rfl fun K' hK' => ?_; simp [hN', hbx, hb, hd, hf, he15a, he15b, he15c, he15d, he16a, he16b, he16c, he16d]; exact hK' _ (wN (hK _ (by simp [vsAt, hbx, he15a, he15b, he15c, he15d, he16a, he16b, he16c, he16d])))))
    obtain ⟨r17, hc18, h9⟩ := bS h9
    refine wL [(.take, .tmp 20), (.take, .tmp 24)] rfl rfl ent61 (laws_eqNode_ok _ _ hc18) fun K hK => ?_; simp [hN', he15a, he15b, he15c, he15d, he16a, he16b, he16c, he16d]; refine hK _ ?_; clear hK
    refine wC rfl fun K hK => ?_; simp [hN', he15a, he15b, he15c, he15d, he16a, he16b, he16c, he16d]; refine hK _ ?_; clear hK
    refine wN (hK _ ?_); clear hK
    show SWp E C _ _ _
    rcases ite_or h9 with ⟨hb19, h9⟩ | ⟨hb20, h9⟩
    ·refine SWp.cT' (b := !r17) (by simp) hb19 ?_
     refine SWp.sR rfl (hPB _ rfl) fun K hK => ?_
     refine wC rfl fun K hK => ?_; simp [hN']; refine hK _ ?_; clear hK
     refine wN (hK _ ?_); clear hK
     have h21 := congrArg some (ho10 _ (Option.some.inj h9).symm)
     cases h21
     try dsimp only at h
     cases h
     refine SWp.ret ?_
     simp [thenS, iB, res32]
    ·refine SWp.cF' (b := !r17) (by simp) hb20 ?_
     refine SWp.skip ?_
     show SWp E C _ _ _
     refine SWp.reg rfl (hPB _ rfl) fun K hK => ?_
     iterate 3 (refine wC rfl fun K hK => ?_; simp [hN']; refine hK _ ?_; clear hK)
     refine wN (hK _ ?_); clear hK
     cases h9
     exact ⟨_, [], rfl, by simp [hN']⟩
   ·refine SWp.cF' (b := decide (i8 < (a1.length : Int))) (by simp) hb13 ?_
    refine SWp.exit ?_
    have h22 := congrArg some (ho10 _ (Option.some.inj h9).symm)
    cases h22
    exact hK6 _ _ [] rfl (by simp [hN'])
  subst hv
  obtain ⟨⟩ := v
  try dsimp only at h ⊢
  refine SWp.sR rfl (hPB _ rfl) fun K hK => ?_
  refine wC rfl fun K hK => ?_; simp [hN']; refine hK _ ?_; clear hK
  refine wN (hK _ ?_); clear hK
  cases h
  refine SWp.ret ?_
  simp [thenS, iB, res32]
theorem res102 : Tryz.f102.results.toList = [.tmp 4] := rfl
theorem ent102 : Enters E.P 102 := eO Tryz.func102 (by simp [Tryz.f102]) rfl
theorem laws_eqParam_ok (a1 : GParam) (b2 : GParam) {r0 : Bool} (h : laws_eqParam a1 b2 = some r0) : Ok E 102 [.val (GParam.enc a1), .val (GParam.enc b2)] [vb r0] [] := by
 refine oB (fn := Tryz.f102) Tryz.func102 rfl (by simp [Tryz.f102]) fun C hN hP => ?_
 have u : ∀ l, pinK [] l = true → pinB C.pin l = true := pO (by rw [hP]; rfl)
 have y : C.N = 15 := hN
 clear hN
 unfold laws_eqParam at h
 refine SWp.sR rfl (u _ rfl) fun K q => ?_
 iterate 3 (refine wC rfl fun K q => ?_; simp [y]; refine q _ ?_; clear q)
 refine wN (q _ ?_); clear q
 refine SWp.seq ?_
 refine SWp.sR rfl (u _ rfl) fun K q => ?_
 iterate 5 (refine wC rfl fun K q => ?_; simp [y]; refine q _ ?_; clear q)
 refine wN (q _ ?_); clear q
 rcases ite_or h with ⟨hb3, h⟩ | ⟨hb4, h⟩
 ·refine SWp.cT' (b := !(sEq a1.Name b2.Name)) (by simp) hb3 ?_
  refine SWp.sR rfl (u _ rfl) fun K q => ?_
  refine wC rfl fun K q => ?_; simp [y]; refine q _ ?_; clear q
  refine wN (q _ ?_); clear q
  cases h
  refine SWp.ret ?_
  simp [thenS, iB, res102]
 ·refine SWp.cF' (b := !(sEq a1.Name b2.Name)) (by simp) hb4 ?_
  refine SWp.skip ?_
  show SWp E C _ _ _
  refine SWp.seq ?_
  refine SWp.sR rfl (u _ rfl) fun K q => ?_
  iterate 5 (refine wC rfl fun K q => ?_; simp [y]; refine q _ ?_; clear q)
  refine wN (q _ ?_); clear q
  rcases ite_or h with ⟨hb5, h⟩ | ⟨hb6, h⟩
  ·refine SWp.cT' (b := a1.Typ != b2.Typ) (by simp) hb5 ?_
   refine SWp.sR rfl (u _ rfl) fun K q => ?_
   refine wC rfl fun K q => ?_; simp [y]; refine q _ ?_; clear q
   refine wN (q _ ?_); clear q
   cases h
   refine SWp.ret ?_
   simp [thenS, iB, res102]
  ·refine SWp.cF' (b := a1.Typ != b2.Typ) (by simp) hb6 ?_
   refine SWp.skip ?_
   show SWp E C _ _ _
   refine SWp.sR rfl (u _ rfl) fun K q => ?_
   refine wC rfl fun K q => ?_; simp [y]; refine q _ ?_; clear q
   refine wN (q _ ?_); clear q
   cases h
   refine SWp.ret ?_
   simp [thenS, iB, res102]
theorem res89 : Tryz.f89.results.toList = [.tmp 4] := rfl
theorem ent89 : Enters E.P 89 := eO Tryz.func89 (by simp [Tryz.f89]) rfl
theorem laws_eqParamS_ok (a1 : List GParam) (b2 : List GParam) {r0 : Bool} (h : laws_eqParamS a1 b2 = some r0) : Ok E 89 [.val (.sl false 2 (List.map GParam.enc a1)), .val (.sl false 2 (List.map GParam.enc b2))] [vb r0] [] := by
 refine oB (fn := Tryz.f89) Tryz.func89 rfl (by simp [Tryz.f89]) fun C hN hP => ?_
 have hPB : ∀ l, pinK [] l = true → pinB C.pin l = true := pO (by rw [hP]; rfl)
 have hN' : C.N = 27 := hN
 clear hN
 unfold laws_eqParamS at h
 refine SWp.sR rfl (hPB _ rfl) fun K hK => ?_
 refine wC rfl fun K hK => ?_; simp [hN']; refine hK _ ?_; clear hK
 refine wN (hK _ ?_); clear hK
 refine SWp.seq ?_
 refine SWp.sR rfl (hPB _ rfl) fun K hK => ?_
 iterate 5 (refine wC rfl fun K hK => ?_; simp [hN']; refine hK _ ?_; clear hK)
 refine wN (hK _ ?_); clear hK
 rcases ite_or h with ⟨hb3, h⟩ | ⟨hb4, h⟩
 ·refine SWp.cT' (b := (a1.length : Int) != (b2.length : Int)) (by simp) hb3 ?_
  refine SWp.sR rfl (hPB _ rfl) fun K hK => ?_
  refine wC rfl fun K hK => ?_; simp [hN']; refine hK _ ?_; clear hK
  refine wN (hK _ ?_); clear hK
  cases h
  refine SWp.ret ?_
  simp [thenS, iB, res89]
 ·refine SWp.cF' (b := (a1.length : Int) != (b2.length : Int)) (by simp) hb4 ?_
  refine SWp.skip ?_
  show SWp E C _ _ _
  obtain ⟨j7, hj5, h⟩ := bS h
  refine SWp.seqC [] [] (fun v : Unit => ⟨[], []⟩) (fun v => j7 = Sum.inl v) (fun v hv => ?_) fun K6 hK6 => ?_
  rotate_left
  ·refine SWp.sR rfl (hPB _ rfl) fun K hK => ?_
   refine wC rfl fun K hK => ?_; simp [hN']; refine hK _ ?_; clear hK
   refine wN (hK _ ?_); clear hK
   refine SWp.block ?_
   refine SWp.loopO [] [0, 1, 5] [] (fun v : Int => ⟨[(0, .t (.sl false 2 (List.map GParam.enc a1))), (1, .t (.sl false 2 (List.map GParam.enc b2))), (5, .t (vi v))], []⟩) (laws_eqParamS_l1 a1 b2) _ 0 hj5 (by simp [hN']) ?_
   intro g s11 h9 ho10
   obtain ⟨i8, hg⟩ : ∃ y, y = g := ⟨_, rfl⟩
   subst hg
   simp only [laws_eqParamS_l1] at h9
   try dsimp only
   refine SWp.seq ?_
   refine SWp.sR rfl (hPB _ rfl) fun K hK => ?_
   iterate 4 (refine wC rfl fun K hK => ?_; simp [hN']; refine hK _ ?_; clear hK)
   refine wN (hK _ ?_); clear hK
   rcases ite_or h9 with ⟨hb12, h9⟩ | ⟨hb13, h9⟩
   ·refine SWp.cT' (b := decide (i8 < (a1.length : Int))) (by simp) hb12 ?_
    refine SWp.skip ?_
    show SWp E C _ _ _
    refine SWp.seq ?_
    refine SWp.block ?_
    refine SWp.seq ?_
    obtain ⟨e15, he15, h9⟩ := bS h9
    obtain ⟨he15a, he15b, he15c, he15d⟩ := gS he15
    obtain ⟨e16, he16, h9⟩ := bS h9
    obtain ⟨he16a, he16b, he16c, he16d⟩ := gS he16
    refine SWp.dT rfl (hPB _ rfl) [(17, .t (.sl false 2 (List.map GParam.enc a1))), (18, .t (vi i8)), (19, .rop [vs e15.Name, vi e15.Typ] 0), (20, .t (GParam.enc e15)), (21, .t (.sl false 2 (List.map GParam.enc b2))), (22, .t (vi i8)), (23, .rop [vs e16.Name, vi e16.Typ] 0), (24, .t (GParam.enc e16))] [[], [], [0, 1], [0, 1, 2], [], [], [4, 5], [4, 5, 6], [0, 1, 2, 3, 4, 5, 6, 7], [0, 1, 2, 3, 4, 5, 6, 7, 8]] (by simp) (by simp) (by simp [look]) rfl rfl rfl ?_ fun K hK => ?_
    ·refine ⟨?_, ?_, ?_, ?_, ?_, ?_, ?_, ?_, trivial⟩
     all_goals (intro τ hbx hb hd hf K hK; try simp [vsAt] at hd; simp [vsAt] at hf; first | (refine wC rfl fun K' hK' => ?_; simp [hN', hbx, hb, hd, hf, he15a, he15b, he15c, he15d, he16a, he16b, he16c, he16d]; exact hK' _ (wN (hK _ (by simp [vsAt, hbx, he15a, he15b, he15c, he15d, he16a, he16b, he16c, he16d])))))
    obtain ⟨r17, hc18, h9⟩ := bS h9
    refine wL [(.take, .tmp 20), (.take, .tmp 24)] rfl rfl ent102 (laws_eqParam_ok _ _ hc18) fun K hK => ?_; simp [hN', he15a, he15b, he15c, he15d, he16a, he16b, he16c, he16d]; refine hK _ ?_; clear hK
    refine wC rfl fun K hK => ?_; simp [hN', he15a, he15b, he15c, he15d, he16a, he16b, he16c, he16d]; refine hK _ ?_; clear hK
    refine wN (hK _ ?_); clear hK
    show SWp E C _ _ _
    rcases ite_or h9 with ⟨hb19, h9⟩ | ⟨hb20, h9⟩
    ·refine SWp.cT' (b := !r17) (by simp) hb19 ?_
     refine SWp.sR rfl (hPB _ rfl) fun K hK => ?_
     refine wC rfl fun K hK => ?_; simp [hN']; refine hK _ ?_; clear hK
     refine wN (hK _ ?_); clear hK
     have h21 := congrArg some (ho10 _ (Option.some.inj h9).symm)
     cases h21
     try dsimp only at h
     cases h
     refine SWp.ret ?_
     simp [thenS, iB, res89]
    ·refine SWp.cF' (b := !r17) (by simp) hb20 ?_
     refine SWp.skip ?_
     show SWp E C _ _ _
     refine SWp.reg rfl (hPB _ rfl) fun K hK => ?_
     iterate 3 (refine wC rfl fun K hK => ?_; simp [hN']; refine hK _ ?_; clear hK)
     refine wN (hK _ ?_); clear hK
     cases h9
     exact ⟨_, [], rfl, by simp [hN']⟩
   ·refine SWp.cF' (b := decide (i8 < (a1.length : Int))) (by simp) hb13 ?_
    refine SWp.exit ?_
    have h22 := congrArg some (ho10 _ (Option.some.inj h9).symm)
    cases h22
    exact hK6 _ _ [] rfl (by simp [hN'])
  subst hv
  obtain ⟨⟩ := v
  try dsimp only at h ⊢
  refine SWp.sR rfl (hPB _ rfl) fun K hK => ?_
  refine wC rfl fun K hK => ?_; simp [hN']; refine hK _ ?_; clear hK
  refine wN (hK _ ?_); clear hK
  cases h
  refine SWp.ret ?_
  simp [thenS, iB, res89]
theorem res62 : Tryz.f62.results.toList = [.tmp 4] := rfl
theorem ent62 : Enters E.P 62 := eO Tryz.func62 (by simp [Tryz.f62]) rfl
theorem laws_eqFn_ok (a1 : GFn) (b2 : GFn) {r0 : Bool} (h : laws_eqFn a1 b2 = some r0) : Ok E 62 [.val (GFn.enc false a1), .val (GFn.enc false b2)] [vb r0] [] := by
 refine oB (fn := Tryz.f62) Tryz.func62 rfl (by simp [Tryz.f62]) fun C hN hP => ?_
 have u : ∀ l, pinK [] l = true → pinB C.pin l = true := pO (by rw [hP]; rfl)
 have y : C.N = 31 := hN
 clear hN
 unfold laws_eqFn at h
 refine SWp.sR rfl (u _ rfl) fun K q => ?_
 iterate 3 (refine wC rfl fun K q => ?_; simp [y]; refine q _ ?_; clear q)
 refine wN (q _ ?_); clear q
 refine SWp.seq ?_
 refine SWp.sR rfl (u _ rfl) fun K q => ?_
 iterate 5 (refine wC rfl fun K q => ?_; simp [y]; refine q _ ?_; clear q)
 refine wN (q _ ?_); clear q
 rcases ite_or h with ⟨hb3, h⟩ | ⟨hb4, h⟩
 ·refine SWp.cT' (b := !(sEq a1.Name b2.Name)) (by simp) hb3 ?_
  refine SWp.sR rfl (u _ rfl) fun K q => ?_
  refine wC rfl fun K q => ?_; simp [y]; refine q _ ?_; clear q
  refine wN (q _ ?_); clear q
  cases h
  refine SWp.ret ?_
  simp [thenS, iB, res62]
 ·refine SWp.cF' (b := !(sEq a1.Name b2.Name)) (by simp) hb4 ?_
  refine SWp.skip ?_
  show SWp E C _ _ _
  refine SWp.seq ?_
  refine SWp.sR rfl (u _ rfl) fun K q => ?_
  iterate 4 (refine wC rfl fun K q => ?_; simp [y]; refine q _ ?_; clear q)
  obtain ⟨r5, hc6, h⟩ := bS h
  refine wL [(.take, .tmp 11), (.take, .tmp 13)] rfl rfl ent89 (laws_eqParamS_ok _ _ hc6) fun K q => ?_; simp [y]; refine q _ ?_; clear q
  refine wC rfl fun K q => ?_; simp [y]; refine q _ ?_; clear q
  refine wN (q _ ?_); clear q
  rcases ite_or h with ⟨hb7, h⟩ | ⟨hb8, h⟩
  ·refine SWp.cT' (b := !r5) (by simp) hb7 ?_
   refine SWp.sR rfl (u _ rfl) fun K q => ?_
   refine wC rfl fun K q => ?_; simp [y]; refine q _ ?_; clear q
   refine wN (q _ ?_); clear q
   cases h
   refine SWp.ret ?_
   simp [thenS, iB, res62]
  ·refine SWp.cF' (b := !r5) (by simp) hb8 ?_
   refine SWp.skip ?_
   show SWp E C _ _ _
   refine SWp.seq ?_
   refine SWp.sR rfl (u _ rfl) fun K q => ?_
   iterate 5 (refine wC rfl fun K q => ?_; simp [y]; refine q _ ?_; clear q)
   refine wN (q _ ?_); clear q
   rcases ite_or h with ⟨hb9, h⟩ | ⟨hb10, h⟩
   ·refine SWp.cT' (b := a1.Res != b2.Res) (by simp) hb9 ?_
    refine SWp.sR rfl (u _ rfl) fun K q => ?_
    refine wC rfl fun K q => ?_; simp [y]; refine q _ ?_; clear q
    refine wN (q _ ?_); clear q
    cases h
    refine SWp.ret ?_
    simp [thenS, iB, res62]
   ·refine SWp.cF' (b := a1.Res != b2.Res) (by simp) hb10 ?_
    refine SWp.skip ?_
    show SWp E C _ _ _
    refine SWp.seq ?_
    refine SWp.sR rfl (u _ rfl) fun K q => ?_
    iterate 5 (refine wC rfl fun K q => ?_; simp [y]; refine q _ ?_; clear q)
    refine wN (q _ ?_); clear q
    rcases ite_or h with ⟨hb11, h⟩ | ⟨hb12, h⟩
    ·refine SWp.cT' (b := a1.Body != b2.Body) (by simp) hb11 ?_
     refine SWp.sR rfl (u _ rfl) fun K q => ?_
     refine wC rfl fun K q => ?_; simp [y]; refine q _ ?_; clear q
     refine wN (q _ ?_); clear q
     cases h
     refine SWp.ret ?_
     simp [thenS, iB, res62]
    ·refine SWp.cF' (b := a1.Body != b2.Body) (by simp) hb12 ?_
     refine SWp.skip ?_
     show SWp E C _ _ _
     refine SWp.seq ?_
     refine SWp.sR rfl (u _ rfl) fun K q => ?_
     iterate 5 (refine wC rfl fun K q => ?_; simp [y]; refine q _ ?_; clear q)
     refine wN (q _ ?_); clear q
     rcases ite_or h with ⟨hb13, h⟩ | ⟨hb14, h⟩
     ·refine SWp.cT' (b := a1.Ret != b2.Ret) (by simp) hb13 ?_
      refine SWp.sR rfl (u _ rfl) fun K q => ?_
      refine wC rfl fun K q => ?_; simp [y]; refine q _ ?_; clear q
      refine wN (q _ ?_); clear q
      cases h
      refine SWp.ret ?_
      simp [thenS, iB, res62]
     ·refine SWp.cF' (b := a1.Ret != b2.Ret) (by simp) hb14 ?_
      refine SWp.skip ?_
      show SWp E C _ _ _
      refine SWp.sR rfl (u _ rfl) fun K q => ?_
      refine wC rfl fun K q => ?_; simp [y]; refine q _ ?_; clear q
      refine wN (q _ ?_); clear q
      cases h
      refine SWp.ret ?_
      simp [thenS, iB, res62]
theorem res33 : Tryz.f33.results.toList = [.tmp 4] := rfl
theorem ent33 : Enters E.P 33 := eO Tryz.func33 (by simp [Tryz.f33]) rfl
theorem laws_eqFnS_ok (a1 : List GFn) (b2 : List GFn) {r0 : Bool} (h : laws_eqFnS a1 b2 = some r0) : Ok E 33 [.val (.sl false 5 (List.map (GFn.enc false) a1)), .val (.sl false 5 (List.map (GFn.enc false) b2))] [vb r0] [] := by
 refine oB (fn := Tryz.f33) Tryz.func33 rfl (by simp [Tryz.f33]) fun C hN hP => ?_
 have hPB : ∀ l, pinK [] l = true → pinB C.pin l = true := pO (by rw [hP]; rfl)
 have hN' : C.N = 27 := hN
 clear hN
 unfold laws_eqFnS at h
 refine SWp.sR rfl (hPB _ rfl) fun K hK => ?_
 refine wC rfl fun K hK => ?_; simp [hN']; refine hK _ ?_; clear hK
 refine wN (hK _ ?_); clear hK
 refine SWp.seq ?_
 refine SWp.sR rfl (hPB _ rfl) fun K hK => ?_
 iterate 5 (refine wC rfl fun K hK => ?_; simp [hN']; refine hK _ ?_; clear hK)
 refine wN (hK _ ?_); clear hK
 rcases ite_or h with ⟨hb3, h⟩ | ⟨hb4, h⟩
 ·refine SWp.cT' (b := (a1.length : Int) != (b2.length : Int)) (by simp) hb3 ?_
  refine SWp.sR rfl (hPB _ rfl) fun K hK => ?_
  refine wC rfl fun K hK => ?_; simp [hN']; refine hK _ ?_; clear hK
  refine wN (hK _ ?_); clear hK
  cases h
  refine SWp.ret ?_
  simp [thenS, iB, res33]
 ·refine SWp.cF' (b := (a1.length : Int) != (b2.length : Int)) (by simp) hb4 ?_
  refine SWp.skip ?_
  show SWp E C _ _ _
  obtain ⟨j7, hj5, h⟩ := bS h
  refine SWp.seqC [] [] (fun v : Unit => ⟨[], []⟩) (fun v => j7 = Sum.inl v) (fun v hv => ?_) fun K6 hK6 => ?_
  rotate_left
  ·refine SWp.sR rfl (hPB _ rfl) fun K hK => ?_
   refine wC rfl fun K hK => ?_; simp [hN']; refine hK _ ?_; clear hK
   refine wN (hK _ ?_); clear hK
   refine SWp.block ?_
   refine SWp.loopO [] [0, 1, 5] [] (fun v : Int => ⟨[(0, .t (.sl false 5 (List.map (GFn.enc false) a1))), (1, .t (.sl false 5 (List.map (GFn.enc false) b2))), (5, .t (vi v))], []⟩) (laws_eqFnS_l1 a1 b2) _ 0 hj5 (by simp [hN']) ?_
   intro g s11 h9 ho10
   obtain ⟨i8, hg⟩ : ∃ y, y = g := ⟨_, rfl⟩
   subst hg
   simp only [laws_eqFnS_l1] at h9
   try dsimp only
   refine SWp.seq ?_
   refine SWp.sR rfl (hPB _ rfl) fun K hK => ?_
   iterate 4 (refine wC rfl fun K hK => ?_; simp [hN']; refine hK _ ?_; clear hK)
   refine wN (hK _ ?_); clear hK
   rcases ite_or h9 with ⟨hb12, h9⟩ | ⟨hb13, h9⟩
   ·refine SWp.cT' (b := decide (i8 < (a1.length : Int))) (by simp) hb12 ?_
    refine SWp.skip ?_
    show SWp E C _ _ _
    refine SWp.seq ?_
    refine SWp.block ?_
    refine SWp.seq ?_
    obtain ⟨e15, he15, h9⟩ := bS h9
    obtain ⟨he15a, he15b, he15c, he15d⟩ := gS he15
    obtain ⟨e16, he16, h9⟩ := bS h9
    obtain ⟨he16a, he16b, he16c, he16d⟩ := gS he16
    refine SWp.dT rfl (hPB _ rfl) [(17, .t (.sl false 5 (List.map (GFn.enc false) a1))), (18, .t (vi i8)), (19, .rop [vs e15.Name, .sl false 2 (List.map GParam.enc e15.Params), vi e15.Res, vi e15.Body, vi e15.Ret] 0), (20, .t (GFn.enc false e15)), (21, .t (.sl false 5 (List.map (GFn.enc false) b2))), (22, .t (vi i8)), (23, .rop [vs e16.Name, .sl false 2 (List.map GParam.enc e16.Params), vi e16.Res, vi e16.Body, vi e16.Ret] 0), (24, .t (GFn.enc false e16))] [[], [], [0, 1], [0, 1, 2], [], [], [4, 5], [4, 5, 6], [0, 1, 2, 3, 4, 5, 6, 7], [0, 1, 2, 3, 4, 5, 6, 7, 8]] (by simp) (by simp) (by simp [look]) rfl rfl rfl ?_ fun K hK => ?_
    ·refine ⟨?_, ?_, ?_, ?_, ?_, ?_, ?_, ?_, trivial⟩
     all_goals (intro τ hbx hb hd hf K hK; try simp [vsAt] at hd; simp [vsAt] at hf; first | (refine wC rfl fun K' hK' => ?_; simp [hN', hbx, hb, hd, hf, he15a, he15b, he15c, he15d, he16a, he16b, he16c, he16d]; exact hK' _ (wN (hK _ (by simp [vsAt, hbx, he15a, he15b, he15c, he15d, he16a, he16b, he16c, he16d])))))
    obtain ⟨r17, hc18, h9⟩ := bS h9
    refine wL [(.take, .tmp 20), (.take, .tmp 24)] rfl rfl ent62 (laws_eqFn_ok _ _ hc18) fun K hK => ?_; simp [hN', he15a, he15b, he15c, he15d, he16a, he16b, he16c, he16d]; refine hK _ ?_; clear hK
    refine wC rfl fun K hK => ?_; simp [hN', he15a, he15b, he15c, he15d, he16a, he16b, he16c, he16d]; refine hK _ ?_; clear hK
    refine wN (hK _ ?_); clear hK
    show SWp E C _ _ _
    rcases ite_or h9 with ⟨hb19, h9⟩ | ⟨hb20, h9⟩
    ·refine SWp.cT' (b := !r17) (by simp) hb19 ?_
     refine SWp.sR rfl (hPB _ rfl) fun K hK => ?_
     refine wC rfl fun K hK => ?_; simp [hN']; refine hK _ ?_; clear hK
     refine wN (hK _ ?_); clear hK
     have h21 := congrArg some (ho10 _ (Option.some.inj h9).symm)
     cases h21
     try dsimp only at h
     cases h
     refine SWp.ret ?_
     simp [thenS, iB, res33]
    ·refine SWp.cF' (b := !r17) (by simp) hb20 ?_
     refine SWp.skip ?_
     show SWp E C _ _ _
     refine SWp.reg rfl (hPB _ rfl) fun K hK => ?_
     iterate 3 (refine wC rfl fun K hK => ?_; simp [hN']; refine hK _ ?_; clear hK)
     refine wN (hK _ ?_); clear hK
     cases h9
     exact ⟨_, [], rfl, by simp [hN']⟩
   ·refine SWp.cF' (b := decide (i8 < (a1.length : Int))) (by simp) hb13 ?_
    refine SWp.exit ?_
    have h22 := congrArg some (ho10 _ (Option.some.inj h9).symm)
    cases h22
    exact hK6 _ _ [] rfl (by simp [hN'])
  subst hv
  obtain ⟨⟩ := v
  try dsimp only at h ⊢
  refine SWp.sR rfl (hPB _ rfl) fun K hK => ?_
  refine wC rfl fun K hK => ?_; simp [hN']; refine hK _ ?_; clear hK
  refine wN (hK _ ?_); clear hK
  cases h
  refine SWp.ret ?_
  simp [thenS, iB, res33]
theorem res12 : Tryz.f12.results.toList = [.tmp 4] := rfl
theorem ent12 : Enters E.P 12 := eO Tryz.func12 (by simp [Tryz.f12]) rfl
theorem laws_eqProgram_ok (a1 : GProgram) (b2 : GProgram) {r0 : Bool} (h : laws_eqProgram a1 b2 = some r0) : Ok E 12 [.val (GProgram.enc false a1), .val (GProgram.enc false b2)] [vb r0] [] := by
 refine oB (fn := Tryz.f12) Tryz.func12 rfl (by simp [Tryz.f12]) fun C hN hP => ?_
 have u : ∀ l, pinK [] l = true → pinB C.pin l = true := pO (by rw [hP]; rfl)
 have y : C.N = 17 := hN
 clear hN
 unfold laws_eqProgram at h
 refine SWp.sR rfl (u _ rfl) fun K q => ?_
 iterate 3 (refine wC rfl fun K q => ?_; simp [y]; refine q _ ?_; clear q)
 refine wN (q _ ?_); clear q
 refine SWp.seq ?_
 refine SWp.sR rfl (u _ rfl) fun K q => ?_
 iterate 4 (refine wC rfl fun K q => ?_; simp [y]; refine q _ ?_; clear q)
 obtain ⟨r3, hc4, h⟩ := bS h
 refine wL [(.take, .tmp 6), (.take, .tmp 8)] rfl rfl ent32 (laws_eqNodeS_ok _ _ hc4) fun K q => ?_; simp [y]; refine q _ ?_; clear q
 refine wC rfl fun K q => ?_; simp [y]; refine q _ ?_; clear q
 refine wN (q _ ?_); clear q
 rcases ite_or h with ⟨hb5, h⟩ | ⟨hb6, h⟩
 ·refine SWp.cT' (b := !r3) (by simp) hb5 ?_
  refine SWp.sR rfl (u _ rfl) fun K q => ?_
  refine wC rfl fun K q => ?_; simp [y]; refine q _ ?_; clear q
  refine wN (q _ ?_); clear q
  cases h
  refine SWp.ret ?_
  simp [thenS, iB, res12]
 ·refine SWp.cF' (b := !r3) (by simp) hb6 ?_
  refine SWp.skip ?_
  show SWp E C _ _ _
  refine SWp.seq ?_
  refine SWp.sR rfl (u _ rfl) fun K q => ?_
  iterate 4 (refine wC rfl fun K q => ?_; simp [y]; refine q _ ?_; clear q)
  obtain ⟨r7, hc8, h⟩ := bS h
  refine wL [(.take, .tmp 12), (.take, .tmp 14)] rfl rfl ent33 (laws_eqFnS_ok _ _ hc8) fun K q => ?_; simp [y]; refine q _ ?_; clear q
  refine wC rfl fun K q => ?_; simp [y]; refine q _ ?_; clear q
  refine wN (q _ ?_); clear q
  rcases ite_or h with ⟨hb9, h⟩ | ⟨hb10, h⟩
  ·refine SWp.cT' (b := !r7) (by simp) hb9 ?_
   refine SWp.sR rfl (u _ rfl) fun K q => ?_
   refine wC rfl fun K q => ?_; simp [y]; refine q _ ?_; clear q
   refine wN (q _ ?_); clear q
   cases h
   refine SWp.ret ?_
   simp [thenS, iB, res12]
  ·refine SWp.cF' (b := !r7) (by simp) hb10 ?_
   refine SWp.skip ?_
   show SWp E C _ _ _
   refine SWp.sR rfl (u _ rfl) fun K q => ?_
   refine wC rfl fun K q => ?_; simp [y]; refine q _ ?_; clear q
   refine wN (q _ ?_); clear q
   cases h
   refine SWp.ret ?_
   simp [thenS, iB, res12]
theorem res51 : Tryz.f51.results.toList = [.tmp 6] := rfl
theorem ent51 : Enters E.P 51 := eO Tryz.func51 (by simp [Tryz.f51]) rfl
theorem spec_l01In_ok (x1 : Int) (least2 : Int) (most3 : Int) {r0 : Bool} (h : spec_l01In x1 least2 most3 = some r0) : Ok E 51 [.val (vi x1), .val (vi least2), .val (vi most3)] [vb r0] [] := by
 refine oB (fn := Tryz.f51) Tryz.func51 rfl (by simp [Tryz.f51]) fun C hN hP => ?_
 have u : ∀ l, pinK [] l = true → pinB C.pin l = true := pO (by rw [hP]; rfl)
 have y : C.N = 15 := hN
 clear hN
 unfold spec_l01In at h
 refine SWp.sR rfl (u _ rfl) fun K q => ?_
 refine wC rfl fun K q => ?_; simp [y]; refine q _ ?_; clear q
 refine wN (q _ ?_); clear q
 obtain ⟨v8, hj4, h⟩ := bS h
 refine SWp.seqRC rfl (u _ rfl) [6] [] (fun _ : Unit => ⟨[(6, .t (vb v8))], []⟩) (fun _ => True) (fun _ _ => ?_) fun K5 hK5 => ?_
 rotate_left
 ·refine wC rfl fun K q => ?_; simp [y]; refine q _ ?_; clear q
  iterate 3 (refine wC rfl fun K q => ?_; simp [y]; refine q _ ?_; clear q)
  rcases ite_or hj4 with ⟨hb6, hj4⟩ | ⟨hb7, hj4⟩
  ·have hb6s := hb6
   try simp at hb6s
   iterate 5 (refine wC rfl fun K q => ?_; simp [y, hb6, hb6s]; refine q _ ?_; clear q)
   refine wN ?_
   cases hj4
   exact hK5 _ () [] trivial (by simp [y, hb6, hb6s])
  ·have hb7s := hb7
   try simp at hb7s
   iterate 3 (refine wO fun K q => ?_; simp [y, hb7, hb7s]; refine q _ ?_; clear q)
   iterate 2 (refine wC rfl fun K q => ?_; simp [y, hb7, hb7s]; refine q _ ?_; clear q)
   refine wN ?_
   cases hj4
   exact hK5 _ () [] trivial (by simp [y, hb7, hb7s])
 cases h
 refine SWp.ret ?_
 simp [thenS, iB, res51]
theorem res106 : Tryz.f106.results.toList = [.tmp 2] := rfl
theorem ent106 : Enters E.P 106 := eO Tryz.func106 (by simp [Tryz.f106]) rfl
theorem spec_l03Letter_ok (b1 : Int) {r0 : Bool} (h : spec_l03Letter b1 = some r0) : Ok E 106 [.val (vk .u8 b1)] [vb r0] [] := by
 refine oB (fn := Tryz.f106) Tryz.func106 rfl (by simp [Tryz.f106]) fun C hN hP => ?_
 have u : ∀ l, pinK [] l = true → pinB C.pin l = true := pO (by rw [hP]; rfl)
 have y : C.N = 9 := hN
 clear hN
 unfold spec_l03Letter at h
 refine SWp.sR rfl (u _ rfl) fun K q => ?_
 refine wC rfl fun K q => ?_; simp [y]; refine q _ ?_; clear q
 refine wN (q _ ?_); clear q
 obtain ⟨v6, hj2, h⟩ := bS h
 refine SWp.seqRC rfl (u _ rfl) [2] [] (fun _ : Unit => ⟨[(2, .t (vb v6))], []⟩) (fun _ => True) (fun _ _ => ?_) fun K3 hK3 => ?_
 rotate_left
 ·refine wC rfl fun K q => ?_; simp [y]; refine q _ ?_; clear q
  iterate 2 (refine wC rfl fun K q => ?_; simp [y]; refine q _ ?_; clear q)
  rcases ite_or hj2 with ⟨hb4, hj2⟩ | ⟨hb5, hj2⟩
  ·have hb4s := hb4
   try simp at hb4s
   iterate 4 (refine wC rfl fun K q => ?_; simp [y, hb4, hb4s]; refine q _ ?_; clear q)
   refine wN ?_
   cases hj2
   exact hK3 _ () [] trivial (by simp [y, hb4, hb4s])
  ·have hb5s := hb5
   try simp at hb5s
   iterate 2 (refine wO fun K q => ?_; simp [y, hb5, hb5s]; refine q _ ?_; clear q)
   iterate 2 (refine wC rfl fun K q => ?_; simp [y, hb5, hb5s]; refine q _ ?_; clear q)
   refine wN ?_
   cases hj2
   exact hK3 _ () [] trivial (by simp [y, hb5, hb5s])
 cases h
 refine SWp.ret ?_
 simp [thenS, iB, res106]
theorem res125 : Tryz.f125.results.toList = [.tmp 0] := rfl
theorem ent125 : Enters E.P 125 := eO Tryz.func125 (by simp [Tryz.f125]) rfl
theorem spec_l03Keys_ok {r0 : List ByteArray} (h : spec_l03Keys = some r0) : Ok E 125 [] [.sl true 1 (List.map vs r0)] [] := by
 refine oB (fn := Tryz.f125) Tryz.func125 rfl (by simp [Tryz.f125]) fun C hN hP => ?_
 have u : ∀ l, pinK [] l = true → pinB C.pin l = true := pO (by rw [hP]; rfl)
 have y : C.N = 2 := hN
 clear hN
 unfold spec_l03Keys at h
 refine SWp.sR rfl (u _ rfl) fun K q => ?_
 refine wC rfl fun K q => ?_; simp [y]; refine q _ ?_; clear q
 refine wN (q _ ?_); clear q
 refine SWp.sR rfl (u _ rfl) fun K q => ?_
 iterate 2 (refine wC rfl fun K q => ?_; simp [y]; refine q _ ?_; clear q)
 refine wN (q _ ?_); clear q
 cases h
 refine SWp.ret ?_
 simp [thenS, iB, res125]
theorem res107 : Tryz.f107.results.toList = [.tmp 2] := rfl
theorem ent107 : Enters E.P 107 := eO Tryz.func107 (by simp [Tryz.f107]) rfl
theorem spec_KeyWord_ok (s1 : ByteArray) {r0 : Bool} (h : spec_KeyWord s1 = some r0) : Ok E 107 [.val (vs s1)] [vb r0] [] := by
 refine oB (fn := Tryz.f107) Tryz.func107 rfl (by simp [Tryz.f107]) fun C hN hP => ?_
 have hPB : ∀ l, pinK [] l = true → pinB C.pin l = true := pO (by rw [hP]; rfl)
 have hN' : C.N = 18 := hN
 clear hN
 unfold spec_KeyWord at h
 refine SWp.sR rfl (hPB _ rfl) fun K hK => ?_
 refine wC rfl fun K hK => ?_; simp [hN']; refine hK _ ?_; clear hK
 refine wN (hK _ ?_); clear hK
 refine SWp.sR rfl (hPB _ rfl) fun K hK => ?_
 obtain ⟨r2, hc3, h⟩ := bS h
 refine wL [] rfl rfl ent125 (spec_l03Keys_ok hc3) fun K hK => ?_; simp [hN']; refine hK _ ?_; clear hK
 refine wC rfl fun K hK => ?_; simp [hN']; refine hK _ ?_; clear hK
 refine wN (hK _ ?_); clear hK
 obtain ⟨j6, hj4, h⟩ := bS h
 refine SWp.seqC [] [] (fun v : Unit => ⟨[], []⟩) (fun v => j6 = Sum.inl v) (fun v hv => ?_) fun K5 hK5 => ?_
 rotate_left
 ·refine SWp.sR rfl (hPB _ rfl) fun K hK => ?_
  refine wC rfl fun K hK => ?_; simp [hN']; refine hK _ ?_; clear hK
  refine wN (hK _ ?_); clear hK
  refine SWp.block ?_
  refine SWp.loopO [] [0, 3, 4] [] (fun v : Int => ⟨[(0, .t (vs s1)), (3, .t (.sl true 1 (List.map vs r2))), (4, .t (vi v))], []⟩) (spec_KeyWord_l1 s1 r2) _ 0 hj4 (by simp [hN']) ?_
  intro g s10 h8 ho9
  obtain ⟨i7, hg⟩ : ∃ y, y = g := ⟨_, rfl⟩
  subst hg
  simp only [spec_KeyWord_l1] at h8
  try dsimp only
  refine SWp.seq ?_
  refine SWp.sR rfl (hPB _ rfl) fun K hK => ?_
  iterate 4 (refine wC rfl fun K hK => ?_; simp [hN']; refine hK _ ?_; clear hK)
  refine wN (hK _ ?_); clear hK
  rcases ite_or h8 with ⟨hb11, h8⟩ | ⟨hb12, h8⟩
  ·refine SWp.cT' (b := decide (i7 < (r2.length : Int))) (by simp) hb11 ?_
   refine SWp.skip ?_
   show SWp E C _ _ _
   refine SWp.seq ?_
   refine SWp.block ?_
   refine SWp.sR rfl (hPB _ rfl) fun K hK => ?_
   iterate 2 (refine wC rfl fun K hK => ?_; simp [hN']; refine hK _ ?_; clear hK)
   obtain ⟨e13, he13, h8⟩ := bS h8
   obtain ⟨he13a, he13b, he13c, he13d⟩ := gS he13
   iterate 4 (refine wC rfl fun K hK => ?_; simp [hN', he13a, he13b, he13c, he13d]; refine hK _ ?_; clear hK)
   refine wN (hK _ ?_); clear hK
   rcases ite_or h8 with ⟨hb14, h8⟩ | ⟨hb15, h8⟩
   ·refine SWp.cT' (b := sEq e13 s1) (by simp) hb14 ?_
    refine SWp.sR rfl (hPB _ rfl) fun K hK => ?_
    refine wC rfl fun K hK => ?_; simp [hN']; refine hK _ ?_; clear hK
    refine wN (hK _ ?_); clear hK
    have h16 := congrArg some (ho9 _ (Option.some.inj h8).symm)
    cases h16
    try dsimp only at h
    cases h
    refine SWp.ret ?_
    simp [thenS, iB, res107]
   ·refine SWp.cF' (b := sEq e13 s1) (by simp) hb15 ?_
    refine SWp.skip ?_
    show SWp E C _ _ _
    refine SWp.reg rfl (hPB _ rfl) fun K hK => ?_
    iterate 3 (refine wC rfl fun K hK => ?_; simp [hN']; refine hK _ ?_; clear hK)
    refine wN (hK _ ?_); clear hK
    cases h8
    exact ⟨_, [], rfl, by simp [hN']⟩
  ·refine SWp.cF' (b := decide (i7 < (r2.length : Int))) (by simp) hb12 ?_
   refine SWp.exit ?_
   have h17 := congrArg some (ho9 _ (Option.some.inj h8).symm)
   cases h17
   exact hK5 _ _ [] rfl (by simp [hN'])
 subst hv
 obtain ⟨⟩ := v
 try dsimp only at h ⊢
 refine SWp.sR rfl (hPB _ rfl) fun K hK => ?_
 refine wC rfl fun K hK => ?_; simp [hN']; refine hK _ ?_; clear hK
 refine wN (hK _ ?_); clear hK
 cases h
 refine SWp.ret ?_
 simp [thenS, iB, res107]
theorem res108 : Tryz.f108.results.toList = [.tmp 2] := rfl
theorem ent108 : Enters E.P 108 := eO Tryz.func108 (by simp [Tryz.f108]) rfl
theorem spec_l03Figure_ok (b1 : Int) {r0 : Bool} (h : spec_l03Figure b1 = some r0) : Ok E 108 [.val (vk .u8 b1)] [vb r0] [] := by
 refine oB (fn := Tryz.f108) Tryz.func108 rfl (by simp [Tryz.f108]) fun C hN hP => ?_
 have u : ∀ l, pinK [] l = true → pinB C.pin l = true := pO (by rw [hP]; rfl)
 have y : C.N = 9 := hN
 clear hN
 unfold spec_l03Figure at h
 refine SWp.sR rfl (u _ rfl) fun K q => ?_
 refine wC rfl fun K q => ?_; simp [y]; refine q _ ?_; clear q
 refine wN (q _ ?_); clear q
 obtain ⟨v6, hj2, h⟩ := bS h
 refine SWp.seqRC rfl (u _ rfl) [2] [] (fun _ : Unit => ⟨[(2, .t (vb v6))], []⟩) (fun _ => True) (fun _ _ => ?_) fun K3 hK3 => ?_
 rotate_left
 ·refine wC rfl fun K q => ?_; simp [y]; refine q _ ?_; clear q
  iterate 2 (refine wC rfl fun K q => ?_; simp [y]; refine q _ ?_; clear q)
  rcases ite_or hj2 with ⟨hb4, hj2⟩ | ⟨hb5, hj2⟩
  ·have hb4s := hb4
   try simp at hb4s
   iterate 4 (refine wC rfl fun K q => ?_; simp [y, hb4, hb4s]; refine q _ ?_; clear q)
   refine wN ?_
   cases hj2
   exact hK3 _ () [] trivial (by simp [y, hb4, hb4s])
  ·have hb5s := hb5
   try simp at hb5s
   iterate 2 (refine wO fun K q => ?_; simp [y, hb5, hb5s]; refine q _ ?_; clear q)
   iterate 2 (refine wC rfl fun K q => ?_; simp [y, hb5, hb5s]; refine q _ ?_; clear q)
   refine wN ?_
   cases hj2
   exact hK3 _ () [] trivial (by simp [y, hb5, hb5s])
 cases h
 refine SWp.ret ?_
 simp [thenS, iB, res108]
theorem res91 : Tryz.f91.results.toList = [.tmp 2] := rfl
theorem ent91 : Enters E.P 91 := eO Tryz.func91 (by simp [Tryz.f91]) rfl
theorem spec_NameOk_ok (s1 : ByteArray) {r0 : Bool} (h : spec_NameOk s1 = some r0) : Ok E 91 [.val (vs s1)] [vb r0] [] := by
 refine oB (fn := Tryz.f91) Tryz.func91 rfl (by simp [Tryz.f91]) fun C hN hP => ?_
 have hPB : ∀ l, pinK [] l = true → pinB C.pin l = true := pO (by rw [hP]; rfl)
 have hN' : C.N = 36 := hN
 clear hN
 unfold spec_NameOk at h
 refine SWp.sR rfl (hPB _ rfl) fun K hK => ?_
 refine wC rfl fun K hK => ?_; simp [hN']; refine hK _ ?_; clear hK
 refine wN (hK _ ?_); clear hK
 refine SWp.seq ?_
 obtain ⟨v15, hj2, h⟩ := bS h
 refine SWp.seqRC rfl (hPB _ rfl) [0, 17] [] (fun _ : Unit => ⟨[(0, .t (vs s1)), (17, .t (vb v15))], []⟩) (fun _ => True) (fun _ _ => ?_) fun K3 hK3 => ?_
 rotate_left
 ·refine wC rfl fun K hK => ?_; simp [hN']; refine hK _ ?_; clear hK
  refine wC rfl fun K hK => ?_; simp [hN']; refine hK _ ?_; clear hK
  obtain ⟨r4, hc5, hj2⟩ := bS hj2
  refine wL [(.take, .tmp 5), (.take, .const (.int .i64 1)), (.take, .const (.int .i64 8))] rfl rfl ent51 (spec_l01In_ok _ _ _ hc5) fun K hK => ?_; simp [hN']; refine hK _ ?_; clear hK
  iterate 2 (refine wC rfl fun K hK => ?_; simp [hN']; refine hK _ ?_; clear hK)
  rcases ite_or hj2 with ⟨hb6, hj2⟩ | ⟨hb7, hj2⟩
  ·have hb6s := hb6
   try simp at hb6s
   iterate 4 (refine wO fun K hK => ?_; simp [hN', hb6, hb6s]; refine hK _ ?_; clear hK)
   iterate 2 (refine wC rfl fun K hK => ?_; simp [hN', hb6, hb6s]; refine hK _ ?_; clear hK)
   iterate 2 (refine wO fun K hK => ?_; simp [hN', hb6, hb6s]; refine hK _ ?_; clear hK)
   refine wC rfl fun K hK => ?_; simp [hN', hb6, hb6s]; refine hK _ ?_; clear hK
   refine wN ?_
   cases hj2
   exact hK3 _ () [] trivial (by simp [hN', hb6, hb6s])
  ·have hb7s := hb7
   try simp at hb7s
   refine wC rfl fun K hK => ?_; simp [hN', hb7, hb7s]; refine hK _ ?_; clear hK
   obtain ⟨c8, hc8, hj2⟩ := bS hj2
   obtain ⟨hc8a, hc8b, hc8c⟩ := sAt_some hc8
   have hc8e : 0 < s1.size := by omega
   refine wC rfl fun K hK => ?_; simp [hN', hb7, hb7s, hc8a, hc8b, hc8c, hc8e]; refine hK _ ?_; clear hK
   obtain ⟨r9, hc10, hj2⟩ := bS hj2
   refine wL [(.take, .tmp 10)] rfl rfl ent106 (spec_l03Letter_ok _ hc10) fun K hK => ?_; simp [hN', hb7, hb7s, hc8a, hc8b, hc8c, hc8e]; refine hK _ ?_; clear hK
   iterate 3 (refine wC rfl fun K hK => ?_; simp [hN', hb7, hb7s, hc8a, hc8b, hc8c, hc8e]; refine hK _ ?_; clear hK)
   rcases ite_or hj2 with ⟨hb11, hj2⟩ | ⟨hb12, hj2⟩
   ·have hb11s := hb11
    try simp at hb11s
    iterate 2 (refine wO fun K hK => ?_; simp [hN', hb7, hb7s, hc8a, hc8b, hc8c, hc8e, hb11, hb11s]; refine hK _ ?_; clear hK)
    refine wC rfl fun K hK => ?_; simp [hN', hb7, hb7s, hc8a, hc8b, hc8c, hc8e, hb11, hb11s]; refine hK _ ?_; clear hK
    refine wN ?_
    cases hj2
    exact hK3 _ () [] trivial (by simp [hN', hb7, hb7s, hc8a, hc8b, hc8c, hc8e, hb11, hb11s])
   ·have hb12s := hb12
    try simp at hb12s
    refine wC rfl fun K hK => ?_; simp [hN', hb7, hb7s, hc8a, hc8b, hc8c, hc8e, hb12, hb12s]; refine hK _ ?_; clear hK
    obtain ⟨r13, hc14, hj2⟩ := bS hj2
    refine wL [(.take, .tmp 15)] rfl rfl ent107 (spec_KeyWord_ok _ hc14) fun K hK => ?_; simp [hN', hb7, hb7s, hc8a, hc8b, hc8c, hc8e, hb12, hb12s]; refine hK _ ?_; clear hK
    refine wC rfl fun K hK => ?_; simp [hN', hb7, hb7s, hc8a, hc8b, hc8c, hc8e, hb12, hb12s]; refine hK _ ?_; clear hK
    refine wN ?_
    cases hj2
    exact hK3 _ () [] trivial (by simp [hN', hb7, hb7s, hc8a, hc8b, hc8c, hc8e, hb12, hb12s])
 rcases ite_or h with ⟨hb16, h⟩ | ⟨hb17, h⟩
 ·refine SWp.cT' (b := v15) (by simp) hb16 ?_
  refine SWp.sR rfl (hPB _ rfl) fun K hK => ?_
  refine wC rfl fun K hK => ?_; simp [hN']; refine hK _ ?_; clear hK
  refine wN (hK _ ?_); clear hK
  cases h
  refine SWp.ret ?_
  simp [thenS, iB, res91]
 ·refine SWp.cF' (b := v15) (by simp) hb17 ?_
  refine SWp.skip ?_
  show SWp E C _ _ _
  obtain ⟨j20, hj18, h⟩ := bS h
  refine SWp.seqC [] [] (fun v : Unit => ⟨[], []⟩) (fun v => j20 = Sum.inl v) (fun v hv => ?_) fun K19 hK19 => ?_
  rotate_left
  ·refine SWp.sR rfl (hPB _ rfl) fun K hK => ?_
   refine wC rfl fun K hK => ?_; simp [hN']; refine hK _ ?_; clear hK
   refine wN (hK _ ?_); clear hK
   refine SWp.block ?_
   refine SWp.loopO [] [0, 3] [] (fun v : Int => ⟨[(0, .t (vs s1)), (3, .t (vi v))], []⟩) (spec_NameOk_l1 s1) _ 0 hj18 (by simp [hN']) ?_
   intro g s24 h22 ho23
   obtain ⟨i21, hg⟩ : ∃ y, y = g := ⟨_, rfl⟩
   subst hg
   simp only [spec_NameOk_l1] at h22
   try dsimp only
   refine SWp.seq ?_
   refine SWp.sR rfl (hPB _ rfl) fun K hK => ?_
   iterate 4 (refine wC rfl fun K hK => ?_; simp [hN']; refine hK _ ?_; clear hK)
   refine wN (hK _ ?_); clear hK
   rcases ite_or h22 with ⟨hb25, h22⟩ | ⟨hb26, h22⟩
   ·refine SWp.cT' (b := decide (i21 < (s1.size : Int))) (by simp) hb25 ?_
    refine SWp.skip ?_
    show SWp E C _ _ _
    refine SWp.seq ?_
    refine SWp.block ?_
    obtain ⟨v36, hj27, h22⟩ := bS h22
    refine SWp.seqRC rfl (hPB _ rfl) [0, 3, 35] [] (fun _ : Unit => ⟨[(0, .t (vs s1)), (3, .t (vi i21)), (35, .t (vb v36))], []⟩) (fun _ => True) (fun _ _ => ?_) fun K28 hK28 => ?_
    rotate_left
    ·refine wC rfl fun K hK => ?_; simp [hN']; refine hK _ ?_; clear hK
     refine wC rfl fun K hK => ?_; simp [hN']; refine hK _ ?_; clear hK
     obtain ⟨c29, hc29, hj27⟩ := bS hj27
     obtain ⟨hc29a, hc29b, hc29c⟩ := sAt_some hc29
     refine wC rfl fun K hK => ?_; simp [hN', hc29a, hc29b, hc29c]; refine hK _ ?_; clear hK
     obtain ⟨r30, hc31, hj27⟩ := bS hj27
     refine wL [(.take, .tmp 26)] rfl rfl ent106 (spec_l03Letter_ok _ hc31) fun K hK => ?_; simp [hN', hc29a, hc29b, hc29c]; refine hK _ ?_; clear hK
     iterate 2 (refine wC rfl fun K hK => ?_; simp [hN', hc29a, hc29b, hc29c]; refine hK _ ?_; clear hK)
     rcases ite_or hj27 with ⟨hb32, hj27⟩ | ⟨hb33, hj27⟩
     ·have hb32s := hb32
      try simp at hb32s
      iterate 3 (refine wC rfl fun K hK => ?_; simp [hN', hc29a, hc29b, hc29c, hb32, hb32s]; refine hK _ ?_; clear hK)
      obtain ⟨r34, hc35, hj27⟩ := bS hj27
      refine wL [(.take, .tmp 32)] rfl rfl ent108 (spec_l03Figure_ok _ hc35) fun K hK => ?_; simp [hN', hc29a, hc29b, hc29c, hb32, hb32s]; refine hK _ ?_; clear hK
      iterate 2 (refine wC rfl fun K hK => ?_; simp [hN', hc29a, hc29b, hc29c, hb32, hb32s]; refine hK _ ?_; clear hK)
      refine wN ?_
      cases hj27
      exact hK28 _ () [] trivial (by simp [hN', hc29a, hc29b, hc29c, hb32, hb32s])
     ·have hb33s := hb33
      try simp at hb33s
      iterate 5 (refine wO fun K hK => ?_; simp [hN', hc29a, hc29b, hc29c, hb33, hb33s]; refine hK _ ?_; clear hK)
      refine wC rfl fun K hK => ?_; simp [hN', hc29a, hc29b, hc29c, hb33, hb33s]; refine hK _ ?_; clear hK
      refine wN ?_
      cases hj27
      exact hK28 _ () [] trivial (by simp [hN', hc29a, hc29b, hc29c, hb33, hb33s])
    rcases ite_or h22 with ⟨hb37, h22⟩ | ⟨hb38, h22⟩
    ·refine SWp.cT' (b := v36) (by simp) hb37 ?_
     refine SWp.sR rfl (hPB _ rfl) fun K hK => ?_
     refine wC rfl fun K hK => ?_; simp [hN']; refine hK _ ?_; clear hK
     refine wN (hK _ ?_); clear hK
     have h39 := congrArg some (ho23 _ (Option.some.inj h22).symm)
     cases h39
     try dsimp only at h
     cases h
     refine SWp.ret ?_
     simp [thenS, iB, res91]
    ·refine SWp.cF' (b := v36) (by simp) hb38 ?_
     refine SWp.skip ?_
     show SWp E C _ _ _
     refine SWp.reg rfl (hPB _ rfl) fun K hK => ?_
     iterate 3 (refine wC rfl fun K hK => ?_; simp [hN']; refine hK _ ?_; clear hK)
     refine wN (hK _ ?_); clear hK
     cases h22
     exact ⟨_, [], rfl, by simp [hN']⟩
   ·refine SWp.cF' (b := decide (i21 < (s1.size : Int))) (by simp) hb26 ?_
    refine SWp.exit ?_
    have h40 := congrArg some (ho23 _ (Option.some.inj h22).symm)
    cases h40
    exact hK19 _ _ [] rfl (by simp [hN'])
  subst hv
  obtain ⟨⟩ := v
  try dsimp only at h ⊢
  refine SWp.sR rfl (hPB _ rfl) fun K hK => ?_
  refine wC rfl fun K hK => ?_; simp [hN']; refine hK _ ?_; clear hK
  refine wN (hK _ ?_); clear hK
  cases h
  refine SWp.ret ?_
  simp [thenS, iB, res91]
theorem res103 : Tryz.f103.results.toList = [.tmp 2, .tmp 3] := rfl
theorem ent103 : Enters E.P 103 := eO Tryz.func103 (by simp [Tryz.f103]) rfl
theorem spec_l04Kids_ok (kind1 : Int) {r0 : Int} {r1 : Int} (h : spec_l04Kids kind1 = some (r0, r1)) : Ok E 103 [.val (vi kind1)] [vi r0, vi r1] [] := by
 refine oB (fn := Tryz.f103) Tryz.func103 rfl (by simp [Tryz.f103]) fun C hN hP => ?_
 have u : ∀ l, pinK [] l = true → pinB C.pin l = true := pO (by rw [hP]; rfl)
 have y : C.N = 23 := hN
 clear hN
 unfold spec_l04Kids at h
 refine SWp.sR rfl (u _ rfl) fun K q => ?_
 iterate 2 (refine wC rfl fun K q => ?_; simp [y]; refine q _ ?_; clear q)
 refine wN (q _ ?_); clear q
 refine SWp.seq ?_
 refine SWp.sR rfl (u _ rfl) fun K q => ?_
 refine wC rfl fun K q => ?_; simp [y]; refine q _ ?_; clear q
 refine wN (q _ ?_); clear q
 refine SWp.block ?_
 obtain ⟨v15, hj2, h⟩ := bS h
 refine SWp.seqC [4, 5] [] (fun _ : Unit => ⟨[(4, .t (vi kind1)), (5, .t (vb v15))], []⟩) (fun _ => True) (fun _ _ => ?_) fun K3 hK3 => ?_
 rotate_left
 ·refine SWp.sR rfl (u _ rfl) fun K q => ?_
  iterate 2 (refine wC rfl fun K q => ?_; simp [y]; refine q _ ?_; clear q)
  refine wN (q _ ?_); clear q
  rcases ite_or hj2 with ⟨hb5, hj2⟩ | ⟨hb6, hj2⟩
  ·refine SWp.cT' (b := kind1 == 8) (by simp) hb5 ?_
   refine SWp.skip ?_
   cases hj2
   exact hK3 _ () [] trivial (by simp [y])
  ·refine SWp.cF' (b := kind1 == 8) (by simp) hb6 ?_
   refine SWp.sR rfl (u _ rfl) fun K q => ?_
   iterate 2 (refine wC rfl fun K q => ?_; simp [y]; refine q _ ?_; clear q)
   refine wN (q _ ?_); clear q
   rcases ite_or hj2 with ⟨hb7, hj2⟩ | ⟨hb8, hj2⟩
   ·refine SWp.cT' (b := kind1 == 13) (by simp) hb7 ?_
    refine SWp.skip ?_
    cases hj2
    exact hK3 _ () [] trivial (by simp [y])
   ·refine SWp.cF' (b := kind1 == 13) (by simp) hb8 ?_
    refine SWp.sR rfl (u _ rfl) fun K q => ?_
    iterate 2 (refine wC rfl fun K q => ?_; simp [y]; refine q _ ?_; clear q)
    refine wN (q _ ?_); clear q
    rcases ite_or hj2 with ⟨hb9, hj2⟩ | ⟨hb10, hj2⟩
    ·refine SWp.cT' (b := kind1 == 14) (by simp) hb9 ?_
     refine SWp.skip ?_
     cases hj2
     exact hK3 _ () [] trivial (by simp [y])
    ·refine SWp.cF' (b := kind1 == 14) (by simp) hb10 ?_
     refine SWp.sR rfl (u _ rfl) fun K q => ?_
     iterate 2 (refine wC rfl fun K q => ?_; simp [y]; refine q _ ?_; clear q)
     refine wN (q _ ?_); clear q
     rcases ite_or hj2 with ⟨hb11, hj2⟩ | ⟨hb12, hj2⟩
     ·refine SWp.cT' (b := kind1 == 15) (by simp) hb11 ?_
      refine SWp.skip ?_
      cases hj2
      exact hK3 _ () [] trivial (by simp [y])
     ·refine SWp.cF' (b := kind1 == 15) (by simp) hb12 ?_
      refine SWp.sR rfl (u _ rfl) fun K q => ?_
      iterate 2 (refine wC rfl fun K q => ?_; simp [y]; refine q _ ?_; clear q)
      refine wN (q _ ?_); clear q
      rcases ite_or hj2 with ⟨hb13, hj2⟩ | ⟨hb14, hj2⟩
      ·refine SWp.cT' (b := kind1 == 18) (by simp) hb13 ?_
       refine SWp.skip ?_
       cases hj2
       exact hK3 _ () [] trivial (by simp [y])
      ·refine SWp.cF' (b := kind1 == 18) (by simp) hb14 ?_
       refine SWp.reg rfl (u _ rfl) fun K q => ?_
       iterate 2 (refine wC rfl fun K q => ?_; simp [y]; refine q _ ?_; clear q)
       refine wN (q _ ?_); clear q
       cases hj2
       exact hK3 _ () [] trivial (by simp [y])
 rcases ite_or h with ⟨hb16, h⟩ | ⟨hb17, h⟩
 ·refine SWp.cT' (b := v15) (by simp) hb16 ?_
  refine SWp.sR rfl (u _ rfl) fun K q => ?_
  iterate 2 (refine wC rfl fun K q => ?_; simp [y]; refine q _ ?_; clear q)
  refine wN (q _ ?_); clear q
  cases h
  refine SWp.ret ?_
  simp [thenS, iB, res103]
 ·refine SWp.cF' (b := v15) (by simp) hb17 ?_
  obtain ⟨v27, hj18, h⟩ := bS h
  refine SWp.seqC [4, 12] [] (fun _ : Unit => ⟨[(4, .t (vi kind1)), (12, .t (vb v27))], []⟩) (fun _ => True) (fun _ _ => ?_) fun K19 hK19 => ?_
  rotate_left
  ·refine SWp.sR rfl (u _ rfl) fun K q => ?_
   iterate 2 (refine wC rfl fun K q => ?_; simp [y]; refine q _ ?_; clear q)
   refine wN (q _ ?_); clear q
   rcases ite_or hj18 with ⟨hb21, hj18⟩ | ⟨hb22, hj18⟩
   ·refine SWp.cT' (b := kind1 == 9) (by simp) hb21 ?_
    refine SWp.skip ?_
    cases hj18
    exact hK19 _ () [] trivial (by simp [y])
   ·refine SWp.cF' (b := kind1 == 9) (by simp) hb22 ?_
    refine SWp.sR rfl (u _ rfl) fun K q => ?_
    iterate 2 (refine wC rfl fun K q => ?_; simp [y]; refine q _ ?_; clear q)
    refine wN (q _ ?_); clear q
    rcases ite_or hj18 with ⟨hb23, hj18⟩ | ⟨hb24, hj18⟩
    ·refine SWp.cT' (b := kind1 == 10) (by simp) hb23 ?_
     refine SWp.skip ?_
     cases hj18
     exact hK19 _ () [] trivial (by simp [y])
    ·refine SWp.cF' (b := kind1 == 10) (by simp) hb24 ?_
     refine SWp.sR rfl (u _ rfl) fun K q => ?_
     iterate 2 (refine wC rfl fun K q => ?_; simp [y]; refine q _ ?_; clear q)
     refine wN (q _ ?_); clear q
     rcases ite_or hj18 with ⟨hb25, hj18⟩ | ⟨hb26, hj18⟩
     ·refine SWp.cT' (b := kind1 == 11) (by simp) hb25 ?_
      refine SWp.skip ?_
      cases hj18
      exact hK19 _ () [] trivial (by simp [y])
     ·refine SWp.cF' (b := kind1 == 11) (by simp) hb26 ?_
      refine SWp.reg rfl (u _ rfl) fun K q => ?_
      iterate 2 (refine wC rfl fun K q => ?_; simp [y]; refine q _ ?_; clear q)
      refine wN (q _ ?_); clear q
      cases hj18
      exact hK19 _ () [] trivial (by simp [y])
  rcases ite_or h with ⟨hb28, h⟩ | ⟨hb29, h⟩
  ·refine SWp.cT' (b := v27) (by simp) hb28 ?_
   refine SWp.sR rfl (u _ rfl) fun K q => ?_
   iterate 2 (refine wC rfl fun K q => ?_; simp [y]; refine q _ ?_; clear q)
   refine wN (q _ ?_); clear q
   cases h
   refine SWp.ret ?_
   simp [thenS, iB, res103]
  ·refine SWp.cF' (b := v27) (by simp) hb29 ?_
   refine SWp.sR rfl (u _ rfl) fun K q => ?_
   iterate 2 (refine wC rfl fun K q => ?_; simp [y]; refine q _ ?_; clear q)
   refine wN (q _ ?_); clear q
   rcases ite_or h with ⟨hb30, h⟩ | ⟨hb31, h⟩
   ·refine SWp.cT' (b := kind1 == 12) (by simp) hb30 ?_
    refine SWp.sR rfl (u _ rfl) fun K q => ?_
    iterate 2 (refine wC rfl fun K q => ?_; simp [y]; refine q _ ?_; clear q)
    refine wN (q _ ?_); clear q
    cases h
    refine SWp.ret ?_
    simp [thenS, iB, res103]
   ·refine SWp.cF' (b := kind1 == 12) (by simp) hb31 ?_
    refine SWp.sR rfl (u _ rfl) fun K q => ?_
    iterate 2 (refine wC rfl fun K q => ?_; simp [y]; refine q _ ?_; clear q)
    refine wN (q _ ?_); clear q
    rcases ite_or h with ⟨hb32, h⟩ | ⟨hb33, h⟩
    ·refine SWp.cT' (b := kind1 == 16) (by simp) hb32 ?_
     refine SWp.sR rfl (u _ rfl) fun K q => ?_
     iterate 2 (refine wC rfl fun K q => ?_; simp [y]; refine q _ ?_; clear q)
     refine wN (q _ ?_); clear q
     cases h
     refine SWp.ret ?_
     simp [thenS, iB, res103]
    ·refine SWp.cF' (b := kind1 == 16) (by simp) hb33 ?_
     refine SWp.sR rfl (u _ rfl) fun K q => ?_
     iterate 2 (refine wC rfl fun K q => ?_; simp [y]; refine q _ ?_; clear q)
     refine wN (q _ ?_); clear q
     rcases ite_or h with ⟨hb34, h⟩ | ⟨hb35, h⟩
     ·refine SWp.cT' (b := kind1 == 20) (by simp) hb34 ?_
      refine SWp.sR rfl (u _ rfl) fun K q => ?_
      iterate 2 (refine wC rfl fun K q => ?_; simp [y]; refine q _ ?_; clear q)
      refine wN (q _ ?_); clear q
      cases h
      refine SWp.ret ?_
      simp [thenS, iB, res103]
     ·refine SWp.cF' (b := kind1 == 20) (by simp) hb35 ?_
      refine SWp.skip ?_
      show SWp E C _ _ _
      refine SWp.sR rfl (u _ rfl) fun K q => ?_
      iterate 2 (refine wC rfl fun K q => ?_; simp [y]; refine q _ ?_; clear q)
      refine wN (q _ ?_); clear q
      cases h
      refine SWp.ret ?_
      simp [thenS, iB, res103]
theorem res104 : Tryz.f104.results.toList = [.tmp 2] := rfl
theorem ent104 : Enters E.P 104 := eO Tryz.func104 (by simp [Tryz.f104]) rfl
theorem spec_l04Named_ok (kind1 : Int) {r0 : Bool} (h : spec_l04Named kind1 = some r0) : Ok E 104 [.val (vi kind1)] [vb r0] [] := by
 refine oB (fn := Tryz.f104) Tryz.func104 rfl (by simp [Tryz.f104]) fun C hN hP => ?_
 have u : ∀ l, pinK [] l = true → pinB C.pin l = true := pO (by rw [hP]; rfl)
 have y : C.N = 14 := hN
 clear hN
 unfold spec_l04Named at h
 refine SWp.sR rfl (u _ rfl) fun K q => ?_
 refine wC rfl fun K q => ?_; simp [y]; refine q _ ?_; clear q
 refine wN (q _ ?_); clear q
 refine SWp.seq ?_
 refine SWp.sR rfl (u _ rfl) fun K q => ?_
 refine wC rfl fun K q => ?_; simp [y]; refine q _ ?_; clear q
 refine wN (q _ ?_); clear q
 refine SWp.block ?_
 obtain ⟨v21, hj2, h⟩ := bS h
 refine SWp.seqC [4] [] (fun _ : Unit => ⟨[(4, .t (vb v21))], []⟩) (fun _ => True) (fun _ _ => ?_) fun K3 hK3 => ?_
 rotate_left
 ·refine SWp.sR rfl (u _ rfl) fun K q => ?_
  iterate 2 (refine wC rfl fun K q => ?_; simp [y]; refine q _ ?_; clear q)
  refine wN (q _ ?_); clear q
  rcases ite_or hj2 with ⟨hb5, hj2⟩ | ⟨hb6, hj2⟩
  ·refine SWp.cT' (b := kind1 == 2) (by simp) hb5 ?_
   refine SWp.skip ?_
   cases hj2
   exact hK3 _ () [] trivial (by simp [y])
  ·refine SWp.cF' (b := kind1 == 2) (by simp) hb6 ?_
   refine SWp.sR rfl (u _ rfl) fun K q => ?_
   iterate 2 (refine wC rfl fun K q => ?_; simp [y]; refine q _ ?_; clear q)
   refine wN (q _ ?_); clear q
   rcases ite_or hj2 with ⟨hb7, hj2⟩ | ⟨hb8, hj2⟩
   ·refine SWp.cT' (b := kind1 == 3) (by simp) hb7 ?_
    refine SWp.skip ?_
    cases hj2
    exact hK3 _ () [] trivial (by simp [y])
   ·refine SWp.cF' (b := kind1 == 3) (by simp) hb8 ?_
    refine SWp.sR rfl (u _ rfl) fun K q => ?_
    iterate 2 (refine wC rfl fun K q => ?_; simp [y]; refine q _ ?_; clear q)
    refine wN (q _ ?_); clear q
    rcases ite_or hj2 with ⟨hb9, hj2⟩ | ⟨hb10, hj2⟩
    ·refine SWp.cT' (b := kind1 == 4) (by simp) hb9 ?_
     refine SWp.skip ?_
     cases hj2
     exact hK3 _ () [] trivial (by simp [y])
    ·refine SWp.cF' (b := kind1 == 4) (by simp) hb10 ?_
     refine SWp.sR rfl (u _ rfl) fun K q => ?_
     iterate 2 (refine wC rfl fun K q => ?_; simp [y]; refine q _ ?_; clear q)
     refine wN (q _ ?_); clear q
     rcases ite_or hj2 with ⟨hb11, hj2⟩ | ⟨hb12, hj2⟩
     ·refine SWp.cT' (b := kind1 == 5) (by simp) hb11 ?_
      refine SWp.skip ?_
      cases hj2
      exact hK3 _ () [] trivial (by simp [y])
     ·refine SWp.cF' (b := kind1 == 5) (by simp) hb12 ?_
      refine SWp.sR rfl (u _ rfl) fun K q => ?_
      iterate 2 (refine wC rfl fun K q => ?_; simp [y]; refine q _ ?_; clear q)
      refine wN (q _ ?_); clear q
      rcases ite_or hj2 with ⟨hb13, hj2⟩ | ⟨hb14, hj2⟩
      ·refine SWp.cT' (b := kind1 == 6) (by simp) hb13 ?_
       refine SWp.skip ?_
       cases hj2
       exact hK3 _ () [] trivial (by simp [y])
      ·refine SWp.cF' (b := kind1 == 6) (by simp) hb14 ?_
       refine SWp.sR rfl (u _ rfl) fun K q => ?_
       iterate 2 (refine wC rfl fun K q => ?_; simp [y]; refine q _ ?_; clear q)
       refine wN (q _ ?_); clear q
       rcases ite_or hj2 with ⟨hb15, hj2⟩ | ⟨hb16, hj2⟩
       ·refine SWp.cT' (b := kind1 == 12) (by simp) hb15 ?_
        refine SWp.skip ?_
        cases hj2
        exact hK3 _ () [] trivial (by simp [y])
       ·refine SWp.cF' (b := kind1 == 12) (by simp) hb16 ?_
        refine SWp.sR rfl (u _ rfl) fun K q => ?_
        iterate 2 (refine wC rfl fun K q => ?_; simp [y]; refine q _ ?_; clear q)
        refine wN (q _ ?_); clear q
        rcases ite_or hj2 with ⟨hb17, hj2⟩ | ⟨hb18, hj2⟩
        ·refine SWp.cT' (b := kind1 == 13) (by simp) hb17 ?_
         refine SWp.skip ?_
         cases hj2
         exact hK3 _ () [] trivial (by simp [y])
        ·refine SWp.cF' (b := kind1 == 13) (by simp) hb18 ?_
         refine SWp.sR rfl (u _ rfl) fun K q => ?_
         iterate 2 (refine wC rfl fun K q => ?_; simp [y]; refine q _ ?_; clear q)
         refine wN (q _ ?_); clear q
         rcases ite_or hj2 with ⟨hb19, hj2⟩ | ⟨hb20, hj2⟩
         ·refine SWp.cT' (b := kind1 == 14) (by simp) hb19 ?_
          refine SWp.skip ?_
          cases hj2
          exact hK3 _ () [] trivial (by simp [y])
         ·refine SWp.cF' (b := kind1 == 14) (by simp) hb20 ?_
          refine SWp.reg rfl (u _ rfl) fun K q => ?_
          iterate 2 (refine wC rfl fun K q => ?_; simp [y]; refine q _ ?_; clear q)
          refine wN (q _ ?_); clear q
          cases hj2
          exact hK3 _ () [] trivial (by simp [y])
 rcases ite_or h with ⟨hb22, h⟩ | ⟨hb23, h⟩
 ·refine SWp.cT' (b := v21) (by simp) hb22 ?_
  refine SWp.sR rfl (u _ rfl) fun K q => ?_
  refine wC rfl fun K q => ?_; simp [y]; refine q _ ?_; clear q
  refine wN (q _ ?_); clear q
  cases h
  refine SWp.ret ?_
  simp [thenS, iB, res104]
 ·refine SWp.cF' (b := v21) (by simp) hb23 ?_
  refine SWp.skip ?_
  show SWp E C _ _ _
  refine SWp.sR rfl (u _ rfl) fun K q => ?_
  refine wC rfl fun K q => ?_; simp [y]; refine q _ ?_; clear q
  refine wN (q _ ?_); clear q
  cases h
  refine SWp.ret ?_
  simp [thenS, iB, res104]
theorem res92 : Tryz.f92.results.toList = [.tmp 2] := rfl
theorem ent92 : Enters E.P 92 := eO Tryz.func92 (by simp [Tryz.f92]) rfl
theorem spec_l04Value_ok (kind1 : Int) {r0 : Bool} (h : spec_l04Value kind1 = some r0) : Ok E 92 [.val (vi kind1)] [vb r0] [] := by
 refine oB (fn := Tryz.f92) Tryz.func92 rfl (by simp [Tryz.f92]) fun C hN hP => ?_
 have u : ∀ l, pinK [] l = true → pinB C.pin l = true := pO (by rw [hP]; rfl)
 have y : C.N = 5 := hN
 clear hN
 unfold spec_l04Value at h
 refine SWp.sR rfl (u _ rfl) fun K q => ?_
 refine wC rfl fun K q => ?_; simp [y]; refine q _ ?_; clear q
 refine wN (q _ ?_); clear q
 refine SWp.sR rfl (u _ rfl) fun K q => ?_
 refine wC rfl fun K q => ?_; simp [y]; refine q _ ?_; clear q
 obtain ⟨r2, hc3, h⟩ := bS h
 refine wL [(.take, .tmp 3), (.take, .const (.int .i64 1)), (.take, .const (.int .i64 12))] rfl rfl ent51 (spec_l01In_ok _ _ _ hc3) fun K q => ?_; simp [y]; refine q _ ?_; clear q
 refine wC rfl fun K q => ?_; simp [y]; refine q _ ?_; clear q
 refine wN (q _ ?_); clear q
 cases h
 refine SWp.ret ?_
 simp [thenS, iB, res92]
theorem res124 : Tryz.f124.results.toList = [.tmp 2] := rfl
theorem ent124 : Enters E.P 124 := eO Tryz.func124 (by simp [Tryz.f124]) rfl
theorem spec_l04Statement_ok (kind1 : Int) {r0 : Bool} (h : spec_l04Statement kind1 = some r0) : Ok E 124 [.val (vi kind1)] [vb r0] [] := by
 refine oB (fn := Tryz.f124) Tryz.func124 rfl (by simp [Tryz.f124]) fun C hN hP => ?_
 have u : ∀ l, pinK [] l = true → pinB C.pin l = true := pO (by rw [hP]; rfl)
 have y : C.N = 5 := hN
 clear hN
 unfold spec_l04Statement at h
 refine SWp.sR rfl (u _ rfl) fun K q => ?_
 refine wC rfl fun K q => ?_; simp [y]; refine q _ ?_; clear q
 refine wN (q _ ?_); clear q
 refine SWp.sR rfl (u _ rfl) fun K q => ?_
 refine wC rfl fun K q => ?_; simp [y]; refine q _ ?_; clear q
 obtain ⟨r2, hc3, h⟩ := bS h
 refine wL [(.take, .tmp 3), (.take, .const (.int .i64 13)), (.take, .const (.int .i64 19))] rfl rfl ent51 (spec_l01In_ok _ _ _ hc3) fun K q => ?_; simp [y]; refine q _ ?_; clear q
 refine wC rfl fun K q => ?_; simp [y]; refine q _ ?_; clear q
 refine wN (q _ ?_); clear q
 cases h
 refine SWp.ret ?_
 simp [thenS, iB, res124]
theorem res105 : Tryz.f105.results.toList = [.tmp 6] := rfl
theorem ent105 : Enters E.P 105 := eO Tryz.func105 (by simp [Tryz.f105]) rfl
theorem spec_l04Fits_ok (kind1 : Int) (at2 : Int) (kid3 : Int) {r0 : Bool} (h : spec_l04Fits kind1 at2 kid3 = some r0) : Ok E 105 [.val (vi kind1), .val (vi at2), .val (vi kid3)] [vb r0] [] := by
 refine oB (fn := Tryz.f105) Tryz.func105 rfl (by simp [Tryz.f105]) fun C hN hP => ?_
 have u : ∀ l, pinK [] l = true → pinB C.pin l = true := pO (by rw [hP]; rfl)
 have y : C.N = 25 := hN
 clear hN
 unfold spec_l04Fits at h
 refine SWp.sR rfl (u _ rfl) fun K q => ?_
 refine wC rfl fun K q => ?_; simp [y]; refine q _ ?_; clear q
 refine wN (q _ ?_); clear q
 refine SWp.seq ?_
 refine SWp.sR rfl (u _ rfl) fun K q => ?_
 refine wC rfl fun K q => ?_; simp [y]; refine q _ ?_; clear q
 refine wN (q _ ?_); clear q
 refine SWp.block ?_
 refine SWp.sR rfl (u _ rfl) fun K q => ?_
 iterate 2 (refine wC rfl fun K q => ?_; simp [y]; refine q _ ?_; clear q)
 refine wN (q _ ?_); clear q
 rcases ite_or h with ⟨hb4, h⟩ | ⟨hb5, h⟩
 ·refine SWp.cT' (b := kind1 == 20) (by simp) hb4 ?_
  refine SWp.sR rfl (u _ rfl) fun K q => ?_
  refine wC rfl fun K q => ?_; simp [y]; refine q _ ?_; clear q
  obtain ⟨r6, hc7, h⟩ := bS h
  refine wL [(.take, .tmp 10)] rfl rfl ent124 (spec_l04Statement_ok _ hc7) fun K q => ?_; simp [y]; refine q _ ?_; clear q
  refine wC rfl fun K q => ?_; simp [y]; refine q _ ?_; clear q
  refine wN (q _ ?_); clear q
  cases h
  refine SWp.ret ?_
  simp [thenS, iB, res105]
 ·refine SWp.cF' (b := kind1 == 20) (by simp) hb5 ?_
  obtain ⟨v13, hj8, h⟩ := bS h
  refine SWp.seqC [1, 2, 7, 12] [] (fun _ : Unit => ⟨[(1, .t (vi at2)), (2, .t (vi kid3)), (7, .t (vi kind1)), (12, .t (vb v13))], []⟩) (fun _ => True) (fun _ _ => ?_) fun K9 hK9 => ?_
  rotate_left
  ·refine SWp.sR rfl (u _ rfl) fun K q => ?_
   iterate 2 (refine wC rfl fun K q => ?_; simp [y]; refine q _ ?_; clear q)
   refine wN (q _ ?_); clear q
   rcases ite_or hj8 with ⟨hb11, hj8⟩ | ⟨hb12, hj8⟩
   ·refine SWp.cT' (b := kind1 == 16) (by simp) hb11 ?_
    refine SWp.skip ?_
    cases hj8
    exact hK9 _ () [] trivial (by simp [y])
   ·refine SWp.cF' (b := kind1 == 16) (by simp) hb12 ?_
    refine SWp.reg rfl (u _ rfl) fun K q => ?_
    iterate 2 (refine wC rfl fun K q => ?_; simp [y]; refine q _ ?_; clear q)
    refine wN (q _ ?_); clear q
    cases hj8
    exact hK9 _ () [] trivial (by simp [y])
  rcases ite_or h with ⟨hb14, h⟩ | ⟨hb15, h⟩
  ·refine SWp.cT' (b := v13) (by simp) hb14 ?_
   refine SWp.sR rfl (u _ rfl) fun K q => ?_
   iterate 2 (refine wC rfl fun K q => ?_; simp [y]; refine q _ ?_; clear q)
   refine wN (q _ ?_); clear q
   rcases ite_or h with ⟨hb16, h⟩ | ⟨hb17, h⟩
   ·refine SWp.cT' (b := decide (at2 > 0)) (by simp) hb16 ?_
    refine SWp.sR rfl (u _ rfl) fun K q => ?_
    iterate 3 (refine wC rfl fun K q => ?_; simp [y]; refine q _ ?_; clear q)
    refine wN (q _ ?_); clear q
    cases h
    refine SWp.ret ?_
    simp [thenS, iB, res105]
   ·refine SWp.cF' (b := decide (at2 > 0)) (by simp) hb17 ?_
    refine SWp.skip ?_
    show SWp E C _ _ _
    refine SWp.sR rfl (u _ rfl) fun K q => ?_
    refine wC rfl fun K q => ?_; simp [y]; refine q _ ?_; clear q
    obtain ⟨r18, hc19, h⟩ := bS h
    refine wL [(.take, .tmp 23)] rfl rfl ent92 (spec_l04Value_ok _ hc19) fun K q => ?_; simp [y]; refine q _ ?_; clear q
    refine wC rfl fun K q => ?_; simp [y]; refine q _ ?_; clear q
    refine wN (q _ ?_); clear q
    cases h
    refine SWp.ret ?_
    simp [thenS, iB, res105]
  ·refine SWp.cF' (b := v13) (by simp) hb15 ?_
   refine SWp.sR rfl (u _ rfl) fun K q => ?_
   iterate 2 (refine wC rfl fun K q => ?_; simp [y]; refine q _ ?_; clear q)
   refine wN (q _ ?_); clear q
   rcases ite_or h with ⟨hb20, h⟩ | ⟨hb21, h⟩
   ·refine SWp.cT' (b := kind1 == 19) (by simp) hb20 ?_
    refine SWp.sR rfl (u _ rfl) fun K q => ?_
    iterate 3 (refine wC rfl fun K q => ?_; simp [y]; refine q _ ?_; clear q)
    refine wN (q _ ?_); clear q
    cases h
    refine SWp.ret ?_
    simp [thenS, iB, res105]
   ·refine SWp.cF' (b := kind1 == 19) (by simp) hb21 ?_
    refine SWp.skip ?_
    show SWp E C _ _ _
    refine SWp.sR rfl (u _ rfl) fun K q => ?_
    refine wC rfl fun K q => ?_; simp [y]; refine q _ ?_; clear q
    obtain ⟨r22, hc23, h⟩ := bS h
    refine wL [(.take, .tmp 23)] rfl rfl ent92 (spec_l04Value_ok _ hc23) fun K q => ?_; simp [y]; refine q _ ?_; clear q
    refine wC rfl fun K q => ?_; simp [y]; refine q _ ?_; clear q
    refine wN (q _ ?_); clear q
    cases h
    refine SWp.ret ?_
    simp [thenS, iB, res105]
end Go.Proofs.T
set_option maxHeartbeats 8000000
namespace Go.Proofs.T
open Go.OM
theorem res90 : Tryz.f90.results.toList = [.tmp 4] := rfl
theorem ent90 : Enters E.P 90 := eO Tryz.func90 (by simp [Tryz.f90]) rfl
theorem spec_NodeOk_ok (nodes1 : List GNode) (k2 : Int) {r0 : Bool} (h : spec_NodeOk nodes1 k2 = some r0) : Ok E 90 [.val (.sl false 4 (List.map (GNode.enc false) nodes1)), .val (vi k2)] [vb r0] [] := by
 refine oB (fn := Tryz.f90) Tryz.func90 rfl (by simp [Tryz.f90]) fun C hN hP => ?_
 have hPB : ∀ l, pinK [] l = true → pinB C.pin l = true := pO (by rw [hP]; rfl)
 have hN' : C.N = 124 := hN
 clear hN
 unfold spec_NodeOk at h
 refine SWp.sR rfl (hPB _ rfl) fun K hK => ?_
 refine wC rfl fun K hK => ?_; simp [hN']; refine hK _ ?_; clear hK
 refine wN (hK _ ?_); clear hK
 refine SWp.seq ?_
 obtain ⟨v12, hj3, h⟩ := bS h
 refine SWp.seqRC rfl (hPB _ rfl) [0, 1, 24] [] (fun _ : Unit => ⟨[(0, .t (.sl false 4 (List.map (GNode.enc false) nodes1))), (1, .t (vi k2)), (24, .t (vb v12))], []⟩) (fun _ => True) (fun _ _ => ?_) fun K4 hK4 => ?_
 rotate_left
 ·refine wC rfl fun K hK => ?_; simp [hN']; refine hK _ ?_; clear hK
  iterate 3 (refine wC rfl fun K hK => ?_; simp [hN']; refine hK _ ?_; clear hK)
  obtain ⟨r5, hc6, hj3⟩ := bS hj3
  refine wL [(.take, .tmp 10), (.take, .const (.int .i64 0)), (.take, .tmp 13)] rfl rfl ent51 (spec_l01In_ok _ _ _ hc6) fun K hK => ?_; simp [hN']; refine hK _ ?_; clear hK
  iterate 2 (refine wC rfl fun K hK => ?_; simp [hN']; refine hK _ ?_; clear hK)
  rcases ite_or hj3 with ⟨hb7, hj3⟩ | ⟨hb8, hj3⟩
  ·have hb7s := hb7
   try simp at hb7s
   iterate 7 (refine wO fun K hK => ?_; simp [hN', hb7, hb7s]; refine hK _ ?_; clear hK)
   refine wC rfl fun K hK => ?_; simp [hN', hb7, hb7s]; refine hK _ ?_; clear hK
   refine wN ?_
   cases hj3
   exact hK4 _ () [] trivial (by simp [hN', hb7, hb7s])
  ·have hb8s := hb8
   try simp at hb8s
   iterate 2 (refine wC rfl fun K hK => ?_; simp [hN', hb8, hb8s]; refine hK _ ?_; clear hK)
   obtain ⟨e9, he9, hj3⟩ := bS hj3
   obtain ⟨he9a, he9b, he9c, he9d⟩ := gS he9
   iterate 3 (refine wC rfl fun K hK => ?_; simp [hN', hb8, hb8s, he9a, he9b, he9c, he9d]; refine hK _ ?_; clear hK)
   obtain ⟨r10, hc11, hj3⟩ := bS hj3
   refine wL [(.take, .tmp 21), (.take, .const (.int .i64 1)), (.take, .const (.int .i64 20))] rfl rfl ent51 (spec_l01In_ok _ _ _ hc11) fun K hK => ?_; simp [hN', hb8, hb8s, he9a, he9b, he9c, he9d]; refine hK _ ?_; clear hK
   iterate 2 (refine wC rfl fun K hK => ?_; simp [hN', hb8, hb8s, he9a, he9b, he9c, he9d]; refine hK _ ?_; clear hK)
   refine wN ?_
   cases hj3
   exact hK4 _ () [] trivial (by simp [hN', hb8, hb8s, he9a, he9b, he9c, he9d])
 rcases ite_or h with ⟨hb13, h⟩ | ⟨hb14, h⟩
 ·refine SWp.cT' (b := v12) (by simp) hb13 ?_
  refine SWp.sR rfl (hPB _ rfl) fun K hK => ?_
  refine wC rfl fun K hK => ?_; simp [hN']; refine hK _ ?_; clear hK
  refine wN (hK _ ?_); clear hK
  cases h
  refine SWp.ret ?_
  simp [thenS, iB, res90]
 ·refine SWp.cF' (b := v12) (by simp) hb14 ?_
  refine SWp.skip ?_
  show SWp E C _ _ _
  refine SWp.sR rfl (hPB _ rfl) fun K hK => ?_
  iterate 2 (refine wC rfl fun K hK => ?_; simp [hN']; refine hK _ ?_; clear hK)
  obtain ⟨e15, he15, h⟩ := bS h
  obtain ⟨he15a, he15b, he15c, he15d⟩ := gS he15
  iterate 4 (refine wC rfl fun K hK => ?_; simp [hN', he15a, he15b, he15c, he15d]; refine hK _ ?_; clear hK)
  refine wN (hK _ ?_); clear hK
  refine SWp.sR rfl (hPB _ rfl) fun K hK => ?_
  iterate 2 (refine wC rfl fun K hK => ?_; simp [hN']; refine hK _ ?_; clear hK)
  obtain ⟨⟨r16, r17⟩, hc18, h⟩ := bS h
  try dsimp only at h
  refine wL [(.take, .tmp 31)] rfl rfl ent103 (spec_l04Kids_ok _ hc18) fun K hK => ?_; simp [hN']; refine hK _ ?_; clear hK
  iterate 5 (refine wC rfl fun K hK => ?_; simp [hN']; refine hK _ ?_; clear hK)
  refine wN (hK _ ?_); clear hK
  refine SWp.seq ?_
  obtain ⟨v31, hj19, h⟩ := bS h
  refine SWp.seqRC rfl (hPB _ rfl) [0, 1, 5, 57] [5] (fun _ : Unit => ⟨[(0, .t (.sl false 4 (List.map (GNode.enc false) nodes1))), (1, .t (vi k2)), (5, .ref (.box 5) 0 []), (57, .t (vb v31))], [(5, [vi e15.Kind, vi e15.Num, vs e15.Name, .sl false 1 (List.map vi e15.Kids)])]⟩) (fun _ => True) (fun _ _ => ?_) fun K20 hK20 => ?_
  rotate_left
  ·refine wC rfl fun K hK => ?_; simp [hN']; refine hK _ ?_; clear hK
   iterate 4 (refine wC rfl fun K hK => ?_; simp [hN']; refine hK _ ?_; clear hK)
   obtain ⟨r21, hc22, hj19⟩ := bS hj19
   refine wL [(.take, .tmp 37), (.take, .tmp 38), (.take, .tmp 39)] rfl rfl ent51 (spec_l01In_ok _ _ _ hc22) fun K hK => ?_; simp [hN']; refine hK _ ?_; clear hK
   iterate 2 (refine wC rfl fun K hK => ?_; simp [hN']; refine hK _ ?_; clear hK)
   rcases ite_or hj19 with ⟨hb23, hj19⟩ | ⟨hb24, hj19⟩
   ·have hb23s := hb23
    try simp at hb23s
    iterate 4 (refine wO fun K hK => ?_; simp [hN', hb23, hb23s]; refine hK _ ?_; clear hK)
    iterate 2 (refine wC rfl fun K hK => ?_; simp [hN', hb23, hb23s]; refine hK _ ?_; clear hK)
    iterate 8 (refine wO fun K hK => ?_; simp [hN', hb23, hb23s]; refine hK _ ?_; clear hK)
    refine wC rfl fun K hK => ?_; simp [hN', hb23, hb23s]; refine hK _ ?_; clear hK
    refine wN ?_
    cases hj19
    exact hK20 _ () [] trivial (by simp [hN', hb23, hb23s])
   ·have hb24s := hb24
    try simp at hb24s
    iterate 2 (refine wC rfl fun K hK => ?_; simp [hN', hb24, hb24s]; refine hK _ ?_; clear hK)
    obtain ⟨r25, hc26, hj19⟩ := bS hj19
    refine wL [(.take, .tmp 44), (.take, .const (.int .i64 0)), (.take, .const (.int .i64 1000000000))] rfl rfl ent51 (spec_l01In_ok _ _ _ hc26) fun K hK => ?_; simp [hN', hb24, hb24s]; refine hK _ ?_; clear hK
    iterate 3 (refine wC rfl fun K hK => ?_; simp [hN', hb24, hb24s]; refine hK _ ?_; clear hK)
    rcases ite_or hj19 with ⟨hb27, hj19⟩ | ⟨hb28, hj19⟩
    ·have hb27s := hb27
     try simp at hb27s
     iterate 8 (refine wO fun K hK => ?_; simp [hN', hb24, hb24s, hb27, hb27s]; refine hK _ ?_; clear hK)
     refine wC rfl fun K hK => ?_; simp [hN', hb24, hb24s, hb27, hb27s]; refine hK _ ?_; clear hK
     refine wN ?_
     cases hj19
     exact hK20 _ () [] trivial (by simp [hN', hb24, hb24s, hb27, hb27s])
    ·have hb28s := hb28
     try simp at hb28s
     iterate 4 (refine wC rfl fun K hK => ?_; simp [hN', hb24, hb24s, hb28, hb28s]; refine hK _ ?_; clear hK)
     rcases ite_or hj19 with ⟨hb29, hj19⟩ | ⟨hb30, hj19⟩
     ·have hb29s := hb29
      try simp at hb29s
      iterate 5 (refine wC rfl fun K hK => ?_; simp [hN', hb24, hb24s, hb28, hb28s, hb29, hb29s]; refine hK _ ?_; clear hK)
      refine wN ?_
      cases hj19
      exact hK20 _ () [] trivial (by simp [hN', hb24, hb24s, hb28, hb28s, hb29, hb29s])
     ·have hb30s := hb30
      try simp at hb30s
      iterate 3 (refine wO fun K hK => ?_; simp [hN', hb24, hb24s, hb28, hb28s, hb30, hb30s]; refine hK _ ?_; clear hK)
      iterate 2 (refine wC rfl fun K hK => ?_; simp [hN', hb24, hb24s, hb28, hb28s, hb30, hb30s]; refine hK _ ?_; clear hK)
      refine wN ?_
      cases hj19
      exact hK20 _ () [] trivial (by simp [hN', hb24, hb24s, hb28, hb28s, hb30, hb30s])
  rcases ite_or h with ⟨hb32, h⟩ | ⟨hb33, h⟩
  ·refine SWp.cT' (b := v31) (by simp) hb32 ?_
   refine SWp.sR rfl (hPB _ rfl) fun K hK => ?_
   refine wC rfl fun K hK => ?_; simp [hN']; refine hK _ ?_; clear hK
   refine wN (hK _ ?_); clear hK
   cases h
   refine SWp.ret ?_
   simp [thenS, iB, res90]
  ·refine SWp.cF' (b := v31) (by simp) hb33 ?_
   refine SWp.skip ?_
   show SWp E C _ _ _
   refine SWp.seq ?_
   obtain ⟨v44, hj34, h⟩ := bS h
   refine SWp.seqC [0, 1, 5, 75] [5] (fun _ : Unit => ⟨[(0, .t (.sl false 4 (List.map (GNode.enc false) nodes1))), (1, .t (vi k2)), (5, .ref (.box 5) 0 []), (75, .t (vb v44))], [(5, [vi e15.Kind, vi e15.Num, vs e15.Name, .sl false 1 (List.map vi e15.Kids)])]⟩) (fun _ => True) (fun _ _ => ?_) fun K35 hK35 => ?_
   rotate_left
   ·obtain ⟨r36, hc37, hj34⟩ := bS hj34
    refine SWp.dT rfl (hPB _ rfl) [(58, .ref (.box 5) 0 []), (59, .t (vi e15.Kind)), (60, .t (vb r36)), (61, .ref (.box 5) 2 []), (62, .t (vs e15.Name)), (63, .t (vb (!(sEq e15.Name (⟨#[]⟩ : ByteArray)))))] [[], [0], [0, 1], [], [3], [3, 4], [0, 1, 2, 3, 4, 5], [0, 1, 2, 3, 4, 5, 6], [0, 1, 2, 3, 4, 5, 6, 7], [0, 1, 2, 3, 4, 5, 6, 7, 8], [0, 1, 2, 3, 4, 5, 6, 7, 8, 9], [0, 1, 2, 3, 4, 5, 6, 7, 8, 9, 10], [0, 1, 2, 3, 4, 5, 6, 7, 8, 9, 10, 11], [0, 1, 2, 3, 4, 5, 6, 7, 8, 9, 10, 11, 12], [0, 1, 2, 3, 4, 5, 6, 7, 8, 9, 10, 11, 12, 13], [0, 1, 2, 3, 4, 5, 6, 7, 8, 9, 10, 11, 12, 13, 14], [0, 1, 2, 3, 4, 5, 6, 7, 8, 9, 10, 11, 12, 13, 14, 15], [0, 1, 2, 3, 4, 5, 6, 7, 8, 9, 10, 11, 12, 13, 14, 15, 16]] (by simp) (by simp) (by simp [look]) rfl rfl rfl ?_ fun K hK => ?_
    ·refine ⟨?_, ?_, ?_, ?_, ?_, ?_, trivial⟩
     all_goals (intro τ hbx hb hd hf K hK; try simp [vsAt] at hd; simp [vsAt] at hf; first | (refine wC rfl fun K' hK' => ?_; simp [hN', hbx, hb, hd, hf]; exact hK' _ (wN (hK _ (by simp [vsAt, hbx])))) | (refine wL [(.take, .tmp 59)] rfl rfl ent104 (spec_l04Named_ok _ hc37) fun K' hK' => ?_; simp [hN', hbx, hb, hd, hf]; exact hK' _ (wN (hK _ (by simp [vsAt, hbx])))))
    iterate 2 (refine wC rfl fun K hK => ?_; simp [hN']; refine hK _ ?_; clear hK)
    rcases ite_or hj34 with ⟨hb38, hj34⟩ | ⟨hb39, hj34⟩
    ·have hb38s := hb38
     try simp at hb38s
     iterate 9 (refine wO fun K hK => ?_; simp [hN', hb38, hb38s]; refine hK _ ?_; clear hK)
     refine wC rfl fun K hK => ?_; simp [hN', hb38, hb38s]; refine hK _ ?_; clear hK
     refine wN (hK _ ?_); clear hK
     cases hj34
     exact hK35 _ () [] trivial (by simp [hN', hb38, hb38s])
    ·have hb39s := hb39
     try simp at hb39s
     iterate 4 (refine wC rfl fun K hK => ?_; simp [hN', hb39, hb39s]; refine hK _ ?_; clear hK)
     rcases ite_or hj34 with ⟨hb40, hj34⟩ | ⟨hb41, hj34⟩
     ·have hb40s := hb40
      try simp at hb40s
      iterate 2 (refine wC rfl fun K hK => ?_; simp [hN', hb39, hb39s, hb40, hb40s]; refine hK _ ?_; clear hK)
      obtain ⟨r42, hc43, hj34⟩ := bS hj34
      refine wL [(.take, .tmp 71)] rfl rfl ent91 (spec_NameOk_ok _ hc43) fun K hK => ?_; simp [hN', hb39, hb39s, hb40, hb40s]; refine hK _ ?_; clear hK
      iterate 3 (refine wC rfl fun K hK => ?_; simp [hN', hb39, hb39s, hb40, hb40s]; refine hK _ ?_; clear hK)
      refine wN (hK _ ?_); clear hK
      cases hj34
      exact hK35 _ () [] trivial (by simp [hN', hb39, hb39s, hb40, hb40s])
     ·have hb41s := hb41
      try simp at hb41s
      iterate 4 (refine wO fun K hK => ?_; simp [hN', hb39, hb39s, hb41, hb41s]; refine hK _ ?_; clear hK)
      iterate 2 (refine wC rfl fun K hK => ?_; simp [hN', hb39, hb39s, hb41, hb41s]; refine hK _ ?_; clear hK)
      refine wN (hK _ ?_); clear hK
      cases hj34
      exact hK35 _ () [] trivial (by simp [hN', hb39, hb39s, hb41, hb41s])
   rcases ite_or h with ⟨hb45, h⟩ | ⟨hb46, h⟩
   ·refine SWp.cT' (b := v44) (by simp) hb45 ?_
    refine SWp.sR rfl (hPB _ rfl) fun K hK => ?_
    refine wC rfl fun K hK => ?_; simp [hN']; refine hK _ ?_; clear hK
    refine wN (hK _ ?_); clear hK
    cases h
    refine SWp.ret ?_
    simp [thenS, iB, res90]
   ·refine SWp.cF' (b := v44) (by simp) hb46 ?_
    refine SWp.skip ?_
    show SWp E C _ _ _
    obtain ⟨j49, hj47, h⟩ := bS h
    refine SWp.seqC [] [] (fun v : Unit => ⟨[], []⟩) (fun v => j49 = Sum.inl v) (fun v hv => ?_) fun K48 hK48 => ?_
    rotate_left
    ·refine SWp.sR rfl (hPB _ rfl) fun K hK => ?_
     refine wC rfl fun K hK => ?_; simp [hN']; refine hK _ ?_; clear hK
     refine wN (hK _ ?_); clear hK
     refine SWp.block ?_
     refine SWp.loopO [] [0, 1, 5, 8] [5] (fun v : Int => ⟨[(0, .t (.sl false 4 (List.map (GNode.enc false) nodes1))), (1, .t (vi k2)), (5, .ref (.box 5) 0 []), (8, .t (vi v))], [(5, [vi e15.Kind, vi e15.Num, vs e15.Name, .sl false 1 (List.map vi e15.Kids)])]⟩) (spec_NodeOk_l1 nodes1 k2 e15) _ 0 hj47 (by simp [hN']) ?_
     intro g s53 h51 ho52
     obtain ⟨i50, hg⟩ : ∃ y, y = g := ⟨_, rfl⟩
     subst hg
     simp only [spec_NodeOk_l1] at h51
     try dsimp only
     refine SWp.seq ?_
     refine SWp.sR rfl (hPB _ rfl) fun K hK => ?_
     iterate 5 (refine wC rfl fun K hK => ?_; simp [hN']; refine hK _ ?_; clear hK)
     refine wN (hK _ ?_); clear hK
     rcases ite_or h51 with ⟨hb54, h51⟩ | ⟨hb55, h51⟩
     ·refine SWp.cT' (b := decide (i50 < (e15.Kids.length : Int))) (by simp) hb54 ?_
      refine SWp.skip ?_
      show SWp E C _ _ _
      obtain ⟨j58, hj56, h51⟩ := bS h51
      refine SWp.seqC [0, 1, 5, 8] [5] (fun v : Unit => ⟨[(0, .t (.sl false 4 (List.map (GNode.enc false) nodes1))), (1, .t (vi k2)), (5, .ref (.box 5) 0 []), (8, .t (vi i50))], [(5, [vi e15.Kind, vi e15.Num, vs e15.Name, .sl false 1 (List.map vi e15.Kids)])]⟩) (fun v => j58 = Sum.inl v) (fun v hv => ?_) fun K57 hK57 => ?_
      rotate_left
      ·refine SWp.block ?_
       refine SWp.seq ?_
       obtain ⟨v69, hj59, hj56⟩ := bS hj56
       refine SWp.seqC [0, 1, 5, 8, 107] [5] (fun _ : Unit => ⟨[(0, .t (.sl false 4 (List.map (GNode.enc false) nodes1))), (1, .t (vi k2)), (5, .ref (.box 5) 0 []), (8, .t (vi i50)), (107, .t (vb v69))], [(5, [vi e15.Kind, vi e15.Num, vs e15.Name, .sl false 1 (List.map vi e15.Kids)])]⟩) (fun _ => True) (fun _ _ => ?_) fun K60 hK60 => ?_
       rotate_left
       ·obtain ⟨e61, he61, hj59⟩ := bS hj59
        obtain ⟨he61a, he61b, he61c, he61d⟩ := gS he61
        obtain ⟨r62, hc63, hj59⟩ := bS hj59
        rcases ite_or hj59 with ⟨hb64, hj59⟩ | ⟨hb65, hj59⟩
        ·have hb64s := hb64
         try simp at hb64s
         refine SWp.dT rfl (hPB _ rfl) [(83, .ref (.box 5) 3 []), (84, .t (.sl false 1 (List.map vi e15.Kids))), (85, .t (vi i50)), (86, .rop [vi e61] 0), (87, .t (vi e61)), (88, .t (vi k2)), (89, .t (vi (IntKind.wrap .i64 (k2 - 1)))), (90, .t (vb r62)), (91, .t (vb (!r62))), (92, .t (vb (!r62))), (93, .tup []), (94, .tup []), (95, .tup []), (96, .tup []), (97, .tup []), (98, .tup []), (99, .tup []), (100, .tup []), (101, .tup []), (102, .tup []), (103, .tup []), (104, .tup [])] [[], [0], [], [0, 1, 2], [0, 1, 2, 3], [], [5], [0, 1, 2, 3, 4, 5, 6], [0, 1, 2, 3, 4, 5, 6, 7], [0, 1, 2, 3, 4, 5, 6, 7, 8], [0, 1, 2, 3, 4, 5, 6, 7, 8, 9], [0, 1, 2, 3, 4, 5, 6, 7, 8, 9, 10], [0, 1, 2, 3, 4, 5, 6, 7, 8, 9], [0, 1, 2, 3, 4, 5, 6, 7, 8, 9], [0, 1, 2, 3, 4, 5, 6, 7, 8, 9], [0, 1, 2, 3, 4, 5, 6, 7, 8, 9, 14], [0, 1, 2, 3, 4, 5, 6, 7, 8, 9], [0, 1, 2, 3, 4, 5, 6, 7, 8, 9, 14, 15, 16], [0, 1, 2, 3, 4, 5, 6, 7, 8, 9, 14, 15, 16, 17], [0, 1, 2, 3, 4, 5, 6, 7, 8, 9, 13, 14, 15, 16, 17, 18], [0, 1, 2, 3, 4, 5, 6, 7, 8, 9, 13, 14, 15, 16, 17, 18, 19], [0, 1, 2, 3, 4, 5, 6, 7, 8, 9, 13, 14, 15, 16, 17, 18, 19, 20], [0, 1, 2, 3, 4, 5, 6, 7, 8, 9, 10, 11, 12, 13, 14, 15, 16, 17, 18, 19, 20, 21], [0, 1, 2, 3, 4, 5, 6, 7, 8, 9, 10, 11, 12, 13, 14, 15, 16, 17, 18, 19, 20, 21, 22], [0, 1, 2, 3, 4, 5, 6, 7, 8, 9, 10, 11, 12, 13, 14, 15, 16, 17, 18, 19, 20, 21, 22, 23]] (by simp) (by simp) (by simp [look]) rfl rfl rfl ?_ fun K hK => ?_
         ·refine ⟨?_, ?_, ?_, ?_, ?_, ?_, ?_, ?_, ?_, ?_, ?_, ?_, ?_, ?_, ?_, ?_, ?_, ?_, ?_, ?_, ?_, ?_, trivial⟩
          all_goals (intro τ hbx hb hd hf K hK; try simp [vsAt] at hd; simp [vsAt] at hf; first | (refine wC rfl fun K' hK' => ?_; simp [hN', hbx, hb, hd, hf, he61a, he61b, he61c, he61d, hb64, hb64s]; exact hK' _ (wN (hK _ (by simp [vsAt, hbx, he61a, he61b, he61c, he61d, hb64, hb64s])))) | (refine wL [(.take, .tmp 87), (.take, .const (.int .i64 0)), (.take, .tmp 89)] rfl rfl ent51 (spec_l01In_ok _ _ _ hc63) fun K' hK' => ?_; simp [hN', hbx, hb, hd, hf, he61a, he61b, he61c, he61d, hb64, hb64s]; exact hK' _ (wN (hK _ (by simp [vsAt, hbx, he61a, he61b, he61c, he61d, hb64, hb64s])))) | (refine wO fun K' hK' => ?_; simp [hN', hbx, hb, hd, hf, he61a, he61b, he61c, he61d, hb64, hb64s]; exact hK' _ (wN (hK _ (by simp [vsAt, hbx, he61a, he61b, he61c, he61d, hb64, hb64s])))))
         iterate 2 (refine wO fun K hK => ?_; simp [hN', he61a, he61b, he61c, he61d, hb64, hb64s]; refine hK _ ?_; clear hK)
         refine wC rfl fun K hK => ?_; simp [hN', he61a, he61b, he61c, he61d, hb64, hb64s]; refine hK _ ?_; clear hK
         refine wN (hK _ ?_); clear hK
         cases hj59
         exact hK60 _ () [] trivial (by simp [hN', he61a, he61b, he61c, he61d, hb64, hb64s])
        ·have hb65s := hb65
         try simp at hb65s
         obtain ⟨e66, he66, hj59⟩ := bS hj59
         obtain ⟨he66a, he66b, he66c, he66d⟩ := gS he66
         refine SWp.dT rfl (hPB _ rfl) [(83, .ref (.box 5) 3 []), (84, .t (.sl false 1 (List.map vi e15.Kids))), (85, .t (vi i50)), (86, .rop [vi e61] 0), (87, .t (vi e61)), (88, .t (vi k2)), (89, .t (vi (IntKind.wrap .i64 (k2 - 1)))), (90, .t (vb r62)), (91, .t (vb (!r62))), (92, .t (vb (!r62))), (93, .ref (.box 5) 0 []), (94, .t (vi e15.Kind)), (95, .t (vi i50)), (96, .t (.sl false 4 (List.map (GNode.enc false) nodes1))), (97, .ref (.box 5) 3 []), (98, .t (.sl false 1 (List.map vi e15.Kids))), (99, .t (vi i50)), (100, .rop [vi e61] 0), (101, .t (vi e61)), (102, .rop [vi e66.Kind, vi e66.Num, vs e66.Name, .sl false 1 (List.map vi e66.Kids)] 0), (103, .rop [vi e66.Kind, vi e66.Num, vs e66.Name, .sl false 1 (List.map vi e66.Kids)] 0), (104, .t (vi e66.Kind))] [[], [0], [], [0, 1, 2], [0, 1, 2, 3], [], [5], [0, 1, 2, 3, 4, 5, 6], [0, 1, 2, 3, 4, 5, 6, 7], [0, 1, 2, 3, 4, 5, 6, 7, 8], [0, 1, 2, 3, 4, 5, 6, 7, 8, 9], [0, 1, 2, 3, 4, 5, 6, 7, 8, 9, 10], [0, 1, 2, 3, 4, 5, 6, 7, 8, 9], [0, 1, 2, 3, 4, 5, 6, 7, 8, 9], [0, 1, 2, 3, 4, 5, 6, 7, 8, 9], [0, 1, 2, 3, 4, 5, 6, 7, 8, 9, 14], [0, 1, 2, 3, 4, 5, 6, 7, 8, 9], [0, 1, 2, 3, 4, 5, 6, 7, 8, 9, 14, 15, 16], [0, 1, 2, 3, 4, 5, 6, 7, 8, 9, 14, 15, 16, 17], [0, 1, 2, 3, 4, 5, 6, 7, 8, 9, 13, 14, 15, 16, 17, 18], [0, 1, 2, 3, 4, 5, 6, 7, 8, 9, 13, 14, 15, 16, 17, 18, 19], [0, 1, 2, 3, 4, 5, 6, 7, 8, 9, 13, 14, 15, 16, 17, 18, 19, 20], [0, 1, 2, 3, 4, 5, 6, 7, 8, 9, 10, 11, 12, 13, 14, 15, 16, 17, 18, 19, 20, 21], [0, 1, 2, 3, 4, 5, 6, 7, 8, 9, 10, 11, 12, 13, 14, 15, 16, 17, 18, 19, 20, 21, 22], [0, 1, 2, 3, 4, 5, 6, 7, 8, 9, 10, 11, 12, 13, 14, 15, 16, 17, 18, 19, 20, 21, 22, 23]] (by simp) (by simp) (by simp [look]) rfl rfl rfl ?_ fun K hK => ?_
         ·refine ⟨?_, ?_, ?_, ?_, ?_, ?_, ?_, ?_, ?_, ?_, ?_, ?_, ?_, ?_, ?_, ?_, ?_, ?_, ?_, ?_, ?_, ?_, trivial⟩
          all_goals (intro τ hbx hb hd hf K hK; try simp [vsAt] at hd; simp [vsAt] at hf; first | (refine wC rfl fun K' hK' => ?_; simp [hN', hbx, hb, hd, hf, he61a, he61b, he61c, he61d, hb65, hb65s, he66a, he66b, he66c, he66d]; exact hK' _ (wN (hK _ (by simp [vsAt, hbx, he61a, he61b, he61c, he61d, hb65, hb65s, he66a, he66b, he66c, he66d])))) | (refine wL [(.take, .tmp 87), (.take, .const (.int .i64 0)), (.take, .tmp 89)] rfl rfl ent51 (spec_l01In_ok _ _ _ hc63) fun K' hK' => ?_; simp [hN', hbx, hb, hd, hf, he61a, he61b, he61c, he61d, hb65, hb65s, he66a, he66b, he66c, he66d]; exact hK' _ (wN (hK _ (by simp [vsAt, hbx, he61a, he61b, he61c, he61d, hb65, hb65s, he66a, he66b, he66c, he66d])))))
         obtain ⟨r67, hc68, hj59⟩ := bS hj59
         refine wL [(.take, .tmp 94), (.take, .tmp 95), (.take, .tmp 104)] rfl rfl ent105 (spec_l04Fits_ok _ _ _ hc68) fun K hK => ?_; simp [hN', he61a, he61b, he61c, he61d, hb65, hb65s, he66a, he66b, he66c, he66d]; refine hK _ ?_; clear hK
         iterate 2 (refine wC rfl fun K hK => ?_; simp [hN', he61a, he61b, he61c, he61d, hb65, hb65s, he66a, he66b, he66c, he66d]; refine hK _ ?_; clear hK)
         refine wN (hK _ ?_); clear hK
         cases hj59
         exact hK60 _ () [] trivial (by simp [hN', he61a, he61b, he61c, he61d, hb65, hb65s, he66a, he66b, he66c, he66d])
       rcases ite_or hj56 with ⟨hb70, hj56⟩ | ⟨hb71, hj56⟩
       ·refine SWp.cT' (b := v69) (by simp) hb70 ?_
        refine SWp.sR rfl (hPB _ rfl) fun K hK => ?_
        refine wC rfl fun K hK => ?_; simp [hN']; refine hK _ ?_; clear hK
        refine wN (hK _ ?_); clear hK
        cases hj56
        try dsimp only at h51
        have h72 := congrArg some (ho52 _ (Option.some.inj h51).symm)
        cases h72
        try dsimp only at h
        cases h
        refine SWp.ret ?_
        simp [thenS, iB, res90]
       ·refine SWp.cF' (b := v69) (by simp) hb71 ?_
        refine SWp.skip ?_
        show SWp E C _ _ _
        refine SWp.sR rfl (hPB _ rfl) fun K hK => ?_
        refine wC rfl fun K hK => ?_; simp [hN']; refine hK _ ?_; clear hK
        refine wN (hK _ ?_); clear hK
        refine SWp.block ?_
        refine SWp.loopO [] [0, 1, 5, 8, 9] [5] (fun v : Int => ⟨[(0, .t (.sl false 4 (List.map (GNode.enc false) nodes1))), (1, .t (vi k2)), (5, .ref (.box 5) 0 []), (8, .t (vi i50)), (9, .t (vi v))], [(5, [vi e15.Kind, vi e15.Num, vs e15.Name, .sl false 1 (List.map vi e15.Kids)])]⟩) (spec_NodeOk_l2 e15 i50) _ 0 hj56 (by simp [hN']) ?_
        intro g s76 h74 ho75
        obtain ⟨j73, hg⟩ : ∃ y, y = g := ⟨_, rfl⟩
        subst hg
        simp only [spec_NodeOk_l2] at h74
        try dsimp only
        refine SWp.seq ?_
        refine SWp.sR rfl (hPB _ rfl) fun K hK => ?_
        iterate 3 (refine wC rfl fun K hK => ?_; simp [hN']; refine hK _ ?_; clear hK)
        refine wN (hK _ ?_); clear hK
        rcases ite_or h74 with ⟨hb77, h74⟩ | ⟨hb78, h74⟩
        ·refine SWp.cT' (b := decide (j73 < i50)) (by simp) hb77 ?_
         refine SWp.skip ?_
         show SWp E C _ _ _
         refine SWp.seq ?_
         refine SWp.block ?_
         refine SWp.seq ?_
         obtain ⟨e80, he80, h74⟩ := bS h74
         obtain ⟨he80a, he80b, he80c, he80d⟩ := gS he80
         obtain ⟨e81, he81, h74⟩ := bS h74
         obtain ⟨he81a, he81b, he81c, he81d⟩ := gS he81
         refine SWp.dT rfl (hPB _ rfl) [(113, .ref (.box 5) 3 []), (114, .t (.sl false 1 (List.map vi e15.Kids))), (115, .t (vi i50)), (116, .rop [vi e80] 0), (117, .t (vi e80)), (118, .ref (.box 5) 3 []), (119, .t (.sl false 1 (List.map vi e15.Kids))), (120, .t (vi j73)), (121, .rop [vi e81] 0), (122, .t (vi e81))] [[], [0], [], [0, 1, 2], [0, 1, 2, 3], [], [5], [], [5, 6, 7], [5, 6, 7, 8], [0, 1, 2, 3, 4, 5, 6, 7, 8, 9]] (by simp) (by simp) (by simp [look]) rfl rfl rfl ?_ fun K hK => ?_
         ·refine ⟨?_, ?_, ?_, ?_, ?_, ?_, ?_, ?_, ?_, ?_, trivial⟩
          all_goals (intro τ hbx hb hd hf K hK; try simp [vsAt] at hd; simp [vsAt] at hf; first | (refine wC rfl fun K' hK' => ?_; simp [hN', hbx, hb, hd, hf, he80a, he80b, he80c, he80d, he81a, he81b, he81c, he81d]; exact hK' _ (wN (hK _ (by simp [vsAt, hbx, he80a, he80b, he80c, he80d, he81a, he81b, he81c, he81d])))))
         refine wC rfl fun K hK => ?_; simp [hN', he80a, he80b, he80c, he80d, he81a, he81b, he81c, he81d]; refine hK _ ?_; clear hK
         refine wN (hK _ ?_); clear hK
         show SWp E C _ _ _
         rcases ite_or h74 with ⟨hb82, h74⟩ | ⟨hb83, h74⟩
         ·refine SWp.cT' (b := e80 == e81) (by simp) hb82 ?_
          refine SWp.sR rfl (hPB _ rfl) fun K hK => ?_
          refine wC rfl fun K hK => ?_; simp [hN']; refine hK _ ?_; clear hK
          refine wN (hK _ ?_); clear hK
          have h84 := congrArg some (ho75 _ (Option.some.inj h74).symm)
          cases h84
          try dsimp only at h51
          have h85 := congrArg some (ho52 _ (Option.some.inj h51).symm)
          cases h85
          try dsimp only at h
          cases h
          refine SWp.ret ?_
          simp [thenS, iB, res90]
         ·refine SWp.cF' (b := e80 == e81) (by simp) hb83 ?_
          refine SWp.skip ?_
          show SWp E C _ _ _
          refine SWp.reg rfl (hPB _ rfl) fun K hK => ?_
          iterate 3 (refine wC rfl fun K hK => ?_; simp [hN']; refine hK _ ?_; clear hK)
          refine wN (hK _ ?_); clear hK
          cases h74
          exact ⟨_, [], rfl, by simp [hN']⟩
        ·refine SWp.cF' (b := decide (j73 < i50)) (by simp) hb78 ?_
         refine SWp.exit ?_
         have h86 := congrArg some (ho75 _ (Option.some.inj h74).symm)
         cases h86
         exact hK57 _ _ [] rfl (by simp [hN'])
      subst hv
      obtain ⟨⟩ := v
      try dsimp only at h51 ⊢
      refine SWp.reg rfl (hPB _ rfl) fun K hK => ?_
      iterate 3 (refine wC rfl fun K hK => ?_; simp [hN']; refine hK _ ?_; clear hK)
      refine wN (hK _ ?_); clear hK
      cases h51
      exact ⟨_, [], rfl, by simp [hN']⟩
     ·refine SWp.cF' (b := decide (i50 < (e15.Kids.length : Int))) (by simp) hb55 ?_
      refine SWp.exit ?_
      have h87 := congrArg some (ho52 _ (Option.some.inj h51).symm)
      cases h87
      exact hK48 _ _ [] rfl (by simp [hN'])
    subst hv
    obtain ⟨⟩ := v
    try dsimp only at h ⊢
    refine SWp.sR rfl (hPB _ rfl) fun K hK => ?_
    refine wC rfl fun K hK => ?_; simp [hN']; refine hK _ ?_; clear hK
    refine wN (hK _ ?_); clear hK
    cases h
    refine SWp.ret ?_
    simp [thenS, iB, res90]
end Go.Proofs.T
