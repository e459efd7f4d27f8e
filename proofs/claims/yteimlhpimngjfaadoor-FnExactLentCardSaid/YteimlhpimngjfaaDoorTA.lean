import Derived.Test.YteimlhpimngjfaaDoorOmC
import Derived.Lib.Split
import Derived.Lib.ItoaNum
import Derived.Test.YteimlhpimngjfaaDoorProg
import Derived.KernelRfl
import Derived.Shelf.Utf8.RuneCount
import Derived.Shelf.Strings.Search1
import Derived.Shelf.Strings.Search2
import Derived.Shelf.Strings.Search3
import Derived.Shelf.Strings.Count
import Derived.Shelf.LaysM
import Derived.Shelf.Strings.Shaped
import Derived.Shelf.Strings.Split
import Derived.Shelf.Unicode.DecodeSlow
import Derived.Shelf.Unicode.DecodeAny
set_option linter.unusedVariables false
set_option linter.unusedSimpArgs false
set_option linter.unusedVariables false
noncomputable section
namespace Go.OM
def strings_Split (s sep : ByteArray) : Option (List ByteArray) := if s.size < 4294967281 ∧ 1 ≤ sep.size ∧ (Lib.splitB sep 0 (Lib.countB s sep) s).length = Lib.countB s sep + 1 then some (Lib.splitB sep 0 (Lib.countB s sep) s) else none
end Go.OM
end
set_option linter.unusedSimpArgs false
namespace Go.OM
abbrev vi (n : Int) : T := .v (.int .i64 n)
abbrev vk (k : IntKind) (n : Int) : T := .v (.int k n)
abbrev vb (b : Bool) : T := .v (.bool b)
abbrev vs (z : ByteArray) : T := .v (.string z)
abbrev eSl {α : Type} (o : Bool) (s : Nat) (f : α → T) (l : List α) : T := .sl o s (l.map f)
inductive Row where
 | old (p : Nat)
 | row (l : List Bool)
def Row.enc (H : Nat → Value) : Row → T
 | .old p => .v (H p)
 | .row l => .sl false 1 (l.map vb)
@[simp] theorem Row.enc_row (H : Nat → Value) (l : List Bool) : Row.enc H (.row l) = .sl false 1 (l.map vb) := rfl
@[simp] theorem Row.own (H : Nat → Value) (r : Row) : (Row.enc H r).hasOwn = false := by cases r <;> simp [Row.enc, T.hasOwn]; exact hasOwnL_map _ (fun _ => rfl) _
@[simp] theorem Row.ownL (H : Nat → Value) (l : List Row) : T.hasOwnL (l.map (Row.enc H)) = false := hasOwnL_map _ (fun r => Row.own H r) l
@[simp] theorem Row.ro1 (H : Nat → Value) (r : Row) : (Row.enc H r).ro = Row.enc H r := by cases r <;> simp [Row.enc, T.ro]; exact (roL_map' _ _ (fun _ => rfl) _)
@[simp] theorem Row.roL (H : Nat → Value) (l : List Row) : T.roL (l.map (Row.enc H)) = l.map (Row.enc H) := roL_map' _ _ (fun r => Row.ro1 H r) l
@[simp] theorem Row.cells (H : Nat → Value) (r : Row) : (Row.enc H r).cells = [Row.enc H r] := by cases r <;> rfl
@[simp] theorem Row.withCells (H : Nat → Value) (r : Row) (x : T) : (Row.enc H r).withCells [x] = x := by cases r <;> rfl
@[simp] theorem Row.isCell (H : Nat → Value) (r : Row) : (Row.enc H r).isCell = true := by cases r <;> rfl
@[simp] theorem own_vi (l : List Int) : T.hasOwnL (l.map vi) = false := hasOwnL_map vi (fun _ => rfl) l
@[simp] theorem own_vk (k : IntKind) (l : List Int) : T.hasOwnL (l.map (vk k)) = false := hasOwnL_map _ (fun _ => rfl) l
@[simp] theorem own_vb (l : List Bool) : T.hasOwnL (l.map vb) = false := hasOwnL_map _ (fun _ => rfl) l
@[simp] theorem own_vs (l : List ByteArray) : T.hasOwnL (l.map vs) = false := hasOwnL_map _ (fun _ => rfl) l
@[simp] theorem ro_vi (l : List Int) : T.roL (l.map vi) = l.map vi := roL_map' _ _ (fun _ => rfl) l
@[simp] theorem ro_vk (k : IntKind) (l : List Int) : T.roL (l.map (vk k)) = l.map (vk k) := roL_map' _ _ (fun _ => rfl) l
@[simp] theorem ro_vb (l : List Bool) : T.roL (l.map vb) = l.map vb := roL_map' _ _ (fun _ => rfl) l
@[simp] theorem ro_vs (l : List ByteArray) : T.roL (l.map vs) = l.map vs := roL_map' _ _ (fun _ => rfl) l
@[simp] theorem noRo_vi (l : List Int) : T.noRoL (l.map vi) = true := noRoL_map _ (fun _ => rfl) l
@[simp] theorem noRo_vk (k : IntKind) (l : List Int) : T.noRoL (l.map (vk k)) = true := noRoL_map _ (fun _ => rfl) l
@[simp] theorem noRo_vb (l : List Bool) : T.noRoL (l.map vb) = true := noRoL_map _ (fun _ => rfl) l
@[simp] theorem noRo_vs (l : List ByteArray) : T.noRoL (l.map vs) = true := noRoL_map _ (fun _ => rfl) l
@[simp] theorem own_eSl {α : Type} {s : Nat} {f : α → T} (h : ∀ l : List α, T.hasOwnL (l.map f) = false) (l : List (List α)) : T.hasOwnL (l.map (eSl false s f)) = false := hasOwnL_map _ (fun x => by simp [h x]) l
@[simp] theorem ro_eSl {α : Type} {o : Bool} {s : Nat} {f : α → T} (h : ∀ l : List α, T.roL (l.map f) = l.map f) (l : List (List α)) : T.roL (l.map (eSl o s f)) = l.map (eSl false s f) := roL_map' _ _ (fun x => by simp [h x]) l
@[simp] theorem ro_eSl2 {α : Type} {o o' : Bool} {s s' : Nat} {f : α → T} (h : ∀ l : List α, T.roL (l.map f) = l.map f) (l : List (List (List α))) : T.roL (l.map (eSl o s (eSl o' s' f))) = l.map (eSl false s (eSl false s' f)) := roL_map' _ _ (fun x => by simp only [eSl, T.ro]; rw [ro_eSl h]) l
@[simp] theorem noRo_eSl {α : Type} {s : Nat} {f : α → T} (h : ∀ l : List α, T.noRoL (l.map f) = true) (l : List (List α)) : T.noRoL (l.map (eSl true s f)) = true := noRoL_map _ (fun x => by simp [h x]) l
@[simp] theorem bits_i64 : IntKind.bits .i64 = 64 := rfl
@[simp] theorem bits_u32 : IntKind.bits .u32 = 32 := rfl
def remI (x y : Int) : Option Int := if y = 0 then none else some (Int.tmod x y)
theorem remI_some {x y z : Int} (h : remI x y = some z) : y ≠ 0 ∧ Int.tmod x y = z := by
 unfold remI at h
 split at h
 ·cases h
 rename_i hy; injection h with h; exact ⟨hy, h⟩
theorem ite_or {α : Type} {c : Prop} [Decidable c] {a b : Option α} {r : α} (h : (if c then a else b) = some r) : (c ∧ a = some r) ∨ (¬ c ∧ b = some r) := by
 by_cases hc : c
 ·rw [if_pos hc] at h; exact .inl ⟨hc, h⟩
 rw [if_neg hc] at h; exact .inr ⟨hc, h⟩
structure GIns where
 Op : Int
 A : Int
 B : Int
 C : Int
 Num : Int
 Name : ByteArray
 Args : List Int
 deriving DecidableEq
def GIns.enc (o : Bool) (x : GIns) : T := .agg [vi x.Op, vi x.A, vi x.B, vi x.C, vi x.Num, vs x.Name, .sl o 1 (List.map vi x.Args)]
@[simp] theorem GIns.own (x : GIns) : (x.enc false).hasOwn = false := by simp [GIns.enc]
@[simp] theorem GIns.ownT (x : GIns) : (x.enc true).hasOwn = true := by simp [GIns.enc]
@[simp] theorem GIns.ownL (l : List GIns) : T.hasOwnL (l.map (GIns.enc false)) = false := hasOwnL_map _ (fun x => by simp) l
@[simp] theorem GIns.ro1 (o : Bool) (x : GIns) : (x.enc o).ro = x.enc false := by cases o <;> simp [GIns.enc, T.roL_map, Function.comp_def]
@[simp] theorem GIns.roL (o : Bool) (l : List GIns) : T.roL (l.map (GIns.enc o)) = l.map (GIns.enc false) := roL_map' _ _ (fun x => by simp) l
@[simp] theorem GIns.noRo (x : GIns) : (x.enc true).noRo = true := by simp [GIns.enc]
@[simp] theorem GIns.noRoL (l : List GIns) : T.noRoL (l.map (GIns.enc true)) = true := noRoL_map _ (fun x => by simp) l
structure GCode where
 Name : ByteArray
 Params : Int
 Locals : List Int
 Words : List GIns
 deriving DecidableEq
def GCode.enc (o : Bool) (x : GCode) : T := .agg [vs x.Name, vi x.Params, .sl o 1 (List.map vi x.Locals), .sl o 7 (List.map (GIns.enc o) x.Words)]
@[simp] theorem GCode.own (x : GCode) : (x.enc false).hasOwn = false := by simp [GCode.enc]
@[simp] theorem GCode.ownT (x : GCode) : (x.enc true).hasOwn = true := by simp [GCode.enc]
@[simp] theorem GCode.ownL (l : List GCode) : T.hasOwnL (l.map (GCode.enc false)) = false := hasOwnL_map _ (fun x => by simp) l
@[simp] theorem GCode.ro1 (o : Bool) (x : GCode) : (x.enc o).ro = x.enc false := by cases o <;> simp [GCode.enc, T.roL_map, Function.comp_def]
@[simp] theorem GCode.roL (o : Bool) (l : List GCode) : T.roL (l.map (GCode.enc o)) = l.map (GCode.enc false) := roL_map' _ _ (fun x => by simp) l
@[simp] theorem GCode.noRo (x : GCode) : (x.enc true).noRo = true := by simp [GCode.enc]
@[simp] theorem GCode.noRoL (l : List GCode) : T.noRoL (l.map (GCode.enc true)) = true := noRoL_map _ (fun x => by simp) l
structure GLoan where
 At : Int
 Of : Int
 Mut : Bool
 deriving DecidableEq
def GLoan.enc (x : GLoan) : T := .agg [vi x.At, vi x.Of, vb x.Mut]
@[simp] theorem GLoan.own (x : GLoan) : x.enc.hasOwn = false := by simp [GLoan.enc]
@[simp] theorem GLoan.ownL (l : List GLoan) : T.hasOwnL (l.map GLoan.enc) = false := hasOwnL_map _ (fun x => by simp) l
@[simp] theorem GLoan.ro1 (x : GLoan) : x.enc.ro = x.enc := by simp [GLoan.enc]
@[simp] theorem GLoan.roL (l : List GLoan) : T.roL (l.map GLoan.enc) = l.map GLoan.enc := roL_map' _ _ (fun x => by simp) l
@[simp] theorem GLoan.noRo (x : GLoan) : x.enc.noRo = true := by simp [GLoan.enc]
@[simp] theorem GLoan.noRoL (l : List GLoan) : T.noRoL (l.map GLoan.enc) = true := noRoL_map _ (fun x => by simp) l
attribute [simp] GIns.enc GCode.enc GLoan.enc
end Go.OM
noncomputable section
namespace Go.OM
def laws_szIntS (a1 : List Int) (a0 : Int) : Option (Int) :=
 if (decide (IntKind.wrap .i64 (a0 - (a1.length : Int)) < 0)) = true then
  some (-1)
 else
  some (IntKind.wrap .i64 (a0 - (a1.length : Int)))
def laws_szIns (a1 : GIns) (a0 : Int) : Option (Int) :=
 if (decide (IntKind.wrap .i64 (a0 - (a1.Name.size : Int)) < 0)) = true then
  some (-1)
 else
  (laws_szIntS a1.Args (IntKind.wrap .i64 (a0 - (a1.Name.size : Int)))).bind fun r5 =>
  if (decide (r5 < 0)) = true then
   some (-1)
  else
   some r5
def laws_szInsS_l1 (a1 : List GIns) : (Int × Int) → Option ((Int × Int) ⊕ ((Int) ⊕ (Int))) := fun ⟨a0, i9⟩ =>
 if (decide (i9 < (a1.length : Int))) = true then
  (getI a1 i9).bind fun a3 =>
  (laws_szIns a3 a0).bind fun a2 =>
  if (decide (a2 < 0)) = true then
   some (Sum.inr (Sum.inr (-1)))
  else
   some (Sum.inl (a2, IntKind.wrap .i64 (i9 + 1)))
 else
  some (Sum.inr (Sum.inl a0))
def laws_szInsS (a1 : List GIns) (a0 : Int) : Option (Int) :=
 if (decide (IntKind.wrap .i64 (a0 - (a1.length : Int)) < 0)) = true then
  some (-1)
 else
  Option.bind (
   loopP (laws_szInsS_l1 a1) (IntKind.wrap .i64 (a0 - (a1.length : Int)), (0 : Int))) fun j7 =>
  match j7 with
  | Sum.inr z => some z
  | Sum.inl a2 =>
   some a2
def laws_szCode (a1 : GCode) (a0 : Int) : Option (Int) :=
 if (decide (IntKind.wrap .i64 (a0 - (a1.Name.size : Int)) < 0)) = true then
  some (-1)
 else
  (laws_szIntS a1.Locals (IntKind.wrap .i64 (a0 - (a1.Name.size : Int)))).bind fun r5 =>
  if (decide (r5 < 0)) = true then
   some (-1)
  else
   (laws_szInsS a1.Words r5).bind fun r9 =>
   if (decide (r9 < 0)) = true then
    some (-1)
   else
    some r9
def spec_l01In (x1 : Int) (a0 : Int) (a1 : Int) : Option (Bool) :=
 Option.bind (
  if (decide (x1 ≥ a0)) = true then
   some (decide (x1 ≤ a1))
  else
   some false) fun v8 =>
 some v8
def spec_l03Letter (b1 : Int) : Option (Bool) :=
 Option.bind (
  if (decide (b1 ≥ 97)) = true then
   some (decide (b1 ≤ 122))
  else
   some false) fun v6 =>
 some v6
def spec_l03Keys : Option (List ByteArray) :=
 some [(⟨#[102, 110]⟩ : ByteArray), (⟨#[108, 101, 116]⟩ : ByteArray), (⟨#[105, 102]⟩ : ByteArray), (⟨#[101, 108, 115, 101]⟩ : ByteArray), (⟨#[119, 104, 105, 108, 101]⟩ : ByteArray), (⟨#[112, 114, 105, 110, 116]⟩ : ByteArray), (⟨#[100, 111]⟩ : ByteArray), (⟨#[110, 101, 119]⟩ : ByteArray), (⟨#[99, 108, 111, 110, 101]⟩ : ByteArray), (⟨#[109, 117, 116]⟩ : ByteArray), (⟨#[105, 110, 112, 117, 116]⟩ : ByteArray), (⟨#[105, 110, 116]⟩ : ByteArray), (⟨#[98, 111, 120]⟩ : ByteArray), (⟨#[114, 101, 116]⟩ : ByteArray)]
def spec_KeyWord_l1 (s1 : ByteArray) (r2 : List ByteArray) : Int → Option ((Int) ⊕ ((Unit) ⊕ (Bool))) := fun i7 =>
 if (decide (i7 < (r2.length : Int))) = true then
  (getI r2 i7).bind fun a0 =>
  if (sEq a0 s1) = true then
   some (Sum.inr (Sum.inr true))
  else
   some (Sum.inl (IntKind.wrap .i64 (i7 + 1)))
 else
  some (Sum.inr (Sum.inl ()))
def spec_KeyWord (s1 : ByteArray) : Option (Bool) :=
 (spec_l03Keys ).bind fun r2 =>
 Option.bind (
  loopP (spec_KeyWord_l1 s1 r2) (0 : Int)) fun j6 =>
 match j6 with
 | Sum.inr z => some z
 | Sum.inl () =>
  some false
def spec_l03Figure (b1 : Int) : Option (Bool) :=
 Option.bind (
  if (decide (b1 ≥ 48)) = true then
   some (decide (b1 ≤ 57))
  else
   some false) fun v6 =>
 some v6
def spec_NameOk_l1 (s1 : ByteArray) : Int → Option ((Int) ⊕ ((Unit) ⊕ (Bool))) := fun a0 =>
 if (decide (a0 < (s1.size : Int))) = true then
  Option.bind (
   (sAt s1 a0).bind fun a1 =>
   (spec_l03Letter a1).bind fun a2 =>
   if (!a2) = true then
    (spec_l03Figure a1).bind fun a3 =>
    some (!a3)
   else
    some false) fun a4 =>
  if a4 = true then
   some (Sum.inr (Sum.inr false))
  else
   some (Sum.inl (IntKind.wrap .i64 (a0 + 1)))
 else
  some (Sum.inr (Sum.inl ()))
def spec_NameOk (s1 : ByteArray) : Option (Bool) :=
 Option.bind (
  (spec_l01In (s1.size : Int) 1 8).bind fun r4 =>
  if (!r4) = true then
   some true
  else
   (sAt s1 0).bind fun c8 =>
   (spec_l03Letter c8).bind fun r9 =>
   if (!r9) = true then
    some true
   else
    (spec_KeyWord s1).bind fun a0 =>
    some a0) fun a1 =>
 if a1 = true then
  some false
 else
  Option.bind (
   loopP (spec_NameOk_l1 s1) (0 : Int)) fun a2 =>
  match a2 with
  | Sum.inr z => some z
  | Sum.inl () =>
   some true
def spec_l11Place (c1 : GCode) (n2 : Int) : Option (Bool) :=
 (spec_l01In n2 0 (IntKind.wrap .i64 ((c1.Locals.length : Int) - 1))).bind fun r3 =>
 some r3
def spec_l11A (c1 : GCode) (x2 : GIns) : Option (Bool) :=
 Option.bind (
  if (x2.Op == 13) = true then
   some true
  else
   some (x2.Op == 20)) fun v7 =>
 if v7 = true then
  Option.bind (
   if (x2.A == (-1)) = true then
    some true
   else
    (spec_l11Place c1 x2.A).bind fun a0 =>
    some a0) fun a1 =>
  some a1
 else
  if (x2.Op == 18) = true then
   some (x2.A == 0)
  else
   (spec_l11Place c1 x2.A).bind fun a2 =>
   some a2
def spec_l11HasB (a0 : Int) : Option (Bool) :=
 Option.bind (
  (spec_l01In a0 2 7).bind fun r4 =>
  if r4 = true then
   some true
  else
   (spec_l01In a0 9 12).bind fun r8 =>
   if r8 = true then
    some true
   else
    if (a0 == 14) = true then
     some true
    else
     some (a0 == 15)) fun a1 =>
 some a1
def spec_l11HasC (a0 : Int) : Option (Bool) :=
 (spec_l01In a0 10 12).bind fun r2 =>
 some r2
def spec_WordOk_l1 (c1 : GCode) (x2 : GIns) : Int → Option ((Int) ⊕ ((Unit) ⊕ (Bool))) := fun a0 =>
 if (decide (a0 < (x2.Args.length : Int))) = true then
  (getI x2.Args a0).bind fun a1 =>
  (spec_l11Place c1 a1).bind fun a2 =>
  if (!a2) = true then
   some (Sum.inr (Sum.inr false))
  else
   some (Sum.inl (IntKind.wrap .i64 (a0 + 1)))
 else
  some (Sum.inr (Sum.inl ()))
def spec_WordOk (c1 : GCode) (x2 : GIns) : Option (Bool) :=
 Option.bind (
  (spec_l01In x2.Op 1 20).bind fun r5 =>
  if (!r5) = true then
   some true
  else
   (spec_l11A c1 x2).bind fun r9 =>
   some (!r9)) fun a2 =>
 if a2 = true then
  some false
 else
  Option.bind (
   (spec_l11HasB x2.Op).bind fun a3 =>
   if a3 = true then
    (spec_l11Place c1 x2.B).bind fun a4 =>
    if (!a4) = true then
     some true
    else
     (spec_l11HasB x2.Op).bind fun a5 =>
     if (!a5) = true then
      some (x2.B != 0)
     else
      some false
   else
    (spec_l11HasB x2.Op).bind fun a6 =>
    if (!a6) = true then
     some (x2.B != 0)
    else
     some false) fun a7 =>
  if a7 = true then
   some false
  else
   Option.bind (
    (spec_l11HasC x2.Op).bind fun a8 =>
    if a8 = true then
     (spec_l11Place c1 x2.C).bind fun a9 =>
     if (!a9) = true then
      some true
     else
      (spec_l11HasC x2.Op).bind fun b0 =>
      if (!b0) = true then
       some (x2.C != 0)
      else
       some false
    else
     (spec_l11HasC x2.Op).bind fun b1 =>
     if (!b1) = true then
      some (x2.C != 0)
     else
      some false) fun b2 =>
   if b2 = true then
    some false
   else
    Option.bind (
     if (x2.Op == 1) = true then
      (spec_l01In x2.Num 0 1000000000).bind fun b3 =>
      if (!b3) = true then
       some (Sum.inr false)
      else
       some (Sum.inl ())
     else
      Option.bind (
       if (x2.Op == 18) = true then
        some (x2.Op == 18)
       else
        some (x2.Op == 19)) fun b4 =>
      if b4 = true then
       (spec_l01In x2.Num 0 (IntKind.wrap .i64 ((c1.Words.length : Int) - 1))).bind fun b5 =>
       if (!b5) = true then
        some (Sum.inr false)
       else
        some (Sum.inl ())
      else
       if (x2.Num != 0) = true then
        some (Sum.inr false)
       else
        some (Sum.inl ())) fun b6 =>
    match b6 with
    | Sum.inr z => some z
    | Sum.inl () =>
     if (x2.Op != 13) = true then
      Option.bind (
       if (sEq x2.Name (⟨#[]⟩ : ByteArray)) = true then
        some ((x2.Args.length : Int) == 0)
       else
        some false) fun b7 =>
      some b7
     else
      Option.bind (
       loopP (spec_WordOk_l1 c1 x2) (0 : Int)) fun b8 =>
      match b8 with
      | Sum.inr z => some z
      | Sum.inl () =>
       Option.bind (
        (spec_NameOk x2.Name).bind fun a0 =>
        if a0 = true then
         some (decide ((x2.Args.length : Int) ≤ 3))
        else
         some false) fun a1 =>
       some a1
def spec_CodeOk_l1 (c1 : GCode) : Int → Option ((Int) ⊕ ((Unit) ⊕ (Bool))) := fun a0 =>
 if (decide (a0 < (c1.Locals.length : Int))) = true then
  (getI c1.Locals a0).bind fun a1 =>
  (spec_l01In a1 1 4).bind fun a2 =>
  if (!a2) = true then
   some (Sum.inr (Sum.inr false))
  else
   some (Sum.inl (IntKind.wrap .i64 (a0 + 1)))
 else
  some (Sum.inr (Sum.inl ()))
def spec_CodeOk_l2 (c1 : GCode) : Int → Option ((Int) ⊕ ((Unit) ⊕ (Bool))) := fun a0 =>
 if (decide (a0 < (c1.Words.length : Int))) = true then
  (getI c1.Words a0).bind fun a1 =>
  (spec_WordOk c1 a1).bind fun a2 =>
  if (!a2) = true then
   some (Sum.inr (Sum.inr false))
  else
   some (Sum.inl (IntKind.wrap .i64 (a0 + 1)))
 else
  some (Sum.inr (Sum.inl ()))
def spec_CodeOk (c1 : GCode) : Option (Bool) :=
 Option.bind (
  (spec_NameOk c1.Name).bind fun r4 =>
  if (!r4) = true then
   some true
  else
   if (decide ((c1.Locals.length : Int) > 200)) = true then
    some true
   else
    (spec_l01In c1.Params 0 (c1.Locals.length : Int)).bind fun a0 =>
    if (!a0) = true then
     some true
    else
     (spec_l01In (c1.Words.length : Int) 1 400).bind fun a1 =>
     if (!a1) = true then
      some true
     else
      (getI c1.Words (IntKind.wrap .i64 ((c1.Words.length : Int) - 1))).bind fun a2 =>
      some (a2.Op != 20)) fun a3 =>
 if a3 = true then
  some false
 else
  Option.bind (
   loopP (spec_CodeOk_l1 c1) (0 : Int)) fun a4 =>
  match a4 with
  | Sum.inr z => some z
  | Sum.inl () =>
   Option.bind (
    loopP (spec_CodeOk_l2 c1) (0 : Int)) fun a5 =>
   match a5 with
   | Sum.inr z => some z
   | Sum.inl () =>
    some true
def spec_l14Table_l2 (a1 : Int) (a3 : Bool) : ((List Bool) × Int) → Option (((List Bool) × Int) ⊕ (List Bool)) := fun ⟨a0, a2⟩ =>
 if (decide (a2 < a1)) = true then
  (getI a0 a2).bind fun a5 =>
  bindS (List.set a0 a2.toNat a3) fun a4 =>
  some (Sum.inl (a4, IntKind.wrap .i64 (a2 + 1)))
 else
  some (Sum.inr a0)
def spec_l14Table_l1 (a1 : Int) (a0 : Int) (a5 : Bool) : ((List (List Bool)) × Int) → Option (((List (List Bool)) × Int) ⊕ (List (List Bool))) := fun ⟨a2, i8⟩ =>
 if (decide (i8 < a1)) = true then
  Option.bind (
   (mkI 1 a0 false).bind fun a6 =>
   Option.bind (
    loopP (spec_l14Table_l2 a0 a5) (a6, (0 : Int))) fun a3 =>
   (appI 24 a2 [a3]).bind fun a7 =>
   some a7) fun a4 =>
  some (Sum.inl (a4, IntKind.wrap .i64 (i8 + 1)))
 else
  some (Sum.inr a2)
def spec_l14Table (a1 : Int) (a0 : Int) (a3 : Bool) : Option (List (List Bool)) :=
 Option.bind (
  loopP (spec_l14Table_l1 a1 a0 a3) ([], (0 : Int))) fun a2 =>
 some a2
def spec_Writes (x1 : GIns) : Option (Int) :=
 (spec_l01In x1.Op 1 14).bind fun r2 =>
 if r2 = true then
  some x1.A
 else
  some (-1)
def spec_l15Behind_l1 (a0 : List Row) : ((List Row) × Int) → Option (((List Row) × Int) ⊕ (List Row)) := fun ⟨a1, i9⟩ =>
 if (decide (i9 < (a0.length : Int))) = true then
  (getI a0 i9).bind fun a2 =>
  (appI 24 a1 [a2]).bind fun a3 =>
  some (Sum.inl (a3, IntKind.wrap .i64 (i9 + 1)))
 else
  some (Sum.inr a1)
def spec_l15Behind_l2 (a0 : List GLoan) (at3 : Int) : ((List Bool) × Int) → Option (((List Bool) × Int) ⊕ (List Bool)) := fun ⟨a1, a2⟩ =>
 if (decide (a2 < (a0.length : Int))) = true then
  (getI a0 a2).bind fun a3 =>
  (getI a1 a2).bind fun a5 =>
  bindS (List.set a1 a2.toNat (a3.At == at3)) fun a4 =>
  some (Sum.inl (a4, IntKind.wrap .i64 (a2 + 1)))
 else
  some (Sum.inr a1)
def spec_l15Behind_l3 (x2 : GIns) (a3 : List Bool) : ((List Row) × Int) → Option (((List Row) × Int) ⊕ ((List Row) ⊕ (List Row))) := fun ⟨a0, a1⟩ =>
 if (decide (a1 < (x2.Args.length : Int))) = true then
  (getI x2.Args a1).bind fun a2 =>
  (getI a0 a2).bind fun a5 =>
  bindS (List.set a0 a2.toNat (Row.row a3)) fun a4 =>
  some (Sum.inl (a4, IntKind.wrap .i64 (a1 + 1)))
 else
  some (Sum.inr (Sum.inl a0))
def spec_l15Behind (a1 : List GLoan) (x2 : GIns) (at3 : Int) (a2 : List Row) : Option (List Row) :=
 Option.bind (
  loopP (spec_l15Behind_l1 a2) ([], (0 : Int))) fun a0 =>
 (mkI 1 (a1.length : Int) false).bind fun a5 =>
 Option.bind (
  Option.bind (
   if (x2.Op == 6) = true then
    some (x2.Op == 6)
   else
    some (x2.Op == 7)) fun a8 =>
  if a8 = true then
   (mkI 1 (a1.length : Int) false).bind fun a9 =>
   Option.bind (
    loopP (spec_l15Behind_l2 a1 at3) (a9, (0 : Int))) fun a4 =>
   (getI a0 x2.A).bind fun c0 =>
   bindS (List.set a0 x2.A.toNat (Row.row a4)) fun b0 =>
   some (Sum.inr b0)
  else
   if (x2.Op == 2) = true then
    (getI a2 x2.B).bind fun b1 =>
    (getI a0 x2.A).bind fun c1 =>
    bindS (List.set a0 x2.A.toNat b1) fun b2 =>
    some (Sum.inr b2)
   else
    Option.bind (
     if (x2.Op == 3) = true then
      some (x2.Op == 3)
     else
      some (x2.Op == 14)) fun b3 =>
    if b3 = true then
     (getI a0 x2.B).bind fun c2 =>
     bindS (List.set a0 x2.B.toNat (Row.row a5)) fun a6 =>
     (getI a2 x2.B).bind fun b4 =>
     (getI a6 x2.A).bind fun c3 =>
     bindS (List.set a6 x2.A.toNat b4) fun b5 =>
     some (Sum.inr b5)
    else
     if (x2.Op == 13) = true then
      loopP (spec_l15Behind_l3 x2 a5) (a0, (0 : Int))
     else
      if (x2.Op == 17) = true then
       (getI a0 x2.A).bind fun c4 =>
       bindS (List.set a0 x2.A.toNat (Row.row a5)) fun b6 =>
       some (Sum.inl b6)
      else
       some (Sum.inl a0)) fun b7 =>
 match b7 with
 | Sum.inr z => some z
 | Sum.inl a3 =>
  (spec_Writes x2).bind fun b8 =>
  if (decide (b8 ≥ 0)) = true then
   (spec_Writes x2).bind fun a7 =>
   (getI a3 a7).bind fun c5 =>
   bindS (List.set a3 a7.toNat (Row.row a5)) fun b9 =>
   some b9
  else
   some a3
def spec_l11Add_l1 (a0 : List Int) (n2 : Int) : Int → Option ((Int) ⊕ ((Unit) ⊕ (List Int))) := fun i6 =>
 if (decide (i6 < (a0.length : Int))) = true then
  (getI a0 i6).bind fun a1 =>
  if (a1 == n2) = true then
   some (Sum.inr (Sum.inr a0))
  else
   some (Sum.inl (IntKind.wrap .i64 (i6 + 1)))
 else
  some (Sum.inr (Sum.inl ()))
def spec_l11Add (a0 : List Int) (n2 : Int) : Option (List Int) :=
 Option.bind (
  loopP (spec_l11Add_l1 a0 n2) (0 : Int)) fun j5 =>
 match j5 with
 | Sum.inr z => some z
 | Sum.inl () =>
  (appI 8 a0 [n2]).bind fun a1 =>
  some a1
def spec_Next_l1 (c1 : GCode) (a0 : List Int) : ((List Int) × Int) → Option (((List Int) × Int) ⊕ (List Int)) := fun ⟨a1, a2⟩ =>
 if (decide (a2 < (a0.length : Int))) = true then
  (getI a0 a2).bind fun a3 =>
  (spec_l01In a3 0 (IntKind.wrap .i64 ((c1.Words.length : Int) - 1))).bind fun a4 =>
  if a4 = true then
   (getI a0 a2).bind fun a5 =>
   (spec_l11Add a1 a5).bind fun a6 =>
   some (Sum.inl (a6, IntKind.wrap .i64 (a2 + 1)))
  else
   some (Sum.inl (a1, IntKind.wrap .i64 (a2 + 1)))
 else
  some (Sum.inr a1)
def spec_Next (c1 : GCode) (i2 : Int) : Option (List Int) :=
 (spec_l01In i2 0 (IntKind.wrap .i64 ((c1.Words.length : Int) - 1))).bind fun r3 =>
 if (!r3) = true then
  some []
 else
  (getI c1.Words i2).bind fun e7 =>
  Option.bind (
   if (e7.Op == 20) = true then
    some []
   else
    if (e7.Op == 18) = true then
     some [e7.Num]
    else
     if (e7.Op == 19) = true then
      some [IntKind.wrap .i64 (i2 + 1), e7.Num]
     else
      some [IntKind.wrap .i64 (i2 + 1)]) fun a0 =>
  Option.bind (
   loopP (spec_Next_l1 c1 a0) ([], (0 : Int))) fun a1 =>
  some a1
def rowV (ts : List (List (List Bool))) : Row → List Bool
 | .old p => (ts.flatten[p]?).getD []
 | .row l => l
def rowsAt (ts : List (List (List Bool))) (i : Int) : List Row := (List.range' (ts.take i.toNat).flatten.length ((ts[i.toNat]?).getD []).length).map Row.old
def holdsM6 (loans : List GLoan) (behind : List Row) (list : List Int) (k j : Int) : ((List (List (List Bool))) × Bool × Int) → Option (((List (List (List Bool))) × Bool × Int) ⊕ ((List (List (List Bool))) × Bool)) := fun ⟨out, a0, n⟩ =>
 if (decide (n < (loans.length : Int))) = true then
  (getI behind j).bind fun e =>
  (getI (rowV out e) n).bind fun b =>
  if b = true then
   (getI list k).bind fun t =>
   (getI out t).bind fun a =>
   (getI a j).bind fun r =>
   (getI r n).bind fun b2 =>
   if (!b2) = true then
    some (Sum.inl (out.set t.toNat (a.set j.toNat (r.set n.toNat true)), true, IntKind.wrap .i64 (n + 1)))
   else
    some (Sum.inl (out, a0, IntKind.wrap .i64 (n + 1)))
  else
   some (Sum.inl (out, a0, IntKind.wrap .i64 (n + 1)))
 else
  some (Sum.inr (out, a0))
def holdsM5 (c : GCode) (loans : List GLoan) (behind : List Row) (list : List Int) (k : Int) : ((List (List (List Bool))) × Bool × Int) → Option (((List (List (List Bool))) × Bool × Int) ⊕ ((List (List (List Bool))) × Bool)) := fun ⟨out, a0, j⟩ =>
 if (decide (j < (c.Locals.length : Int))) = true then
  (loopP (holdsM6 loans behind list k j) (out, a0, 0)).bind fun v =>
  some (Sum.inl (v.1, v.2, IntKind.wrap .i64 (j + 1)))
 else
  some (Sum.inr (out, a0))
def holdsM4 (c : GCode) (loans : List GLoan) (behind : List Row) (list : List Int) : ((List (List (List Bool))) × Bool × Int) → Option (((List (List (List Bool))) × Bool × Int) ⊕ ((List (List (List Bool))) × Bool)) := fun ⟨out, a0, k⟩ =>
 if (decide (k < (list.length : Int))) = true then
  (loopP (holdsM5 c loans behind list k) (out, a0, 0)).bind fun v =>
  some (Sum.inl (v.1, v.2, IntKind.wrap .i64 (k + 1)))
 else
  some (Sum.inr (out, a0))
def holdsM3 (c : GCode) (loans : List GLoan) (reached : List Bool) : ((List (List (List Bool))) × Bool × Int) → Option (((List (List (List Bool))) × Bool × Int) ⊕ ((List (List (List Bool))) × Bool)) := fun ⟨out, a0, i⟩ =>
 if (decide (i < (c.Words.length : Int))) = true then
  (getI reached i).bind fun b =>
  if (!b) = true then
   some (Sum.inl (out, a0, IntKind.wrap .i64 (i + 1)))
  else
   (getI c.Words i).bind fun x =>
   (getI out i).bind fun a =>
   (spec_l15Behind loans x i (rowsAt out i)).bind fun behind =>
   (spec_Next c i).bind fun list =>
   (loopP (holdsM4 c loans behind list) (out, a0, 0)).bind fun v =>
   some (Sum.inl (v.1, v.2, IntKind.wrap .i64 (i + 1)))
 else
  some (Sum.inr (out, a0))
def holdsM2 (c : GCode) (loans : List GLoan) (reached : List Bool) : ((List (List (List Bool))) × Bool × Int) → Option (((List (List (List Bool))) × Bool × Int) ⊕ (List (List (List Bool)))) := fun ⟨out, a0, round⟩ =>
 if a0 = true then
  if (decide (round ≤ IntKind.wrap .i64 ((IntKind.wrap .i64 ((c.Words.length : Int) * (c.Locals.length : Int))) * (IntKind.wrap .i64 ((loans.length : Int) + 1))))) = true then
   (loopP (holdsM3 c loans reached) (out, false, 0)).bind fun v =>
   some (Sum.inl (v.1, v.2, IntKind.wrap .i64 (round + 1)))
  else
   some (Sum.inr out)
 else
  some (Sum.inr out)
def holdsM1 (c1 : GCode) (a0 : List GLoan) : ((List (List (List Bool))) × Int) → Option (((List (List (List Bool))) × Int) ⊕ (List (List (List Bool)))) := fun ⟨a1, i8⟩ =>
 if (decide (i8 < (c1.Words.length : Int))) = true then
  (spec_l14Table (c1.Locals.length : Int) (a0.length : Int) false).bind fun a2 =>
  (appI 24 a1 [a2]).bind fun a3 =>
  some (Sum.inl (a3, IntKind.wrap .i64 (i8 + 1)))
 else
  some (Sum.inr a1)
def spec_l15Holds (c1 : GCode) (a0 : List GLoan) (a1 : List Bool) : Option (List (List (List Bool))) :=
 (loopP (holdsM1 c1 a0) ([], (0 : Int))).bind fun a2 =>
 loopP (holdsM2 c1 a0 a1) (a2, true, 0)
def spec_LoansOf_l1 (c1 : GCode) : ((List GLoan) × Int) → Option (((List GLoan) × Int) ⊕ (List GLoan)) := fun ⟨a0, a1⟩ =>
 if (decide (a1 < (c1.Words.length : Int))) = true then
  (getI c1.Words a1).bind fun a2 =>
  Option.bind (
   if (a2.Op == 6) = true then
    some true
   else
    some (a2.Op == 7)) fun a3 =>
  if a3 = true then
   (appI 24 a0 [(⟨a1, a2.B, a2.Op == 7⟩ : GLoan)]).bind fun a4 =>
   some (Sum.inl (a4, IntKind.wrap .i64 (a1 + 1)))
  else
   some (Sum.inl (a0, IntKind.wrap .i64 (a1 + 1)))
 else
  some (Sum.inr a0)
def spec_LoansOf (c1 : GCode) : Option (List GLoan) :=
 (spec_CodeOk c1).bind fun r2 =>
 if (!r2) = true then
  some []
 else
  Option.bind (
   loopP (spec_LoansOf_l1 c1) ([], (0 : Int))) fun a0 =>
  some a0
def spec_l14Reached_l2 (a3 : List Int) : ((List Bool) × (List Int) × Int) → Option (((List Bool) × (List Int) × Int) ⊕ (((List Bool) × (List Int)) ⊕ (List Bool))) := fun ⟨a0, a1, a2⟩ =>
 if (decide (a2 < (a3.length : Int))) = true then
  (getI a3 a2).bind fun a5 =>
  (getI a0 a5).bind fun a6 =>
  if (!a6) = true then
   (getI a3 a2).bind fun a4 =>
   (getI a0 a4).bind fun b0 =>
   bindS (List.set a0 a4.toNat true) fun a7 =>
   (getI a3 a2).bind fun a8 =>
   (appI 8 a1 [a8]).bind fun a9 =>
   some (Sum.inl (a7, a9, IntKind.wrap .i64 (a2 + 1)))
  else
   some (Sum.inl (a0, a1, IntKind.wrap .i64 (a2 + 1)))
 else
  some (Sum.inr (Sum.inl (a0, a1)))
def spec_l14Reached_l1 (c1 : GCode) : ((List Bool) × (List Int)) → Option (((List Bool) × (List Int)) ⊕ (List Bool)) := fun ⟨a1, a0⟩ =>
 if (decide ((a0.length : Int) > 0)) = true then
  (getI a0 (IntKind.wrap .i64 ((a0.length : Int) - 1))).bind fun a2 =>
  (subI a0 0 (IntKind.wrap .i64 ((a0.length : Int) - 1))).bind fun a3 =>
  (spec_Next c1 a2).bind fun a4 =>
  loopP (spec_l14Reached_l2 a4) (a1, a3, (0 : Int))
 else
  some (Sum.inr a1)
def spec_l14Reached (c1 : GCode) : Option (List Bool) :=
 (mkI 1 (c1.Words.length : Int) false).bind fun l2 =>
 (getI l2 0).bind fun e3 =>
 bindS (List.set l2 0 true) fun l4 =>
 Option.bind (
  loopP (spec_l14Reached_l1 c1) (l4, [0])) fun a0 =>
 some a0
def laws_toIntS_l1 (a1 : List Int) : ((List Int) × Int) → Option (((List Int) × Int) ⊕ (List Int)) := fun ⟨a0, i7⟩ =>
 if (decide (i7 < (a1.length : Int))) = true then
  (getI a1 i7).bind fun a2 =>
  (getI a0 i7).bind fun a4 =>
  bindS (List.set a0 i7.toNat a2) fun a3 =>
  some (Sum.inl (a3, IntKind.wrap .i64 (i7 + 1)))
 else
  some (Sum.inr a0)
def laws_toIntS (a1 : List Int) : Option (List Int) :=
 (mkI 8 (a1.length : Int) 0).bind fun l2 =>
 Option.bind (
  loopP (laws_toIntS_l1 a1) (l2, (0 : Int))) fun a0 =>
 some a0
def laws_toIns (a1 : GIns) : Option (GIns) :=
 (laws_toIntS a1.Args).bind fun r2 =>
 some (⟨a1.Op, a1.A, a1.B, a1.C, a1.Num, a1.Name, r2⟩ : GIns)
def laws_toInsS_l1 (a1 : List GIns) : ((List GIns) × Int) → Option (((List GIns) × Int) ⊕ (List GIns)) := fun ⟨a0, i7⟩ =>
 if (decide (i7 < (a1.length : Int))) = true then
  (getI a1 i7).bind fun a2 =>
  (laws_toIns a2).bind fun a3 =>
  (getI a0 i7).bind fun a5 =>
  bindS (List.set a0 i7.toNat a3) fun a4 =>
  some (Sum.inl (a4, IntKind.wrap .i64 (i7 + 1)))
 else
  some (Sum.inr a0)
def laws_toInsS (a1 : List GIns) : Option (List GIns) :=
 (mkI 80 (a1.length : Int) (⟨0, 0, 0, 0, 0, ByteArray.empty, []⟩ : GIns)).bind fun l2 =>
 Option.bind (
  loopP (laws_toInsS_l1 a1) (l2, (0 : Int))) fun a0 =>
 some a0
def laws_toCode (a1 : GCode) : Option (GCode) :=
 (laws_toIntS a1.Locals).bind fun r2 =>
 (laws_toInsS a1.Words).bind fun r4 =>
 some (⟨a1.Name, a1.Params, r2, r4⟩ : GCode)
def impl_in (n1 : Int) (a1 : Int) (a0 : Int) : Option (Bool) :=
 Option.bind (
  if (decide (n1 ≥ a1)) = true then
   some (decide (n1 ≤ a0))
  else
   some false) fun v8 =>
 some v8
def impl_isLetter (b1 : Int) : Option (Bool) :=
 Option.bind (
  if (decide (b1 ≥ 97)) = true then
   some (decide (b1 ≤ 122))
  else
   some false) fun v6 =>
 some v6
def impl_isFigure (b1 : Int) : Option (Bool) :=
 Option.bind (
  if (decide (b1 ≥ 48)) = true then
   some (decide (b1 ≤ 57))
  else
   some false) fun v6 =>
 some v6
def impl_oneOf_l1 (s1 : ByteArray) (r6 : List ByteArray) : Int → Option ((Int) ⊕ ((Unit) ⊕ (Bool))) := fun v8 =>
 if (decide (v8 < (r6.length : Int))) = true then
  (getI r6 v8).bind fun a0 =>
  if (sEq a0 s1) = true then
   some (Sum.inr (Sum.inr true))
  else
   some (Sum.inl (IntKind.wrap .i64 (v8 + 1)))
 else
  some (Sum.inr (Sum.inl ()))
def impl_oneOf (s1 : ByteArray) (a0 : ByteArray) : Option (Bool) :=
 Option.bind (
  (strings_Split a0 (⟨#[32]⟩ : ByteArray)).bind fun r6 =>
  loopP (impl_oneOf_l1 s1 r6) (0 : Int)) fun j5 =>
 match j5 with
 | Sum.inr z => some z
 | Sum.inl () =>
  some false
def impl_KeyWord (s1 : ByteArray) : Option (Bool) :=
 (impl_oneOf s1 (⟨#[102, 110, 32, 108, 101, 116, 32, 105, 102, 32, 101, 108, 115, 101, 32, 119, 104, 105, 108, 101, 32, 112, 114, 105, 110, 116, 32, 100, 111, 32, 110, 101, 119, 32, 99, 108, 111, 110, 101, 32, 109, 117, 116, 32, 105, 110, 112, 117, 116, 32, 105, 110, 116, 32, 98, 111, 120, 32, 114, 101, 116]⟩ : ByteArray)).bind fun r2 =>
 some r2
def impl_NameOk_l1 (s1 : ByteArray) : Int → Option ((Int) ⊕ ((Unit) ⊕ (Bool))) := fun a0 =>
 if (decide (a0 < (s1.size : Int))) = true then
  Option.bind (
   (sAt s1 a0).bind fun a1 =>
   (impl_isLetter a1).bind fun a2 =>
   if (!a2) = true then
    (impl_isFigure a1).bind fun a3 =>
    some (!a3)
   else
    some false) fun a4 =>
  if a4 = true then
   some (Sum.inr (Sum.inr false))
  else
   some (Sum.inl (IntKind.wrap .i64 (a0 + 1)))
 else
  some (Sum.inr (Sum.inl ()))
def impl_NameOk (s1 : ByteArray) : Option (Bool) :=
 Option.bind (
  (impl_in (s1.size : Int) 1 8).bind fun r4 =>
  if (!r4) = true then
   some true
  else
   (sAt s1 0).bind fun c8 =>
   (impl_isLetter c8).bind fun r9 =>
   some (!r9)) fun a0 =>
 if a0 = true then
  some false
 else
  Option.bind (
   loopP (impl_NameOk_l1 s1) (0 : Int)) fun a1 =>
  match a1 with
  | Sum.inr z => some z
  | Sum.inl () =>
   (impl_KeyWord s1).bind fun a2 =>
   some (!a2)
def impl_isPlace (c1 : GCode) (n2 : Int) (a0 : Bool) : Option (Bool) :=
 if a0 = true then
  (impl_in n2 0 (IntKind.wrap .i64 ((c1.Locals.length : Int) - 1))).bind fun r6 =>
  some r6
 else
  some (n2 == 0)
def impl_hasA (a0 : Int) : Option (Bool) :=
 Option.bind (
  (impl_in a0 1 17).bind fun r4 =>
  if r4 = true then
   some true
  else
   if (a0 == 19) = true then
    some true
   else
    some (a0 == 20)) fun a1 =>
 some a1
def impl_hasB (a0 : Int) : Option (Bool) :=
 Option.bind (
  (impl_in a0 2 7).bind fun r4 =>
  if r4 = true then
   some true
  else
   (impl_in a0 9 12).bind fun r8 =>
   if r8 = true then
    some true
   else
    if (a0 == 14) = true then
     some true
    else
     some (a0 == 15)) fun a1 =>
 some a1
def impl_hasC (a0 : Int) : Option (Bool) :=
 (impl_in a0 10 12).bind fun r2 =>
 some r2
def impl_WordOk_l1 (c1 : GCode) (x2 : GIns) : Int → Option ((Int) ⊕ ((Unit) ⊕ (Bool))) := fun a0 =>
 if (decide (a0 < (x2.Args.length : Int))) = true then
  (getI x2.Args a0).bind fun a1 =>
  (impl_isPlace c1 a1 true).bind fun a2 =>
  if (!a2) = true then
   some (Sum.inr (Sum.inr false))
  else
   some (Sum.inl (IntKind.wrap .i64 (a0 + 1)))
 else
  some (Sum.inr (Sum.inl ()))
def impl_WordOk (c1 : GCode) (x2 : GIns) : Option (Bool) :=
 (impl_in x2.Op 1 20).bind fun r3 =>
 if (!r3) = true then
  some false
 else
  Option.bind (
   if (x2.Op == 13) = true then
    some (x2.A == (-1))
   else
    if (x2.Op == 20) = true then
     some (x2.A == (-1))
    else
     some false) fun a0 =>
  Option.bind (
   if (!a0) = true then
    (impl_hasA x2.Op).bind fun a2 =>
    (impl_isPlace c1 x2.A a2).bind fun a3 =>
    if (!a3) = true then
     some true
    else
     (impl_hasB x2.Op).bind fun a4 =>
     (impl_isPlace c1 x2.B a4).bind fun a5 =>
     if (!a5) = true then
      some true
     else
      (impl_hasC x2.Op).bind fun a6 =>
      (impl_isPlace c1 x2.C a6).bind fun a7 =>
      some (!a7)
   else
    (impl_hasB x2.Op).bind fun a8 =>
    (impl_isPlace c1 x2.B a8).bind fun a9 =>
    if (!a9) = true then
     some true
    else
     (impl_hasC x2.Op).bind fun b0 =>
     (impl_isPlace c1 x2.C b0).bind fun b1 =>
     some (!b1)) fun b2 =>
  if b2 = true then
   some false
  else
   Option.bind (
    if (x2.Op == 1) = true then
     some (1000000000 : Int)
    else
     Option.bind (
      if (x2.Op == 18) = true then
       some (x2.Op == 18)
      else
       some (x2.Op == 19)) fun b3 =>
     if b3 = true then
      some (IntKind.wrap .i64 ((c1.Words.length : Int) - 1))
     else
      some (0 : Int)) fun a1 =>
   (impl_in x2.Num 0 a1).bind fun b4 =>
   if (!b4) = true then
    some false
   else
    if (x2.Op != 13) = true then
     Option.bind (
      if (sEq x2.Name (⟨#[]⟩ : ByteArray)) = true then
       some ((x2.Args.length : Int) == 0)
      else
       some false) fun b5 =>
     some b5
    else
     Option.bind (
      loopP (impl_WordOk_l1 c1 x2) (0 : Int)) fun b6 =>
     match b6 with
     | Sum.inr z => some z
     | Sum.inl () =>
      Option.bind (
       (impl_NameOk x2.Name).bind fun b7 =>
       if b7 = true then
        some (decide ((x2.Args.length : Int) ≤ 3))
       else
        some false) fun b8 =>
      some b8
def impl_CodeOk_l1 (c1 : GCode) : Int → Option ((Int) ⊕ ((Unit) ⊕ (Bool))) := fun a0 =>
 if (decide (a0 < (c1.Locals.length : Int))) = true then
  (getI c1.Locals a0).bind fun a1 =>
  (impl_in a1 1 4).bind fun a2 =>
  if (!a2) = true then
   some (Sum.inr (Sum.inr false))
  else
   some (Sum.inl (IntKind.wrap .i64 (a0 + 1)))
 else
  some (Sum.inr (Sum.inl ()))
def impl_CodeOk_l2 (c1 : GCode) : Int → Option ((Int) ⊕ ((Unit) ⊕ (Bool))) := fun a0 =>
 if (decide (a0 < (c1.Words.length : Int))) = true then
  (getI c1.Words a0).bind fun a1 =>
  (impl_WordOk c1 a1).bind fun a2 =>
  if (!a2) = true then
   some (Sum.inr (Sum.inr false))
  else
   some (Sum.inl (IntKind.wrap .i64 (a0 + 1)))
 else
  some (Sum.inr (Sum.inl ()))
def impl_CodeOk (c1 : GCode) : Option (Bool) :=
 Option.bind (
  (impl_NameOk c1.Name).bind fun r4 =>
  if (!r4) = true then
   some true
  else
   if (decide ((c1.Locals.length : Int) > 200)) = true then
    some true
   else
    (impl_in c1.Params 0 (c1.Locals.length : Int)).bind fun a0 =>
    if (!a0) = true then
     some true
    else
     (impl_in (c1.Words.length : Int) 1 400).bind fun a1 =>
     if (!a1) = true then
      some true
     else
      (getI c1.Words (IntKind.wrap .i64 ((c1.Words.length : Int) - 1))).bind fun a2 =>
      some (a2.Op != 20)) fun a3 =>
 if a3 = true then
  some false
 else
  Option.bind (
   loopP (impl_CodeOk_l1 c1) (0 : Int)) fun a4 =>
  match a4 with
  | Sum.inr z => some z
  | Sum.inl () =>
   Option.bind (
    loopP (impl_CodeOk_l2 c1) (0 : Int)) fun a5 =>
   match a5 with
   | Sum.inr z => some z
   | Sum.inl () =>
    some true
def impl_LoansOf_l1 (c1 : GCode) : ((List GLoan) × Int) → Option (((List GLoan) × Int) ⊕ (List GLoan)) := fun ⟨a0, a1⟩ =>
 if (decide (a1 < (c1.Words.length : Int))) = true then
  (getI c1.Words a1).bind fun a2 =>
  Option.bind (
   if (a2.Op == 6) = true then
    some true
   else
    some (a2.Op == 7)) fun a3 =>
  if a3 = true then
   (appI 24 a0 [(⟨a1, a2.B, a2.Op == 7⟩ : GLoan)]).bind fun a4 =>
   some (Sum.inl (a4, IntKind.wrap .i64 (a1 + 1)))
  else
   some (Sum.inl (a0, IntKind.wrap .i64 (a1 + 1)))
 else
  some (Sum.inr a0)
def impl_LoansOf (c1 : GCode) : Option (List GLoan) :=
 (impl_CodeOk c1).bind fun r2 =>
 if (!r2) = true then
  some []
 else
  Option.bind (
   loopP (impl_LoansOf_l1 c1) ([], (0 : Int))) fun a0 =>
  some a0
def impl_table_l2 (is3 : Bool) (a2 : List Bool) : ((List Bool) × Int) → Option (((List Bool) × Int) ⊕ (List Bool)) := fun ⟨a0, a1⟩ =>
 if (decide (a1 < (a2.length : Int))) = true then
  (getI a0 a1).bind fun a4 =>
  bindS (List.set a0 a1.toNat is3) fun a3 =>
  some (Sum.inl (a3, IntKind.wrap .i64 (a1 + 1)))
 else
  some (Sum.inr a0)
def impl_table_l1 (rows1 : Int) (a0 : Int) (is3 : Bool) : ((List (List Bool)) × Int) → Option (((List (List Bool)) × Int) ⊕ (List (List Bool))) := fun ⟨a1, v8⟩ =>
 if (decide (v8 < rows1)) = true then
  Option.bind (
   (mkI 1 a0 false).bind fun a4 =>
   Option.bind (
    loopP (impl_table_l2 is3 a4) (a4, (0 : Int))) fun a2 =>
   (appI 24 a1 [a2]).bind fun a5 =>
   some a5) fun a3 =>
  some (Sum.inl (a3, IntKind.wrap .i64 (v8 + 1)))
 else
  some (Sum.inr a1)
def impl_table (rows1 : Int) (a0 : Int) (is3 : Bool) : Option (List (List Bool)) :=
 Option.bind (
  loopP (impl_table_l1 rows1 a0 is3) ([], (0 : Int))) fun a1 =>
 some a1
def impl_Next_l1 (c1 : GCode) (a2 : List Int) : ((List Int) × Int) → Option (((List Int) × Int) ⊕ (List Int)) := fun ⟨a0, a1⟩ =>
 if (decide (a1 < (a2.length : Int))) = true then
  (getI a2 a1).bind fun a3 =>
  (impl_in a3 0 (IntKind.wrap .i64 ((c1.Words.length : Int) - 1))).bind fun a4 =>
  if a4 = true then
   (appI 8 a0 [a3]).bind fun a5 =>
   some (Sum.inl (a5, IntKind.wrap .i64 (a1 + 1)))
  else
   some (Sum.inl (a0, IntKind.wrap .i64 (a1 + 1)))
 else
  some (Sum.inr a0)
def impl_Next (c1 : GCode) (i2 : Int) : Option (List Int) :=
 (impl_in i2 0 (IntKind.wrap .i64 ((c1.Words.length : Int) - 1))).bind fun r3 =>
 if (!r3) = true then
  some []
 else
  (getI c1.Words i2).bind fun e7 =>
  Option.bind (
   if (e7.Op == 20) = true then
    some []
   else
    if (e7.Op == 18) = true then
     some [e7.Num]
    else
     if (e7.Op == 19) = true then
      (appI 8 [IntKind.wrap .i64 (i2 + 1)] [e7.Num]).bind fun a1 =>
      some a1
     else
      some [IntKind.wrap .i64 (i2 + 1)]) fun a2 =>
  Option.bind (
   loopP (impl_Next_l1 c1 a2) ([], (0 : Int))) fun a0 =>
  some a0
def impl_ReachedWords_l2 (a4 : List Int) : ((List Bool) × (List Int) × Int) → Option (((List Bool) × (List Int) × Int) ⊕ (((List Bool) × (List Int)) ⊕ (List Bool))) := fun ⟨a0, a1, a2⟩ =>
 if (decide (a2 < (a4.length : Int))) = true then
  (getI a4 a2).bind fun a3 =>
  (getI a0 a3).bind fun a5 =>
  if (!a5) = true then
   (getI a0 a3).bind fun a8 =>
   bindS (List.set a0 a3.toNat true) fun a6 =>
   (appI 8 a1 [a3]).bind fun a7 =>
   some (Sum.inl (a6, a7, IntKind.wrap .i64 (a2 + 1)))
  else
   some (Sum.inl (a0, a1, IntKind.wrap .i64 (a2 + 1)))
 else
  some (Sum.inr (Sum.inl (a0, a1)))
def impl_ReachedWords_l1 (c1 : GCode) : ((List Bool) × (List Int)) → Option (((List Bool) × (List Int)) ⊕ (List Bool)) := fun ⟨a1, a0⟩ =>
 if (decide ((a0.length : Int) > 0)) = true then
  (getI a0 0).bind fun a2 =>
  (subI a0 1 (a0.length : Int)).bind fun a3 =>
  (impl_Next c1 a2).bind fun a4 =>
  loopP (impl_ReachedWords_l2 a4) (a1, a3, (0 : Int))
 else
  some (Sum.inr a1)
def impl_ReachedWords (c1 : GCode) : Option (List Bool) :=
 (impl_CodeOk c1).bind fun r2 =>
 if (!r2) = true then
  some []
 else
  (mkI 1 (c1.Words.length : Int) false).bind fun l6 =>
  (getI l6 0).bind fun e7 =>
  bindS (List.set l6 0 true) fun l8 =>
  Option.bind (
   loopP (impl_ReachedWords_l1 c1) (l8, [0])) fun a0 =>
  some a0
def impl_held_1 (l1 : Int) (a2 : List GLoan) (a3 : List (List Bool)) : Option ((List GLoan) × (List (List Bool))) :=
 if (decide (l1 ≥ 0)) = true then
  (mkI 1 (a2.length : Int) false).bind fun l7 =>
  (getI a3 l1).bind fun e8 =>
  bindS (List.set a3 l1.toNat l7) fun l9 =>
  some (a2, l9)
 else
  some (a2, a3)
def impl_Writes (x1 : GIns) : Option (Int) :=
 (impl_in x1.Op 1 14).bind fun r2 =>
 if r2 = true then
  some x1.A
 else
  some (-1)
def impl_held_l1 (a0 : List (List Bool)) : (Int × (List (List Bool))) → Option ((Int × (List (List Bool))) ⊕ (List (List Bool))) := fun ⟨v8, v9⟩ =>
 if (decide (v8 < (a0.length : Int))) = true then
  (getI a0 v8).bind fun a1 =>
  (appI 1 [] a1).bind fun a3 =>
  (appI 24 v9 [a1]).bind fun a2 =>
  some (Sum.inl (IntKind.wrap .i64 (v8 + 1), a2))
 else
  some (Sum.inr v9)
def impl_held_l2 (x1 : GIns) (i2 : Int) (a2 : List GLoan) : (Int × (List (List Bool))) → Option ((Int × (List (List Bool))) ⊕ (List (List Bool))) := fun ⟨a0, a1⟩ =>
 if (decide (a0 < (a2.length : Int))) = true then
  (getI a2 a0).bind fun a4 =>
  (getI a1 x1.A).bind fun a3 =>
  (getI a3 a0).bind fun a7 =>
  bindS (List.set a3 a0.toNat (a4.At == i2)) fun a5 =>
  bindS (List.set a1 x1.A.toNat a5) fun a6 =>
  some (Sum.inl (IntKind.wrap .i64 (a0 + 1), a6))
 else
  some (Sum.inr a1)
def impl_held_l3 (x1 : GIns) : (Int × (List GLoan) × (List (List Bool))) → Option ((Int × (List GLoan) × (List (List Bool))) ⊕ (List (List Bool))) := fun ⟨a0, a2, a1⟩ =>
 if (decide (a0 < (x1.Args.length : Int))) = true then
  (getI x1.Args a0).bind fun a3 =>
  (impl_held_1 a3 a2 a1).bind fun ⟨a4, a5⟩ =>
  some (Sum.inl (IntKind.wrap .i64 (a0 + 1), a4, a5))
 else
  some (Sum.inr a1)
def impl_held (x1 : GIns) (i2 : Int) (a0 : List GLoan) (a1 : List (List Bool)) : Option (List (List Bool)) :=
 Option.bind (
  loopP (impl_held_l1 a1) ((0 : Int), [])) fun a2 =>
 Option.bind (
  Option.bind (
   if (x1.Op == 6) = true then
    some (x1.Op == 6)
   else
    some (x1.Op == 7)) fun a6 =>
  if a6 = true then
   (impl_held_1 x1.A a0 a2).bind fun ⟨a7, a8⟩ =>
   loopP (impl_held_l2 x1 i2 a7) ((0 : Int), a8)
  else
   if (x1.Op == 2) = true then
    (getI a1 x1.B).bind fun a3 =>
    (appI 1 [] a3).bind fun b8 =>
    (getI a2 x1.A).bind fun b9 =>
    bindS (List.set a2 x1.A.toNat a3) fun a9 =>
    some a9
   else
    Option.bind (
     if (x1.Op == 3) = true then
      some (x1.Op == 3)
     else
      some (x1.Op == 14)) fun b0 =>
    if b0 = true then
     (impl_held_1 x1.B a0 a2).bind fun ⟨c0, a4⟩ =>
     (getI a1 x1.B).bind fun a5 =>
     (appI 1 [] a5).bind fun c1 =>
     (getI a4 x1.A).bind fun c2 =>
     bindS (List.set a4 x1.A.toNat a5) fun b1 =>
     some b1
    else
     if (x1.Op == 13) = true then
      (impl_held_1 x1.A a0 a2).bind fun ⟨b2, b3⟩ =>
      loopP (impl_held_l3 x1) ((0 : Int), b2, b3)
     else
      if (x1.Op == 17) = true then
       (impl_held_1 x1.A a0 a2).bind fun ⟨c3, b4⟩ =>
       some b4
      else
       (impl_Writes x1).bind fun b5 =>
       (impl_held_1 b5 a0 a2).bind fun ⟨c4, b6⟩ =>
       some b6) fun b7 =>
 some b7
def impl_HoldsAt_l1 (c1 : GCode) (r6 : List GLoan) : ((List (List (List Bool))) × Int) → Option (((List (List (List Bool))) × Int) ⊕ (List (List (List Bool)))) := fun ⟨a0, a1⟩ =>
 if (decide (a1 < (c1.Words.length : Int))) = true then
  (impl_table (c1.Locals.length : Int) (r6.length : Int) false).bind fun a2 =>
  (appI 24 a0 [a2]).bind fun a3 =>
  some (Sum.inl (a3, IntKind.wrap .i64 (a1 + 1)))
 else
  some (Sum.inr a0)
def impl_HoldsAt_l6 (a4 : Int) (a5 : Int) (a9 : List Bool) : ((List (List (List Bool))) × Bool × Int) → Option (((List (List (List Bool))) × Bool × Int) ⊕ ((List (List (List Bool))) × Bool)) := fun ⟨a0, a1, a2⟩ =>
 if (decide (a2 < (a9.length : Int))) = true then
  (getI a9 a2).bind fun b1 =>
  Option.bind (
   if b1 = true then
    (getI a0 a4).bind fun b2 =>
    (getI b2 a5).bind fun b3 =>
    (getI b3 a2).bind fun b4 =>
    some (!b4)
   else
    some false) fun b5 =>
  if b5 = true then
   (getI a0 a4).bind fun b0 =>
   (getI b0 a5).bind fun a3 =>
   (getI a3 a2).bind fun b6 =>
   bindS (List.set a3 a2.toNat true) fun a6 =>
   bindS (List.set b0 a5.toNat a6) fun a7 =>
   bindS (List.set a0 a4.toNat a7) fun a8 =>
   some (Sum.inl (a8, true, IntKind.wrap .i64 (a2 + 1)))
  else
   some (Sum.inl (a0, a1, IntKind.wrap .i64 (a2 + 1)))
 else
  some (Sum.inr (a0, a1))
def impl_HoldsAt_l5 (a5 : List (List Bool)) (a6 : Int) : ((List (List (List Bool))) × Bool × Int) → Option (((List (List (List Bool))) × Bool × Int) ⊕ ((List (List (List Bool))) × Bool)) := fun ⟨a2, a0, a4⟩ =>
 if (decide (a4 < (a5.length : Int))) = true then
  Option.bind (
   (getI a5 a4).bind fun a7 =>
   loopP (impl_HoldsAt_l6 a6 a4 a7) (a2, a0, (0 : Int))) fun ⟨a3, a1⟩ =>
  some (Sum.inl (a3, a1, IntKind.wrap .i64 (a4 + 1)))
 else
  some (Sum.inr (a2, a0))
def impl_HoldsAt_l4 (a6 : List (List Bool)) (a5 : List Int) : ((List (List (List Bool))) × Bool × Int) → Option (((List (List (List Bool))) × Bool × Int) ⊕ ((List (List (List Bool))) × Bool)) := fun ⟨a2, a0, a4⟩ =>
 if (decide (a4 < (a5.length : Int))) = true then
  Option.bind (
   (getI a5 a4).bind fun a7 =>
   loopP (impl_HoldsAt_l5 a6 a7) (a2, a0, (0 : Int))) fun ⟨a3, a1⟩ =>
  some (Sum.inl (a3, a1, IntKind.wrap .i64 (a4 + 1)))
 else
  some (Sum.inr (a2, a0))
def impl_HoldsAt_l3 (c1 : GCode) (r6 : List GLoan) (a5 : List Bool) : ((List (List (List Bool))) × Bool × Int) → Option (((List (List (List Bool))) × Bool × Int) ⊕ (((List (List (List Bool))) × Bool) ⊕ (List (List (List Bool))))) := fun ⟨a1, a0, a3⟩ =>
 if (decide (a3 < (c1.Words.length : Int))) = true then
  Option.bind (
   (getI c1.Words a3).bind fun a6 =>
   (getI a5 a3).bind fun a7 =>
   if (!a7) = true then
    some (a1, a0)
   else
    (getI a1 a3).bind fun a8 =>
    (impl_held a6 a3 r6 a8).bind fun a9 =>
    (impl_Next c1 a3).bind fun b0 =>
    loopP (impl_HoldsAt_l4 a9 b0) (a1, a0, (0 : Int))) fun ⟨a4, a2⟩ =>
  some (Sum.inl (a4, a2, IntKind.wrap .i64 (a3 + 1)))
 else
  some (Sum.inr (Sum.inl (a1, a0)))
def impl_HoldsAt_l2 (c1 : GCode) (r6 : List GLoan) (a2 : List Bool) : ((List (List (List Bool))) × Bool) → Option (((List (List (List Bool))) × Bool) ⊕ (List (List (List Bool)))) := fun ⟨a0, a1⟩ =>
 if a1 = true then
  loopP (impl_HoldsAt_l3 c1 r6 a2) (a0, false, (0 : Int))
 else
  some (Sum.inr a0)
def impl_HoldsAt (c1 : GCode) : Option (List (List (List Bool))) :=
 (impl_CodeOk c1).bind fun r2 =>
 if (!r2) = true then
  some []
 else
  (impl_LoansOf c1).bind fun r6 =>
  Option.bind (
   loopP (impl_HoldsAt_l1 c1 r6) ([], (0 : Int))) fun a1 =>
  (impl_ReachedWords c1).bind fun a2 =>
  Option.bind (
   loopP (impl_HoldsAt_l2 c1 r6 a2) (a1, true)) fun a0 =>
  some a0
def laws_eqIntS_l1 (a1 : List Int) (b2 : List Int) : Int → Option ((Int) ⊕ ((Unit) ⊕ (Bool))) := fun i8 =>
 if (decide (i8 < (a1.length : Int))) = true then
  (getI a1 i8).bind fun a0 =>
  (getI b2 i8).bind fun a2 =>
  if (a0 != a2) = true then
   some (Sum.inr (Sum.inr false))
  else
   some (Sum.inl (IntKind.wrap .i64 (i8 + 1)))
 else
  some (Sum.inr (Sum.inl ()))
def laws_eqIntS (a1 : List Int) (b2 : List Int) : Option (Bool) :=
 if ((a1.length : Int) != (b2.length : Int)) = true then
  some false
 else
  Option.bind (
   loopP (laws_eqIntS_l1 a1 b2) (0 : Int)) fun j7 =>
  match j7 with
  | Sum.inr z => some z
  | Sum.inl () =>
   some true
def laws_eqIns (a1 : GIns) (b2 : GIns) : Option (Bool) :=
 if (a1.Op != b2.Op) = true then
  some false
 else
  if (a1.A != b2.A) = true then
   some false
  else
   if (a1.B != b2.B) = true then
    some false
   else
    if (a1.C != b2.C) = true then
     some false
    else
     if (a1.Num != b2.Num) = true then
      some false
     else
      if (!(sEq a1.Name b2.Name)) = true then
       some false
      else
       (laws_eqIntS a1.Args b2.Args).bind fun a0 =>
       if (!a0) = true then
        some false
       else
        some true
def laws_eqInsS_l1 (a1 : List GIns) (b2 : List GIns) : Int → Option ((Int) ⊕ ((Unit) ⊕ (Bool))) := fun i8 =>
 if (decide (i8 < (a1.length : Int))) = true then
  (getI a1 i8).bind fun a0 =>
  (getI b2 i8).bind fun a2 =>
  (laws_eqIns a0 a2).bind fun a3 =>
  if (!a3) = true then
   some (Sum.inr (Sum.inr false))
  else
   some (Sum.inl (IntKind.wrap .i64 (i8 + 1)))
 else
  some (Sum.inr (Sum.inl ()))
def laws_eqInsS (a1 : List GIns) (b2 : List GIns) : Option (Bool) :=
 if ((a1.length : Int) != (b2.length : Int)) = true then
  some false
 else
  Option.bind (
   loopP (laws_eqInsS_l1 a1 b2) (0 : Int)) fun j7 =>
  match j7 with
  | Sum.inr z => some z
  | Sum.inl () =>
   some true
def laws_eqCode (a1 : GCode) (b2 : GCode) : Option (Bool) :=
 if (!(sEq a1.Name b2.Name)) = true then
  some false
 else
  if (a1.Params != b2.Params) = true then
   some false
  else
   (laws_eqIntS a1.Locals b2.Locals).bind fun r7 =>
   if (!r7) = true then
    some false
   else
    (laws_eqInsS a1.Words b2.Words).bind fun a0 =>
    if (!a0) = true then
     some false
    else
     some true
def spec_Reads_l1 (x1 : GIns) : ((List Int) × Int) → Option (((List Int) × Int) ⊕ (List Int)) := fun ⟨a0, a1⟩ =>
 if (decide (a1 < (x1.Args.length : Int))) = true then
  (getI x1.Args a1).bind fun a2 =>
  (spec_l11Add a0 a2).bind fun a3 =>
  some (Sum.inl (a3, IntKind.wrap .i64 (a1 + 1)))
 else
  some (Sum.inr a0)
def spec_Reads (x1 : GIns) : Option (List Int) :=
 Option.bind (
  if (x1.Op == 15) = true then
   (spec_l11Add [] x1.A).bind fun r7 =>
   (spec_l11Add r7 x1.B).bind fun r9 =>
   some r9
  else
   Option.bind (
    if (x1.Op == 16) = true then
     some true
    else
     some (x1.Op == 19)) fun a2 =>
   if a2 = true then
    (spec_l11Add [] x1.A).bind fun a3 =>
    some a3
   else
    if (x1.Op == 20) = true then
     if (x1.A != (-1)) = true then
      (spec_l11Add [] x1.A).bind fun a4 =>
      some a4
     else
      some []
    else
     if (x1.Op == 13) = true then
      loopP (spec_Reads_l1 x1) ([], (0 : Int))
     else
      (spec_l11HasB x1.Op).bind fun a5 =>
      if a5 = true then
       (spec_l11Add [] x1.B).bind fun a1 =>
       (spec_l11HasC x1.Op).bind fun a6 =>
       if a6 = true then
        (spec_l11Add a1 x1.C).bind fun a7 =>
        some a7
       else
        some a1
      else
       some []) fun a0 =>
 some a0
def spec_l14Live_l4 (c1 : GCode) (a3 : Int) (a5 : Int) (a6 : List Int) (a7 : Int) : ((List (List Bool)) × Bool × Int) → Option (((List (List Bool)) × Bool × Int) ⊕ ((List (List Bool)) × Bool)) := fun ⟨a0, a1, a2⟩ =>
 if (decide (a2 < (c1.Locals.length : Int))) = true then
  Option.bind (
   (getI a6 a7).bind fun a8 =>
   (getI a0 a8).bind fun a9 =>
   (getI a9 a2).bind fun b0 =>
   if b0 = true then
    if (a2 != a5) = true then
     (getI a0 a3).bind fun b1 =>
     (getI b1 a2).bind fun b2 =>
     some (!b2)
    else
     some false
   else
    some false) fun b3 =>
  if b3 = true then
   (getI a0 a3).bind fun a4 =>
   (getI a4 a2).bind fun b6 =>
   bindS (List.set a4 a2.toNat true) fun b4 =>
   bindS (List.set a0 a3.toNat b4) fun b5 =>
   some (Sum.inl (b5, true, IntKind.wrap .i64 (a2 + 1)))
  else
   some (Sum.inl (a0, a1, IntKind.wrap .i64 (a2 + 1)))
 else
  some (Sum.inr (a0, a1))
def spec_l14Live_l3 (c1 : GCode) (a6 : Int) (a7 : Int) (a5 : List Int) : ((List (List Bool)) × Bool × Int) → Option (((List (List Bool)) × Bool × Int) ⊕ ((List (List Bool)) × Bool)) := fun ⟨a1, a0, a4⟩ =>
 if (decide (a4 < (a5.length : Int))) = true then
  Option.bind (
   loopP (spec_l14Live_l4 c1 a6 a7 a5 a4) (a1, a0, (0 : Int))) fun ⟨a3, a2⟩ =>
  some (Sum.inl (a3, a2, IntKind.wrap .i64 (a4 + 1)))
 else
  some (Sum.inr (a1, a0))
def spec_l14Live_l5 (a5 : Int) (a6 : List Int) : ((List (List Bool)) × Bool × Int) → Option (((List (List Bool)) × Bool × Int) ⊕ ((List (List Bool)) × Bool)) := fun ⟨a0, a1, a2⟩ =>
 if (decide (a2 < (a6.length : Int))) = true then
  (getI a0 a5).bind fun a9 =>
  (getI a6 a2).bind fun b0 =>
  (getI a9 b0).bind fun b1 =>
  if (!b1) = true then
   (getI a0 a5).bind fun a3 =>
   (getI a6 a2).bind fun a4 =>
   (getI a3 a4).bind fun b2 =>
   bindS (List.set a3 a4.toNat true) fun a7 =>
   bindS (List.set a0 a5.toNat a7) fun a8 =>
   some (Sum.inl (a8, true, IntKind.wrap .i64 (a2 + 1)))
  else
   some (Sum.inl (a0, a1, IntKind.wrap .i64 (a2 + 1)))
 else
  some (Sum.inr (a0, a1))
def spec_l14Live_l2 (c1 : GCode) : ((List (List Bool)) × Bool × Int) → Option (((List (List Bool)) × Bool × Int) ⊕ ((List (List Bool)) × Bool)) := fun ⟨a2, a0, a3⟩ =>
 if (decide (a3 ≥ 0)) = true then
  Option.bind (
   (getI c1.Words a3).bind fun a7 =>
   (spec_Writes a7).bind fun a8 =>
   (spec_Next c1 a3).bind fun a9 =>
   Option.bind (
    loopP (spec_l14Live_l3 c1 a3 a8 a9) (a2, a0, (0 : Int))) fun ⟨a6, a4⟩ =>
   (getI c1.Words a3).bind fun b0 =>
   (spec_Reads b0).bind fun b1 =>
   loopP (spec_l14Live_l5 a3 b1) (a6, a4, (0 : Int))) fun ⟨a5, a1⟩ =>
  some (Sum.inl (a5, a1, IntKind.wrap .i64 (a3 - 1)))
 else
  some (Sum.inr (a2, a0))
def spec_l14Live_l1 (c1 : GCode) : ((List (List Bool)) × Bool × Int) → Option (((List (List Bool)) × Bool × Int) ⊕ (List (List Bool))) := fun ⟨a3, a4, a0⟩ =>
 Option.bind (
  if a4 = true then
   some (decide (a0 ≤ IntKind.wrap .i64 ((IntKind.wrap .i64 ((c1.Words.length : Int) * (c1.Locals.length : Int))) + 1)))
  else
   some false) fun a5 =>
 if a5 = true then
  Option.bind (
   loopP (spec_l14Live_l2 c1) (a3, false, IntKind.wrap .i64 ((c1.Words.length : Int) - 1))) fun ⟨a2, a1⟩ =>
  some (Sum.inl (a2, a1, IntKind.wrap .i64 (a0 + 1)))
 else
  some (Sum.inr a3)
def spec_l14Live (c1 : GCode) : Option (List (List Bool)) :=
 (spec_l14Table (c1.Words.length : Int) (c1.Locals.length : Int) false).bind fun r2 =>
 Option.bind (
  loopP (spec_l14Live_l1 c1) (r2, true, (0 : Int))) fun a0 =>
 some a0
def spec_l15Force_l2 (a1 : List (List Bool)) (a3 : List Bool) (n3 : Int) (j9 : Int) : ((List Bool) × Int) → Option (((List Bool) × Int) ⊕ (List Bool)) := fun ⟨a0, a2⟩ =>
 Option.bind (
  if (decide (a2 < n3)) = true then
   (getI a3 j9).bind fun a4 =>
   some a4
  else
   some false) fun a5 =>
 if a5 = true then
  (getI a0 a2).bind fun a6 =>
  if a6 = true then
   bindS (List.set a0 a2.toNat true) fun a7 =>
   some (Sum.inl (a7, IntKind.wrap .i64 (a2 + 1)))
  else
   (getI a1 j9).bind fun a8 =>
   (getI a8 a2).bind fun a9 =>
   bindS (List.set a0 a2.toNat a9) fun b0 =>
   some (Sum.inl (b0, IntKind.wrap .i64 (a2 + 1)))
 else
  some (Sum.inr a0)
def spec_l15Force_l1 (a0 : List (List Bool)) (a1 : List Bool) (n3 : Int) : ((List Bool) × Int) → Option (((List Bool) × Int) ⊕ (List Bool)) := fun ⟨a2, j9⟩ =>
 if (decide (j9 < (a0.length : Int))) = true then
  Option.bind (
   loopP (spec_l15Force_l2 a0 a1 n3 j9) (a2, (0 : Int))) fun a3 =>
  some (Sum.inl (a3, IntKind.wrap .i64 (j9 + 1)))
 else
  some (Sum.inr a2)
def spec_l15Force (a0 : List (List Bool)) (a1 : List Bool) (n3 : Int) : Option (List Bool) :=
 (mkI 1 n3 false).bind fun l4 =>
 Option.bind (
  loopP (spec_l15Force_l1 a0 a1 n3) (l4, (0 : Int))) fun a2 =>
 some a2
def spec_Takes (x1 : GIns) (a0 : Bool) : Option (Int) :=
 if a0 = true then
  Option.bind (
   if (x1.Op == 3) = true then
    some (x1.Op == 3)
   else
    some (x1.Op == 7)) fun a1 =>
  if a1 = true then
   some x1.B
  else
   Option.bind (
    if (x1.Op == 14) = true then
     some (x1.Op == 14)
    else
     if (x1.Op == 15) = true then
      some (x1.Op == 15)
     else
      some (x1.Op == 17)) fun a2 =>
   if a2 = true then
    some x1.A
   else
    some (-1)
 else
  Option.bind (
   if (x1.Op == 4) = true then
    some (x1.Op == 4)
   else
    if (x1.Op == 5) = true then
     some (x1.Op == 5)
    else
     some (x1.Op == 6)) fun a3 =>
  if a3 = true then
   some x1.B
  else
   some (-1)
def spec_Lent_l2 (c1 : GCode) (r6 : List GLoan) (a2 : Int) (a4 : List Bool) : Int → Option ((Int) ⊕ ((Unit) ⊕ ((Int) ⊕ ((Unit) ⊕ (Int))))) := fun a0 =>
 if (decide (a0 < (r6.length : Int))) = true then
  Option.bind (
   (getI a4 a0).bind fun a5 =>
   if a5 = true then
    (getI r6 a0).bind fun a1 =>
    (getI c1.Words a2).bind fun a3 =>
    (spec_Takes a3 true).bind fun a6 =>
    if (a1.Of == a6) = true then
     some true
    else
     if a1.Mut = true then
      (spec_Takes a3 false).bind fun a7 =>
      some (a1.Of == a7)
     else
      some false
   else
    some false) fun a8 =>
  if a8 = true then
   some (Sum.inr (Sum.inr (Sum.inr (Sum.inr a2))))
  else
   some (Sum.inl (IntKind.wrap .i64 (a0 + 1)))
 else
  some (Sum.inr (Sum.inl ()))
def spec_Lent_l1 (c1 : GCode) (r6 : List GLoan) (r8 : List Bool) (a1 : List (List (List Bool))) (a2 : List (List Bool)) : Int → Option ((Int) ⊕ ((Unit) ⊕ (Int))) := fun a0 =>
 if (decide (a0 < (c1.Words.length : Int))) = true then
  Option.bind (
   (getI r8 a0).bind fun a3 =>
   if (!a3) = true then
    some (Sum.inl ())
   else
    (getI a1 a0).bind fun a4 =>
    (getI a2 a0).bind fun a5 =>
    (spec_l15Force a4 a5 (r6.length : Int)).bind fun a6 =>
    loopP (spec_Lent_l2 c1 r6 a0 a6) (0 : Int)) fun a7 =>
  match a7 with
  | Sum.inr z => some z
  | Sum.inl () =>
   some (Sum.inl (IntKind.wrap .i64 (a0 + 1)))
 else
  some (Sum.inr (Sum.inl ()))
def spec_Lent (c1 : GCode) : Option (Int) :=
 (spec_CodeOk c1).bind fun r2 =>
 if (!r2) = true then
  some (-1)
 else
  (spec_LoansOf c1).bind fun r6 =>
  (spec_l14Reached c1).bind fun r8 =>
  (spec_l15Holds c1 r6 r8).bind fun a0 =>
  (spec_l14Live c1).bind fun a1 =>
  Option.bind (
   loopP (spec_Lent_l1 c1 r6 r8 a0 a1) (0 : Int)) fun a2 =>
  match a2 with
  | Sum.inr z => some z
  | Sum.inl () =>
   some (-1)
def impl_hasInt_l1 (l1 : List Int) (n2 : Int) : Int → Option ((Int) ⊕ ((Unit) ⊕ (Bool))) := fun v6 =>
 if (decide (v6 < (l1.length : Int))) = true then
  (getI l1 v6).bind fun a0 =>
  if (a0 == n2) = true then
   some (Sum.inr (Sum.inr true))
  else
   some (Sum.inl (IntKind.wrap .i64 (v6 + 1)))
 else
  some (Sum.inr (Sum.inl ()))
def impl_hasInt (l1 : List Int) (n2 : Int) : Option (Bool) :=
 Option.bind (
  loopP (impl_hasInt_l1 l1 n2) (0 : Int)) fun j5 =>
 match j5 with
 | Sum.inr z => some z
 | Sum.inl () =>
  some false
def impl_Reads_l1 (a2 : List Int) : ((List Int) × Int) → Option (((List Int) × Int) ⊕ (List Int)) := fun ⟨a0, a1⟩ =>
 if (decide (a1 < (a2.length : Int))) = true then
  (getI a2 a1).bind fun a3 =>
  (impl_hasInt a0 a3).bind fun a4 =>
  if (!a4) = true then
   (appI 8 a0 [a3]).bind fun a5 =>
   some (Sum.inl (a5, IntKind.wrap .i64 (a1 + 1)))
  else
   some (Sum.inl (a0, IntKind.wrap .i64 (a1 + 1)))
 else
  some (Sum.inr a0)
def impl_Reads (x1 : GIns) : Option (List Int) :=
 Option.bind (
  Option.bind (
   (impl_in x1.Op 2 7).bind fun r7 =>
   if r7 = true then
    some true
   else
    if (x1.Op == 9) = true then
     some true
    else
     some (x1.Op == 14)) fun a1 =>
  if a1 = true then
   some [x1.B]
  else
   (impl_in x1.Op 10 12).bind fun a2 =>
   if a2 = true then
    some [x1.B, x1.C]
   else
    if (x1.Op == 13) = true then
     some x1.Args
    else
     if (x1.Op == 15) = true then
      some [x1.A, x1.B]
     else
      Option.bind (
       if (x1.Op == 16) = true then
        some true
       else
        if (x1.Op == 19) = true then
         some true
        else
         if (x1.Op == 20) = true then
          some (x1.A != (-1))
         else
          some false) fun a3 =>
      if a3 = true then
       some [x1.A]
      else
       some []) fun a4 =>
 Option.bind (
  loopP (impl_Reads_l1 a4) ([], (0 : Int))) fun a0 =>
 some a0
def impl_LiveAt_l4 (a5 : GIns) (a0 : List (List Bool)) (a3 : Int) (a4 : List Int) : (Bool × Int) → Option ((Bool × Int) ⊕ (Bool)) := fun ⟨a1, a2⟩ =>
 if (decide (a2 < (a4.length : Int))) = true then
  (getI a4 a2).bind fun a6 =>
  if a1 = true then
   some (Sum.inl (true, IntKind.wrap .i64 (a2 + 1)))
  else
   (impl_Writes a5).bind fun a7 =>
   if (a7 != a3) = true then
    (getI a0 a6).bind fun a8 =>
    (getI a8 a3).bind fun a9 =>
    some (Sum.inl (a9, IntKind.wrap .i64 (a2 + 1)))
   else
    some (Sum.inl (false, IntKind.wrap .i64 (a2 + 1)))
 else
  some (Sum.inr a1)
def impl_LiveAt_l3 (c1 : GCode) (a5 : Int) (a7 : GIns) : ((List (List Bool)) × Bool × Int) → Option (((List (List Bool)) × Bool × Int) ⊕ ((List (List Bool)) × Bool)) := fun ⟨a0, a1, a2⟩ =>
 if (decide (a2 < (c1.Locals.length : Int))) = true then
  Option.bind (
   (impl_Reads a7).bind fun a9 =>
   (impl_hasInt a9 a2).bind fun b0 =>
   Option.bind (
    (impl_Next c1 a5).bind fun b1 =>
    loopP (impl_LiveAt_l4 a7 a0 a2 b1) (b0, (0 : Int))) fun a6 =>
   Option.bind (
    if a6 = true then
     (getI a0 a5).bind fun b2 =>
     (getI b2 a2).bind fun b3 =>
     some (!b3)
    else
     some false) fun b4 =>
   if b4 = true then
    (getI a0 a5).bind fun a8 =>
    (getI a8 a2).bind fun b7 =>
    bindS (List.set a8 a2.toNat true) fun b5 =>
    bindS (List.set a0 a5.toNat b5) fun b6 =>
    some (b6, true)
   else
    some (a0, a1)) fun ⟨a4, a3⟩ =>
  some (Sum.inl (a4, a3, IntKind.wrap .i64 (a2 + 1)))
 else
  some (Sum.inr (a0, a1))
def impl_LiveAt_l2 (c1 : GCode) : ((List (List Bool)) × Bool × Int) → Option (((List (List Bool)) × Bool × Int) ⊕ (((List (List Bool)) × Bool) ⊕ (List (List Bool)))) := fun ⟨a1, a0, a4⟩ =>
 if (decide (a4 ≥ 0)) = true then
  Option.bind (
   (getI c1.Words a4).bind fun a5 =>
   loopP (impl_LiveAt_l3 c1 a4 a5) (a1, a0, (0 : Int))) fun ⟨a3, a2⟩ =>
  some (Sum.inl (a3, a2, IntKind.wrap .i64 (a4 - 1)))
 else
  some (Sum.inr (Sum.inl (a1, a0)))
def impl_LiveAt_l1 (c1 : GCode) : ((List (List Bool)) × Bool) → Option (((List (List Bool)) × Bool) ⊕ (List (List Bool))) := fun ⟨a0, a1⟩ =>
 if a1 = true then
  loopP (impl_LiveAt_l2 c1) (a0, false, IntKind.wrap .i64 ((c1.Words.length : Int) - 1))
 else
  some (Sum.inr a0)
def impl_LiveAt (c1 : GCode) : Option (List (List Bool)) :=
 (impl_CodeOk c1).bind fun r2 =>
 if (!r2) = true then
  some []
 else
  (impl_table (c1.Words.length : Int) (c1.Locals.length : Int) false).bind fun r6 =>
  Option.bind (
   loopP (impl_LiveAt_l1 c1) (r6, true)) fun a0 =>
  some a0
def impl_inForce_l2 (a2 : List Bool) (v9 : Int) (a3 : List Bool) : ((List Bool) × Int) → Option (((List Bool) × Int) ⊕ (List Bool)) := fun ⟨a0, a1⟩ =>
 if (decide (a1 < (a3.length : Int))) = true then
  (getI a3 a1).bind fun a4 =>
  (getI a0 a1).bind fun a5 =>
  if a5 = true then
   bindS (List.set a0 a1.toNat true) fun a6 =>
   some (Sum.inl (a6, IntKind.wrap .i64 (a1 + 1)))
  else
   if a4 = true then
    (getI a2 v9).bind fun a7 =>
    bindS (List.set a0 a1.toNat a7) fun a8 =>
    some (Sum.inl (a8, IntKind.wrap .i64 (a1 + 1)))
   else
    bindS (List.set a0 a1.toNat false) fun a9 =>
    some (Sum.inl (a9, IntKind.wrap .i64 (a1 + 1)))
 else
  some (Sum.inr a0)
def impl_inForce_l1 (a0 : List (List Bool)) (a1 : List Bool) : ((List Bool) × Int) → Option (((List Bool) × Int) ⊕ (List Bool)) := fun ⟨a2, v9⟩ =>
 if (decide (v9 < (a0.length : Int))) = true then
  Option.bind (
   (getI a0 v9).bind fun a4 =>
   loopP (impl_inForce_l2 a1 v9 a4) (a2, (0 : Int))) fun a3 =>
  some (Sum.inl (a3, IntKind.wrap .i64 (v9 + 1)))
 else
  some (Sum.inr a2)
def impl_inForce (a0 : List (List Bool)) (a2 : List Bool) (a1 : Int) : Option (List Bool) :=
 (mkI 1 a1 false).bind fun l4 =>
 Option.bind (
  loopP (impl_inForce_l1 a0 a2) (l4, (0 : Int))) fun a3 =>
 some a3
def impl_Takes (x1 : GIns) (a0 : Bool) : Option (Int) :=
 Option.bind (
  if (!a0) = true then
   if (x1.Op == 4) = true then
    some true
   else
    if (x1.Op == 5) = true then
     some true
    else
     some (x1.Op == 6)
  else
   some false) fun a1 =>
 if a1 = true then
  some x1.B
 else
  Option.bind (
   if a0 = true then
    if (x1.Op == 3) = true then
     some true
    else
     some (x1.Op == 7)
   else
    some false) fun a2 =>
  if a2 = true then
   some x1.B
  else
   Option.bind (
    if a0 = true then
     if (x1.Op == 14) = true then
      some true
     else
      if (x1.Op == 15) = true then
       some true
      else
       some (x1.Op == 17)
    else
     some false) fun a3 =>
   if a3 = true then
    some x1.A
   else
    some (-1)
def impl_Lent_l2 (a2 : List GLoan) (a4 : Int) (a3 : GIns) (a5 : List Bool) : Int → Option ((Int) ⊕ ((Unit) ⊕ ((Int) ⊕ ((Unit) ⊕ (Int))))) := fun a0 =>
 if (decide (a0 < (a2.length : Int))) = true then
  (getI a2 a0).bind fun a1 =>
  Option.bind (
   (getI a5 a0).bind fun a6 =>
   if a6 = true then
    (impl_Takes a3 true).bind fun a7 =>
    if (a1.Of == a7) = true then
     some true
    else
     if a1.Mut = true then
      (impl_Takes a3 false).bind fun a8 =>
      some (a1.Of == a8)
     else
      some false
   else
    some false) fun a9 =>
  if a9 = true then
   some (Sum.inr (Sum.inr (Sum.inr (Sum.inr a4))))
  else
   some (Sum.inl (IntKind.wrap .i64 (a0 + 1)))
 else
  some (Sum.inr (Sum.inl ()))
def impl_Lent_l1 (c1 : GCode) (r7 : List (List (List Bool))) (r9 : List (List Bool)) (a1 : List GLoan) (a2 : List Bool) : Int → Option ((Int) ⊕ ((Unit) ⊕ (Int))) := fun a0 =>
 if (decide (a0 < (c1.Words.length : Int))) = true then
  Option.bind (
   (getI c1.Words a0).bind fun a3 =>
   (getI a2 a0).bind fun a4 =>
   if (!a4) = true then
    some (Sum.inl ())
   else
    (getI r7 a0).bind fun a5 =>
    (getI r9 a0).bind fun a6 =>
    (impl_inForce a5 a6 (a1.length : Int)).bind fun a7 =>
    loopP (impl_Lent_l2 a1 a0 a3 a7) (0 : Int)) fun a8 =>
  match a8 with
  | Sum.inr z => some z
  | Sum.inl () =>
   some (Sum.inl (IntKind.wrap .i64 (a0 + 1)))
 else
  some (Sum.inr (Sum.inl ()))
def impl_Lent (c1 : GCode) : Option (Int) :=
 (impl_CodeOk c1).bind fun r2 =>
 if (!r2) = true then
  some (-1)
 else
  (impl_HoldsAt c1).bind fun r7 =>
  (impl_LiveAt c1).bind fun r9 =>
  (impl_LoansOf c1).bind fun a0 =>
  (impl_ReachedWords c1).bind fun a1 =>
  Option.bind (
   loopP (impl_Lent_l1 c1 r7 r9 a0 a1) (0 : Int)) fun a2 =>
  match a2 with
  | Sum.inr z => some z
  | Sum.inl () =>
   some (-1)
def laws_FnExactLent (a0 : GCode) : Option (Bool) :=
 (laws_szCode a0 1048576).bind fun r2 =>
 if (decide (r2 < 0)) = true then
  some true
 else
  (laws_toCode a0).bind fun r6 =>
  (spec_Lent r6).bind fun r8 =>
  (laws_toCode a0).bind fun a1 =>
  (impl_Lent a1).bind fun a2 =>
  if (a2 != r8) = true then
   some false
  else
   (laws_toCode a0).bind fun a3 =>
   (laws_eqCode a1 a3).bind fun a4 =>
   if (!a4) = true then
    some false
   else
    some true
end Go.OM
end
set_option maxRecDepth 100000
set_option maxHeartbeats 8000000
namespace Go.Proofs.T
open Go.OM
noncomputable def ty : TypeId → Option TI
 | 2 => some ⟨1, 8, .int .i64, [.v (.int .i64 0)]⟩
 | 3 => some ⟨1, 8, .int .i64, [.v (.int .i64 0)]⟩
 | 4 => some ⟨1, 1, .bool, [.v (.bool false)]⟩
 | 5 => some ⟨1, 1, .int .u8, [.v (.int .u8 0)]⟩
 | 7 => some ⟨4, 24, .struct [(0, 1), (1, 1), (2, 1), (3, 1)], [.v (.int .i64 0), .v (.int .i64 0), .v (.bool false), .v (.int .u8 0)]⟩
 | 9 => some ⟨1, 16, .str, [.v (.string .empty)]⟩
 | 12 => some ⟨1, 8, .int .u64, [.v (.int .u64 0)]⟩
 | 13 => some ⟨2, 24, .struct [(0, 1), (1, 1)], [.v (.string .empty), .v (.int .u64 0)]⟩
 | 22 => some ⟨1, 24, .slice 3, [.nl true 1 none]⟩
 | 23 => some ⟨1, 24, .slice 71, [.nl true 7 none]⟩
 | 24 => some ⟨4, 72, .struct [(0, 1), (1, 1), (2, 1), (3, 1)], [.v (.string .empty), .v (.int .i64 0), .nl true 1 none, .nl true 7 none]⟩
 | 25 => some ⟨4, 72, .struct [(0, 1), (1, 1), (2, 1), (3, 1)], [.v (.string .empty), .v (.int .i64 0), .nl true 1 none, .nl true 7 none]⟩
 | 27 => some ⟨1, 24, .slice 53, [.nl true 1 none]⟩
 | 29 => some ⟨1, 24, .slice 56, [.nl true 7 none]⟩
 | 30 => some ⟨4, 72, .struct [(0, 1), (1, 1), (2, 1), (3, 1)], [.v (.string .empty), .v (.int .i64 0), .nl true 1 none, .nl true 7 none]⟩
 | 31 => some ⟨4, 72, .struct [(0, 1), (1, 1), (2, 1), (3, 1)], [.v (.string .empty), .v (.int .i64 0), .nl true 1 none, .nl true 7 none]⟩
 | 39 => some ⟨1, 24, .slice 4, [.nl true 1 none]⟩
 | 48 => some ⟨1, 24, .slice 67, [.nl true 3 none]⟩
 | 53 => some ⟨1, 24, .slice 39, [.nl true 1 none]⟩
 | 55 => some ⟨7, 80, .struct [(0, 1), (1, 1), (2, 1), (3, 1), (4, 1), (5, 1), (6, 1)], [.v (.int .i64 0), .v (.int .i64 0), .v (.int .i64 0), .v (.int .i64 0), .v (.int .i64 0), .v (.string .empty), .nl true 1 none]⟩
 | 56 => some ⟨7, 80, .struct [(0, 1), (1, 1), (2, 1), (3, 1), (4, 1), (5, 1), (6, 1)], [.v (.int .i64 0), .v (.int .i64 0), .v (.int .i64 0), .v (.int .i64 0), .v (.int .i64 0), .v (.string .empty), .nl true 1 none]⟩
 | 66 => some ⟨3, 24, .struct [(0, 1), (1, 1), (2, 1)], [.v (.int .i64 0), .v (.int .i64 0), .v (.bool false)]⟩
 | 67 => some ⟨3, 24, .struct [(0, 1), (1, 1), (2, 1)], [.v (.int .i64 0), .v (.int .i64 0), .v (.bool false)]⟩
 | 71 => some ⟨7, 80, .struct [(0, 1), (1, 1), (2, 1), (3, 1), (4, 1), (5, 1), (6, 1)], [.v (.int .i64 0), .v (.int .i64 0), .v (.int .i64 0), .v (.int .i64 0), .v (.int .i64 0), .v (.string .empty), .nl true 1 none]⟩
 | 76 => some ⟨1, 8, .func, [.v .nilFunc]⟩
 | 88 => some ⟨1, 24, .slice 9, [.nl true 1 none]⟩
 | _ => none
theorem ty_ok (t : TypeId) (ti : TI) (h : ty t = some ti) : TIok Tryd.prog t ti := by
 unfold ty at h
 split at h
 ·cases h; exact ⟨by kernel_rfl, Tryd.underlying2, rfl⟩
 ·cases h; exact ⟨by kernel_rfl, Tryd.underlying3, rfl⟩
 ·cases h; exact ⟨by kernel_rfl, Tryd.underlying4, rfl⟩
 ·cases h; exact ⟨by kernel_rfl, Tryd.underlying5, rfl⟩
 ·cases h; exact ⟨by kernel_rfl, (show structOffs Tryd.prog 7 = some [(0, 1), (1, 1), (2, 1), (3, 1)] by kernel_rfl), rfl⟩
 ·cases h; exact ⟨by kernel_rfl, Tryd.underlying9, rfl⟩
 ·cases h; exact ⟨by kernel_rfl, Tryd.underlying12, rfl⟩
 ·cases h; exact ⟨by kernel_rfl, (show structOffs Tryd.prog 13 = some [(0, 1), (1, 1)] by kernel_rfl), rfl⟩
 ·cases h; exact ⟨by kernel_rfl, Tryd.underlying22, rfl⟩
 ·cases h; exact ⟨by kernel_rfl, Tryd.underlying23, rfl⟩
 ·cases h; exact ⟨by kernel_rfl, (show structOffs Tryd.prog 24 = some [(0, 1), (1, 1), (2, 1), (3, 1)] by kernel_rfl), rfl⟩
 ·cases h; exact ⟨by kernel_rfl, (show structOffs Tryd.prog 25 = some [(0, 1), (1, 1), (2, 1), (3, 1)] by kernel_rfl), rfl⟩
 ·cases h; exact ⟨by kernel_rfl, Tryd.underlying27, rfl⟩
 ·cases h; exact ⟨by kernel_rfl, Tryd.underlying29, rfl⟩
 ·cases h; exact ⟨by kernel_rfl, (show structOffs Tryd.prog 30 = some [(0, 1), (1, 1), (2, 1), (3, 1)] by kernel_rfl), rfl⟩
 ·cases h; exact ⟨by kernel_rfl, (show structOffs Tryd.prog 31 = some [(0, 1), (1, 1), (2, 1), (3, 1)] by kernel_rfl), rfl⟩
 ·cases h; exact ⟨by kernel_rfl, Tryd.underlying39, rfl⟩
 ·cases h; exact ⟨by kernel_rfl, Tryd.underlying48, rfl⟩
 ·cases h; exact ⟨by kernel_rfl, Tryd.underlying53, rfl⟩
 ·cases h; exact ⟨by kernel_rfl, (show structOffs Tryd.prog 55 = some [(0, 1), (1, 1), (2, 1), (3, 1), (4, 1), (5, 1), (6, 1)] by kernel_rfl), rfl⟩
 ·cases h; exact ⟨by kernel_rfl, (show structOffs Tryd.prog 56 = some [(0, 1), (1, 1), (2, 1), (3, 1), (4, 1), (5, 1), (6, 1)] by kernel_rfl), rfl⟩
 ·cases h; exact ⟨by kernel_rfl, (show structOffs Tryd.prog 66 = some [(0, 1), (1, 1), (2, 1)] by kernel_rfl), rfl⟩
 ·cases h; exact ⟨by kernel_rfl, (show structOffs Tryd.prog 67 = some [(0, 1), (1, 1), (2, 1)] by kernel_rfl), rfl⟩
 ·cases h; exact ⟨by kernel_rfl, (show structOffs Tryd.prog 71 = some [(0, 1), (1, 1), (2, 1), (3, 1), (4, 1), (5, 1), (6, 1)] by kernel_rfl), rfl⟩
 ·cases h; exact ⟨by kernel_rfl, ⟨_, _, _, Tryd.underlying76⟩, rfl⟩
 ·cases h; exact ⟨by kernel_rfl, Tryd.underlying88, rfl⟩
 cases h
noncomputable def E : Env := ⟨Tryd.prog, ty, ty_ok, by kernel_rfl, [(0, fun cs => ∃ m, cs[0]? = some (.int .i64 m))]⟩
@[simp] theorem E_ty2 : E.ty 2 = some ⟨1, 8, .int .i64, [.v (.int .i64 0)]⟩ := rfl
@[simp] theorem E_ty3 : E.ty 3 = some ⟨1, 8, .int .i64, [.v (.int .i64 0)]⟩ := rfl
@[simp] theorem E_ty4 : E.ty 4 = some ⟨1, 1, .bool, [.v (.bool false)]⟩ := rfl
@[simp] theorem E_ty5 : E.ty 5 = some ⟨1, 1, .int .u8, [.v (.int .u8 0)]⟩ := rfl
@[simp] theorem E_ty7 : E.ty 7 = some ⟨4, 24, .struct [(0, 1), (1, 1), (2, 1), (3, 1)], [.v (.int .i64 0), .v (.int .i64 0), .v (.bool false), .v (.int .u8 0)]⟩ := rfl
@[simp] theorem E_ty9 : E.ty 9 = some ⟨1, 16, .str, [.v (.string .empty)]⟩ := rfl
@[simp] theorem E_ty12 : E.ty 12 = some ⟨1, 8, .int .u64, [.v (.int .u64 0)]⟩ := rfl
@[simp] theorem E_ty13 : E.ty 13 = some ⟨2, 24, .struct [(0, 1), (1, 1)], [.v (.string .empty), .v (.int .u64 0)]⟩ := rfl
@[simp] theorem E_ty22 : E.ty 22 = some ⟨1, 24, .slice 3, [.nl true 1 none]⟩ := rfl
@[simp] theorem E_ty23 : E.ty 23 = some ⟨1, 24, .slice 71, [.nl true 7 none]⟩ := rfl
@[simp] theorem E_ty24 : E.ty 24 = some ⟨4, 72, .struct [(0, 1), (1, 1), (2, 1), (3, 1)], [.v (.string .empty), .v (.int .i64 0), .nl true 1 none, .nl true 7 none]⟩ := rfl
@[simp] theorem E_ty25 : E.ty 25 = some ⟨4, 72, .struct [(0, 1), (1, 1), (2, 1), (3, 1)], [.v (.string .empty), .v (.int .i64 0), .nl true 1 none, .nl true 7 none]⟩ := rfl
@[simp] theorem E_ty27 : E.ty 27 = some ⟨1, 24, .slice 53, [.nl true 1 none]⟩ := rfl
@[simp] theorem E_ty29 : E.ty 29 = some ⟨1, 24, .slice 56, [.nl true 7 none]⟩ := rfl
@[simp] theorem E_ty30 : E.ty 30 = some ⟨4, 72, .struct [(0, 1), (1, 1), (2, 1), (3, 1)], [.v (.string .empty), .v (.int .i64 0), .nl true 1 none, .nl true 7 none]⟩ := rfl
@[simp] theorem E_ty31 : E.ty 31 = some ⟨4, 72, .struct [(0, 1), (1, 1), (2, 1), (3, 1)], [.v (.string .empty), .v (.int .i64 0), .nl true 1 none, .nl true 7 none]⟩ := rfl
@[simp] theorem E_ty39 : E.ty 39 = some ⟨1, 24, .slice 4, [.nl true 1 none]⟩ := rfl
@[simp] theorem E_ty48 : E.ty 48 = some ⟨1, 24, .slice 67, [.nl true 3 none]⟩ := rfl
@[simp] theorem E_ty53 : E.ty 53 = some ⟨1, 24, .slice 39, [.nl true 1 none]⟩ := rfl
@[simp] theorem E_ty55 : E.ty 55 = some ⟨7, 80, .struct [(0, 1), (1, 1), (2, 1), (3, 1), (4, 1), (5, 1), (6, 1)], [.v (.int .i64 0), .v (.int .i64 0), .v (.int .i64 0), .v (.int .i64 0), .v (.int .i64 0), .v (.string .empty), .nl true 1 none]⟩ := rfl
@[simp] theorem E_ty56 : E.ty 56 = some ⟨7, 80, .struct [(0, 1), (1, 1), (2, 1), (3, 1), (4, 1), (5, 1), (6, 1)], [.v (.int .i64 0), .v (.int .i64 0), .v (.int .i64 0), .v (.int .i64 0), .v (.int .i64 0), .v (.string .empty), .nl true 1 none]⟩ := rfl
@[simp] theorem E_ty66 : E.ty 66 = some ⟨3, 24, .struct [(0, 1), (1, 1), (2, 1)], [.v (.int .i64 0), .v (.int .i64 0), .v (.bool false)]⟩ := rfl
@[simp] theorem E_ty67 : E.ty 67 = some ⟨3, 24, .struct [(0, 1), (1, 1), (2, 1)], [.v (.int .i64 0), .v (.int .i64 0), .v (.bool false)]⟩ := rfl
@[simp] theorem E_ty71 : E.ty 71 = some ⟨7, 80, .struct [(0, 1), (1, 1), (2, 1), (3, 1), (4, 1), (5, 1), (6, 1)], [.v (.int .i64 0), .v (.int .i64 0), .v (.int .i64 0), .v (.int .i64 0), .v (.int .i64 0), .v (.string .empty), .nl true 1 none]⟩ := rfl
@[simp] theorem E_ty76 : E.ty 76 = some ⟨1, 8, .func, [.v .nilFunc]⟩ := rfl
@[simp] theorem E_ty88 : E.ty 88 = some ⟨1, 24, .slice 9, [.nl true 1 none]⟩ := rfl
end Go.Proofs.T
namespace Go.OM
section
variable {α β ρ γ δ : Type} {X : Option α} {r : α} {Φ P Q : Prop} {C : Ctx} {E : Env} {σ τ : St} {S : Exit → St → Prop} {c d : Code} {K : St → Prop} {ops os l : List Oper} {o : Oper} {n id id' : Nat} {ks : List Nat} {xs : Array Oper}
theorem f_get {l : List β} {i : Int} {x : β → Option α} {B : Prop} {j : Nat} (k : ∀ y, Hg (Φ ∧ 0 ≤ i ∧ i < l.length ∧ B ∧ j < l.length ∧ l[j]? = some y ∧ (∀ hl : j < l.length, l[j]'hl = y)) (x y) r P)
  (hj : i.toNat = j := by first | (simp; done) | (simp; rfl) | rfl) (hB : i < l.length → B := by first | (intro h; simp at h; exact h) | exact fun _ => trivial) : Hg Φ ((getI l i).bind x) r P := fun f e => by
 obtain ⟨y, h1, h2⟩ := bS e
 obtain ⟨a, b, c, d⟩ := gS h1
 subst hj
 exact k y ⟨f, a, b, hB b, by omega, c, d⟩ h2
theorem f_at {z : ByteArray} {i : Int} {x : Int → Option α} {j : Nat} (k : ∀ y, Hg (Φ ∧ 0 ≤ i ∧ i < z.size ∧ j < z.size ∧ byteAt z i = y) (x y) r P)
  (hj : i.toNat = j := by first | (simp; done) | (simp; rfl) | rfl) : Hg Φ ((sAt z i).bind x) r P := fun f e => by
 obtain ⟨y, h1, h2⟩ := bS e
 obtain ⟨a, b, c⟩ := sAt_some h1
 subst hj
 exact k y ⟨f, a, b, by omega, c⟩ h2
theorem f_sub {z : ByteArray} {lo hi : Int} {x : ByteArray → Option α} (k : ∀ y, Hg (Φ ∧ 0 ≤ lo ∧ 0 ≤ hi ∧ lo.toNat ≤ hi.toNat ∧ hi.toNat ≤ z.size ∧ z.extract lo.toNat hi.toNat = y ∧ max lo 0 ≤ hi ∧ lo ≤ hi ∧ hi ≤ z.size) (x y) r P) : Hg Φ ((sSub z lo hi).bind x) r P := fun f e => by
 obtain ⟨y, h1, h2⟩ := bS e
 exact k y ⟨f, sSub_some h1⟩ h2
theorem f_cat {z w : ByteArray} {x : ByteArray → Option α} (k : ∀ y, Hg (Φ ∧ z.size + w.size ≤ 9223372036854775807 ∧ z ++ w = y) (x y) r P) : Hg Φ ((sCat z w).bind x) r P := fun f e => by
 obtain ⟨y, h1, h2⟩ := bS e
 exact k y ⟨f, sCat_some h1⟩ h2
theorem f_rem {a b : Int} {x : Int → Option α} {J : Int → Prop} (k : ∀ y, Hg (Φ ∧ (remI a b = some y) ∧ J y) (x y) r P) (hJ : ∀ y, remI a b = some y → J y := by intro y h; have h := remI_some h; first | (simp at h; exact h) | exact h) : Hg Φ ((remI a b).bind x) r P := fun f e => by
 obtain ⟨y, h1, h2⟩ := bS e
 exact k y ⟨f, h1, hJ y h1⟩ h2
theorem f_shl {kk : IntKind} {a b : Int} {x : Int → Option α} (k : ∀ y, Hg (Φ ∧ ¬ b < 0 ∧ kk.wrap (a * 2 ^ (min b.toNat kk.bits)) = y) (x y) r P) : Hg Φ ((shlI kk a b).bind x) r P := fun f e => by
 obtain ⟨y, h1, h2⟩ := bS e
 exact k y ⟨f, shlI_some h1⟩ h2
theorem f_shr {kk : IntKind} {a b : Int} {x : Int → Option α} (k : ∀ y, Hg (Φ ∧ ¬ b < 0 ∧ a.fdiv (2 ^ (min b.toNat kk.bits)) = y) (x y) r P) : Hg Φ ((shrI kk a b).bind x) r P := fun f e => by
 obtain ⟨y, h1, h2⟩ := bS e
 exact k y ⟨f, shrI_some h1⟩ h2
class Enc (β : Type) where
 all : ((β → T) → Prop) → Prop
 pf : ∀ P, (∀ f, P f) → all P
instance : Enc Int := ⟨fun P => P vi ∧ P (vk .u8), fun _ h => ⟨h _, h _⟩⟩
instance : Enc Bool := ⟨fun P => P vb, fun _ h => h _⟩
instance : Enc ByteArray := ⟨fun P => P vs, fun _ h => h _⟩
instance : Enc (List Int) := ⟨fun P => P (eSl true 1 vi) ∧ P (eSl false 1 vi), fun _ h => ⟨h _, h _⟩⟩
instance : Enc (List Bool) := ⟨fun P => P (eSl true 1 vb) ∧ P (eSl false 1 vb), fun _ h => ⟨h _, h _⟩⟩
instance : Enc (List (List Bool)) := ⟨fun P => P (eSl true 1 (eSl true 1 vb)) ∧ P (eSl false 1 (eSl false 1 vb)), fun _ h => ⟨h _, h _⟩⟩
instance : Enc (List ByteArray) := ⟨fun P => P (eSl true 1 vs) ∧ P (eSl false 1 vs), fun _ h => ⟨h _, h _⟩⟩
theorem f_gel {u : β} {l : List β} {i : Int} {x : β → Option α} [en : Enc β] {B : Prop} {A : β → Prop} {j : Nat} (k : ∀ y, Hg (Φ ∧ 0 ≤ i ∧ i < (u :: l).length ∧ B ∧ j < (u :: l).length ∧ (u :: l)[j]? = some y ∧ (∀ hl : j < (u :: l).length, (u :: l)[j]'hl = y) ∧ A y) (x y) r P)
  (hj : i.toNat = j := by first | (simp; done) | (simp; rfl) | rfl) (hB : i < (u :: l).length → B := by first | (intro h; simp at h; exact h) | exact fun _ => trivial)
  (hA : ∀ y, en.all (fun f => ((u :: l).map f)[j]? = some (f y) ∧ ∀ hl : j < ((u :: l).map f).length, ((u :: l).map f)[j]'hl = f y) → A y := by intro y h; simp only [Enc.all, List.map_cons, List.map_nil] at h; exact h) : Hg Φ ((getI (u :: l) i).bind x) r P := fun f e => by
 obtain ⟨y, h1, h2⟩ := bS e
 obtain ⟨a, b, c, d⟩ := gS h1
 subst hj
 have hm : ∀ g : β → T, ((u :: l).map g)[i.toNat]? = some (g y) := fun g => by rw [List.getElem?_map, c]; rfl
 exact k y ⟨f, a, b, hB b, by omega, c, d, hA y (en.pf _ fun g => ⟨hm g, fun hl => (List.getElem?_eq_some_iff.1 (hm g)).2⟩)⟩ h2
instance : Enc GIns := ⟨fun P => P (GIns.enc true) ∧ P (GIns.enc false), fun _ h => ⟨h _, h _⟩⟩
instance : Enc GCode := ⟨fun P => P (GCode.enc true) ∧ P (GCode.enc false), fun _ h => ⟨h _, h _⟩⟩
instance : Enc GLoan := ⟨fun P => P GLoan.enc, fun _ h => h _⟩
theorem f_set {l : List β} {j : Nat} {z : β} {x : List β → Option α} [en : Enc β] {A : List β → Prop} (k : ∀ y, Hg (Φ ∧ A y) (x y) r P)
  (hA : ∀ y, en.all (fun f => (l.map f).set j (f z) = y.map f) → A y := by intro y h; simp [Enc.all] at h; exact h) : Hg Φ (bindS (l.set j z) x) r P := fun f e => by
 obtain ⟨y, h1, h2⟩ := bZ e
 exact k y ⟨f, hA y (en.pf _ fun _ => set_map h1)⟩ h2
theorem f_ap0 {m : Nat} {b : List β} {x : List β → Option α} {L : Prop} (k : ∀ y, Hg (Φ ∧ L) (x y) r P)
  (hL : (([] : List β).length + b.length) * m ≤ 140737488355328 ∧ ([] : List β).length + b.length ≤ 140737488355328 → L := by first | (intro h; simp at h; exact h) | exact fun _ => trivial) : Hg Φ ((appI m [] b).bind x) r P := fun f e => by
 obtain ⟨y, h1, h2⟩ := bS e
 obtain ⟨a1, a2, a3⟩ := aS h1
 exact k y ⟨f, hL ⟨a1, a2⟩⟩ h2
theorem f_app {m : Nat} {a b : List β} {x : List β → Option α} [en : Enc β] {L : Prop} {A : List β → Prop} (k : ∀ y, Hg (Φ ∧ L ∧ A y) (x y) r P)
  (hL : (a.length + b.length) * m ≤ 140737488355328 ∧ a.length + b.length ≤ 140737488355328 → L := by first | (intro h; simp at h; exact h) | exact fun _ => trivial)
  (hA : ∀ y, en.all (fun f => a.map f ++ b.map f = y.map f) → A y := by intro y h; simp [Enc.all] at h; exact h) : Hg Φ ((appI m a b).bind x) r P := fun f e => by
 obtain ⟨y, h1, h2⟩ := bS e
 obtain ⟨a1, a2, a3⟩ := aS h1
 exact k y ⟨f, hL ⟨a1, a2⟩, hA y (en.pf _ fun _ => app_map a3)⟩ h2
theorem f_mk {m n : Int} {z : β} {x : List β → Option α} [en : Enc β] {L : Prop} {A : List β → Prop} (k : ∀ y, Hg (Φ ∧ 0 ≤ n ∧ m * n ≤ 140737488355328 ∧ n ≤ 140737488355328 ∧ L ∧ A y) (x y) r P)
  (hL : 0 ≤ n ∧ m * n ≤ 140737488355328 ∧ n ≤ 140737488355328 → L := by first | (intro h; simp at h; exact h) | exact fun _ => trivial)
  (hA : ∀ y, en.all (fun f => List.replicate n.toNat (f z) = y.map f) → A y := by intro y h; simp [Enc.all] at h; exact h) : Hg Φ ((mkI m n z).bind x) r P := fun f e => by
 obtain ⟨y, h1, h2⟩ := bS e
 obtain ⟨a1, a2, a3, a4⟩ := mS h1
 exact k y ⟨f, a1, a2, a3, hL ⟨a1, a2, a3⟩, hA y (en.pf _ fun _ => rep_map a4)⟩ h2
theorem f_sl {l : List β} {lo hi : Int} {x : List β → Option α} [en : Enc β] {A : List β → Prop} (k : ∀ y, Hg (Φ ∧ 0 ≤ lo ∧ 0 ≤ hi ∧ lo.toNat ≤ hi.toNat ∧ lo.toNat ≤ l.length ∧ hi.toNat ≤ l.length ∧ max lo 0 ≤ hi ∧ lo ≤ hi ∧ hi ≤ l.length ∧ A y) (x y) r P)
  (hA : ∀ y, en.all (fun f => ((l.map f).take hi.toNat).drop lo.toNat = y.map f) → A y := by intro y h; simp [Enc.all] at h; exact h) : Hg Φ ((subI l lo hi).bind x) r P := fun f e => by
 obtain ⟨y, h1, h2⟩ := bS e
 obtain ⟨a, b, c, d, e', f', g, h⟩ := subI_some h1
 exact k y ⟨f, a, b, c, by omega, d, f', g, h, hA y (en.pf _ fun _ => sub_map e')⟩ h2
theorem f_if {b : Bool} {p q : Option α} {B N : Prop} (k : (b = true → Hg (Φ ∧ b = true ∧ B) p r P) ∧ (¬ b = true → Hg (Φ ∧ ¬ b = true ∧ N) q r P))
  (hB : b = true → B := by first | (intro h; simp at h; exact h) | exact fun _ => trivial) (hN : ¬ b = true → N := by first | (intro h; simp at h; exact h) | exact fun _ => trivial) : Hg Φ (if b = true then p else q) r P := fun f e => by
 by_cases hb : b = true
 ·rw [if_pos hb] at e; exact k.1 hb ⟨f, hb, hB hb⟩ e
 rw [if_neg hb] at e; exact k.2 hb ⟨f, hb, hN hb⟩ e
theorem f_ie {x y : Int} {p q : Option α} {B N : Prop} (k : ((x == y) = true → Hg (Φ ∧ (x == y) = true ∧ (x != y) = false ∧ B) p r P) ∧ (¬ (x == y) = true → Hg (Φ ∧ (x == y) = false ∧ (x != y) = true ∧ N) q r P))
  (hB : (x == y) = true → B := by first | (intro h; simp at h; exact h) | exact fun _ => trivial) (hN : ¬ (x == y) = true → N := by first | (intro h; simp at h; exact h) | exact fun _ => trivial) : Hg Φ (if (x == y) = true then p else q) r P := fun f e => by
 by_cases hb : (x == y) = true
 ·rw [if_pos hb] at e; exact k.1 hb ⟨f, hb, by simp only [bne, hb, Bool.not_true], hB hb⟩ e
 rw [if_neg hb] at e; exact k.2 hb ⟨f, by simpa using hb, by simpa using hb, hN hb⟩ e
theorem f_in {x y : Int} {p q : Option α} {B N : Prop} (k : ((x != y) = true → Hg (Φ ∧ (x != y) = true ∧ (x == y) = false ∧ B) p r P) ∧ (¬ (x != y) = true → Hg (Φ ∧ (x != y) = false ∧ (x == y) = true ∧ N) q r P))
  (hB : (x != y) = true → B := by first | (intro h; simp at h; exact h) | exact fun _ => trivial) (hN : ¬ (x != y) = true → N := by first | (intro h; simp at h; exact h) | exact fun _ => trivial) : Hg Φ (if (x != y) = true then p else q) r P := fun f e => by
 by_cases hb : (x != y) = true
 ·rw [if_pos hb] at e; exact k.1 hb ⟨f, hb, by simpa using hb, hB hb⟩ e
 rw [if_neg hb] at e; exact k.2 hb ⟨f, by simpa using hb, by simpa using hb, hN hb⟩ e
def Ct (C : Ctx) (n : Nat) (ks kb : List Nat) (inv : γ → St) (v : γ) (σ : St) : Prop := ∃ fz, σ.shed C.N fz ks kb = some (inv v)
def Lp (C : Ctx) (n : Nat) (ks kb : List Nat) (inv : γ → St) (s : γ ⊕ δ) (σ : St) : Prop := ∃ v, s = .inl v ∧ Ct C n ks kb inv v σ
def ownAV : AV → Bool
 | .t x => x.own1
 | _ => false
def fzOf (ks : List Nat) (σ τ : St) : List Nat := ks.filter fun n => ownAV (σ.get n) && !ownAV (τ.get n)
def upS (ks kb : List Nat) (σ : St) (tm : List (Nat × AV)) (bx : List (Nat × List T)) : St := ⟨putL (σ.keep ks kb).tm tm, putX (σ.keep ks kb).bx bx⟩
theorem h_lv {v' v : γ} {kb kc : List Nat} {inv : γ → St} (cx : Cx C n kc := by assumption) (h : Φ → ∃ fz, σ.shed n fz ks kb = some (inv v') := by intro f; first | (refine ⟨[], ?_⟩; simp [f]; done) | (refine ⟨[], ?_⟩; simp [f, *]; done) | (refine ⟨fzOf ks σ (inv v'), ?_⟩; simp [f, fzOf, ownAV, T.own1, T.ro, T.roL]; done) | fail) : Hg Φ (some v') v (Ct C n ks kb inv v σ) := fun f e => by
 cases e
 unfold Ct
 rw [cx.1]; exact h f
theorem h_ll {v' : γ} {v : γ ⊕ δ} {kb kc : List Nat} {inv : γ → St} (cx : Cx C n kc := by assumption) (h : Φ → ∃ fz, σ.shed n fz ks kb = some (inv v') := by intro f; first | (refine ⟨[], ?_⟩; simp [f]; done) | (refine ⟨[], ?_⟩; simp [f, *]; done) | (refine ⟨fzOf ks σ (inv v'), ?_⟩; simp [f, fzOf, ownAV, T.own1, T.ro, T.roL]; done) | fail) : Hg Φ (some (.inl v')) v (Lp C n ks kb inv v σ) := fun f e => by
 cases e
 refine ⟨v', rfl, ?_⟩
 unfold Ct
 rw [cx.1]; exact h f
theorem h_lo {z : δ} {s : γ ⊕ δ} {out : δ} (k : Hg Φ (some z) out P) (ho : ∀ o, s = .inr o → o = out := by assumption) : Hg Φ (some (.inr z)) s P := fun f e => k f (congrArg some (ho z (Option.some.inj e).symm))
def cid : Code → Nat
 | .region id _ _ => id
 | .seq c _ => cid c
 | .block _ c => cid c
 | .loop c => cid c
 | .cond _ c _ => cid c
 | _ => 0
def csz : Code → Nat
 | .seq c d => csz c + csz d + 1
 | .block _ c => csz c + 1
 | .loop c => csz c + 1
 | .cond _ c d => csz c + csz d + 1
 | _ => 1
theorem h_loop {f F : γ → Option (γ ⊕ δ)} {g0 : γ} {out : δ} {inv : γ → St} {kc : List Nat} (i : Nat) (ks kb : List Nat) (tm : γ → List (Nat × AV)) (bx : γ → List (Nat × List T)) (hF : f = F) (k : ∀ g s, (∀ o, s = .inr o → o = out) → Hg True (F g) s (M E C c (thenS (Lp C n ks kb inv s) S) (inv g)))
  (hi : cid c * 1000 + csz c = i := by rfl) (cx : Cx C n kc := by assumption) (hv : ∀ v, upS ks kb σ (tm v) (bx v) = inv v := by intro v; simp [upS, putL, putX]; rfl) (hk : Φ → ∃ fz, σ.shed n fz ks kb = some (inv g0) := by intro f; first | (refine ⟨[], ?_⟩; simp [f]; done) | (refine ⟨[], ?_⟩; simp [f, *]; done) | (refine ⟨fzOf ks σ (inv g0), ?_⟩; simp [f, fzOf, ownAV, T.own1, T.ro, T.roL]; done) | fail) : Hg Φ (loopP f g0) out (M E C (.loop c) S σ) := fun h e => by
 subst hF
 obtain ⟨fz, hk⟩ := hk h
 refine M.loopO fz ks kb inv f out g0 e (by rw [cx.1]; exact hk) fun g s h1 h2 => (k g s h2 trivial h1).mono fun e σ h3 => ?_
 cases e with
 | normal =>
  obtain ⟨v, h4, fz, h5⟩ := h3
  exact ⟨v, fz, h4, h5⟩
 | _ => exact h3
theorem h_cut {t : Option γ} {x : γ → Option α} {inv : γ → St} {kc : List Nat} (i : Nat) (ks kb : List Nat) (tm : γ → List (Nat × AV)) (bx : γ → List (Nat × List T)) (k : (∀ v, Hg Φ t v (M E C c (thenS (Ct C n ks kb inv v) S) σ)) ∧ ∀ v, Hg True (x v) r (M E C d S (inv v)))
  (hi : cid c * 1000 + csz c = i := by rfl) (cx : Cx C n kc := by assumption) (hv : ∀ v, upS ks kb σ (tm v) (bx v) = inv v := by intro v; simp [upS, putL, putX]; rfl) : Hg Φ (t.bind x) r (M E C (.seq c d) S σ) := fun h e => by
 obtain ⟨v, h1, h2⟩ := bS e
 refine M.seq ((k.1 v h h1).mono fun e σ h3 => ?_)
 cases e with
 | normal =>
  obtain ⟨fz, h5⟩ := h3
  exact M.shed h5 (k.2 v trivial h2)
 | _ => exact h3
theorem h_cutE {t : Option (γ ⊕ α)} {x : γ ⊕ α → Option α} {inv : γ → St} {kc : List Nat} (i : Nat) (ks kb : List Nat) (tm : γ → List (Nat × AV)) (bx : γ → List (Nat × List T)) (k : (∀ s, (∀ o, s = .inr o → o = r) → Hg Φ t s (M E C c (thenS (Lp C n ks kb inv s) S) σ)) ∧ ∀ v, Hg True (x (.inl v)) r (M E C d S (inv v)))
  (hi : cid c * 1000 + csz c = i := by rfl) (cx : Cx C n kc := by assumption) (hx : ∀ z, x (.inr z) = some z := by intro z; rfl) (hv : ∀ v, upS ks kb σ (tm v) (bx v) = inv v := by intro v; simp [upS, putL, putX]; rfl) : Hg Φ (t.bind x) r (M E C (.seq c d) S σ) := fun h e => by
 obtain ⟨s, h1, h2⟩ := bS e
 refine M.seq ((k.1 s (fun z hz => by rw [hz, hx] at h2; exact Option.some.inj h2) h h1).mono fun e σ h3 => ?_)
 cases e with
 | normal =>
  obtain ⟨v, h4, fz, h5⟩ := h3
  subst h4
  exact M.shed h5 (k.2 v trivial h2)
 | _ => exact h3
theorem h_cutR {t : Option γ} {x : γ → Option α} {inv : γ → St} {kc : List Nat} (i : Nat) (ks kb : List Nat) (tm : γ → List (Nat × AV)) (bx : γ → List (Nat × List T)) (k : (∀ v, Hg Φ t v (σ.wps E C.N l l (Ct C n ks kb inv v))) ∧ ∀ v, Hg True (x v) r (M E C d S (inv v)))
  (hi : id = i := by rfl) (cx : Cx C n kc := by assumption) (hl : xs.toList = l := by rfl) (hp : pinK kc l = true := by rfl) (hv : ∀ v, upS ks kb σ (tm v) (bx v) = inv v := by intro v; simp [upS, putL, putX]; rfl) : Hg Φ (t.bind x) r (M E C (.seq (.region id xs false) d) S σ) := fun h e => by
 obtain ⟨v, h1, h2⟩ := bS e
 subst hl
 refine M.seq ((M.region (S := thenS (Ct C n ks kb inv v) fun _ _ => False) (cx.2 _ hp) (k.1 v h h1)).mono fun e σ h3 => ?_)
 cases e with
 | normal =>
  obtain ⟨fz, h5⟩ := h3
  exact M.shed h5 (k.2 v trivial h2)
 | _ => exact h3.elim
section
variable {g : Operand} {ys : List Operand} {f : FuncId} {args : List Arg} {ms : List (Mode × Operand)} {β1 β2 β3 β4 : Type}
theorem h_cc {e : Option β} {x : β → Option α} {res : β → List T} {outs : β → List (List T)} {τ : β → St} (k : ∀ y, Hg Φ (x y) r ((τ y).wps E C.N ops os K)) (cx : Cx C n ks) (hc : callOf o = some (g, ys)) (hf : σ.fn g = some f) (con : ∀ y, Con E f (e = some y) args (res y) (outs y)) (en : Ent E f)
  (hl : args.length = ys.length) (hm : Φ → modes σ ys args = ms) (h1 : Φ → ∀ y, σ.wants ops o = some true ∧ lendK args (fun pls σ2 => optK (fun s => s = τ y) (St.land n o.dst (ms.any fun m => m.1.isBor) pls (res y) (outs y) σ2)) (σ.lend n ms)) : Hg Φ (e.bind x) r (σ.wps E C.N ops (o :: os) K) := fun f e' => by
 obtain ⟨y, he, hx⟩ := bS e'
 have hk := k y f hx
 have h2 := h1 f y
 exact @h_call0 C E σ (τ y) K ops os o n ks g ys _ args (res y) (outs y) ms _ (con y) en he cx hc hl (hm f) ⟨h2.1, hf, h2.2⟩ hk
theorem h_c0 {e : Option Unit} {x : Unit → Option α} {res : List T} {outs : List (List T)} {τ : St} (k : Hg Φ (x ()) r (τ.wps E C.N ops os K)) (cx : Cx C n ks := by assumption) (hc : callOf o = some (g, ys) := by rfl) (hf : σ.fn g = some f := by first | rfl | (simp; done) | (simp; rfl)) (con : Con E f (e = some ()) args res outs := by infer_instance) (en : Ent E f := by infer_instance)
  (hl : args.length = ys.length := by rfl) (hm : Φ → modes σ ys args = ms := by first | (intro f; simp [modes, modeOf, T.own1, f]; done) | (intro f; simp [modes, modeOf, T.own1, f]; rfl))
  (h1 : Φ → σ.wants ops o = some true ∧ lendK args (fun pls σ2 => optK (fun s => s = τ) (St.land n o.dst (ms.any fun m => m.1.isBor) pls res outs σ2)) (σ.lend n ms) := by first | (intro f; simp [f]; rfl) | (intro f; simp [f, *]; rfl)) : Hg Φ (e.bind x) r (σ.wps E C.N ops (o :: os) K) :=
 h_cc (τ := fun _ => τ) (fun _ => k) cx hc hf (fun _ => con) en hl hm fun f _ => h1 f
theorem h_c2 {e : Option (β1 × β2)} {x : β1 × β2 → Option α} {x' : β1 → β2 → Option α} {res : β1 → β2 → List T} {outs : β1 → β2 → List (List T)} {τ : β1 → β2 → St} (k : ∀ y z, Hg Φ (x' y z) r ((τ y z).wps E C.N ops os K)) (cx : Cx C n ks := by assumption) (hc : callOf o = some (g, ys) := by rfl) (hf : σ.fn g = some f := by first | rfl | (simp; done) | (simp; rfl)) (con : ∀ y z, Con E f (e = some (y, z)) args (res y z) (outs y z) := by infer_instance) (en : Ent E f := by infer_instance)
  (hl : args.length = ys.length := by rfl) (hm : Φ → modes σ ys args = ms := by first | (intro f; simp [modes, modeOf, T.own1, f]; done) | (intro f; simp [modes, modeOf, T.own1, f]; rfl))
  (h1 : Φ → ∀ y z, σ.wants ops o = some true ∧ lendK args (fun pls σ2 => optK (fun s => s = τ y z) (St.land n o.dst (ms.any fun m => m.1.isBor) pls (res y z) (outs y z) σ2)) (σ.lend n ms) := by first | (intro f y z; simp [f]; rfl) | (intro f y z; simp [f, *]; rfl)) (hx : ∀ y z, x (y, z) = x' y z := by intro y z; first | (dsimp only; rfl) | rfl) : Hg Φ (e.bind x) r (σ.wps E C.N ops (o :: os) K) :=
 h_cc (res := fun p => res p.1 p.2) (outs := fun p => outs p.1 p.2) (τ := fun p => τ p.1 p.2) (fun p => by have := hx p.1 p.2; rw [show x p = x' p.1 p.2 from this]; exact k p.1 p.2) cx hc hf (fun p => con p.1 p.2) en hl hm fun f p => h1 f p.1 p.2
theorem h_c3 {e : Option (β1 × β2 × β3)} {x : β1 × β2 × β3 → Option α} {x' : β1 → β2 → β3 → Option α} {res : β1 → β2 → β3 → List T} {outs : β1 → β2 → β3 → List (List T)} {τ : β1 → β2 → β3 → St} (k : ∀ y z u, Hg Φ (x' y z u) r ((τ y z u).wps E C.N ops os K)) (cx : Cx C n ks := by assumption) (hc : callOf o = some (g, ys) := by rfl) (hf : σ.fn g = some f := by first | rfl | (simp; done) | (simp; rfl)) (con : ∀ y z u, Con E f (e = some (y, z, u)) args (res y z u) (outs y z u) := by infer_instance) (en : Ent E f := by infer_instance)
  (hl : args.length = ys.length := by rfl) (hm : Φ → modes σ ys args = ms := by first | (intro f; simp [modes, modeOf, T.own1, f]; done) | (intro f; simp [modes, modeOf, T.own1, f]; rfl))
  (h1 : Φ → ∀ y z u, σ.wants ops o = some true ∧ lendK args (fun pls σ2 => optK (fun s => s = τ y z u) (St.land n o.dst (ms.any fun m => m.1.isBor) pls (res y z u) (outs y z u) σ2)) (σ.lend n ms) := by first | (intro f y z u; simp [f]; rfl) | (intro f y z u; simp [f, *]; rfl)) (hx : ∀ y z u, x (y, z, u) = x' y z u := by intro y z u; first | (dsimp only; rfl) | rfl) : Hg Φ (e.bind x) r (σ.wps E C.N ops (o :: os) K) :=
 h_cc (res := fun p => res p.1 p.2.1 p.2.2) (outs := fun p => outs p.1 p.2.1 p.2.2) (τ := fun p => τ p.1 p.2.1 p.2.2) (fun p => by have := hx p.1 p.2.1 p.2.2; rw [show x p = x' p.1 p.2.1 p.2.2 from this]; exact k p.1 p.2.1 p.2.2) cx hc hf (fun p => con p.1 p.2.1 p.2.2) en hl hm fun f p => h1 f p.1 p.2.1 p.2.2
theorem ent_of {fn : Func} (hf : E.P.funcs[f]? = some fn) (hn : (fn.name == "runtime.NumGoroutine") = false := by decide +kernel) (hb : fn.body.isNone = false := by rfl) : Ent E f := ⟨eO hf hn hb⟩
end
theorem wps_mono {N : Nat} {K K' : St → Prop} (hK : ∀ σ, K σ → K' σ) : ∀ (os : List Oper) (σ : St), σ.wps E N ops os K → σ.wps E N ops os K'
 | [], σ, h => hK _ h
 | o :: os, σ, h => by
  simp only [St.wps] at h ⊢
  split at h
  ·obtain ⟨σ1, h1, h2⟩ := h
   exact ⟨σ1, h1, wps_mono hK os _ h2⟩
  ·split at h
   ·rcases h with ⟨f, hf, he, ⟨ms, args, pls, σ2, hms, hl, res, outs, hok, σ1, hb, hr⟩ | ⟨pre, x, xs', y', res, args, σ1, h0, hl, hok, hr⟩⟩ | ⟨f, n, ms, mc, args, pls, σ2, hf, he, hms, hmc, hl, res, outs, hok, σ1, hb, hr⟩
    ·exact .inl ⟨f, hf, he, .inl ⟨ms, args, pls, σ2, hms, hl, res, outs, hok, σ1, hb, wps_mono hK os _ hr⟩⟩
    ·exact .inl ⟨f, hf, he, .inr ⟨pre, x, xs', y', res, args, σ1, h0, hl, hok, wps_mono hK os _ hr⟩⟩
    exact .inr ⟨f, n, ms, mc, args, pls, σ2, hf, he, hms, hmc, hl, res, outs, hok, σ1, hb, wps_mono hK os _ hr⟩
   obtain ⟨σ1, h1, h2⟩ := h
   exact ⟨σ1, h1, wps_mono hK os _ h2⟩
  exact h
def tmpsOf : List Operand → List Nat
 | [] => []
 | .tmp n :: xs => n :: tmpsOf xs
 | .const _ :: xs => tmpsOf xs
 | .func _ :: xs => tmpsOf xs
 | .global _ :: xs => tmpsOf xs
def opSlots (l : List Oper) (o : Oper) : List Nat := (match o.guard with
 | some (j, _) => ((l[j]?).bind Oper.dst).toList
 | none => []) ++ tmpsOf o.op.operands.toList
def tdAux : List Oper → List (List Nat) → List (List Nat)
 | [], acc => acc
 | o :: os, acc => tdAux os (acc ++ [(List.range acc.length).filter fun j => o.after.toList.any fun e => Region.binds .any e && (e.on == j || (decide (e.on < acc.length) && (acc.getD e.on []).contains j))])
def tdOf (l : List Oper) : List (List Nat) := tdAux l []
def clB (l : List Oper) (m : Nat) : Bool := (List.range m).all fun i => match l[i]? with
 | some o => (opSlots l o).all fun n => (List.range m).all fun j => match (l[j]?).bind Oper.dst with
  | some d => !(d == n) || (decide (j < i) && ((tdOf l).getD i []).contains j)
  | none => false
 | none => false
def frB (l : List Oper) (m : Nat) (tm : List Nat) : Bool := (l.take m).all fun o => match o.dst with
 | some d => (tm.all fun e => !(e == d))
 | none => false
def ndB : List Oper → Bool
 | [] => true
 | o :: os => (match o.dst with
  | some d => os.all fun o' => !(o'.dst == some d)
  | none => false) && ndB os
def mOf (l : List Oper) : Nat := ((List.range (l.length + 1)).find? fun m => (List.range l.length).all fun i => decide (i < m) || ((tdOf l).getD i []).length == i).getD l.length
def drB (l : List Oper) (m : Nat) (tm : List Nat) : Bool := decide (m ≤ l.length) && ndB (l.take m) && frB l m tm && ordB 0 l && lastT (tdOf l) m l.length && tdB (tdOf l) 0 l && clB l m
def owed1 (E : Env) (C : Ctx) (σ : St) (l : List Oper) (dn : List (Nat × AV)) (o : Oper) (e : Nat × AV) : Prop :=
 ∀ τ : St, τ.bx = σ.bx → (∀ n ∈ opSlots l o, look τ.tm n = look (σ.tm ++ dn) n) → (∀ n, look σ.tm n ≠ none → look τ.tm n = look σ.tm n) → look τ.tm e.1 = some .u → ∀ K : St → Prop, K ⟨put τ.tm e.1 e.2, σ.bx⟩ → τ.wps E C.N l [o] K
def Dr (E : Env) (C : Ctx) (σ : St) (l : List Oper) (K : List (Nat × AV) → Prop) : List Oper → List (Nat × AV) → Prop
 | [], dn => K dn
 | o :: os, dn => ∃ e, o.dst = some e.1 ∧ owed1 E C σ l dn o e ∧ Dr E C σ l K os (dn ++ [e])
theorem Dr.get {K : List (Nat × AV) → Prop} : ∀ (os : List Oper) (dn : List (Nat × AV)), Dr E C σ l K os dn → ∃ vs, vs.map (fun e => some e.1) = os.map Oper.dst ∧ (∀ i o, os[i]? = some o → ∃ e, vs[i]? = some e ∧ owed1 E C σ l (dn ++ vs.take i) o e) ∧ K (dn ++ vs)
 | [], dn, h => ⟨[], rfl, fun i o h => by simp at h, by simpa [Dr] using h⟩
 | o :: os, dn, h => by
  obtain ⟨e, h1, h2, h3⟩ := h
  obtain ⟨vs, q1, q2, q3⟩ := Dr.get os (dn ++ [e]) h3
  refine ⟨e :: vs, by simp [q1, h1], fun i o' hi => ?_, by simpa using q3⟩
  cases i with
  | zero =>
   simp only [List.getElem?_cons_zero, Option.some.injEq] at hi
   subst hi
   exact ⟨e, rfl, by simpa using h2⟩
  | succ i =>
   obtain ⟨e', g1, g2⟩ := q2 i o' (by simpa using hi)
   exact ⟨e', by simpa using g1, by simpa using g2⟩
theorem allIdx_of {p : Nat → Oper → Prop} : ∀ (l : List Oper) (n : Nat), (∀ i o, l[i]? = some o → p (n + i) o) → allIdx p n l
 | [], n, h => trivial
 | o :: os, n, h => ⟨by simpa using h 0 o rfl, allIdx_of os (n + 1) fun i o' hi => by
  have := h (i + 1) o' (by simpa using hi)
  rwa [show n + (i + 1) = n + 1 + i by omega] at this⟩
theorem look_none' {tm : List (Nat × AV)} {n : Nat} (h : tm.all (fun e => !(e.1 == n)) = true) : look tm n = none := by
 induction tm with
 | nil => rfl
 | cons e tm ih =>
  obtain ⟨k, x⟩ := e
  simp only [List.all_cons, Bool.and_eq_true, Bool.not_eq_true', beq_eq_false_iff_ne] at h
  simp only [look, if_neg h.1]
  exact ih h.2
theorem look_mem : ∀ (l : List (Nat × AV)) (j : Nat) (e : Nat × AV), (l.map Prod.fst).Nodup → l[j]? = some e → look l e.1 = some e.2
 | [], j, e, _, h => by simp at h
 | (k, v) :: l, j, e, hn, h => by
  simp only [List.map_cons, List.nodup_cons] at hn
  cases j with
  | zero => simp only [List.getElem?_cons_zero, Option.some.injEq] at h; subst h; simp [look]
  | succ j =>
   simp only [List.getElem?_cons_succ] at h
   have hne : k ≠ e.1 := fun hk => hn.1 (List.mem_map.2 ⟨e, List.mem_of_getElem? h, hk.symm⟩)
   simp only [look, if_neg hne]
   exact look_mem l j e hn.2 h
theorem ndB_nd : ∀ (os : List Oper) (vs : List (Nat × AV)), ndB os = true → vs.map (fun e => some e.1) = os.map Oper.dst → (vs.map Prod.fst).Nodup
 | [], [], _, _ => by simp
 | [], _ :: _, _, h => by simp at h
 | _ :: _, [], _, h => by simp at h
 | o :: os, e :: vs, h, hv => by
  simp only [List.map_cons, List.cons.injEq] at hv
  simp only [ndB, ← hv.1, Bool.and_eq_true, List.all_eq_true, Bool.not_eq_true', beq_eq_false_iff_ne] at h
  rw [List.map_cons, List.nodup_cons]
  refine ⟨fun hm => ?_, ndB_nd os vs h.2 hv.2⟩
  obtain ⟨x, hx, he⟩ := List.mem_map.1 hm
  have : some x.1 ∈ os.map Oper.dst := by rw [← hv.2]; exact List.mem_map.2 ⟨x, hx, rfl⟩
  obtain ⟨o', h1, h2⟩ := List.mem_map.1 this
  exact h.1 o' h1 (by rw [h2, he])
theorem M.drawS (m : Nat) (hl : xs.toList = l) (hp : pinB C.pin l = true) (hb : drB l m (σ.tm.map Prod.fst) = true) (h : Dr E C σ l (fun vs => (⟨σ.tm ++ vs, σ.bx⟩ : St).wps E C.N l (l.drop m) fun σ' => S .normal σ') (l.take m) []) : M E C (.region id xs true) S σ := by
 simp only [drB, Bool.and_eq_true, decide_eq_true_eq] at hb
 obtain ⟨⟨⟨⟨⟨⟨hm, hnd⟩, hfr⟩, hord⟩, hlast⟩, htd⟩, hcl⟩ := hb
 obtain ⟨vs, q1, q2, q3⟩ := Dr.get _ _ h
 have hlen : vs.length = m := by
  have := congrArg List.length q1
  simp only [List.length_map, List.length_take] at this
  omega
 have hnd' := ndB_nd _ _ hnd q1
 have hfresh : ∀ n ∈ vs.map Prod.fst, look σ.tm n = none := by
  intro n hn
  obtain ⟨x, hx, rfl⟩ := List.mem_map.1 hn
  have : some x.1 ∈ (l.take m).map Oper.dst := by rw [← q1]; exact List.mem_map.2 ⟨x, hx, rfl⟩
  obtain ⟨o', h1, h2⟩ := List.mem_map.1 this
  have h3 := List.all_eq_true.1 hfr o' h1
  simp only [h2, List.all_map] at h3
  exact look_none' h3
 refine M.dT hl hp vs (tdOf l) (by omega) (decide_eq_true hnd') hfresh hord (by rw [hlen]; exact hlast) htd ?_ fun K hK => ?_
 ·rw [hlen]
  refine allIdx_of _ 0 fun i o hi => ?_
  rw [Nat.zero_add]
  obtain ⟨e, he, how⟩ := q2 i o hi
  have hev : vsAt vs i = e := by unfold vsAt; rw [List.getD_eq_getElem?_getD, he]; rfl
  have him : i < m := by have := (List.getElem?_eq_some_iff.1 he).1; omega
  intro τ h1 h2 h3 h4 K hK
  rw [hev] at h4 hK
  have hli : l[i]? = some o := by rw [List.getElem?_take, if_pos him] at hi; exact hi
  have hsl : ∀ n ∈ opSlots l o, ∀ j, j < m → ∀ x, vs[j]? = some x → x.1 = n → j < i ∧ j ∈ (tdOf l).getD i [] := by
   intro n hn j hj x hx hxn
   have g1 := List.all_eq_true.1 hcl i (List.mem_range.2 him)
   simp only [hli] at g1
   have g2 := List.all_eq_true.1 (List.all_eq_true.1 g1 n hn) j (List.mem_range.2 hj)
   have g3 : (l[j]?).bind Oper.dst = some x.1 := by
    have : (vs.map fun e => some e.1)[j]? = ((l.take m).map Oper.dst)[j]? := by rw [q1]
    rw [List.getElem?_map, hx, List.getElem?_map, List.getElem?_take, if_pos hj] at this
    cases hlj : l[j]? with
    | none => rw [hlj] at this; simp at this
    | some y => rw [hlj] at this; simp at this; simp [← this]
   simp only [g3, hxn, beq_self_eq_true, Bool.not_true, Bool.false_or, Bool.and_eq_true, decide_eq_true_eq, List.contains_iff_mem] at g2
   exact g2
  refine how τ h1 (fun n hn => ?_) (fun n hn => h2 n fun hk => hn (hfresh n hk)) h4 K (hK _ (by rw [h1]))
  rw [List.nil_append, look_app]
  by_cases hk : n ∈ vs.map Prod.fst
  ·obtain ⟨x, hx, hxn⟩ := List.mem_map.1 hk
   obtain ⟨j, hj⟩ := List.getElem?_of_mem hx
   have hjm : j < m := by have := (List.getElem?_eq_some_iff.1 hj).1; omega
   obtain ⟨g1, g2⟩ := hsl n hn j hjm x hj hxn
   have g3 := h3 j g2
   have hvj : vsAt vs j = x := by unfold vsAt; rw [List.getD_eq_getElem?_getD, hj]; rfl
   rw [hvj, hxn] at g3
   rw [g3, hfresh n hk]
   have := look_mem (vs.take i) j x (hnd'.sublist ((List.take_sublist i vs).map _)) (by rw [List.getElem?_take, if_pos g1]; exact hj)
   rw [hxn] at this
   exact this.symm
  rw [h2 n hk]
  cases look σ.tm n with
  | some y => rfl
  | none =>
   refine (look_none fun hm => hk ?_).symm
   obtain ⟨x, hx, hxn⟩ := List.mem_map.1 hm
   exact List.mem_map.2 ⟨x, List.mem_of_mem_take hx, hxn⟩
 rw [hlen]
 exact wps_mono hK _ _ q3
theorem h_dr {kk : List Nat} (k : Hg Φ X r (Dr E C σ l (fun vs => (⟨σ.tm ++ vs, σ.bx⟩ : St).wps E C.N l (l.drop (mOf l)) fun σ' => S .normal σ') (l.take (mOf l)) [])) (cx : Cx C n ks := by assumption) (hl : xs.toList = l := by rfl) (hp : pinK ks l = true := by rfl) (hk : σ.tm.map Prod.fst = kk := by simp only [List.map_cons, List.map_nil]; rfl) (hb : drB l (mOf l) kk = true := by decide +kernel) : Hg Φ X r (M E C (.region id xs true) S σ) := fun f e => M.drawS _ hl (cx.2 _ hp) (by rw [hk]; exact hb) (k f e)
theorem h_dn {K : List (Nat × AV) → Prop} {dn : List (Nat × AV)} (k : Hg Φ X r (K dn)) : Hg Φ X r (Dr E C σ l K [] dn) := k
theorem h_dq {K : List (Nat × AV) → Prop} {dn dn' : List (Nat × AV)} {d : Nat} {v : AV} {ss : List Nat} (k : Hg Φ X r (Dr E C σ l K os dn')) (cx : Cx C n ks := by assumption) (hd : o.dst = some d := by rfl) (hc : callOf o = none := by rfl) (hs : opSlots l o = ss := by simp [opSlots, tmpsOf, Op.operands, Call.operands]; rfl)
  (h1 : Φ → ∀ τ : St, τ.bx = σ.bx → (∀ n ∈ ss, look τ.tm n = look (σ.tm ++ dn) n) → (∀ n, look σ.tm n ≠ none → look τ.tm n = look σ.tm n) → look τ.tm d = some .u → τ.stepK E n l o (fun s => s = ⟨put τ.tm d v, σ.bx⟩) := by intro f τ hbx hd hb hf; (try simp [look] at hd); first | (simp [f, hbx, hd, hb, hf, look]; rfl) | (simp [f, hbx, hb, hf, look]; rfl))
  (hdn : dn ++ [(d, v)] = dn' := by simp only [List.nil_append, List.cons_append]; rfl) : Hg Φ X r (Dr E C σ l K (o :: os) dn) := fun f e => by
 subst hs hdn
 exact ⟨(d, v), hd, fun τ h1' h2' h3' h4' K hK => wps_q cx.1 (wN hK) hc (h1 f τ h1' h2' h3' h4'), k f e⟩
theorem h_ds {K : List (Nat × AV) → Prop} {dn dn' : List (Nat × AV)} {d : Nat} {v : AV} {ss : List Nat} (k : Hg Φ X r (Dr E C σ l K os dn')) (cx : Cx C n ks := by assumption) (hd : o.dst = some d := by rfl) (hc : callOf o = none := by rfl) (hs : opSlots l o = ss := by simp [opSlots, tmpsOf, Op.operands, Call.operands]; rfl)
  (h1 : Φ → ∀ τ : St, τ.bx = σ.bx → (∀ n ∈ ss, look τ.tm n = look (σ.tm ++ dn) n) → (∀ n, look σ.tm n ≠ none → look τ.tm n = look σ.tm n) → look τ.tm d = some .u → τ.stepK E n l o (fun s => s = ⟨put τ.tm d v, σ.bx⟩) := by intro f τ hbx hd hb hf; (try simp [look] at hd); (simp [f, hbx, hd, hb, hf, look, *]; rfl))
  (hdn : dn ++ [(d, v)] = dn' := by simp only [List.nil_append, List.cons_append]; rfl) : Hg Φ X r (Dr E C σ l K (o :: os) dn) := fun f e => by
 subst hs hdn
 exact ⟨(d, v), hd, fun τ h1' h2' h3' h4' K hK => wps_q cx.1 (wN hK) hc (h1 f τ h1' h2' h3' h4'), k f e⟩
section
variable {g : Operand} {ys : List Operand} {f : FuncId} {args : List Arg} {ms : List (Mode × Operand)} {β1 β2 : Type} {KD : List (Nat × AV) → Prop} {dn : List (Nat × AV)} {d : Nat} {ss : List Nat}
def Tk (σ : St) (dn : List (Nat × AV)) (ss : List Nat) (d : Nat) (τ : St) : Prop := τ.bx = σ.bx ∧ (∀ n ∈ ss, look τ.tm n = look (σ.tm ++ dn) n) ∧ (∀ n, look σ.tm n ≠ none → look τ.tm n = look σ.tm n) ∧ look τ.tm d = some .u
theorem h_do {dn' : List (Nat × AV)} (k : Hg Φ X r (Dr E C σ l KD os dn')) (cx : Cx C n ks := by assumption) (hd : o.dst = some d := by rfl) (hs : opSlots l o = ss := by simp [opSlots, tmpsOf, Op.operands, Call.operands]; rfl)
  (h1 : Φ → ∀ τ : St, Tk σ dn ss d τ → τ.wants l o = some false ∧ τ.put? n (some d) (.tup []) = some ⟨put τ.tm d (.tup []), σ.bx⟩ := by intro f τ hT; have hbx := hT.1; have hd := hT.2.1; have hb := hT.2.2.1; have hf := hT.2.2.2; clear hT; (try simp [look] at hd); first | (simp [f, hbx, hd, hb, hf, look]; done) | (simp [f, hbx, hb, hf, look]; done) | (simp [f, hbx, hd, hb, hf, look, *]; done) | fail)
  (hdn : dn ++ [(d, .tup [])] = dn' := by simp only [List.nil_append, List.cons_append]; rfl) : Hg Φ X r (Dr E C σ l KD (o :: os) dn) := fun f e => by
 subst hs hdn
 refine ⟨(d, .tup []), hd, fun τ h1' h2' h3' h4' K hK => ?_, k f e⟩
 obtain ⟨q1, q2⟩ := h1 f τ ⟨h1', h2', h3', h4'⟩
 exact wO fun K' hK' => ⟨q1, _, by rw [cx.1, hd]; exact q2, hK' _ (wN hK)⟩
theorem h_dcc {e : Option β} {x : β → Option α} {res : β → List T} {outs : β → List (List T)} {v : β → AV} {dn' : β → List (Nat × AV)} (k : ∀ y, Hg Φ (x y) r (Dr E C σ l KD os (dn' y))) (cx : Cx C n ks) (hc : callOf o = some (g, ys)) (hd : o.dst = some d) (hs : opSlots l o = ss) (con : ∀ y, Con E f (e = some y) args (res y) (outs y)) (en : Ent E f)
  (hl : args.length = ys.length) (hm : Φ → ∀ τ : St, Tk σ dn ss d τ → modes τ ys args = ms)
  (h1 : Φ → ∀ τ : St, Tk σ dn ss d τ → ∀ y, τ.wants l o = some true ∧ τ.fn g = some f ∧ lendK args (fun pls σ2 => optK (fun s => s = ⟨put τ.tm d (v y), σ.bx⟩) (St.land n (some d) (ms.any fun m => m.1.isBor) pls (res y) (outs y) σ2)) (τ.lend n ms))
  (hdn : ∀ y, dn ++ [(d, v y)] = dn' y) : Hg Φ (e.bind x) r (Dr E C σ l KD (o :: os) dn) := fun f e' => by
 obtain ⟨y, he, hx⟩ := bS e'
 subst hs
 refine ⟨(d, v y), hd, fun τ h1' h2' h3' h4' K hK => ?_, by rw [hdn]; exact k y f hx⟩
 have hT : Tk σ dn (opSlots l o) d τ := ⟨h1', h2', h3', h4'⟩
 exact @h_call0 C E τ ⟨put τ.tm d (v y), σ.bx⟩ K l [] o n ks g ys _ args (res y) (outs y) ms _ (con y) en he cx hc hl (hm f τ hT) (by rw [hd]; exact h1 f τ hT y) (wN hK)
theorem h_dc1 {e : Option β} {x : β → Option α} {res : β → List T} {outs : β → List (List T)} {v : β → AV} {dn' : β → List (Nat × AV)} (k : ∀ y, Hg Φ (x y) r (Dr E C σ l KD os (dn' y))) (cx : Cx C n ks := by assumption) (hc : callOf o = some (g, ys) := by rfl) (hf : σ.fn g = some f := by first | rfl | (simp; done) | (simp; rfl)) (hd : o.dst = some d := by rfl) (hs : opSlots l o = ss := by simp [opSlots, tmpsOf, Op.operands, Call.operands]; rfl) (con : ∀ y, Con E f (e = some y) args (res y) (outs y) := by infer_instance) (en : Ent E f := by infer_instance)
  (hl : args.length = ys.length := by rfl) (hm : Φ → ∀ τ : St, Tk σ dn ss d τ → modes τ ys args = ms := by intro f τ hT; have hbx := hT.1; have hd := hT.2.1; have hb := hT.2.2.1; have hf := hT.2.2.2; clear hT; (try simp [look] at hd); first | (simp [modes, modeOf, T.own1, f, hd]; done) | (simp [modes, modeOf, T.own1, f, hd]; rfl) | (simp [modes, modeOf, T.own1, f]; done) | fail)
  (h1 : Φ → ∀ τ : St, Tk σ dn ss d τ → ∀ y, τ.wants l o = some true ∧ τ.fn g = some f ∧ lendK args (fun pls σ2 => optK (fun s => s = ⟨put τ.tm d (v y), σ.bx⟩) (St.land n (some d) (ms.any fun m => m.1.isBor) pls (res y) (outs y) σ2)) (τ.lend n ms) := by intro f τ hT y; have hbx := hT.1; have hd := hT.2.1; have hb := hT.2.2.1; have hf := hT.2.2.2; clear hT; (try simp [look] at hd); first | (simp [f, hbx, hd, hb, hf, look]; rfl) | (simp [f, hbx, hb, hf, look]; rfl) | (simp [f, hbx, hd, hb, hf, look, *]; rfl))
  (hdn : ∀ y, dn ++ [(d, v y)] = dn' y := by intro y; simp only [List.nil_append, List.cons_append]; rfl) : Hg Φ (e.bind x) r (Dr E C σ l KD (o :: os) dn) := h_dcc k cx hc hd hs con en hl hm h1 hdn
theorem h_dc2 {e : Option (β1 × β2)} {x : β1 × β2 → Option α} {x' : β1 → β2 → Option α} {res : β1 → β2 → List T} {outs : β1 → β2 → List (List T)} {v : β1 → β2 → AV} {dn' : β1 → β2 → List (Nat × AV)} (k : ∀ y z, Hg Φ (x' y z) r (Dr E C σ l KD os (dn' y z))) (cx : Cx C n ks := by assumption) (hc : callOf o = some (g, ys) := by rfl) (hf : σ.fn g = some f := by first | rfl | (simp; done) | (simp; rfl)) (hd : o.dst = some d := by rfl) (hs : opSlots l o = ss := by simp [opSlots, tmpsOf, Op.operands, Call.operands]; rfl) (con : ∀ y z, Con E f (e = some (y, z)) args (res y z) (outs y z) := by infer_instance) (en : Ent E f := by infer_instance)
  (hl : args.length = ys.length := by rfl) (hm : Φ → ∀ τ : St, Tk σ dn ss d τ → modes τ ys args = ms := by intro f τ hT; have hbx := hT.1; have hd := hT.2.1; have hb := hT.2.2.1; have hf := hT.2.2.2; clear hT; (try simp [look] at hd); first | (simp [modes, modeOf, T.own1, f, hd]; done) | (simp [modes, modeOf, T.own1, f, hd]; rfl) | (simp [modes, modeOf, T.own1, f]; done) | fail)
  (h1 : Φ → ∀ τ : St, Tk σ dn ss d τ → ∀ y z, τ.wants l o = some true ∧ τ.fn g = some f ∧ lendK args (fun pls σ2 => optK (fun s => s = ⟨put τ.tm d (v y z), σ.bx⟩) (St.land n (some d) (ms.any fun m => m.1.isBor) pls (res y z) (outs y z) σ2)) (τ.lend n ms) := by intro f τ hT y z; have hbx := hT.1; have hd := hT.2.1; have hb := hT.2.2.1; have hf := hT.2.2.2; clear hT; (try simp [look] at hd); first | (simp [f, hbx, hd, hb, hf, look]; rfl) | (simp [f, hbx, hb, hf, look]; rfl) | (simp [f, hbx, hd, hb, hf, look, *]; rfl))
  (hdn : ∀ y z, dn ++ [(d, v y z)] = dn' y z := by intro y z; simp only [List.nil_append, List.cons_append]; rfl) (hx : ∀ y z, x (y, z) = x' y z := by intro y z; first | (dsimp only; rfl) | rfl) : Hg Φ (e.bind x) r (Dr E C σ l KD (o :: os) dn) :=
 h_dcc (res := fun p => res p.1 p.2) (outs := fun p => outs p.1 p.2) (v := fun p => v p.1 p.2) (dn' := fun p => dn' p.1 p.2) (fun p => by have := hx p.1 p.2; rw [show x p = x' p.1 p.2 from this]; exact k p.1 p.2) cx hc hd hs (fun p => con p.1 p.2) en hl hm (fun f τ hT p => h1 f τ hT p.1 p.2) fun p => hdn p.1 p.2
end
def Lv (E : Env) (n : Nat) (rs : List ResultVar) (args : List Arg) (res : List T) (outs : List (List T)) (e : Exit) (σ : St) : Prop := (e = .ret ∨ e = .normal) ∧ σ.leave E n rs args = some (res, outs)
theorem h_fn {f : FuncId} {fn : Func} {args : List Arg} {res : List T} {outs : List (List T)} {rs : List ResultVar} (hf : E.P.funcs[f]? = some fn) (k : ∀ C, Cx C n [] → Hg True X r (M E C c (Lv E n rs args res outs) (entry n args))) (hb : fn.body = some c := by rfl) (hn : fn.ntmps = n := by conv => lhs; whnf) (hr : fn.results.toList = rs := by conv => lhs; whnf) (hN : decide (args.length ≤ n) = true := by rfl) : Con E f (X = some r) args res outs := by
 subst hn hr
 exact ⟨fun h => oB hf hb (of_decide_eq_true hN) fun C hC hP => k C ⟨hC, pO (by rw [hP]; rfl)⟩ trivial h⟩
theorem h_end {v : α} {rs : List ResultVar} {args : List Arg} {res : List T} {outs : List (List T)} {x : Exit} (h : Φ → v = r → σ.leave E n rs args = some (res, outs) := by intro f e; cases e; first | (simp; done) | (simp [f]; done) | (simp [f, *]; done) | fail) (hx : x = .ret ∨ x = .normal := by first | exact .inl rfl | exact .inr rfl) : Hg Φ (some v) r (Lv E n rs args res outs x σ) := fun f e => ⟨hx, h f (Option.some.inj e)⟩
end
theorem S {p q : Prop} (k : q) (h : q → p := by first
 | (show _ → Hg _ _ _ (St.wps _ _ _ (_ :: _) _ _); first
  | (show _ → Hg _ (bindS _ _) _ (St.wps _ _ _ (Oper.mk _ (.store _ _ _) _ _ _ _ :: _) _ _); exact fun k => f_set k)
  | exact fun k => h_q k
  | (show _ → Hg _ (Option.bind _ _) _ _; first
  | (show _ → Hg _ (Option.bind (getI (_ :: _) _) _) _ _; exact fun k => f_gel k)
  | (show _ → Hg _ (Option.bind (getI _ _) _) _ _; exact fun k => f_get k)
  | (show _ → Hg _ (Option.bind (sAt _ _) _) _ _; exact fun k => f_at k)
  | (show _ → Hg _ (Option.bind (sSub _ _ _) _) _ _; exact fun k => f_sub k)
  | (show _ → Hg _ (Option.bind (sCat _ _) _) _ _; exact fun k => f_cat k)
  | (show _ → Hg _ (Option.bind (remI _ _) _) _ _; exact fun k => f_rem k)
  | (show _ → Hg _ (Option.bind (shlI _ _ _) _) _ _; exact fun k => f_shl k)
  | (show _ → Hg _ (Option.bind (shrI _ _ _) _) _ _; exact fun k => f_shr k)
  | (show _ → Hg _ (Option.bind (appI _ [] _) _) _ _; exact fun k => f_ap0 k)
  | (show _ → Hg _ (Option.bind (appI _ _ _) _) _ _; exact fun k => f_app k)
  | (show _ → Hg _ (Option.bind (mkI _ _ _) _) _ _; exact fun k => f_mk k)
  | (show _ → Hg _ (Option.bind (subI _ _ _) _) _ _; exact fun k => f_sl k))
  | (show _ → Hg _ (bindS _ _) _ _; exact fun k => f_set k)
  | exact fun k => h_qs k
  | (show _ → Hg _ (Option.bind _ _) _ _; first | exact fun k => h_c3 k | exact fun k => h_c2 k | exact fun k => h_c0 k | exact fun k => h_c1 k) | exact fun k => h_off k | exact fun k => h_lB k | (show _ → Hg _ (ite _ _ _) _ _; first | exact fun k => f_ie k | exact fun k => f_in k | exact fun k => f_if k))
 | (show _ → Hg _ _ _ (St.wps _ _ _ [] _ _); exact fun k => h_nil k)
 | (show _ → Hg _ _ _ (Dr _ _ _ _ _ (_ :: _) _); first
  | exact fun k => h_dq k
  | (show _ → Hg _ (Option.bind _ _) _ _; first
  | (show _ → Hg _ (Option.bind (getI (_ :: _) _) _) _ _; exact fun k => f_gel k)
  | (show _ → Hg _ (Option.bind (getI _ _) _) _ _; exact fun k => f_get k)
  | (show _ → Hg _ (Option.bind (sAt _ _) _) _ _; exact fun k => f_at k)
  | (show _ → Hg _ (Option.bind (sSub _ _ _) _) _ _; exact fun k => f_sub k)
  | (show _ → Hg _ (Option.bind (sCat _ _) _) _ _; exact fun k => f_cat k)
  | (show _ → Hg _ (Option.bind (remI _ _) _) _ _; exact fun k => f_rem k)
  | (show _ → Hg _ (Option.bind (shlI _ _ _) _) _ _; exact fun k => f_shl k)
  | (show _ → Hg _ (Option.bind (shrI _ _ _) _) _ _; exact fun k => f_shr k)
  | (show _ → Hg _ (Option.bind (appI _ [] _) _) _ _; exact fun k => f_ap0 k)
  | (show _ → Hg _ (Option.bind (appI _ _ _) _) _ _; exact fun k => f_app k)
  | (show _ → Hg _ (Option.bind (mkI _ _ _) _) _ _; exact fun k => f_mk k)
  | (show _ → Hg _ (Option.bind (subI _ _ _) _) _ _; exact fun k => f_sl k))
  | (show _ → Hg _ (bindS _ _) _ _; exact fun k => f_set k)
  | exact fun k => h_ds k
  | (show _ → Hg _ (Option.bind _ _) _ _; first | exact fun k => h_dc2 k | exact fun k => h_dc1 k) | exact fun k => h_do k | (show _ → Hg _ (ite _ _ _) _ _; first | exact fun k => f_ie k | exact fun k => f_in k | exact fun k => f_if k))
 | (show _ → Hg _ _ _ (Dr _ _ _ _ _ [] _); exact fun k => h_dn k)
 | (show _ → Hg _ _ _ (M _ _ _ _ _); first
  | (show _ → Hg _ _ _ (M _ _ (.seq _ _) _ _); first
   | (show _ → Hg _ _ _ (M _ _ (.seq (.region _ _ false) _) _ _); exact fun k => h_sr k)
   | exact fun k => h_sq k)
  | (show _ → Hg _ _ _ (M _ _ (.region _ _ false) _ _); exact fun k => h_rg k)
  | (show _ → Hg _ _ _ (M _ _ (.region _ _ true) _ _); exact fun k => h_dr k)
  | (show _ → Hg _ (ite _ _ _) _ (M _ _ (.cond _ _ _) _ _); exact fun k => h_cd k)
  | (show _ → Hg _ _ _ (M _ _ (.cond _ _ _) _ _); first | exact fun k => h_ct k | exact fun k => h_cf k)
  | (show _ → Hg _ _ _ (M _ _ .skip _ _); exact fun k => h_sk k)
  | (show _ → Hg _ _ _ (M _ _ (.block _ _) _ _); exact fun k => h_bk k)
  | (show _ → Hg _ _ _ (M _ _ (.exit _) _ _); exact fun k => h_ex k)
  | (show _ → Hg _ _ _ (M _ _ .ret _ _); exact fun k => h_rt k)
  | (show _ → Hg _ _ _ (M _ _ (.label _) _ _); exact fun k => h_lb k))
 | (show _ → Hg _ _ _ (thenS _ _ _ _); first
  | (show _ → Hg _ _ _ (thenS _ _ .normal _); exact fun k => h_tn k)
  | (show _ → Hg _ _ _ (thenS _ _ .ret _); exact fun k => h_tr k)
  | exact fun k => h_te k)
 | (show _ → Hg _ _ _ (iB _ _ _ _); first
  | (show _ → Hg _ _ _ (iB _ _ .normal _); exact fun k => h_bn k)
  | (show _ → Hg _ _ _ (iB _ _ .ret _); exact fun k => h_br k)
  | exact fun k => h_be k
  | exact fun k => h_bd k)
 | (show _ → Hg _ (some (Sum.inr _)) _ _; exact fun k => h_lo k)
 | (show _ → Hg _ (bindS _ _) _ _; exact fun k => f_set k)
 | (show _ → Hg _ (Option.bind _ _) _ _; first
  | (show _ → Hg _ (Option.bind (getI (_ :: _) _) _) _ _; exact fun k => f_gel k)
  | (show _ → Hg _ (Option.bind (getI _ _) _) _ _; exact fun k => f_get k)
  | (show _ → Hg _ (Option.bind (sAt _ _) _) _ _; exact fun k => f_at k)
  | (show _ → Hg _ (Option.bind (sSub _ _ _) _) _ _; exact fun k => f_sub k)
  | (show _ → Hg _ (Option.bind (sCat _ _) _) _ _; exact fun k => f_cat k)
  | (show _ → Hg _ (Option.bind (remI _ _) _) _ _; exact fun k => f_rem k)
  | (show _ → Hg _ (Option.bind (shlI _ _ _) _) _ _; exact fun k => f_shl k)
  | (show _ → Hg _ (Option.bind (shrI _ _ _) _) _ _; exact fun k => f_shr k)
  | (show _ → Hg _ (Option.bind (appI _ [] _) _) _ _; exact fun k => f_ap0 k)
  | (show _ → Hg _ (Option.bind (appI _ _ _) _) _ _; exact fun k => f_app k)
  | (show _ → Hg _ (Option.bind (mkI _ _ _) _) _ _; exact fun k => f_mk k)
  | (show _ → Hg _ (Option.bind (subI _ _ _) _) _ _; exact fun k => f_sl k))
 | fail) : p := h k
theorem Z {p : Prop} (h : p := by first
 | (show Hg _ (some _) _ (Lv _ _ _ _ _ _ _ _); exact h_end)
 | (show Hg _ (some _) _ (Ct _ _ _ _ _ _ _); exact h_lv)
 | (show Hg _ (some (Sum.inl _)) _ (Lp _ _ _ _ _ _ _); exact h_ll)
 | fail) : p := h
end Go.OM
namespace Go.Proofs
open Go.Shelf
def Tryd.lays146_ren : Go.Shelf.Ren := ⟨fun | 146 => 85 | 221 => 86 | 268 => 87 | 138 => 88 | 143 => 89 | 195 => 90 | 197 => 91 | 218 => 92 | 219 => 93 | 260 => 94 | 217 => 95 | 225 => 96 | 224 => 97 | 267 => 98 | 266 => 99 | 314 => 100 | n => n, fun | 9 => 9 | 31 => 88 | 3 => 3 | 4 => 4 | 0 => 0 | 105 => 96 | 21 => 21 | 5 => 5 | 46 => 100 | 119 => 101 | 139 => 104 | 138 => 103 | 146 => 106 | 51 => 105 | n => n, fun | 1 => 0 | 3 => 1 | 4 => 2 | n => n⟩
theorem Tryd.lays146 : Go.Proofs.Lays.n146 Tryd.prog Tryd.lays146_ren := {
 mixed := by kernel_rfl
 f138 := Tryd.func88.trans (congrArg some (by kernel_rfl))
 f143 := Tryd.func89.trans (congrArg some (by kernel_rfl))
 f146 := Tryd.func85.trans (congrArg some (by kernel_rfl))
 f195 := Tryd.func90.trans (congrArg some (by kernel_rfl))
 f197 := Tryd.func91.trans (congrArg some (by kernel_rfl))
 f217 := Tryd.func95.trans (congrArg some (by kernel_rfl))
 f218 := Tryd.func92.trans (congrArg some (by kernel_rfl))
 f219 := Tryd.func93.trans (congrArg some (by kernel_rfl))
 f221 := Tryd.func86.trans (congrArg some (by kernel_rfl))
 f224 := Tryd.func97.trans (congrArg some (by kernel_rfl))
 f225 := Tryd.func96.trans (congrArg some (by kernel_rfl))
 f260 := Tryd.func94.trans (congrArg some (by kernel_rfl))
 f266 := Tryd.func99.trans (congrArg some (by kernel_rfl))
 f267 := Tryd.func98.trans (congrArg some (by kernel_rfl))
 f268 := Tryd.func87.trans (congrArg some (by kernel_rfl))
 f314 := Tryd.func100.trans (congrArg some (by kernel_rfl))
 t0 := Tryd.underlying0
 a0 := Tryd.isAgg0
 z0 := Tryd.sizeOf0
 v0 := Tryd.zeroValue0
 t3 := Tryd.underlying3
 a3 := Tryd.isAgg3
 z3 := Tryd.sizeOf3
 v3 := Tryd.zeroValue3
 t4 := Tryd.underlying4
 a4 := Tryd.isAgg4
 z4 := Tryd.sizeOf4
 v4 := Tryd.zeroValue4
 t5 := Tryd.underlying5
 a5 := Tryd.isAgg5
 z5 := Tryd.sizeOf5
 v5 := Tryd.zeroValue5
 t9 := Tryd.underlying9
 a9 := Tryd.isAgg9
 z9 := Tryd.sizeOf9
 v9 := Tryd.zeroValue9
 t21 := Tryd.underlying21
 a21 := Tryd.isAgg21
 z21 := Tryd.sizeOf21
 v21 := Tryd.zeroValue21
 t31 := Tryd.underlying88
 a31 := Tryd.isAgg88
 z31 := Tryd.sizeOf88
 v31 := Tryd.zeroValue88
 t46 := Tryd.underlying100
 a46 := Tryd.isAgg100
 z46 := Tryd.sizeOf100
 v46 := Tryd.zeroValue100
 t51 := Tryd.underlying105
 a51 := Tryd.isAgg105
 z51 := Tryd.sizeOf105
 v51 := Tryd.zeroValue105
 t105 := Tryd.underlying96
 a105 := Tryd.isAgg96
 z105 := Tryd.sizeOf96
 v105 := Tryd.zeroValue96
 t119 := Tryd.underlying101
 a119 := Tryd.isAgg101
 z119 := Tryd.sizeOf101
 t138 := Tryd.underlying103
 a138 := Tryd.isAgg103
 z138 := Tryd.sizeOf103
 v138 := Tryd.zeroValue103
 t139 := Tryd.underlying104
 a139 := Tryd.isAgg104
 z139 := Tryd.sizeOf104
 v139 := Tryd.zeroValue104
 t146 := Tryd.underlying106
 a146 := Tryd.isAgg106
 z146 := Tryd.sizeOf106
 v146 := Tryd.zeroValue106
 g1 := by kernel_rfl
 g3 := by kernel_rfl
 g4 := by kernel_rfl }
open Go.RowKit Go.Lib in
theorem Tryd.strings_Split (s sep : ByteArray) (m : Int) (w : World) (hs : s.size < 4294967281) (hm : w.cell? ⟨0, 0, none⟩ = some (.int .i64 m)) (h1 : 1 ≤ sep.size) :
  Calls Tryd.prog 85 #[.string s, .string sep] w fun e w' =>
   e = .returned (.slice (some ⟨w.heap.size, 0, none⟩) (Lib.countB s sep + 1) (Lib.countB s sep + 1)) ∧ w' = w.alloc (.cells ((Lib.splitB sep 0 (Lib.countB s sep) s).map Value.string).toArray 9) := Any.strings_Split Tryd.lays146 (by kernel_rfl) s sep m w hs hm h1
end Go.Proofs
namespace Go.Proofs.T
open Go.OM
theorem ent85 : Enters E.P 85 := eO Tryd.func85 (by simp [Tryd.f85]) rfl
theorem maxLen_cell {w : World} (h : E.Gl w) : ∃ m, w.cell? ⟨0, 0, none⟩ = some (.int .i64 m) := by
 obtain ⟨cs, t, fr, h1, m, h2⟩ := h _ (List.mem_singleton.2 rfl)
 refine ⟨m, ?_⟩
 have h1' : w.heap[0]? = some (.cells cs t fr) := h1
 simp [World.cell?, h1', h2]
theorem strings_Split_ok (s sep : ByteArray) {r0 : List ByteArray} (h : strings_Split s sep = some r0) : Ok E 85 [.val (vs s), .val (vs sep)] [.sl true 1 (List.map vs r0)] [] := by
 unfold strings_Split at h
 split at h
 case isFalse => cases h
 rename_i hr
 injection h with h
 subst h
 have := ok_fresh (E := E) (f := 85) (ty := 9) (xs := [.string s, .string sep]) (es := (Lib.splitB sep 0 (Lib.countB s sep) s).map Value.string) (by simp [TA.OneCell]) fun w hw => by
  obtain ⟨m, hm⟩ := maxLen_cell hw
  have h1 := Tryd.strings_Split s sep m w hr.1 hm hr.2.1
  refine h1.mono fun e w' ⟨h2, h3⟩ => ⟨?_, h3⟩
  rw [h2, List.length_map, hr.2.2]
  try rfl
 rw [List.map_map] at this
 exact this
instance e85_ : Ent E 85 := ⟨ent85⟩
instance c85_ (a0 : ByteArray) (a1 : ByteArray) {r0 : List ByteArray} : Con E 85 (strings_Split a0 a1 = some r0) [.val (vs a0), .val (vs a1)] [.sl true 1 (List.map vs r0)] [] := ⟨fun h => strings_Split_ok _ _ h⟩
end Go.Proofs.T
