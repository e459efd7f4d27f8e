import Derived.Test.YtchcogjfmbfccaaOmB
import Derived.Test.YtchcogjfmbfccaaProg
import Derived.KernelRfl
set_option linter.unusedVariables false
set_option linter.unusedSimpArgs false
namespace Go.OM
abbrev vi (n : Int) : T := .v (.int .i64 n)
abbrev vk (k : IntKind) (n : Int) : T := .v (.int k n)
abbrev vb (b : Bool) : T := .v (.bool b)
abbrev vs (z : ByteArray) : T := .v (.string z)
abbrev eSl {α : Type} (o : Bool) (s : Nat) (f : α → T) (l : List α) : T := .sl o s (l.map f)
@[simp] theorem own_vi (l : List Int) : T.hasOwnL (l.map vi) = false := hasOwnL_map vi (fun _ => rfl) l
@[simp] theorem own_vk (k : IntKind) (l : List Int) : T.hasOwnL (l.map (vk k)) = false := hasOwnL_map _ (fun _ => rfl) l
@[simp] theorem own_vb (l : List Bool) : T.hasOwnL (l.map vb) = false := hasOwnL_map _ (fun _ => rfl) l
@[simp] theorem own_vs (l : List ByteArray) : T.hasOwnL (l.map vs) = false := hasOwnL_map _ (fun _ => rfl) l
@[simp] theorem ro_vi (l : List Int) : T.roL (l.map vi) = l.map vi := roL_map' _ _ (fun _ => rfl) l
@[simp] theorem ro_vk (k : IntKind) (l : List Int) : T.roL (l.map (vk k)) = l.map (vk k) := roL_map' _ _ (fun _ => rfl) l
@[simp] theorem ro_vb (l : List Bool) : T.roL (l.map vb) = l.map vb := roL_map' _ _ (fun _ => rfl) l
@[simp] theorem ro_vs (l : List ByteArray) : T.roL (l.map vs) = l.map vs := roL_map' _ _ (fun _ => rfl) l
@[simp] theorem noRo_vi (l : List Int) : T.noRoL (l.map vi) = true := noRoL_map _ (fun _ => rfl) l
@[simp] theorem noRo_vk (k : IntKind) (l : List Int) : T.noRoL (l.map (vk k)) = true := noRoL_map _ (fun _ => rfl) l
@[simp] theorem noRo_vb (l : List Bool) : T.noRoL (l.map vb) = true := noRoL_map _ (fun _ => rfl) l
@[simp] theorem noRo_vs (l : List ByteArray) : T.noRoL (l.map vs) = true := noRoL_map _ (fun _ => rfl) l
@[simp] theorem own_eSl {α : Type} {s : Nat} {f : α → T} (h : ∀ l : List α, T.hasOwnL (l.map f) = false) (l : List (List α)) : T.hasOwnL (l.map (eSl false s f)) = false := hasOwnL_map _ (fun x => by simp [h x]) l
@[simp] theorem ro_eSl {α : Type} {o : Bool} {s : Nat} {f : α → T} (h : ∀ l : List α, T.roL (l.map f) = l.map f) (l : List (List α)) : T.roL (l.map (eSl o s f)) = l.map (eSl false s f) := roL_map' _ _ (fun x => by simp [h x]) l
@[simp] theorem noRo_eSl {α : Type} {s : Nat} {f : α → T} (h : ∀ l : List α, T.noRoL (l.map f) = true) (l : List (List α)) : T.noRoL (l.map (eSl true s f)) = true := noRoL_map _ (fun x => by simp [h x]) l
theorem ite_or {α : Type} {c : Prop} [Decidable c] {a b : Option α} {r : α} (h : (if c then a else b) = some r) : (c ∧ a = some r) ∨ (¬ c ∧ b = some r) := by
  by_cases hc : c
  · rw [if_pos hc] at h; exact .inl ⟨hc, h⟩
  · rw [if_neg hc] at h; exact .inr ⟨hc, h⟩
structure GCase where
  Input : List Int
  Want : List Int
  End : Int
  deriving DecidableEq
def GCase.enc (o : Bool) (x : GCase) : T := .agg [.sl o 1 (List.map vi x.Input), .sl o 1 (List.map vi x.Want), vi x.End]
@[simp] theorem GCase.own (x : GCase) : (x.enc false).hasOwn = false := by simp [GCase.enc]
@[simp] theorem GCase.ownT (x : GCase) : (x.enc true).hasOwn = true := by simp [GCase.enc]
@[simp] theorem GCase.ownL (l : List GCase) : T.hasOwnL (l.map (GCase.enc false)) = false := hasOwnL_map _ (fun x => by simp) l
@[simp] theorem GCase.ro1 (o : Bool) (x : GCase) : (x.enc o).ro = x.enc false := by cases o <;> simp [GCase.enc, T.roL_map, Function.comp_def]
@[simp] theorem GCase.roL (o : Bool) (l : List GCase) : T.roL (l.map (GCase.enc o)) = l.map (GCase.enc false) := roL_map' _ _ (fun x => by simp) l
@[simp] theorem GCase.noRo (x : GCase) : (x.enc true).noRo = true := by simp [GCase.enc]
@[simp] theorem GCase.noRoL (l : List GCase) : T.noRoL (l.map (GCase.enc true)) = true := noRoL_map _ (fun x => by simp) l
structure GBlock where
  From : Int
  To : Int
  Next : List Int
  deriving DecidableEq
def GBlock.enc (o : Bool) (x : GBlock) : T := .agg [vi x.From, vi x.To, .sl o 1 (List.map vi x.Next)]
@[simp] theorem GBlock.own (x : GBlock) : (x.enc false).hasOwn = false := by simp [GBlock.enc]
@[simp] theorem GBlock.ownT (x : GBlock) : (x.enc true).hasOwn = true := by simp [GBlock.enc]
@[simp] theorem GBlock.ownL (l : List GBlock) : T.hasOwnL (l.map (GBlock.enc false)) = false := hasOwnL_map _ (fun x => by simp) l
@[simp] theorem GBlock.ro1 (o : Bool) (x : GBlock) : (x.enc o).ro = x.enc false := by cases o <;> simp [GBlock.enc, T.roL_map, Function.comp_def]
@[simp] theorem GBlock.roL (o : Bool) (l : List GBlock) : T.roL (l.map (GBlock.enc o)) = l.map (GBlock.enc false) := roL_map' _ _ (fun x => by simp) l
@[simp] theorem GBlock.noRo (x : GBlock) : (x.enc true).noRo = true := by simp [GBlock.enc]
@[simp] theorem GBlock.noRoL (l : List GBlock) : T.noRoL (l.map (GBlock.enc true)) = true := noRoL_map _ (fun x => by simp) l
structure GNode where
  Kind : Int
  Num : Int
  Name : ByteArray
  Kids : List Int
  deriving DecidableEq
def GNode.enc (o : Bool) (x : GNode) : T := .agg [vi x.Kind, vi x.Num, vs x.Name, .sl o 1 (List.map vi x.Kids)]
@[simp] theorem GNode.own (x : GNode) : (x.enc false).hasOwn = false := by simp [GNode.enc]
@[simp] theorem GNode.ownT (x : GNode) : (x.enc true).hasOwn = true := by simp [GNode.enc]
@[simp] theorem GNode.ownL (l : List GNode) : T.hasOwnL (l.map (GNode.enc false)) = false := hasOwnL_map _ (fun x => by simp) l
@[simp] theorem GNode.ro1 (o : Bool) (x : GNode) : (x.enc o).ro = x.enc false := by cases o <;> simp [GNode.enc, T.roL_map, Function.comp_def]
@[simp] theorem GNode.roL (o : Bool) (l : List GNode) : T.roL (l.map (GNode.enc o)) = l.map (GNode.enc false) := roL_map' _ _ (fun x => by simp) l
@[simp] theorem GNode.noRo (x : GNode) : (x.enc true).noRo = true := by simp [GNode.enc]
@[simp] theorem GNode.noRoL (l : List GNode) : T.noRoL (l.map (GNode.enc true)) = true := noRoL_map _ (fun x => by simp) l
structure GParam where
  Name : ByteArray
  Typ : Int
  deriving DecidableEq
def GParam.enc (x : GParam) : T := .agg [vs x.Name, vi x.Typ]
@[simp] theorem GParam.own (x : GParam) : x.enc.hasOwn = false := by simp [GParam.enc]
@[simp] theorem GParam.ownL (l : List GParam) : T.hasOwnL (l.map GParam.enc) = false := hasOwnL_map _ (fun x => by simp) l
@[simp] theorem GParam.ro1 (x : GParam) : x.enc.ro = x.enc := by simp [GParam.enc]
@[simp] theorem GParam.roL (l : List GParam) : T.roL (l.map GParam.enc) = l.map GParam.enc := roL_map' _ _ (fun x => by simp) l
@[simp] theorem GParam.noRo (x : GParam) : x.enc.noRo = true := by simp [GParam.enc]
@[simp] theorem GParam.noRoL (l : List GParam) : T.noRoL (l.map GParam.enc) = true := noRoL_map _ (fun x => by simp) l
structure GFn where
  Name : ByteArray
  Params : List GParam
  Res : Int
  Body : Int
  Ret : Int
  deriving DecidableEq
def GFn.enc (o : Bool) (x : GFn) : T := .agg [vs x.Name, .sl o 2 (List.map GParam.enc x.Params), vi x.Res, vi x.Body, vi x.Ret]
@[simp] theorem GFn.own (x : GFn) : (x.enc false).hasOwn = false := by simp [GFn.enc]
@[simp] theorem GFn.ownT (x : GFn) : (x.enc true).hasOwn = true := by simp [GFn.enc]
@[simp] theorem GFn.ownL (l : List GFn) : T.hasOwnL (l.map (GFn.enc false)) = false := hasOwnL_map _ (fun x => by simp) l
@[simp] theorem GFn.ro1 (o : Bool) (x : GFn) : (x.enc o).ro = x.enc false := by cases o <;> simp [GFn.enc, T.roL_map, Function.comp_def]
@[simp] theorem GFn.roL (o : Bool) (l : List GFn) : T.roL (l.map (GFn.enc o)) = l.map (GFn.enc false) := roL_map' _ _ (fun x => by simp) l
@[simp] theorem GFn.noRo (x : GFn) : (x.enc true).noRo = true := by simp [GFn.enc]
@[simp] theorem GFn.noRoL (l : List GFn) : T.noRoL (l.map (GFn.enc true)) = true := noRoL_map _ (fun x => by simp) l
structure GProgram where
  Nodes : List GNode
  Fns : List GFn
  deriving DecidableEq
def GProgram.enc (o : Bool) (x : GProgram) : T := .agg [.sl o 4 (List.map (GNode.enc o) x.Nodes), .sl o 5 (List.map (GFn.enc o) x.Fns)]
@[simp] theorem GProgram.own (x : GProgram) : (x.enc false).hasOwn = false := by simp [GProgram.enc]
@[simp] theorem GProgram.ownT (x : GProgram) : (x.enc true).hasOwn = true := by simp [GProgram.enc]
@[simp] theorem GProgram.ownL (l : List GProgram) : T.hasOwnL (l.map (GProgram.enc false)) = false := hasOwnL_map _ (fun x => by simp) l
@[simp] theorem GProgram.ro1 (o : Bool) (x : GProgram) : (x.enc o).ro = x.enc false := by cases o <;> simp [GProgram.enc, T.roL_map, Function.comp_def]
@[simp] theorem GProgram.roL (o : Bool) (l : List GProgram) : T.roL (l.map (GProgram.enc o)) = l.map (GProgram.enc false) := roL_map' _ _ (fun x => by simp) l
@[simp] theorem GProgram.noRo (x : GProgram) : (x.enc true).noRo = true := by simp [GProgram.enc]
@[simp] theorem GProgram.noRoL (l : List GProgram) : T.noRoL (l.map (GProgram.enc true)) = true := noRoL_map _ (fun x => by simp) l
structure Gfields where
  text : ByteArray
  at_ : Int
  bad : Bool
  deriving DecidableEq
def Gfields.enc (x : Gfields) : T := .agg [vs x.text, vi x.at_, vb x.bad]
@[simp] theorem Gfields.own (x : Gfields) : x.enc.hasOwn = false := by simp [Gfields.enc]
@[simp] theorem Gfields.ownL (l : List Gfields) : T.hasOwnL (l.map Gfields.enc) = false := hasOwnL_map _ (fun x => by simp) l
@[simp] theorem Gfields.ro1 (x : Gfields) : x.enc.ro = x.enc := by simp [Gfields.enc]
@[simp] theorem Gfields.roL (l : List Gfields) : T.roL (l.map Gfields.enc) = l.map Gfields.enc := roL_map' _ _ (fun x => by simp) l
@[simp] theorem Gfields.noRo (x : Gfields) : x.enc.noRo = true := by simp [Gfields.enc]
@[simp] theorem Gfields.noRoL (l : List Gfields) : T.noRoL (l.map Gfields.enc) = true := noRoL_map _ (fun x => by simp) l
attribute [simp] GCase.enc GBlock.enc GNode.enc GParam.enc GFn.enc GProgram.enc Gfields.enc
end Go.OM
set_option linter.unusedVariables false
noncomputable section
namespace Go.OM
def laws_szIntS (a1 : List Int) (left2 : Int) : Option (Int) :=
  if (decide (IntKind.wrap .i64 (left2 - (a1.length : Int)) < 0)) = true then
    some (-1)
  else
    some (IntKind.wrap .i64 (left2 - (a1.length : Int)))
def laws_szBlock (a1 : GBlock) (left2 : Int) : Option (Int) :=
  (laws_szIntS a1.Next left2).bind fun r3 =>
  if (decide (r3 < 0)) = true then
    some (-1)
  else
    some r3
def laws_szBlockS_l1 (a1 : List GBlock) : (Int × Int) → Option ((Int × Int) ⊕ ((Int) ⊕ (Int))) := fun ⟨left8, i9⟩ =>
  if (decide (i9 < (a1.length : Int))) = true then
    (getI a1 i9).bind fun e15 =>
    (laws_szBlock e15 left8).bind fun r16 =>
    if (decide (r16 < 0)) = true then
      some (Sum.inr (Sum.inr (-1)))
    else
      some (Sum.inl (r16, IntKind.wrap .i64 (i9 + 1)))
  else
    some (Sum.inr (Sum.inl left8))
def laws_szBlockS (a1 : List GBlock) (left2 : Int) : Option (Int) :=
  if (decide (IntKind.wrap .i64 (left2 - (a1.length : Int)) < 0)) = true then
    some (-1)
  else
    Option.bind (
      loopP (laws_szBlockS_l1 a1) (IntKind.wrap .i64 (left2 - (a1.length : Int)), 0)) fun j7 =>
    match j7 with
    | Sum.inr z => some z
    | Sum.inl left22 =>
      some left22
def spec_BlockAt_l1 (list1 : List GBlock) (i2 : Int) : Int → Option ((Int) ⊕ ((Unit) ⊕ (Int))) := fun k6 =>
  if (decide (k6 < (list1.length : Int))) = true then
    Option.bind (
      (getI list1 k6).bind fun e14 =>
      if (decide (e14.From ≤ i2)) = true then
        some (decide (i2 < e14.To))
      else
        some false) fun v17 =>
    if v17 = true then
      some (Sum.inr (Sum.inr k6))
    else
      some (Sum.inl (IntKind.wrap .i64 (k6 + 1)))
  else
    some (Sum.inr (Sum.inl ()))
def spec_BlockAt (list1 : List GBlock) (i2 : Int) : Option (Int) :=
  Option.bind (
    loopP (spec_BlockAt_l1 list1 i2) 0) fun j5 =>
  match j5 with
  | Sum.inr z => some z
  | Sum.inl () =>
    some (-1)
def laws_toIntS_l1 (a1 : List Int) : ((List Int) × Int) → Option (((List Int) × Int) ⊕ (List Int)) := fun ⟨out6, i7⟩ =>
  if (decide (i7 < (a1.length : Int))) = true then
    (getI a1 i7).bind fun e13 =>
    (getI out6 i7).bind fun e14 =>
    bindS (List.set out6 i7.toNat e13) fun l15 =>
    some (Sum.inl (l15, IntKind.wrap .i64 (i7 + 1)))
  else
    some (Sum.inr out6)
def laws_toIntS (a1 : List Int) : Option (List Int) :=
  (mkI 8 (a1.length : Int) 0).bind fun l2 =>
  Option.bind (
    loopP (laws_toIntS_l1 a1) (l2, 0)) fun out17 =>
  some out17
def laws_toBlock (a1 : GBlock) : Option (GBlock) :=
  (laws_toIntS a1.Next).bind fun r2 =>
  some (⟨a1.From, a1.To, r2⟩ : GBlock)
def laws_toBlockS_l1 (a1 : List GBlock) : ((List GBlock) × Int) → Option (((List GBlock) × Int) ⊕ (List GBlock)) := fun ⟨out6, i7⟩ =>
  if (decide (i7 < (a1.length : Int))) = true then
    (getI a1 i7).bind fun e13 =>
    (laws_toBlock e13).bind fun r14 =>
    (getI out6 i7).bind fun e16 =>
    bindS (List.set out6 i7.toNat r14) fun l17 =>
    some (Sum.inl (l17, IntKind.wrap .i64 (i7 + 1)))
  else
    some (Sum.inr out6)
def laws_toBlockS (a1 : List GBlock) : Option (List GBlock) :=
  (mkI 40 (a1.length : Int) (⟨0, 0, []⟩ : GBlock)).bind fun l2 =>
  Option.bind (
    loopP (laws_toBlockS_l1 a1) (l2, 0)) fun out19 =>
  some out19
def impl_BlockAt_l1 (list1 : List GBlock) (i2 : Int) : Int → Option ((Int) ⊕ ((Unit) ⊕ (Int))) := fun v6 =>
  if (decide (v6 < (list1.length : Int))) = true then
    (getI list1 v6).bind fun e12 =>
    Option.bind (
      if (decide (i2 ≥ e12.From)) = true then
        some (decide (i2 < e12.To))
      else
        some false) fun v17 =>
    if v17 = true then
      some (Sum.inr (Sum.inr v6))
    else
      some (Sum.inl (IntKind.wrap .i64 (v6 + 1)))
  else
    some (Sum.inr (Sum.inl ()))
def impl_BlockAt (list1 : List GBlock) (i2 : Int) : Option (Int) :=
  Option.bind (
    loopP (impl_BlockAt_l1 list1 i2) 0) fun j5 =>
  match j5 with
  | Sum.inr z => some z
  | Sum.inl () =>
    some (-1)
def laws_eqIntS_l1 (a1 : List Int) (b2 : List Int) : Int → Option ((Int) ⊕ ((Unit) ⊕ (Bool))) := fun i8 =>
  if (decide (i8 < (a1.length : Int))) = true then
    (getI a1 i8).bind fun e15 =>
    (getI b2 i8).bind fun e16 =>
    if (e15 != e16) = true then
      some (Sum.inr (Sum.inr false))
    else
      some (Sum.inl (IntKind.wrap .i64 (i8 + 1)))
  else
    some (Sum.inr (Sum.inl ()))
def laws_eqIntS (a1 : List Int) (b2 : List Int) : Option (Bool) :=
  if ((a1.length : Int) != (b2.length : Int)) = true then
    some false
  else
    Option.bind (
      loopP (laws_eqIntS_l1 a1 b2) 0) fun j7 =>
    match j7 with
    | Sum.inr z => some z
    | Sum.inl () =>
      some true
def laws_eqBlock (a1 : GBlock) (b2 : GBlock) : Option (Bool) :=
  if (a1.From != b2.From) = true then
    some false
  else
    if (a1.To != b2.To) = true then
      some false
    else
      (laws_eqIntS a1.Next b2.Next).bind fun r7 =>
      if (!r7) = true then
        some false
      else
        some true
def laws_eqBlockS_l1 (a1 : List GBlock) (b2 : List GBlock) : Int → Option ((Int) ⊕ ((Unit) ⊕ (Bool))) := fun i8 =>
  if (decide (i8 < (a1.length : Int))) = true then
    (getI a1 i8).bind fun e15 =>
    (getI b2 i8).bind fun e16 =>
    (laws_eqBlock e15 e16).bind fun r17 =>
    if (!r17) = true then
      some (Sum.inr (Sum.inr false))
    else
      some (Sum.inl (IntKind.wrap .i64 (i8 + 1)))
  else
    some (Sum.inr (Sum.inl ()))
def laws_eqBlockS (a1 : List GBlock) (b2 : List GBlock) : Option (Bool) :=
  if ((a1.length : Int) != (b2.length : Int)) = true then
    some false
  else
    Option.bind (
      loopP (laws_eqBlockS_l1 a1 b2) 0) fun j7 =>
    match j7 with
    | Sum.inr z => some z
    | Sum.inl () =>
      some true
def laws_FnExactBlockAt (aList1 : List GBlock) (aI2 : Int) : Option (Bool) :=
  (laws_szBlockS aList1 1048576).bind fun r3 =>
  if (decide (r3 < 0)) = true then
    some true
  else
    (laws_toBlockS aList1).bind fun r7 =>
    (spec_BlockAt r7 aI2).bind fun r9 =>
    (laws_toBlockS aList1).bind fun r11 =>
    (impl_BlockAt r11 aI2).bind fun r13 =>
    if (r13 != r9) = true then
      some false
    else
      (laws_toBlockS aList1).bind fun r17 =>
      (laws_eqBlockS r11 r17).bind fun r19 =>
      if (!r19) = true then
        some false
      else
        some true
def laws_szCase (a1 : GCase) (left2 : Int) : Option (Int) :=
  (laws_szIntS a1.Input left2).bind fun r3 =>
  if (decide (r3 < 0)) = true then
    some (-1)
  else
    (laws_szIntS a1.Want r3).bind fun r7 =>
    if (decide (r7 < 0)) = true then
      some (-1)
    else
      some r7
def spec_l01In (x1 : Int) (least2 : Int) (most3 : Int) : Option (Bool) :=
  Option.bind (
    if (decide (x1 ≥ least2)) = true then
      some (decide (x1 ≤ most3))
    else
      some false) fun v8 =>
  some v8
def spec_l01Var_l1 : (Int × (List Int)) → Option ((Int × (List Int)) ⊕ (Int × (List Int))) := fun ⟨n5, out6⟩ =>
  if (decide (n5 > 127)) = true then
    (appI 1 out6 [IntKind.wrap .u8 (IntKind.wrap .i64 ((Int.tmod n5 128) + 128))]).bind fun l12 =>
    some (Sum.inl (IntKind.wrap .i64 (Int.tdiv n5 128), l12))
  else
    some (Sum.inr (n5, out6))
def spec_l01Var (n1 : Int) : Option (ByteArray) :=
  Option.bind (
    loopP (spec_l01Var_l1) (n1, [])) fun ⟨n14, out15⟩ =>
  (appI 1 out15 [IntKind.wrap .u8 n14]).bind fun l16 =>
  some (bytesOf l16)
def spec_l27Nums_l1 (list1 : List Int) : (ByteArray × Int) → Option ((ByteArray × Int) ⊕ ((ByteArray) ⊕ (ByteArray × Bool))) := fun ⟨s9, i10⟩ =>
  if (decide (i10 < (list1.length : Int))) = true then
    (getI list1 i10).bind fun e16 =>
    (spec_l01In e16 0 1000000000).bind fun r17 =>
    if (!r17) = true then
      some (Sum.inr (Sum.inr ((⟨#[]⟩ : ByteArray), false)))
    else
      (getI list1 i10).bind fun e22 =>
      (spec_l01Var e22).bind fun r23 =>
      (sCat s9 r23).bind fun t25 =>
      some (Sum.inl (t25, IntKind.wrap .i64 (i10 + 1)))
  else
    some (Sum.inr (Sum.inl s9))
def spec_l27Nums (list1 : List Int) : Option (ByteArray × Bool) :=
  if (decide ((list1.length : Int) > 100)) = true then
    some ((⟨#[]⟩ : ByteArray), false)
  else
    (spec_l01Var (list1.length : Int)).bind fun r4 =>
    Option.bind (
      loopP (spec_l27Nums_l1 list1) (r4, 0)) fun j8 =>
    match j8 with
    | Sum.inr z => some z
    | Sum.inl s27 =>
      some (s27, true)
def spec_CaseText (c1 : GCase) : Option (ByteArray) :=
  (spec_l27Nums c1.Input).bind fun ⟨r2, r3⟩ =>
  (spec_l27Nums c1.Want).bind fun ⟨r5, r6⟩ =>
  Option.bind (
    if (!r3) = true then
      some true
    else
      if (!r6) = true then
        some true
      else
        (spec_l01In c1.End 0 1000000000).bind fun r14 =>
        some (!r14)) fun v16 =>
  if v16 = true then
    some (⟨#[]⟩ : ByteArray)
  else
    (sCat r2 r5).bind fun t19 =>
    (spec_l01Var c1.End).bind fun r20 =>
    (sCat t19 r20).bind fun t22 =>
    some t22
def laws_toCase (a1 : GCase) : Option (GCase) :=
  (laws_toIntS a1.Input).bind fun r2 =>
  (laws_toIntS a1.Want).bind fun r4 =>
  some (⟨r2, r4, a1.End⟩ : GCase)
def impl_varText_l1 : (Int × (List Int)) → Option ((Int × (List Int)) ⊕ (Int × (List Int))) := fun ⟨n5, out6⟩ =>
  if (decide (n5 > 127)) = true then
    (appI 1 out6 [IntKind.wrap .u8 (IntKind.wrap .i64 (128 + (Int.tmod n5 128)))]).bind fun l12 =>
    some (Sum.inl (IntKind.wrap .i64 (Int.tdiv n5 128), l12))
  else
    some (Sum.inr (n5, out6))
def impl_varText (n1 : Int) : Option (ByteArray) :=
  Option.bind (
    loopP (impl_varText_l1) (n1, [])) fun ⟨n14, out15⟩ =>
  (appI 1 out15 [IntKind.wrap .u8 n14]).bind fun l16 =>
  some (bytesOf l16)
def impl_in (n1 : Int) (low2 : Int) (high3 : Int) : Option (Bool) :=
  Option.bind (
    if (decide (n1 ≥ low2)) = true then
      some (decide (n1 ≤ high3))
    else
      some false) fun v8 =>
  some v8
def impl_VarText (n1 : Int) : Option (ByteArray × Bool) :=
  (impl_in n1 0 1000000000).bind fun r2 =>
  if (!r2) = true then
    some ((⟨#[]⟩ : ByteArray), false)
  else
    (impl_varText n1).bind fun r6 =>
    some (r6, true)
def impl_numbersText_l1 (l1 : List Int) : (ByteArray × Int) → Option ((ByteArray × Int) ⊕ ((ByteArray) ⊕ (ByteArray × Bool))) := fun ⟨out9, v10⟩ =>
  if (decide (v10 < (l1.length : Int))) = true then
    (getI l1 v10).bind fun e16 =>
    (impl_VarText e16).bind fun ⟨r17, r18⟩ =>
    if (!r18) = true then
      some (Sum.inr (Sum.inr ((⟨#[]⟩ : ByteArray), false)))
    else
      (sCat out9 r17).bind fun t23 =>
      some (Sum.inl (t23, IntKind.wrap .i64 (v10 + 1)))
  else
    some (Sum.inr (Sum.inl out9))
def impl_numbersText (l1 : List Int) : Option (ByteArray × Bool) :=
  if (decide ((l1.length : Int) > 100)) = true then
    some ((⟨#[]⟩ : ByteArray), false)
  else
    (impl_varText (l1.length : Int)).bind fun r4 =>
    Option.bind (
      loopP (impl_numbersText_l1 l1) (r4, 0)) fun j8 =>
    match j8 with
    | Sum.inr z => some z
    | Sum.inl out25 =>
      some (out25, true)
def impl_CaseText (c1 : GCase) : Option (ByteArray) :=
  (impl_numbersText c1.Input).bind fun ⟨r2, r3⟩ =>
  (impl_numbersText c1.Want).bind fun ⟨r5, r6⟩ =>
  (impl_VarText c1.End).bind fun ⟨r8, r9⟩ =>
  Option.bind (
    if (!r3) = true then
      some true
    else
      if (!r6) = true then
        some true
      else
        some (!r9)) fun v17 =>
  if v17 = true then
    some (⟨#[]⟩ : ByteArray)
  else
    (sCat r2 r5).bind fun t20 =>
    (sCat t20 r8).bind fun t21 =>
    some t21
def laws_eqCase (a1 : GCase) (b2 : GCase) : Option (Bool) :=
  (laws_eqIntS a1.Input b2.Input).bind fun r3 =>
  if (!r3) = true then
    some false
  else
    (laws_eqIntS a1.Want b2.Want).bind fun r7 =>
    if (!r7) = true then
      some false
    else
      if (a1.End != b2.End) = true then
        some false
      else
        some true
def laws_FnExactCaseText (aC1 : GCase) : Option (Bool) :=
  (laws_szCase aC1 1048576).bind fun r2 =>
  if (decide (r2 < 0)) = true then
    some true
  else
    (laws_toCase aC1).bind fun r6 =>
    (spec_CaseText r6).bind fun r8 =>
    (laws_toCase aC1).bind fun r10 =>
    (impl_CaseText r10).bind fun r12 =>
    if (!(sEq r12 r8)) = true then
      some false
    else
      (laws_toCase aC1).bind fun r17 =>
      (laws_eqCase r10 r17).bind fun r19 =>
      if (!r19) = true then
        some false
      else
        some true
def spec_ReadVar_l1 (text1 : ByteArray) (at2 : Int) : (Int × Int × Int) → Option ((Int × Int × Int) ⊕ ((Unit) ⊕ (Int × Int × Bool))) := fun ⟨n10, scale11, i12⟩ =>
  Option.bind (
    if (decide (i12 < (text1.size : Int))) = true then
      some (decide (i12 < IntKind.wrap .i64 (at2 + 5)))
    else
      some false) fun v20 =>
  if v20 = true then
    (sAt text1 i12).bind fun c23 =>
    (sAt text1 i12).bind fun c24 =>
    if (decide (c24 < 128)) = true then
      Option.bind (
        if (decide (IntKind.wrap .i64 (n10 + (IntKind.wrap .i64 ((Int.tmod (IntKind.wrap .i64 c23) 128) * scale11))) > 1000000000)) = true then
          some true
        else
          (spec_l01Var (IntKind.wrap .i64 (n10 + (IntKind.wrap .i64 ((Int.tmod (IntKind.wrap .i64 c23) 128) * scale11))))).bind fun r31 =>
          (sSub text1 at2 (IntKind.wrap .i64 (i12 + 1))).bind fun t33 =>
          some (!(sEq r31 t33))) fun v34 =>
      if v34 = true then
        some (Sum.inr (Sum.inr (0, 0, false)))
      else
        some (Sum.inr (Sum.inr (IntKind.wrap .i64 (n10 + (IntKind.wrap .i64 ((Int.tmod (IntKind.wrap .i64 c23) 128) * scale11))), IntKind.wrap .i64 (i12 + 1), true)))
    else
      some (Sum.inl (IntKind.wrap .i64 (n10 + (IntKind.wrap .i64 ((Int.tmod (IntKind.wrap .i64 c23) 128) * scale11))), IntKind.wrap .i64 (scale11 * 128), IntKind.wrap .i64 (i12 + 1)))
  else
    some (Sum.inr (Sum.inl ()))
def spec_ReadVar (text1 : ByteArray) (at2 : Int) : Option (Int × Int × Bool) :=
  (spec_l01In at2 0 (text1.size : Int)).bind fun r3 =>
  if (!r3) = true then
    some (0, 0, false)
  else
    Option.bind (
      loopP (spec_ReadVar_l1 text1 at2) (0, 1, at2)) fun j9 =>
    match j9 with
    | Sum.inr z => some z
    | Sum.inl () =>
      some (0, 0, false)
def spec_l27Read_l1 (t1 : ByteArray) (r3 : Int) : (Int × (List Int) × Int) → Option ((Int × (List Int) × Int) ⊕ ((Int × (List Int)) ⊕ ((List Int) × Int))) := fun ⟨at17, out18, i19⟩ =>
  if (decide (i19 < r3)) = true then
    (spec_ReadVar t1 at17).bind fun ⟨r25, r26, r27⟩ =>
    if (!r27) = true then
      some (Sum.inr (Sum.inr (out18, (-1))))
    else
      (appI 8 out18 [r25]).bind fun l32 =>
      some (Sum.inl (r26, l32, IntKind.wrap .i64 (i19 + 1)))
  else
    some (Sum.inr (Sum.inl (at17, out18)))
def spec_l27Read (t1 : ByteArray) (at2 : Int) : Option ((List Int) × Int) :=
  (spec_ReadVar t1 at2).bind fun ⟨r3, r4, r5⟩ =>
  Option.bind (
    if (!r5) = true then
      some true
    else
      some (decide (r3 > 100))) fun v11 =>
  if v11 = true then
    some ([], (-1))
  else
    Option.bind (
      loopP (spec_l27Read_l1 t1 r3) (r4, [], 0)) fun j16 =>
    match j16 with
    | Sum.inr z => some z
    | Sum.inl (at34, out35) =>
      some (out35, at34)
def spec_ReadCase (t1 : ByteArray) : Option (GCase × Bool) :=
  (spec_l27Read t1 0).bind fun ⟨r2, r3⟩ =>
  if (decide (r3 < 0)) = true then
    some ((⟨[], [], 0⟩ : GCase), false)
  else
    (spec_l27Read t1 r3).bind fun ⟨r7, r8⟩ =>
    if (decide (r8 < 0)) = true then
      some ((⟨[], [], 0⟩ : GCase), false)
    else
      (spec_ReadVar t1 r8).bind fun ⟨r12, r13, r14⟩ =>
      Option.bind (
        if (!r14) = true then
          some true
        else
          if (r13 != (t1.size : Int)) = true then
            some true
          else
            (spec_CaseText (⟨r2, r7, r12⟩ : GCase)).bind fun r22 =>
            some (!(sEq r22 t1))) fun v24 =>
      if v24 = true then
        some ((⟨[], [], 0⟩ : GCase), false)
      else
        some ((⟨r2, r7, r12⟩ : GCase), true)
def impl_ReadVar_l1 (text1 : ByteArray) (at2 : Int) : (Int × Int) → Option ((Int × Int) ⊕ ((Unit) ⊕ (Int × Int × Bool))) := fun ⟨n10, k11⟩ =>
  Option.bind (
    if (decide (k11 < 5)) = true then
      some (decide (IntKind.wrap .i64 (at2 + k11) < (text1.size : Int)))
    else
      some false) fun v19 =>
  if v19 = true then
    (sAt text1 (IntKind.wrap .i64 (at2 + k11))).bind fun c22 =>
    (shlI .i64 (Int.tmod (IntKind.wrap .i64 c22) 128) (IntKind.wrap .i64 (7 * k11))).bind fun n23 =>
    if (decide (IntKind.wrap .i64 c22 < 128)) = true then
      Option.bind (
        if ((IntKind.wrap .i64 c22) == 0) = true then
          if (decide (k11 > 0)) = true then
            some true
          else
            some (decide (IntKind.wrap .i64 (n10 + n23) > 1000000000))
        else
          some (decide (IntKind.wrap .i64 (n10 + n23) > 1000000000))) fun v32 =>
      if v32 = true then
        some (Sum.inr (Sum.inr (0, 0, false)))
      else
        some (Sum.inr (Sum.inr (IntKind.wrap .i64 (n10 + n23), IntKind.wrap .i64 ((IntKind.wrap .i64 (at2 + k11)) + 1), true)))
    else
      some (Sum.inl (IntKind.wrap .i64 (n10 + n23), IntKind.wrap .i64 (k11 + 1)))
  else
    some (Sum.inr (Sum.inl ()))
def impl_ReadVar (text1 : ByteArray) (at2 : Int) : Option (Int × Int × Bool) :=
  (impl_in at2 0 (text1.size : Int)).bind fun r3 =>
  if (!r3) = true then
    some (0, 0, false)
  else
    Option.bind (
      loopP (impl_ReadVar_l1 text1 at2) (0, 0)) fun j9 =>
    match j9 with
    | Sum.inr z => some z
    | Sum.inl () =>
      some (0, 0, false)
def impl_fields_num (f1 : Gfields) : Option (Int × Gfields) :=
  (impl_ReadVar f1.text f1.at_).bind fun ⟨r3, r4, r5⟩ =>
  if (!r5) = true then
    some (0, (⟨f1.text, f1.at_, true⟩ : Gfields))
  else
    some (r3, (⟨f1.text, r4, f1.bad⟩ : Gfields))
def impl_fields_numbers_l1 (r2 : Int) : ((List Int) × Int × Gfields) → Option (((List Int) × Int × Gfields) ⊕ ((List Int) × Gfields)) := fun ⟨out14, k15, v16⟩ =>
  Option.bind (
    if (decide (k15 < r2)) = true then
      some (!v16.bad)
    else
      some false) fun v24 =>
  if v24 = true then
    (impl_fields_num v16).bind fun ⟨r27, q28⟩ =>
    (appI 8 out14 [r27]).bind fun l30 =>
    some (Sum.inl (l30, IntKind.wrap .i64 (k15 + 1), q28))
  else
    some (Sum.inr (out14, v16))
def impl_fields_numbers (f1 : Gfields) : Option ((List Int) × Gfields) :=
  (impl_fields_num f1).bind fun ⟨r2, q3⟩ =>
  Option.bind (
    if (decide (r2 > 100)) = true then
      some (⟨q3.text, q3.at_, true⟩ : Gfields)
    else
      some q3) fun v10 =>
  Option.bind (
    loopP (impl_fields_numbers_l1 r2) ([], 0, v10)) fun ⟨out32, v33⟩ =>
  some (out32, v33)
def impl_fields_done (f1 : Gfields) : Option (Bool × Gfields) :=
  Option.bind (
    if (!f1.bad) = true then
      some (f1.at_ == (f1.text.size : Int))
    else
      some false) fun v6 =>
  some (v6, f1)
def impl_ReadCase (t1 : ByteArray) : Option (GCase × Bool) :=
  (impl_fields_numbers (⟨t1, 0, false⟩ : Gfields)).bind fun ⟨r2, q3⟩ =>
  (impl_fields_numbers q3).bind fun ⟨r5, q6⟩ =>
  (impl_fields_num q6).bind fun ⟨r8, q9⟩ =>
  (impl_fields_done q9).bind fun ⟨r11, q12⟩ =>
  if (!r11) = true then
    some ((⟨[], [], 0⟩ : GCase), false)
  else
    some ((⟨r2, r5, r8⟩ : GCase), true)
def laws_markIntS_l1 : ((List Int) × Int × Int) → Option (((List Int) × Int × Int) ⊕ ((List Int) × Int)) := fun ⟨a6, k7, i8⟩ =>
  if (decide (i8 < (a6.length : Int))) = true then
    (getI a6 i8).bind fun e14 =>
    bindS (List.set a6 i8.toNat k7) fun l15 =>
    some (Sum.inl (l15, IntKind.wrap .i64 (k7 + 1), IntKind.wrap .i64 (i8 + 1)))
  else
    some (Sum.inr (a6, k7))
def laws_markIntS (a1 : List Int) (k2 : Int) : Option (Int × (List Int)) :=
  Option.bind (
    loopP (laws_markIntS_l1) (a1, k2, 0)) fun ⟨a17, k18⟩ =>
  some (k18, a17)
def laws_markCase (a1 : GCase) (k2 : Int) : Option (Int × GCase) :=
  (laws_markIntS a1.Input k2).bind fun ⟨r3, q4⟩ =>
  (laws_markIntS a1.Want r3).bind fun ⟨r6, q7⟩ =>
  some (r6, (⟨q4, q7, a1.End⟩ : GCase))
def laws_heldIntS_l1 (a1 : List Int) : (Int × Int) → Option ((Int × Int) ⊕ ((Int) ⊕ (Int))) := fun ⟨k6, i7⟩ =>
  if (decide (i7 < (a1.length : Int))) = true then
    (getI a1 i7).bind fun e13 =>
    if (e13 != k6) = true then
      some (Sum.inr (Sum.inr (-1)))
    else
      some (Sum.inl (IntKind.wrap .i64 (k6 + 1), IntKind.wrap .i64 (i7 + 1)))
  else
    some (Sum.inr (Sum.inl k6))
def laws_heldIntS (a1 : List Int) (k2 : Int) : Option (Int) :=
  Option.bind (
    loopP (laws_heldIntS_l1 a1) (k2, 0)) fun j5 =>
  match j5 with
  | Sum.inr z => some z
  | Sum.inl k18 =>
    some k18
def laws_heldCase (a1 : GCase) (k2 : Int) : Option (Int) :=
  (laws_heldIntS a1.Input k2).bind fun r3 =>
  if (decide (r3 < 0)) = true then
    some (-1)
  else
    (laws_heldIntS a1.Want r3).bind fun r7 =>
    if (decide (r7 < 0)) = true then
      some (-1)
    else
      some r7
def laws_FnExactReadCase (aT1 : ByteArray) : Option (Bool) :=
  if (decide ((aT1.size : Int) > 1048576)) = true then
    some true
  else
    (spec_ReadCase aT1).bind fun ⟨r4, r5⟩ =>
    (impl_ReadCase aT1).bind fun ⟨r7, r8⟩ =>
    Option.bind (
      (laws_eqCase r7 r4).bind fun r12 =>
      if (!r12) = true then
        some true
      else
        some (!(r8 == r5))) fun v16 =>
    if v16 = true then
      some false
    else
      (laws_markCase r7 1).bind fun ⟨r19, q20⟩ =>
      (laws_heldCase q20 1).bind fun r22 =>
      if (decide (r22 < 0)) = true then
        some false
      else
        if (r22 != r19) = true then
          some false
        else
          (impl_ReadCase aT1).bind fun ⟨r28, r29⟩ =>
          Option.bind (
            (laws_eqCase r28 r4).bind fun r33 =>
            if (!r33) = true then
              some true
            else
              some (!(r29 == r5))) fun v37 =>
          if v37 = true then
            some false
          else
            (laws_heldCase q20 1).bind fun r40 =>
            if (decide (r40 < 0)) = true then
              some false
            else
              if (r40 != r19) = true then
                some false
              else
                some true
def laws_szNode (a1 : GNode) (left2 : Int) : Option (Int) :=
  if (decide (IntKind.wrap .i64 (left2 - (a1.Name.size : Int)) < 0)) = true then
    some (-1)
  else
    (laws_szIntS a1.Kids (IntKind.wrap .i64 (left2 - (a1.Name.size : Int)))).bind fun r5 =>
    if (decide (r5 < 0)) = true then
      some (-1)
    else
      some r5
def laws_szNodeS_l1 (a1 : List GNode) : (Int × Int) → Option ((Int × Int) ⊕ ((Int) ⊕ (Int))) := fun ⟨left8, i9⟩ =>
  if (decide (i9 < (a1.length : Int))) = true then
    (getI a1 i9).bind fun e15 =>
    (laws_szNode e15 left8).bind fun r16 =>
    if (decide (r16 < 0)) = true then
      some (Sum.inr (Sum.inr (-1)))
    else
      some (Sum.inl (r16, IntKind.wrap .i64 (i9 + 1)))
  else
    some (Sum.inr (Sum.inl left8))
def laws_szNodeS (a1 : List GNode) (left2 : Int) : Option (Int) :=
  if (decide (IntKind.wrap .i64 (left2 - (a1.length : Int)) < 0)) = true then
    some (-1)
  else
    Option.bind (
      loopP (laws_szNodeS_l1 a1) (IntKind.wrap .i64 (left2 - (a1.length : Int)), 0)) fun j7 =>
    match j7 with
    | Sum.inr z => some z
    | Sum.inl left22 =>
      some left22
def laws_szParam (a1 : GParam) (left2 : Int) : Option (Int) :=
  if (decide (IntKind.wrap .i64 (left2 - (a1.Name.size : Int)) < 0)) = true then
    some (-1)
  else
    some (IntKind.wrap .i64 (left2 - (a1.Name.size : Int)))
def laws_szParamS_l1 (a1 : List GParam) : (Int × Int) → Option ((Int × Int) ⊕ ((Int) ⊕ (Int))) := fun ⟨left8, i9⟩ =>
  if (decide (i9 < (a1.length : Int))) = true then
    (getI a1 i9).bind fun e15 =>
    (laws_szParam e15 left8).bind fun r16 =>
    if (decide (r16 < 0)) = true then
      some (Sum.inr (Sum.inr (-1)))
    else
      some (Sum.inl (r16, IntKind.wrap .i64 (i9 + 1)))
  else
    some (Sum.inr (Sum.inl left8))
def laws_szParamS (a1 : List GParam) (left2 : Int) : Option (Int) :=
  if (decide (IntKind.wrap .i64 (left2 - (a1.length : Int)) < 0)) = true then
    some (-1)
  else
    Option.bind (
      loopP (laws_szParamS_l1 a1) (IntKind.wrap .i64 (left2 - (a1.length : Int)), 0)) fun j7 =>
    match j7 with
    | Sum.inr z => some z
    | Sum.inl left22 =>
      some left22
def laws_szFn (a1 : GFn) (left2 : Int) : Option (Int) :=
  if (decide (IntKind.wrap .i64 (left2 - (a1.Name.size : Int)) < 0)) = true then
    some (-1)
  else
    (laws_szParamS a1.Params (IntKind.wrap .i64 (left2 - (a1.Name.size : Int)))).bind fun r5 =>
    if (decide (r5 < 0)) = true then
      some (-1)
    else
      some r5
def laws_szFnS_l1 (a1 : List GFn) : (Int × Int) → Option ((Int × Int) ⊕ ((Int) ⊕ (Int))) := fun ⟨left8, i9⟩ =>
  if (decide (i9 < (a1.length : Int))) = true then
    (getI a1 i9).bind fun e15 =>
    (laws_szFn e15 left8).bind fun r16 =>
    if (decide (r16 < 0)) = true then
      some (Sum.inr (Sum.inr (-1)))
    else
      some (Sum.inl (r16, IntKind.wrap .i64 (i9 + 1)))
  else
    some (Sum.inr (Sum.inl left8))
def laws_szFnS (a1 : List GFn) (left2 : Int) : Option (Int) :=
  if (decide (IntKind.wrap .i64 (left2 - (a1.length : Int)) < 0)) = true then
    some (-1)
  else
    Option.bind (
      loopP (laws_szFnS_l1 a1) (IntKind.wrap .i64 (left2 - (a1.length : Int)), 0)) fun j7 =>
    match j7 with
    | Sum.inr z => some z
    | Sum.inl left22 =>
      some left22
def laws_szProgram (a1 : GProgram) (left2 : Int) : Option (Int) :=
  (laws_szNodeS a1.Nodes left2).bind fun r3 =>
  if (decide (r3 < 0)) = true then
    some (-1)
  else
    (laws_szFnS a1.Fns r3).bind fun r7 =>
    if (decide (r7 < 0)) = true then
      some (-1)
    else
      some r7
def spec_KindCount_l1 (p1 : GProgram) (kind2 : Int) : (Int × Int) → Option ((Int × Int) ⊕ (Int)) := fun ⟨n6, i7⟩ =>
  if (decide (i7 < (p1.Nodes.length : Int))) = true then
    (getI p1.Nodes i7).bind fun e13 =>
    if (e13.Kind == kind2) = true then
      some (Sum.inl (IntKind.wrap .i64 (n6 + 1), IntKind.wrap .i64 (i7 + 1)))
    else
      some (Sum.inl (n6, IntKind.wrap .i64 (i7 + 1)))
  else
    some (Sum.inr n6)
def spec_KindCount (p1 : GProgram) (kind2 : Int) : Option (Int) :=
  Option.bind (
    loopP (spec_KindCount_l1 p1 kind2) (0, 0)) fun n17 =>
  some n17
def laws_toNode (a1 : GNode) : Option (GNode) :=
  (laws_toIntS a1.Kids).bind fun r2 =>
  some (⟨a1.Kind, a1.Num, a1.Name, r2⟩ : GNode)
def laws_toNodeS_l1 (a1 : List GNode) : ((List GNode) × Int) → Option (((List GNode) × Int) ⊕ (List GNode)) := fun ⟨out6, i7⟩ =>
  if (decide (i7 < (a1.length : Int))) = true then
    (getI a1 i7).bind fun e13 =>
    (laws_toNode e13).bind fun r14 =>
    (getI out6 i7).bind fun e16 =>
    bindS (List.set out6 i7.toNat r14) fun l17 =>
    some (Sum.inl (l17, IntKind.wrap .i64 (i7 + 1)))
  else
    some (Sum.inr out6)
def laws_toNodeS (a1 : List GNode) : Option (List GNode) :=
  (mkI 56 (a1.length : Int) (⟨0, 0, ByteArray.empty, []⟩ : GNode)).bind fun l2 =>
  Option.bind (
    loopP (laws_toNodeS_l1 a1) (l2, 0)) fun out19 =>
  some out19
def laws_toParam (a1 : GParam) : Option (GParam) :=
  some (⟨a1.Name, a1.Typ⟩ : GParam)
def laws_toParamS_l1 (a1 : List GParam) : ((List GParam) × Int) → Option (((List GParam) × Int) ⊕ (List GParam)) := fun ⟨out6, i7⟩ =>
  if (decide (i7 < (a1.length : Int))) = true then
    (getI a1 i7).bind fun e13 =>
    (laws_toParam e13).bind fun r14 =>
    (getI out6 i7).bind fun e16 =>
    bindS (List.set out6 i7.toNat r14) fun l17 =>
    some (Sum.inl (l17, IntKind.wrap .i64 (i7 + 1)))
  else
    some (Sum.inr out6)
def laws_toParamS (a1 : List GParam) : Option (List GParam) :=
  (mkI 24 (a1.length : Int) (⟨ByteArray.empty, 0⟩ : GParam)).bind fun l2 =>
  Option.bind (
    loopP (laws_toParamS_l1 a1) (l2, 0)) fun out19 =>
  some out19
def laws_toFn (a1 : GFn) : Option (GFn) :=
  (laws_toParamS a1.Params).bind fun r2 =>
  some (⟨a1.Name, r2, a1.Res, a1.Body, a1.Ret⟩ : GFn)
def laws_toFnS_l1 (a1 : List GFn) : ((List GFn) × Int) → Option (((List GFn) × Int) ⊕ (List GFn)) := fun ⟨out6, i7⟩ =>
  if (decide (i7 < (a1.length : Int))) = true then
    (getI a1 i7).bind fun e13 =>
    (laws_toFn e13).bind fun r14 =>
    (getI out6 i7).bind fun e16 =>
    bindS (List.set out6 i7.toNat r14) fun l17 =>
    some (Sum.inl (l17, IntKind.wrap .i64 (i7 + 1)))
  else
    some (Sum.inr out6)
def laws_toFnS (a1 : List GFn) : Option (List GFn) :=
  (mkI 64 (a1.length : Int) (⟨ByteArray.empty, [], 0, 0, 0⟩ : GFn)).bind fun l2 =>
  Option.bind (
    loopP (laws_toFnS_l1 a1) (l2, 0)) fun out19 =>
  some out19
def laws_toProgram (a1 : GProgram) : Option (GProgram) :=
  (laws_toNodeS a1.Nodes).bind fun r2 =>
  (laws_toFnS a1.Fns).bind fun r4 =>
  some (⟨r2, r4⟩ : GProgram)
def impl_KindCount_l1 (p1 : GProgram) (kind2 : Int) : (Int × Int) → Option ((Int × Int) ⊕ (Int)) := fun ⟨n6, v7⟩ =>
  if (decide (v7 < (p1.Nodes.length : Int))) = true then
    (getI p1.Nodes v7).bind fun e13 =>
    if (e13.Kind == kind2) = true then
      some (Sum.inl (IntKind.wrap .i64 (n6 + 1), IntKind.wrap .i64 (v7 + 1)))
    else
      some (Sum.inl (n6, IntKind.wrap .i64 (v7 + 1)))
  else
    some (Sum.inr n6)
def impl_KindCount (p1 : GProgram) (kind2 : Int) : Option (Int) :=
  Option.bind (
    loopP (impl_KindCount_l1 p1 kind2) (0, 0)) fun n17 =>
  some n17
def laws_eqNode (a1 : GNode) (b2 : GNode) : Option (Bool) :=
  if (a1.Kind != b2.Kind) = true then
    some false
  else
    if (a1.Num != b2.Num) = true then
      some false
    else
      if (!(sEq a1.Name b2.Name)) = true then
        some false
      else
        (laws_eqIntS a1.Kids b2.Kids).bind fun r9 =>
        if (!r9) = true then
          some false
        else
          some true
def laws_eqNodeS_l1 (a1 : List GNode) (b2 : List GNode) : Int → Option ((Int) ⊕ ((Unit) ⊕ (Bool))) := fun i8 =>
  if (decide (i8 < (a1.length : Int))) = true then
    (getI a1 i8).bind fun e15 =>
    (getI b2 i8).bind fun e16 =>
    (laws_eqNode e15 e16).bind fun r17 =>
    if (!r17) = true then
      some (Sum.inr (Sum.inr false))
    else
      some (Sum.inl (IntKind.wrap .i64 (i8 + 1)))
  else
    some (Sum.inr (Sum.inl ()))
def laws_eqNodeS (a1 : List GNode) (b2 : List GNode) : Option (Bool) :=
  if ((a1.length : Int) != (b2.length : Int)) = true then
    some false
  else
    Option.bind (
      loopP (laws_eqNodeS_l1 a1 b2) 0) fun j7 =>
    match j7 with
    | Sum.inr z => some z
    | Sum.inl () =>
      some true
def laws_eqParam (a1 : GParam) (b2 : GParam) : Option (Bool) :=
  if (!(sEq a1.Name b2.Name)) = true then
    some false
  else
    if (a1.Typ != b2.Typ) = true then
      some false
    else
      some true
def laws_eqParamS_l1 (a1 : List GParam) (b2 : List GParam) : Int → Option ((Int) ⊕ ((Unit) ⊕ (Bool))) := fun i8 =>
  if (decide (i8 < (a1.length : Int))) = true then
    (getI a1 i8).bind fun e15 =>
    (getI b2 i8).bind fun e16 =>
    (laws_eqParam e15 e16).bind fun r17 =>
    if (!r17) = true then
      some (Sum.inr (Sum.inr false))
    else
      some (Sum.inl (IntKind.wrap .i64 (i8 + 1)))
  else
    some (Sum.inr (Sum.inl ()))
def laws_eqParamS (a1 : List GParam) (b2 : List GParam) : Option (Bool) :=
  if ((a1.length : Int) != (b2.length : Int)) = true then
    some false
  else
    Option.bind (
      loopP (laws_eqParamS_l1 a1 b2) 0) fun j7 =>
    match j7 with
    | Sum.inr z => some z
    | Sum.inl () =>
      some true
def laws_eqFn (a1 : GFn) (b2 : GFn) : Option (Bool) :=
  if (!(sEq a1.Name b2.Name)) = true then
    some false
  else
    (laws_eqParamS a1.Params b2.Params).bind fun r5 =>
    if (!r5) = true then
      some false
    else
      if (a1.Res != b2.Res) = true then
        some false
      else
        if (a1.Body != b2.Body) = true then
          some false
        else
          if (a1.Ret != b2.Ret) = true then
            some false
          else
            some true
def laws_eqFnS_l1 (a1 : List GFn) (b2 : List GFn) : Int → Option ((Int) ⊕ ((Unit) ⊕ (Bool))) := fun i8 =>
  if (decide (i8 < (a1.length : Int))) = true then
    (getI a1 i8).bind fun e15 =>
    (getI b2 i8).bind fun e16 =>
    (laws_eqFn e15 e16).bind fun r17 =>
    if (!r17) = true then
      some (Sum.inr (Sum.inr false))
    else
      some (Sum.inl (IntKind.wrap .i64 (i8 + 1)))
  else
    some (Sum.inr (Sum.inl ()))
def laws_eqFnS (a1 : List GFn) (b2 : List GFn) : Option (Bool) :=
  if ((a1.length : Int) != (b2.length : Int)) = true then
    some false
  else
    Option.bind (
      loopP (laws_eqFnS_l1 a1 b2) 0) fun j7 =>
    match j7 with
    | Sum.inr z => some z
    | Sum.inl () =>
      some true
def laws_eqProgram (a1 : GProgram) (b2 : GProgram) : Option (Bool) :=
  (laws_eqNodeS a1.Nodes b2.Nodes).bind fun r3 =>
  if (!r3) = true then
    some false
  else
    (laws_eqFnS a1.Fns b2.Fns).bind fun r7 =>
    if (!r7) = true then
      some false
    else
      some true
def laws_FnExactKindCount (aP1 : GProgram) (aKind2 : Int) : Option (Bool) :=
  (laws_szProgram aP1 1048576).bind fun r3 =>
  if (decide (r3 < 0)) = true then
    some true
  else
    (laws_toProgram aP1).bind fun r7 =>
    (spec_KindCount r7 aKind2).bind fun r9 =>
    (laws_toProgram aP1).bind fun r11 =>
    (impl_KindCount r11 aKind2).bind fun r13 =>
    if (r13 != r9) = true then
      some false
    else
      (laws_toProgram aP1).bind fun r18 =>
      (laws_eqProgram r11 r18).bind fun r20 =>
      if (!r20) = true then
        some false
      else
        some true
end Go.OM
end
set_option maxRecDepth 100000
namespace Go.Proofs.T
open Go.OM
noncomputable def ty : TypeId → Option TI
  | 2 => some ⟨1, 8, .int .i64, [.v (.int .i64 0)]⟩
  | 3 => some ⟨1, 8, .int .i64, [.v (.int .i64 0)]⟩
  | 4 => some ⟨1, 1, .bool, [.v (.bool false)]⟩
  | 5 => some ⟨1, 1, .int .u8, [.v (.int .u8 0)]⟩
  | 7 => some ⟨4, 24, .struct [(0, 1), (1, 1), (2, 1), (3, 1)], [.v (.int .i64 0), .v (.int .i64 0), .v (.bool false), .v (.int .u8 0)]⟩
  | 9 => some ⟨1, 16, .str, [.v (.string .empty)]⟩
  | 12 => some ⟨1, 8, .int .u64, [.v (.int .u64 0)]⟩
  | 13 => some ⟨2, 24, .struct [(0, 1), (1, 1)], [.v (.string .empty), .v (.int .u64 0)]⟩
  | 15 => some ⟨1, 8, .ptr, [.v (.pointer none)]⟩
  | 16 => some ⟨1, 8, .ptr, [.v (.pointer none)]⟩
  | 17 => some ⟨1, 8, .ptr, [.v (.pointer none)]⟩
  | 18 => some ⟨1, 8, .struct [(0, 1)], [.v (.pointer none)]⟩
  | 20 => some ⟨1, 16, .iface, [.v .nilIface]⟩
  | 21 => some ⟨1, 4, .int .i32, [.v (.int .i32 0)]⟩
  | 22 => some ⟨1, 24, .slice 57, [.nl true 3 none]⟩
  | 23 => some ⟨1, 8, .func, [.v .nilFunc]⟩
  | 24 => some ⟨1, 8, .func, [.v .nilFunc]⟩
  | 25 => some ⟨1, 24, .slice 58, [.nl true 3 none]⟩
  | 26 => some ⟨1, 8, .func, [.v .nilFunc]⟩
  | 27 => some ⟨1, 8, .func, [.v .nilFunc]⟩
  | 28 => some ⟨1, 8, .func, [.v .nilFunc]⟩
  | 29 => some ⟨1, 24, .slice 3, [.nl true 1 none]⟩
  | 30 => some ⟨3, 56, .struct [(0, 1), (1, 1), (2, 1)], [.nl true 1 none, .nl true 1 none, .v (.int .i64 0)]⟩
  | 31 => some ⟨3, 56, .struct [(0, 1), (1, 1), (2, 1)], [.nl true 1 none, .nl true 1 none, .v (.int .i64 0)]⟩
  | 32 => some ⟨1, 8, .func, [.v .nilFunc]⟩
  | 33 => some ⟨1, 8, .func, [.v .nilFunc]⟩
  | 34 => some ⟨3, 56, .struct [(0, 1), (1, 1), (2, 1)], [.nl true 1 none, .nl true 1 none, .v (.int .i64 0)]⟩
  | 35 => some ⟨1, 8, .func, [.v .nilFunc]⟩
  | 36 => some ⟨1, 8, .func, [.v .nilFunc]⟩
  | 37 => some ⟨1, 8, .func, [.v .nilFunc]⟩
  | 39 => some ⟨1, 8, .func, [.v .nilFunc]⟩
  | 40 => some ⟨1, 8, .func, [.v .nilFunc]⟩
  | 41 => some ⟨1, 8, .func, [.v .nilFunc]⟩
  | 42 => some ⟨1, 24, .slice 89, [.nl true 4 none]⟩
  | 43 => some ⟨1, 24, .slice 93, [.nl true 5 none]⟩
  | 44 => some ⟨2, 48, .struct [(0, 1), (1, 1)], [.nl true 4 none, .nl true 5 none]⟩
  | 45 => some ⟨2, 48, .struct [(0, 1), (1, 1)], [.nl true 4 none, .nl true 5 none]⟩
  | 46 => some ⟨1, 8, .func, [.v .nilFunc]⟩
  | 47 => some ⟨1, 8, .func, [.v .nilFunc]⟩
  | 48 => some ⟨1, 24, .slice 82, [.nl true 4 none]⟩
  | 49 => some ⟨1, 24, .slice 97, [.nl true 5 none]⟩
  | 50 => some ⟨2, 48, .struct [(0, 1), (1, 1)], [.nl true 4 none, .nl true 5 none]⟩
  | 51 => some ⟨2, 48, .struct [(0, 1), (1, 1)], [.nl true 4 none, .nl true 5 none]⟩
  | 52 => some ⟨1, 8, .func, [.v .nilFunc]⟩
  | 53 => some ⟨1, 8, .func, [.v .nilFunc]⟩
  | 54 => some ⟨1, 8, .func, [.v .nilFunc]⟩
  | 55 => some ⟨1, 8, .func, [.v .nilFunc]⟩
  | 56 => some ⟨3, 40, .struct [(0, 1), (1, 1), (2, 1)], [.v (.int .i64 0), .v (.int .i64 0), .nl true 1 none]⟩
  | 57 => some ⟨3, 40, .struct [(0, 1), (1, 1), (2, 1)], [.v (.int .i64 0), .v (.int .i64 0), .nl true 1 none]⟩
  | 58 => some ⟨3, 40, .struct [(0, 1), (1, 1), (2, 1)], [.v (.int .i64 0), .v (.int .i64 0), .nl true 1 none]⟩
  | 59 => some ⟨1, 8, .func, [.v .nilFunc]⟩
  | 60 => some ⟨1, 8, .func, [.v .nilFunc]⟩
  | 61 => some ⟨1, 8, .func, [.v .nilFunc]⟩
  | 63 => some ⟨1, 8, .func, [.v .nilFunc]⟩
  | 64 => some ⟨1, 8, .func, [.v .nilFunc]⟩
  | 65 => some ⟨1, 8, .func, [.v .nilFunc]⟩
  | 66 => some ⟨1, 8, .func, [.v .nilFunc]⟩
  | 67 => some ⟨1, 8, .func, [.v .nilFunc]⟩
  | 68 => some ⟨1, 8, .func, [.v .nilFunc]⟩
  | 70 => some ⟨1, 8, .func, [.v .nilFunc]⟩
  | 72 => some ⟨1, 8, .func, [.v .nilFunc]⟩
  | 73 => some ⟨1, 8, .ptr, [.v (.pointer none)]⟩
  | 74 => some ⟨3, 32, .struct [(0, 1), (1, 1), (2, 1)], [.v (.string .empty), .v (.int .i64 0), .v (.bool false)]⟩
  | 75 => some ⟨3, 32, .struct [(0, 1), (1, 1), (2, 1)], [.v (.string .empty), .v (.int .i64 0), .v (.bool false)]⟩
  | 76 => some ⟨1, 8, .func, [.v .nilFunc]⟩
  | 77 => some ⟨1, 8, .func, [.v .nilFunc]⟩
  | 78 => some ⟨1, 8, .func, [.v .nilFunc]⟩
  | 79 => some ⟨1, 8, .func, [.v .nilFunc]⟩
  | 80 => some ⟨1, 8, .func, [.v .nilFunc]⟩
  | 81 => some ⟨4, 56, .struct [(0, 1), (1, 1), (2, 1), (3, 1)], [.v (.int .i64 0), .v (.int .i64 0), .v (.string .empty), .nl true 1 none]⟩
  | 82 => some ⟨4, 56, .struct [(0, 1), (1, 1), (2, 1), (3, 1)], [.v (.int .i64 0), .v (.int .i64 0), .v (.string .empty), .nl true 1 none]⟩
  | 83 => some ⟨1, 8, .func, [.v .nilFunc]⟩
  | 84 => some ⟨1, 8, .func, [.v .nilFunc]⟩
  | 85 => some ⟨1, 8, .func, [.v .nilFunc]⟩
  | 86 => some ⟨1, 8, .func, [.v .nilFunc]⟩
  | 87 => some ⟨1, 24, .slice 5, [.nl true 1 none]⟩
  | 88 => some ⟨1, 8, .func, [.v .nilFunc]⟩
  | 89 => some ⟨4, 56, .struct [(0, 1), (1, 1), (2, 1), (3, 1)], [.v (.int .i64 0), .v (.int .i64 0), .v (.string .empty), .nl true 1 none]⟩
  | 90 => some ⟨1, 8, .func, [.v .nilFunc]⟩
  | 91 => some ⟨1, 24, .slice 106, [.nl true 2 none]⟩
  | 92 => some ⟨5, 64, .struct [(0, 1), (1, 1), (2, 1), (3, 1), (4, 1)], [.v (.string .empty), .nl true 2 none, .v (.int .i64 0), .v (.int .i64 0), .v (.int .i64 0)]⟩
  | 93 => some ⟨5, 64, .struct [(0, 1), (1, 1), (2, 1), (3, 1), (4, 1)], [.v (.string .empty), .nl true 2 none, .v (.int .i64 0), .v (.int .i64 0), .v (.int .i64 0)]⟩
  | 94 => some ⟨1, 8, .func, [.v .nilFunc]⟩
  | 95 => some ⟨1, 24, .slice 107, [.nl true 2 none]⟩
  | 96 => some ⟨5, 64, .struct [(0, 1), (1, 1), (2, 1), (3, 1), (4, 1)], [.v (.string .empty), .nl true 2 none, .v (.int .i64 0), .v (.int .i64 0), .v (.int .i64 0)]⟩
  | 97 => some ⟨5, 64, .struct [(0, 1), (1, 1), (2, 1), (3, 1), (4, 1)], [.v (.string .empty), .nl true 2 none, .v (.int .i64 0), .v (.int .i64 0), .v (.int .i64 0)]⟩
  | 98 => some ⟨1, 8, .func, [.v .nilFunc]⟩
  | 99 => some ⟨1, 8, .func, [.v .nilFunc]⟩
  | 100 => some ⟨1, 8, .func, [.v .nilFunc]⟩
  | 101 => some ⟨1, 8, .func, [.v .nilFunc]⟩
  | 102 => some ⟨1, 8, .func, [.v .nilFunc]⟩
  | 103 => some ⟨1, 8, .func, [.v .nilFunc]⟩
  | 104 => some ⟨1, 8, .func, [.v .nilFunc]⟩
  | 105 => some ⟨2, 24, .struct [(0, 1), (1, 1)], [.v (.string .empty), .v (.int .i64 0)]⟩
  | 106 => some ⟨2, 24, .struct [(0, 1), (1, 1)], [.v (.string .empty), .v (.int .i64 0)]⟩
  | 107 => some ⟨2, 24, .struct [(0, 1), (1, 1)], [.v (.string .empty), .v (.int .i64 0)]⟩
  | 108 => some ⟨1, 8, .func, [.v .nilFunc]⟩
  | 109 => some ⟨1, 8, .func, [.v .nilFunc]⟩
  | 110 => some ⟨1, 8, .func, [.v .nilFunc]⟩
  | 111 => some ⟨4, 40, .struct [(0, 1), (1, 1), (2, 1), (3, 1)], [.v (.pointer none), .v (.pointer none), .v (.pointer none), .v (.string .empty)]⟩
  | 116 => some ⟨1, 4, .int .u32, [.v (.int .u32 0)]⟩
  | 119 => some ⟨1, 8, .func, [.v .nilFunc]⟩
  | 120 => some ⟨1, 8, .ptr, [.v (.pointer none)]⟩
  | 123 => some ⟨11, 48, .struct [(0, 1), (1, 1), (2, 1), (3, 1), (4, 1), (5, 1), (6, 1), (7, 1), (8, 1), (9, 1), (10, 1)], [.v (.int .u64 0), .v (.int .u64 0), .v (.int .u32 0), .v (.int .u8 0), .v (.int .u8 0), .v (.int .u8 0), .v (.int .u8 0), .v .nilFunc, .v (.pointer none), .v (.int .i32 0), .v (.int .i32 0)]⟩
  | _ => none
theorem ty_ok (t : TypeId) (ti : TI) (h : ty t = some ti) : TIok Try.prog t ti := by
  unfold ty at h
  split at h
  · cases h; exact ⟨by kernel_rfl, Try.underlying2, rfl⟩
  · cases h; exact ⟨by kernel_rfl, Try.underlying3, rfl⟩
  · cases h; exact ⟨by kernel_rfl, Try.underlying4, rfl⟩
  · cases h; exact ⟨by kernel_rfl, Try.underlying5, rfl⟩
  · cases h; exact ⟨by kernel_rfl, (show structOffs Try.prog 7 = some [(0, 1), (1, 1), (2, 1), (3, 1)] by kernel_rfl), rfl⟩
  · cases h; exact ⟨by kernel_rfl, Try.underlying9, rfl⟩
  · cases h; exact ⟨by kernel_rfl, Try.underlying12, rfl⟩
  · cases h; exact ⟨by kernel_rfl, (show structOffs Try.prog 13 = some [(0, 1), (1, 1)] by kernel_rfl), rfl⟩
  · cases h; exact ⟨by kernel_rfl, ⟨_, Try.underlying15⟩, rfl⟩
  · cases h; exact ⟨by kernel_rfl, ⟨_, Try.underlying16⟩, rfl⟩
  · cases h; exact ⟨by kernel_rfl, ⟨_, Try.underlying17⟩, rfl⟩
  · cases h; exact ⟨by kernel_rfl, (show structOffs Try.prog 18 = some [(0, 1)] by kernel_rfl), rfl⟩
  · cases h; exact ⟨by kernel_rfl, ⟨_, Try.underlying20⟩, rfl⟩
  · cases h; exact ⟨by kernel_rfl, Try.underlying21, rfl⟩
  · cases h; exact ⟨by kernel_rfl, Try.underlying22, rfl⟩
  · cases h; exact ⟨by kernel_rfl, ⟨_, _, _, Try.underlying23⟩, rfl⟩
  · cases h; exact ⟨by kernel_rfl, ⟨_, _, _, Try.underlying24⟩, rfl⟩
  · cases h; exact ⟨by kernel_rfl, Try.underlying25, rfl⟩
  · cases h; exact ⟨by kernel_rfl, ⟨_, _, _, Try.underlying26⟩, rfl⟩
  · cases h; exact ⟨by kernel_rfl, ⟨_, _, _, Try.underlying27⟩, rfl⟩
  · cases h; exact ⟨by kernel_rfl, ⟨_, _, _, Try.underlying28⟩, rfl⟩
  · cases h; exact ⟨by kernel_rfl, Try.underlying29, rfl⟩
  · cases h; exact ⟨by kernel_rfl, (show structOffs Try.prog 30 = some [(0, 1), (1, 1), (2, 1)] by kernel_rfl), rfl⟩
  · cases h; exact ⟨by kernel_rfl, (show structOffs Try.prog 31 = some [(0, 1), (1, 1), (2, 1)] by kernel_rfl), rfl⟩
  · cases h; exact ⟨by kernel_rfl, ⟨_, _, _, Try.underlying32⟩, rfl⟩
  · cases h; exact ⟨by kernel_rfl, ⟨_, _, _, Try.underlying33⟩, rfl⟩
  · cases h; exact ⟨by kernel_rfl, (show structOffs Try.prog 34 = some [(0, 1), (1, 1), (2, 1)] by kernel_rfl), rfl⟩
  · cases h; exact ⟨by kernel_rfl, ⟨_, _, _, Try.underlying35⟩, rfl⟩
  · cases h; exact ⟨by kernel_rfl, ⟨_, _, _, Try.underlying36⟩, rfl⟩
  · cases h; exact ⟨by kernel_rfl, ⟨_, _, _, Try.underlying37⟩, rfl⟩
  · cases h; exact ⟨by kernel_rfl, ⟨_, _, _, Try.underlying39⟩, rfl⟩
  · cases h; exact ⟨by kernel_rfl, ⟨_, _, _, Try.underlying40⟩, rfl⟩
  · cases h; exact ⟨by kernel_rfl, ⟨_, _, _, Try.underlying41⟩, rfl⟩
  · cases h; exact ⟨by kernel_rfl, Try.underlying42, rfl⟩
  · cases h; exact ⟨by kernel_rfl, Try.underlying43, rfl⟩
  · cases h; exact ⟨by kernel_rfl, (show structOffs Try.prog 44 = some [(0, 1), (1, 1)] by kernel_rfl), rfl⟩
  · cases h; exact ⟨by kernel_rfl, (show structOffs Try.prog 45 = some [(0, 1), (1, 1)] by kernel_rfl), rfl⟩
  · cases h; exact ⟨by kernel_rfl, ⟨_, _, _, Try.underlying46⟩, rfl⟩
  · cases h; exact ⟨by kernel_rfl, ⟨_, _, _, Try.underlying47⟩, rfl⟩
  · cases h; exact ⟨by kernel_rfl, Try.underlying48, rfl⟩
  · cases h; exact ⟨by kernel_rfl, Try.underlying49, rfl⟩
  · cases h; exact ⟨by kernel_rfl, (show structOffs Try.prog 50 = some [(0, 1), (1, 1)] by kernel_rfl), rfl⟩
  · cases h; exact ⟨by kernel_rfl, (show structOffs Try.prog 51 = some [(0, 1), (1, 1)] by kernel_rfl), rfl⟩
  · cases h; exact ⟨by kernel_rfl, ⟨_, _, _, Try.underlying52⟩, rfl⟩
  · cases h; exact ⟨by kernel_rfl, ⟨_, _, _, Try.underlying53⟩, rfl⟩
  · cases h; exact ⟨by kernel_rfl, ⟨_, _, _, Try.underlying54⟩, rfl⟩
  · cases h; exact ⟨by kernel_rfl, ⟨_, _, _, Try.underlying55⟩, rfl⟩
  · cases h; exact ⟨by kernel_rfl, (show structOffs Try.prog 56 = some [(0, 1), (1, 1), (2, 1)] by kernel_rfl), rfl⟩
  · cases h; exact ⟨by kernel_rfl, (show structOffs Try.prog 57 = some [(0, 1), (1, 1), (2, 1)] by kernel_rfl), rfl⟩
  · cases h; exact ⟨by kernel_rfl, (show structOffs Try.prog 58 = some [(0, 1), (1, 1), (2, 1)] by kernel_rfl), rfl⟩
  · cases h; exact ⟨by kernel_rfl, ⟨_, _, _, Try.underlying59⟩, rfl⟩
  · cases h; exact ⟨by kernel_rfl, ⟨_, _, _, Try.underlying60⟩, rfl⟩
  · cases h; exact ⟨by kernel_rfl, ⟨_, _, _, Try.underlying61⟩, rfl⟩
  · cases h; exact ⟨by kernel_rfl, ⟨_, _, _, Try.underlying63⟩, rfl⟩
  · cases h; exact ⟨by kernel_rfl, ⟨_, _, _, Try.underlying64⟩, rfl⟩
  · cases h; exact ⟨by kernel_rfl, ⟨_, _, _, Try.underlying65⟩, rfl⟩
  · cases h; exact ⟨by kernel_rfl, ⟨_, _, _, Try.underlying66⟩, rfl⟩
  · cases h; exact ⟨by kernel_rfl, ⟨_, _, _, Try.underlying67⟩, rfl⟩
  · cases h; exact ⟨by kernel_rfl, ⟨_, _, _, Try.underlying68⟩, rfl⟩
  · cases h; exact ⟨by kernel_rfl, ⟨_, _, _, Try.underlying70⟩, rfl⟩
  · cases h; exact ⟨by kernel_rfl, ⟨_, _, _, Try.underlying72⟩, rfl⟩
  · cases h; exact ⟨by kernel_rfl, ⟨_, Try.underlying73⟩, rfl⟩
  · cases h; exact ⟨by kernel_rfl, (show structOffs Try.prog 74 = some [(0, 1), (1, 1), (2, 1)] by kernel_rfl), rfl⟩
  · cases h; exact ⟨by kernel_rfl, (show structOffs Try.prog 75 = some [(0, 1), (1, 1), (2, 1)] by kernel_rfl), rfl⟩
  · cases h; exact ⟨by kernel_rfl, ⟨_, _, _, Try.underlying76⟩, rfl⟩
  · cases h; exact ⟨by kernel_rfl, ⟨_, _, _, Try.underlying77⟩, rfl⟩
  · cases h; exact ⟨by kernel_rfl, ⟨_, _, _, Try.underlying78⟩, rfl⟩
  · cases h; exact ⟨by kernel_rfl, ⟨_, _, _, Try.underlying79⟩, rfl⟩
  · cases h; exact ⟨by kernel_rfl, ⟨_, _, _, Try.underlying80⟩, rfl⟩
  · cases h; exact ⟨by kernel_rfl, (show structOffs Try.prog 81 = some [(0, 1), (1, 1), (2, 1), (3, 1)] by kernel_rfl), rfl⟩
  · cases h; exact ⟨by kernel_rfl, (show structOffs Try.prog 82 = some [(0, 1), (1, 1), (2, 1), (3, 1)] by kernel_rfl), rfl⟩
  · cases h; exact ⟨by kernel_rfl, ⟨_, _, _, Try.underlying83⟩, rfl⟩
  · cases h; exact ⟨by kernel_rfl, ⟨_, _, _, Try.underlying84⟩, rfl⟩
  · cases h; exact ⟨by kernel_rfl, ⟨_, _, _, Try.underlying85⟩, rfl⟩
  · cases h; exact ⟨by kernel_rfl, ⟨_, _, _, Try.underlying86⟩, rfl⟩
  · cases h; exact ⟨by kernel_rfl, Try.underlying87, rfl⟩
  · cases h; exact ⟨by kernel_rfl, ⟨_, _, _, Try.underlying88⟩, rfl⟩
  · cases h; exact ⟨by kernel_rfl, (show structOffs Try.prog 89 = some [(0, 1), (1, 1), (2, 1), (3, 1)] by kernel_rfl), rfl⟩
  · cases h; exact ⟨by kernel_rfl, ⟨_, _, _, Try.underlying90⟩, rfl⟩
  · cases h; exact ⟨by kernel_rfl, Try.underlying91, rfl⟩
  · cases h; exact ⟨by kernel_rfl, (show structOffs Try.prog 92 = some [(0, 1), (1, 1), (2, 1), (3, 1), (4, 1)] by kernel_rfl), rfl⟩
  · cases h; exact ⟨by kernel_rfl, (show structOffs Try.prog 93 = some [(0, 1), (1, 1), (2, 1), (3, 1), (4, 1)] by kernel_rfl), rfl⟩
  · cases h; exact ⟨by kernel_rfl, ⟨_, _, _, Try.underlying94⟩, rfl⟩
  · cases h; exact ⟨by kernel_rfl, Try.underlying95, rfl⟩
  · cases h; exact ⟨by kernel_rfl, (show structOffs Try.prog 96 = some [(0, 1), (1, 1), (2, 1), (3, 1), (4, 1)] by kernel_rfl), rfl⟩
  · cases h; exact ⟨by kernel_rfl, (show structOffs Try.prog 97 = some [(0, 1), (1, 1), (2, 1), (3, 1), (4, 1)] by kernel_rfl), rfl⟩
  · cases h; exact ⟨by kernel_rfl, ⟨_, _, _, Try.underlying98⟩, rfl⟩
  · cases h; exact ⟨by kernel_rfl, ⟨_, _, _, Try.underlying99⟩, rfl⟩
  · cases h; exact ⟨by kernel_rfl, ⟨_, _, _, Try.underlying100⟩, rfl⟩
  · cases h; exact ⟨by kernel_rfl, ⟨_, _, _, Try.underlying101⟩, rfl⟩
  · cases h; exact ⟨by kernel_rfl, ⟨_, _, _, Try.underlying102⟩, rfl⟩
  · cases h; exact ⟨by kernel_rfl, ⟨_, _, _, Try.underlying103⟩, rfl⟩
  · cases h; exact ⟨by kernel_rfl, ⟨_, _, _, Try.underlying104⟩, rfl⟩
  · cases h; exact ⟨by kernel_rfl, (show structOffs Try.prog 105 = some [(0, 1), (1, 1)] by kernel_rfl), rfl⟩
  · cases h; exact ⟨by kernel_rfl, (show structOffs Try.prog 106 = some [(0, 1), (1, 1)] by kernel_rfl), rfl⟩
  · cases h; exact ⟨by kernel_rfl, (show structOffs Try.prog 107 = some [(0, 1), (1, 1)] by kernel_rfl), rfl⟩
  · cases h; exact ⟨by kernel_rfl, ⟨_, _, _, Try.underlying108⟩, rfl⟩
  · cases h; exact ⟨by kernel_rfl, ⟨_, _, _, Try.underlying109⟩, rfl⟩
  · cases h; exact ⟨by kernel_rfl, ⟨_, _, _, Try.underlying110⟩, rfl⟩
  · cases h; exact ⟨by kernel_rfl, (show structOffs Try.prog 111 = some [(0, 1), (1, 1), (2, 1), (3, 1)] by kernel_rfl), rfl⟩
  · cases h; exact ⟨by kernel_rfl, Try.underlying116, rfl⟩
  · cases h; exact ⟨by kernel_rfl, ⟨_, _, _, Try.underlying119⟩, rfl⟩
  · cases h; exact ⟨by kernel_rfl, ⟨_, Try.underlying120⟩, rfl⟩
  · cases h; exact ⟨by kernel_rfl, (show structOffs Try.prog 123 = some [(0, 1), (1, 1), (2, 1), (3, 1), (4, 1), (5, 1), (6, 1), (7, 1), (8, 1), (9, 1), (10, 1)] by kernel_rfl), rfl⟩
  · cases h
noncomputable def E : Env := ⟨Try.prog, ty, ty_ok, by kernel_rfl, []⟩
theorem E_P : E.P = Try.prog := rfl
@[simp] theorem E_ty2 : E.ty 2 = some ⟨1, 8, .int .i64, [.v (.int .i64 0)]⟩ := rfl
@[simp] theorem E_ty3 : E.ty 3 = some ⟨1, 8, .int .i64, [.v (.int .i64 0)]⟩ := rfl
@[simp] theorem E_ty4 : E.ty 4 = some ⟨1, 1, .bool, [.v (.bool false)]⟩ := rfl
@[simp] theorem E_ty5 : E.ty 5 = some ⟨1, 1, .int .u8, [.v (.int .u8 0)]⟩ := rfl
@[simp] theorem E_ty7 : E.ty 7 = some ⟨4, 24, .struct [(0, 1), (1, 1), (2, 1), (3, 1)], [.v (.int .i64 0), .v (.int .i64 0), .v (.bool false), .v (.int .u8 0)]⟩ := rfl
@[simp] theorem E_ty9 : E.ty 9 = some ⟨1, 16, .str, [.v (.string .empty)]⟩ := rfl
@[simp] theorem E_ty12 : E.ty 12 = some ⟨1, 8, .int .u64, [.v (.int .u64 0)]⟩ := rfl
@[simp] theorem E_ty13 : E.ty 13 = some ⟨2, 24, .struct [(0, 1), (1, 1)], [.v (.string .empty), .v (.int .u64 0)]⟩ := rfl
@[simp] theorem E_ty15 : E.ty 15 = some ⟨1, 8, .ptr, [.v (.pointer none)]⟩ := rfl
@[simp] theorem E_ty16 : E.ty 16 = some ⟨1, 8, .ptr, [.v (.pointer none)]⟩ := rfl
@[simp] theorem E_ty17 : E.ty 17 = some ⟨1, 8, .ptr, [.v (.pointer none)]⟩ := rfl
@[simp] theorem E_ty18 : E.ty 18 = some ⟨1, 8, .struct [(0, 1)], [.v (.pointer none)]⟩ := rfl
@[simp] theorem E_ty20 : E.ty 20 = some ⟨1, 16, .iface, [.v .nilIface]⟩ := rfl
@[simp] theorem E_ty21 : E.ty 21 = some ⟨1, 4, .int .i32, [.v (.int .i32 0)]⟩ := rfl
@[simp] theorem E_ty22 : E.ty 22 = some ⟨1, 24, .slice 57, [.nl true 3 none]⟩ := rfl
@[simp] theorem E_ty23 : E.ty 23 = some ⟨1, 8, .func, [.v .nilFunc]⟩ := rfl
@[simp] theorem E_ty24 : E.ty 24 = some ⟨1, 8, .func, [.v .nilFunc]⟩ := rfl
@[simp] theorem E_ty25 : E.ty 25 = some ⟨1, 24, .slice 58, [.nl true 3 none]⟩ := rfl
@[simp] theorem E_ty26 : E.ty 26 = some ⟨1, 8, .func, [.v .nilFunc]⟩ := rfl
@[simp] theorem E_ty27 : E.ty 27 = some ⟨1, 8, .func, [.v .nilFunc]⟩ := rfl
@[simp] theorem E_ty28 : E.ty 28 = some ⟨1, 8, .func, [.v .nilFunc]⟩ := rfl
@[simp] theorem E_ty29 : E.ty 29 = some ⟨1, 24, .slice 3, [.nl true 1 none]⟩ := rfl
@[simp] theorem E_ty30 : E.ty 30 = some ⟨3, 56, .struct [(0, 1), (1, 1), (2, 1)], [.nl true 1 none, .nl true 1 none, .v (.int .i64 0)]⟩ := rfl
@[simp] theorem E_ty31 : E.ty 31 = some ⟨3, 56, .struct [(0, 1), (1, 1), (2, 1)], [.nl true 1 none, .nl true 1 none, .v (.int .i64 0)]⟩ := rfl
@[simp] theorem E_ty32 : E.ty 32 = some ⟨1, 8, .func, [.v .nilFunc]⟩ := rfl
@[simp] theorem E_ty33 : E.ty 33 = some ⟨1, 8, .func, [.v .nilFunc]⟩ := rfl
@[simp] theorem E_ty34 : E.ty 34 = some ⟨3, 56, .struct [(0, 1), (1, 1), (2, 1)], [.nl true 1 none, .nl true 1 none, .v (.int .i64 0)]⟩ := rfl
@[simp] theorem E_ty35 : E.ty 35 = some ⟨1, 8, .func, [.v .nilFunc]⟩ := rfl
@[simp] theorem E_ty36 : E.ty 36 = some ⟨1, 8, .func, [.v .nilFunc]⟩ := rfl
@[simp] theorem E_ty37 : E.ty 37 = some ⟨1, 8, .func, [.v .nilFunc]⟩ := rfl
@[simp] theorem E_ty39 : E.ty 39 = some ⟨1, 8, .func, [.v .nilFunc]⟩ := rfl
@[simp] theorem E_ty40 : E.ty 40 = some ⟨1, 8, .func, [.v .nilFunc]⟩ := rfl
@[simp] theorem E_ty41 : E.ty 41 = some ⟨1, 8, .func, [.v .nilFunc]⟩ := rfl
@[simp] theorem E_ty42 : E.ty 42 = some ⟨1, 24, .slice 89, [.nl true 4 none]⟩ := rfl
@[simp] theorem E_ty43 : E.ty 43 = some ⟨1, 24, .slice 93, [.nl true 5 none]⟩ := rfl
@[simp] theorem E_ty44 : E.ty 44 = some ⟨2, 48, .struct [(0, 1), (1, 1)], [.nl true 4 none, .nl true 5 none]⟩ := rfl
@[simp] theorem E_ty45 : E.ty 45 = some ⟨2, 48, .struct [(0, 1), (1, 1)], [.nl true 4 none, .nl true 5 none]⟩ := rfl
@[simp] theorem E_ty46 : E.ty 46 = some ⟨1, 8, .func, [.v .nilFunc]⟩ := rfl
@[simp] theorem E_ty47 : E.ty 47 = some ⟨1, 8, .func, [.v .nilFunc]⟩ := rfl
@[simp] theorem E_ty48 : E.ty 48 = some ⟨1, 24, .slice 82, [.nl true 4 none]⟩ := rfl
@[simp] theorem E_ty49 : E.ty 49 = some ⟨1, 24, .slice 97, [.nl true 5 none]⟩ := rfl
@[simp] theorem E_ty50 : E.ty 50 = some ⟨2, 48, .struct [(0, 1), (1, 1)], [.nl true 4 none, .nl true 5 none]⟩ := rfl
@[simp] theorem E_ty51 : E.ty 51 = some ⟨2, 48, .struct [(0, 1), (1, 1)], [.nl true 4 none, .nl true 5 none]⟩ := rfl
@[simp] theorem E_ty52 : E.ty 52 = some ⟨1, 8, .func, [.v .nilFunc]⟩ := rfl
@[simp] theorem E_ty53 : E.ty 53 = some ⟨1, 8, .func, [.v .nilFunc]⟩ := rfl
@[simp] theorem E_ty54 : E.ty 54 = some ⟨1, 8, .func, [.v .nilFunc]⟩ := rfl
@[simp] theorem E_ty55 : E.ty 55 = some ⟨1, 8, .func, [.v .nilFunc]⟩ := rfl
@[simp] theorem E_ty56 : E.ty 56 = some ⟨3, 40, .struct [(0, 1), (1, 1), (2, 1)], [.v (.int .i64 0), .v (.int .i64 0), .nl true 1 none]⟩ := rfl
@[simp] theorem E_ty57 : E.ty 57 = some ⟨3, 40, .struct [(0, 1), (1, 1), (2, 1)], [.v (.int .i64 0), .v (.int .i64 0), .nl true 1 none]⟩ := rfl
@[simp] theorem E_ty58 : E.ty 58 = some ⟨3, 40, .struct [(0, 1), (1, 1), (2, 1)], [.v (.int .i64 0), .v (.int .i64 0), .nl true 1 none]⟩ := rfl
@[simp] theorem E_ty59 : E.ty 59 = some ⟨1, 8, .func, [.v .nilFunc]⟩ := rfl
@[simp] theorem E_ty60 : E.ty 60 = some ⟨1, 8, .func, [.v .nilFunc]⟩ := rfl
@[simp] theorem E_ty61 : E.ty 61 = some ⟨1, 8, .func, [.v .nilFunc]⟩ := rfl
@[simp] theorem E_ty63 : E.ty 63 = some ⟨1, 8, .func, [.v .nilFunc]⟩ := rfl
@[simp] theorem E_ty64 : E.ty 64 = some ⟨1, 8, .func, [.v .nilFunc]⟩ := rfl
@[simp] theorem E_ty65 : E.ty 65 = some ⟨1, 8, .func, [.v .nilFunc]⟩ := rfl
@[simp] theorem E_ty66 : E.ty 66 = some ⟨1, 8, .func, [.v .nilFunc]⟩ := rfl
@[simp] theorem E_ty67 : E.ty 67 = some ⟨1, 8, .func, [.v .nilFunc]⟩ := rfl
@[simp] theorem E_ty68 : E.ty 68 = some ⟨1, 8, .func, [.v .nilFunc]⟩ := rfl
@[simp] theorem E_ty70 : E.ty 70 = some ⟨1, 8, .func, [.v .nilFunc]⟩ := rfl
@[simp] theorem E_ty72 : E.ty 72 = some ⟨1, 8, .func, [.v .nilFunc]⟩ := rfl
@[simp] theorem E_ty73 : E.ty 73 = some ⟨1, 8, .ptr, [.v (.pointer none)]⟩ := rfl
@[simp] theorem E_ty74 : E.ty 74 = some ⟨3, 32, .struct [(0, 1), (1, 1), (2, 1)], [.v (.string .empty), .v (.int .i64 0), .v (.bool false)]⟩ := rfl
@[simp] theorem E_ty75 : E.ty 75 = some ⟨3, 32, .struct [(0, 1), (1, 1), (2, 1)], [.v (.string .empty), .v (.int .i64 0), .v (.bool false)]⟩ := rfl
@[simp] theorem E_ty76 : E.ty 76 = some ⟨1, 8, .func, [.v .nilFunc]⟩ := rfl
@[simp] theorem E_ty77 : E.ty 77 = some ⟨1, 8, .func, [.v .nilFunc]⟩ := rfl
@[simp] theorem E_ty78 : E.ty 78 = some ⟨1, 8, .func, [.v .nilFunc]⟩ := rfl
@[simp] theorem E_ty79 : E.ty 79 = some ⟨1, 8, .func, [.v .nilFunc]⟩ := rfl
@[simp] theorem E_ty80 : E.ty 80 = some ⟨1, 8, .func, [.v .nilFunc]⟩ := rfl
@[simp] theorem E_ty81 : E.ty 81 = some ⟨4, 56, .struct [(0, 1), (1, 1), (2, 1), (3, 1)], [.v (.int .i64 0), .v (.int .i64 0), .v (.string .empty), .nl true 1 none]⟩ := rfl
@[simp] theorem E_ty82 : E.ty 82 = some ⟨4, 56, .struct [(0, 1), (1, 1), (2, 1), (3, 1)], [.v (.int .i64 0), .v (.int .i64 0), .v (.string .empty), .nl true 1 none]⟩ := rfl
@[simp] theorem E_ty83 : E.ty 83 = some ⟨1, 8, .func, [.v .nilFunc]⟩ := rfl
@[simp] theorem E_ty84 : E.ty 84 = some ⟨1, 8, .func, [.v .nilFunc]⟩ := rfl
@[simp] theorem E_ty85 : E.ty 85 = some ⟨1, 8, .func, [.v .nilFunc]⟩ := rfl
@[simp] theorem E_ty86 : E.ty 86 = some ⟨1, 8, .func, [.v .nilFunc]⟩ := rfl
@[simp] theorem E_ty87 : E.ty 87 = some ⟨1, 24, .slice 5, [.nl true 1 none]⟩ := rfl
@[simp] theorem E_ty88 : E.ty 88 = some ⟨1, 8, .func, [.v .nilFunc]⟩ := rfl
@[simp] theorem E_ty89 : E.ty 89 = some ⟨4, 56, .struct [(0, 1), (1, 1), (2, 1), (3, 1)], [.v (.int .i64 0), .v (.int .i64 0), .v (.string .empty), .nl true 1 none]⟩ := rfl
@[simp] theorem E_ty90 : E.ty 90 = some ⟨1, 8, .func, [.v .nilFunc]⟩ := rfl
@[simp] theorem E_ty91 : E.ty 91 = some ⟨1, 24, .slice 106, [.nl true 2 none]⟩ := rfl
@[simp] theorem E_ty92 : E.ty 92 = some ⟨5, 64, .struct [(0, 1), (1, 1), (2, 1), (3, 1), (4, 1)], [.v (.string .empty), .nl true 2 none, .v (.int .i64 0), .v (.int .i64 0), .v (.int .i64 0)]⟩ := rfl
@[simp] theorem E_ty93 : E.ty 93 = some ⟨5, 64, .struct [(0, 1), (1, 1), (2, 1), (3, 1), (4, 1)], [.v (.string .empty), .nl true 2 none, .v (.int .i64 0), .v (.int .i64 0), .v (.int .i64 0)]⟩ := rfl
@[simp] theorem E_ty94 : E.ty 94 = some ⟨1, 8, .func, [.v .nilFunc]⟩ := rfl
@[simp] theorem E_ty95 : E.ty 95 = some ⟨1, 24, .slice 107, [.nl true 2 none]⟩ := rfl
@[simp] theorem E_ty96 : E.ty 96 = some ⟨5, 64, .struct [(0, 1), (1, 1), (2, 1), (3, 1), (4, 1)], [.v (.string .empty), .nl true 2 none, .v (.int .i64 0), .v (.int .i64 0), .v (.int .i64 0)]⟩ := rfl
@[simp] theorem E_ty97 : E.ty 97 = some ⟨5, 64, .struct [(0, 1), (1, 1), (2, 1), (3, 1), (4, 1)], [.v (.string .empty), .nl true 2 none, .v (.int .i64 0), .v (.int .i64 0), .v (.int .i64 0)]⟩ := rfl
@[simp] theorem E_ty98 : E.ty 98 = some ⟨1, 8, .func, [.v .nilFunc]⟩ := rfl
@[simp] theorem E_ty99 : E.ty 99 = some ⟨1, 8, .func, [.v .nilFunc]⟩ := rfl
@[simp] theorem E_ty100 : E.ty 100 = some ⟨1, 8, .func, [.v .nilFunc]⟩ := rfl
@[simp] theorem E_ty101 : E.ty 101 = some ⟨1, 8, .func, [.v .nilFunc]⟩ := rfl
@[simp] theorem E_ty102 : E.ty 102 = some ⟨1, 8, .func, [.v .nilFunc]⟩ := rfl
@[simp] theorem E_ty103 : E.ty 103 = some ⟨1, 8, .func, [.v .nilFunc]⟩ := rfl
@[simp] theorem E_ty104 : E.ty 104 = some ⟨1, 8, .func, [.v .nilFunc]⟩ := rfl
@[simp] theorem E_ty105 : E.ty 105 = some ⟨2, 24, .struct [(0, 1), (1, 1)], [.v (.string .empty), .v (.int .i64 0)]⟩ := rfl
@[simp] theorem E_ty106 : E.ty 106 = some ⟨2, 24, .struct [(0, 1), (1, 1)], [.v (.string .empty), .v (.int .i64 0)]⟩ := rfl
@[simp] theorem E_ty107 : E.ty 107 = some ⟨2, 24, .struct [(0, 1), (1, 1)], [.v (.string .empty), .v (.int .i64 0)]⟩ := rfl
@[simp] theorem E_ty108 : E.ty 108 = some ⟨1, 8, .func, [.v .nilFunc]⟩ := rfl
@[simp] theorem E_ty109 : E.ty 109 = some ⟨1, 8, .func, [.v .nilFunc]⟩ := rfl
@[simp] theorem E_ty110 : E.ty 110 = some ⟨1, 8, .func, [.v .nilFunc]⟩ := rfl
@[simp] theorem E_ty111 : E.ty 111 = some ⟨4, 40, .struct [(0, 1), (1, 1), (2, 1), (3, 1)], [.v (.pointer none), .v (.pointer none), .v (.pointer none), .v (.string .empty)]⟩ := rfl
@[simp] theorem E_ty116 : E.ty 116 = some ⟨1, 4, .int .u32, [.v (.int .u32 0)]⟩ := rfl
@[simp] theorem E_ty119 : E.ty 119 = some ⟨1, 8, .func, [.v .nilFunc]⟩ := rfl
@[simp] theorem E_ty120 : E.ty 120 = some ⟨1, 8, .ptr, [.v (.pointer none)]⟩ := rfl
@[simp] theorem E_ty123 : E.ty 123 = some ⟨11, 48, .struct [(0, 1), (1, 1), (2, 1), (3, 1), (4, 1), (5, 1), (6, 1), (7, 1), (8, 1), (9, 1), (10, 1)], [.v (.int .u64 0), .v (.int .u64 0), .v (.int .u32 0), .v (.int .u8 0), .v (.int .u8 0), .v (.int .u8 0), .v (.int .u8 0), .v .nilFunc, .v (.pointer none), .v (.int .i32 0), .v (.int .i32 0)]⟩ := rfl
end Go.Proofs.T
set_option linter.unusedVariables false
set_option linter.unusedSimpArgs false
set_option maxHeartbeats 1000000
namespace Go.Proofs.T
open Go.OM
theorem res36 : Try.f36.results.toList = [.tmp 4] := rfl
theorem ent36 : Enters E.P 36 := enters_of Try.func36 (by simp [Try.f36]) rfl
theorem laws_eqIntS_ok (a1 : List Int) (b2 : List Int) {r0 : Bool} (h : laws_eqIntS a1 b2 = some r0) : Ok E 36 [.val (.sl false 1 (List.map vi a1)), .val (.sl false 1 (List.map vi b2))] [vb r0] [] := by
  refine ok_of_body (fn := Try.f36) Try.func36 rfl (by simp [Try.f36]) fun C hN hP => ?_
  have hPB : ∀ l, pinK [] l = true → pinB C.pin l = true := pinB_of (by rw [hP]; rfl)
  have hN' : C.N = 26 := hN
  clear hN
  unfold laws_eqIntS at h
  refine SWp.seqR rfl (hPB _ rfl) fun K hK => ?_
  refine wps_cons rfl fun K hK => ?_; simp [hN']; refine hK _ ?_; clear hK
  refine wps_nil (hK _ ?_); clear hK
  refine SWp.seq ?_
  refine SWp.seqR rfl (hPB _ rfl) fun K hK => ?_
  refine wps_cons rfl fun K hK => ?_; simp [hN']; refine hK _ ?_; clear hK
  refine wps_cons rfl fun K hK => ?_; simp [hN']; refine hK _ ?_; clear hK
  refine wps_cons rfl fun K hK => ?_; simp [hN']; refine hK _ ?_; clear hK
  refine wps_cons rfl fun K hK => ?_; simp [hN']; refine hK _ ?_; clear hK
  refine wps_cons rfl fun K hK => ?_; simp [hN']; refine hK _ ?_; clear hK
  refine wps_nil (hK _ ?_); clear hK
  rcases ite_or h with ⟨hb3, h⟩ | ⟨hb4, h⟩
  · refine SWp.condT' (b := (a1.length : Int) != (b2.length : Int)) (by simp) hb3 ?_
    refine SWp.seqR rfl (hPB _ rfl) fun K hK => ?_
    refine wps_cons rfl fun K hK => ?_; simp [hN']; refine hK _ ?_; clear hK
    refine wps_nil (hK _ ?_); clear hK
    cases h
    refine SWp.ret ?_
    simp [thenS, inBlockS, res36]
  · refine SWp.condF' (b := (a1.length : Int) != (b2.length : Int)) (by simp) hb4 ?_
    refine SWp.skip ?_
    show SWp E C _ _ _
    obtain ⟨j7, hj5, h⟩ := bind_some h
    refine SWp.seqC [] [] (fun v : Unit => ⟨[], []⟩) (fun v => j7 = Sum.inl v) (fun v hv => ?_) fun K6 hK6 => ?_
    rotate_left
    · refine SWp.seqR rfl (hPB _ rfl) fun K hK => ?_
      refine wps_cons rfl fun K hK => ?_; simp [hN']; refine hK _ ?_; clear hK
      refine wps_nil (hK _ ?_); clear hK
      refine SWp.block ?_
      refine SWp.loopO [] [0, 1, 5] [] (fun v : Int => ⟨[(0, .t (.sl false 1 (List.map vi a1))), (1, .t (.sl false 1 (List.map vi b2))), (5, .t (vi v))], []⟩) (laws_eqIntS_l1 a1 b2) _ 0 hj5 (by simp [hN']) ?_
      intro g s11 h9 ho10
      obtain ⟨i8, hg⟩ : ∃ y, y = g := ⟨_, rfl⟩
      subst hg
      simp only [laws_eqIntS_l1] at h9
      try dsimp only
      refine SWp.seq ?_
      refine SWp.seqR rfl (hPB _ rfl) fun K hK => ?_
      refine wps_cons rfl fun K hK => ?_; simp [hN']; refine hK _ ?_; clear hK
      refine wps_cons rfl fun K hK => ?_; simp [hN']; refine hK _ ?_; clear hK
      refine wps_cons rfl fun K hK => ?_; simp [hN']; refine hK _ ?_; clear hK
      refine wps_cons rfl fun K hK => ?_; simp [hN']; refine hK _ ?_; clear hK
      refine wps_nil (hK _ ?_); clear hK
      rcases ite_or h9 with ⟨hb12, h9⟩ | ⟨hb13, h9⟩
      · refine SWp.condT' (b := decide (i8 < (a1.length : Int))) (by simp) hb12 ?_
        refine SWp.skip ?_
        show SWp E C _ _ _
        refine SWp.seq ?_
        refine SWp.block ?_
        refine SWp.seq ?_
        obtain ⟨e15, he15, h9⟩ := bind_some h9
        obtain ⟨he15a, he15b, he15c, he15d⟩ := getI_some he15
        obtain ⟨e16, he16, h9⟩ := bind_some h9
        obtain ⟨he16a, he16b, he16c, he16d⟩ := getI_some he16
        refine SWp.drawA rfl (hPB _ rfl) [(17, .t (.sl false 1 (List.map vi a1))), (18, .t (vi i8)), (19, .rop [vi e15] 0), (20, .t (vi e15)), (21, .t (.sl false 1 (List.map vi b2))), (22, .t (vi i8)), (23, .rop [vi e16] 0), (24, .t (vi e16)), (25, .t (vb (e15 != e16)))] [[], [], [0, 1], [0, 1, 2], [], [], [4, 5], [4, 5, 6], [0, 1, 2, 3, 4, 5, 6, 7]] (by simp) (by simp) (by simp [look]) rfl rfl rfl ?_ fun K hK => ?_
        · refine ⟨?_, ?_, ?_, ?_, ?_, ?_, ?_, ?_, ?_, trivial⟩
          all_goals (intro τ hbx hb hd hf K hK; try simp [vsAt] at hd; simp [vsAt] at hf; first | (refine wps_cons rfl fun K' hK' => ?_; simp [hN', hbx, hb, hd, hf, he15a, he15b, he15c, he15d, he16a, he16b, he16c, he16d]; exact hK' _ (wps_nil (hK _ (by simp [vsAt, hbx, he15a, he15b, he15c, he15d, he16a, he16b, he16c, he16d])))))
        refine wps_nil (hK _ ?_); clear hK
        show SWp E C _ _ _
        rcases ite_or h9 with ⟨hb17, h9⟩ | ⟨hb18, h9⟩
        · refine SWp.condT' (b := e15 != e16) (by simp) hb17 ?_
          refine SWp.seqR rfl (hPB _ rfl) fun K hK => ?_
          refine wps_cons rfl fun K hK => ?_; simp [hN']; refine hK _ ?_; clear hK
          refine wps_nil (hK _ ?_); clear hK
          have h19 := congrArg some (ho10 _ (Option.some.inj h9).symm)
          cases h19
          try dsimp only at h
          cases h
          refine SWp.ret ?_
          simp [thenS, inBlockS, res36]
        · refine SWp.condF' (b := e15 != e16) (by simp) hb18 ?_
          refine SWp.skip ?_
          show SWp E C _ _ _
          refine SWp.reg rfl (hPB _ rfl) fun K hK => ?_
          refine wps_cons rfl fun K hK => ?_; simp [hN']; refine hK _ ?_; clear hK
          refine wps_cons rfl fun K hK => ?_; simp [hN']; refine hK _ ?_; clear hK
          refine wps_cons rfl fun K hK => ?_; simp [hN']; refine hK _ ?_; clear hK
          refine wps_nil (hK _ ?_); clear hK
          cases h9
          exact ⟨_, [], rfl, by simp [hN']⟩
      · refine SWp.condF' (b := decide (i8 < (a1.length : Int))) (by simp) hb13 ?_
        refine SWp.exit ?_
        have h20 := congrArg some (ho10 _ (Option.some.inj h9).symm)
        cases h20
        exact hK6 _ _ [] rfl (by simp [hN'])
    subst hv
    obtain ⟨⟩ := v
    try dsimp only at h ⊢
    refine SWp.seqR rfl (hPB _ rfl) fun K hK => ?_
    refine wps_cons rfl fun K hK => ?_; simp [hN']; refine hK _ ?_; clear hK
    refine wps_nil (hK _ ?_); clear hK
    cases h
    refine SWp.ret ?_
    simp [thenS, inBlockS, res36]
end Go.Proofs.T
set_option linter.unusedVariables false
set_option linter.unusedSimpArgs false
set_option maxHeartbeats 1000000
namespace Go.Proofs.T
open Go.OM
theorem res16 : Try.f16.results.toList = [.tmp 4] := rfl
theorem ent16 : Enters E.P 16 := enters_of Try.func16 (by simp [Try.f16]) rfl
theorem laws_eqCase_ok (a1 : GCase) (b2 : GCase) {r0 : Bool} (h : laws_eqCase a1 b2 = some r0) : Ok E 16 [.val (GCase.enc false a1), .val (GCase.enc false b2)] [vb r0] [] := by
  refine ok_of_body (fn := Try.f16) Try.func16 rfl (by simp [Try.f16]) fun C hN hP => ?_
  have hPB : ∀ l, pinK [] l = true → pinB C.pin l = true := pinB_of (by rw [hP]; rfl)
  have hN' : C.N = 22 := hN
  clear hN
  unfold laws_eqCase at h
  refine SWp.seqR rfl (hPB _ rfl) fun K hK => ?_
  refine wps_cons rfl fun K hK => ?_; simp [hN']; refine hK _ ?_; clear hK
  refine wps_cons rfl fun K hK => ?_; simp [hN']; refine hK _ ?_; clear hK
  refine wps_cons rfl fun K hK => ?_; simp [hN']; refine hK _ ?_; clear hK
  refine wps_nil (hK _ ?_); clear hK
  refine SWp.seq ?_
  refine SWp.seqR rfl (hPB _ rfl) fun K hK => ?_
  refine wps_cons rfl fun K hK => ?_; simp [hN']; refine hK _ ?_; clear hK
  refine wps_cons rfl fun K hK => ?_; simp [hN']; refine hK _ ?_; clear hK
  refine wps_cons rfl fun K hK => ?_; simp [hN']; refine hK _ ?_; clear hK
  refine wps_cons rfl fun K hK => ?_; simp [hN']; refine hK _ ?_; clear hK
  obtain ⟨r3, hc4, h⟩ := bind_some h
  refine wps_call [(.take, .tmp 6), (.take, .tmp 8)] rfl rfl ent36 (laws_eqIntS_ok _ _ hc4) fun K hK => ?_; simp [hN']; refine hK _ ?_; clear hK
  refine wps_cons rfl fun K hK => ?_; simp [hN']; refine hK _ ?_; clear hK
  refine wps_nil (hK _ ?_); clear hK
  rcases ite_or h with ⟨hb5, h⟩ | ⟨hb6, h⟩
  · refine SWp.condT' (b := !r3) (by simp) hb5 ?_
    refine SWp.seqR rfl (hPB _ rfl) fun K hK => ?_
    refine wps_cons rfl fun K hK => ?_; simp [hN']; refine hK _ ?_; clear hK
    refine wps_nil (hK _ ?_); clear hK
    cases h
    refine SWp.ret ?_
    simp [thenS, inBlockS, res16]
  · refine SWp.condF' (b := !r3) (by simp) hb6 ?_
    refine SWp.skip ?_
    show SWp E C _ _ _
    refine SWp.seq ?_
    refine SWp.seqR rfl (hPB _ rfl) fun K hK => ?_
    refine wps_cons rfl fun K hK => ?_; simp [hN']; refine hK _ ?_; clear hK
    refine wps_cons rfl fun K hK => ?_; simp [hN']; refine hK _ ?_; clear hK
    refine wps_cons rfl fun K hK => ?_; simp [hN']; refine hK _ ?_; clear hK
    refine wps_cons rfl fun K hK => ?_; simp [hN']; refine hK _ ?_; clear hK
    obtain ⟨r7, hc8, h⟩ := bind_some h
    refine wps_call [(.take, .tmp 12), (.take, .tmp 14)] rfl rfl ent36 (laws_eqIntS_ok _ _ hc8) fun K hK => ?_; simp [hN']; refine hK _ ?_; clear hK
    refine wps_cons rfl fun K hK => ?_; simp [hN']; refine hK _ ?_; clear hK
    refine wps_nil (hK _ ?_); clear hK
    rcases ite_or h with ⟨hb9, h⟩ | ⟨hb10, h⟩
    · refine SWp.condT' (b := !r7) (by simp) hb9 ?_
      refine SWp.seqR rfl (hPB _ rfl) fun K hK => ?_
      refine wps_cons rfl fun K hK => ?_; simp [hN']; refine hK _ ?_; clear hK
      refine wps_nil (hK _ ?_); clear hK
      cases h
      refine SWp.ret ?_
      simp [thenS, inBlockS, res16]
    · refine SWp.condF' (b := !r7) (by simp) hb10 ?_
      refine SWp.skip ?_
      show SWp E C _ _ _
      refine SWp.seq ?_
      refine SWp.seqR rfl (hPB _ rfl) fun K hK => ?_
      refine wps_cons rfl fun K hK => ?_; simp [hN']; refine hK _ ?_; clear hK
      refine wps_cons rfl fun K hK => ?_; simp [hN']; refine hK _ ?_; clear hK
      refine wps_cons rfl fun K hK => ?_; simp [hN']; refine hK _ ?_; clear hK
      refine wps_cons rfl fun K hK => ?_; simp [hN']; refine hK _ ?_; clear hK
      refine wps_cons rfl fun K hK => ?_; simp [hN']; refine hK _ ?_; clear hK
      refine wps_nil (hK _ ?_); clear hK
      rcases ite_or h with ⟨hb11, h⟩ | ⟨hb12, h⟩
      · refine SWp.condT' (b := a1.End != b2.End) (by simp) hb11 ?_
        refine SWp.seqR rfl (hPB _ rfl) fun K hK => ?_
        refine wps_cons rfl fun K hK => ?_; simp [hN']; refine hK _ ?_; clear hK
        refine wps_nil (hK _ ?_); clear hK
        cases h
        refine SWp.ret ?_
        simp [thenS, inBlockS, res16]
      · refine SWp.condF' (b := a1.End != b2.End) (by simp) hb12 ?_
        refine SWp.skip ?_
        show SWp E C _ _ _
        refine SWp.seqR rfl (hPB _ rfl) fun K hK => ?_
        refine wps_cons rfl fun K hK => ?_; simp [hN']; refine hK _ ?_; clear hK
        refine wps_nil (hK _ ?_); clear hK
        cases h
        refine SWp.ret ?_
        simp [thenS, inBlockS, res16]
end Go.Proofs.T
set_option linter.unusedVariables false
set_option linter.unusedSimpArgs false
set_option maxHeartbeats 1000000
namespace Go.Proofs.T
open Go.OM
theorem res31 : Try.f31.results.toList = [.tmp 6] := rfl
theorem ent31 : Enters E.P 31 := enters_of Try.func31 (by simp [Try.f31]) rfl
theorem spec_l01In_ok (x1 : Int) (least2 : Int) (most3 : Int) {r0 : Bool} (h : spec_l01In x1 least2 most3 = some r0) : Ok E 31 [.val (vi x1), .val (vi least2), .val (vi most3)] [vb r0] [] := by
  refine ok_of_body (fn := Try.f31) Try.func31 rfl (by simp [Try.f31]) fun C hN hP => ?_
  have hPB : ∀ l, pinK [] l = true → pinB C.pin l = true := pinB_of (by rw [hP]; rfl)
  have hN' : C.N = 15 := hN
  clear hN
  unfold spec_l01In at h
  refine SWp.seqR rfl (hPB _ rfl) fun K hK => ?_
  refine wps_cons rfl fun K hK => ?_; simp [hN']; refine hK _ ?_; clear hK
  refine wps_nil (hK _ ?_); clear hK
  obtain ⟨v8, hj4, h⟩ := bind_some h
  refine SWp.seqRC rfl (hPB _ rfl) [6] [] (fun _ : Unit => ⟨[(6, .t (vb v8))], []⟩) (fun _ => True) (fun _ _ => ?_) fun K5 hK5 => ?_
  rotate_left
  · refine wps_cons rfl fun K hK => ?_; simp [hN']; refine hK _ ?_; clear hK
    refine wps_cons rfl fun K hK => ?_; simp [hN']; refine hK _ ?_; clear hK
    refine wps_cons rfl fun K hK => ?_; simp [hN']; refine hK _ ?_; clear hK
    refine wps_cons rfl fun K hK => ?_; simp [hN']; refine hK _ ?_; clear hK
    rcases ite_or hj4 with ⟨hb6, hj4⟩ | ⟨hb7, hj4⟩
    · have hb6s := hb6
      try simp at hb6s
      refine wps_cons rfl fun K hK => ?_; simp [hN', hb6, hb6s]; refine hK _ ?_; clear hK
      refine wps_cons rfl fun K hK => ?_; simp [hN', hb6, hb6s]; refine hK _ ?_; clear hK
      refine wps_cons rfl fun K hK => ?_; simp [hN', hb6, hb6s]; refine hK _ ?_; clear hK
      refine wps_cons rfl fun K hK => ?_; simp [hN', hb6, hb6s]; refine hK _ ?_; clear hK
      refine wps_cons rfl fun K hK => ?_; simp [hN', hb6, hb6s]; refine hK _ ?_; clear hK
      refine wps_nil ?_
      cases hj4
      exact hK5 _ () [] trivial (by simp [hN', hb6, hb6s])
    · have hb7s := hb7
      try simp at hb7s
      refine wps_off fun K hK => ?_; simp [hN', hb7, hb7s]; refine hK _ ?_; clear hK
      refine wps_off fun K hK => ?_; simp [hN', hb7, hb7s]; refine hK _ ?_; clear hK
      refine wps_off fun K hK => ?_; simp [hN', hb7, hb7s]; refine hK _ ?_; clear hK
      refine wps_cons rfl fun K hK => ?_; simp [hN', hb7, hb7s]; refine hK _ ?_; clear hK
      refine wps_cons rfl fun K hK => ?_; simp [hN', hb7, hb7s]; refine hK _ ?_; clear hK
      refine wps_nil ?_
      cases hj4
      exact hK5 _ () [] trivial (by simp [hN', hb7, hb7s])
  cases h
  refine SWp.ret ?_
  simp [thenS, inBlockS, res31]
end Go.Proofs.T
set_option linter.unusedVariables false
set_option linter.unusedSimpArgs false
set_option maxHeartbeats 1000000
namespace Go.Proofs.T
open Go.OM
theorem res32 : Try.f32.results.toList = [.tmp 2] := rfl
theorem ent32 : Enters E.P 32 := enters_of Try.func32 (by simp [Try.f32]) rfl
theorem spec_l01Var_ok (n1 : Int) {r0 : ByteArray} (h : spec_l01Var n1 = some r0) : Ok E 32 [.val (vi n1)] [vs r0] [] := by
  refine ok_of_body (fn := Try.f32) Try.func32 rfl (by simp [Try.f32]) fun C hN hP => ?_
  have hPB : ∀ l, pinK [] l = true → pinB C.pin l = true := pinB_of (by rw [hP]; rfl)
  have hN' : C.N = 22 := hN
  clear hN
  unfold spec_l01Var at h
  refine SWp.seqR rfl (hPB _ rfl) fun K hK => ?_
  refine wps_cons rfl fun K hK => ?_; simp [hN']; refine hK _ ?_; clear hK
  refine wps_nil (hK _ ?_); clear hK
  refine SWp.seqR rfl (hPB _ rfl) fun K hK => ?_
  refine wps_cons rfl fun K hK => ?_; simp [hN']; refine hK _ ?_; clear hK
  refine wps_cons rfl fun K hK => ?_; simp [hN']; refine hK _ ?_; clear hK
  refine wps_nil (hK _ ?_); clear hK
  obtain ⟨⟨n14, out15⟩, hj2, h⟩ := bind_some h
  try dsimp only at h
  refine SWp.seqC [0, 3] [] (fun _ : Unit => ⟨[(0, .t (vi n14)), (3, .t (.sl true 1 (List.map (vk .u8) out15)))], []⟩) (fun _ => True) (fun _ _ => ?_) fun K3 hK3 => ?_
  rotate_left
  · refine SWp.block ?_
    refine SWp.loopO [] [0, 3] [] (fun v : Int × (List Int) => ⟨[(0, .t (vi v.1)), (3, .t (.sl true 1 (List.map (vk .u8) v.2)))], []⟩) (spec_l01Var_l1) _ (n1, []) hj2 (by simp [hN']) ?_
    intro g s9 h7 ho8
    obtain ⟨n5, out6⟩ := g
    simp only [spec_l01Var_l1] at h7
    try dsimp only
    refine SWp.seq ?_
    refine SWp.seqR rfl (hPB _ rfl) fun K hK => ?_
    refine wps_cons rfl fun K hK => ?_; simp [hN']; refine hK _ ?_; clear hK
    refine wps_cons rfl fun K hK => ?_; simp [hN']; refine hK _ ?_; clear hK
    refine wps_nil (hK _ ?_); clear hK
    rcases ite_or h7 with ⟨hb10, h7⟩ | ⟨hb11, h7⟩
    · refine SWp.condT' (b := decide (n5 > 127)) (by simp) hb10 ?_
      refine SWp.skip ?_
      show SWp E C _ _ _
      refine SWp.block ?_
      refine SWp.seqR rfl (hPB _ rfl) fun K hK => ?_
      refine wps_cons rfl fun K hK => ?_; simp [hN']; refine hK _ ?_; clear hK
      refine wps_cons rfl fun K hK => ?_; simp [hN']; refine hK _ ?_; clear hK
      refine wps_cons rfl fun K hK => ?_; simp [hN']; refine hK _ ?_; clear hK
      refine wps_cons rfl fun K hK => ?_; simp [hN']; refine hK _ ?_; clear hK
      refine wps_cons rfl fun K hK => ?_; simp [hN']; refine hK _ ?_; clear hK
      refine wps_cons rfl fun K hK => ?_; simp [hN']; refine hK _ ?_; clear hK
      obtain ⟨l12, hl12, h7⟩ := bind_some h7
      obtain ⟨hl12a, hl12b, hl12d⟩ := appI_some hl12
      have hl12f : List.map (vk .u8) out6 ++ List.map (vk .u8) [IntKind.wrap .u8 (IntKind.wrap .i64 ((Int.tmod n5 128) + 128))] = List.map (vk .u8) l12 := app_map (f := (vk .u8)) hl12d
      simp [eSl] at hl12a hl12b hl12f
      refine wps_cons rfl fun K hK => ?_; simp [hN', hl12a, hl12b, hl12f]; refine hK _ ?_; clear hK
      refine wps_cons rfl fun K hK => ?_; simp [hN', hl12a, hl12b, hl12f]; refine hK _ ?_; clear hK
      refine wps_nil (hK _ ?_); clear hK
      refine SWp.reg rfl (hPB _ rfl) fun K hK => ?_
      refine wps_cons rfl fun K hK => ?_; simp [hN']; refine hK _ ?_; clear hK
      refine wps_cons rfl fun K hK => ?_; simp [hN']; refine hK _ ?_; clear hK
      refine wps_cons rfl fun K hK => ?_; simp [hN']; refine hK _ ?_; clear hK
      refine wps_nil (hK _ ?_); clear hK
      cases h7
      exact ⟨_, [], rfl, by simp [hN']⟩
    · refine SWp.condF' (b := decide (n5 > 127)) (by simp) hb11 ?_
      refine SWp.exit ?_
      have h13 := congrArg some (ho8 _ (Option.some.inj h7).symm)
      cases h13
      exact hK3 _ () [] trivial (by simp [hN'])
  refine SWp.seqR rfl (hPB _ rfl) fun K hK => ?_
  refine wps_cons rfl fun K hK => ?_; simp [hN']; refine hK _ ?_; clear hK
  refine wps_cons rfl fun K hK => ?_; simp [hN']; refine hK _ ?_; clear hK
  refine wps_cons rfl fun K hK => ?_; simp [hN']; refine hK _ ?_; clear hK
  refine wps_cons rfl fun K hK => ?_; simp [hN']; refine hK _ ?_; clear hK
  obtain ⟨l16, hl16, h⟩ := bind_some h
  obtain ⟨hl16a, hl16b, hl16d⟩ := appI_some hl16
  have hl16f : List.map (vk .u8) out15 ++ List.map (vk .u8) [IntKind.wrap .u8 n14] = List.map (vk .u8) l16 := app_map (f := (vk .u8)) hl16d
  simp [eSl] at hl16a hl16b hl16f
  refine wps_cons rfl fun K hK => ?_; simp [hN', hl16a, hl16b, hl16f]; refine hK _ ?_; clear hK
  refine wps_cons rfl fun K hK => ?_; simp [hN', hl16a, hl16b, hl16f]; refine hK _ ?_; clear hK
  refine wps_cons rfl fun K hK => ?_; simp [hN', hl16a, hl16b, hl16f]; refine hK _ ?_; clear hK
  refine wps_nil (hK _ ?_); clear hK
  cases h
  refine SWp.ret ?_
  simp [thenS, inBlockS, res32]
end Go.Proofs.T
set_option linter.unusedVariables false
set_option linter.unusedSimpArgs false
set_option maxHeartbeats 1000000
namespace Go.Proofs.T
open Go.OM
theorem res30 : Try.f30.results.toList = [.tmp 2, .tmp 3] := rfl
theorem ent30 : Enters E.P 30 := enters_of Try.func30 (by simp [Try.f30]) rfl
theorem spec_l27Nums_ok (list1 : List Int) {r0 : ByteArray} {r1 : Bool} (h : spec_l27Nums list1 = some (r0, r1)) : Ok E 30 [.val (.sl false 1 (List.map vi list1))] [vs r0, vb r1] [] := by
  refine ok_of_body (fn := Try.f30) Try.func30 rfl (by simp [Try.f30]) fun C hN hP => ?_
  have hPB : ∀ l, pinK [] l = true → pinB C.pin l = true := pinB_of (by rw [hP]; rfl)
  have hN' : C.N = 32 := hN
  clear hN
  unfold spec_l27Nums at h
  refine SWp.seqR rfl (hPB _ rfl) fun K hK => ?_
  refine wps_cons rfl fun K hK => ?_; simp [hN']; refine hK _ ?_; clear hK
  refine wps_cons rfl fun K hK => ?_; simp [hN']; refine hK _ ?_; clear hK
  refine wps_nil (hK _ ?_); clear hK
  refine SWp.seq ?_
  refine SWp.seqR rfl (hPB _ rfl) fun K hK => ?_
  refine wps_cons rfl fun K hK => ?_; simp [hN']; refine hK _ ?_; clear hK
  refine wps_cons rfl fun K hK => ?_; simp [hN']; refine hK _ ?_; clear hK
  refine wps_cons rfl fun K hK => ?_; simp [hN']; refine hK _ ?_; clear hK
  refine wps_nil (hK _ ?_); clear hK
  rcases ite_or h with ⟨hb2, h⟩ | ⟨hb3, h⟩
  · refine SWp.condT' (b := decide ((list1.length : Int) > 100)) (by simp) hb2 ?_
    refine SWp.seqR rfl (hPB _ rfl) fun K hK => ?_
    refine wps_cons rfl fun K hK => ?_; simp [hN']; refine hK _ ?_; clear hK
    refine wps_cons rfl fun K hK => ?_; simp [hN']; refine hK _ ?_; clear hK
    refine wps_nil (hK _ ?_); clear hK
    cases h
    refine SWp.ret ?_
    simp [thenS, inBlockS, res30]
  · refine SWp.condF' (b := decide ((list1.length : Int) > 100)) (by simp) hb3 ?_
    refine SWp.skip ?_
    show SWp E C _ _ _
    refine SWp.seqR rfl (hPB _ rfl) fun K hK => ?_
    refine wps_cons rfl fun K hK => ?_; simp [hN']; refine hK _ ?_; clear hK
    refine wps_cons rfl fun K hK => ?_; simp [hN']; refine hK _ ?_; clear hK
    obtain ⟨r4, hc5, h⟩ := bind_some h
    refine wps_call [(.take, .tmp 10)] rfl rfl ent32 (spec_l01Var_ok _ hc5) fun K hK => ?_; simp [hN']; refine hK _ ?_; clear hK
    refine wps_cons rfl fun K hK => ?_; simp [hN']; refine hK _ ?_; clear hK
    refine wps_nil (hK _ ?_); clear hK
    obtain ⟨j8, hj6, h⟩ := bind_some h
    refine SWp.seqC [4] [] (fun v : ByteArray => ⟨[(4, .t (vs v))], []⟩) (fun v => j8 = Sum.inl v) (fun v hv => ?_) fun K7 hK7 => ?_
    rotate_left
    · refine SWp.seqR rfl (hPB _ rfl) fun K hK => ?_
      refine wps_cons rfl fun K hK => ?_; simp [hN']; refine hK _ ?_; clear hK
      refine wps_nil (hK _ ?_); clear hK
      refine SWp.block ?_
      refine SWp.loopO [] [0, 4, 5] [] (fun v : ByteArray × Int => ⟨[(0, .t (.sl false 1 (List.map vi list1))), (4, .t (vs v.1)), (5, .t (vi v.2))], []⟩) (spec_l27Nums_l1 list1) _ (r4, 0) hj6 (by simp [hN']) ?_
      intro g s13 h11 ho12
      obtain ⟨s9, i10⟩ := g
      simp only [spec_l27Nums_l1] at h11
      try dsimp only
      refine SWp.seq ?_
      refine SWp.seqR rfl (hPB _ rfl) fun K hK => ?_
      refine wps_cons rfl fun K hK => ?_; simp [hN']; refine hK _ ?_; clear hK
      refine wps_cons rfl fun K hK => ?_; simp [hN']; refine hK _ ?_; clear hK
      refine wps_cons rfl fun K hK => ?_; simp [hN']; refine hK _ ?_; clear hK
      refine wps_cons rfl fun K hK => ?_; simp [hN']; refine hK _ ?_; clear hK
      refine wps_nil (hK _ ?_); clear hK
      rcases ite_or h11 with ⟨hb14, h11⟩ | ⟨hb15, h11⟩
      · refine SWp.condT' (b := decide (i10 < (list1.length : Int))) (by simp) hb14 ?_
        refine SWp.skip ?_
        show SWp E C _ _ _
        refine SWp.seq ?_
        refine SWp.block ?_
        refine SWp.seq ?_
        refine SWp.seqR rfl (hPB _ rfl) fun K hK => ?_
        refine wps_cons rfl fun K hK => ?_; simp [hN']; refine hK _ ?_; clear hK
        refine wps_cons rfl fun K hK => ?_; simp [hN']; refine hK _ ?_; clear hK
        obtain ⟨e16, he16, h11⟩ := bind_some h11
        obtain ⟨he16a, he16b, he16c, he16d⟩ := getI_some he16
        refine wps_cons rfl fun K hK => ?_; simp [hN', he16a, he16b, he16c, he16d]; refine hK _ ?_; clear hK
        refine wps_cons rfl fun K hK => ?_; simp [hN', he16a, he16b, he16c, he16d]; refine hK _ ?_; clear hK
        obtain ⟨r17, hc18, h11⟩ := bind_some h11
        refine wps_call [(.take, .tmp 21), (.take, .const (.int .i64 0)), (.take, .const (.int .i64 1000000000))] rfl rfl ent31 (spec_l01In_ok _ _ _ hc18) fun K hK => ?_; simp [hN', he16a, he16b, he16c, he16d]; refine hK _ ?_; clear hK
        refine wps_cons rfl fun K hK => ?_; simp [hN', he16a, he16b, he16c, he16d]; refine hK _ ?_; clear hK
        refine wps_nil (hK _ ?_); clear hK
        rcases ite_or h11 with ⟨hb19, h11⟩ | ⟨hb20, h11⟩
        · refine SWp.condT' (b := !r17) (by simp) hb19 ?_
          refine SWp.seqR rfl (hPB _ rfl) fun K hK => ?_
          refine wps_cons rfl fun K hK => ?_; simp [hN']; refine hK _ ?_; clear hK
          refine wps_cons rfl fun K hK => ?_; simp [hN']; refine hK _ ?_; clear hK
          refine wps_nil (hK _ ?_); clear hK
          have h21 := congrArg some (ho12 _ (Option.some.inj h11).symm)
          cases h21
          try dsimp only at h
          cases h
          refine SWp.ret ?_
          simp [thenS, inBlockS, res30]
        · refine SWp.condF' (b := !r17) (by simp) hb20 ?_
          refine SWp.skip ?_
          show SWp E C _ _ _
          refine SWp.reg rfl (hPB _ rfl) fun K hK => ?_
          refine wps_cons rfl fun K hK => ?_; simp [hN']; refine hK _ ?_; clear hK
          refine wps_cons rfl fun K hK => ?_; simp [hN']; refine hK _ ?_; clear hK
          refine wps_cons rfl fun K hK => ?_; simp [hN']; refine hK _ ?_; clear hK
          obtain ⟨e22, he22, h11⟩ := bind_some h11
          obtain ⟨he22a, he22b, he22c, he22d⟩ := getI_some he22
          refine wps_cons rfl fun K hK => ?_; simp [hN', he22a, he22b, he22c, he22d]; refine hK _ ?_; clear hK
          refine wps_cons rfl fun K hK => ?_; simp [hN', he22a, he22b, he22c, he22d]; refine hK _ ?_; clear hK
          obtain ⟨r23, hc24, h11⟩ := bind_some h11
          refine wps_call [(.take, .tmp 28)] rfl rfl ent32 (spec_l01Var_ok _ hc24) fun K hK => ?_; simp [hN', he22a, he22b, he22c, he22d]; refine hK _ ?_; clear hK
          obtain ⟨t25, ht25, h11⟩ := bind_some h11
          obtain ⟨ht25a, ht25b⟩ := sCat_some ht25
          refine wps_cons rfl fun K hK => ?_; simp [hN', he22a, he22b, he22c, he22d, ht25a, ht25b]; refine hK _ ?_; clear hK
          refine wps_cons rfl fun K hK => ?_; simp [hN', he22a, he22b, he22c, he22d, ht25a, ht25b]; refine hK _ ?_; clear hK
          refine wps_nil (hK _ ?_); clear hK
          show SWp E C _ _ _
          refine SWp.reg rfl (hPB _ rfl) fun K hK => ?_
          refine wps_cons rfl fun K hK => ?_; simp [hN']; refine hK _ ?_; clear hK
          refine wps_cons rfl fun K hK => ?_; simp [hN']; refine hK _ ?_; clear hK
          refine wps_cons rfl fun K hK => ?_; simp [hN']; refine hK _ ?_; clear hK
          refine wps_nil (hK _ ?_); clear hK
          cases h11
          exact ⟨_, [], rfl, by simp [hN']⟩
      · refine SWp.condF' (b := decide (i10 < (list1.length : Int))) (by simp) hb15 ?_
        refine SWp.exit ?_
        have h26 := congrArg some (ho12 _ (Option.some.inj h11).symm)
        cases h26
        exact hK7 _ _ [] rfl (by simp [hN'])
    subst hv
    obtain ⟨s27, hv⟩ : ∃ y, y = v := ⟨_, rfl⟩
    subst hv
    try dsimp only at h ⊢
    refine SWp.seqR rfl (hPB _ rfl) fun K hK => ?_
    refine wps_cons rfl fun K hK => ?_; simp [hN']; refine hK _ ?_; clear hK
    refine wps_cons rfl fun K hK => ?_; simp [hN']; refine hK _ ?_; clear hK
    refine wps_cons rfl fun K hK => ?_; simp [hN']; refine hK _ ?_; clear hK
    refine wps_nil (hK _ ?_); clear hK
    cases h
    refine SWp.ret ?_
    simp [thenS, inBlockS, res30]
end Go.Proofs.T
set_option linter.unusedVariables false
set_option linter.unusedSimpArgs false
set_option maxHeartbeats 1000000
namespace Go.Proofs.T
open Go.OM
theorem res13 : Try.f13.results.toList = [.tmp 2] := rfl
theorem ent13 : Enters E.P 13 := enters_of Try.func13 (by simp [Try.f13]) rfl
theorem spec_CaseText_ok (c1 : GCase) {r0 : ByteArray} (h : spec_CaseText c1 = some r0) : Ok E 13 [.val (GCase.enc false c1)] [vs r0] [] := by
  refine ok_of_body (fn := Try.f13) Try.func13 rfl (by simp [Try.f13]) fun C hN hP => ?_
  have hPB : ∀ l, pinK [] l = true → pinB C.pin l = true := pinB_of (by rw [hP]; rfl)
  have hN' : C.N = 38 := hN
  clear hN
  unfold spec_CaseText at h
  refine SWp.seqR rfl (hPB _ rfl) fun K hK => ?_
  refine wps_cons rfl fun K hK => ?_; simp [hN']; refine hK _ ?_; clear hK
  refine wps_cons rfl fun K hK => ?_; simp [hN']; refine hK _ ?_; clear hK
  refine wps_nil (hK _ ?_); clear hK
  refine SWp.seqR rfl (hPB _ rfl) fun K hK => ?_
  refine wps_cons rfl fun K hK => ?_; simp [hN']; refine hK _ ?_; clear hK
  refine wps_cons rfl fun K hK => ?_; simp [hN']; refine hK _ ?_; clear hK
  obtain ⟨⟨r2, r3⟩, hc4, h⟩ := bind_some h
  try dsimp only at h
  refine wps_call [(.take, .tmp 9)] rfl rfl ent30 (spec_l27Nums_ok _ hc4) fun K hK => ?_; simp [hN']; refine hK _ ?_; clear hK
  refine wps_cons rfl fun K hK => ?_; simp [hN']; refine hK _ ?_; clear hK
  refine wps_cons rfl fun K hK => ?_; simp [hN']; refine hK _ ?_; clear hK
  refine wps_cons rfl fun K hK => ?_; simp [hN']; refine hK _ ?_; clear hK
  refine wps_cons rfl fun K hK => ?_; simp [hN']; refine hK _ ?_; clear hK
  refine wps_cons rfl fun K hK => ?_; simp [hN']; refine hK _ ?_; clear hK
  refine wps_nil (hK _ ?_); clear hK
  refine SWp.seqR rfl (hPB _ rfl) fun K hK => ?_
  refine wps_cons rfl fun K hK => ?_; simp [hN']; refine hK _ ?_; clear hK
  refine wps_cons rfl fun K hK => ?_; simp [hN']; refine hK _ ?_; clear hK
  obtain ⟨⟨r5, r6⟩, hc7, h⟩ := bind_some h
  try dsimp only at h
  refine wps_call [(.take, .tmp 15)] rfl rfl ent30 (spec_l27Nums_ok _ hc7) fun K hK => ?_; simp [hN']; refine hK _ ?_; clear hK
  refine wps_cons rfl fun K hK => ?_; simp [hN']; refine hK _ ?_; clear hK
  refine wps_cons rfl fun K hK => ?_; simp [hN']; refine hK _ ?_; clear hK
  refine wps_cons rfl fun K hK => ?_; simp [hN']; refine hK _ ?_; clear hK
  refine wps_cons rfl fun K hK => ?_; simp [hN']; refine hK _ ?_; clear hK
  refine wps_cons rfl fun K hK => ?_; simp [hN']; refine hK _ ?_; clear hK
  refine wps_nil (hK _ ?_); clear hK
  refine SWp.seq ?_
  obtain ⟨v16, hj8, h⟩ := bind_some h
  refine SWp.seqRC rfl (hPB _ rfl) [1, 3, 5, 30] [1] (fun _ : Unit => ⟨[(1, .ref (.box 1) 0 []), (3, .t (vs r2)), (5, .t (vs r5)), (30, .t (vb v16))], [(1, [.sl false 1 (List.map vi c1.Input), .sl false 1 (List.map vi c1.Want), vi c1.End])]⟩) (fun _ => True) (fun _ _ => ?_) fun K9 hK9 => ?_
  rotate_left
  · refine wps_cons rfl fun K hK => ?_; simp [hN']; refine hK _ ?_; clear hK
    refine wps_cons rfl fun K hK => ?_; simp [hN']; refine hK _ ?_; clear hK
    refine wps_cons rfl fun K hK => ?_; simp [hN']; refine hK _ ?_; clear hK
    rcases ite_or hj8 with ⟨hb10, hj8⟩ | ⟨hb11, hj8⟩
    · have hb10s := hb10
      try simp at hb10s
      refine wps_off fun K hK => ?_; simp [hN', hb10, hb10s]; refine hK _ ?_; clear hK
      refine wps_off fun K hK => ?_; simp [hN', hb10, hb10s]; refine hK _ ?_; clear hK
      refine wps_cons rfl fun K hK => ?_; simp [hN', hb10, hb10s]; refine hK _ ?_; clear hK
      refine wps_cons rfl fun K hK => ?_; simp [hN', hb10, hb10s]; refine hK _ ?_; clear hK
      refine wps_off fun K hK => ?_; simp [hN', hb10, hb10s]; refine hK _ ?_; clear hK
      refine wps_off fun K hK => ?_; simp [hN', hb10, hb10s]; refine hK _ ?_; clear hK
      refine wps_off fun K hK => ?_; simp [hN', hb10, hb10s]; refine hK _ ?_; clear hK
      refine wps_off fun K hK => ?_; simp [hN', hb10, hb10s]; refine hK _ ?_; clear hK
      refine wps_cons rfl fun K hK => ?_; simp [hN', hb10, hb10s]; refine hK _ ?_; clear hK
      refine wps_nil ?_
      cases hj8
      exact hK9 _ () [] trivial (by simp [hN', hb10, hb10s])
    · have hb11s := hb11
      try simp at hb11s
      refine wps_cons rfl fun K hK => ?_; simp [hN', hb11, hb11s]; refine hK _ ?_; clear hK
      refine wps_cons rfl fun K hK => ?_; simp [hN', hb11, hb11s]; refine hK _ ?_; clear hK
      refine wps_cons rfl fun K hK => ?_; simp [hN', hb11, hb11s]; refine hK _ ?_; clear hK
      refine wps_cons rfl fun K hK => ?_; simp [hN', hb11, hb11s]; refine hK _ ?_; clear hK
      rcases ite_or hj8 with ⟨hb12, hj8⟩ | ⟨hb13, hj8⟩
      · have hb12s := hb12
        try simp at hb12s
        refine wps_off fun K hK => ?_; simp [hN', hb11, hb11s, hb12, hb12s]; refine hK _ ?_; clear hK
        refine wps_off fun K hK => ?_; simp [hN', hb11, hb11s, hb12, hb12s]; refine hK _ ?_; clear hK
        refine wps_off fun K hK => ?_; simp [hN', hb11, hb11s, hb12, hb12s]; refine hK _ ?_; clear hK
        refine wps_off fun K hK => ?_; simp [hN', hb11, hb11s, hb12, hb12s]; refine hK _ ?_; clear hK
        refine wps_cons rfl fun K hK => ?_; simp [hN', hb11, hb11s, hb12, hb12s]; refine hK _ ?_; clear hK
        refine wps_nil ?_
        cases hj8
        exact hK9 _ () [] trivial (by simp [hN', hb11, hb11s, hb12, hb12s])
      · have hb13s := hb13
        try simp at hb13s
        refine wps_cons rfl fun K hK => ?_; simp [hN', hb11, hb11s, hb13, hb13s]; refine hK _ ?_; clear hK
        refine wps_cons rfl fun K hK => ?_; simp [hN', hb11, hb11s, hb13, hb13s]; refine hK _ ?_; clear hK
        obtain ⟨r14, hc15, hj8⟩ := bind_some hj8
        refine wps_call [(.take, .tmp 27), (.take, .const (.int .i64 0)), (.take, .const (.int .i64 1000000000))] rfl rfl ent31 (spec_l01In_ok _ _ _ hc15) fun K hK => ?_; simp [hN', hb11, hb11s, hb13, hb13s]; refine hK _ ?_; clear hK
        refine wps_cons rfl fun K hK => ?_; simp [hN', hb11, hb11s, hb13, hb13s]; refine hK _ ?_; clear hK
        refine wps_cons rfl fun K hK => ?_; simp [hN', hb11, hb11s, hb13, hb13s]; refine hK _ ?_; clear hK
        refine wps_nil ?_
        cases hj8
        exact hK9 _ () [] trivial (by simp [hN', hb11, hb11s, hb13, hb13s])
  rcases ite_or h with ⟨hb17, h⟩ | ⟨hb18, h⟩
  · refine SWp.condT' (b := v16) (by simp) hb17 ?_
    refine SWp.seqR rfl (hPB _ rfl) fun K hK => ?_
    refine wps_cons rfl fun K hK => ?_; simp [hN']; refine hK _ ?_; clear hK
    refine wps_nil (hK _ ?_); clear hK
    cases h
    refine SWp.ret ?_
    simp [thenS, inBlockS, res13]
  · refine SWp.condF' (b := v16) (by simp) hb18 ?_
    refine SWp.skip ?_
    show SWp E C _ _ _
    refine SWp.seqR rfl (hPB _ rfl) fun K hK => ?_
    refine wps_cons rfl fun K hK => ?_; simp [hN']; refine hK _ ?_; clear hK
    refine wps_cons rfl fun K hK => ?_; simp [hN']; refine hK _ ?_; clear hK
    obtain ⟨t19, ht19, h⟩ := bind_some h
    obtain ⟨ht19a, ht19b⟩ := sCat_some ht19
    refine wps_cons rfl fun K hK => ?_; simp [hN', ht19a, ht19b]; refine hK _ ?_; clear hK
    refine wps_cons rfl fun K hK => ?_; simp [hN', ht19a, ht19b]; refine hK _ ?_; clear hK
    refine wps_cons rfl fun K hK => ?_; simp [hN', ht19a, ht19b]; refine hK _ ?_; clear hK
    obtain ⟨r20, hc21, h⟩ := bind_some h
    refine wps_call [(.take, .tmp 35)] rfl rfl ent32 (spec_l01Var_ok _ hc21) fun K hK => ?_; simp [hN', ht19a, ht19b]; refine hK _ ?_; clear hK
    obtain ⟨t22, ht22, h⟩ := bind_some h
    obtain ⟨ht22a, ht22b⟩ := sCat_some ht22
    refine wps_cons rfl fun K hK => ?_; simp [hN', ht19a, ht19b, ht22a, ht22b]; refine hK _ ?_; clear hK
    refine wps_cons rfl fun K hK => ?_; simp [hN', ht19a, ht19b, ht22a, ht22b]; refine hK _ ?_; clear hK
    refine wps_nil (hK _ ?_); clear hK
    cases h
    refine SWp.ret ?_
    simp [thenS, inBlockS, res13]
end Go.Proofs.T
set_option linter.unusedVariables false
set_option linter.unusedSimpArgs false
set_option maxHeartbeats 1000000
namespace Go.Proofs.T
open Go.OM
theorem res38 : Try.f38.results.toList = [.tmp 4, .tmp 5, .tmp 6] := rfl
theorem ent38 : Enters E.P 38 := enters_of Try.func38 (by simp [Try.f38]) rfl
theorem spec_ReadVar_ok (text1 : ByteArray) (at2 : Int) {r0 : Int} {r1 : Int} {r2 : Bool} (h : spec_ReadVar text1 at2 = some (r0, r1, r2)) : Ok E 38 [.val (vs text1), .val (vi at2)] [vi r0, vi r1, vb r2] [] := by
  refine ok_of_body (fn := Try.f38) Try.func38 rfl (by simp [Try.f38]) fun C hN hP => ?_
  have hPB : ∀ l, pinK [] l = true → pinB C.pin l = true := pinB_of (by rw [hP]; rfl)
  have hN' : C.N = 58 := hN
  clear hN
  unfold spec_ReadVar at h
  refine SWp.seqR rfl (hPB _ rfl) fun K hK => ?_
  refine wps_cons rfl fun K hK => ?_; simp [hN']; refine hK _ ?_; clear hK
  refine wps_cons rfl fun K hK => ?_; simp [hN']; refine hK _ ?_; clear hK
  refine wps_cons rfl fun K hK => ?_; simp [hN']; refine hK _ ?_; clear hK
  refine wps_nil (hK _ ?_); clear hK
  refine SWp.seq ?_
  refine SWp.seqR rfl (hPB _ rfl) fun K hK => ?_
  refine wps_cons rfl fun K hK => ?_; simp [hN']; refine hK _ ?_; clear hK
  refine wps_cons rfl fun K hK => ?_; simp [hN']; refine hK _ ?_; clear hK
  refine wps_cons rfl fun K hK => ?_; simp [hN']; refine hK _ ?_; clear hK
  obtain ⟨r3, hc4, h⟩ := bind_some h
  refine wps_call [(.take, .tmp 10), (.take, .const (.int .i64 0)), (.take, .tmp 12)] rfl rfl ent31 (spec_l01In_ok _ _ _ hc4) fun K hK => ?_; simp [hN']; refine hK _ ?_; clear hK
  refine wps_cons rfl fun K hK => ?_; simp [hN']; refine hK _ ?_; clear hK
  refine wps_nil (hK _ ?_); clear hK
  rcases ite_or h with ⟨hb5, h⟩ | ⟨hb6, h⟩
  · refine SWp.condT' (b := !r3) (by simp) hb5 ?_
    refine SWp.seqR rfl (hPB _ rfl) fun K hK => ?_
    refine wps_cons rfl fun K hK => ?_; simp [hN']; refine hK _ ?_; clear hK
    refine wps_cons rfl fun K hK => ?_; simp [hN']; refine hK _ ?_; clear hK
    refine wps_cons rfl fun K hK => ?_; simp [hN']; refine hK _ ?_; clear hK
    refine wps_nil (hK _ ?_); clear hK
    cases h
    refine SWp.ret ?_
    simp [thenS, inBlockS, res38]
  · refine SWp.condF' (b := !r3) (by simp) hb6 ?_
    refine SWp.skip ?_
    show SWp E C _ _ _
    refine SWp.seqR rfl (hPB _ rfl) fun K hK => ?_
    refine wps_cons rfl fun K hK => ?_; simp [hN']; refine hK _ ?_; clear hK
    refine wps_nil (hK _ ?_); clear hK
    refine SWp.seqR rfl (hPB _ rfl) fun K hK => ?_
    refine wps_cons rfl fun K hK => ?_; simp [hN']; refine hK _ ?_; clear hK
    refine wps_nil (hK _ ?_); clear hK
    obtain ⟨j9, hj7, h⟩ := bind_some h
    refine SWp.seqC [] [] (fun v : Unit => ⟨[], []⟩) (fun v => j9 = Sum.inl v) (fun v hv => ?_) fun K8 hK8 => ?_
    rotate_left
    · refine SWp.seqR rfl (hPB _ rfl) fun K hK => ?_
      refine wps_cons rfl fun K hK => ?_; simp [hN']; refine hK _ ?_; clear hK
      refine wps_cons rfl fun K hK => ?_; simp [hN']; refine hK _ ?_; clear hK
      refine wps_nil (hK _ ?_); clear hK
      refine SWp.block ?_
      refine SWp.loopO [] [0, 1, 7, 8, 9] [] (fun v : Int × Int × Int => ⟨[(0, .t (vs text1)), (1, .t (vi at2)), (7, .t (vi v.1)), (8, .t (vi v.2.1)), (9, .t (vi v.2.2))], []⟩) (spec_ReadVar_l1 text1 at2) _ (0, 1, at2) hj7 (by simp [hN']) ?_
      intro g s15 h13 ho14
      obtain ⟨n10, scale11, i12⟩ := g
      simp only [spec_ReadVar_l1] at h13
      try dsimp only
      refine SWp.seq ?_
      obtain ⟨v20, hj16, h13⟩ := bind_some h13
      refine SWp.seqRC rfl (hPB _ rfl) [0, 1, 7, 8, 9, 25] [] (fun _ : Unit => ⟨[(0, .t (vs text1)), (1, .t (vi at2)), (7, .t (vi n10)), (8, .t (vi scale11)), (9, .t (vi i12)), (25, .t (vb v20))], []⟩) (fun _ => True) (fun _ _ => ?_) fun K17 hK17 => ?_
      rotate_left
      · refine wps_cons rfl fun K hK => ?_; simp [hN']; refine hK _ ?_; clear hK
        refine wps_cons rfl fun K hK => ?_; simp [hN']; refine hK _ ?_; clear hK
        refine wps_cons rfl fun K hK => ?_; simp [hN']; refine hK _ ?_; clear hK
        refine wps_cons rfl fun K hK => ?_; simp [hN']; refine hK _ ?_; clear hK
        refine wps_cons rfl fun K hK => ?_; simp [hN']; refine hK _ ?_; clear hK
        rcases ite_or hj16 with ⟨hb18, hj16⟩ | ⟨hb19, hj16⟩
        · have hb18s := hb18
          try simp at hb18s
          refine wps_cons rfl fun K hK => ?_; simp [hN', hb18, hb18s]; refine hK _ ?_; clear hK
          refine wps_cons rfl fun K hK => ?_; simp [hN', hb18, hb18s]; refine hK _ ?_; clear hK
          refine wps_cons rfl fun K hK => ?_; simp [hN', hb18, hb18s]; refine hK _ ?_; clear hK
          refine wps_cons rfl fun K hK => ?_; simp [hN', hb18, hb18s]; refine hK _ ?_; clear hK
          refine wps_cons rfl fun K hK => ?_; simp [hN', hb18, hb18s]; refine hK _ ?_; clear hK
          refine wps_nil ?_
          cases hj16
          exact hK17 _ () [] trivial (by simp [hN', hb18, hb18s])
        · have hb19s := hb19
          try simp at hb19s
          refine wps_off fun K hK => ?_; simp [hN', hb19, hb19s]; refine hK _ ?_; clear hK
          refine wps_off fun K hK => ?_; simp [hN', hb19, hb19s]; refine hK _ ?_; clear hK
          refine wps_off fun K hK => ?_; simp [hN', hb19, hb19s]; refine hK _ ?_; clear hK
          refine wps_off fun K hK => ?_; simp [hN', hb19, hb19s]; refine hK _ ?_; clear hK
          refine wps_cons rfl fun K hK => ?_; simp [hN', hb19, hb19s]; refine hK _ ?_; clear hK
          refine wps_nil ?_
          cases hj16
          exact hK17 _ () [] trivial (by simp [hN', hb19, hb19s])
      rcases ite_or h13 with ⟨hb21, h13⟩ | ⟨hb22, h13⟩
      · refine SWp.condT' (b := v20) (by simp) hb21 ?_
        refine SWp.skip ?_
        show SWp E C _ _ _
        refine SWp.seq ?_
        refine SWp.block ?_
        refine SWp.seqR rfl (hPB _ rfl) fun K hK => ?_
        refine wps_cons rfl fun K hK => ?_; simp [hN']; refine hK _ ?_; clear hK
        refine wps_cons rfl fun K hK => ?_; simp [hN']; refine hK _ ?_; clear hK
        refine wps_cons rfl fun K hK => ?_; simp [hN']; refine hK _ ?_; clear hK
        obtain ⟨c23, hc23, h13⟩ := bind_some h13
        obtain ⟨hc23a, hc23b, hc23c⟩ := sAt_some hc23
        refine wps_cons rfl fun K hK => ?_; simp [hN', hc23a, hc23b, hc23c]; refine hK _ ?_; clear hK
        refine wps_cons rfl fun K hK => ?_; simp [hN', hc23a, hc23b, hc23c]; refine hK _ ?_; clear hK
        refine wps_cons rfl fun K hK => ?_; simp [hN', hc23a, hc23b, hc23c]; refine hK _ ?_; clear hK
        refine wps_cons rfl fun K hK => ?_; simp [hN', hc23a, hc23b, hc23c]; refine hK _ ?_; clear hK
        refine wps_cons rfl fun K hK => ?_; simp [hN', hc23a, hc23b, hc23c]; refine hK _ ?_; clear hK
        refine wps_cons rfl fun K hK => ?_; simp [hN', hc23a, hc23b, hc23c]; refine hK _ ?_; clear hK
        refine wps_cons rfl fun K hK => ?_; simp [hN', hc23a, hc23b, hc23c]; refine hK _ ?_; clear hK
        refine wps_nil (hK _ ?_); clear hK
        refine SWp.seqR rfl (hPB _ rfl) fun K hK => ?_
        refine wps_cons rfl fun K hK => ?_; simp [hN']; refine hK _ ?_; clear hK
        refine wps_cons rfl fun K hK => ?_; simp [hN']; refine hK _ ?_; clear hK
        refine wps_cons rfl fun K hK => ?_; simp [hN']; refine hK _ ?_; clear hK
        refine wps_nil (hK _ ?_); clear hK
        refine SWp.seqR rfl (hPB _ rfl) fun K hK => ?_
        refine wps_cons rfl fun K hK => ?_; simp [hN']; refine hK _ ?_; clear hK
        refine wps_cons rfl fun K hK => ?_; simp [hN']; refine hK _ ?_; clear hK
        obtain ⟨c24, hc24, h13⟩ := bind_some h13
        obtain ⟨hc24a, hc24b, hc24c⟩ := sAt_some hc24
        refine wps_cons rfl fun K hK => ?_; simp [hN', hc24a, hc24b, hc24c]; refine hK _ ?_; clear hK
        refine wps_cons rfl fun K hK => ?_; simp [hN', hc24a, hc24b, hc24c]; refine hK _ ?_; clear hK
        refine wps_nil (hK _ ?_); clear hK
        rcases ite_or h13 with ⟨hb25, h13⟩ | ⟨hb26, h13⟩
        · refine SWp.condT' (b := decide (c24 < 128)) (by simp) hb25 ?_
          refine SWp.seq ?_
          obtain ⟨v34, hj27, h13⟩ := bind_some h13
          refine SWp.seqC [7, 9, 54] [] (fun _ : Unit => ⟨[(7, .t (vi (IntKind.wrap .i64 (n10 + (IntKind.wrap .i64 ((Int.tmod (IntKind.wrap .i64 c23) 128) * scale11)))))), (9, .t (vi i12)), (54, .t (vb v34))], []⟩) (fun _ => True) (fun _ _ => ?_) fun K28 hK28 => ?_
          rotate_left
          · rcases ite_or hj27 with ⟨hb29, hj27⟩ | ⟨hb30, hj27⟩
            · have hb29s := hb29
              try simp at hb29s
              refine SWp.drawA rfl (hPB _ rfl) [(43, .t (vi (IntKind.wrap .i64 (n10 + (IntKind.wrap .i64 ((Int.tmod (IntKind.wrap .i64 c23) 128) * scale11)))))), (44, .t (vb (decide (IntKind.wrap .i64 (n10 + (IntKind.wrap .i64 ((Int.tmod (IntKind.wrap .i64 c23) 128) * scale11))) > 1000000000)))), (45, .t (vb (decide (IntKind.wrap .i64 (n10 + (IntKind.wrap .i64 ((Int.tmod (IntKind.wrap .i64 c23) 128) * scale11))) > 1000000000)))), (46, .tup []), (47, .tup []), (48, .tup []), (49, .tup []), (50, .tup []), (51, .tup []), (52, .tup []), (53, .tup []), (54, .t (vb true))] [[], [0], [0, 1], [0, 1, 2], [0, 1, 2, 3], [0, 1, 2], [0, 1, 2], [0, 1, 2], [0, 1, 2, 7], [0, 1, 2, 5, 6, 7, 8], [0, 1, 2, 3, 4, 5, 6, 7, 8, 9], [0, 1, 2, 3, 4, 5, 6, 7, 8, 9, 10]] (by simp) (by simp) (by simp [look]) rfl rfl rfl ?_ fun K hK => ?_
              · refine ⟨?_, ?_, ?_, ?_, ?_, ?_, ?_, ?_, ?_, ?_, ?_, ?_, trivial⟩
                all_goals (intro τ hbx hb hd hf K hK; try simp [vsAt] at hd; simp [vsAt] at hf; first | (refine wps_cons rfl fun K' hK' => ?_; simp [hN', hbx, hb, hd, hf, hb29, hb29s]; exact hK' _ (wps_nil (hK _ (by simp [vsAt, hbx, hb29, hb29s])))) | (refine wps_off fun K' hK' => ?_; simp [hN', hbx, hb, hd, hf, hb29, hb29s]; exact hK' _ (wps_nil (hK _ (by simp [vsAt, hbx, hb29, hb29s])))))
              refine wps_nil (hK _ ?_); clear hK
              cases hj27
              exact hK28 _ () [] trivial (by simp [hN', hb29, hb29s])
            · have hb30s := hb30
              try simp at hb30s
              obtain ⟨r31, hc32, hj27⟩ := bind_some hj27
              obtain ⟨t33, ht33, hj27⟩ := bind_some hj27
              obtain ⟨ht33a, ht33b, ht33c, ht33d, ht33e, ht33f, ht33g, ht33i⟩ := sSub_some ht33
              refine SWp.drawA rfl (hPB _ rfl) [(43, .t (vi (IntKind.wrap .i64 (n10 + (IntKind.wrap .i64 ((Int.tmod (IntKind.wrap .i64 c23) 128) * scale11)))))), (44, .t (vb (decide (IntKind.wrap .i64 (n10 + (IntKind.wrap .i64 ((Int.tmod (IntKind.wrap .i64 c23) 128) * scale11))) > 1000000000)))), (45, .t (vb (decide (IntKind.wrap .i64 (n10 + (IntKind.wrap .i64 ((Int.tmod (IntKind.wrap .i64 c23) 128) * scale11))) > 1000000000)))), (46, .t (vi (IntKind.wrap .i64 (n10 + (IntKind.wrap .i64 ((Int.tmod (IntKind.wrap .i64 c23) 128) * scale11)))))), (47, .t (vs r31)), (48, .t (vs text1)), (49, .t (vi at2)), (50, .t (vi i12)), (51, .t (vi (IntKind.wrap .i64 (i12 + 1)))), (52, .t (vs t33)), (53, .t (vb (!(sEq r31 t33)))), (54, .t (vb (!(sEq r31 t33))))] [[], [0], [0, 1], [0, 1, 2], [0, 1, 2, 3], [0, 1, 2], [0, 1, 2], [0, 1, 2], [0, 1, 2, 7], [0, 1, 2, 5, 6, 7, 8], [0, 1, 2, 3, 4, 5, 6, 7, 8, 9], [0, 1, 2, 3, 4, 5, 6, 7, 8, 9, 10]] (by simp) (by simp) (by simp [look]) rfl rfl rfl ?_ fun K hK => ?_
              · refine ⟨?_, ?_, ?_, ?_, ?_, ?_, ?_, ?_, ?_, ?_, ?_, ?_, trivial⟩
                all_goals (intro τ hbx hb hd hf K hK; try simp [vsAt] at hd; simp [vsAt] at hf; first | (refine wps_cons rfl fun K' hK' => ?_; simp [hN', hbx, hb, hd, hf, hb30, hb30s, ht33a, ht33b, ht33c, ht33d, ht33e, ht33f, ht33g, ht33i]; exact hK' _ (wps_nil (hK _ (by simp [vsAt, hbx, hb30, hb30s, ht33a, ht33b, ht33c, ht33d, ht33e, ht33f, ht33g, ht33i])))) | (refine wps_call [(.take, .tmp 46)] rfl rfl ent32 (spec_l01Var_ok _ hc32) fun K' hK' => ?_; simp [hN', hbx, hb, hd, hf, hb30, hb30s, ht33a, ht33b, ht33c, ht33d, ht33e, ht33f, ht33g, ht33i]; exact hK' _ (wps_nil (hK _ (by simp [vsAt, hbx, hb30, hb30s, ht33a, ht33b, ht33c, ht33d, ht33e, ht33f, ht33g, ht33i])))))
              refine wps_nil (hK _ ?_); clear hK
              cases hj27
              exact hK28 _ () [] trivial (by simp [hN', hb30, hb30s, ht33a, ht33b, ht33c, ht33d, ht33e, ht33f, ht33g, ht33i])
          rcases ite_or h13 with ⟨hb35, h13⟩ | ⟨hb36, h13⟩
          · refine SWp.condT' (b := v34) (by simp) hb35 ?_
            refine SWp.seqR rfl (hPB _ rfl) fun K hK => ?_
            refine wps_cons rfl fun K hK => ?_; simp [hN']; refine hK _ ?_; clear hK
            refine wps_cons rfl fun K hK => ?_; simp [hN']; refine hK _ ?_; clear hK
            refine wps_cons rfl fun K hK => ?_; simp [hN']; refine hK _ ?_; clear hK
            refine wps_nil (hK _ ?_); clear hK
            have h37 := congrArg some (ho14 _ (Option.some.inj h13).symm)
            cases h37
            try dsimp only at h
            cases h
            refine SWp.ret ?_
            simp [thenS, inBlockS, res38]
          · refine SWp.condF' (b := v34) (by simp) hb36 ?_
            refine SWp.skip ?_
            show SWp E C _ _ _
            refine SWp.seqR rfl (hPB _ rfl) fun K hK => ?_
            refine wps_cons rfl fun K hK => ?_; simp [hN']; refine hK _ ?_; clear hK
            refine wps_cons rfl fun K hK => ?_; simp [hN']; refine hK _ ?_; clear hK
            refine wps_cons rfl fun K hK => ?_; simp [hN']; refine hK _ ?_; clear hK
            refine wps_cons rfl fun K hK => ?_; simp [hN']; refine hK _ ?_; clear hK
            refine wps_cons rfl fun K hK => ?_; simp [hN']; refine hK _ ?_; clear hK
            refine wps_cons rfl fun K hK => ?_; simp [hN']; refine hK _ ?_; clear hK
            refine wps_nil (hK _ ?_); clear hK
            have h38 := congrArg some (ho14 _ (Option.some.inj h13).symm)
            cases h38
            try dsimp only at h
            cases h
            refine SWp.ret ?_
            simp [thenS, inBlockS, res38]
        · refine SWp.condF' (b := decide (c24 < 128)) (by simp) hb26 ?_
          refine SWp.skip ?_
          show SWp E C _ _ _
          refine SWp.reg rfl (hPB _ rfl) fun K hK => ?_
          refine wps_cons rfl fun K hK => ?_; simp [hN']; refine hK _ ?_; clear hK
          refine wps_cons rfl fun K hK => ?_; simp [hN']; refine hK _ ?_; clear hK
          refine wps_cons rfl fun K hK => ?_; simp [hN']; refine hK _ ?_; clear hK
          refine wps_nil (hK _ ?_); clear hK
          cases h13
          exact ⟨_, [], rfl, by simp [hN']⟩
      · refine SWp.condF' (b := v20) (by simp) hb22 ?_
        refine SWp.exit ?_
        have h39 := congrArg some (ho14 _ (Option.some.inj h13).symm)
        cases h39
        exact hK8 _ _ [] rfl (by simp [hN'])
    subst hv
    obtain ⟨⟩ := v
    try dsimp only at h ⊢
    refine SWp.seqR rfl (hPB _ rfl) fun K hK => ?_
    refine wps_cons rfl fun K hK => ?_; simp [hN']; refine hK _ ?_; clear hK
    refine wps_cons rfl fun K hK => ?_; simp [hN']; refine hK _ ?_; clear hK
    refine wps_cons rfl fun K hK => ?_; simp [hN']; refine hK _ ?_; clear hK
    refine wps_nil (hK _ ?_); clear hK
    cases h
    refine SWp.ret ?_
    simp [thenS, inBlockS, res38]
end Go.Proofs.T
set_option linter.unusedVariables false
set_option linter.unusedSimpArgs false
set_option maxHeartbeats 1000000
namespace Go.Proofs.T
open Go.OM
theorem res37 : Try.f37.results.toList = [.tmp 4, .tmp 5] := rfl
theorem ent37 : Enters E.P 37 := enters_of Try.func37 (by simp [Try.f37]) rfl
theorem spec_l27Read_ok (t1 : ByteArray) (at2 : Int) {r0 : List Int} {r1 : Int} (h : spec_l27Read t1 at2 = some (r0, r1)) : Ok E 37 [.val (vs t1), .val (vi at2)] [.sl true 1 (List.map vi r0), vi r1] [] := by
  refine ok_of_body (fn := Try.f37) Try.func37 rfl (by simp [Try.f37]) fun C hN hP => ?_
  have hPB : ∀ l, pinK [] l = true → pinB C.pin l = true := pinB_of (by rw [hP]; rfl)
  have hN' : C.N = 50 := hN
  clear hN
  unfold spec_l27Read at h
  refine SWp.seqR rfl (hPB _ rfl) fun K hK => ?_
  refine wps_cons rfl fun K hK => ?_; simp [hN']; refine hK _ ?_; clear hK
  refine wps_cons rfl fun K hK => ?_; simp [hN']; refine hK _ ?_; clear hK
  refine wps_nil (hK _ ?_); clear hK
  refine SWp.seqR rfl (hPB _ rfl) fun K hK => ?_
  refine wps_cons rfl fun K hK => ?_; simp [hN']; refine hK _ ?_; clear hK
  refine wps_cons rfl fun K hK => ?_; simp [hN']; refine hK _ ?_; clear hK
  obtain ⟨⟨r3, r4, r5⟩, hc6, h⟩ := bind_some h
  try dsimp only at h
  refine wps_call [(.take, .tmp 14), (.take, .tmp 15)] rfl rfl ent38 (spec_ReadVar_ok _ _ hc6) fun K hK => ?_; simp [hN']; refine hK _ ?_; clear hK
  refine wps_cons rfl fun K hK => ?_; simp [hN']; refine hK _ ?_; clear hK
  refine wps_cons rfl fun K hK => ?_; simp [hN']; refine hK _ ?_; clear hK
  refine wps_cons rfl fun K hK => ?_; simp [hN']; refine hK _ ?_; clear hK
  refine wps_cons rfl fun K hK => ?_; simp [hN']; refine hK _ ?_; clear hK
  refine wps_cons rfl fun K hK => ?_; simp [hN']; refine hK _ ?_; clear hK
  refine wps_cons rfl fun K hK => ?_; simp [hN']; refine hK _ ?_; clear hK
  refine wps_cons rfl fun K hK => ?_; simp [hN']; refine hK _ ?_; clear hK
  refine wps_nil (hK _ ?_); clear hK
  refine SWp.seqR rfl (hPB _ rfl) fun K hK => ?_
  refine wps_cons rfl fun K hK => ?_; simp [hN']; refine hK _ ?_; clear hK
  refine wps_cons rfl fun K hK => ?_; simp [hN']; refine hK _ ?_; clear hK
  refine wps_nil (hK _ ?_); clear hK
  refine SWp.seq ?_
  obtain ⟨v11, hj7, h⟩ := bind_some h
  refine SWp.seqRC rfl (hPB _ rfl) [0, 1, 6, 8, 26] [] (fun _ : Unit => ⟨[(0, .t (vs t1)), (1, .t (vi r4)), (6, .t (vi r3)), (8, .t (.sl true 1 [])), (26, .t (vb v11))], []⟩) (fun _ => True) (fun _ _ => ?_) fun K8 hK8 => ?_
  rotate_left
  · refine wps_cons rfl fun K hK => ?_; simp [hN']; refine hK _ ?_; clear hK
    refine wps_cons rfl fun K hK => ?_; simp [hN']; refine hK _ ?_; clear hK
    refine wps_cons rfl fun K hK => ?_; simp [hN']; refine hK _ ?_; clear hK
    rcases ite_or hj7 with ⟨hb9, hj7⟩ | ⟨hb10, hj7⟩
    · have hb9s := hb9
      try simp at hb9s
      refine wps_off fun K hK => ?_; simp [hN', hb9, hb9s]; refine hK _ ?_; clear hK
      refine wps_off fun K hK => ?_; simp [hN', hb9, hb9s]; refine hK _ ?_; clear hK
      refine wps_cons rfl fun K hK => ?_; simp [hN', hb9, hb9s]; refine hK _ ?_; clear hK
      refine wps_nil ?_
      cases hj7
      exact hK8 _ () [] trivial (by simp [hN', hb9, hb9s])
    · have hb10s := hb10
      try simp at hb10s
      refine wps_cons rfl fun K hK => ?_; simp [hN', hb10, hb10s]; refine hK _ ?_; clear hK
      refine wps_cons rfl fun K hK => ?_; simp [hN', hb10, hb10s]; refine hK _ ?_; clear hK
      refine wps_cons rfl fun K hK => ?_; simp [hN', hb10, hb10s]; refine hK _ ?_; clear hK
      refine wps_nil ?_
      cases hj7
      exact hK8 _ () [] trivial (by simp [hN', hb10, hb10s])
  rcases ite_or h with ⟨hb12, h⟩ | ⟨hb13, h⟩
  · refine SWp.condT' (b := v11) (by simp) hb12 ?_
    refine SWp.seqR rfl (hPB _ rfl) fun K hK => ?_
    refine wps_cons rfl fun K hK => ?_; simp [hN']; refine hK _ ?_; clear hK
    refine wps_cons rfl fun K hK => ?_; simp [hN']; refine hK _ ?_; clear hK
    refine wps_cons rfl fun K hK => ?_; simp [hN']; refine hK _ ?_; clear hK
    refine wps_nil (hK _ ?_); clear hK
    cases h
    refine SWp.ret ?_
    simp [thenS, inBlockS, res37]
  · refine SWp.condF' (b := v11) (by simp) hb13 ?_
    refine SWp.skip ?_
    show SWp E C _ _ _
    obtain ⟨j16, hj14, h⟩ := bind_some h
    refine SWp.seqC [1, 8] [] (fun v : Int × (List Int) => ⟨[(1, .t (vi v.1)), (8, .t (.sl true 1 (List.map vi v.2)))], []⟩) (fun v => j16 = Sum.inl v) (fun v hv => ?_) fun K15 hK15 => ?_
    rotate_left
    · refine SWp.seqR rfl (hPB _ rfl) fun K hK => ?_
      refine wps_cons rfl fun K hK => ?_; simp [hN']; refine hK _ ?_; clear hK
      refine wps_nil (hK _ ?_); clear hK
      refine SWp.block ?_
      refine SWp.loopO [] [0, 1, 6, 8, 9] [] (fun v : Int × (List Int) × Int => ⟨[(0, .t (vs t1)), (1, .t (vi v.1)), (6, .t (vi r3)), (8, .t (.sl true 1 (List.map vi v.2.1))), (9, .t (vi v.2.2))], []⟩) (spec_l27Read_l1 t1 r3) _ (r4, [], 0) hj14 (by simp [hN']) ?_
      intro g s22 h20 ho21
      obtain ⟨at17, out18, i19⟩ := g
      simp only [spec_l27Read_l1] at h20
      try dsimp only
      refine SWp.seq ?_
      refine SWp.seqR rfl (hPB _ rfl) fun K hK => ?_
      refine wps_cons rfl fun K hK => ?_; simp [hN']; refine hK _ ?_; clear hK
      refine wps_cons rfl fun K hK => ?_; simp [hN']; refine hK _ ?_; clear hK
      refine wps_cons rfl fun K hK => ?_; simp [hN']; refine hK _ ?_; clear hK
      refine wps_nil (hK _ ?_); clear hK
      rcases ite_or h20 with ⟨hb23, h20⟩ | ⟨hb24, h20⟩
      · refine SWp.condT' (b := decide (i19 < r3)) (by simp) hb23 ?_
        refine SWp.skip ?_
        show SWp E C _ _ _
        refine SWp.seq ?_
        refine SWp.block ?_
        refine SWp.seqR rfl (hPB _ rfl) fun K hK => ?_
        refine wps_cons rfl fun K hK => ?_; simp [hN']; refine hK _ ?_; clear hK
        refine wps_cons rfl fun K hK => ?_; simp [hN']; refine hK _ ?_; clear hK
        obtain ⟨⟨r25, r26, r27⟩, hc28, h20⟩ := bind_some h20
        try dsimp only at h20
        refine wps_call [(.take, .tmp 34), (.take, .tmp 35)] rfl rfl ent38 (spec_ReadVar_ok _ _ hc28) fun K hK => ?_; simp [hN']; refine hK _ ?_; clear hK
        refine wps_cons rfl fun K hK => ?_; simp [hN']; refine hK _ ?_; clear hK
        refine wps_cons rfl fun K hK => ?_; simp [hN']; refine hK _ ?_; clear hK
        refine wps_cons rfl fun K hK => ?_; simp [hN']; refine hK _ ?_; clear hK
        refine wps_cons rfl fun K hK => ?_; simp [hN']; refine hK _ ?_; clear hK
        refine wps_cons rfl fun K hK => ?_; simp [hN']; refine hK _ ?_; clear hK
        refine wps_cons rfl fun K hK => ?_; simp [hN']; refine hK _ ?_; clear hK
        refine wps_cons rfl fun K hK => ?_; simp [hN']; refine hK _ ?_; clear hK
        refine wps_nil (hK _ ?_); clear hK
        refine SWp.seq ?_
        refine SWp.seqR rfl (hPB _ rfl) fun K hK => ?_
        refine wps_cons rfl fun K hK => ?_; simp [hN']; refine hK _ ?_; clear hK
        refine wps_cons rfl fun K hK => ?_; simp [hN']; refine hK _ ?_; clear hK
        refine wps_nil (hK _ ?_); clear hK
        rcases ite_or h20 with ⟨hb29, h20⟩ | ⟨hb30, h20⟩
        · refine SWp.condT' (b := !r27) (by simp) hb29 ?_
          refine SWp.seqR rfl (hPB _ rfl) fun K hK => ?_
          refine wps_cons rfl fun K hK => ?_; simp [hN']; refine hK _ ?_; clear hK
          refine wps_cons rfl fun K hK => ?_; simp [hN']; refine hK _ ?_; clear hK
          refine wps_cons rfl fun K hK => ?_; simp [hN']; refine hK _ ?_; clear hK
          refine wps_nil (hK _ ?_); clear hK
          have h31 := congrArg some (ho21 _ (Option.some.inj h20).symm)
          cases h31
          try dsimp only at h
          cases h
          refine SWp.ret ?_
          simp [thenS, inBlockS, res37]
        · refine SWp.condF' (b := !r27) (by simp) hb30 ?_
          refine SWp.skip ?_
          show SWp E C _ _ _
          refine SWp.seqR rfl (hPB _ rfl) fun K hK => ?_
          refine wps_cons rfl fun K hK => ?_; simp [hN']; refine hK _ ?_; clear hK
          refine wps_cons rfl fun K hK => ?_; simp [hN']; refine hK _ ?_; clear hK
          refine wps_cons rfl fun K hK => ?_; simp [hN']; refine hK _ ?_; clear hK
          obtain ⟨l32, hl32, h20⟩ := bind_some h20
          obtain ⟨hl32a, hl32b, hl32d⟩ := appI_some hl32
          have hl32f : List.map vi out18 ++ List.map vi [r25] = List.map vi l32 := app_map (f := vi) hl32d
          simp [eSl] at hl32a hl32b hl32f
          refine wps_cons rfl fun K hK => ?_; simp [hN', hl32a, hl32b, hl32f]; refine hK _ ?_; clear hK
          refine wps_cons rfl fun K hK => ?_; simp [hN', hl32a, hl32b, hl32f]; refine hK _ ?_; clear hK
          refine wps_nil (hK _ ?_); clear hK
          refine SWp.reg rfl (hPB _ rfl) fun K hK => ?_
          refine wps_cons rfl fun K hK => ?_; simp [hN']; refine hK _ ?_; clear hK
          refine wps_cons rfl fun K hK => ?_; simp [hN']; refine hK _ ?_; clear hK
          refine wps_nil (hK _ ?_); clear hK
          show SWp E C _ _ _
          refine SWp.reg rfl (hPB _ rfl) fun K hK => ?_
          refine wps_cons rfl fun K hK => ?_; simp [hN']; refine hK _ ?_; clear hK
          refine wps_cons rfl fun K hK => ?_; simp [hN']; refine hK _ ?_; clear hK
          refine wps_cons rfl fun K hK => ?_; simp [hN']; refine hK _ ?_; clear hK
          refine wps_nil (hK _ ?_); clear hK
          cases h20
          exact ⟨_, [], rfl, by simp [hN']⟩
      · refine SWp.condF' (b := decide (i19 < r3)) (by simp) hb24 ?_
        refine SWp.exit ?_
        have h33 := congrArg some (ho21 _ (Option.some.inj h20).symm)
        cases h33
        exact hK15 _ _ [] rfl (by simp [hN'])
    subst hv
    obtain ⟨at34, out35⟩ := v
    try dsimp only at h ⊢
    refine SWp.seqR rfl (hPB _ rfl) fun K hK => ?_
    refine wps_cons rfl fun K hK => ?_; simp [hN']; refine hK _ ?_; clear hK
    refine wps_cons rfl fun K hK => ?_; simp [hN']; refine hK _ ?_; clear hK
    refine wps_cons rfl fun K hK => ?_; simp [hN']; refine hK _ ?_; clear hK
    refine wps_cons rfl fun K hK => ?_; simp [hN']; refine hK _ ?_; clear hK
    refine wps_nil (hK _ ?_); clear hK
    cases h
    refine SWp.ret ?_
    simp [thenS, inBlockS, res37]
end Go.Proofs.T
set_option linter.unusedVariables false
set_option linter.unusedSimpArgs false
set_option maxHeartbeats 1000000
namespace Go.Proofs.T
open Go.OM
theorem res17 : Try.f17.results.toList = [.cell 2 34, .tmp 3] := rfl
theorem ent17 : Enters E.P 17 := enters_of Try.func17 (by simp [Try.f17]) rfl
theorem spec_ReadCase_ok (t1 : ByteArray) {r0 : GCase} {r1 : Bool} (h : spec_ReadCase t1 = some (r0, r1)) : Ok E 17 [.val (vs t1)] [GCase.enc true r0, vb r1] [] := by
  refine ok_of_body (fn := Try.f17) Try.func17 rfl (by simp [Try.f17]) fun C hN hP => ?_
  have hPB : ∀ l, pinK [] l = true → pinB C.pin l = true := pinB_of (by rw [hP]; rfl)
  have hN' : C.N = 56 := hN
  clear hN
  unfold spec_ReadCase at h
  refine SWp.seqR rfl (hPB _ rfl) fun K hK => ?_
  refine wps_cons rfl fun K hK => ?_; simp [hN']; refine hK _ ?_; clear hK
  refine wps_cons rfl fun K hK => ?_; simp [hN']; refine hK _ ?_; clear hK
  refine wps_nil (hK _ ?_); clear hK
  refine SWp.seqR rfl (hPB _ rfl) fun K hK => ?_
  refine wps_cons rfl fun K hK => ?_; simp [hN']; refine hK _ ?_; clear hK
  obtain ⟨⟨r2, r3⟩, hc4, h⟩ := bind_some h
  try dsimp only at h
  refine wps_call [(.take, .tmp 13), (.take, .const (.int .i64 0))] rfl rfl ent37 (spec_l27Read_ok _ _ hc4) fun K hK => ?_; simp [hN']; refine hK _ ?_; clear hK
  refine wps_cons rfl fun K hK => ?_; simp [hN']; refine hK _ ?_; clear hK
  refine wps_cons rfl fun K hK => ?_; simp [hN']; refine hK _ ?_; clear hK
  refine wps_cons rfl fun K hK => ?_; simp [hN']; refine hK _ ?_; clear hK
  refine wps_cons rfl fun K hK => ?_; simp [hN']; refine hK _ ?_; clear hK
  refine wps_cons rfl fun K hK => ?_; simp [hN']; refine hK _ ?_; clear hK
  refine wps_nil (hK _ ?_); clear hK
  refine SWp.seq ?_
  refine SWp.seqR rfl (hPB _ rfl) fun K hK => ?_
  refine wps_cons rfl fun K hK => ?_; simp [hN']; refine hK _ ?_; clear hK
  refine wps_cons rfl fun K hK => ?_; simp [hN']; refine hK _ ?_; clear hK
  refine wps_nil (hK _ ?_); clear hK
  rcases ite_or h with ⟨hb5, h⟩ | ⟨hb6, h⟩
  · refine SWp.condT' (b := decide (r3 < 0)) (by simp) hb5 ?_
    refine SWp.seqR rfl (hPB _ rfl) fun K hK => ?_
    refine wps_cons rfl fun K hK => ?_; simp [hN']; refine hK _ ?_; clear hK
    refine wps_cons rfl fun K hK => ?_; simp [hN']; refine hK _ ?_; clear hK
    refine wps_cons rfl fun K hK => ?_; simp [hN']; refine hK _ ?_; clear hK
    refine wps_nil (hK _ ?_); clear hK
    cases h
    refine SWp.ret ?_
    simp [thenS, inBlockS, res17]
  · refine SWp.condF' (b := decide (r3 < 0)) (by simp) hb6 ?_
    refine SWp.skip ?_
    show SWp E C _ _ _
    refine SWp.seqR rfl (hPB _ rfl) fun K hK => ?_
    refine wps_cons rfl fun K hK => ?_; simp [hN']; refine hK _ ?_; clear hK
    refine wps_cons rfl fun K hK => ?_; simp [hN']; refine hK _ ?_; clear hK
    obtain ⟨⟨r7, r8⟩, hc9, h⟩ := bind_some h
    try dsimp only at h
    refine wps_call [(.take, .tmp 21), (.take, .tmp 22)] rfl rfl ent37 (spec_l27Read_ok _ _ hc9) fun K hK => ?_; simp [hN']; refine hK _ ?_; clear hK
    refine wps_cons rfl fun K hK => ?_; simp [hN']; refine hK _ ?_; clear hK
    refine wps_cons rfl fun K hK => ?_; simp [hN']; refine hK _ ?_; clear hK
    refine wps_cons rfl fun K hK => ?_; simp [hN']; refine hK _ ?_; clear hK
    refine wps_cons rfl fun K hK => ?_; simp [hN']; refine hK _ ?_; clear hK
    refine wps_cons rfl fun K hK => ?_; simp [hN']; refine hK _ ?_; clear hK
    refine wps_nil (hK _ ?_); clear hK
    refine SWp.seq ?_
    refine SWp.seqR rfl (hPB _ rfl) fun K hK => ?_
    refine wps_cons rfl fun K hK => ?_; simp [hN']; refine hK _ ?_; clear hK
    refine wps_cons rfl fun K hK => ?_; simp [hN']; refine hK _ ?_; clear hK
    refine wps_nil (hK _ ?_); clear hK
    rcases ite_or h with ⟨hb10, h⟩ | ⟨hb11, h⟩
    · refine SWp.condT' (b := decide (r8 < 0)) (by simp) hb10 ?_
      refine SWp.seqR rfl (hPB _ rfl) fun K hK => ?_
      refine wps_cons rfl fun K hK => ?_; simp [hN']; refine hK _ ?_; clear hK
      refine wps_cons rfl fun K hK => ?_; simp [hN']; refine hK _ ?_; clear hK
      refine wps_cons rfl fun K hK => ?_; simp [hN']; refine hK _ ?_; clear hK
      refine wps_nil (hK _ ?_); clear hK
      cases h
      refine SWp.ret ?_
      simp [thenS, inBlockS, res17]
    · refine SWp.condF' (b := decide (r8 < 0)) (by simp) hb11 ?_
      refine SWp.skip ?_
      show SWp E C _ _ _
      refine SWp.seqR rfl (hPB _ rfl) fun K hK => ?_
      refine wps_cons rfl fun K hK => ?_; simp [hN']; refine hK _ ?_; clear hK
      refine wps_cons rfl fun K hK => ?_; simp [hN']; refine hK _ ?_; clear hK
      obtain ⟨⟨r12, r13, r14⟩, hc15, h⟩ := bind_some h
      try dsimp only at h
      refine wps_call [(.take, .tmp 30), (.take, .tmp 31)] rfl rfl ent38 (spec_ReadVar_ok _ _ hc15) fun K hK => ?_; simp [hN']; refine hK _ ?_; clear hK
      refine wps_cons rfl fun K hK => ?_; simp [hN']; refine hK _ ?_; clear hK
      refine wps_cons rfl fun K hK => ?_; simp [hN']; refine hK _ ?_; clear hK
      refine wps_cons rfl fun K hK => ?_; simp [hN']; refine hK _ ?_; clear hK
      refine wps_cons rfl fun K hK => ?_; simp [hN']; refine hK _ ?_; clear hK
      refine wps_cons rfl fun K hK => ?_; simp [hN']; refine hK _ ?_; clear hK
      refine wps_cons rfl fun K hK => ?_; simp [hN']; refine hK _ ?_; clear hK
      refine wps_cons rfl fun K hK => ?_; simp [hN']; refine hK _ ?_; clear hK
      refine wps_nil (hK _ ?_); clear hK
      refine SWp.seqR rfl (hPB _ rfl) fun K hK => ?_
      refine wps_cons rfl fun K hK => ?_; simp [hN']; refine hK _ ?_; clear hK
      refine wps_cons rfl fun K hK => ?_; simp [hN']; refine hK _ ?_; clear hK
      refine wps_cons rfl fun K hK => ?_; simp [hN']; refine hK _ ?_; clear hK
      refine wps_cons rfl fun K hK => ?_; simp [hN']; refine hK _ ?_; clear hK
      refine wps_cons rfl fun K hK => ?_; simp [hN']; refine hK _ ?_; clear hK
      refine wps_cons rfl fun K hK => ?_; simp [hN']; refine hK _ ?_; clear hK
      refine wps_nil (hK _ ?_); clear hK
      refine SWp.seq ?_
      obtain ⟨v24, hj16, h⟩ := bind_some h
      refine SWp.seqRC rfl (hPB _ rfl) [2, 11, 53] [2, 11] (fun _ : Unit => ⟨[(2, .ref (.box 2) 0 []), (11, .ref (.box 11) 0 []), (53, .t (vb v24))], [(2, [.sl true 1 [], .sl true 1 [], vi 0]), (11, [.sl true 1 (List.map vi r2), .sl true 1 (List.map vi r7), vi r12])]⟩) (fun _ => True) (fun _ _ => ?_) fun K17 hK17 => ?_
      rotate_left
      · refine wps_cons rfl fun K hK => ?_; simp [hN']; refine hK _ ?_; clear hK
        refine wps_cons rfl fun K hK => ?_; simp [hN']; refine hK _ ?_; clear hK
        refine wps_cons rfl fun K hK => ?_; simp [hN']; refine hK _ ?_; clear hK
        rcases ite_or hj16 with ⟨hb18, hj16⟩ | ⟨hb19, hj16⟩
        · have hb18s := hb18
          try simp at hb18s
          refine wps_off fun K hK => ?_; simp [hN', hb18, hb18s]; refine hK _ ?_; clear hK
          refine wps_off fun K hK => ?_; simp [hN', hb18, hb18s]; refine hK _ ?_; clear hK
          refine wps_off fun K hK => ?_; simp [hN', hb18, hb18s]; refine hK _ ?_; clear hK
          refine wps_off fun K hK => ?_; simp [hN', hb18, hb18s]; refine hK _ ?_; clear hK
          refine wps_cons rfl fun K hK => ?_; simp [hN', hb18, hb18s]; refine hK _ ?_; clear hK
          refine wps_cons rfl fun K hK => ?_; simp [hN', hb18, hb18s]; refine hK _ ?_; clear hK
          refine wps_off fun K hK => ?_; simp [hN', hb18, hb18s]; refine hK _ ?_; clear hK
          refine wps_off fun K hK => ?_; simp [hN', hb18, hb18s]; refine hK _ ?_; clear hK
          refine wps_off fun K hK => ?_; simp [hN', hb18, hb18s]; refine hK _ ?_; clear hK
          refine wps_off fun K hK => ?_; simp [hN', hb18, hb18s]; refine hK _ ?_; clear hK
          refine wps_cons rfl fun K hK => ?_; simp [hN', hb18, hb18s]; refine hK _ ?_; clear hK
          refine wps_nil ?_
          cases hj16
          exact hK17 _ () [] trivial (by simp [hN', hb18, hb18s])
        · have hb19s := hb19
          try simp at hb19s
          refine wps_cons rfl fun K hK => ?_; simp [hN', hb19, hb19s]; refine hK _ ?_; clear hK
          refine wps_cons rfl fun K hK => ?_; simp [hN', hb19, hb19s]; refine hK _ ?_; clear hK
          refine wps_cons rfl fun K hK => ?_; simp [hN', hb19, hb19s]; refine hK _ ?_; clear hK
          refine wps_cons rfl fun K hK => ?_; simp [hN', hb19, hb19s]; refine hK _ ?_; clear hK
          refine wps_cons rfl fun K hK => ?_; simp [hN', hb19, hb19s]; refine hK _ ?_; clear hK
          refine wps_cons rfl fun K hK => ?_; simp [hN', hb19, hb19s]; refine hK _ ?_; clear hK
          rcases ite_or hj16 with ⟨hb20, hj16⟩ | ⟨hb21, hj16⟩
          · have hb20s := hb20
            try simp at hb20s
            refine wps_off fun K hK => ?_; simp [hN', hb19, hb19s, hb20, hb20s]; refine hK _ ?_; clear hK
            refine wps_off fun K hK => ?_; simp [hN', hb19, hb19s, hb20, hb20s]; refine hK _ ?_; clear hK
            refine wps_off fun K hK => ?_; simp [hN', hb19, hb19s, hb20, hb20s]; refine hK _ ?_; clear hK
            refine wps_off fun K hK => ?_; simp [hN', hb19, hb19s, hb20, hb20s]; refine hK _ ?_; clear hK
            refine wps_cons rfl fun K hK => ?_; simp [hN', hb19, hb19s, hb20, hb20s]; refine hK _ ?_; clear hK
            refine wps_nil ?_
            cases hj16
            exact hK17 _ () [] trivial (by simp [hN', hb19, hb19s, hb20, hb20s])
          · have hb21s := hb21
            try simp at hb21s
            refine wps_cons rfl fun K hK => ?_; simp [hN', hb19, hb19s, hb21, hb21s]; refine hK _ ?_; clear hK
            obtain ⟨r22, hc23, hj16⟩ := bind_some hj16
            refine wps_call [(.bor, .tmp 49)] rfl rfl ent13 (spec_CaseText_ok _ hc23) fun K hK => ?_; simp [hN', hb19, hb19s, hb21, hb21s]; refine hK _ ?_; clear hK
            refine wps_cons rfl fun K hK => ?_; simp [hN', hb19, hb19s, hb21, hb21s]; refine hK _ ?_; clear hK
            refine wps_cons rfl fun K hK => ?_; simp [hN', hb19, hb19s, hb21, hb21s]; refine hK _ ?_; clear hK
            refine wps_cons rfl fun K hK => ?_; simp [hN', hb19, hb19s, hb21, hb21s]; refine hK _ ?_; clear hK
            refine wps_nil ?_
            cases hj16
            exact hK17 _ () [] trivial (by simp [hN', hb19, hb19s, hb21, hb21s])
      rcases ite_or h with ⟨hb25, h⟩ | ⟨hb26, h⟩
      · refine SWp.condT' (b := v24) (by simp) hb25 ?_
        refine SWp.seqR rfl (hPB _ rfl) fun K hK => ?_
        refine wps_cons rfl fun K hK => ?_; simp [hN']; refine hK _ ?_; clear hK
        refine wps_cons rfl fun K hK => ?_; simp [hN']; refine hK _ ?_; clear hK
        refine wps_cons rfl fun K hK => ?_; simp [hN']; refine hK _ ?_; clear hK
        refine wps_nil (hK _ ?_); clear hK
        cases h
        refine SWp.ret ?_
        simp [thenS, inBlockS, res17]
      · refine SWp.condF' (b := v24) (by simp) hb26 ?_
        refine SWp.skip ?_
        show SWp E C _ _ _
        refine SWp.seqR rfl (hPB _ rfl) fun K hK => ?_
        refine wps_cons rfl fun K hK => ?_; simp [hN']; refine hK _ ?_; clear hK
        refine wps_cons rfl fun K hK => ?_; simp [hN']; refine hK _ ?_; clear hK
        refine wps_cons rfl fun K hK => ?_; simp [hN']; refine hK _ ?_; clear hK
        refine wps_nil (hK _ ?_); clear hK
        cases h
        refine SWp.ret ?_
        simp [thenS, inBlockS, res17]
end Go.Proofs.T
set_option linter.unusedVariables false
set_option linter.unusedSimpArgs false
set_option maxHeartbeats 1000000
namespace Go.Proofs.T
open Go.OM
theorem res51 : Try.f51.results.toList = [.tmp 6] := rfl
theorem ent51 : Enters E.P 51 := enters_of Try.func51 (by simp [Try.f51]) rfl
theorem impl_in_ok (n1 : Int) (low2 : Int) (high3 : Int) {r0 : Bool} (h : impl_in n1 low2 high3 = some r0) : Ok E 51 [.val (vi n1), .val (vi low2), .val (vi high3)] [vb r0] [] := by
  refine ok_of_body (fn := Try.f51) Try.func51 rfl (by simp [Try.f51]) fun C hN hP => ?_
  have hPB : ∀ l, pinK [] l = true → pinB C.pin l = true := pinB_of (by rw [hP]; rfl)
  have hN' : C.N = 15 := hN
  clear hN
  unfold impl_in at h
  refine SWp.seqR rfl (hPB _ rfl) fun K hK => ?_
  refine wps_cons rfl fun K hK => ?_; simp [hN']; refine hK _ ?_; clear hK
  refine wps_nil (hK _ ?_); clear hK
  obtain ⟨v8, hj4, h⟩ := bind_some h
  refine SWp.seqRC rfl (hPB _ rfl) [6] [] (fun _ : Unit => ⟨[(6, .t (vb v8))], []⟩) (fun _ => True) (fun _ _ => ?_) fun K5 hK5 => ?_
  rotate_left
  · refine wps_cons rfl fun K hK => ?_; simp [hN']; refine hK _ ?_; clear hK
    refine wps_cons rfl fun K hK => ?_; simp [hN']; refine hK _ ?_; clear hK
    refine wps_cons rfl fun K hK => ?_; simp [hN']; refine hK _ ?_; clear hK
    refine wps_cons rfl fun K hK => ?_; simp [hN']; refine hK _ ?_; clear hK
    rcases ite_or hj4 with ⟨hb6, hj4⟩ | ⟨hb7, hj4⟩
    · have hb6s := hb6
      try simp at hb6s
      refine wps_cons rfl fun K hK => ?_; simp [hN', hb6, hb6s]; refine hK _ ?_; clear hK
      refine wps_cons rfl fun K hK => ?_; simp [hN', hb6, hb6s]; refine hK _ ?_; clear hK
      refine wps_cons rfl fun K hK => ?_; simp [hN', hb6, hb6s]; refine hK _ ?_; clear hK
      refine wps_cons rfl fun K hK => ?_; simp [hN', hb6, hb6s]; refine hK _ ?_; clear hK
      refine wps_cons rfl fun K hK => ?_; simp [hN', hb6, hb6s]; refine hK _ ?_; clear hK
      refine wps_nil ?_
      cases hj4
      exact hK5 _ () [] trivial (by simp [hN', hb6, hb6s])
    · have hb7s := hb7
      try simp at hb7s
      refine wps_off fun K hK => ?_; simp [hN', hb7, hb7s]; refine hK _ ?_; clear hK
      refine wps_off fun K hK => ?_; simp [hN', hb7, hb7s]; refine hK _ ?_; clear hK
      refine wps_off fun K hK => ?_; simp [hN', hb7, hb7s]; refine hK _ ?_; clear hK
      refine wps_cons rfl fun K hK => ?_; simp [hN', hb7, hb7s]; refine hK _ ?_; clear hK
      refine wps_cons rfl fun K hK => ?_; simp [hN', hb7, hb7s]; refine hK _ ?_; clear hK
      refine wps_nil ?_
      cases hj4
      exact hK5 _ () [] trivial (by simp [hN', hb7, hb7s])
  cases h
  refine SWp.ret ?_
  simp [thenS, inBlockS, res51]
end Go.Proofs.T
set_option linter.unusedVariables false
set_option linter.unusedSimpArgs false
set_option maxHeartbeats 1000000
namespace Go.Proofs.T
open Go.OM
theorem res52 : Try.f52.results.toList = [.tmp 4, .tmp 5, .tmp 6] := rfl
theorem ent52 : Enters E.P 52 := enters_of Try.func52 (by simp [Try.f52]) rfl
theorem impl_ReadVar_ok (text1 : ByteArray) (at2 : Int) {r0 : Int} {r1 : Int} {r2 : Bool} (h : impl_ReadVar text1 at2 = some (r0, r1, r2)) : Ok E 52 [.val (vs text1), .val (vi at2)] [vi r0, vi r1, vb r2] [] := by
  refine ok_of_body (fn := Try.f52) Try.func52 rfl (by simp [Try.f52]) fun C hN hP => ?_
  have hPB : ∀ l, pinK [] l = true → pinB C.pin l = true := pinB_of (by rw [hP]; rfl)
  have hN' : C.N = 57 := hN
  clear hN
  unfold impl_ReadVar at h
  refine SWp.seqR rfl (hPB _ rfl) fun K hK => ?_
  refine wps_cons rfl fun K hK => ?_; simp [hN']; refine hK _ ?_; clear hK
  refine wps_cons rfl fun K hK => ?_; simp [hN']; refine hK _ ?_; clear hK
  refine wps_cons rfl fun K hK => ?_; simp [hN']; refine hK _ ?_; clear hK
  refine wps_nil (hK _ ?_); clear hK
  refine SWp.seq ?_
  refine SWp.seqR rfl (hPB _ rfl) fun K hK => ?_
  refine wps_cons rfl fun K hK => ?_; simp [hN']; refine hK _ ?_; clear hK
  refine wps_cons rfl fun K hK => ?_; simp [hN']; refine hK _ ?_; clear hK
  refine wps_cons rfl fun K hK => ?_; simp [hN']; refine hK _ ?_; clear hK
  obtain ⟨r3, hc4, h⟩ := bind_some h
  refine wps_call [(.take, .tmp 10), (.take, .const (.int .i64 0)), (.take, .tmp 12)] rfl rfl ent51 (impl_in_ok _ _ _ hc4) fun K hK => ?_; simp [hN']; refine hK _ ?_; clear hK
  refine wps_cons rfl fun K hK => ?_; simp [hN']; refine hK _ ?_; clear hK
  refine wps_nil (hK _ ?_); clear hK
  rcases ite_or h with ⟨hb5, h⟩ | ⟨hb6, h⟩
  · refine SWp.condT' (b := !r3) (by simp) hb5 ?_
    refine SWp.seqR rfl (hPB _ rfl) fun K hK => ?_
    refine wps_cons rfl fun K hK => ?_; simp [hN']; refine hK _ ?_; clear hK
    refine wps_cons rfl fun K hK => ?_; simp [hN']; refine hK _ ?_; clear hK
    refine wps_cons rfl fun K hK => ?_; simp [hN']; refine hK _ ?_; clear hK
    refine wps_nil (hK _ ?_); clear hK
    cases h
    refine SWp.ret ?_
    simp [thenS, inBlockS, res52]
  · refine SWp.condF' (b := !r3) (by simp) hb6 ?_
    refine SWp.skip ?_
    show SWp E C _ _ _
    refine SWp.seqR rfl (hPB _ rfl) fun K hK => ?_
    refine wps_cons rfl fun K hK => ?_; simp [hN']; refine hK _ ?_; clear hK
    refine wps_nil (hK _ ?_); clear hK
    obtain ⟨j9, hj7, h⟩ := bind_some h
    refine SWp.seqC [] [] (fun v : Unit => ⟨[], []⟩) (fun v => j9 = Sum.inl v) (fun v hv => ?_) fun K8 hK8 => ?_
    rotate_left
    · refine SWp.seqR rfl (hPB _ rfl) fun K hK => ?_
      refine wps_cons rfl fun K hK => ?_; simp [hN']; refine hK _ ?_; clear hK
      refine wps_nil (hK _ ?_); clear hK
      refine SWp.block ?_
      refine SWp.loopO [] [0, 1, 7, 8] [] (fun v : Int × Int => ⟨[(0, .t (vs text1)), (1, .t (vi at2)), (7, .t (vi v.1)), (8, .t (vi v.2))], []⟩) (impl_ReadVar_l1 text1 at2) _ (0, 0) hj7 (by simp [hN']) ?_
      intro g s14 h12 ho13
      obtain ⟨n10, k11⟩ := g
      simp only [impl_ReadVar_l1] at h12
      try dsimp only
      refine SWp.seq ?_
      obtain ⟨v19, hj15, h12⟩ := bind_some h12
      refine SWp.seqRC rfl (hPB _ rfl) [0, 1, 7, 8, 24] [] (fun _ : Unit => ⟨[(0, .t (vs text1)), (1, .t (vi at2)), (7, .t (vi n10)), (8, .t (vi k11)), (24, .t (vb v19))], []⟩) (fun _ => True) (fun _ _ => ?_) fun K16 hK16 => ?_
      rotate_left
      · refine wps_cons rfl fun K hK => ?_; simp [hN']; refine hK _ ?_; clear hK
        refine wps_cons rfl fun K hK => ?_; simp [hN']; refine hK _ ?_; clear hK
        refine wps_cons rfl fun K hK => ?_; simp [hN']; refine hK _ ?_; clear hK
        rcases ite_or hj15 with ⟨hb17, hj15⟩ | ⟨hb18, hj15⟩
        · have hb17s := hb17
          try simp at hb17s
          refine wps_cons rfl fun K hK => ?_; simp [hN', hb17, hb17s]; refine hK _ ?_; clear hK
          refine wps_cons rfl fun K hK => ?_; simp [hN', hb17, hb17s]; refine hK _ ?_; clear hK
          refine wps_cons rfl fun K hK => ?_; simp [hN', hb17, hb17s]; refine hK _ ?_; clear hK
          refine wps_cons rfl fun K hK => ?_; simp [hN', hb17, hb17s]; refine hK _ ?_; clear hK
          refine wps_cons rfl fun K hK => ?_; simp [hN', hb17, hb17s]; refine hK _ ?_; clear hK
          refine wps_cons rfl fun K hK => ?_; simp [hN', hb17, hb17s]; refine hK _ ?_; clear hK
          refine wps_cons rfl fun K hK => ?_; simp [hN', hb17, hb17s]; refine hK _ ?_; clear hK
          refine wps_nil ?_
          cases hj15
          exact hK16 _ () [] trivial (by simp [hN', hb17, hb17s])
        · have hb18s := hb18
          try simp at hb18s
          refine wps_off fun K hK => ?_; simp [hN', hb18, hb18s]; refine hK _ ?_; clear hK
          refine wps_off fun K hK => ?_; simp [hN', hb18, hb18s]; refine hK _ ?_; clear hK
          refine wps_off fun K hK => ?_; simp [hN', hb18, hb18s]; refine hK _ ?_; clear hK
          refine wps_off fun K hK => ?_; simp [hN', hb18, hb18s]; refine hK _ ?_; clear hK
          refine wps_off fun K hK => ?_; simp [hN', hb18, hb18s]; refine hK _ ?_; clear hK
          refine wps_off fun K hK => ?_; simp [hN', hb18, hb18s]; refine hK _ ?_; clear hK
          refine wps_cons rfl fun K hK => ?_; simp [hN', hb18, hb18s]; refine hK _ ?_; clear hK
          refine wps_nil ?_
          cases hj15
          exact hK16 _ () [] trivial (by simp [hN', hb18, hb18s])
      rcases ite_or h12 with ⟨hb20, h12⟩ | ⟨hb21, h12⟩
      · refine SWp.condT' (b := v19) (by simp) hb20 ?_
        refine SWp.skip ?_
        show SWp E C _ _ _
        refine SWp.seq ?_
        refine SWp.block ?_
        refine SWp.seqR rfl (hPB _ rfl) fun K hK => ?_
        refine wps_cons rfl fun K hK => ?_; simp [hN']; refine hK _ ?_; clear hK
        refine wps_cons rfl fun K hK => ?_; simp [hN']; refine hK _ ?_; clear hK
        refine wps_cons rfl fun K hK => ?_; simp [hN']; refine hK _ ?_; clear hK
        refine wps_cons rfl fun K hK => ?_; simp [hN']; refine hK _ ?_; clear hK
        obtain ⟨c22, hc22, h12⟩ := bind_some h12
        obtain ⟨hc22a, hc22b, hc22c⟩ := sAt_some hc22
        refine wps_cons rfl fun K hK => ?_; simp [hN', hc22a, hc22b, hc22c]; refine hK _ ?_; clear hK
        refine wps_cons rfl fun K hK => ?_; simp [hN', hc22a, hc22b, hc22c]; refine hK _ ?_; clear hK
        refine wps_cons rfl fun K hK => ?_; simp [hN', hc22a, hc22b, hc22c]; refine hK _ ?_; clear hK
        refine wps_nil (hK _ ?_); clear hK
        refine SWp.seqR rfl (hPB _ rfl) fun K hK => ?_
        refine wps_cons rfl fun K hK => ?_; simp [hN']; refine hK _ ?_; clear hK
        refine wps_cons rfl fun K hK => ?_; simp [hN']; refine hK _ ?_; clear hK
        refine wps_cons rfl fun K hK => ?_; simp [hN']; refine hK _ ?_; clear hK
        refine wps_cons rfl fun K hK => ?_; simp [hN']; refine hK _ ?_; clear hK
        refine wps_cons rfl fun K hK => ?_; simp [hN']; refine hK _ ?_; clear hK
        obtain ⟨n23, hn23, h12⟩ := bind_some h12
        obtain ⟨hn23a, hn23b⟩ := shlI_some hn23
        refine wps_cons rfl fun K hK => ?_; simp [hN', hn23a, hn23b]; refine hK _ ?_; clear hK
        refine wps_cons rfl fun K hK => ?_; simp [hN', hn23a, hn23b]; refine hK _ ?_; clear hK
        refine wps_cons rfl fun K hK => ?_; simp [hN', hn23a, hn23b]; refine hK _ ?_; clear hK
        refine wps_nil (hK _ ?_); clear hK
        refine SWp.seqR rfl (hPB _ rfl) fun K hK => ?_
        refine wps_cons rfl fun K hK => ?_; simp [hN']; refine hK _ ?_; clear hK
        refine wps_cons rfl fun K hK => ?_; simp [hN']; refine hK _ ?_; clear hK
        refine wps_nil (hK _ ?_); clear hK
        rcases ite_or h12 with ⟨hb24, h12⟩ | ⟨hb25, h12⟩
        · refine SWp.condT' (b := decide (IntKind.wrap .i64 c22 < 128)) (by simp) hb24 ?_
          refine SWp.seq ?_
          obtain ⟨v32, hj26, h12⟩ := bind_some h12
          refine SWp.seqRC rfl (hPB _ rfl) [1, 7, 8, 51] [] (fun _ : Unit => ⟨[(1, .t (vi at2)), (7, .t (vi (IntKind.wrap .i64 (n10 + n23)))), (8, .t (vi k11)), (51, .t (vb v32))], []⟩) (fun _ => True) (fun _ _ => ?_) fun K27 hK27 => ?_
          rotate_left
          · refine wps_cons rfl fun K hK => ?_; simp [hN']; refine hK _ ?_; clear hK
            refine wps_cons rfl fun K hK => ?_; simp [hN']; refine hK _ ?_; clear hK
            refine wps_cons rfl fun K hK => ?_; simp [hN']; refine hK _ ?_; clear hK
            rcases ite_or hj26 with ⟨hb28, hj26⟩ | ⟨hb29, hj26⟩
            · have hb28s := hb28
              try simp at hb28s
              refine wps_cons rfl fun K hK => ?_; simp [hN', hb28, hb28s]; refine hK _ ?_; clear hK
              refine wps_cons rfl fun K hK => ?_; simp [hN', hb28, hb28s]; refine hK _ ?_; clear hK
              refine wps_cons rfl fun K hK => ?_; simp [hN', hb28, hb28s]; refine hK _ ?_; clear hK
              refine wps_cons rfl fun K hK => ?_; simp [hN', hb28, hb28s]; refine hK _ ?_; clear hK
              rcases ite_or hj26 with ⟨hb30, hj26⟩ | ⟨hb31, hj26⟩
              · have hb30s := hb30
                try simp at hb30s
                refine wps_off fun K hK => ?_; simp [hN', hb28, hb28s, hb30, hb30s]; refine hK _ ?_; clear hK
                refine wps_off fun K hK => ?_; simp [hN', hb28, hb28s, hb30, hb30s]; refine hK _ ?_; clear hK
                refine wps_cons rfl fun K hK => ?_; simp [hN', hb28, hb28s, hb30, hb30s]; refine hK _ ?_; clear hK
                refine wps_nil ?_
                cases hj26
                exact hK27 _ () [] trivial (by simp [hN', hb28, hb28s, hb30, hb30s])
              · have hb31s := hb31
                try simp at hb31s
                refine wps_cons rfl fun K hK => ?_; simp [hN', hb28, hb28s, hb31, hb31s]; refine hK _ ?_; clear hK
                refine wps_cons rfl fun K hK => ?_; simp [hN', hb28, hb28s, hb31, hb31s]; refine hK _ ?_; clear hK
                refine wps_cons rfl fun K hK => ?_; simp [hN', hb28, hb28s, hb31, hb31s]; refine hK _ ?_; clear hK
                refine wps_nil ?_
                cases hj26
                exact hK27 _ () [] trivial (by simp [hN', hb28, hb28s, hb31, hb31s])
            · have hb29s := hb29
              try simp at hb29s
              refine wps_off fun K hK => ?_; simp [hN', hb29, hb29s]; refine hK _ ?_; clear hK
              refine wps_off fun K hK => ?_; simp [hN', hb29, hb29s]; refine hK _ ?_; clear hK
              refine wps_cons rfl fun K hK => ?_; simp [hN', hb29, hb29s]; refine hK _ ?_; clear hK
              refine wps_cons rfl fun K hK => ?_; simp [hN', hb29, hb29s]; refine hK _ ?_; clear hK
              refine wps_cons rfl fun K hK => ?_; simp [hN', hb29, hb29s]; refine hK _ ?_; clear hK
              refine wps_cons rfl fun K hK => ?_; simp [hN', hb29, hb29s]; refine hK _ ?_; clear hK
              refine wps_cons rfl fun K hK => ?_; simp [hN', hb29, hb29s]; refine hK _ ?_; clear hK
              refine wps_nil ?_
              cases hj26
              exact hK27 _ () [] trivial (by simp [hN', hb29, hb29s])
          rcases ite_or h12 with ⟨hb33, h12⟩ | ⟨hb34, h12⟩
          · refine SWp.condT' (b := v32) (by simp) hb33 ?_
            refine SWp.seqR rfl (hPB _ rfl) fun K hK => ?_
            refine wps_cons rfl fun K hK => ?_; simp [hN']; refine hK _ ?_; clear hK
            refine wps_cons rfl fun K hK => ?_; simp [hN']; refine hK _ ?_; clear hK
            refine wps_cons rfl fun K hK => ?_; simp [hN']; refine hK _ ?_; clear hK
            refine wps_nil (hK _ ?_); clear hK
            have h35 := congrArg some (ho13 _ (Option.some.inj h12).symm)
            cases h35
            try dsimp only at h
            cases h
            refine SWp.ret ?_
            simp [thenS, inBlockS, res52]
          · refine SWp.condF' (b := v32) (by simp) hb34 ?_
            refine SWp.skip ?_
            show SWp E C _ _ _
            refine SWp.seqR rfl (hPB _ rfl) fun K hK => ?_
            refine wps_cons rfl fun K hK => ?_; simp [hN']; refine hK _ ?_; clear hK
            refine wps_cons rfl fun K hK => ?_; simp [hN']; refine hK _ ?_; clear hK
            refine wps_cons rfl fun K hK => ?_; simp [hN']; refine hK _ ?_; clear hK
            refine wps_cons rfl fun K hK => ?_; simp [hN']; refine hK _ ?_; clear hK
            refine wps_cons rfl fun K hK => ?_; simp [hN']; refine hK _ ?_; clear hK
            refine wps_cons rfl fun K hK => ?_; simp [hN']; refine hK _ ?_; clear hK
            refine wps_cons rfl fun K hK => ?_; simp [hN']; refine hK _ ?_; clear hK
            refine wps_cons rfl fun K hK => ?_; simp [hN']; refine hK _ ?_; clear hK
            refine wps_nil (hK _ ?_); clear hK
            have h36 := congrArg some (ho13 _ (Option.some.inj h12).symm)
            cases h36
            try dsimp only at h
            cases h
            refine SWp.ret ?_
            simp [thenS, inBlockS, res52]
        · refine SWp.condF' (b := decide (IntKind.wrap .i64 c22 < 128)) (by simp) hb25 ?_
          refine SWp.skip ?_
          show SWp E C _ _ _
          refine SWp.reg rfl (hPB _ rfl) fun K hK => ?_
          refine wps_cons rfl fun K hK => ?_; simp [hN']; refine hK _ ?_; clear hK
          refine wps_cons rfl fun K hK => ?_; simp [hN']; refine hK _ ?_; clear hK
          refine wps_cons rfl fun K hK => ?_; simp [hN']; refine hK _ ?_; clear hK
          refine wps_nil (hK _ ?_); clear hK
          cases h12
          exact ⟨_, [], rfl, by simp [hN']⟩
      · refine SWp.condF' (b := v19) (by simp) hb21 ?_
        refine SWp.exit ?_
        have h37 := congrArg some (ho13 _ (Option.some.inj h12).symm)
        cases h37
        exact hK8 _ _ [] rfl (by simp [hN'])
    subst hv
    obtain ⟨⟩ := v
    try dsimp only at h ⊢
    refine SWp.seqR rfl (hPB _ rfl) fun K hK => ?_
    refine wps_cons rfl fun K hK => ?_; simp [hN']; refine hK _ ?_; clear hK
    refine wps_cons rfl fun K hK => ?_; simp [hN']; refine hK _ ?_; clear hK
    refine wps_cons rfl fun K hK => ?_; simp [hN']; refine hK _ ?_; clear hK
    refine wps_nil (hK _ ?_); clear hK
    cases h
    refine SWp.ret ?_
    simp [thenS, inBlockS, res52]
end Go.Proofs.T
set_option linter.unusedVariables false
set_option linter.unusedSimpArgs false
set_option maxHeartbeats 1000000
namespace Go.Proofs.T
open Go.OM
theorem res40 : Try.f40.results.toList = [.tmp 2] := rfl
theorem ent40 : Enters E.P 40 := enters_of Try.func40 (by simp [Try.f40]) rfl
theorem impl_fields_num_ok (f1 : Gfields) {r0 : Int} {q0 : Gfields} (h : impl_fields_num f1 = some (r0, q0)) : Ok E 40 [.ptr [vs f1.text, vi f1.at_, vb f1.bad]] [vi r0] [[vs q0.text, vi q0.at_, vb q0.bad]] := by
  refine ok_of_body (fn := Try.f40) Try.func40 rfl (by simp [Try.f40]) fun C hN hP => ?_
  have hPB : ∀ l, pinK [] l = true → pinB C.pin l = true := pinB_of (by rw [hP]; rfl)
  have hN' : C.N = 29 := hN
  clear hN
  unfold impl_fields_num at h
  refine SWp.seqR rfl (hPB _ rfl) fun K hK => ?_
  refine wps_cons rfl fun K hK => ?_; simp [hN']; refine hK _ ?_; clear hK
  refine wps_nil (hK _ ?_); clear hK
  refine SWp.seq ?_
  obtain ⟨⟨r3, r4, r5⟩, hc6, h⟩ := bind_some h
  try dsimp only at h
  refine SWp.drawA rfl (hPB _ rfl) [(7, .ref (.box 29) 0 []), (8, .ref (.box 29) 0 []), (9, .ref (.box 29) 0 []), (10, .t (vs f1.text)), (11, .ref (.box 29) 0 []), (12, .ref (.box 29) 0 []), (13, .ref (.box 29) 1 []), (14, .t (vi f1.at_)), (15, .tup [vi r3, vi r4, vb r5]), (6, .tup [vi r3, vi r4, vb r5]), (16, .t (vi r3)), (17, .t (vi r4)), (18, .t (vb r5)), (3, .t (vi r3)), (4, .t (vi r4))] [[], [0], [0, 1], [0, 1, 2], [], [4], [4, 5], [4, 5, 6], [0, 1, 2, 3, 4, 5, 6, 7], [0, 1, 2, 3, 4, 5, 6, 7, 8], [0, 1, 2, 3, 4, 5, 6, 7, 8, 9], [0, 1, 2, 3, 4, 5, 6, 7, 8, 9], [0, 1, 2, 3, 4, 5, 6, 7, 8, 9], [0, 1, 2, 3, 4, 5, 6, 7, 8, 9, 10], [0, 1, 2, 3, 4, 5, 6, 7, 8, 9, 10, 11, 13]] (by simp) (by simp) (by simp [look]) rfl rfl rfl ?_ fun K hK => ?_
  · refine ⟨?_, ?_, ?_, ?_, ?_, ?_, ?_, ?_, ?_, ?_, ?_, ?_, ?_, ?_, ?_, trivial⟩
    all_goals (intro τ hbx hb hd hf K hK; try simp [vsAt] at hd; simp [vsAt] at hf; first | (refine wps_cons rfl fun K' hK' => ?_; simp [hN', hbx, hb, hd, hf]; exact hK' _ (wps_nil (hK _ (by simp [vsAt, hbx])))) | (refine wps_call [(.take, .tmp 10), (.take, .tmp 14)] rfl rfl ent52 (impl_ReadVar_ok _ _ hc6) fun K' hK' => ?_; simp [hN', hbx, hb, hd, hf]; exact hK' _ (wps_nil (hK _ (by simp [vsAt, hbx])))))
  refine wps_cons rfl fun K hK => ?_; simp [hN']; refine hK _ ?_; clear hK
  refine wps_nil (hK _ ?_); clear hK
  show SWp E C _ _ _
  refine SWp.seq ?_
  refine SWp.seqR rfl (hPB _ rfl) fun K hK => ?_
  refine wps_cons rfl fun K hK => ?_; simp [hN']; refine hK _ ?_; clear hK
  refine wps_cons rfl fun K hK => ?_; simp [hN']; refine hK _ ?_; clear hK
  refine wps_nil (hK _ ?_); clear hK
  rcases ite_or h with ⟨hb7, h⟩ | ⟨hb8, h⟩
  · refine SWp.condT' (b := !r5) (by simp) hb7 ?_
    refine SWp.seqR rfl (hPB _ rfl) fun K hK => ?_
    refine wps_cons rfl fun K hK => ?_; simp [hN']; refine hK _ ?_; clear hK
    refine wps_cons rfl fun K hK => ?_; simp [hN']; refine hK _ ?_; clear hK
    refine wps_cons rfl fun K hK => ?_; simp [hN']; refine hK _ ?_; clear hK
    refine wps_cons rfl fun K hK => ?_; simp [hN']; refine hK _ ?_; clear hK
    refine wps_nil (hK _ ?_); clear hK
    refine SWp.seqR rfl (hPB _ rfl) fun K hK => ?_
    refine wps_cons rfl fun K hK => ?_; simp [hN']; refine hK _ ?_; clear hK
    refine wps_nil (hK _ ?_); clear hK
    cases h
    refine SWp.ret ?_
    simp [thenS, inBlockS, res40]
  · refine SWp.condF' (b := !r5) (by simp) hb8 ?_
    refine SWp.skip ?_
    show SWp E C _ _ _
    refine SWp.seqR rfl (hPB _ rfl) fun K hK => ?_
    refine wps_cons rfl fun K hK => ?_; simp [hN']; refine hK _ ?_; clear hK
    refine wps_cons rfl fun K hK => ?_; simp [hN']; refine hK _ ?_; clear hK
    refine wps_cons rfl fun K hK => ?_; simp [hN']; refine hK _ ?_; clear hK
    refine wps_cons rfl fun K hK => ?_; simp [hN']; refine hK _ ?_; clear hK
    refine wps_cons rfl fun K hK => ?_; simp [hN']; refine hK _ ?_; clear hK
    refine wps_nil (hK _ ?_); clear hK
    refine SWp.seqR rfl (hPB _ rfl) fun K hK => ?_
    refine wps_cons rfl fun K hK => ?_; simp [hN']; refine hK _ ?_; clear hK
    refine wps_cons rfl fun K hK => ?_; simp [hN']; refine hK _ ?_; clear hK
    refine wps_nil (hK _ ?_); clear hK
    cases h
    refine SWp.ret ?_
    simp [thenS, inBlockS, res40]
end Go.Proofs.T
set_option linter.unusedVariables false
set_option linter.unusedSimpArgs false
set_option maxHeartbeats 1000000
namespace Go.Proofs.T
open Go.OM
theorem res39 : Try.f39.results.toList = [.tmp 2] := rfl
theorem ent39 : Enters E.P 39 := enters_of Try.func39 (by simp [Try.f39]) rfl
theorem impl_fields_numbers_ok (f1 : Gfields) {r0 : List Int} {q0 : Gfields} (h : impl_fields_numbers f1 = some (r0, q0)) : Ok E 39 [.ptr [vs f1.text, vi f1.at_, vb f1.bad]] [.sl true 1 (List.map vi r0)] [[vs q0.text, vi q0.at_, vb q0.bad]] := by
  refine ok_of_body (fn := Try.f39) Try.func39 rfl (by simp [Try.f39]) fun C hN hP => ?_
  have hPB : ∀ l, pinK [] l = true → pinB C.pin l = true := pinB_of (by rw [hP]; rfl)
  have hN' : C.N = 33 := hN
  clear hN
  unfold impl_fields_numbers at h
  refine SWp.seqR rfl (hPB _ rfl) fun K hK => ?_
  refine wps_cons rfl fun K hK => ?_; simp [hN']; refine hK _ ?_; clear hK
  refine wps_nil (hK _ ?_); clear hK
  refine SWp.seqR rfl (hPB _ rfl) fun K hK => ?_
  refine wps_cons rfl fun K hK => ?_; simp [hN']; refine hK _ ?_; clear hK
  obtain ⟨⟨r2, q3⟩, hc4, h⟩ := bind_some h
  try dsimp only at h
  refine wps_call [((.ptr 3), .tmp 7)] rfl rfl ent40 (impl_fields_num_ok _ hc4) fun K hK => ?_; simp [hN']; refine hK _ ?_; clear hK
  refine wps_cons rfl fun K hK => ?_; simp [hN']; refine hK _ ?_; clear hK
  refine wps_nil (hK _ ?_); clear hK
  obtain ⟨v10, hj5, h⟩ := bind_some h
  refine SWp.seqC [0, 3] [33] (fun _ : Unit => ⟨[(0, .ref (.box 33) 0 []), (3, .t (vi r2))], [(33, [vs v10.text, vi v10.at_, vb v10.bad])]⟩) (fun _ => True) (fun _ _ => ?_) fun K6 hK6 => ?_
  rotate_left
  · refine SWp.seqR rfl (hPB _ rfl) fun K hK => ?_
    refine wps_cons rfl fun K hK => ?_; simp [hN']; refine hK _ ?_; clear hK
    refine wps_cons rfl fun K hK => ?_; simp [hN']; refine hK _ ?_; clear hK
    refine wps_nil (hK _ ?_); clear hK
    rcases ite_or hj5 with ⟨hb8, hj5⟩ | ⟨hb9, hj5⟩
    · refine SWp.condT' (b := decide (r2 > 100)) (by simp) hb8 ?_
      refine SWp.reg rfl (hPB _ rfl) fun K hK => ?_
      refine wps_cons rfl fun K hK => ?_; simp [hN']; refine hK _ ?_; clear hK
      refine wps_cons rfl fun K hK => ?_; simp [hN']; refine hK _ ?_; clear hK
      refine wps_cons rfl fun K hK => ?_; simp [hN']; refine hK _ ?_; clear hK
      refine wps_cons rfl fun K hK => ?_; simp [hN']; refine hK _ ?_; clear hK
      refine wps_nil (hK _ ?_); clear hK
      cases hj5
      exact hK6 _ () [] trivial (by simp [hN'])
    · refine SWp.condF' (b := decide (r2 > 100)) (by simp) hb9 ?_
      refine SWp.skip ?_
      cases hj5
      exact hK6 _ () [] trivial (by simp [hN'])
  refine SWp.seqR rfl (hPB _ rfl) fun K hK => ?_
  refine wps_cons rfl fun K hK => ?_; simp [hN']; refine hK _ ?_; clear hK
  refine wps_nil (hK _ ?_); clear hK
  obtain ⟨⟨out32, v33⟩, hj11, h⟩ := bind_some h
  try dsimp only at h
  refine SWp.seqC [0, 4] [33] (fun _ : Unit => ⟨[(0, .ref (.box 33) 0 []), (4, .t (.sl true 1 (List.map vi out32)))], [(33, [vs v33.text, vi v33.at_, vb v33.bad])]⟩) (fun _ => True) (fun _ _ => ?_) fun K12 hK12 => ?_
  rotate_left
  · refine SWp.seqR rfl (hPB _ rfl) fun K hK => ?_
    refine wps_cons rfl fun K hK => ?_; simp [hN']; refine hK _ ?_; clear hK
    refine wps_nil (hK _ ?_); clear hK
    refine SWp.block ?_
    refine SWp.loopO [] [0, 3, 4, 5] [33] (fun v : (List Int) × Int × Gfields => ⟨[(0, .ref (.box 33) 0 []), (3, .t (vi r2)), (4, .t (.sl true 1 (List.map vi v.1))), (5, .t (vi v.2.1))], [(33, [vs v.2.2.text, vi v.2.2.at_, vb v.2.2.bad])]⟩) (impl_fields_numbers_l1 r2) _ ([], 0, v10) hj11 (by simp [hN']) ?_
    intro g s19 h17 ho18
    obtain ⟨out14, k15, v16⟩ := g
    simp only [impl_fields_numbers_l1] at h17
    try dsimp only
    refine SWp.seq ?_
    obtain ⟨v24, hj20, h17⟩ := bind_some h17
    refine SWp.seqRC rfl (hPB _ rfl) [0, 3, 4, 5, 23] [33] (fun _ : Unit => ⟨[(0, .ref (.box 33) 0 []), (3, .t (vi r2)), (4, .t (.sl true 1 (List.map vi out14))), (5, .t (vi k15)), (23, .t (vb v24))], [(33, [vs v16.text, vi v16.at_, vb v16.bad])]⟩) (fun _ => True) (fun _ _ => ?_) fun K21 hK21 => ?_
    rotate_left
    · refine wps_cons rfl fun K hK => ?_; simp [hN']; refine hK _ ?_; clear hK
      refine wps_cons rfl fun K hK => ?_; simp [hN']; refine hK _ ?_; clear hK
      refine wps_cons rfl fun K hK => ?_; simp [hN']; refine hK _ ?_; clear hK
      refine wps_cons rfl fun K hK => ?_; simp [hN']; refine hK _ ?_; clear hK
      rcases ite_or hj20 with ⟨hb22, hj20⟩ | ⟨hb23, hj20⟩
      · have hb22s := hb22
        try simp at hb22s
        refine wps_cons rfl fun K hK => ?_; simp [hN', hb22, hb22s]; refine hK _ ?_; clear hK
        refine wps_cons rfl fun K hK => ?_; simp [hN', hb22, hb22s]; refine hK _ ?_; clear hK
        refine wps_cons rfl fun K hK => ?_; simp [hN', hb22, hb22s]; refine hK _ ?_; clear hK
        refine wps_cons rfl fun K hK => ?_; simp [hN', hb22, hb22s]; refine hK _ ?_; clear hK
        refine wps_cons rfl fun K hK => ?_; simp [hN', hb22, hb22s]; refine hK _ ?_; clear hK
        refine wps_cons rfl fun K hK => ?_; simp [hN', hb22, hb22s]; refine hK _ ?_; clear hK
        refine wps_nil ?_
        cases hj20
        exact hK21 _ () [] trivial (by simp [hN', hb22, hb22s])
      · have hb23s := hb23
        try simp at hb23s
        refine wps_off fun K hK => ?_; simp [hN', hb23, hb23s]; refine hK _ ?_; clear hK
        refine wps_off fun K hK => ?_; simp [hN', hb23, hb23s]; refine hK _ ?_; clear hK
        refine wps_off fun K hK => ?_; simp [hN', hb23, hb23s]; refine hK _ ?_; clear hK
        refine wps_off fun K hK => ?_; simp [hN', hb23, hb23s]; refine hK _ ?_; clear hK
        refine wps_off fun K hK => ?_; simp [hN', hb23, hb23s]; refine hK _ ?_; clear hK
        refine wps_cons rfl fun K hK => ?_; simp [hN', hb23, hb23s]; refine hK _ ?_; clear hK
        refine wps_nil ?_
        cases hj20
        exact hK21 _ () [] trivial (by simp [hN', hb23, hb23s])
    rcases ite_or h17 with ⟨hb25, h17⟩ | ⟨hb26, h17⟩
    · refine SWp.condT' (b := v24) (by simp) hb25 ?_
      refine SWp.skip ?_
      show SWp E C _ _ _
      refine SWp.seq ?_
      refine SWp.block ?_
      refine SWp.seqR rfl (hPB _ rfl) fun K hK => ?_
      refine wps_cons rfl fun K hK => ?_; simp [hN']; refine hK _ ?_; clear hK
      obtain ⟨⟨r27, q28⟩, hc29, h17⟩ := bind_some h17
      try dsimp only at h17
      refine wps_call [((.ptr 3), .tmp 26)] rfl rfl ent40 (impl_fields_num_ok _ hc29) fun K hK => ?_; simp [hN']; refine hK _ ?_; clear hK
      refine wps_cons rfl fun K hK => ?_; simp [hN']; refine hK _ ?_; clear hK
      refine wps_nil (hK _ ?_); clear hK
      refine SWp.reg rfl (hPB _ rfl) fun K hK => ?_
      refine wps_cons rfl fun K hK => ?_; simp [hN']; refine hK _ ?_; clear hK
      refine wps_cons rfl fun K hK => ?_; simp [hN']; refine hK _ ?_; clear hK
      refine wps_cons rfl fun K hK => ?_; simp [hN']; refine hK _ ?_; clear hK
      obtain ⟨l30, hl30, h17⟩ := bind_some h17
      obtain ⟨hl30a, hl30b, hl30d⟩ := appI_some hl30
      have hl30f : List.map vi out14 ++ List.map vi [r27] = List.map vi l30 := app_map (f := vi) hl30d
      simp [eSl] at hl30a hl30b hl30f
      refine wps_cons rfl fun K hK => ?_; simp [hN', hl30a, hl30b, hl30f]; refine hK _ ?_; clear hK
      refine wps_cons rfl fun K hK => ?_; simp [hN', hl30a, hl30b, hl30f]; refine hK _ ?_; clear hK
      refine wps_nil (hK _ ?_); clear hK
      show SWp E C _ _ _
      refine SWp.reg rfl (hPB _ rfl) fun K hK => ?_
      refine wps_cons rfl fun K hK => ?_; simp [hN']; refine hK _ ?_; clear hK
      refine wps_cons rfl fun K hK => ?_; simp [hN']; refine hK _ ?_; clear hK
      refine wps_cons rfl fun K hK => ?_; simp [hN']; refine hK _ ?_; clear hK
      refine wps_nil (hK _ ?_); clear hK
      cases h17
      exact ⟨_, [], rfl, by simp [hN']⟩
    · refine SWp.condF' (b := v24) (by simp) hb26 ?_
      refine SWp.exit ?_
      have h31 := congrArg some (ho18 _ (Option.some.inj h17).symm)
      cases h31
      exact hK12 _ () [] trivial (by simp [hN'])
  refine SWp.seqR rfl (hPB _ rfl) fun K hK => ?_
  refine wps_cons rfl fun K hK => ?_; simp [hN']; refine hK _ ?_; clear hK
  refine wps_cons rfl fun K hK => ?_; simp [hN']; refine hK _ ?_; clear hK
  refine wps_nil (hK _ ?_); clear hK
  cases h
  refine SWp.ret ?_
  simp [thenS, inBlockS, res39]
end Go.Proofs.T
set_option linter.unusedVariables false
set_option linter.unusedSimpArgs false
set_option maxHeartbeats 1000000
namespace Go.Proofs.T
open Go.OM
theorem res41 : Try.f41.results.toList = [.tmp 2] := rfl
theorem ent41 : Enters E.P 41 := enters_of Try.func41 (by simp [Try.f41]) rfl
theorem impl_fields_done_ok (f1 : Gfields) {r0 : Bool} {q0 : Gfields} (h : impl_fields_done f1 = some (r0, q0)) : Ok E 41 [.ptr [vs f1.text, vi f1.at_, vb f1.bad]] [vb r0] [[vs q0.text, vi q0.at_, vb q0.bad]] := by
  refine ok_of_body (fn := Try.f41) Try.func41 rfl (by simp [Try.f41]) fun C hN hP => ?_
  have hPB : ∀ l, pinK [] l = true → pinB C.pin l = true := pinB_of (by rw [hP]; rfl)
  have hN' : C.N = 20 := hN
  clear hN
  unfold impl_fields_done at h
  refine SWp.seqR rfl (hPB _ rfl) fun K hK => ?_
  refine wps_cons rfl fun K hK => ?_; simp [hN']; refine hK _ ?_; clear hK
  refine wps_nil (hK _ ?_); clear hK
  obtain ⟨v6, hj2, h⟩ := bind_some h
  refine SWp.seqC [0, 2] [20] (fun _ : Unit => ⟨[(0, .ref (.box 20) 0 []), (2, .t (vb v6))], [(20, [vs f1.text, vi f1.at_, vb f1.bad])]⟩) (fun _ => True) (fun _ _ => ?_) fun K3 hK3 => ?_
  rotate_left
  · rcases ite_or hj2 with ⟨hb4, hj2⟩ | ⟨hb5, hj2⟩
    · have hb4s := hb4
      try simp at hb4s
      refine SWp.drawA rfl (hPB _ rfl) [(3, .ref (.box 20) 0 []), (4, .ref (.box 20) 0 []), (5, .ref (.box 20) 2 []), (6, .t (vb f1.bad)), (7, .t (vb (!f1.bad))), (8, .t (vb (!f1.bad))), (9, .ref (.box 20) 0 []), (10, .ref (.box 20) 0 []), (11, .ref (.box 20) 1 []), (12, .t (vi f1.at_)), (13, .ref (.box 20) 0 []), (14, .ref (.box 20) 0 []), (15, .ref (.box 20) 0 []), (16, .t (vs f1.text)), (17, .t (vi (f1.text.size : Int))), (18, .t (vb (f1.at_ == (f1.text.size : Int)))), (19, .t (vb (f1.at_ == (f1.text.size : Int))))] [[], [0], [0, 1], [0, 1, 2], [0, 1, 2, 3], [0, 1, 2, 3, 4], [0, 1, 2, 3, 4, 5], [0, 1, 2, 3, 4, 5, 6], [0, 1, 2, 3, 4, 5, 6, 7], [0, 1, 2, 3, 4, 5, 6, 7, 8], [0, 1, 2, 3, 4, 5], [0, 1, 2, 3, 4, 5, 10], [0, 1, 2, 3, 4, 5, 10, 11], [0, 1, 2, 3, 4, 5, 10, 11, 12], [0, 1, 2, 3, 4, 5, 10, 11, 12, 13], [0, 1, 2, 3, 4, 5, 6, 7, 8, 9, 10, 11, 12, 13, 14], [0, 1, 2, 3, 4, 5, 6, 7, 8, 9, 10, 11, 12, 13, 14, 15]] (by simp) (by simp) (by simp [look]) rfl rfl rfl ?_ fun K hK => ?_
      · refine ⟨?_, ?_, ?_, ?_, ?_, ?_, ?_, ?_, ?_, ?_, ?_, ?_, ?_, ?_, ?_, ?_, ?_, trivial⟩
        all_goals (intro τ hbx hb hd hf K hK; try simp [vsAt] at hd; simp [vsAt] at hf; first | (refine wps_cons rfl fun K' hK' => ?_; simp [hN', hbx, hb, hd, hf, hb4, hb4s]; exact hK' _ (wps_nil (hK _ (by simp [vsAt, hbx, hb4, hb4s])))))
      refine wps_cons rfl fun K hK => ?_; simp [hN', hb4, hb4s]; refine hK _ ?_; clear hK
      refine wps_nil (hK _ ?_); clear hK
      cases hj2
      exact hK3 _ () [] trivial (by simp [hN', hb4, hb4s])
    · have hb5s := hb5
      try simp at hb5s
      refine SWp.drawA rfl (hPB _ rfl) [(3, .ref (.box 20) 0 []), (4, .ref (.box 20) 0 []), (5, .ref (.box 20) 2 []), (6, .t (vb f1.bad)), (7, .t (vb (!f1.bad))), (8, .t (vb (!f1.bad))), (9, .tup []), (10, .tup []), (11, .tup []), (12, .tup []), (13, .tup []), (14, .tup []), (15, .tup []), (16, .tup []), (17, .tup []), (18, .tup []), (19, .t (vb false))] [[], [0], [0, 1], [0, 1, 2], [0, 1, 2, 3], [0, 1, 2, 3, 4], [0, 1, 2, 3, 4, 5], [0, 1, 2, 3, 4, 5, 6], [0, 1, 2, 3, 4, 5, 6, 7], [0, 1, 2, 3, 4, 5, 6, 7, 8], [0, 1, 2, 3, 4, 5], [0, 1, 2, 3, 4, 5, 10], [0, 1, 2, 3, 4, 5, 10, 11], [0, 1, 2, 3, 4, 5, 10, 11, 12], [0, 1, 2, 3, 4, 5, 10, 11, 12, 13], [0, 1, 2, 3, 4, 5, 6, 7, 8, 9, 10, 11, 12, 13, 14], [0, 1, 2, 3, 4, 5, 6, 7, 8, 9, 10, 11, 12, 13, 14, 15]] (by simp) (by simp) (by simp [look]) rfl rfl rfl ?_ fun K hK => ?_
      · refine ⟨?_, ?_, ?_, ?_, ?_, ?_, ?_, ?_, ?_, ?_, ?_, ?_, ?_, ?_, ?_, ?_, ?_, trivial⟩
        all_goals (intro τ hbx hb hd hf K hK; try simp [vsAt] at hd; simp [vsAt] at hf; first | (refine wps_cons rfl fun K' hK' => ?_; simp [hN', hbx, hb, hd, hf, hb5, hb5s]; exact hK' _ (wps_nil (hK _ (by simp [vsAt, hbx, hb5, hb5s])))) | (refine wps_off fun K' hK' => ?_; simp [hN', hbx, hb, hd, hf, hb5, hb5s]; exact hK' _ (wps_nil (hK _ (by simp [vsAt, hbx, hb5, hb5s])))))
      refine wps_cons rfl fun K hK => ?_; simp [hN', hb5, hb5s]; refine hK _ ?_; clear hK
      refine wps_nil (hK _ ?_); clear hK
      cases hj2
      exact hK3 _ () [] trivial (by simp [hN', hb5, hb5s])
  cases h
  refine SWp.ret ?_
  simp [thenS, inBlockS, res41]
end Go.Proofs.T
set_option linter.unusedVariables false
set_option linter.unusedSimpArgs false
set_option maxHeartbeats 1000000
namespace Go.Proofs.T
open Go.OM
theorem res18 : Try.f18.results.toList = [.cell 2 34, .tmp 3] := rfl
theorem ent18 : Enters E.P 18 := enters_of Try.func18 (by simp [Try.f18]) rfl
theorem impl_ReadCase_ok (t1 : ByteArray) {r0 : GCase} {r1 : Bool} (h : impl_ReadCase t1 = some (r0, r1)) : Ok E 18 [.val (vs t1)] [GCase.enc true r0, vb r1] [] := by
  refine ok_of_body (fn := Try.f18) Try.func18 rfl (by simp [Try.f18]) fun C hN hP => ?_
  have hPB : ∀ l, pinK [] l = true → pinB C.pin l = true := pinB_of (by rw [hP]; rfl)
  have hN' : C.N = 23 := hN
  clear hN
  unfold impl_ReadCase at h
  refine SWp.seqR rfl (hPB _ rfl) fun K hK => ?_
  refine wps_cons rfl fun K hK => ?_; simp [hN']; refine hK _ ?_; clear hK
  refine wps_cons rfl fun K hK => ?_; simp [hN']; refine hK _ ?_; clear hK
  refine wps_nil (hK _ ?_); clear hK
  refine SWp.seqR rfl (hPB _ rfl) fun K hK => ?_
  refine wps_cons rfl fun K hK => ?_; simp [hN']; refine hK _ ?_; clear hK
  refine wps_cons rfl fun K hK => ?_; simp [hN']; refine hK _ ?_; clear hK
  refine wps_cons rfl fun K hK => ?_; simp [hN']; refine hK _ ?_; clear hK
  refine wps_cons rfl fun K hK => ?_; simp [hN']; refine hK _ ?_; clear hK
  refine wps_nil (hK _ ?_); clear hK
  refine SWp.seqR rfl (hPB _ rfl) fun K hK => ?_
  refine wps_cons rfl fun K hK => ?_; simp [hN']; refine hK _ ?_; clear hK
  refine wps_nil (hK _ ?_); clear hK
  refine SWp.seqR rfl (hPB _ rfl) fun K hK => ?_
  refine wps_cons rfl fun K hK => ?_; simp [hN']; refine hK _ ?_; clear hK
  obtain ⟨⟨r2, q3⟩, hc4, h⟩ := bind_some h
  try dsimp only at h
  refine wps_call [((.ptr 3), .tmp 9)] rfl rfl ent39 (impl_fields_numbers_ok _ hc4) fun K hK => ?_; simp [hN']; refine hK _ ?_; clear hK
  refine wps_cons rfl fun K hK => ?_; simp [hN']; refine hK _ ?_; clear hK
  refine wps_cons rfl fun K hK => ?_; simp [hN']; refine hK _ ?_; clear hK
  refine wps_nil (hK _ ?_); clear hK
  refine SWp.seqR rfl (hPB _ rfl) fun K hK => ?_
  refine wps_cons rfl fun K hK => ?_; simp [hN']; refine hK _ ?_; clear hK
  obtain ⟨⟨r5, q6⟩, hc7, h⟩ := bind_some h
  try dsimp only at h
  refine wps_call [((.ptr 3), .tmp 12)] rfl rfl ent39 (impl_fields_numbers_ok _ hc7) fun K hK => ?_; simp [hN']; refine hK _ ?_; clear hK
  refine wps_cons rfl fun K hK => ?_; simp [hN']; refine hK _ ?_; clear hK
  refine wps_cons rfl fun K hK => ?_; simp [hN']; refine hK _ ?_; clear hK
  refine wps_nil (hK _ ?_); clear hK
  refine SWp.seqR rfl (hPB _ rfl) fun K hK => ?_
  refine wps_cons rfl fun K hK => ?_; simp [hN']; refine hK _ ?_; clear hK
  obtain ⟨⟨r8, q9⟩, hc10, h⟩ := bind_some h
  try dsimp only at h
  refine wps_call [((.ptr 3), .tmp 15)] rfl rfl ent40 (impl_fields_num_ok _ hc10) fun K hK => ?_; simp [hN']; refine hK _ ?_; clear hK
  refine wps_cons rfl fun K hK => ?_; simp [hN']; refine hK _ ?_; clear hK
  refine wps_cons rfl fun K hK => ?_; simp [hN']; refine hK _ ?_; clear hK
  refine wps_nil (hK _ ?_); clear hK
  refine SWp.seq ?_
  refine SWp.seqR rfl (hPB _ rfl) fun K hK => ?_
  refine wps_cons rfl fun K hK => ?_; simp [hN']; refine hK _ ?_; clear hK
  obtain ⟨⟨r11, q12⟩, hc13, h⟩ := bind_some h
  try dsimp only at h
  refine wps_call [((.ptr 3), .tmp 18)] rfl rfl ent41 (impl_fields_done_ok _ hc13) fun K hK => ?_; simp [hN']; refine hK _ ?_; clear hK
  refine wps_cons rfl fun K hK => ?_; simp [hN']; refine hK _ ?_; clear hK
  refine wps_nil (hK _ ?_); clear hK
  rcases ite_or h with ⟨hb14, h⟩ | ⟨hb15, h⟩
  · refine SWp.condT' (b := !r11) (by simp) hb14 ?_
    refine SWp.seqR rfl (hPB _ rfl) fun K hK => ?_
    refine wps_cons rfl fun K hK => ?_; simp [hN']; refine hK _ ?_; clear hK
    refine wps_cons rfl fun K hK => ?_; simp [hN']; refine hK _ ?_; clear hK
    refine wps_cons rfl fun K hK => ?_; simp [hN']; refine hK _ ?_; clear hK
    refine wps_nil (hK _ ?_); clear hK
    cases h
    refine SWp.ret ?_
    simp [thenS, inBlockS, res18]
  · refine SWp.condF' (b := !r11) (by simp) hb15 ?_
    refine SWp.skip ?_
    show SWp E C _ _ _
    refine SWp.seqR rfl (hPB _ rfl) fun K hK => ?_
    refine wps_cons rfl fun K hK => ?_; simp [hN']; refine hK _ ?_; clear hK
    refine wps_cons rfl fun K hK => ?_; simp [hN']; refine hK _ ?_; clear hK
    refine wps_cons rfl fun K hK => ?_; simp [hN']; refine hK _ ?_; clear hK
    refine wps_nil (hK _ ?_); clear hK
    cases h
    refine SWp.ret ?_
    simp [thenS, inBlockS, res18]
end Go.Proofs.T
set_option linter.unusedVariables false
set_option linter.unusedSimpArgs false
set_option maxHeartbeats 1000000
namespace Go.Proofs.T
open Go.OM
theorem res42 : Try.f42.results.toList = [.tmp 4] := rfl
theorem ent42 : Enters E.P 42 := enters_of Try.func42 (by simp [Try.f42]) rfl
theorem laws_markIntS_ok (a1 : List Int) (k2 : Int) {r0 : Int} {q0 : List Int} (h : laws_markIntS a1 k2 = some (r0, q0)) : OkIO E 42 [.val (.sl true 1 (List.map vi a1)), .val (vi k2)] [vi r0] [] [(0, .sl true 1 (List.map vi q0))] := by
  refine okIO_of_body (fn := Try.f42) [(0, .sl true 1 (List.map vi q0))] Try.func42 rfl (by simp [Try.f42]) rfl fun C hN hP => ?_
  have hPB : ∀ l, pinK [0] l = true → pinB C.pin l = true := pinB_of (by rw [hP]; rfl)
  have hN' : C.N = 19 := hN
  clear hN
  unfold laws_markIntS at h
  refine SWp.seqR rfl (hPB _ rfl) fun K hK => ?_
  refine wps_cons rfl fun K hK => ?_; simp [hN']; refine hK _ ?_; clear hK
  refine wps_nil (hK _ ?_); clear hK
  obtain ⟨⟨a17, k18⟩, hj3, h⟩ := bind_some h
  try dsimp only at h
  refine SWp.seqC [0, 1] [] (fun _ : Unit => ⟨[(0, .t (.sl true 1 (List.map vi a17))), (1, .t (vi k18))], []⟩) (fun _ => True) (fun _ _ => ?_) fun K4 hK4 => ?_
  rotate_left
  · refine SWp.seqR rfl (hPB _ rfl) fun K hK => ?_
    refine wps_cons rfl fun K hK => ?_; simp [hN']; refine hK _ ?_; clear hK
    refine wps_nil (hK _ ?_); clear hK
    refine SWp.block ?_
    refine SWp.loopO [] [0, 1, 5] [] (fun v : (List Int) × Int × Int => ⟨[(0, .t (.sl true 1 (List.map vi v.1))), (1, .t (vi v.2.1)), (5, .t (vi v.2.2))], []⟩) (laws_markIntS_l1) _ (a1, k2, 0) hj3 (by simp [hN']) ?_
    intro g s11 h9 ho10
    obtain ⟨a6, k7, i8⟩ := g
    simp only [laws_markIntS_l1] at h9
    try dsimp only
    refine SWp.seq ?_
    refine SWp.seqR rfl (hPB _ rfl) fun K hK => ?_
    refine wps_cons rfl fun K hK => ?_; simp [hN']; refine hK _ ?_; clear hK
    refine wps_cons rfl fun K hK => ?_; simp [hN']; refine hK _ ?_; clear hK
    refine wps_cons rfl fun K hK => ?_; simp [hN']; refine hK _ ?_; clear hK
    refine wps_cons rfl fun K hK => ?_; simp [hN']; refine hK _ ?_; clear hK
    refine wps_nil (hK _ ?_); clear hK
    rcases ite_or h9 with ⟨hb12, h9⟩ | ⟨hb13, h9⟩
    · refine SWp.condT' (b := decide (i8 < (a6.length : Int))) (by simp) hb12 ?_
      refine SWp.skip ?_
      show SWp E C _ _ _
      refine SWp.seq ?_
      refine SWp.block ?_
      refine SWp.seqR rfl (hPB _ rfl) fun K hK => ?_
      refine wps_cons rfl fun K hK => ?_; simp [hN']; refine hK _ ?_; clear hK
      refine wps_cons rfl fun K hK => ?_; simp [hN']; refine hK _ ?_; clear hK
      refine wps_cons rfl fun K hK => ?_; simp [hN']; refine hK _ ?_; clear hK
      obtain ⟨e14, he14, h9⟩ := bind_some h9
      obtain ⟨he14a, he14b, he14c, he14d⟩ := getI_some he14
      refine wps_cons rfl fun K hK => ?_; simp [hN', he14a, he14b, he14c, he14d]; refine hK _ ?_; clear hK
      obtain ⟨l15, hl15, h9⟩ := bindS_some h9
      have hl15f : (List.map vi a6).set i8.toNat (vi k7) = List.map vi l15 := set_map (f := vi) hl15
      try simp only [Int.toNat_natCast] at hl15f
      refine wps_cons rfl fun K hK => ?_; simp [hN', he14a, he14b, he14c, he14d, hl15f]; refine hK _ ?_; clear hK
      refine wps_nil (hK _ ?_); clear hK
      refine SWp.reg rfl (hPB _ rfl) fun K hK => ?_
      refine wps_cons rfl fun K hK => ?_; simp [hN']; refine hK _ ?_; clear hK
      refine wps_cons rfl fun K hK => ?_; simp [hN']; refine hK _ ?_; clear hK
      refine wps_cons rfl fun K hK => ?_; simp [hN']; refine hK _ ?_; clear hK
      refine wps_nil (hK _ ?_); clear hK
      show SWp E C _ _ _
      refine SWp.reg rfl (hPB _ rfl) fun K hK => ?_
      refine wps_cons rfl fun K hK => ?_; simp [hN']; refine hK _ ?_; clear hK
      refine wps_cons rfl fun K hK => ?_; simp [hN']; refine hK _ ?_; clear hK
      refine wps_cons rfl fun K hK => ?_; simp [hN']; refine hK _ ?_; clear hK
      refine wps_nil (hK _ ?_); clear hK
      cases h9
      exact ⟨_, [], rfl, by simp [hN']⟩
    · refine SWp.condF' (b := decide (i8 < (a6.length : Int))) (by simp) hb13 ?_
      refine SWp.exit ?_
      have h16 := congrArg some (ho10 _ (Option.some.inj h9).symm)
      cases h16
      exact hK4 _ () [] trivial (by simp [hN'])
  refine SWp.seqR rfl (hPB _ rfl) fun K hK => ?_
  refine wps_cons rfl fun K hK => ?_; simp [hN']; refine hK _ ?_; clear hK
  refine wps_cons rfl fun K hK => ?_; simp [hN']; refine hK _ ?_; clear hK
  refine wps_nil (hK _ ?_); clear hK
  cases h
  refine SWp.ret ?_
  simp [thenS, inBlockS, res42]
end Go.Proofs.T
set_option linter.unusedVariables false
set_option linter.unusedSimpArgs false
set_option maxHeartbeats 1000000
namespace Go.Proofs.T
open Go.OM
theorem res19 : Try.f19.results.toList = [.tmp 4] := rfl
theorem ent19 : Enters E.P 19 := enters_of Try.func19 (by simp [Try.f19]) rfl
theorem laws_markCase_ok (a1 : GCase) (k2 : Int) {r0 : Int} {q0 : GCase} (h : laws_markCase a1 k2 = some (r0, q0)) : OkIO E 19 [.val (GCase.enc true a1), .val (vi k2)] [vi r0] [] [(0, GCase.enc true q0)] := by
  refine okIO_of_body (fn := Try.f19) [(0, GCase.enc true q0)] Try.func19 rfl (by simp [Try.f19]) rfl fun C hN hP => ?_
  have hPB : ∀ l, pinK [0] l = true → pinB C.pin l = true := pinB_of (by rw [hP]; rfl)
  obtain ⟨V, hVp⟩ := pin_one (n := 0) (by rw [hP]; rfl)
  have hN' : C.N = 14 := hN
  clear hN
  unfold laws_markCase at h
  refine SWp.seqRW rfl (hPB _ rfl) fun K hK => ?_
  refine W_box 3 rfl rfl hVp (X := GCase.enc true a1) (by simp) (by simp) fun cs hcs hl K hK => ?_
  obtain ⟨p0, p1, p2, rfl⟩ : ∃ p0 p1 p2, cs = [p0, p1, p2] := by match cs, hl with | [p0, p1, p2], _ => exact ⟨p0, p1, p2, rfl⟩
  simp [hN']; refine hK _ ?_; clear hK
  refine W_op fun KW hKW => ?_
  refine wps_cons rfl fun K hK => ?_; simp [hN']; refine hK _ ?_; clear hK
  refine wps_nil (hKW _ ?_); clear hKW
  refine W_nil (hK _ ?_); clear hK
  refine SWp.seqRW rfl (hPB _ rfl) fun K hK => ?_
  refine W_op fun KW hKW => ?_
  refine wps_cons rfl fun K hK => ?_; simp [hN']; refine hK _ ?_; clear hK
  refine wps_nil (hKW _ ?_); clear hKW
  refine W_op fun KW hKW => ?_
  refine wps_cons rfl fun K hK => ?_; simp [hN']; refine hK _ ?_; clear hK
  refine wps_nil (hKW _ ?_); clear hKW
  refine W_op fun KW hKW => ?_
  refine wps_cons rfl fun K hK => ?_; simp [hN']; refine hK _ ?_; clear hK
  refine wps_nil (hKW _ ?_); clear hKW
  obtain ⟨⟨r3, q4⟩, hc5, h⟩ := bind_some h
  try dsimp only at h
  refine W_call 0 0 none rfl rfl ent42 hVp hcs (laws_markIntS_ok _ _ hc5) fun K hK => ?_; simp [hN']; refine hK _ ?_; clear hK
  refine W_op fun KW hKW => ?_
  refine wps_cons rfl fun K hK => ?_; simp [hN']; refine hK _ ?_; clear hK
  refine wps_nil (hKW _ ?_); clear hKW
  refine W_nil (hK _ ?_); clear hK
  refine SWp.seqRW rfl (hPB _ rfl) fun K hK => ?_
  refine W_op fun KW hKW => ?_
  refine wps_cons rfl fun K hK => ?_; simp [hN']; refine hK _ ?_; clear hK
  refine wps_nil (hKW _ ?_); clear hKW
  refine W_op fun KW hKW => ?_
  refine wps_cons rfl fun K hK => ?_; simp [hN']; refine hK _ ?_; clear hK
  refine wps_nil (hKW _ ?_); clear hKW
  refine W_op fun KW hKW => ?_
  refine wps_cons rfl fun K hK => ?_; simp [hN']; refine hK _ ?_; clear hK
  refine wps_nil (hKW _ ?_); clear hKW
  obtain ⟨⟨r6, q7⟩, hc8, h⟩ := bind_some h
  try dsimp only at h
  refine W_call 0 1 none rfl rfl ent42 hVp hcs (laws_markIntS_ok _ _ hc8) fun K hK => ?_; simp [hN']; refine hK _ ?_; clear hK
  refine W_op fun KW hKW => ?_
  refine wps_cons rfl fun K hK => ?_; simp [hN']; refine hK _ ?_; clear hK
  refine wps_nil (hKW _ ?_); clear hKW
  refine W_nil (hK _ ?_); clear hK
  refine SWp.seqRW rfl (hPB _ rfl) fun K hK => ?_
  refine W_op fun KW hKW => ?_
  refine wps_cons rfl fun K hK => ?_; simp [hN']; refine hK _ ?_; clear hK
  refine wps_nil (hKW _ ?_); clear hKW
  refine W_op fun KW hKW => ?_
  refine wps_cons rfl fun K hK => ?_; simp [hN']; refine hK _ ?_; clear hK
  refine wps_nil (hKW _ ?_); clear hKW
  refine W_nil (hK _ ?_); clear hK
  cases h
  refine SWp.ret ?_
  simp [thenS, inBlockS, res19]
end Go.Proofs.T
set_option linter.unusedVariables false
set_option linter.unusedSimpArgs false
set_option maxHeartbeats 1000000
namespace Go.Proofs.T
open Go.OM
theorem res43 : Try.f43.results.toList = [.tmp 4] := rfl
theorem ent43 : Enters E.P 43 := enters_of Try.func43 (by simp [Try.f43]) rfl
theorem laws_heldIntS_ok (a1 : List Int) (k2 : Int) {r0 : Int} (h : laws_heldIntS a1 k2 = some r0) : Ok E 43 [.val (.sl false 1 (List.map vi a1)), .val (vi k2)] [vi r0] [] := by
  refine ok_of_body (fn := Try.f43) Try.func43 rfl (by simp [Try.f43]) fun C hN hP => ?_
  have hPB : ∀ l, pinK [] l = true → pinB C.pin l = true := pinB_of (by rw [hP]; rfl)
  have hN' : C.N = 21 := hN
  clear hN
  unfold laws_heldIntS at h
  refine SWp.seqR rfl (hPB _ rfl) fun K hK => ?_
  refine wps_cons rfl fun K hK => ?_; simp [hN']; refine hK _ ?_; clear hK
  refine wps_nil (hK _ ?_); clear hK
  obtain ⟨j5, hj3, h⟩ := bind_some h
  refine SWp.seqC [1] [] (fun v : Int => ⟨[(1, .t (vi v))], []⟩) (fun v => j5 = Sum.inl v) (fun v hv => ?_) fun K4 hK4 => ?_
  rotate_left
  · refine SWp.seqR rfl (hPB _ rfl) fun K hK => ?_
    refine wps_cons rfl fun K hK => ?_; simp [hN']; refine hK _ ?_; clear hK
    refine wps_nil (hK _ ?_); clear hK
    refine SWp.block ?_
    refine SWp.loopO [] [0, 1, 5] [] (fun v : Int × Int => ⟨[(0, .t (.sl false 1 (List.map vi a1))), (1, .t (vi v.1)), (5, .t (vi v.2))], []⟩) (laws_heldIntS_l1 a1) _ (k2, 0) hj3 (by simp [hN']) ?_
    intro g s10 h8 ho9
    obtain ⟨k6, i7⟩ := g
    simp only [laws_heldIntS_l1] at h8
    try dsimp only
    refine SWp.seq ?_
    refine SWp.seqR rfl (hPB _ rfl) fun K hK => ?_
    refine wps_cons rfl fun K hK => ?_; simp [hN']; refine hK _ ?_; clear hK
    refine wps_cons rfl fun K hK => ?_; simp [hN']; refine hK _ ?_; clear hK
    refine wps_cons rfl fun K hK => ?_; simp [hN']; refine hK _ ?_; clear hK
    refine wps_cons rfl fun K hK => ?_; simp [hN']; refine hK _ ?_; clear hK
    refine wps_nil (hK _ ?_); clear hK
    rcases ite_or h8 with ⟨hb11, h8⟩ | ⟨hb12, h8⟩
    · refine SWp.condT' (b := decide (i7 < (a1.length : Int))) (by simp) hb11 ?_
      refine SWp.skip ?_
      show SWp E C _ _ _
      refine SWp.seq ?_
      refine SWp.block ?_
      refine SWp.seq ?_
      refine SWp.seqR rfl (hPB _ rfl) fun K hK => ?_
      refine wps_cons rfl fun K hK => ?_; simp [hN']; refine hK _ ?_; clear hK
      refine wps_cons rfl fun K hK => ?_; simp [hN']; refine hK _ ?_; clear hK
      obtain ⟨e13, he13, h8⟩ := bind_some h8
      obtain ⟨he13a, he13b, he13c, he13d⟩ := getI_some he13
      refine wps_cons rfl fun K hK => ?_; simp [hN', he13a, he13b, he13c, he13d]; refine hK _ ?_; clear hK
      refine wps_cons rfl fun K hK => ?_; simp [hN', he13a, he13b, he13c, he13d]; refine hK _ ?_; clear hK
      refine wps_cons rfl fun K hK => ?_; simp [hN', he13a, he13b, he13c, he13d]; refine hK _ ?_; clear hK
      refine wps_cons rfl fun K hK => ?_; simp [hN', he13a, he13b, he13c, he13d]; refine hK _ ?_; clear hK
      refine wps_nil (hK _ ?_); clear hK
      rcases ite_or h8 with ⟨hb14, h8⟩ | ⟨hb15, h8⟩
      · refine SWp.condT' (b := e13 != k6) (by simp) hb14 ?_
        refine SWp.seqR rfl (hPB _ rfl) fun K hK => ?_
        refine wps_cons rfl fun K hK => ?_; simp [hN']; refine hK _ ?_; clear hK
        refine wps_nil (hK _ ?_); clear hK
        have h16 := congrArg some (ho9 _ (Option.some.inj h8).symm)
        cases h16
        try dsimp only at h
        cases h
        refine SWp.ret ?_
        simp [thenS, inBlockS, res43]
      · refine SWp.condF' (b := e13 != k6) (by simp) hb15 ?_
        refine SWp.skip ?_
        show SWp E C _ _ _
        refine SWp.reg rfl (hPB _ rfl) fun K hK => ?_
        refine wps_cons rfl fun K hK => ?_; simp [hN']; refine hK _ ?_; clear hK
        refine wps_cons rfl fun K hK => ?_; simp [hN']; refine hK _ ?_; clear hK
        refine wps_cons rfl fun K hK => ?_; simp [hN']; refine hK _ ?_; clear hK
        refine wps_nil (hK _ ?_); clear hK
        show SWp E C _ _ _
        refine SWp.reg rfl (hPB _ rfl) fun K hK => ?_
        refine wps_cons rfl fun K hK => ?_; simp [hN']; refine hK _ ?_; clear hK
        refine wps_cons rfl fun K hK => ?_; simp [hN']; refine hK _ ?_; clear hK
        refine wps_cons rfl fun K hK => ?_; simp [hN']; refine hK _ ?_; clear hK
        refine wps_nil (hK _ ?_); clear hK
        cases h8
        exact ⟨_, [], rfl, by simp [hN']⟩
    · refine SWp.condF' (b := decide (i7 < (a1.length : Int))) (by simp) hb12 ?_
      refine SWp.exit ?_
      have h17 := congrArg some (ho9 _ (Option.some.inj h8).symm)
      cases h17
      exact hK4 _ _ [] rfl (by simp [hN'])
  subst hv
  obtain ⟨k18, hv⟩ : ∃ y, y = v := ⟨_, rfl⟩
  subst hv
  try dsimp only at h ⊢
  refine SWp.seqR rfl (hPB _ rfl) fun K hK => ?_
  refine wps_cons rfl fun K hK => ?_; simp [hN']; refine hK _ ?_; clear hK
  refine wps_cons rfl fun K hK => ?_; simp [hN']; refine hK _ ?_; clear hK
  refine wps_nil (hK _ ?_); clear hK
  cases h
  refine SWp.ret ?_
  simp [thenS, inBlockS, res43]
end Go.Proofs.T
set_option linter.unusedVariables false
set_option linter.unusedSimpArgs false
set_option maxHeartbeats 1000000
namespace Go.Proofs.T
open Go.OM
theorem res20 : Try.f20.results.toList = [.tmp 4] := rfl
theorem ent20 : Enters E.P 20 := enters_of Try.func20 (by simp [Try.f20]) rfl
theorem laws_heldCase_ok (a1 : GCase) (k2 : Int) {r0 : Int} (h : laws_heldCase a1 k2 = some r0) : Ok E 20 [.val (GCase.enc false a1), .val (vi k2)] [vi r0] [] := by
  refine ok_of_body (fn := Try.f20) Try.func20 rfl (by simp [Try.f20]) fun C hN hP => ?_
  have hPB : ∀ l, pinK [] l = true → pinB C.pin l = true := pinB_of (by rw [hP]; rfl)
  have hN' : C.N = 18 := hN
  clear hN
  unfold laws_heldCase at h
  refine SWp.seqR rfl (hPB _ rfl) fun K hK => ?_
  refine wps_cons rfl fun K hK => ?_; simp [hN']; refine hK _ ?_; clear hK
  refine wps_cons rfl fun K hK => ?_; simp [hN']; refine hK _ ?_; clear hK
  refine wps_nil (hK _ ?_); clear hK
  refine SWp.seqR rfl (hPB _ rfl) fun K hK => ?_
  refine wps_cons rfl fun K hK => ?_; simp [hN']; refine hK _ ?_; clear hK
  refine wps_cons rfl fun K hK => ?_; simp [hN']; refine hK _ ?_; clear hK
  refine wps_cons rfl fun K hK => ?_; simp [hN']; refine hK _ ?_; clear hK
  obtain ⟨r3, hc4, h⟩ := bind_some h
  refine wps_call [(.take, .tmp 6), (.take, .tmp 7)] rfl rfl ent43 (laws_heldIntS_ok _ _ hc4) fun K hK => ?_; simp [hN']; refine hK _ ?_; clear hK
  refine wps_cons rfl fun K hK => ?_; simp [hN']; refine hK _ ?_; clear hK
  refine wps_nil (hK _ ?_); clear hK
  refine SWp.seq ?_
  refine SWp.seqR rfl (hPB _ rfl) fun K hK => ?_
  refine wps_cons rfl fun K hK => ?_; simp [hN']; refine hK _ ?_; clear hK
  refine wps_cons rfl fun K hK => ?_; simp [hN']; refine hK _ ?_; clear hK
  refine wps_nil (hK _ ?_); clear hK
  rcases ite_or h with ⟨hb5, h⟩ | ⟨hb6, h⟩
  · refine SWp.condT' (b := decide (r3 < 0)) (by simp) hb5 ?_
    refine SWp.seqR rfl (hPB _ rfl) fun K hK => ?_
    refine wps_cons rfl fun K hK => ?_; simp [hN']; refine hK _ ?_; clear hK
    refine wps_nil (hK _ ?_); clear hK
    cases h
    refine SWp.ret ?_
    simp [thenS, inBlockS, res20]
  · refine SWp.condF' (b := decide (r3 < 0)) (by simp) hb6 ?_
    refine SWp.skip ?_
    show SWp E C _ _ _
    refine SWp.seqR rfl (hPB _ rfl) fun K hK => ?_
    refine wps_cons rfl fun K hK => ?_; simp [hN']; refine hK _ ?_; clear hK
    refine wps_cons rfl fun K hK => ?_; simp [hN']; refine hK _ ?_; clear hK
    refine wps_cons rfl fun K hK => ?_; simp [hN']; refine hK _ ?_; clear hK
    obtain ⟨r7, hc8, h⟩ := bind_some h
    refine wps_call [(.take, .tmp 12), (.take, .tmp 13)] rfl rfl ent43 (laws_heldIntS_ok _ _ hc8) fun K hK => ?_; simp [hN']; refine hK _ ?_; clear hK
    refine wps_cons rfl fun K hK => ?_; simp [hN']; refine hK _ ?_; clear hK
    refine wps_nil (hK _ ?_); clear hK
    refine SWp.seq ?_
    refine SWp.seqR rfl (hPB _ rfl) fun K hK => ?_
    refine wps_cons rfl fun K hK => ?_; simp [hN']; refine hK _ ?_; clear hK
    refine wps_cons rfl fun K hK => ?_; simp [hN']; refine hK _ ?_; clear hK
    refine wps_nil (hK _ ?_); clear hK
    rcases ite_or h with ⟨hb9, h⟩ | ⟨hb10, h⟩
    · refine SWp.condT' (b := decide (r7 < 0)) (by simp) hb9 ?_
      refine SWp.seqR rfl (hPB _ rfl) fun K hK => ?_
      refine wps_cons rfl fun K hK => ?_; simp [hN']; refine hK _ ?_; clear hK
      refine wps_nil (hK _ ?_); clear hK
      cases h
      refine SWp.ret ?_
      simp [thenS, inBlockS, res20]
    · refine SWp.condF' (b := decide (r7 < 0)) (by simp) hb10 ?_
      refine SWp.skip ?_
      show SWp E C _ _ _
      refine SWp.seqR rfl (hPB _ rfl) fun K hK => ?_
      refine wps_cons rfl fun K hK => ?_; simp [hN']; refine hK _ ?_; clear hK
      refine wps_cons rfl fun K hK => ?_; simp [hN']; refine hK _ ?_; clear hK
      refine wps_nil (hK _ ?_); clear hK
      cases h
      refine SWp.ret ?_
      simp [thenS, inBlockS, res20]
end Go.Proofs.T
set_option linter.unusedVariables false
set_option linter.unusedSimpArgs false
set_option maxHeartbeats 1000000
namespace Go.Proofs.T
open Go.OM
theorem res5 : Try.f5.results.toList = [.tmp 2] := rfl
theorem ent5 : Enters E.P 5 := enters_of Try.func5 (by simp [Try.f5]) rfl
theorem laws_FnExactReadCase_ok (aT1 : ByteArray) {r0 : Bool} (h : laws_FnExactReadCase aT1 = some r0) : Ok E 5 [.val (vs aT1)] [vb r0] [] := by
  refine ok_of_body (fn := Try.f5) Try.func5 rfl (by simp [Try.f5]) fun C hN hP => ?_
  have hPB : ∀ l, pinK [] l = true → pinB C.pin l = true := pinB_of (by rw [hP]; rfl)
  have hN' : C.N = 66 := hN
  clear hN
  unfold laws_FnExactReadCase at h
  refine SWp.seqR rfl (hPB _ rfl) fun K hK => ?_
  refine wps_cons rfl fun K hK => ?_; simp [hN']; refine hK _ ?_; clear hK
  refine wps_nil (hK _ ?_); clear hK
  refine SWp.seq ?_
  refine SWp.seqR rfl (hPB _ rfl) fun K hK => ?_
  refine wps_cons rfl fun K hK => ?_; simp [hN']; refine hK _ ?_; clear hK
  refine wps_cons rfl fun K hK => ?_; simp [hN']; refine hK _ ?_; clear hK
  refine wps_cons rfl fun K hK => ?_; simp [hN']; refine hK _ ?_; clear hK
  refine wps_nil (hK _ ?_); clear hK
  rcases ite_or h with ⟨hb2, h⟩ | ⟨hb3, h⟩
  · refine SWp.condT' (b := decide ((aT1.size : Int) > 1048576)) (by simp) hb2 ?_
    refine SWp.seqR rfl (hPB _ rfl) fun K hK => ?_
    refine wps_cons rfl fun K hK => ?_; simp [hN']; refine hK _ ?_; clear hK
    refine wps_nil (hK _ ?_); clear hK
    cases h
    refine SWp.ret ?_
    simp [thenS, inBlockS, res5]
  · refine SWp.condF' (b := decide ((aT1.size : Int) > 1048576)) (by simp) hb3 ?_
    refine SWp.skip ?_
    show SWp E C _ _ _
    refine SWp.seqR rfl (hPB _ rfl) fun K hK => ?_
    refine wps_cons rfl fun K hK => ?_; simp [hN']; refine hK _ ?_; clear hK
    obtain ⟨⟨r4, r5⟩, hc6, h⟩ := bind_some h
    try dsimp only at h
    refine wps_call [(.take, .tmp 15)] rfl rfl ent17 (spec_ReadCase_ok _ hc6) fun K hK => ?_; simp [hN']; refine hK _ ?_; clear hK
    refine wps_cons rfl fun K hK => ?_; simp [hN']; refine hK _ ?_; clear hK
    refine wps_cons rfl fun K hK => ?_; simp [hN']; refine hK _ ?_; clear hK
    refine wps_cons rfl fun K hK => ?_; simp [hN']; refine hK _ ?_; clear hK
    refine wps_cons rfl fun K hK => ?_; simp [hN']; refine hK _ ?_; clear hK
    refine wps_cons rfl fun K hK => ?_; simp [hN']; refine hK _ ?_; clear hK
    refine wps_cons rfl fun K hK => ?_; simp [hN']; refine hK _ ?_; clear hK
    refine wps_nil (hK _ ?_); clear hK
    refine SWp.seqR rfl (hPB _ rfl) fun K hK => ?_
    refine wps_cons rfl fun K hK => ?_; simp [hN']; refine hK _ ?_; clear hK
    obtain ⟨⟨r7, r8⟩, hc9, h⟩ := bind_some h
    try dsimp only at h
    refine wps_call [(.take, .tmp 20)] rfl rfl ent18 (impl_ReadCase_ok _ hc9) fun K hK => ?_; simp [hN']; refine hK _ ?_; clear hK
    refine wps_cons rfl fun K hK => ?_; simp [hN']; refine hK _ ?_; clear hK
    refine wps_cons rfl fun K hK => ?_; simp [hN']; refine hK _ ?_; clear hK
    refine wps_cons rfl fun K hK => ?_; simp [hN']; refine hK _ ?_; clear hK
    refine wps_cons rfl fun K hK => ?_; simp [hN']; refine hK _ ?_; clear hK
    refine wps_cons rfl fun K hK => ?_; simp [hN']; refine hK _ ?_; clear hK
    refine wps_cons rfl fun K hK => ?_; simp [hN']; refine hK _ ?_; clear hK
    refine wps_nil (hK _ ?_); clear hK
    refine SWp.seq ?_
    obtain ⟨v16, hj10, h⟩ := bind_some h
    refine SWp.seqRC rfl (hPB _ rfl) [0, 3, 4, 5, 32] [3, 5] (fun _ : Unit => ⟨[(0, .t (vs aT1)), (3, .ref (.box 3) 0 []), (4, .t (vb r5)), (5, .ref (.box 5) 0 []), (32, .t (vb v16))], [(3, [.sl true 1 (List.map vi r4.Input), .sl true 1 (List.map vi r4.Want), vi r4.End]), (5, [.sl true 1 (List.map vi r7.Input), .sl true 1 (List.map vi r7.Want), vi r7.End])]⟩) (fun _ => True) (fun _ _ => ?_) fun K11 hK11 => ?_
    rotate_left
    · refine wps_cons rfl fun K hK => ?_; simp [hN']; refine hK _ ?_; clear hK
      refine wps_cons rfl fun K hK => ?_; simp [hN']; refine hK _ ?_; clear hK
      obtain ⟨r12, hc13, hj10⟩ := bind_some hj10
      refine wps_call [(.bor, .tmp 24), (.bor, .tmp 25)] rfl rfl ent16 (laws_eqCase_ok _ _ hc13) fun K hK => ?_; simp [hN']; refine hK _ ?_; clear hK
      refine wps_cons rfl fun K hK => ?_; simp [hN']; refine hK _ ?_; clear hK
      refine wps_cons rfl fun K hK => ?_; simp [hN']; refine hK _ ?_; clear hK
      rcases ite_or hj10 with ⟨hb14, hj10⟩ | ⟨hb15, hj10⟩
      · have hb14s := hb14
        try simp at hb14s
        refine wps_off fun K hK => ?_; simp [hN', hb14, hb14s]; refine hK _ ?_; clear hK
        refine wps_off fun K hK => ?_; simp [hN', hb14, hb14s]; refine hK _ ?_; clear hK
        refine wps_off fun K hK => ?_; simp [hN', hb14, hb14s]; refine hK _ ?_; clear hK
        refine wps_cons rfl fun K hK => ?_; simp [hN', hb14, hb14s]; refine hK _ ?_; clear hK
        refine wps_nil ?_
        cases hj10
        exact hK11 _ () [] trivial (by simp [hN', hb14, hb14s])
      · have hb15s := hb15
        try simp at hb15s
        refine wps_cons rfl fun K hK => ?_; simp [hN', hb15, hb15s]; refine hK _ ?_; clear hK
        refine wps_cons rfl fun K hK => ?_; simp [hN', hb15, hb15s]; refine hK _ ?_; clear hK
        refine wps_cons rfl fun K hK => ?_; simp [hN', hb15, hb15s]; refine hK _ ?_; clear hK
        refine wps_cons rfl fun K hK => ?_; simp [hN', hb15, hb15s]; refine hK _ ?_; clear hK
        refine wps_nil ?_
        cases hj10
        exact hK11 _ () [] trivial (by simp [hN', hb15, hb15s])
    rcases ite_or h with ⟨hb17, h⟩ | ⟨hb18, h⟩
    · refine SWp.condT' (b := v16) (by simp) hb17 ?_
      refine SWp.seqR rfl (hPB _ rfl) fun K hK => ?_
      refine wps_cons rfl fun K hK => ?_; simp [hN']; refine hK _ ?_; clear hK
      refine wps_nil (hK _ ?_); clear hK
      cases h
      refine SWp.ret ?_
      simp [thenS, inBlockS, res5]
    · refine SWp.condF' (b := v16) (by simp) hb18 ?_
      refine SWp.skip ?_
      show SWp E C _ _ _
      refine SWp.seqR rfl (hPB _ rfl) fun K hK => ?_
      refine wps_cons rfl fun K hK => ?_; simp [hN']; refine hK _ ?_; clear hK
      refine wps_nil (hK _ ?_); clear hK
      refine SWp.seqR rfl (hPB _ rfl) fun K hK => ?_
      refine wps_cons rfl fun K hK => ?_; simp [hN']; refine hK _ ?_; clear hK
      refine wps_cons rfl fun K hK => ?_; simp [hN']; refine hK _ ?_; clear hK
      obtain ⟨⟨r19, q20⟩, hc21, h⟩ := bind_some h
      try dsimp only at h
      refine wps_callIO rfl ent19 (laws_markCase_ok _ _ hc21) fun K hK => ?_; simp [hN']; refine hK _ ?_; clear hK
      refine wps_cons rfl fun K hK => ?_; simp [hN']; refine hK _ ?_; clear hK
      refine wps_nil (hK _ ?_); clear hK
      refine SWp.seqR rfl (hPB _ rfl) fun K hK => ?_
      refine wps_cons rfl fun K hK => ?_; simp [hN']; refine hK _ ?_; clear hK
      refine wps_nil (hK _ ?_); clear hK
      refine SWp.seqR rfl (hPB _ rfl) fun K hK => ?_
      refine wps_cons rfl fun K hK => ?_; simp [hN']; refine hK _ ?_; clear hK
      refine wps_cons rfl fun K hK => ?_; simp [hN']; refine hK _ ?_; clear hK
      obtain ⟨r22, hc23, h⟩ := bind_some h
      refine wps_call [(.bor, .tmp 36), (.take, .tmp 37)] rfl rfl ent20 (laws_heldCase_ok _ _ hc23) fun K hK => ?_; simp [hN']; refine hK _ ?_; clear hK
      refine wps_cons rfl fun K hK => ?_; simp [hN']; refine hK _ ?_; clear hK
      refine wps_nil (hK _ ?_); clear hK
      refine SWp.seq ?_
      refine SWp.seqR rfl (hPB _ rfl) fun K hK => ?_
      refine wps_cons rfl fun K hK => ?_; simp [hN']; refine hK _ ?_; clear hK
      refine wps_cons rfl fun K hK => ?_; simp [hN']; refine hK _ ?_; clear hK
      refine wps_nil (hK _ ?_); clear hK
      rcases ite_or h with ⟨hb24, h⟩ | ⟨hb25, h⟩
      · refine SWp.condT' (b := decide (r22 < 0)) (by simp) hb24 ?_
        refine SWp.seqR rfl (hPB _ rfl) fun K hK => ?_
        refine wps_cons rfl fun K hK => ?_; simp [hN']; refine hK _ ?_; clear hK
        refine wps_nil (hK _ ?_); clear hK
        cases h
        refine SWp.ret ?_
        simp [thenS, inBlockS, res5]
      · refine SWp.condF' (b := decide (r22 < 0)) (by simp) hb25 ?_
        refine SWp.skip ?_
        show SWp E C _ _ _
        refine SWp.seq ?_
        refine SWp.seqR rfl (hPB _ rfl) fun K hK => ?_
        refine wps_cons rfl fun K hK => ?_; simp [hN']; refine hK _ ?_; clear hK
        refine wps_cons rfl fun K hK => ?_; simp [hN']; refine hK _ ?_; clear hK
        refine wps_cons rfl fun K hK => ?_; simp [hN']; refine hK _ ?_; clear hK
        refine wps_nil (hK _ ?_); clear hK
        rcases ite_or h with ⟨hb26, h⟩ | ⟨hb27, h⟩
        · refine SWp.condT' (b := r22 != r19) (by simp) hb26 ?_
          refine SWp.seqR rfl (hPB _ rfl) fun K hK => ?_
          refine wps_cons rfl fun K hK => ?_; simp [hN']; refine hK _ ?_; clear hK
          refine wps_nil (hK _ ?_); clear hK
          cases h
          refine SWp.ret ?_
          simp [thenS, inBlockS, res5]
        · refine SWp.condF' (b := r22 != r19) (by simp) hb27 ?_
          refine SWp.skip ?_
          show SWp E C _ _ _
          refine SWp.seqR rfl (hPB _ rfl) fun K hK => ?_
          refine wps_cons rfl fun K hK => ?_; simp [hN']; refine hK _ ?_; clear hK
          obtain ⟨⟨r28, r29⟩, hc30, h⟩ := bind_some h
          try dsimp only at h
          refine wps_call [(.take, .tmp 45)] rfl rfl ent18 (impl_ReadCase_ok _ hc30) fun K hK => ?_; simp [hN']; refine hK _ ?_; clear hK
          refine wps_cons rfl fun K hK => ?_; simp [hN']; refine hK _ ?_; clear hK
          refine wps_cons rfl fun K hK => ?_; simp [hN']; refine hK _ ?_; clear hK
          refine wps_cons rfl fun K hK => ?_; simp [hN']; refine hK _ ?_; clear hK
          refine wps_cons rfl fun K hK => ?_; simp [hN']; refine hK _ ?_; clear hK
          refine wps_cons rfl fun K hK => ?_; simp [hN']; refine hK _ ?_; clear hK
          refine wps_cons rfl fun K hK => ?_; simp [hN']; refine hK _ ?_; clear hK
          refine wps_nil (hK _ ?_); clear hK
          refine SWp.seq ?_
          obtain ⟨v37, hj31, h⟩ := bind_some h
          refine SWp.seqRC rfl (hPB _ rfl) [5, 7, 57] [5] (fun _ : Unit => ⟨[(5, .ref (.box 5) 0 []), (7, .t (vi r19)), (57, .t (vb v37))], [(5, [.sl true 1 (List.map vi q20.Input), .sl true 1 (List.map vi q20.Want), vi q20.End])]⟩) (fun _ => True) (fun _ _ => ?_) fun K32 hK32 => ?_
          rotate_left
          · refine wps_cons rfl fun K hK => ?_; simp [hN']; refine hK _ ?_; clear hK
            refine wps_cons rfl fun K hK => ?_; simp [hN']; refine hK _ ?_; clear hK
            obtain ⟨r33, hc34, hj31⟩ := bind_some hj31
            refine wps_call [(.bor, .tmp 49), (.bor, .tmp 50)] rfl rfl ent16 (laws_eqCase_ok _ _ hc34) fun K hK => ?_; simp [hN']; refine hK _ ?_; clear hK
            refine wps_cons rfl fun K hK => ?_; simp [hN']; refine hK _ ?_; clear hK
            refine wps_cons rfl fun K hK => ?_; simp [hN']; refine hK _ ?_; clear hK
            rcases ite_or hj31 with ⟨hb35, hj31⟩ | ⟨hb36, hj31⟩
            · have hb35s := hb35
              try simp at hb35s
              refine wps_off fun K hK => ?_; simp [hN', hb35, hb35s]; refine hK _ ?_; clear hK
              refine wps_off fun K hK => ?_; simp [hN', hb35, hb35s]; refine hK _ ?_; clear hK
              refine wps_off fun K hK => ?_; simp [hN', hb35, hb35s]; refine hK _ ?_; clear hK
              refine wps_cons rfl fun K hK => ?_; simp [hN', hb35, hb35s]; refine hK _ ?_; clear hK
              refine wps_nil ?_
              cases hj31
              exact hK32 _ () [] trivial (by simp [hN', hb35, hb35s])
            · have hb36s := hb36
              try simp at hb36s
              refine wps_cons rfl fun K hK => ?_; simp [hN', hb36, hb36s]; refine hK _ ?_; clear hK
              refine wps_cons rfl fun K hK => ?_; simp [hN', hb36, hb36s]; refine hK _ ?_; clear hK
              refine wps_cons rfl fun K hK => ?_; simp [hN', hb36, hb36s]; refine hK _ ?_; clear hK
              refine wps_cons rfl fun K hK => ?_; simp [hN', hb36, hb36s]; refine hK _ ?_; clear hK
              refine wps_nil ?_
              cases hj31
              exact hK32 _ () [] trivial (by simp [hN', hb36, hb36s])
          rcases ite_or h with ⟨hb38, h⟩ | ⟨hb39, h⟩
          · refine SWp.condT' (b := v37) (by simp) hb38 ?_
            refine SWp.seqR rfl (hPB _ rfl) fun K hK => ?_
            refine wps_cons rfl fun K hK => ?_; simp [hN']; refine hK _ ?_; clear hK
            refine wps_nil (hK _ ?_); clear hK
            cases h
            refine SWp.ret ?_
            simp [thenS, inBlockS, res5]
          · refine SWp.condF' (b := v37) (by simp) hb39 ?_
            refine SWp.skip ?_
            show SWp E C _ _ _
            refine SWp.seqR rfl (hPB _ rfl) fun K hK => ?_
            refine wps_cons rfl fun K hK => ?_; simp [hN']; refine hK _ ?_; clear hK
            refine wps_nil (hK _ ?_); clear hK
            refine SWp.seqR rfl (hPB _ rfl) fun K hK => ?_
            refine wps_cons rfl fun K hK => ?_; simp [hN']; refine hK _ ?_; clear hK
            refine wps_cons rfl fun K hK => ?_; simp [hN']; refine hK _ ?_; clear hK
            obtain ⟨r40, hc41, h⟩ := bind_some h
            refine wps_call [(.bor, .tmp 58), (.take, .tmp 59)] rfl rfl ent20 (laws_heldCase_ok _ _ hc41) fun K hK => ?_; simp [hN']; refine hK _ ?_; clear hK
            refine wps_cons rfl fun K hK => ?_; simp [hN']; refine hK _ ?_; clear hK
            refine wps_nil (hK _ ?_); clear hK
            refine SWp.seq ?_
            refine SWp.seqR rfl (hPB _ rfl) fun K hK => ?_
            refine wps_cons rfl fun K hK => ?_; simp [hN']; refine hK _ ?_; clear hK
            refine wps_cons rfl fun K hK => ?_; simp [hN']; refine hK _ ?_; clear hK
            refine wps_nil (hK _ ?_); clear hK
            rcases ite_or h with ⟨hb42, h⟩ | ⟨hb43, h⟩
            · refine SWp.condT' (b := decide (r40 < 0)) (by simp) hb42 ?_
              refine SWp.seqR rfl (hPB _ rfl) fun K hK => ?_
              refine wps_cons rfl fun K hK => ?_; simp [hN']; refine hK _ ?_; clear hK
              refine wps_nil (hK _ ?_); clear hK
              cases h
              refine SWp.ret ?_
              simp [thenS, inBlockS, res5]
            · refine SWp.condF' (b := decide (r40 < 0)) (by simp) hb43 ?_
              refine SWp.skip ?_
              show SWp E C _ _ _
              refine SWp.seq ?_
              refine SWp.seqR rfl (hPB _ rfl) fun K hK => ?_
              refine wps_cons rfl fun K hK => ?_; simp [hN']; refine hK _ ?_; clear hK
              refine wps_cons rfl fun K hK => ?_; simp [hN']; refine hK _ ?_; clear hK
              refine wps_cons rfl fun K hK => ?_; simp [hN']; refine hK _ ?_; clear hK
              refine wps_nil (hK _ ?_); clear hK
              rcases ite_or h with ⟨hb44, h⟩ | ⟨hb45, h⟩
              · refine SWp.condT' (b := r40 != r19) (by simp) hb44 ?_
                refine SWp.seqR rfl (hPB _ rfl) fun K hK => ?_
                refine wps_cons rfl fun K hK => ?_; simp [hN']; refine hK _ ?_; clear hK
                refine wps_nil (hK _ ?_); clear hK
                cases h
                refine SWp.ret ?_
                simp [thenS, inBlockS, res5]
              · refine SWp.condF' (b := r40 != r19) (by simp) hb45 ?_
                refine SWp.skip ?_
                show SWp E C _ _ _
                refine SWp.seqR rfl (hPB _ rfl) fun K hK => ?_
                refine wps_cons rfl fun K hK => ?_; simp [hN']; refine hK _ ?_; clear hK
                refine wps_nil (hK _ ?_); clear hK
                cases h
                refine SWp.ret ?_
                simp [thenS, inBlockS, res5]
end Go.Proofs.T
set_option linter.unusedVariables false
set_option linter.unusedSimpArgs false
namespace Go.OM
/-! ### Plain words on loops over rows -/
theorem w64 {n : Int} (h1 : -9223372036854775808 ≤ n) (h2 : n ≤ 9223372036854775807) : IntKind.wrap .i64 n = n := wrap64 h1 h2
theorem w64_succ {k n : Nat} (hk : k < n) (hn : n ≤ maxLen) : IntKind.wrap .i64 ((k : Int) + 1) = ((k + 1 : Nat) : Int) := by
  have hn' : n ≤ 9223372036854775807 := hn
  rw [w64 (by omega) (by omega)]; omega
@[simp] theorem getI_nat {α : Type} (l : List α) (k : Nat) : getI l (k : Int) = l[k]? := by simp [getI]
theorem getI_at {α : Type} {l : List α} {k : Nat} (hk : k < l.length) : getI l (k : Int) = some l[k] := by simp [hk]
theorem getI_zero {α : Type} (l : List α) : getI l 0 = l[0]? := by simp [getI]
theorem sEq_iff (x y : ByteArray) : sEq x y = decide (x = y) := by
  unfold sEq
  have hxy : x.toList = y.toList ↔ x = y := by
    constructor
    · intro h
      have hx : ∀ z : ByteArray, z.toList = z.data.toList := by
        intro z
        have loop : ∀ (n i : Nat) (r : List UInt8), z.size - i = n → ByteArray.toList.loop z i r = r.reverse ++ z.data.toList.drop i := by
          intro n
          induction n with
          | zero =>
            intro i r hn
            unfold ByteArray.toList.loop
            rw [if_neg (by omega), List.drop_eq_nil_of_le (by have : z.data.toList.length = z.size := Array.length_toList
                                                              omega)]
            simp
          | succ n ih =>
            intro i r hn
            unfold ByteArray.toList.loop
            rw [if_pos (by omega), ih (i + 1) _ (by omega)]
            have hlt : i < z.data.toList.length := by have : z.data.toList.length = z.size := Array.length_toList
                                                      omega
            rw [List.drop_eq_getElem_cons hlt]
            have hz : i < z.size := by omega
            simp [ByteArray.get!, Array.getElem!_eq_getD, Array.getD, hz]
        unfold ByteArray.toList
        rw [loop _ 0 [] rfl]; simp
      rw [hx, hx] at h
      cases x; cases y
      simp only [ByteArray.mk.injEq]
      exact Array.toList_inj.1 h
    · intro h; rw [h]
  by_cases h : x = y
  · simp [h]
  · have : ¬ (x.toList = y.toList) := fun e => h (hxy.1 e)
    simp [h, this]
theorem ofNat_lt_true {k n : Nat} (h : k < n) : decide ((k : Int) < (n : Int)) = true := by simpa using h
theorem len_not_lt (n : Nat) : decide ((n : Int) < (n : Int)) = false := by simp
/-- Sizes of a row. -/
theorem szS_gen {α : Type} (ok : α → Prop) (a : List α) (f : Int × Int → Option ((Int × Int) ⊕ (Int ⊕ Int))) (B : Int)
    (hf : ∀ (m : Int) (k : Nat) (h0 : 0 ≤ m) (h1 : m ≤ B) (hk : k < a.length), ∃ r, r ≤ m ∧ (0 ≤ r → ok a[k]) ∧ f (m, k) = some (if r < 0 then .inr (.inr (-1)) else .inl (r, ((k + 1 : Nat) : Int))))
    (he : ∀ m, f (m, a.length) = some (.inr (.inl m))) (n : Int) (h0 : 0 ≤ n) (h1 : n ≤ B) :
    ∃ j, loopP f (n, 0) = some j ∧ (j = .inr (-1) ∨ ∃ m, j = .inl m ∧ 0 ≤ m ∧ m ≤ n ∧ ∀ x ∈ a, ok x) := by
  refine loopP_run (f := f) (fun s : Int × Int => ∃ k : Nat, s.2 = k ∧ k ≤ a.length ∧ 0 ≤ s.1 ∧ s.1 ≤ n ∧ ∀ (j : Nat) (h : j < a.length), j < k → ok a[j]) (fun s => a.length - s.2.toNat) _ ?_ (n, 0) ⟨0, rfl, by omega, h0, by simp, fun j _ h => by omega⟩
  rintro ⟨m, i⟩ ⟨k, hi, hk, h2, h3, h4⟩
  simp only at hi h2 h3
  subst hi
  by_cases hlt : k < a.length
  · obtain ⟨r, r1, r2, r3⟩ := hf m k h2 (by omega) hlt
    rw [r3]
    by_cases hr : r < 0
    · right
      rw [if_pos hr]
      exact ⟨_, rfl, .inl rfl⟩
    · left
      rw [if_neg hr]
      refine ⟨_, rfl, ⟨k + 1, rfl, by omega, by simp only; omega, by simp only; omega, fun j h hj => ?_⟩, ?_⟩
      · by_cases e : j = k
        · subst e; exact r2 (by omega)
        · exact h4 j h (by omega)
      · simp only [Int.toNat_natCast]; omega
  · right
    have hke : k = a.length := by omega
    subst hke
    rw [he]
    refine ⟨_, rfl, .inr ⟨m, rfl, h2, h3, fun x hx => ?_⟩⟩
    obtain ⟨j, hj, rfl⟩ := List.mem_iff_getElem.1 hx
    exact h4 j hj hj
/-- Rows copied. -/
theorem toS_gen {α : Type} (a : List α) (z : α) (f : List α × Int → Option ((List α × Int) ⊕ List α))
    (hf : ∀ (out : List α) (k : Nat) (hk : k < a.length), out.length = a.length → f (out, k) = some (.inl (out.set k a[k], ((k + 1 : Nat) : Int))))
    (he : ∀ out, f (out, a.length) = some (.inr out)) : loopP f (List.replicate a.length z, 0) = some a := by
  obtain ⟨r, h1, h2⟩ := loopP_run (fun s : List α × Int => ∃ k : Nat, s.2 = k ∧ k ≤ a.length ∧ s.1.length = a.length ∧ ∀ j, j < k → s.1[j]? = a[j]?) (fun s => a.length - s.2.toNat) (fun r => r = a) (f := f) (by
    rintro ⟨out, i⟩ ⟨k, hi, hk, h2, h3⟩
    simp only at hi h2 h3
    subst hi
    by_cases hlt : k < a.length
    · left
      rw [hf out k hlt h2]
      refine ⟨_, rfl, ⟨k + 1, rfl, by omega, by simpa using h2, fun j hj => ?_⟩, by simp only [Int.toNat_natCast]; omega⟩
      simp only [List.getElem?_set]
      by_cases e : k = j
      · subst e; simp [h2, hlt]
      · rw [if_neg e]; exact h3 j (by omega)
    · right
      have hke : k = a.length := by omega
      subst hke
      rw [he]
      refine ⟨_, rfl, ?_⟩
      apply List.ext_getElem?
      intro j
      by_cases hj : j < a.length
      · exact h3 j hj
      · rw [List.getElem?_eq_none (by omega), List.getElem?_eq_none (by omega)]) (List.replicate a.length z, 0) ⟨0, rfl, by omega, by simp, fun j h => by omega⟩
  rw [h1, h2]
/-- Rows held against each other. -/
theorem eqS_gen {α : Type} (a b : List α) (p : α → α → Bool) (hp : ∀ x ∈ a, ∀ y, y ∈ b → (p x y = true ↔ x = y)) (hlen : a.length = b.length) (f : Int → Option (Int ⊕ (Unit ⊕ Bool)))
    (hf : ∀ (k : Nat) (hk : k < a.length) (hk2 : k < b.length), f k = some (if p a[k] b[k] = true then .inl ((k + 1 : Nat) : Int) else .inr (.inr false)))
    (he : f a.length = some (.inr (.inl ()))) : (a = b → loopP f 0 = some (.inl ())) ∧ (a ≠ b → loopP f 0 = some (.inr false)) := by
  obtain ⟨r, h1, h2⟩ := loopP_run (fun i : Int => ∃ k : Nat, i = k ∧ k ≤ a.length ∧ ∀ j, j < k → a[j]? = b[j]?) (fun i => a.length - i.toNat) (fun r => (r = .inl () ∧ a = b) ∨ (r = .inr false ∧ a ≠ b)) (f := f) (by
    rintro i ⟨k, rfl, hk, h3⟩
    by_cases hlt : k < a.length
    · have hlt2 : k < b.length := by omega
      rw [hf k hlt hlt2]
      by_cases hpk : p a[k] b[k] = true
      · left
        rw [if_pos hpk]
        refine ⟨_, rfl, ⟨k + 1, rfl, by omega, fun j hj => ?_⟩, by simp only [Int.toNat_natCast]; omega⟩
        by_cases e : j = k
        · subst e
          rw [List.getElem?_eq_getElem hlt, List.getElem?_eq_getElem hlt2, (hp _ (List.getElem_mem hlt) _ (List.getElem_mem hlt2)).1 hpk]
        · exact h3 j (by omega)
      · right
        rw [if_neg hpk]
        refine ⟨_, rfl, .inr ⟨rfl, fun e => hpk ?_⟩⟩
        subst e
        exact (hp _ (List.getElem_mem hlt) _ (List.getElem_mem hlt)).2 rfl
    · right
      have hke : k = a.length := by omega
      subst hke
      rw [he]
      refine ⟨_, rfl, .inl ⟨rfl, ?_⟩⟩
      apply List.ext_getElem?
      intro j
      by_cases hj : j < a.length
      · exact h3 j hj
      · rw [List.getElem?_eq_none (by omega), List.getElem?_eq_none (by omega)]) 0 ⟨0, rfl, by omega, fun j h => by omega⟩
  rcases h2 with ⟨e, hab⟩ | ⟨e, hab⟩
  · exact ⟨fun _ => by rw [h1, e], fun h => absurd hab h⟩
  · exact ⟨fun h => absurd h hab, fun _ => by rw [h1, e]⟩
theorem mkI_len {α : Type} (b : Int) (n : Nat) (z : α) (h1 : b * n ≤ 140737488355328) (h2 : (n : Int) ≤ 140737488355328) : mkI b (n : Int) z = some (List.replicate n z) := by
  unfold mkI
  rw [if_pos ⟨by omega, h1, h2⟩]
  simp
theorem bindS_def {α β : Type} (x : α) (f : α → β) : bindS x f = f x := rfl
end Go.OM
set_option linter.unusedVariables false
set_option linter.unusedSimpArgs false
set_option maxHeartbeats 1000000
namespace Go.OM
def GCase.le (n : Nat) (a : GCase) : Prop := (a.Input.length ≤ n) ∧ (a.Want.length ≤ n)
theorem GCase.ext' (a b : GCase) : a = b ↔ a.Input = b.Input ∧ a.Want = b.Want ∧ a.End = b.End := by cases a; cases b; simp
def GBlock.le (n : Nat) (a : GBlock) : Prop := (a.Next.length ≤ n)
theorem GBlock.ext' (a b : GBlock) : a = b ↔ a.From = b.From ∧ a.To = b.To ∧ a.Next = b.Next := by cases a; cases b; simp
def GNode.le (n : Nat) (a : GNode) : Prop := (a.Name.size ≤ n) ∧ (a.Kids.length ≤ n)
theorem GNode.ext' (a b : GNode) : a = b ↔ a.Kind = b.Kind ∧ a.Num = b.Num ∧ a.Name = b.Name ∧ a.Kids = b.Kids := by cases a; cases b; simp
def GParam.le (n : Nat) (a : GParam) : Prop := (a.Name.size ≤ n)
theorem GParam.ext' (a b : GParam) : a = b ↔ a.Name = b.Name ∧ a.Typ = b.Typ := by cases a; cases b; simp
def GFn.le (n : Nat) (a : GFn) : Prop := (a.Name.size ≤ n) ∧ (a.Params.length ≤ n ∧ ∀ x ∈ a.Params, GParam.le n x)
theorem GFn.ext' (a b : GFn) : a = b ↔ a.Name = b.Name ∧ a.Params = b.Params ∧ a.Res = b.Res ∧ a.Body = b.Body ∧ a.Ret = b.Ret := by cases a; cases b; simp
def GProgram.le (n : Nat) (a : GProgram) : Prop := (a.Nodes.length ≤ n ∧ ∀ x ∈ a.Nodes, GNode.le n x) ∧ (a.Fns.length ≤ n ∧ ∀ x ∈ a.Fns, GFn.le n x)
theorem GProgram.ext' (a b : GProgram) : a = b ↔ a.Nodes = b.Nodes ∧ a.Fns = b.Fns := by cases a; cases b; simp
def Gfields.le (n : Nat) (a : Gfields) : Prop := (a.text.size ≤ n)
theorem Gfields.ext' (a b : Gfields) : a = b ↔ a.text = b.text ∧ a.at_ = b.at_ ∧ a.bad = b.bad := by cases a; cases b; simp
theorem laws_szIntS_p (a : List Int) (hw : a.length ≤ maxLen) (n : Int) (h0 : 0 ≤ n) (h1 : n ≤ 1048576) : ∃ r, laws_szIntS a n = some r ∧ r ≤ n ∧ (0 ≤ r → a.length ≤ 1048576) := by
  have hw' : a.length ≤ 9223372036854775807 := hw
  unfold laws_szIntS
  rw [w64 (by omega) (by omega)]
  split
  · exact ⟨_, rfl, by omega, fun h => by omega⟩
  · rename_i h; simp only [decide_eq_true_eq] at h; exact ⟨_, rfl, by omega, fun h => by omega⟩
theorem laws_toIntS_p (a : List Int) (h : a.length ≤ 1048576) : laws_toIntS a = some a := by
  have hl : a.length ≤ 1048576 := h
  unfold laws_toIntS
  rw [mkI_len _ _ _ (by omega) (by omega)]
  simp only [Option.bind_some]
  rw [toS_gen a _ (laws_toIntS_l1 a) (fun out k hk ho => ?_) (fun out => by simp [laws_toIntS_l1])]
  · rfl
  · simp only [laws_toIntS_l1, ofNat_lt_true hk, if_true, getI_at hk, Option.bind_some, getI_at (show k < out.length by omega), bindS_def, Int.toNat_natCast, w64_succ hk (show a.length ≤ maxLen by show _ ≤ 9223372036854775807; omega)]
theorem laws_eqIntS_p (a b : List Int) (ha : a.length ≤ 1048576) (hb : b.length ≤ 1048576) : laws_eqIntS a b = some (decide (a = b)) := by
  have hl : a.length ≤ 1048576 := ha
  unfold laws_eqIntS
  by_cases hlen : a.length = b.length
  · have hlen' : ((a.length : Int) != (b.length : Int)) = false := by simp [hlen]
    simp only [hlen', Bool.false_eq_true, if_false]
    have key := eqS_gen a b (fun x y => !(x != y)) (fun x _ y _ => by simp) hlen (laws_eqIntS_l1 a b) (fun k hk hk2 => ?_) (by simp [laws_eqIntS_l1])
    · by_cases e : a = b
      · rw [key.1 e]; simp [e]
      · rw [key.2 e]; simp [e]
    simp only [laws_eqIntS_l1, ofNat_lt_true hk, if_true, getI_at hk, getI_at hk2, Option.bind_some, w64_succ hk (show a.length ≤ maxLen by show _ ≤ 9223372036854775807; omega)]
    try (by_cases e : a[k] = b[k] <;> simp [e])
  · have hlen' : ((a.length : Int) != (b.length : Int)) = true := by simp; omega
    have hne : a ≠ b := fun e => hlen (by rw [e])
    simp [hlen', hne]
theorem laws_szBlock_p (a : GBlock) (hw : GBlock.le maxLen a) (n : Int) (h0 : 0 ≤ n) (h1 : n ≤ 1048576) : ∃ r, laws_szBlock a n = some r ∧ r ≤ n ∧ (0 ≤ r → GBlock.le 1048576 a) := by
  have hw0 := hw; unfold GBlock.le at hw0
  unfold laws_szBlock
  obtain ⟨r0, q0a, q0b, q0c⟩ := laws_szIntS_p a.Next hw0 n (by omega) (by omega)
  simp only [q0a, Option.bind_some]
  by_cases hn0 : r0 < 0
  · simp only [hn0, decide_true, if_true]; exact ⟨_, rfl, by omega, fun h => by omega⟩
  simp only [hn0, decide_false, Bool.false_eq_true, if_false]
  exact ⟨_, rfl, by omega, fun _ => (by unfold GBlock.le; first | omega | exact q0c (by omega))⟩
theorem laws_toBlock_p (a : GBlock) (h : GBlock.le 1048576 a) : laws_toBlock a = some a := by
  have h0 := h; unfold GBlock.le at h0
  unfold laws_toBlock
  simp only [laws_toIntS_p a.Next h0, Option.bind_some]
theorem laws_eqBlock_p (a b : GBlock) (ha : GBlock.le 1048576 a) (hb : GBlock.le 1048576 b) : laws_eqBlock a b = some (decide (a = b)) := by
  have ha0 := ha; have hb0 := hb; unfold GBlock.le at ha0 hb0
  unfold laws_eqBlock
  simp only [sEq_iff, Option.bind_some, laws_eqIntS_p a.Next b.Next ha0 hb0]
  rw [show decide (a = b) = decide (a.From = b.From ∧ a.To = b.To ∧ a.Next = b.Next) from by simp only [GBlock.ext' a b]]
  by_cases e0 : a.From = b.From <;> by_cases e1 : a.To = b.To <;> by_cases e2 : a.Next = b.Next <;> simp [e0, e1, e2]
theorem laws_szBlockS_p (a : List GBlock) (hw : a.length ≤ maxLen ∧ ∀ x ∈ a, GBlock.le maxLen x) (n : Int) (h0 : 0 ≤ n) (h1 : n ≤ 1048576) : ∃ r, laws_szBlockS a n = some r ∧ r ≤ n ∧ (0 ≤ r → a.length ≤ 1048576 ∧ ∀ x ∈ a, GBlock.le 1048576 x) := by
  have hw' : a.length ≤ 9223372036854775807 := hw.1
  unfold laws_szBlockS
  rw [w64 (by omega) (by omega)]
  split
  · exact ⟨_, rfl, by omega, fun h => by omega⟩
  · rename_i h
    simp only [decide_eq_true_eq] at h
    have hf : ∀ (m : Int) (k : Nat) (g0 : 0 ≤ m) (g1 : m ≤ 1048576) (hk : k < a.length), ∃ r, r ≤ m ∧ (0 ≤ r → (fun x : GBlock => GBlock.le 1048576 x) a[k]) ∧ laws_szBlockS_l1 a (m, k) = some (if r < 0 then .inr (.inr (-1)) else .inl (r, ((k + 1 : Nat) : Int))) := by
      intro m k g0 g1 hk
      obtain ⟨r, r1, r2, r3⟩ := laws_szBlock_p a[k] (hw.2 _ (List.getElem_mem hk)) m g0 g1
      refine ⟨r, r2, r3, ?_⟩
      simp only [laws_szBlockS_l1, ofNat_lt_true hk, if_true, getI_at hk, Option.bind_some, r1, w64_succ hk hw.1]
      by_cases hr : r < 0 <;> simp [hr]
    obtain ⟨j, hj, hj2⟩ := szS_gen _ a (laws_szBlockS_l1 a) 1048576 hf (fun m => by simp [laws_szBlockS_l1]) (n - a.length) (by omega) (by omega)
    rcases hj2 with rfl | ⟨m, rfl, q1, q2, q3⟩
    · exact ⟨-1, by rw [hj]; rfl, by omega, fun h => by omega⟩
    · exact ⟨m, by rw [hj]; rfl, by omega, fun _ => ⟨by omega, q3⟩⟩
theorem laws_toBlockS_p (a : List GBlock) (h : a.length ≤ 1048576 ∧ ∀ x ∈ a, GBlock.le 1048576 x) : laws_toBlockS a = some a := by
  have hl : a.length ≤ 1048576 := h.1
  unfold laws_toBlockS
  rw [mkI_len _ _ _ (by omega) (by omega)]
  simp only [Option.bind_some]
  rw [toS_gen a _ (laws_toBlockS_l1 a) (fun out k hk ho => ?_) (fun out => by simp [laws_toBlockS_l1])]
  · rfl
  · simp only [laws_toBlockS_l1, ofNat_lt_true hk, if_true, getI_at hk, Option.bind_some, laws_toBlock_p a[k] (h.2 _ (List.getElem_mem hk)), getI_at (show k < out.length by omega), bindS_def, Int.toNat_natCast, w64_succ hk (show a.length ≤ maxLen by show _ ≤ 9223372036854775807; omega)]
theorem laws_eqBlockS_p (a b : List GBlock) (ha : a.length ≤ 1048576 ∧ ∀ x ∈ a, GBlock.le 1048576 x) (hb : b.length ≤ 1048576 ∧ ∀ x ∈ b, GBlock.le 1048576 x) : laws_eqBlockS a b = some (decide (a = b)) := by
  have hl : a.length ≤ 1048576 := ha.1
  unfold laws_eqBlockS
  by_cases hlen : a.length = b.length
  · have hlen' : ((a.length : Int) != (b.length : Int)) = false := by simp [hlen]
    simp only [hlen', Bool.false_eq_true, if_false]
    have key := eqS_gen a b (fun x y => decide (x = y)) (fun x _ y _ => by simp) hlen (laws_eqBlockS_l1 a b) (fun k hk hk2 => ?_) (by simp [laws_eqBlockS_l1])
    · by_cases e : a = b
      · rw [key.1 e]; simp [e]
      · rw [key.2 e]; simp [e]
    simp only [laws_eqBlockS_l1, ofNat_lt_true hk, if_true, getI_at hk, getI_at hk2, Option.bind_some, laws_eqBlock_p a[k] b[k] (ha.2 _ (List.getElem_mem hk)) (hb.2 _ (List.getElem_mem hk2)), w64_succ hk (show a.length ≤ maxLen by show _ ≤ 9223372036854775807; omega)]
    try (by_cases e : a[k] = b[k] <;> simp [e])
  · have hlen' : ((a.length : Int) != (b.length : Int)) = true := by simp; omega
    have hne : a ≠ b := fun e => hlen (by rw [e])
    simp [hlen', hne]
theorem laws_szCase_p (a : GCase) (hw : GCase.le maxLen a) (n : Int) (h0 : 0 ≤ n) (h1 : n ≤ 1048576) : ∃ r, laws_szCase a n = some r ∧ r ≤ n ∧ (0 ≤ r → GCase.le 1048576 a) := by
  obtain ⟨hw0, hw1⟩ := hw
  unfold laws_szCase
  obtain ⟨r0, q0a, q0b, q0c⟩ := laws_szIntS_p a.Input hw0 n (by omega) (by omega)
  simp only [q0a, Option.bind_some]
  by_cases hn0 : r0 < 0
  · simp only [hn0, decide_true, if_true]; exact ⟨_, rfl, by omega, fun h => by omega⟩
  simp only [hn0, decide_false, Bool.false_eq_true, if_false]
  obtain ⟨r1, q1a, q1b, q1c⟩ := laws_szIntS_p a.Want hw1 r0 (by omega) (by omega)
  simp only [q1a, Option.bind_some]
  by_cases hn1 : r1 < 0
  · simp only [hn1, decide_true, if_true]; exact ⟨_, rfl, by omega, fun h => by omega⟩
  simp only [hn1, decide_false, Bool.false_eq_true, if_false]
  exact ⟨_, rfl, by omega, fun _ => ⟨q0c (by omega), q1c (by omega)⟩⟩
theorem laws_toCase_p (a : GCase) (h : GCase.le 1048576 a) : laws_toCase a = some a := by
  obtain ⟨h0, h1⟩ := h
  unfold laws_toCase
  simp only [laws_toIntS_p a.Input h0, laws_toIntS_p a.Want h1, Option.bind_some]
theorem laws_eqCase_p (a b : GCase) (ha : GCase.le 1048576 a) (hb : GCase.le 1048576 b) : laws_eqCase a b = some (decide (a = b)) := by
  obtain ⟨ha0, ha1⟩ := ha
  obtain ⟨hb0, hb1⟩ := hb
  unfold laws_eqCase
  simp only [sEq_iff, Option.bind_some, laws_eqIntS_p a.Input b.Input ha0 hb0, laws_eqIntS_p a.Want b.Want ha1 hb1]
  rw [show decide (a = b) = decide (a.Input = b.Input ∧ a.Want = b.Want ∧ a.End = b.End) from by simp only [GCase.ext' a b]]
  by_cases e0 : a.Input = b.Input <;> by_cases e1 : a.Want = b.Want <;> by_cases e2 : a.End = b.End <;> simp [e0, e1, e2]
theorem laws_szNode_p (a : GNode) (hw : GNode.le maxLen a) (n : Int) (h0 : 0 ≤ n) (h1 : n ≤ 1048576) : ∃ r, laws_szNode a n = some r ∧ r ≤ n ∧ (0 ≤ r → GNode.le 1048576 a) := by
  obtain ⟨hw0, hw1⟩ := hw
  unfold laws_szNode
  have hs0 : a.Name.size ≤ 9223372036854775807 := hw0
  simp only [w64 (n := n - (a.Name.size : Int)) (by omega) (by omega)]
  by_cases hn0 : (n - (a.Name.size : Int)) < 0
  · simp only [hn0, decide_true, if_true]; exact ⟨_, rfl, by omega, fun h => by omega⟩
  simp only [hn0, decide_false, Bool.false_eq_true, if_false]
  obtain ⟨r1, q1a, q1b, q1c⟩ := laws_szIntS_p a.Kids hw1 (n - (a.Name.size : Int)) (by omega) (by omega)
  simp only [q1a, Option.bind_some]
  by_cases hn1 : r1 < 0
  · simp only [hn1, decide_true, if_true]; exact ⟨_, rfl, by omega, fun h => by omega⟩
  simp only [hn1, decide_false, Bool.false_eq_true, if_false]
  exact ⟨_, rfl, by omega, fun _ => ⟨by omega, q1c (by omega)⟩⟩
theorem laws_toNode_p (a : GNode) (h : GNode.le 1048576 a) : laws_toNode a = some a := by
  obtain ⟨h0, h1⟩ := h
  unfold laws_toNode
  simp only [laws_toIntS_p a.Kids h1, Option.bind_some]
theorem laws_eqNode_p (a b : GNode) (ha : GNode.le 1048576 a) (hb : GNode.le 1048576 b) : laws_eqNode a b = some (decide (a = b)) := by
  obtain ⟨ha0, ha1⟩ := ha
  obtain ⟨hb0, hb1⟩ := hb
  unfold laws_eqNode
  simp only [sEq_iff, Option.bind_some, laws_eqIntS_p a.Kids b.Kids ha1 hb1]
  rw [show decide (a = b) = decide (a.Kind = b.Kind ∧ a.Num = b.Num ∧ a.Name = b.Name ∧ a.Kids = b.Kids) from by simp only [GNode.ext' a b]]
  by_cases e0 : a.Kind = b.Kind <;> by_cases e1 : a.Num = b.Num <;> by_cases e2 : a.Name = b.Name <;> by_cases e3 : a.Kids = b.Kids <;> simp [e0, e1, e2, e3]
theorem laws_szNodeS_p (a : List GNode) (hw : a.length ≤ maxLen ∧ ∀ x ∈ a, GNode.le maxLen x) (n : Int) (h0 : 0 ≤ n) (h1 : n ≤ 1048576) : ∃ r, laws_szNodeS a n = some r ∧ r ≤ n ∧ (0 ≤ r → a.length ≤ 1048576 ∧ ∀ x ∈ a, GNode.le 1048576 x) := by
  have hw' : a.length ≤ 9223372036854775807 := hw.1
  unfold laws_szNodeS
  rw [w64 (by omega) (by omega)]
  split
  · exact ⟨_, rfl, by omega, fun h => by omega⟩
  · rename_i h
    simp only [decide_eq_true_eq] at h
    have hf : ∀ (m : Int) (k : Nat) (g0 : 0 ≤ m) (g1 : m ≤ 1048576) (hk : k < a.length), ∃ r, r ≤ m ∧ (0 ≤ r → (fun x : GNode => GNode.le 1048576 x) a[k]) ∧ laws_szNodeS_l1 a (m, k) = some (if r < 0 then .inr (.inr (-1)) else .inl (r, ((k + 1 : Nat) : Int))) := by
      intro m k g0 g1 hk
      obtain ⟨r, r1, r2, r3⟩ := laws_szNode_p a[k] (hw.2 _ (List.getElem_mem hk)) m g0 g1
      refine ⟨r, r2, r3, ?_⟩
      simp only [laws_szNodeS_l1, ofNat_lt_true hk, if_true, getI_at hk, Option.bind_some, r1, w64_succ hk hw.1]
      by_cases hr : r < 0 <;> simp [hr]
    obtain ⟨j, hj, hj2⟩ := szS_gen _ a (laws_szNodeS_l1 a) 1048576 hf (fun m => by simp [laws_szNodeS_l1]) (n - a.length) (by omega) (by omega)
    rcases hj2 with rfl | ⟨m, rfl, q1, q2, q3⟩
    · exact ⟨-1, by rw [hj]; rfl, by omega, fun h => by omega⟩
    · exact ⟨m, by rw [hj]; rfl, by omega, fun _ => ⟨by omega, q3⟩⟩
theorem laws_toNodeS_p (a : List GNode) (h : a.length ≤ 1048576 ∧ ∀ x ∈ a, GNode.le 1048576 x) : laws_toNodeS a = some a := by
  have hl : a.length ≤ 1048576 := h.1
  unfold laws_toNodeS
  rw [mkI_len _ _ _ (by omega) (by omega)]
  simp only [Option.bind_some]
  rw [toS_gen a _ (laws_toNodeS_l1 a) (fun out k hk ho => ?_) (fun out => by simp [laws_toNodeS_l1])]
  · rfl
  · simp only [laws_toNodeS_l1, ofNat_lt_true hk, if_true, getI_at hk, Option.bind_some, laws_toNode_p a[k] (h.2 _ (List.getElem_mem hk)), getI_at (show k < out.length by omega), bindS_def, Int.toNat_natCast, w64_succ hk (show a.length ≤ maxLen by show _ ≤ 9223372036854775807; omega)]
theorem laws_eqNodeS_p (a b : List GNode) (ha : a.length ≤ 1048576 ∧ ∀ x ∈ a, GNode.le 1048576 x) (hb : b.length ≤ 1048576 ∧ ∀ x ∈ b, GNode.le 1048576 x) : laws_eqNodeS a b = some (decide (a = b)) := by
  have hl : a.length ≤ 1048576 := ha.1
  unfold laws_eqNodeS
  by_cases hlen : a.length = b.length
  · have hlen' : ((a.length : Int) != (b.length : Int)) = false := by simp [hlen]
    simp only [hlen', Bool.false_eq_true, if_false]
    have key := eqS_gen a b (fun x y => decide (x = y)) (fun x _ y _ => by simp) hlen (laws_eqNodeS_l1 a b) (fun k hk hk2 => ?_) (by simp [laws_eqNodeS_l1])
    · by_cases e : a = b
      · rw [key.1 e]; simp [e]
      · rw [key.2 e]; simp [e]
    simp only [laws_eqNodeS_l1, ofNat_lt_true hk, if_true, getI_at hk, getI_at hk2, Option.bind_some, laws_eqNode_p a[k] b[k] (ha.2 _ (List.getElem_mem hk)) (hb.2 _ (List.getElem_mem hk2)), w64_succ hk (show a.length ≤ maxLen by show _ ≤ 9223372036854775807; omega)]
    try (by_cases e : a[k] = b[k] <;> simp [e])
  · have hlen' : ((a.length : Int) != (b.length : Int)) = true := by simp; omega
    have hne : a ≠ b := fun e => hlen (by rw [e])
    simp [hlen', hne]
theorem laws_szParam_p (a : GParam) (hw : GParam.le maxLen a) (n : Int) (h0 : 0 ≤ n) (h1 : n ≤ 1048576) : ∃ r, laws_szParam a n = some r ∧ r ≤ n ∧ (0 ≤ r → GParam.le 1048576 a) := by
  have hw0 := hw; unfold GParam.le at hw0
  unfold laws_szParam
  have hs0 : a.Name.size ≤ 9223372036854775807 := hw0
  simp only [w64 (n := n - (a.Name.size : Int)) (by omega) (by omega)]
  by_cases hn0 : (n - (a.Name.size : Int)) < 0
  · simp only [hn0, decide_true, if_true]; exact ⟨_, rfl, by omega, fun h => by omega⟩
  simp only [hn0, decide_false, Bool.false_eq_true, if_false]
  exact ⟨_, rfl, by omega, fun _ => (by unfold GParam.le; first | omega | exact trivial)⟩
theorem laws_toParam_p (a : GParam) (h : GParam.le 1048576 a) : laws_toParam a = some a := by
  have h0 := h; unfold GParam.le at h0
  unfold laws_toParam
  rfl
theorem laws_eqParam_p (a b : GParam) (ha : GParam.le 1048576 a) (hb : GParam.le 1048576 b) : laws_eqParam a b = some (decide (a = b)) := by
  have ha0 := ha; have hb0 := hb; unfold GParam.le at ha0 hb0
  unfold laws_eqParam
  simp only [sEq_iff, Option.bind_some]
  rw [show decide (a = b) = decide (a.Name = b.Name ∧ a.Typ = b.Typ) from by simp only [GParam.ext' a b]]
  by_cases e0 : a.Name = b.Name <;> by_cases e1 : a.Typ = b.Typ <;> simp [e0, e1]
theorem laws_szParamS_p (a : List GParam) (hw : a.length ≤ maxLen ∧ ∀ x ∈ a, GParam.le maxLen x) (n : Int) (h0 : 0 ≤ n) (h1 : n ≤ 1048576) : ∃ r, laws_szParamS a n = some r ∧ r ≤ n ∧ (0 ≤ r → a.length ≤ 1048576 ∧ ∀ x ∈ a, GParam.le 1048576 x) := by
  have hw' : a.length ≤ 9223372036854775807 := hw.1
  unfold laws_szParamS
  rw [w64 (by omega) (by omega)]
  split
  · exact ⟨_, rfl, by omega, fun h => by omega⟩
  · rename_i h
    simp only [decide_eq_true_eq] at h
    have hf : ∀ (m : Int) (k : Nat) (g0 : 0 ≤ m) (g1 : m ≤ 1048576) (hk : k < a.length), ∃ r, r ≤ m ∧ (0 ≤ r → (fun x : GParam => GParam.le 1048576 x) a[k]) ∧ laws_szParamS_l1 a (m, k) = some (if r < 0 then .inr (.inr (-1)) else .inl (r, ((k + 1 : Nat) : Int))) := by
      intro m k g0 g1 hk
      obtain ⟨r, r1, r2, r3⟩ := laws_szParam_p a[k] (hw.2 _ (List.getElem_mem hk)) m g0 g1
      refine ⟨r, r2, r3, ?_⟩
      simp only [laws_szParamS_l1, ofNat_lt_true hk, if_true, getI_at hk, Option.bind_some, r1, w64_succ hk hw.1]
      by_cases hr : r < 0 <;> simp [hr]
    obtain ⟨j, hj, hj2⟩ := szS_gen _ a (laws_szParamS_l1 a) 1048576 hf (fun m => by simp [laws_szParamS_l1]) (n - a.length) (by omega) (by omega)
    rcases hj2 with rfl | ⟨m, rfl, q1, q2, q3⟩
    · exact ⟨-1, by rw [hj]; rfl, by omega, fun h => by omega⟩
    · exact ⟨m, by rw [hj]; rfl, by omega, fun _ => ⟨by omega, q3⟩⟩
theorem laws_toParamS_p (a : List GParam) (h : a.length ≤ 1048576 ∧ ∀ x ∈ a, GParam.le 1048576 x) : laws_toParamS a = some a := by
  have hl : a.length ≤ 1048576 := h.1
  unfold laws_toParamS
  rw [mkI_len _ _ _ (by omega) (by omega)]
  simp only [Option.bind_some]
  rw [toS_gen a _ (laws_toParamS_l1 a) (fun out k hk ho => ?_) (fun out => by simp [laws_toParamS_l1])]
  · rfl
  · simp only [laws_toParamS_l1, ofNat_lt_true hk, if_true, getI_at hk, Option.bind_some, laws_toParam_p a[k] (h.2 _ (List.getElem_mem hk)), getI_at (show k < out.length by omega), bindS_def, Int.toNat_natCast, w64_succ hk (show a.length ≤ maxLen by show _ ≤ 9223372036854775807; omega)]
theorem laws_eqParamS_p (a b : List GParam) (ha : a.length ≤ 1048576 ∧ ∀ x ∈ a, GParam.le 1048576 x) (hb : b.length ≤ 1048576 ∧ ∀ x ∈ b, GParam.le 1048576 x) : laws_eqParamS a b = some (decide (a = b)) := by
  have hl : a.length ≤ 1048576 := ha.1
  unfold laws_eqParamS
  by_cases hlen : a.length = b.length
  · have hlen' : ((a.length : Int) != (b.length : Int)) = false := by simp [hlen]
    simp only [hlen', Bool.false_eq_true, if_false]
    have key := eqS_gen a b (fun x y => decide (x = y)) (fun x _ y _ => by simp) hlen (laws_eqParamS_l1 a b) (fun k hk hk2 => ?_) (by simp [laws_eqParamS_l1])
    · by_cases e : a = b
      · rw [key.1 e]; simp [e]
      · rw [key.2 e]; simp [e]
    simp only [laws_eqParamS_l1, ofNat_lt_true hk, if_true, getI_at hk, getI_at hk2, Option.bind_some, laws_eqParam_p a[k] b[k] (ha.2 _ (List.getElem_mem hk)) (hb.2 _ (List.getElem_mem hk2)), w64_succ hk (show a.length ≤ maxLen by show _ ≤ 9223372036854775807; omega)]
    try (by_cases e : a[k] = b[k] <;> simp [e])
  · have hlen' : ((a.length : Int) != (b.length : Int)) = true := by simp; omega
    have hne : a ≠ b := fun e => hlen (by rw [e])
    simp [hlen', hne]
theorem laws_szFn_p (a : GFn) (hw : GFn.le maxLen a) (n : Int) (h0 : 0 ≤ n) (h1 : n ≤ 1048576) : ∃ r, laws_szFn a n = some r ∧ r ≤ n ∧ (0 ≤ r → GFn.le 1048576 a) := by
  obtain ⟨hw0, hw1⟩ := hw
  unfold laws_szFn
  have hs0 : a.Name.size ≤ 9223372036854775807 := hw0
  simp only [w64 (n := n - (a.Name.size : Int)) (by omega) (by omega)]
  by_cases hn0 : (n - (a.Name.size : Int)) < 0
  · simp only [hn0, decide_true, if_true]; exact ⟨_, rfl, by omega, fun h => by omega⟩
  simp only [hn0, decide_false, Bool.false_eq_true, if_false]
  obtain ⟨r1, q1a, q1b, q1c⟩ := laws_szParamS_p a.Params hw1 (n - (a.Name.size : Int)) (by omega) (by omega)
  simp only [q1a, Option.bind_some]
  by_cases hn1 : r1 < 0
  · simp only [hn1, decide_true, if_true]; exact ⟨_, rfl, by omega, fun h => by omega⟩
  simp only [hn1, decide_false, Bool.false_eq_true, if_false]
  exact ⟨_, rfl, by omega, fun _ => ⟨by omega, q1c (by omega)⟩⟩
theorem laws_toFn_p (a : GFn) (h : GFn.le 1048576 a) : laws_toFn a = some a := by
  obtain ⟨h0, h1⟩ := h
  unfold laws_toFn
  simp only [laws_toParamS_p a.Params h1, Option.bind_some]
theorem laws_eqFn_p (a b : GFn) (ha : GFn.le 1048576 a) (hb : GFn.le 1048576 b) : laws_eqFn a b = some (decide (a = b)) := by
  obtain ⟨ha0, ha1⟩ := ha
  obtain ⟨hb0, hb1⟩ := hb
  unfold laws_eqFn
  simp only [sEq_iff, Option.bind_some, laws_eqParamS_p a.Params b.Params ha1 hb1]
  rw [show decide (a = b) = decide (a.Name = b.Name ∧ a.Params = b.Params ∧ a.Res = b.Res ∧ a.Body = b.Body ∧ a.Ret = b.Ret) from by simp only [GFn.ext' a b]]
  by_cases e0 : a.Name = b.Name <;> by_cases e1 : a.Params = b.Params <;> by_cases e2 : a.Res = b.Res <;> by_cases e3 : a.Body = b.Body <;> by_cases e4 : a.Ret = b.Ret <;> simp [e0, e1, e2, e3, e4]
theorem laws_szFnS_p (a : List GFn) (hw : a.length ≤ maxLen ∧ ∀ x ∈ a, GFn.le maxLen x) (n : Int) (h0 : 0 ≤ n) (h1 : n ≤ 1048576) : ∃ r, laws_szFnS a n = some r ∧ r ≤ n ∧ (0 ≤ r → a.length ≤ 1048576 ∧ ∀ x ∈ a, GFn.le 1048576 x) := by
  have hw' : a.length ≤ 9223372036854775807 := hw.1
  unfold laws_szFnS
  rw [w64 (by omega) (by omega)]
  split
  · exact ⟨_, rfl, by omega, fun h => by omega⟩
  · rename_i h
    simp only [decide_eq_true_eq] at h
    have hf : ∀ (m : Int) (k : Nat) (g0 : 0 ≤ m) (g1 : m ≤ 1048576) (hk : k < a.length), ∃ r, r ≤ m ∧ (0 ≤ r → (fun x : GFn => GFn.le 1048576 x) a[k]) ∧ laws_szFnS_l1 a (m, k) = some (if r < 0 then .inr (.inr (-1)) else .inl (r, ((k + 1 : Nat) : Int))) := by
      intro m k g0 g1 hk
      obtain ⟨r, r1, r2, r3⟩ := laws_szFn_p a[k] (hw.2 _ (List.getElem_mem hk)) m g0 g1
      refine ⟨r, r2, r3, ?_⟩
      simp only [laws_szFnS_l1, ofNat_lt_true hk, if_true, getI_at hk, Option.bind_some, r1, w64_succ hk hw.1]
      by_cases hr : r < 0 <;> simp [hr]
    obtain ⟨j, hj, hj2⟩ := szS_gen _ a (laws_szFnS_l1 a) 1048576 hf (fun m => by simp [laws_szFnS_l1]) (n - a.length) (by omega) (by omega)
    rcases hj2 with rfl | ⟨m, rfl, q1, q2, q3⟩
    · exact ⟨-1, by rw [hj]; rfl, by omega, fun h => by omega⟩
    · exact ⟨m, by rw [hj]; rfl, by omega, fun _ => ⟨by omega, q3⟩⟩
theorem laws_toFnS_p (a : List GFn) (h : a.length ≤ 1048576 ∧ ∀ x ∈ a, GFn.le 1048576 x) : laws_toFnS a = some a := by
  have hl : a.length ≤ 1048576 := h.1
  unfold laws_toFnS
  rw [mkI_len _ _ _ (by omega) (by omega)]
  simp only [Option.bind_some]
  rw [toS_gen a _ (laws_toFnS_l1 a) (fun out k hk ho => ?_) (fun out => by simp [laws_toFnS_l1])]
  · rfl
  · simp only [laws_toFnS_l1, ofNat_lt_true hk, if_true, getI_at hk, Option.bind_some, laws_toFn_p a[k] (h.2 _ (List.getElem_mem hk)), getI_at (show k < out.length by omega), bindS_def, Int.toNat_natCast, w64_succ hk (show a.length ≤ maxLen by show _ ≤ 9223372036854775807; omega)]
theorem laws_eqFnS_p (a b : List GFn) (ha : a.length ≤ 1048576 ∧ ∀ x ∈ a, GFn.le 1048576 x) (hb : b.length ≤ 1048576 ∧ ∀ x ∈ b, GFn.le 1048576 x) : laws_eqFnS a b = some (decide (a = b)) := by
  have hl : a.length ≤ 1048576 := ha.1
  unfold laws_eqFnS
  by_cases hlen : a.length = b.length
  · have hlen' : ((a.length : Int) != (b.length : Int)) = false := by simp [hlen]
    simp only [hlen', Bool.false_eq_true, if_false]
    have key := eqS_gen a b (fun x y => decide (x = y)) (fun x _ y _ => by simp) hlen (laws_eqFnS_l1 a b) (fun k hk hk2 => ?_) (by simp [laws_eqFnS_l1])
    · by_cases e : a = b
      · rw [key.1 e]; simp [e]
      · rw [key.2 e]; simp [e]
    simp only [laws_eqFnS_l1, ofNat_lt_true hk, if_true, getI_at hk, getI_at hk2, Option.bind_some, laws_eqFn_p a[k] b[k] (ha.2 _ (List.getElem_mem hk)) (hb.2 _ (List.getElem_mem hk2)), w64_succ hk (show a.length ≤ maxLen by show _ ≤ 9223372036854775807; omega)]
    try (by_cases e : a[k] = b[k] <;> simp [e])
  · have hlen' : ((a.length : Int) != (b.length : Int)) = true := by simp; omega
    have hne : a ≠ b := fun e => hlen (by rw [e])
    simp [hlen', hne]
theorem laws_szProgram_p (a : GProgram) (hw : GProgram.le maxLen a) (n : Int) (h0 : 0 ≤ n) (h1 : n ≤ 1048576) : ∃ r, laws_szProgram a n = some r ∧ r ≤ n ∧ (0 ≤ r → GProgram.le 1048576 a) := by
  obtain ⟨hw0, hw1⟩ := hw
  unfold laws_szProgram
  obtain ⟨r0, q0a, q0b, q0c⟩ := laws_szNodeS_p a.Nodes hw0 n (by omega) (by omega)
  simp only [q0a, Option.bind_some]
  by_cases hn0 : r0 < 0
  · simp only [hn0, decide_true, if_true]; exact ⟨_, rfl, by omega, fun h => by omega⟩
  simp only [hn0, decide_false, Bool.false_eq_true, if_false]
  obtain ⟨r1, q1a, q1b, q1c⟩ := laws_szFnS_p a.Fns hw1 r0 (by omega) (by omega)
  simp only [q1a, Option.bind_some]
  by_cases hn1 : r1 < 0
  · simp only [hn1, decide_true, if_true]; exact ⟨_, rfl, by omega, fun h => by omega⟩
  simp only [hn1, decide_false, Bool.false_eq_true, if_false]
  exact ⟨_, rfl, by omega, fun _ => ⟨q0c (by omega), q1c (by omega)⟩⟩
theorem laws_toProgram_p (a : GProgram) (h : GProgram.le 1048576 a) : laws_toProgram a = some a := by
  obtain ⟨h0, h1⟩ := h
  unfold laws_toProgram
  simp only [laws_toNodeS_p a.Nodes h0, laws_toFnS_p a.Fns h1, Option.bind_some]
theorem laws_eqProgram_p (a b : GProgram) (ha : GProgram.le 1048576 a) (hb : GProgram.le 1048576 b) : laws_eqProgram a b = some (decide (a = b)) := by
  obtain ⟨ha0, ha1⟩ := ha
  obtain ⟨hb0, hb1⟩ := hb
  unfold laws_eqProgram
  simp only [sEq_iff, Option.bind_some, laws_eqNodeS_p a.Nodes b.Nodes ha0 hb0, laws_eqFnS_p a.Fns b.Fns ha1 hb1]
  rw [show decide (a = b) = decide (a.Nodes = b.Nodes ∧ a.Fns = b.Fns) from by simp only [GProgram.ext' a b]]
  by_cases e0 : a.Nodes = b.Nodes <;> by_cases e1 : a.Fns = b.Fns <;> simp [e0, e1]
end Go.OM
set_option linter.unusedVariables false
set_option linter.unusedSimpArgs false
namespace Go.OM
/-! ### KindCount -/
theorem impl_KindCount_eq : impl_KindCount = spec_KindCount := rfl
theorem spec_KindCount_some (p : GProgram) (kind : Int) (hp : p.Nodes.length ≤ 1048576) : ∃ r, spec_KindCount p kind = some r := by
  obtain ⟨r, h1, _⟩ := loopP_run (f := spec_KindCount_l1 p kind) (fun s : Int × Int => ∃ k : Nat, s.2 = k ∧ k ≤ p.Nodes.length ∧ 0 ≤ s.1 ∧ s.1 ≤ k) (fun s => p.Nodes.length - s.2.toNat) (fun _ => True) (by
    rintro ⟨n, i⟩ ⟨k, hi, hk, h0, h1⟩
    simp only at hi h0 h1
    subst hi
    by_cases hlt : k < p.Nodes.length
    · left
      have hw := w64_succ hlt (show p.Nodes.length ≤ maxLen by show _ ≤ 9223372036854775807; omega)
      simp only [spec_KindCount_l1, ofNat_lt_true hlt, if_true, getI_at hlt, Option.bind_some, hw, w64 (n := n + 1) (by omega) (by omega)]
      split
      · exact ⟨_, rfl, ⟨k + 1, rfl, by omega, by simp only; omega, by simp only; omega⟩, by simp only [Int.toNat_natCast]; omega⟩
      · exact ⟨_, rfl, ⟨k + 1, rfl, by omega, by simp only; omega, by simp only; omega⟩, by simp only [Int.toNat_natCast]; omega⟩
    · right
      have hke : k = p.Nodes.length := by omega
      subst hke
      exact ⟨n, by simp [spec_KindCount_l1], trivial⟩) (0, 0) ⟨0, rfl, by omega, by simp, by simp⟩
  exact ⟨r, by unfold spec_KindCount; rw [h1]; rfl⟩
theorem law_KindCount (p : GProgram) (kind : Int) (hw : GProgram.le maxLen p) : laws_FnExactKindCount p kind = some true := by
  unfold laws_FnExactKindCount
  obtain ⟨r, h1, h2, h3⟩ := laws_szProgram_p p hw 1048576 (by omega) (by omega)
  rw [h1]
  simp only [Option.bind_some]
  by_cases hr : r < 0
  · simp [hr]
  · have hp := h3 (by omega)
    obtain ⟨v, hv⟩ := spec_KindCount_some p kind hp.1.1
    simp [hr, laws_toProgram_p p hp, impl_KindCount_eq, hv, laws_eqProgram_p p p hp hp]
/-! ### CaseText -/
theorem impl_in_eq : impl_in = spec_l01In := rfl
theorem in_eq (x a b : Int) : spec_l01In x a b = some (decide (a ≤ x) && decide (x ≤ b)) := by
  unfold spec_l01In
  by_cases h : x ≥ a
  · simp [h, show a ≤ x from h]
  · simp [h, show ¬ a ≤ x from h]
theorem varText_l1_eq : impl_varText_l1 = spec_l01Var_l1 := by
  funext ⟨n, out⟩
  simp only [impl_varText_l1, spec_l01Var_l1, Int.add_comm]
theorem varText_eq : impl_varText = spec_l01Var := by
  funext n
  unfold impl_varText spec_l01Var
  rw [varText_l1_eq]
theorem bytesOf_size (l : List Int) : (bytesOf l).size = l.length := by simp [bytesOf, ByteArray.size]
theorem appI_ok {α : Type} {n : Nat} {a b : List α} (h : (a.length + b.length) * n ≤ 140737488355328) (h2 : a.length + b.length ≤ 140737488355328) : appI n a b = some (a ++ b) := by
  unfold appI; rw [if_pos ⟨h, h2⟩]
theorem var_some (n : Int) (h0 : 0 ≤ n) (h1 : n ≤ 1000000000) : ∃ z, spec_l01Var n = some z ∧ z.size ≤ 1000000001 := by
  obtain ⟨r, h2, h3⟩ := loopP_run (f := spec_l01Var_l1) (fun s : Int × List Int => 0 ≤ s.1 ∧ s.1 ≤ 1000000000 ∧ s.2.length + s.1.toNat ≤ 1000000000) (fun s => s.1.toNat) (fun r => r.2.length ≤ 1000000000) (by
    rintro ⟨n, out⟩ ⟨h0, h1, h2⟩
    simp only at h0 h1 h2
    by_cases hn : n > 127
    · left
      have hd : 0 ≤ Int.tdiv n 128 ∧ Int.tdiv n 128 < n := by
        rw [Int.tdiv_eq_ediv_of_nonneg h0]; omega
      refine ⟨_, by simp only [spec_l01Var_l1, hn, decide_true, if_true]; rw [appI_ok (by simp; omega) (by simp; omega)]; simp only [Option.bind_some]; rw [w64 (n := Int.tdiv n 128) (by omega) (by omega)], ⟨by simp only; omega, by simp only; omega, by simp only [List.length_append, List.length_cons, List.length_nil]; omega⟩, by simp only; omega⟩
    · right
      exact ⟨(n, out), by simp [spec_l01Var_l1, hn], by simp only; omega⟩) (n, []) ⟨h0, h1, by simp; omega⟩
  obtain ⟨m, out⟩ := r
  unfold spec_l01Var
  rw [h2]
  simp only [Option.bind_some]
  simp only at h3
  rw [appI_ok (by simp; omega) (by simp; omega)]
  exact ⟨_, rfl, by rw [bytesOf_size]; simp; omega⟩
theorem nums_l1_eq (l : List Int) : impl_numbersText_l1 l = spec_l27Nums_l1 l := by
  funext ⟨s, i⟩
  simp only [impl_numbersText_l1, spec_l27Nums_l1]
  split
  · cases hg : getI l i with
    | none => rfl
    | some e =>
      simp only [Option.bind_some, impl_VarText, impl_in_eq, in_eq, varText_eq]
      by_cases hc : (decide (0 ≤ e) && decide (e ≤ 1000000000)) = true
      · simp only [hc, Bool.not_true, Bool.false_eq_true, if_false]
        cases spec_l01Var e with
        | none => rfl
        | some z => rfl
      · simp only [hc, Bool.not_false, if_true, Option.bind_some]
  · rfl
theorem nums_eq (l : List Int) : impl_numbersText l = spec_l27Nums l := by
  unfold impl_numbersText spec_l27Nums
  rw [varText_eq, nums_l1_eq]
theorem sCat_ok {x y : ByteArray} (h : x.size + y.size ≤ 9223372036854775807) : sCat x y = some (x ++ y) := by unfold sCat; rw [if_pos h]
theorem size_nil : (⟨#[]⟩ : ByteArray).size = 0 := rfl
theorem nums_some (l : List Int) : ∃ z b, spec_l27Nums l = some (z, b) ∧ z.size ≤ 101 * 1000000001 := by
  unfold spec_l27Nums
  by_cases hl : (l.length : Int) > 100
  · exact ⟨⟨#[]⟩, false, by simp only [hl, decide_true, if_true], by rw [size_nil]; omega⟩
  · simp only [hl, decide_false, Bool.false_eq_true, if_false]
    obtain ⟨z, hz, hzs⟩ := var_some l.length (by omega) (by omega)
    rw [hz]
    simp only [Option.bind_some]
    obtain ⟨r, h1, h2⟩ := loopP_run (f := spec_l27Nums_l1 l) (fun s : ByteArray × Int => ∃ k : Nat, s.2 = k ∧ k ≤ l.length ∧ s.1.size ≤ (k + 1) * 1000000001) (fun s => l.length - s.2.toNat) (fun r => (match r with | Sum.inr (z : ByteArray × Bool) => z | Sum.inl s => (s, true)).1.size ≤ 101 * 1000000001) (by
      rintro ⟨s, i⟩ ⟨k, hi, hk, hs⟩
      simp only at hi hs
      subst hi
      by_cases hlt : k < l.length
      · simp only [spec_l27Nums_l1, ofNat_lt_true hlt, if_true, getI_at hlt, Option.bind_some, in_eq, w64_succ hlt (show l.length ≤ maxLen by show _ ≤ 9223372036854775807; omega)]
        by_cases hc : (decide (0 ≤ l[k]) && decide (l[k] ≤ 1000000000)) = true
        · left
          simp only [Bool.and_eq_true, decide_eq_true_eq] at hc
          obtain ⟨y, hy, hys⟩ := var_some l[k] hc.1 hc.2
          simp only [hc.1, hc.2, decide_true, Bool.and_self, Bool.not_true, Bool.false_eq_true, if_false, hy, Option.bind_some]
          rw [sCat_ok (by omega)]
          exact ⟨_, rfl, ⟨k + 1, rfl, by omega, by simp only [ByteArray.size_append]; omega⟩, by simp only [Int.toNat_natCast]; omega⟩
        · right
          simp only [hc, Bool.not_false, if_true]
          exact ⟨_, rfl, by show (⟨#[]⟩ : ByteArray).size ≤ _; rw [size_nil]; omega⟩
      · right
        have hke : k = l.length := by omega
        subst hke
        exact ⟨.inl s, by simp [spec_l27Nums_l1], Nat.le_trans hs (Nat.mul_le_mul_right _ (by omega))⟩) (z, 0) ⟨0, rfl, by omega, by simp only; omega⟩
    rw [h1]
    simp only [Option.bind_some]
    cases r with
    | inl s => exact ⟨s, true, rfl, h2⟩
    | inr z => exact ⟨z.1, z.2, rfl, h2⟩
theorem caseText_eq (c : GCase) : impl_CaseText c = spec_CaseText c := by
  obtain ⟨a, x, h1, h1s⟩ := nums_some c.Input
  obtain ⟨b, y, h2, h2s⟩ := nums_some c.Want
  unfold impl_CaseText spec_CaseText impl_VarText
  simp only [nums_eq, h1, h2, Option.bind_some, impl_in_eq, in_eq, varText_eq]
  by_cases hc : (decide (0 ≤ c.End) && decide (c.End ≤ 1000000000)) = true
  · have hc' := hc
    simp only [Bool.and_eq_true, decide_eq_true_eq] at hc'
    obtain ⟨e, he, hes⟩ := var_some c.End hc'.1 hc'.2
    simp only [hc, he, Option.bind_some, Bool.not_true, Bool.false_eq_true, if_false]
  · cases x <;> cases y <;> simp [hc]
theorem caseText_some (c : GCase) : ∃ z, spec_CaseText c = some z := by
  obtain ⟨a, x, h1, h1s⟩ := nums_some c.Input
  obtain ⟨b, y, h2, h2s⟩ := nums_some c.Want
  unfold spec_CaseText
  simp only [h1, h2, Option.bind_some, in_eq]
  by_cases hc : (decide (0 ≤ c.End) && decide (c.End ≤ 1000000000)) = true
  · have hc' := hc
    simp only [Bool.and_eq_true, decide_eq_true_eq] at hc'
    obtain ⟨e, he, hes⟩ := var_some c.End hc'.1 hc'.2
    cases x <;> cases y <;> simp [hc, he]
    rw [sCat_ok (by omega)]
    simp only [Option.bind_some]
    rw [sCat_ok (by simp only [ByteArray.size_append]; omega)]
    exact ⟨_, rfl⟩
  · cases x <;> cases y <;> simp [hc]
theorem law_CaseText (c : GCase) (hw : GCase.le maxLen c) : laws_FnExactCaseText c = some true := by
  unfold laws_FnExactCaseText
  obtain ⟨r, h1, h2, h3⟩ := laws_szCase_p c hw 1048576 (by omega) (by omega)
  rw [h1]
  simp only [Option.bind_some]
  by_cases hr : r < 0
  · simp [hr]
  · have hp := h3 (by omega)
    obtain ⟨v, hv⟩ := caseText_some c
    simp [hr, laws_toCase_p c hp, caseText_eq, hv, laws_eqCase_p c c hp hp, sEq_iff]
end Go.OM
set_option linter.unusedVariables false
set_option linter.unusedSimpArgs false
namespace Go.OM
/-! ### Loops side by side; texts as lists of numbers -/
theorem loopP_sim {α β ρ ρ' : Type} {f : α → Option (α ⊕ ρ)} {g : β → Option (β ⊕ ρ')} (I : α → β → Prop) (μ : α → Nat) (R : ρ → ρ' → Prop)
    (h : ∀ a b, I a b → (∃ a' b', f a = some (.inl a') ∧ g b = some (.inl b') ∧ I a' b' ∧ μ a' < μ a) ∨ ∃ r r', f a = some (.inr r) ∧ g b = some (.inr r') ∧ R r r') : ∀ a b, I a b → ∃ r r', loopP f a = some r ∧ loopP g b = some r' ∧ R r r' := by
  intro a
  generalize hn : μ a = n
  induction n using Nat.strongRecOn generalizing a with
  | _ n ih =>
    intro b hI
    rw [loopP_eq f, loopP_eq g]
    rcases h a b hI with ⟨a', b', h1, h2, h3, h4⟩ | ⟨r, r', h1, h2, h3⟩
    · rw [h1, h2]; exact ih _ (by omega) a' rfl b' h3
    · rw [h1, h2]; exact ⟨r, r', rfl, rfl, h3⟩
theorem wrap_u8 {n : Int} (h : 0 ≤ n) (h2 : n < 256) : IntKind.wrap .u8 n = n := by
  simp [IntKind.wrap, IntKind.bits, IntKind.signed]; omega
def bs (z : ByteArray) : List Nat := z.data.toList.map UInt8.toNat
theorem bs_length (z : ByteArray) : (bs z).length = z.size := by rw [bs, List.length_map]; exact Array.length_toList
theorem bs_inj {x y : ByteArray} (h : bs x = bs y) : x = y := by
  have h1 : x.data.toList = y.data.toList := by
    refine List.map_inj_right (f := UInt8.toNat) (fun a b e => UInt8.toNat_inj.1 e) |>.1 h
  cases x; cases y
  simp only [ByteArray.mk.injEq]
  exact Array.toList_inj.1 h1
theorem bs_append (x y : ByteArray) : bs (x ++ y) = bs x ++ bs y := by simp [bs, ByteArray.data_append]
theorem bs_extract (z : ByteArray) (a b : Nat) : bs (z.extract a b) = ((bs z).take b).drop a := by
  simp [bs, ByteArray.data_extract, List.map_take, List.map_drop, List.drop_take]
theorem bs_lt (z : ByteArray) : ∀ n ∈ bs z, n < 256 := by
  intro n hn
  obtain ⟨x, _, rfl⟩ := List.mem_map.1 hn
  exact x.toNat_lt
theorem bs_bytesOf (l : List Nat) (h : ∀ n ∈ l, n < 256) : bs (bytesOf (l.map fun n : Nat => (n : Int))) = l := by
  simp only [bs, bytesOf, List.map_map]
  conv => rhs; rw [← List.map_id l]
  apply List.map_congr_left
  intro n hn
  have := h n hn
  simp [UInt8.toNat_ofNat, Nat.mod_eq_of_lt this]
theorem sAt_bs {z : ByteArray} {i : Nat} (h : i < (bs z).length) : sAt z i = some (((bs z)[i] : Nat) : Int) := by
  have h1 : i < z.size := by rw [← bs_length]; exact h
  unfold sAt
  rw [if_pos ⟨by omega, by omega⟩]
  simp only [byteAt, Int.toNat_natCast, bs]
  have e : z.data.toList.length = z.size := Array.length_toList
  have h2 : i < z.data.toList.length := by omega
  rw [List.getD_eq_getElem?_getD, List.getElem?_eq_getElem h2]
  simp only [Option.getD_some, List.getElem_map]
theorem sSub_bs {z : ByteArray} {a b : Nat} (h1 : a ≤ b) (h2 : b ≤ z.size) : ∃ y, sSub z a b = some y ∧ bs y = ((bs z).take b).drop a := by
  unfold sSub
  rw [if_pos ⟨by omega, by omega, by omega⟩]
  exact ⟨_, rfl, by simp only [Int.toNat_natCast]; exact bs_extract z a b⟩
theorem sEq_bs (x y : ByteArray) : sEq x y = decide (bs x = bs y) := by
  rw [sEq_iff]
  exact decide_eq_decide.2 ⟨fun h => by rw [h], bs_inj⟩
/-- A number as bytes. -/
def varL (n : Nat) : List Nat := if n > 127 then (128 + n % 128) :: varL (n / 128) else [n]
termination_by n
decreasing_by omega
theorem varL_big {n : Nat} (h : n > 127) : varL n = (128 + n % 128) :: varL (n / 128) := by rw [varL, if_pos h]
theorem varL_small {n : Nat} (h : n ≤ 127) : varL n = [n] := by rw [varL, if_neg (by omega)]
theorem varL_lt (n : Nat) : ∀ x ∈ varL n, x < 256 := by
  induction n using Nat.strongRecOn with
  | _ n ih =>
    by_cases h : n > 127
    · rw [varL_big h]
      intro x hx
      rcases List.mem_cons.1 hx with rfl | hx
      · omega
      · exact ih _ (by omega) x hx
    · rw [varL_small (by omega)]
      intro x hx
      simp at hx; omega
theorem varL_len (n : Nat) : (varL n).length ≤ n + 1 := by
  induction n using Nat.strongRecOn with
  | _ n ih =>
    by_cases h : n > 127
    · rw [varL_big h]
      have := ih (n / 128) (by omega)
      simp only [List.length_cons]; omega
    · rw [varL_small (by omega)]; simp
theorem var_bs (n : Nat) (h : n ≤ 1000000000) : ∃ z, spec_l01Var n = some z ∧ bs z = varL n := by
  obtain ⟨r, h1, h2⟩ := loopP_run (f := spec_l01Var_l1) (fun s : Int × List Int => ∃ m : Nat, s.1 = m ∧ m ≤ n ∧ s.2 ++ (varL m).map (fun n : Nat => (n : Int)) = (varL n).map (fun n : Nat => (n : Int))) (fun s => s.1.toNat) (fun r => r.2 ++ [IntKind.wrap .u8 r.1] = (varL n).map (fun n : Nat => (n : Int))) (by
    rintro ⟨i, out⟩ ⟨m, hi, hm, he⟩
    simp only at hi he
    subst hi
    have hlen : out.length ≤ n + 1 := by
      have e1 := congrArg List.length he
      have e2 := varL_len n
      simp only [List.length_append, List.length_map] at e1; omega
    by_cases hn : m > 127
    · left
      have hc : ((m : Int) > 127) := by omega
      have ht : Int.tmod (m : Int) 128 = ((m % 128 : Nat) : Int) := by rw [Int.tmod_eq_emod_of_nonneg (by omega)]; omega
      have hd : Int.tdiv (m : Int) 128 = ((m / 128 : Nat) : Int) := by rw [Int.tdiv_eq_ediv_of_nonneg (by omega)]; omega
      refine ⟨(((m / 128 : Nat) : Int), out ++ [((128 + m % 128 : Nat) : Int)]), ?_, ⟨m / 128, rfl, by omega, ?_⟩, by simp only [Int.toNat_natCast]; omega⟩
      · simp only [spec_l01Var_l1, hc, decide_true, if_true, ht, hd]
        rw [w64 (by omega) (by omega), w64 (by omega) (by omega), wrap_u8 (by omega) (by omega), appI_ok (by simp; omega) (by simp; omega)]
        simp only [Option.bind_some]
        rw [show ((m % 128 : Nat) : Int) + 128 = ((128 + m % 128 : Nat) : Int) by omega]
      · simp only
        rw [← he, varL_big hn]; simp
    · right
      have hc : ¬ ((m : Int) > 127) := by omega
      refine ⟨((m : Int), out), by simp [spec_l01Var_l1, hc], ?_⟩
      simp only
      rw [← he, varL_small (by omega), wrap_u8 (by omega) (by omega)]; simp) ((n : Int), []) ⟨n, rfl, Nat.le_refl _, by simp⟩
  obtain ⟨m, out⟩ := r
  unfold spec_l01Var
  rw [h1]
  simp only [Option.bind_some]
  simp only at h2
  have hl : out.length ≤ n + 1 := by
    have e1 := congrArg List.length h2
    have e2 := varL_len n
    simp only [List.length_append, List.length_map, List.length_cons, List.length_nil] at e1; omega
  rw [appI_ok (by simp; omega) (by simp; omega)]
  exact ⟨_, rfl, by rw [h2, bs_bytesOf _ (varL_lt n)]⟩
/-- What bytes tell. -/
def dig : List Nat → Nat
  | [] => 0
  | d :: ds => d % 128 + 128 * dig ds
theorem dig_app (ds : List Nat) (x : Nat) : dig (ds ++ [x]) = dig ds + x % 128 * 128 ^ ds.length := by
  induction ds with
  | nil => simp [dig]
  | cons d ds ih =>
    simp only [List.cons_append, dig, ih, List.length_cons, Nat.pow_succ]
    rw [Nat.mul_add, Nat.mul_comm (128 ^ ds.length) 128, ← Nat.mul_assoc (x % 128), Nat.mul_comm (x % 128) 128, Nat.mul_assoc]
    omega
theorem dig_lt (ds : List Nat) : dig ds < 128 ^ ds.length := by
  induction ds with
  | nil => simp [dig]
  | cons d ds ih =>
    simp only [dig, List.length_cons, Nat.pow_succ]; omega
theorem varL_dig (ds : List Nat) (x : Nat) (h : ∀ d ∈ ds, 128 ≤ d ∧ d < 256) (hx : x < 128) (hc : ds = [] ∨ 0 < x) : varL (dig (ds ++ [x])) = ds ++ [x] ∧ (0 < x → 0 < dig (ds ++ [x])) := by
  induction ds with
  | nil =>
    simp only [List.nil_append, dig]
    rw [show x % 128 + 128 * 0 = x by omega, varL_small (by omega)]
    exact ⟨rfl, id⟩
  | cons d ds ih =>
    have h0 : 0 < x := by rcases hc with h | h; · cases h
                          · exact h
    obtain ⟨h1, h2⟩ := ih (fun y hy => h y (by simp [hy])) (.inr h0)
    have h3 := h2 h0
    have h4 := h d (by simp)
    simp only [List.cons_append, dig]
    rw [varL_big (by omega), show (d % 128 + 128 * dig (ds ++ [x])) / 128 = dig (ds ++ [x]) by omega, h1, show 128 + (d % 128 + 128 * dig (ds ++ [x])) % 128 = d by omega]
    exact ⟨rfl, fun _ => by omega⟩
theorem varL_dig0 (ds : List Nat) : ds ≠ [] → (varL (dig (ds ++ [0]))).length ≤ ds.length := by
  induction ds with
  | nil => intro h; exact absurd rfl h
  | cons d ds ih =>
    intro _
    simp only [List.cons_append, dig, List.length_cons]
    by_cases h : d % 128 + 128 * dig (ds ++ [0]) > 127
    · have hne : ds ≠ [] := by
        intro e; subst e; simp [dig] at h; omega
      rw [varL_big h, show (d % 128 + 128 * dig (ds ++ [0])) / 128 = dig (ds ++ [0]) by omega]
      have := ih hne
      simp only [List.length_cons]; omega
    · rw [varL_small (by omega)]; simp
end Go.OM
