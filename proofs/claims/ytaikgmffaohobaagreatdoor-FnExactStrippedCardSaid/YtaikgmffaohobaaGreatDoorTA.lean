import Derived.Test.YtaikgmffaohobaaGreatDoorOmC
import Derived.Lib.Split
import Derived.Lib.ItoaNum
import Derived.Test.YtaikgmffaohobaaGreatDoorProg
import Derived.KernelRfl
set_option linter.unusedVariables false
set_option linter.unusedSimpArgs false
set_option linter.unusedVariables false
noncomputable section
namespace Go.OM
def strings_Split (s sep:ByteArray):Option (List ByteArray):=if s.size < 4294967281∧1 ≤ sep.size∧(Lib.splitB sep 0 (Lib.countB s sep) s).length=Lib.countB s sep + 1 then some (Lib.splitB sep 0 (Lib.countB s sep) s) else none
end Go.OM
end
namespace Go.OM
def sort_Ints (l:List Int):Option (List Int):=if l.length < 4611686018427387904 then some (l.mergeSort fun x y=>decide (x ≤ y)) else none
end Go.OM
set_option linter.unusedSimpArgs false
namespace Go.OM
def dN:Nat:=1048576
abbrev vi (n:Int):T:=.v (.int .i64 n)
abbrev vk (k:IntKind) (n:Int):T:=.v (.int k n)
abbrev vb (b:Bool):T:=.v (.bool b)
abbrev vs (z:ByteArray):T:=.v (.string z)
abbrev eSl {α:Type} (o:Bool) (s:Nat) (f:α→T) (l:List α):T:=.sl o s (l.map f)
@[simp] theorem own_vi (l:List Int):T.hasOwnL (l.map vi)=false:=bG vi (fun _=>rfl) l
@[simp] theorem own_vk (k:IntKind) (l:List Int):T.hasOwnL (l.map (vk k))=false:=bG _ (fun _=>rfl) l
@[simp] theorem own_vb (l:List Bool):T.hasOwnL (l.map vb)=false:=bG _ (fun _=>rfl) l
@[simp] theorem own_vs (l:List ByteArray):T.hasOwnL (l.map vs)=false:=bG _ (fun _=>rfl) l
@[simp] theorem ro_vi (l:List Int):T.roL (l.map vi)=l.map vi:=fI _ _ (fun _=>rfl) l
@[simp] theorem ro_vk (k:IntKind) (l:List Int):T.roL (l.map (vk k))=l.map (vk k):=fI _ _ (fun _=>rfl) l
@[simp] theorem ro_vb (l:List Bool):T.roL (l.map vb)=l.map vb:=fI _ _ (fun _=>rfl) l
@[simp] theorem ro_vs (l:List ByteArray):T.roL (l.map vs)=l.map vs:=fI _ _ (fun _=>rfl) l
@[simp] theorem noRo_vi (l:List Int):T.noRoL (l.map vi)=true:=dK _ (fun _=>rfl) l
@[simp] theorem noRo_vk (k:IntKind) (l:List Int):T.noRoL (l.map (vk k))=true:=dK _ (fun _=>rfl) l
@[simp] theorem noRo_vb (l:List Bool):T.noRoL (l.map vb)=true:=dK _ (fun _=>rfl) l
@[simp] theorem noRo_vs (l:List ByteArray):T.noRoL (l.map vs)=true:=dK _ (fun _=>rfl) l
@[simp] theorem own_eSl {α:Type} {s:Nat} {f:α→T} (h:∀ l:List α,T.hasOwnL (l.map f)=false) (l:List (List α)):T.hasOwnL (l.map (eSl false s f))=false:=bG _ (fun x=>by simp [h x]) l
@[simp] theorem ro_eSl {α:Type} {o:Bool} {s:Nat} {f:α→T} (h:∀ l:List α,T.roL (l.map f)=l.map f) (l:List (List α)):T.roL (l.map (eSl o s f))=l.map (eSl false s f):=fI _ _ (fun x=>by simp [h x]) l
@[simp] theorem noRo_eSl {α:Type} {s:Nat} {f:α→T} (h:∀ l:List α,T.noRoL (l.map f)=true) (l:List (List α)):T.noRoL (l.map (eSl true s f))=true:=dK _ (fun x=>by simp [h x]) l
theorem aA {α:Type} {c:Prop} [Decidable c] {a b:Option α} {r:α} (h:(if c then a else b)=some r):(c∧a=some r) ∨ (¬ c∧b=some r):=by
 by_cases hc:c
 ·rw [if_pos hc] at h;exact .inl ⟨hc,h⟩
 ·rw [if_neg hc] at h;exact .inr ⟨hc,h⟩
structure GNode where
 Kind:Int
 Num:Int
 Name:ByteArray
 Kids:List Int
 deriving DecidableEq
def GNode.enc (o:Bool) (x:GNode):T:=.agg [vi x.Kind,vi x.Num,vs x.Name,.sl o 1 (List.map vi x.Kids)]
@[simp] theorem GNode.own (x:GNode):(x.enc false).hasOwn=false:=by simp [GNode.enc]
@[simp] theorem GNode.ownT (x:GNode):(x.enc true).hasOwn=true:=by simp [GNode.enc]
@[simp] theorem GNode.ownL (l:List GNode):T.hasOwnL (l.map (GNode.enc false))=false:=bG _ (fun x=>by simp) l
@[simp] theorem GNode.ro1 (o:Bool) (x:GNode):(x.enc o).ro=x.enc false:=by cases o<;>simp [GNode.enc,T.roL_map,Function.comp_def]
@[simp] theorem GNode.roL (o:Bool) (l:List GNode):T.roL (l.map (GNode.enc o))=l.map (GNode.enc false):=fI _ _ (fun x=>by simp) l
@[simp] theorem GNode.noRo (x:GNode):(x.enc true).noRo=true:=by simp [GNode.enc]
@[simp] theorem GNode.noRoL (l:List GNode):T.noRoL (l.map (GNode.enc true))=true:=dK _ (fun x=>by simp) l
structure GParam where
 Name:ByteArray
 Typ:Int
 deriving DecidableEq
def GParam.enc (x:GParam):T:=.agg [vs x.Name,vi x.Typ]
@[simp] theorem GParam.own (x:GParam):x.enc.hasOwn=false:=by simp [GParam.enc]
@[simp] theorem GParam.ownL (l:List GParam):T.hasOwnL (l.map GParam.enc)=false:=bG _ (fun x=>by simp) l
@[simp] theorem GParam.ro1 (x:GParam):x.enc.ro=x.enc:=by simp [GParam.enc]
@[simp] theorem GParam.roL (l:List GParam):T.roL (l.map GParam.enc)=l.map GParam.enc:=fI _ _ (fun x=>by simp) l
@[simp] theorem GParam.noRo (x:GParam):x.enc.noRo=true:=by simp [GParam.enc]
@[simp] theorem GParam.noRoL (l:List GParam):T.noRoL (l.map GParam.enc)=true:=dK _ (fun x=>by simp) l
structure GFn where
 Name:ByteArray
 Params:List GParam
 Res:Int
 Body:Int
 Ret:Int
 deriving DecidableEq
def GFn.enc (o:Bool) (x:GFn):T:=.agg [vs x.Name,.sl o 2 (List.map GParam.enc x.Params),vi x.Res,vi x.Body,vi x.Ret]
@[simp] theorem GFn.own (x:GFn):(x.enc false).hasOwn=false:=by simp [GFn.enc]
@[simp] theorem GFn.ownT (x:GFn):(x.enc true).hasOwn=true:=by simp [GFn.enc]
@[simp] theorem GFn.ownL (l:List GFn):T.hasOwnL (l.map (GFn.enc false))=false:=bG _ (fun x=>by simp) l
@[simp] theorem GFn.ro1 (o:Bool) (x:GFn):(x.enc o).ro=x.enc false:=by cases o<;>simp [GFn.enc,T.roL_map,Function.comp_def]
@[simp] theorem GFn.roL (o:Bool) (l:List GFn):T.roL (l.map (GFn.enc o))=l.map (GFn.enc false):=fI _ _ (fun x=>by simp) l
@[simp] theorem GFn.noRo (x:GFn):(x.enc true).noRo=true:=by simp [GFn.enc]
@[simp] theorem GFn.noRoL (l:List GFn):T.noRoL (l.map (GFn.enc true))=true:=dK _ (fun x=>by simp) l
structure GProgram where
 Nodes:List GNode
 Fns:List GFn
 deriving DecidableEq
def GProgram.enc (o:Bool) (x:GProgram):T:=.agg [.sl o 4 (List.map (GNode.enc o) x.Nodes),.sl o 5 (List.map (GFn.enc o) x.Fns)]
@[simp] theorem GProgram.own (x:GProgram):(x.enc false).hasOwn=false:=by simp [GProgram.enc]
@[simp] theorem GProgram.ownT (x:GProgram):(x.enc true).hasOwn=true:=by simp [GProgram.enc]
@[simp] theorem GProgram.ownL (l:List GProgram):T.hasOwnL (l.map (GProgram.enc false))=false:=bG _ (fun x=>by simp) l
@[simp] theorem GProgram.ro1 (o:Bool) (x:GProgram):(x.enc o).ro=x.enc false:=by cases o<;>simp [GProgram.enc,T.roL_map,Function.comp_def]
@[simp] theorem GProgram.roL (o:Bool) (l:List GProgram):T.roL (l.map (GProgram.enc o))=l.map (GProgram.enc false):=fI _ _ (fun x=>by simp) l
@[simp] theorem GProgram.noRo (x:GProgram):(x.enc true).noRo=true:=by simp [GProgram.enc]
@[simp] theorem GProgram.noRoL (l:List GProgram):T.noRoL (l.map (GProgram.enc true))=true:=dK _ (fun x=>by simp) l
structure GVar where
 Name:ByteArray
 Typ:Int
 Node:Int
 deriving DecidableEq
def GVar.enc (x:GVar):T:=.agg [vs x.Name,vi x.Typ,vi x.Node]
@[simp] theorem GVar.own (x:GVar):x.enc.hasOwn=false:=by simp [GVar.enc]
@[simp] theorem GVar.ownL (l:List GVar):T.hasOwnL (l.map GVar.enc)=false:=bG _ (fun x=>by simp) l
@[simp] theorem GVar.ro1 (x:GVar):x.enc.ro=x.enc:=by simp [GVar.enc]
@[simp] theorem GVar.roL (l:List GVar):T.roL (l.map GVar.enc)=l.map GVar.enc:=fI _ _ (fun x=>by simp) l
@[simp] theorem GVar.noRo (x:GVar):x.enc.noRo=true:=by simp [GVar.enc]
@[simp] theorem GVar.noRoL (l:List GVar):T.noRoL (l.map GVar.enc)=true:=dK _ (fun x=>by simp) l
structure Gl07Seen where
 p:GProgram
 fn:Int
 there:List ByteArray
 bad:Bool
 deriving DecidableEq
def Gl07Seen.enc (o:Bool) (x:Gl07Seen):T:=.agg [.sl o 4 (List.map (GNode.enc o) x.p.Nodes),.sl o 5 (List.map (GFn.enc o) x.p.Fns),vi x.fn,.sl o 1 (List.map vs x.there),vb x.bad]
@[simp] theorem Gl07Seen.own (x:Gl07Seen):(x.enc false).hasOwn=false:=by simp [Gl07Seen.enc]
@[simp] theorem Gl07Seen.ownT (x:Gl07Seen):(x.enc true).hasOwn=true:=by simp [Gl07Seen.enc]
@[simp] theorem Gl07Seen.ownL (l:List Gl07Seen):T.hasOwnL (l.map (Gl07Seen.enc false))=false:=bG _ (fun x=>by simp) l
@[simp] theorem Gl07Seen.ro1 (o:Bool) (x:Gl07Seen):(x.enc o).ro=x.enc false:=by cases o<;>simp [Gl07Seen.enc,T.roL_map,Function.comp_def]
@[simp] theorem Gl07Seen.roL (o:Bool) (l:List Gl07Seen):T.roL (l.map (Gl07Seen.enc o))=l.map (Gl07Seen.enc false):=fI _ _ (fun x=>by simp) l
@[simp] theorem Gl07Seen.noRo (x:Gl07Seen):(x.enc true).noRo=true:=by simp [Gl07Seen.enc]
@[simp] theorem Gl07Seen.noRoL (l:List Gl07Seen):T.noRoL (l.map (Gl07Seen.enc true))=true:=dK _ (fun x=>by simp) l
structure Gl04Pack where
 from_:List GNode
 to_:List GNode
 bad:Bool
 deriving DecidableEq
def Gl04Pack.enc (o:Bool) (x:Gl04Pack):T:=.agg [.sl o 4 (List.map (GNode.enc o) x.from_),.sl o 4 (List.map (GNode.enc o) x.to_),vb x.bad]
@[simp] theorem Gl04Pack.own (x:Gl04Pack):(x.enc false).hasOwn=false:=by simp [Gl04Pack.enc]
@[simp] theorem Gl04Pack.ownT (x:Gl04Pack):(x.enc true).hasOwn=true:=by simp [Gl04Pack.enc]
@[simp] theorem Gl04Pack.ownL (l:List Gl04Pack):T.hasOwnL (l.map (Gl04Pack.enc false))=false:=bG _ (fun x=>by simp) l
@[simp] theorem Gl04Pack.ro1 (o:Bool) (x:Gl04Pack):(x.enc o).ro=x.enc false:=by cases o<;>simp [Gl04Pack.enc,T.roL_map,Function.comp_def]
@[simp] theorem Gl04Pack.roL (o:Bool) (l:List Gl04Pack):T.roL (l.map (Gl04Pack.enc o))=l.map (Gl04Pack.enc false):=fI _ _ (fun x=>by simp) l
@[simp] theorem Gl04Pack.noRo (x:Gl04Pack):(x.enc true).noRo=true:=by simp [Gl04Pack.enc]
@[simp] theorem Gl04Pack.noRoL (l:List Gl04Pack):T.noRoL (l.map (Gl04Pack.enc true))=true:=dK _ (fun x=>by simp) l
structure Gpacker where
 from_:List GNode
 to_:List GNode
 bad:Bool
 deriving DecidableEq
def Gpacker.enc (o:Bool) (x:Gpacker):T:=.agg [.sl o 4 (List.map (GNode.enc o) x.from_),.sl o 4 (List.map (GNode.enc o) x.to_),vb x.bad]
@[simp] theorem Gpacker.own (x:Gpacker):(x.enc false).hasOwn=false:=by simp [Gpacker.enc]
@[simp] theorem Gpacker.ownT (x:Gpacker):(x.enc true).hasOwn=true:=by simp [Gpacker.enc]
@[simp] theorem Gpacker.ownL (l:List Gpacker):T.hasOwnL (l.map (Gpacker.enc false))=false:=bG _ (fun x=>by simp) l
@[simp] theorem Gpacker.ro1 (o:Bool) (x:Gpacker):(x.enc o).ro=x.enc false:=by cases o<;>simp [Gpacker.enc,T.roL_map,Function.comp_def]
@[simp] theorem Gpacker.roL (o:Bool) (l:List Gpacker):T.roL (l.map (Gpacker.enc o))=l.map (Gpacker.enc false):=fI _ _ (fun x=>by simp) l
@[simp] theorem Gpacker.noRo (x:Gpacker):(x.enc true).noRo=true:=by simp [Gpacker.enc]
@[simp] theorem Gpacker.noRoL (l:List Gpacker):T.noRoL (l.map (Gpacker.enc true))=true:=dK _ (fun x=>by simp) l
attribute [simp] GNode.enc GParam.enc GFn.enc GProgram.enc GVar.enc Gl07Seen.enc Gl04Pack.enc Gpacker.enc
end Go.OM
noncomputable section
namespace Go.OM
def kK (a1:List Int) (left2:Int):Option (Int) :=
 if (decide (IntKind.wrap .i64 (left2 - (a1.length:Int)) < 0))=true then
  some (-1)
 else
  some (IntKind.wrap .i64 (left2 - (a1.length:Int)))
def kJ (a1:GNode) (left2:Int):Option (Int) :=
 if (decide (IntKind.wrap .i64 (left2 - (a1.Name.size:Int)) < 0))=true then
  some (-1)
 else
  (kK a1.Kids (IntKind.wrap .i64 (left2 - (a1.Name.size:Int)))).bind fun r5 =>
  if (decide (r5 < 0))=true then
   some (-1)
  else
   some r5
def cS (a1:List GNode):(Int × Int)→Option ((Int × Int) ⊕ ((Int) ⊕ (Int))):=fun ⟨left8,i9⟩ =>
 if (decide (i9 < (a1.length:Int)))=true then
  (getI a1 i9).bind fun e15 =>
  (kJ e15 left8).bind fun r16 =>
  if (decide (r16 < 0))=true then
   some (Sum.inr (Sum.inr (-1)))
  else
   some (Sum.inl (r16,IntKind.wrap .i64 (i9 + 1)))
 else
  some (Sum.inr (Sum.inl left8))
def iX (a1:List GNode) (left2:Int):Option (Int) :=
 if (decide (IntKind.wrap .i64 (left2 - (a1.length:Int)) < 0))=true then
  some (-1)
 else
  Option.bind (
   aG (cS a1) (IntKind.wrap .i64 (left2 - (a1.length:Int)),0)) fun j7 =>
  match j7 with
  | Sum.inr z=>some z
  | Sum.inl left22 =>
   some left22
def iW (a1:GParam) (left2:Int):Option (Int) :=
 if (decide (IntKind.wrap .i64 (left2 - (a1.Name.size:Int)) < 0))=true then
  some (-1)
 else
  some (IntKind.wrap .i64 (left2 - (a1.Name.size:Int)))
def bX (a1:List GParam):(Int × Int)→Option ((Int × Int) ⊕ ((Int) ⊕ (Int))):=fun ⟨left8,i9⟩ =>
 if (decide (i9 < (a1.length:Int)))=true then
  (getI a1 i9).bind fun e15 =>
  (iW e15 left8).bind fun r16 =>
  if (decide (r16 < 0))=true then
   some (Sum.inr (Sum.inr (-1)))
  else
   some (Sum.inl (r16,IntKind.wrap .i64 (i9 + 1)))
 else
  some (Sum.inr (Sum.inl left8))
def hJ (a1:List GParam) (left2:Int):Option (Int) :=
 if (decide (IntKind.wrap .i64 (left2 - (a1.length:Int)) < 0))=true then
  some (-1)
 else
  Option.bind (
   aG (bX a1) (IntKind.wrap .i64 (left2 - (a1.length:Int)),0)) fun j7 =>
  match j7 with
  | Sum.inr z=>some z
  | Sum.inl left22 =>
   some left22
def nX (a1:GFn) (left2:Int):Option (Int) :=
 if (decide (IntKind.wrap .i64 (left2 - (a1.Name.size:Int)) < 0))=true then
  some (-1)
 else
  (hJ a1.Params (IntKind.wrap .i64 (left2 - (a1.Name.size:Int)))).bind fun r5 =>
  if (decide (r5 < 0))=true then
   some (-1)
  else
   some r5
def eH (a1:List GFn):(Int × Int)→Option ((Int × Int) ⊕ ((Int) ⊕ (Int))):=fun ⟨left8,i9⟩ =>
 if (decide (i9 < (a1.length:Int)))=true then
  (getI a1 i9).bind fun e15 =>
  (nX e15 left8).bind fun r16 =>
  if (decide (r16 < 0))=true then
   some (Sum.inr (Sum.inr (-1)))
  else
   some (Sum.inl (r16,IntKind.wrap .i64 (i9 + 1)))
 else
  some (Sum.inr (Sum.inl left8))
def mB (a1:List GFn) (left2:Int):Option (Int) :=
 if (decide (IntKind.wrap .i64 (left2 - (a1.length:Int)) < 0))=true then
  some (-1)
 else
  Option.bind (
   aG (eH a1) (IntKind.wrap .i64 (left2 - (a1.length:Int)),0)) fun j7 =>
  match j7 with
  | Sum.inr z=>some z
  | Sum.inl left22 =>
   some left22
def gA (a1:GProgram) (left2:Int):Option (Int) :=
 (iX a1.Nodes left2).bind fun r3 =>
 if (decide (r3 < 0))=true then
  some (-1)
 else
  (mB a1.Fns r3).bind fun r7 =>
  if (decide (r7 < 0))=true then
   some (-1)
  else
   some r7
def aP (x1:Int) (least2:Int) (most3:Int):Option (Bool) :=
 Option.bind (
  if (decide (x1 ≥ least2))=true then
   some (decide (x1 ≤ most3))
  else
   some false) fun v8 =>
 some v8
def eM (b1:Int):Option (Bool) :=
 Option.bind (
  if (decide (b1 ≥ 97))=true then
   some (decide (b1 ≤ 122))
  else
   some false) fun v6 =>
 some v6
def kZ:Option (List ByteArray) :=
 some [(⟨#[102,110]⟩:ByteArray),(⟨#[108,101,116]⟩:ByteArray),(⟨#[105,102]⟩:ByteArray),(⟨#[101,108,115,101]⟩:ByteArray),(⟨#[119,104,105,108,101]⟩:ByteArray),(⟨#[112,114,105,110,116]⟩:ByteArray),(⟨#[100,111]⟩:ByteArray),(⟨#[110,101,119]⟩:ByteArray),(⟨#[99,108,111,110,101]⟩:ByteArray),(⟨#[109,117,116]⟩:ByteArray),(⟨#[105,110,112,117,116]⟩:ByteArray),(⟨#[105,110,116]⟩:ByteArray),(⟨#[98,111,120]⟩:ByteArray),(⟨#[114,101,116]⟩:ByteArray)]
def fB (s1:ByteArray) (r2:List ByteArray):Int→Option ((Int) ⊕ ((Unit) ⊕ (Bool))):=fun i7 =>
 if (decide (i7 < (r2.length:Int)))=true then
  (getI r2 i7).bind fun e13 =>
  if (sEq e13 s1)=true then
   some (Sum.inr (Sum.inr true))
  else
   some (Sum.inl (IntKind.wrap .i64 (i7 + 1)))
 else
  some (Sum.inr (Sum.inl ()))
def iR (s1:ByteArray):Option (Bool) :=
 (kZ ).bind fun r2 =>
 Option.bind (
  aG (fB s1 r2) 0) fun j6 =>
 match j6 with
 | Sum.inr z=>some z
 | Sum.inl () =>
  some false
def fV (b1:Int):Option (Bool) :=
 Option.bind (
  if (decide (b1 ≥ 48))=true then
   some (decide (b1 ≤ 57))
  else
   some false) fun v6 =>
 some v6
def eQ (s1:ByteArray):Int→Option ((Int) ⊕ ((Unit) ⊕ (Bool))):=fun i21 =>
 if (decide (i21 < (s1.size:Int)))=true then
  Option.bind (
   (sAt s1 i21).bind fun c29 =>
   (eM c29).bind fun r30 =>
   if (!r30)=true then
    (fV c29).bind fun r34 =>
    some (!r34)
   else
    some false) fun v36 =>
  if v36=true then
   some (Sum.inr (Sum.inr false))
  else
   some (Sum.inl (IntKind.wrap .i64 (i21 + 1)))
 else
  some (Sum.inr (Sum.inl ()))
def gH (s1:ByteArray):Option (Bool) :=
 Option.bind (
  (aP (s1.size:Int) 1 8).bind fun r4 =>
  if (!r4)=true then
   some true
  else
   (sAt s1 0).bind fun c8 =>
   (eM c8).bind fun r9 =>
   if (!r9)=true then
    some true
   else
    (iR s1).bind fun r13 =>
    some r13) fun v15 =>
 if v15=true then
  some false
 else
  Option.bind (
   aG (eQ s1) 0) fun j20 =>
  match j20 with
  | Sum.inr z=>some z
  | Sum.inl () =>
   some true
def iP (kind1:Int):Option (Int × Int) :=
 Option.bind (
  if (kind1 == 8)=true then
   some (kind1 == 8)
  else
   if (kind1 == 13)=true then
    some (kind1 == 13)
   else
    if (kind1 == 14)=true then
     some (kind1 == 14)
    else
     if (kind1 == 15)=true then
      some (kind1 == 15)
     else
      if (kind1 == 18)=true then
       some (kind1 == 18)
      else
       some (kind1 == 19)) fun v15 =>
 if v15=true then
  some (1,1)
 else
  Option.bind (
   if (kind1 == 9)=true then
    some (kind1 == 9)
   else
    if (kind1 == 10)=true then
     some (kind1 == 10)
    else
     if (kind1 == 11)=true then
      some (kind1 == 11)
     else
      some (kind1 == 17)) fun v27 =>
  if v27=true then
   some (2,2)
  else
   if (kind1 == 12)=true then
    some (0,3)
   else
    if (kind1 == 16)=true then
     some (3,3)
    else
     if (kind1 == 20)=true then
      some (0,12)
     else
      some (0,0)
def gX (kind1:Int):Option (Bool) :=
 Option.bind (
  if (kind1 == 2)=true then
   some (kind1 == 2)
  else
   if (kind1 == 3)=true then
    some (kind1 == 3)
   else
    if (kind1 == 4)=true then
     some (kind1 == 4)
    else
     if (kind1 == 5)=true then
      some (kind1 == 5)
     else
      if (kind1 == 6)=true then
       some (kind1 == 6)
      else
       if (kind1 == 12)=true then
        some (kind1 == 12)
       else
        if (kind1 == 13)=true then
         some (kind1 == 13)
        else
         if (kind1 == 14)=true then
          some (kind1 == 14)
         else
          some (kind1 == 15)) fun v21 =>
 if v21=true then
  some true
 else
  some false
def eG (kind1:Int):Option (Bool) :=
 (aP kind1 1 12).bind fun r2 =>
 some r2
def dV (kind1:Int):Option (Bool) :=
 (aP kind1 13 19).bind fun r2 =>
 some r2
def iQ (kind1:Int) (at2:Int) (kid3:Int):Option (Bool) :=
 if (kind1 == 20)=true then
  (dV kid3).bind fun r6 =>
  some r6
 else
  Option.bind (
   if (kind1 == 16)=true then
    some (kind1 == 16)
   else
    some (kind1 == 17)) fun v13 =>
  if v13=true then
   if (decide (at2 > 0))=true then
    some (kid3 == 20)
   else
    (eG kid3).bind fun r18 =>
    some r18
  else
   if (kind1 == 19)=true then
    some (kid3 == 12)
   else
    (eG kid3).bind fun r22 =>
    some r22
def eN (e15:GNode) (i50:Int):Int→Option ((Int) ⊕ ((Unit) ⊕ ((Int) ⊕ ((Unit) ⊕ (Bool))))):=fun j73 =>
 if (decide (j73 < i50))=true then
  (getI e15.Kids i50).bind fun e80 =>
  (getI e15.Kids j73).bind fun e81 =>
  if (e80 == e81)=true then
   some (Sum.inr (Sum.inr (Sum.inr (Sum.inr false))))
  else
   some (Sum.inl (IntKind.wrap .i64 (j73 + 1)))
 else
  some (Sum.inr (Sum.inl ()))
def eP (nodes1:List GNode) (k2:Int) (e15:GNode):Int→Option ((Int) ⊕ ((Unit) ⊕ (Bool))):=fun i50 =>
 if (decide (i50 < (e15.Kids.length:Int)))=true then
  Option.bind (
   Option.bind (
    (getI e15.Kids i50).bind fun e61 =>
    (aP e61 0 (IntKind.wrap .i64 (k2 - 1))).bind fun r62 =>
    if (!r62)=true then
     some true
    else
     (getI nodes1 e61).bind fun e66 =>
     (iQ e15.Kind i50 e66.Kind).bind fun r67 =>
     some (!r67)) fun v69 =>
   if v69=true then
    some (Sum.inr (Sum.inr (Sum.inr false)))
   else
    aG (eN e15 i50) 0) fun j58 =>
  match j58 with
  | Sum.inr z=>some z
  | Sum.inl () =>
   some (Sum.inl (IntKind.wrap .i64 (i50 + 1)))
 else
  some (Sum.inr (Sum.inl ()))
def kF (nodes1:List GNode) (k2:Int):Option (Bool) :=
 Option.bind (
  (aP k2 0 (IntKind.wrap .i64 ((nodes1.length:Int) - 1))).bind fun r5 =>
  if (!r5)=true then
   some true
  else
   (getI nodes1 k2).bind fun e9 =>
   (aP e9.Kind 1 20).bind fun r10 =>
   some (!r10)) fun v12 =>
 if v12=true then
  some false
 else
  (getI nodes1 k2).bind fun e15 =>
  (iP e15.Kind).bind fun ⟨r16,r17⟩ =>
  Option.bind (
   (aP (e15.Kids.length:Int) r16 r17).bind fun r21 =>
   if (!r21)=true then
    some true
   else
    (aP e15.Num 0 1000000000).bind fun r25 =>
    if (!r25)=true then
     some true
    else
     if (e15.Kind != 1)=true then
      some (e15.Num != 0)
     else
      some false) fun v31 =>
  if v31=true then
   some false
  else
   Option.bind (
    (gX e15.Kind).bind fun r36 =>
    if (!(r36 == (!(sEq e15.Name (⟨#[]⟩:ByteArray)))))=true then
     some true
    else
     if (!(sEq e15.Name (⟨#[]⟩:ByteArray)))=true then
      (gH e15.Name).bind fun r42 =>
      some (!r42)
     else
      some false) fun v44 =>
   if v44=true then
    some false
   else
    Option.bind (
     aG (eP nodes1 k2 e15) 0) fun j49 =>
    match j49 with
    | Sum.inr z=>some z
    | Sum.inl () =>
     some true
def bA (nodes1:List GNode) (out6:List Int) (i7:Int):(Int × Int)→Option ((Int × Int) ⊕ (Int)):=fun ⟨deep40,j41⟩ =>
 Option.bind (
  if (decide (deep40 > 0))=true then
   (getI nodes1 i7).bind fun e49 =>
   some (decide (j41 < (e49.Kids.length:Int)))
  else
   some false) fun v50 =>
 if v50=true then
  (getI nodes1 i7).bind fun e53 =>
  (getI e53.Kids j41).bind fun e54 =>
  (getI out6 e54).bind fun e55 =>
  if (decide (IntKind.wrap .i64 (e55 + 1) > deep40))=true then
   (getI nodes1 i7).bind fun e58 =>
   (getI e58.Kids j41).bind fun e59 =>
   (getI out6 e59).bind fun e60 =>
   some (Sum.inl (IntKind.wrap .i64 (e60 + 1),IntKind.wrap .i64 (j41 + 1)))
  else
   some (Sum.inl (deep40,IntKind.wrap .i64 (j41 + 1)))
 else
  some (Sum.inr deep40)
def cZ (nodes1:List GNode) (k2:Int):((List Int) × Int)→Option (((List Int) × Int) ⊕ (List Int)):=fun ⟨out6,i7⟩ =>
 Option.bind (
  if (decide (i7 ≤ k2))=true then
   some (decide (i7 < (nodes1.length:Int)))
  else
   some false) fun v15 =>
 if v15=true then
  Option.bind (
   Option.bind (
    Option.bind (
     (kF nodes1 i7).bind fun r26 =>
     if (!r26)=true then
      some true
     else
      if (decide (i7 > 0))=true then
       (getI out6 (IntKind.wrap .i64 (i7 - 1))).bind fun e32 =>
       some (e32 == 0)
      else
       some false) fun v33 =>
    if v33=true then
     some 0
    else
     some 1) fun deep36 =>
   Option.bind (
    aG (bA nodes1 out6 i7) (deep36,0)) fun deep62 =>
   Option.bind (
    if (decide (deep62 > 10))=true then
     some 0
    else
     some deep62) fun deep68 =>
   (appI 8 out6 [deep68]).bind fun l69 =>
   some l69) fun out70 =>
  some (Sum.inl (out70,IntKind.wrap .i64 (i7 + 1)))
 else
  some (Sum.inr out6)
def fG (nodes1:List GNode) (k2:Int):Option (List Int) :=
 Option.bind (
  aG (cZ nodes1 k2) ([],0)) fun out72 =>
 some out72
def dS (nodes1:List GNode) (i7:Int):((List Int) × Int)→Option (((List Int) × Int) ⊕ (List Int)):=fun ⟨out16,j17⟩ =>
 (getI nodes1 i7).bind fun e21 =>
 if (decide (j17 < (e21.Kids.length:Int)))=true then
  (getI nodes1 i7).bind fun e24 =>
  (getI e24.Kids j17).bind fun e25 =>
  (getI out16 e25).bind fun e26 =>
  jJ (List.set out16 e25.toNat (IntKind.wrap .i64 (e26 + 1))) fun l27 =>
  some (Sum.inl (l27,IntKind.wrap .i64 (j17 + 1)))
 else
  some (Sum.inr out16)
def dU (nodes1:List GNode):((List Int) × Int)→Option (((List Int) × Int) ⊕ (List Int)):=fun ⟨out6,i7⟩ =>
 if (decide (i7 < (nodes1.length:Int)))=true then
  Option.bind (
   aG (dS nodes1 i7) (out6,0)) fun out29 =>
  some (Sum.inl (out29,IntKind.wrap .i64 (i7 + 1)))
 else
  some (Sum.inr out6)
def iO (nodes1:List GNode):Option (List Int) :=
 (mkI 8 (nodes1.length:Int) 0).bind fun l2 =>
 Option.bind (
  aG (dU nodes1) (l2,0)) fun out31 =>
 some out31
def nL (p1:GProgram) (name2:ByteArray):Int→Option ((Int) ⊕ ((Unit) ⊕ (Int))):=fun i6 =>
 if (decide (i6 < (p1.Fns.length:Int)))=true then
  (getI p1.Fns i6).bind fun e12 =>
  if (sEq e12.Name name2)=true then
   some (Sum.inr (Sum.inr i6))
  else
   some (Sum.inl (IntKind.wrap .i64 (i6 + 1)))
 else
  some (Sum.inr (Sum.inl ()))
def nM (p1:GProgram) (name2:ByteArray):Option (Int) :=
 Option.bind (
  aG (nL p1 name2) 0) fun j5 =>
 match j5 with
 | Sum.inr z=>some z
 | Sum.inl () =>
  some (-1)
def fF (e3:GFn):Int→Option ((Int) ⊕ ((Unit) ⊕ (Bool))):=fun k24 =>
 if (decide (k24 < (e3.Params.length:Int)))=true then
  Option.bind (
   (getI e3.Params k24).bind fun e32 =>
   (gH e32.Name).bind fun r33 =>
   if (!r33)=true then
    some true
   else
    (aP e32.Typ 1 4).bind fun r37 =>
    some (!r37)) fun v39 =>
  if v39=true then
   some (Sum.inr (Sum.inr false))
  else
   some (Sum.inl (IntKind.wrap .i64 (k24 + 1)))
 else
  some (Sum.inr (Sum.inl ()))
def lR (p1:GProgram) (i2:Int):Option (Bool) :=
 (getI p1.Fns i2).bind fun e3 =>
 Option.bind (
  (gH e3.Name).bind fun r6 =>
  if (!r6)=true then
   some true
  else
   (nM p1 e3.Name).bind fun r10 =>
   if (r10 != i2)=true then
    some true
   else
    if (decide ((e3.Params.length:Int) > 3))=true then
     some true
    else
     (aP e3.Res 0 2).bind fun r16 =>
     some (!r16)) fun v18 =>
 if v18=true then
  some false
 else
  Option.bind (
   aG (fF e3) 0) fun j23 =>
  match j23 with
  | Sum.inr z=>some z
  | Sum.inl () =>
   Option.bind (
    (aP e3.Body 0 (IntKind.wrap .i64 ((p1.Nodes.length:Int) - 1))).bind fun r46 =>
    if (!r46)=true then
     some true
    else
     (getI p1.Nodes e3.Body).bind fun e50 =>
     some (e50.Kind != 20)) fun v51 =>
   if v51=true then
    some false
   else
    if (e3.Res == 0)=true then
     some (e3.Ret == (-1))
    else
     Option.bind (
      (aP e3.Ret 0 (IntKind.wrap .i64 ((p1.Nodes.length:Int) - 1))).bind fun r58 =>
      if r58=true then
       (getI p1.Nodes e3.Ret).bind fun e62 =>
       (eG e62.Kind).bind fun r63 =>
       some r63
      else
       some false) fun v65 =>
     some v65
def bB (p1:GProgram):((List Int) × Int)→Option (((List Int) × Int) ⊕ ((List Int) ⊕ (Bool))):=fun ⟨used23,i24⟩ =>
 if (decide (i24 < (p1.Fns.length:Int)))=true then
  (lR p1 i24).bind fun r30 =>
  if (!r30)=true then
   some (Sum.inr (Sum.inr false))
  else
   (getI p1.Fns i24).bind fun e36 =>
   (getI used23 e36.Body).bind fun e37 =>
   jJ (List.set used23 e36.Body.toNat (IntKind.wrap .i64 (e37 + 1000))) fun l38 =>
   (getI p1.Fns i24).bind fun e39 =>
   if (decide (e39.Ret ≥ 0))=true then
    (getI p1.Fns i24).bind fun e43 =>
    (getI l38 e43.Ret).bind fun e44 =>
    jJ (List.set l38 e43.Ret.toNat (IntKind.wrap .i64 (e44 + 1000))) fun l45 =>
    some (Sum.inl (l45,IntKind.wrap .i64 (i24 + 1)))
   else
    some (Sum.inl (l38,IntKind.wrap .i64 (i24 + 1)))
 else
  some (Sum.inr (Sum.inl used23))
def cJ (used47:List Int):Int→Option ((Int) ⊕ ((Unit) ⊕ (Bool))):=fun i51 =>
 if (decide (i51 < (used47.length:Int)))=true then
  Option.bind (
   (getI used47 i51).bind fun e59 =>
   if (e59 != 1)=true then
    some (e59 != 1000)
   else
    some false) fun v62 =>
  if v62=true then
   some (Sum.inr (Sum.inr false))
  else
   some (Sum.inl (IntKind.wrap .i64 (i51 + 1)))
 else
  some (Sum.inr (Sum.inl ()))
def fW (p1:GProgram):Option (Bool) :=
 Option.bind (
  (aP (p1.Nodes.length:Int) 1 300).bind fun r4 =>
  if (!r4)=true then
   some true
  else
   (aP (p1.Fns.length:Int) 1 8).bind fun r8 =>
   some (!r8)) fun v10 =>
 if v10=true then
  some false
 else
  (fG p1.Nodes (IntKind.wrap .i64 ((p1.Nodes.length:Int) - 1))).bind fun r13 =>
  (getI r13 (IntKind.wrap .i64 ((r13.length:Int) - 1))).bind fun e15 =>
  if (e15 == 0)=true then
   some false
  else
   (iO p1.Nodes).bind fun r18 =>
   Option.bind (
    aG (bB p1) (r18,0)) fun j22 =>
   match j22 with
   | Sum.inr z=>some z
   | Sum.inl used47 =>
    Option.bind (
     aG (cJ used47) 0) fun j50 =>
    match j50 with
    | Sum.inr z=>some z
    | Sum.inl () =>
     some true
def kG (nodes1:List GNode) (k2:Int):Option (Int) :=
 (aP k2 0 (IntKind.wrap .i64 ((nodes1.length:Int) - 1))).bind fun r3 =>
 if (!r3)=true then
  some 0
 else
  (fG nodes1 k2).bind fun r7 =>
  (getI r7 k2).bind fun e9 =>
  some e9
def dW (rec_spec_l04Mark:(List GNode)→Int→(List Bool)→Option (List Bool)) (nodes1:List GNode) (k2:Int):((List Bool) × Int)→Option (((List Bool) × Int) ⊕ (List Bool)):=fun ⟨seen9,i10⟩ =>
 (getI nodes1 k2).bind fun e14 =>
 if (decide (i10 < (e14.Kids.length:Int)))=true then
  (getI nodes1 k2).bind fun e17 =>
  (getI e17.Kids i10).bind fun e18 =>
  (rec_spec_l04Mark nodes1 e18 seen9).bind fun q19 =>
  some (Sum.inl (q19,IntKind.wrap .i64 (i10 + 1)))
 else
  some (Sum.inr seen9)
def fU (rec_spec_l04Mark:(List GNode)→Int→(List Bool)→Option (List Bool)) (nodes1:List GNode) (k2:Int) (seen3:List Bool):Option (List Bool) :=
 (getI seen3 k2).bind fun e4 =>
 if e4=true then
  some seen3
 else
  (getI seen3 k2).bind fun e7 =>
  jJ (List.set seen3 k2.toNat true) fun l8 =>
  aG (dW rec_spec_l04Mark nodes1 k2) (l8,0)
def bW:Nat→(List GNode)→Int→(List Bool)→Option (List Bool)
 | 0=>fun _ _ _=>none
 | n + 1=>fU (bW n)
def nJ:(List GNode)→Int→(List Bool)→Option (List Bool):=(bW dN)
def fH (q8:List Bool):((List Int) × Int)→Option (((List Int) × Int) ⊕ (List Int)):=fun ⟨out13,i14⟩ =>
 if (decide (i14 < (q8.length:Int)))=true then
  (getI q8 i14).bind fun e20 =>
  if e20=true then
   (appI 8 out13 [i14]).bind fun l23 =>
   some (Sum.inl (l23,IntKind.wrap .i64 (i14 + 1)))
  else
   some (Sum.inl (out13,IntKind.wrap .i64 (i14 + 1)))
 else
  some (Sum.inr out13)
def jW (p1:GProgram) (k2:Int):Option (List Int) :=
 (kG p1.Nodes k2).bind fun r3 =>
 if (r3 == 0)=true then
  some []
 else
  (mkI 1 (p1.Nodes.length:Int) false).bind fun l7 =>
  (nJ p1.Nodes k2 l7).bind fun q8 =>
  Option.bind (
   aG (fH q8) ([],0)) fun out25 =>
  some out25
def aW (r9:List Int) (r13:List Int):((List Int) × Int × Int)→Option (((List Int) × Int × Int) ⊕ (List Int)):=fun ⟨out18,i19,k20⟩ =>
 Option.bind (
  if (decide (i19 < (r9.length:Int)))=true then
   some true
  else
   some (decide (k20 < (r13.length:Int)))) fun v28 =>
 if v28=true then
  Option.bind (
   if (decide (k20 ≥ (r13.length:Int)))=true then
    some true
   else
    if (decide (i19 < (r9.length:Int)))=true then
     (getI r9 i19).bind fun e37 =>
     (getI r13 k20).bind fun e38 =>
     some (decide (e37 < e38))
    else
     some false) fun v39 =>
  if v39=true then
   (getI r9 i19).bind fun e42 =>
   (appI 8 out18 [e42]).bind fun l43 =>
   some (Sum.inl (l43,IntKind.wrap .i64 (i19 + 1),k20))
  else
   Option.bind (
    Option.bind (
     if (decide (i19 < (r9.length:Int)))=true then
      (getI r9 i19).bind fun e51 =>
      (getI r13 k20).bind fun e52 =>
      some (e51 == e52)
     else
      some false) fun v53 =>
    if v53=true then
     some (IntKind.wrap .i64 (i19 + 1))
    else
     some i19) fun i56 =>
   (getI r13 k20).bind fun e57 =>
   (appI 8 out18 [e57]).bind fun l58 =>
   some (Sum.inl (l58,i56,IntKind.wrap .i64 (k20 + 1)))
 else
  some (Sum.inr out18)
def kB (p1:GProgram) (fn2:Int):Option (List Int) :=
 (aP fn2 0 (IntKind.wrap .i64 ((p1.Fns.length:Int) - 1))).bind fun r3 =>
 if (!r3)=true then
  some []
 else
  (getI p1.Fns fn2).bind fun e8 =>
  (jW p1 e8.Body).bind fun r9 =>
  (getI p1.Fns fn2).bind fun e12 =>
  (jW p1 e12.Ret).bind fun r13 =>
  Option.bind (
   aG (aW r9 r13) ([],0,0)) fun out60 =>
  some out60
def eL (list1:List Int) (n2:Int):Int→Option ((Int) ⊕ ((Unit) ⊕ (List Int))):=fun i6 =>
 if (decide (i6 < (list1.length:Int)))=true then
  (getI list1 i6).bind fun e12 =>
  if (e12 == n2)=true then
   some (Sum.inr (Sum.inr list1))
  else
   some (Sum.inl (IntKind.wrap .i64 (i6 + 1)))
 else
  some (Sum.inr (Sum.inl ()))
def kA (list1:List Int) (n2:Int):Option (List Int) :=
 Option.bind (
  aG (eL list1 n2) 0) fun j5 =>
 match j5 with
 | Sum.inr z=>some z
 | Sum.inl () =>
  (appI 8 list1 [n2]).bind fun l17 =>
  some l17
def dY (p1:GProgram) (r3:List Int):((List Int) × Int)→Option (((List Int) × Int) ⊕ (List Int)):=fun ⟨out8,i9⟩ =>
 if (decide (i9 < (r3.length:Int)))=true then
  (getI r3 i9).bind fun e16 =>
  (getI p1.Nodes e16).bind fun e17 =>
  if (e17.Kind != 12)=true then
   some (Sum.inl (out8,IntKind.wrap .i64 (i9 + 1)))
  else
   (getI r3 i9).bind fun e21 =>
   (getI p1.Nodes e21).bind fun e22 =>
   (nM p1 e22.Name).bind fun r23 =>
   if (decide (r23 ≥ 0))=true then
    (kA out8 r23).bind fun r27 =>
    some (Sum.inl (r27,IntKind.wrap .i64 (i9 + 1)))
   else
    some (Sum.inl (out8,IntKind.wrap .i64 (i9 + 1)))
 else
  some (Sum.inr out8)
def iS (p1:GProgram) (fn2:Int):Option (List Int) :=
 (kB p1 fn2).bind fun r3 =>
 Option.bind (
  aG (dY p1 r3) ([],0)) fun out30 =>
 some out30
def eS (a1:List Int):((List Int) × Int)→Option (((List Int) × Int) ⊕ (List Int)):=fun ⟨out6,i7⟩ =>
 if (decide (i7 < (a1.length:Int)))=true then
  (getI a1 i7).bind fun e13 =>
  (getI out6 i7).bind fun e14 =>
  jJ (List.set out6 i7.toNat e13) fun l15 =>
  some (Sum.inl (l15,IntKind.wrap .i64 (i7 + 1)))
 else
  some (Sum.inr out6)
def kI (a1:List Int):Option (List Int) :=
 (mkI 8 (a1.length:Int) 0).bind fun l2 =>
 Option.bind (
  aG (eS a1) (l2,0)) fun out17 =>
 some out17
def kH (a1:GNode):Option (GNode) :=
 (kI a1.Kids).bind fun r2 =>
 some (⟨a1.Kind,a1.Num,a1.Name,r2⟩:GNode)
def dZ (a1:List GNode):((List GNode) × Int)→Option (((List GNode) × Int) ⊕ (List GNode)):=fun ⟨out6,i7⟩ =>
 if (decide (i7 < (a1.length:Int)))=true then
  (getI a1 i7).bind fun e13 =>
  (kH e13).bind fun r14 =>
  (getI out6 i7).bind fun e16 =>
  jJ (List.set out6 i7.toNat r14) fun l17 =>
  some (Sum.inl (l17,IntKind.wrap .i64 (i7 + 1)))
 else
  some (Sum.inr out6)
def iV (a1:List GNode):Option (List GNode) :=
 (mkI 56 (a1.length:Int) (⟨0,0,ByteArray.empty,[]⟩:GNode)).bind fun l2 =>
 Option.bind (
  aG (dZ a1) (l2,0)) fun out19 =>
 some out19
def iU (a1:GParam):Option (GParam) :=
 some (⟨a1.Name,a1.Typ⟩:GParam)
def dC (a1:List GParam):((List GParam) × Int)→Option (((List GParam) × Int) ⊕ (List GParam)):=fun ⟨out6,i7⟩ =>
 if (decide (i7 < (a1.length:Int)))=true then
  (getI a1 i7).bind fun e13 =>
  (iU e13).bind fun r14 =>
  (getI out6 i7).bind fun e16 =>
  jJ (List.set out6 i7.toNat r14) fun l17 =>
  some (Sum.inl (l17,IntKind.wrap .i64 (i7 + 1)))
 else
  some (Sum.inr out6)
def hE (a1:List GParam):Option (List GParam) :=
 (mkI 24 (a1.length:Int) (⟨ByteArray.empty,0⟩:GParam)).bind fun l2 =>
 Option.bind (
  aG (dC a1) (l2,0)) fun out19 =>
 some out19
def nW (a1:GFn):Option (GFn) :=
 (hE a1.Params).bind fun r2 =>
 some (⟨a1.Name,r2,a1.Res,a1.Body,a1.Ret⟩:GFn)
def fL (a1:List GFn):((List GFn) × Int)→Option (((List GFn) × Int) ⊕ (List GFn)):=fun ⟨out6,i7⟩ =>
 if (decide (i7 < (a1.length:Int)))=true then
  (getI a1 i7).bind fun e13 =>
  (nW e13).bind fun r14 =>
  (getI out6 i7).bind fun e16 =>
  jJ (List.set out6 i7.toNat r14) fun l17 =>
  some (Sum.inl (l17,IntKind.wrap .i64 (i7 + 1)))
 else
  some (Sum.inr out6)
def mA (a1:List GFn):Option (List GFn) :=
 (mkI 64 (a1.length:Int) (⟨ByteArray.empty,[],0,0,0⟩:GFn)).bind fun l2 =>
 Option.bind (
  aG (fL a1) (l2,0)) fun out19 =>
 some out19
def cF (a1:GProgram):Option (GProgram) :=
 (iV a1.Nodes).bind fun r2 =>
 (mA a1.Fns).bind fun r4 =>
 some (⟨r2,r4⟩:GProgram)
def cV (n1:Int) (low2:Int) (high3:Int):Option (Bool) :=
 Option.bind (
  if (decide (n1 ≥ low2))=true then
   some (decide (n1 ≤ high3))
  else
   some false) fun v8 =>
 some v8
def eV (l1:List Int) (n2:Int):Int→Option ((Int) ⊕ ((Unit) ⊕ (Bool))):=fun v6 =>
 if (decide (v6 < (l1.length:Int)))=true then
  (getI l1 v6).bind fun e12 =>
  if (e12 == n2)=true then
   some (Sum.inr (Sum.inr true))
  else
   some (Sum.inl (IntKind.wrap .i64 (v6 + 1)))
 else
  some (Sum.inr (Sum.inl ()))
def eI (l1:List Int) (n2:Int):Option (Bool) :=
 Option.bind (
  aG (eV l1 n2) 0) fun j5 =>
 match j5 with
 | Sum.inr z=>some z
 | Sum.inl () =>
  some false
def fQ (b1:Int):Option (Bool) :=
 Option.bind (
  if (decide (b1 ≥ 97))=true then
   some (decide (b1 ≤ 122))
  else
   some false) fun v6 =>
 some v6
def iE (b1:Int):Option (Bool) :=
 Option.bind (
  if (decide (b1 ≥ 48))=true then
   some (decide (b1 ≤ 57))
  else
   some false) fun v6 =>
 some v6
def iD (s1:ByteArray) (r6:List ByteArray):Int→Option ((Int) ⊕ ((Unit) ⊕ (Bool))):=fun v8 =>
 if (decide (v8 < (r6.length:Int)))=true then
  (getI r6 v8).bind fun e14 =>
  if (sEq e14 s1)=true then
   some (Sum.inr (Sum.inr true))
  else
   some (Sum.inl (IntKind.wrap .i64 (v8 + 1)))
 else
  some (Sum.inr (Sum.inl ()))
def oR (s1:ByteArray) (words2:ByteArray):Option (Bool) :=
 Option.bind (
  (strings_Split words2 (⟨#[32]⟩:ByteArray)).bind fun r6 =>
  aG (iD s1 r6) 0) fun j5 =>
 match j5 with
 | Sum.inr z=>some z
 | Sum.inl () =>
  some false
def jF (s1:ByteArray):Option (Bool) :=
 (oR s1 (⟨#[102,110,32,108,101,116,32,105,102,32,101,108,115,101,32,119,104,105,108,101,32,112,114,105,110,116,32,100,111,32,110,101,119,32,99,108,111,110,101,32,109,117,116,32,105,110,112,117,116,32,105,110,116,32,98,111,120,32,114,101,116]⟩:ByteArray)).bind fun r2 =>
 some r2
def eY (s1:ByteArray):Int→Option ((Int) ⊕ ((Unit) ⊕ (Bool))):=fun i17 =>
 if (decide (i17 < (s1.size:Int)))=true then
  Option.bind (
   (sAt s1 i17).bind fun c25 =>
   (fQ c25).bind fun r26 =>
   if (!r26)=true then
    (iE c25).bind fun r30 =>
    some (!r30)
   else
    some false) fun v32 =>
  if v32=true then
   some (Sum.inr (Sum.inr false))
  else
   some (Sum.inl (IntKind.wrap .i64 (i17 + 1)))
 else
  some (Sum.inr (Sum.inl ()))
def gK (s1:ByteArray):Option (Bool) :=
 Option.bind (
  (cV (s1.size:Int) 1 8).bind fun r4 =>
  if (!r4)=true then
   some true
  else
   (sAt s1 0).bind fun c8 =>
   (fQ c8).bind fun r9 =>
   some (!r9)) fun v11 =>
 if v11=true then
  some false
 else
  Option.bind (
   aG (eY s1) 0) fun j16 =>
  match j16 with
  | Sum.inr z=>some z
  | Sum.inl () =>
   (jF s1).bind fun r37 =>
   some (!r37)
def mE (kind1:Int):Option (Int × Int) :=
 Option.bind (
  if (kind1 == 8)=true then
   some (kind1 == 8)
  else
   if (kind1 == 13)=true then
    some (kind1 == 13)
   else
    if (kind1 == 14)=true then
     some (kind1 == 14)
    else
     if (kind1 == 15)=true then
      some (kind1 == 15)
     else
      if (kind1 == 18)=true then
       some (kind1 == 18)
      else
       some (kind1 == 19)) fun v15 =>
 if v15=true then
  some (1,1)
 else
  Option.bind (
   if (kind1 == 9)=true then
    some (kind1 == 9)
   else
    if (kind1 == 10)=true then
     some (kind1 == 10)
    else
     if (kind1 == 11)=true then
      some (kind1 == 11)
     else
      some (kind1 == 17)) fun v27 =>
  if v27=true then
   some (2,2)
  else
   if (kind1 == 16)=true then
    some (3,3)
   else
    if (kind1 == 12)=true then
     some (0,3)
    else
     if (kind1 == 20)=true then
      some (0,12)
     else
      some (0,0)
def gP (kind1:Int):Option (Bool) :=
 (cV kind1 1 12).bind fun r2 =>
 some r2
def kR (kind1:Int):Option (Bool) :=
 (cV kind1 13 19).bind fun r2 =>
 some r2
def jC (kind1:Int) (i2:Int) (kid3:Int):Option (Bool) :=
 if (kind1 == 20)=true then
  (kR kid3).bind fun r6 =>
  some r6
 else
  Option.bind (
   if (kind1 == 16)=true then
    some (decide (i2 > 0))
   else
    if (kind1 == 17)=true then
     some (decide (i2 > 0))
    else
     some false) fun v14 =>
  if v14=true then
   some (kid3 == 20)
  else
   if (kind1 == 19)=true then
    some (kid3 == 12)
   else
    (gP kid3).bind fun r19 =>
    some r19
def jD (kind1:Int):Option (Bool) :=
 Option.bind (
  (cV kind1 2 6).bind fun r4 =>
  if r4=true then
   some true
  else
   (cV kind1 12 15).bind fun r8 =>
   some r8) fun v10 =>
 some v10
def eX (nodes1:List GNode) (k2:Int) (e7:GNode):Int→Option ((Int) ⊕ ((Unit) ⊕ (Bool))):=fun v25 =>
 if (decide (v25 < (e7.Kids.length:Int)))=true then
  (getI e7.Kids v25).bind fun e31 =>
  Option.bind (
   (cV e31 0 (IntKind.wrap .i64 (k2 - 1))).bind fun r34 =>
   if (!r34)=true then
    some true
   else
    (subI e7.Kids 0 v25).bind fun l38 =>
    (eI l38 e31).bind fun r39 =>
    if r39=true then
     some true
    else
     (getI nodes1 e31).bind fun e43 =>
     (jC e7.Kind v25 e43.Kind).bind fun r44 =>
     some (!r44)) fun v46 =>
  if v46=true then
   some (Sum.inr (Sum.inr false))
  else
   some (Sum.inl (IntKind.wrap .i64 (v25 + 1)))
 else
  some (Sum.inr (Sum.inl ()))
def kU (nodes1:List GNode) (k2:Int):Option (Bool) :=
 (cV k2 0 (IntKind.wrap .i64 ((nodes1.length:Int) - 1))).bind fun r3 =>
 if (!r3)=true then
  some false
 else
  (getI nodes1 k2).bind fun e7 =>
  (mE e7.Kind).bind fun ⟨r8,r9⟩ =>
  Option.bind (
   (cV e7.Kind 1 20).bind fun r13 =>
   if (!r13)=true then
    some true
   else
    (cV (e7.Kids.length:Int) r8 r9).bind fun r17 =>
    some (!r17)) fun v19 =>
  if v19=true then
   some false
  else
   Option.bind (
    aG (eX nodes1 k2 e7) 0) fun j24 =>
   match j24 with
   | Sum.inr z=>some z
   | Sum.inl () =>
    Option.bind (
     if (e7.Kind == 1)=true then
      (cV e7.Num 0 1000000000).bind fun r55 =>
      if (!r55)=true then
       some true
      else
       some false
     else
      some (e7.Num != 0)) fun v61 =>
    if v61=true then
     some false
    else
     (jD e7.Kind).bind fun r64 =>
     if r64=true then
      (gK e7.Name).bind fun r68 =>
      some r68
     else
      some (sEq e7.Name (⟨#[]⟩:ByteArray))
def dO (out10:List Int) (e28:GNode):(Int × Int)→Option ((Int × Int) ⊕ (Int)):=fun ⟨d29,v30⟩ =>
 if (decide (v30 < (e28.Kids.length:Int)))=true then
  (getI e28.Kids v30).bind fun e36 =>
  (getI out10 e36).bind fun e37 =>
  some (Sum.inl (if IntKind.wrap .i64 (e37 + 1) > d29 then IntKind.wrap .i64 (e37 + 1) else d29,IntKind.wrap .i64 (v30 + 1)))
 else
  some (Sum.inr d29)
def eW (nodes1:List GNode) (k2:Int):((List Int) × Int)→Option (((List Int) × Int) ⊕ ((List Int) ⊕ ((List Int) × Bool))):=fun ⟨out10,i11⟩ =>
 if (decide (i11 ≤ k2))=true then
  Option.bind (
   (kU nodes1 i11).bind fun r20 =>
   if (!r20)=true then
    some (Sum.inr (Sum.inr (Sum.inr ([],false))))
   else
    Option.bind (
     (getI nodes1 i11).bind fun e28 =>
     aG (dO out10 e28) (1,0)) fun d39 =>
    if (decide (d39 > 10))=true then
     some (Sum.inr (Sum.inr (Sum.inr ([],false))))
    else
     (appI 8 out10 [d39]).bind fun l43 =>
     some (Sum.inl l43)) fun j19 =>
  match j19 with
  | Sum.inr z=>some z
  | Sum.inl out44 =>
   some (Sum.inl (out44,IntKind.wrap .i64 (i11 + 1)))
 else
  some (Sum.inr (Sum.inl out10))
def kS (nodes1:List GNode) (k2:Int):Option ((List Int) × Bool) :=
 (cV k2 0 (IntKind.wrap .i64 ((nodes1.length:Int) - 1))).bind fun r3 =>
 if (!r3)=true then
  some ([],false)
 else
  Option.bind (
   aG (eW nodes1 k2) ([],0)) fun j9 =>
  match j9 with
  | Sum.inr z=>some z
  | Sum.inl out46 =>
   some (out46,true)
def iL (nodes1:List GNode) (k2:Int):Option (Int) :=
 (kS nodes1 k2).bind fun ⟨r3,r4⟩ =>
 if (!r4)=true then
  some 0
 else
  (getI r3 k2).bind fun e8 =>
  some e8
def gQ (f2:GFn):Int→Option ((Int) ⊕ ((Unit) ⊕ (Bool))):=fun v21 =>
 if (decide (v21 < (f2.Params.length:Int)))=true then
  (getI f2.Params v21).bind fun e27 =>
  Option.bind (
   (gK e27.Name).bind fun r30 =>
   if (!r30)=true then
    some true
   else
    (cV e27.Typ 1 4).bind fun r34 =>
    some (!r34)) fun v36 =>
  if v36=true then
   some (Sum.inr (Sum.inr false))
  else
   some (Sum.inl (IntKind.wrap .i64 (v21 + 1)))
 else
  some (Sum.inr (Sum.inl ()))
def oD (p1:GProgram) (f2:GFn):Option (Bool) :=
 Option.bind (
  (gK f2.Name).bind fun r5 =>
  if (!r5)=true then
   some true
  else
   if (decide ((f2.Params.length:Int) > 3))=true then
    some true
   else
    if (f2.Res != 0)=true then
     if (f2.Res != 1)=true then
      some (f2.Res != 2)
     else
      some false
    else
     some false) fun v15 =>
 if v15=true then
  some false
 else
  Option.bind (
   aG (gQ f2) 0) fun j20 =>
  match j20 with
  | Sum.inr z=>some z
  | Sum.inl () =>
   Option.bind (
    (cV f2.Body 0 (IntKind.wrap .i64 ((p1.Nodes.length:Int) - 1))).bind fun r43 =>
    if (!r43)=true then
     some true
    else
     (getI p1.Nodes f2.Body).bind fun e47 =>
     some (e47.Kind != 20)) fun v48 =>
   if v48=true then
    some false
   else
    if (f2.Res == 0)=true then
     some (f2.Ret == (-1))
    else
     Option.bind (
      (cV f2.Ret 0 (IntKind.wrap .i64 ((p1.Nodes.length:Int) - 1))).bind fun r55 =>
      if r55=true then
       (getI p1.Nodes f2.Ret).bind fun e59 =>
       (gP e59.Kind).bind fun r60 =>
       some r60
      else
       some false) fun v62 =>
     some v62
def gR (p1:GProgram) (name2:ByteArray):Int→Option ((Int) ⊕ ((Unit) ⊕ (Int))):=fun v6 =>
 if (decide (v6 < (p1.Fns.length:Int)))=true then
  (getI p1.Fns v6).bind fun e12 =>
  if (sEq e12.Name name2)=true then
   some (Sum.inr (Sum.inr v6))
  else
   some (Sum.inl (IntKind.wrap .i64 (v6 + 1)))
 else
  some (Sum.inr (Sum.inl ()))
def mH (p1:GProgram) (name2:ByteArray):Option (Int) :=
 Option.bind (
  aG (gR p1 name2) 0) fun j5 =>
 match j5 with
 | Sum.inr z=>some z
 | Sum.inl () =>
  some (-1)
def cQ (e31:GNode):((List Int) × Int)→Option (((List Int) × Int) ⊕ (List Int)):=fun ⟨met32,v33⟩ =>
 if (decide (v33 < (e31.Kids.length:Int)))=true then
  (getI e31.Kids v33).bind fun e39 =>
  (getI met32 e39).bind fun e40 =>
  jJ (List.set met32 e39.toNat (IntKind.wrap .i64 (e40 + 1))) fun l41 =>
  some (Sum.inl (l41,IntKind.wrap .i64 (v33 + 1)))
 else
  some (Sum.inr met32)
def cR (p1:GProgram):((List Int) × Int)→Option (((List Int) × Int) ⊕ (List Int)):=fun ⟨met21,v22⟩ =>
 if (decide (v22 < (p1.Nodes.length:Int)))=true then
  Option.bind (
   (getI p1.Nodes v22).bind fun e31 =>
   aG (cQ e31) (met21,0)) fun met43 =>
  some (Sum.inl (met43,IntKind.wrap .i64 (v22 + 1)))
 else
  some (Sum.inr met21)
def aI (e59:GFn):((List Int) × Int)→Option (((List Int) × Int) ⊕ ((List Int) ⊕ (((List Int) × Int) ⊕ ((List Int) ⊕ (Bool))))):=fun ⟨met72,v73⟩ =>
 if (decide (v73 < ([e59.Body,e59.Ret].length:Int)))=true then
  (getI [e59.Body,e59.Ret] v73).bind fun e79 =>
  if (decide (e79 < 0))=true then
   some (Sum.inl (met72,IntKind.wrap .i64 (v73 + 1)))
  else
   (getI met72 e79).bind fun e82 =>
   if (e82 != 0)=true then
    some (Sum.inr (Sum.inr (Sum.inr (Sum.inr false))))
   else
    (getI met72 e79).bind fun e87 =>
    jJ (List.set met72 e79.toNat (-1)) fun l88 =>
    some (Sum.inl (l88,IntKind.wrap .i64 (v73 + 1)))
 else
  some (Sum.inr (Sum.inl met72))
def bM (p1:GProgram):((List Int) × Int)→Option (((List Int) × Int) ⊕ ((List Int) ⊕ (Bool))):=fun ⟨met49,v50⟩ =>
 if (decide (v50 < (p1.Fns.length:Int)))=true then
  Option.bind (
   (getI p1.Fns v50).bind fun e59 =>
   Option.bind (
    (oD p1 e59).bind fun r62 =>
    if (!r62)=true then
     some true
    else
     (mH p1 e59.Name).bind fun r66 =>
     some (r66 != v50)) fun v68 =>
   if v68=true then
    some (Sum.inr (Sum.inr (Sum.inr false)))
   else
    aG (aI e59) (met49,0)) fun j58 =>
  match j58 with
  | Sum.inr z=>some z
  | Sum.inl met90 =>
   some (Sum.inl (met90,IntKind.wrap .i64 (v50 + 1)))
 else
  some (Sum.inr (Sum.inl met49))
def cP (met92:List Int):Int→Option ((Int) ⊕ ((Unit) ⊕ (Bool))):=fun v96 =>
 if (decide (v96 < (met92.length:Int)))=true then
  (getI met92 v96).bind fun e102 =>
  Option.bind (
   if (e102 != 1)=true then
    some (e102 != (-1))
   else
    some false) fun v107 =>
  if v107=true then
   some (Sum.inr (Sum.inr false))
  else
   some (Sum.inl (IntKind.wrap .i64 (v96 + 1)))
 else
  some (Sum.inr (Sum.inl ()))
def gE (p1:GProgram):Option (Bool) :=
 Option.bind (
  (cV (p1.Nodes.length:Int) 1 300).bind fun r4 =>
  if (!r4)=true then
   some true
  else
   (cV (p1.Fns.length:Int) 1 8).bind fun r8 =>
   if (!r8)=true then
    some true
   else
    (iL p1.Nodes (IntKind.wrap .i64 ((p1.Nodes.length:Int) - 1))).bind fun r12 =>
    some (r12 == 0)) fun v14 =>
 if v14=true then
  some false
 else
  (mkI 8 (p1.Nodes.length:Int) 0).bind fun l17 =>
  Option.bind (
   aG (cR p1) (l17,0)) fun met45 =>
  Option.bind (
   aG (bM p1) (met45,0)) fun j48 =>
  match j48 with
  | Sum.inr z=>some z
  | Sum.inl met92 =>
   Option.bind (
    aG (cP met92) 0) fun j95 =>
   match j95 with
   | Sum.inr z=>some z
   | Sum.inl () =>
    some true
def fO (e17:GNode):((List Int) × Int)→Option (((List Int) × Int) ⊕ (List Int)):=fun ⟨out18,v19⟩ =>
 if (decide (v19 < (e17.Kids.length:Int)))=true then
  (getI e17.Kids v19).bind fun e25 =>
  (eI out18 e25).bind fun r26 =>
  if (!r26)=true then
   (appI 8 out18 [e25]).bind fun l30 =>
   some (Sum.inl (l30,IntKind.wrap .i64 (v19 + 1)))
  else
   some (Sum.inl (out18,IntKind.wrap .i64 (v19 + 1)))
 else
  some (Sum.inr out18)
def fP (nodes1:List GNode):((List Int) × Int)→Option (((List Int) × Int) ⊕ (List Int)):=fun ⟨out6,i7⟩ =>
 if (decide (i7 < (out6.length:Int)))=true then
  Option.bind (
   (getI out6 i7).bind fun e16 =>
   (getI nodes1 e16).bind fun e17 =>
   aG (fO e17) (out6,0)) fun out32 =>
  some (Sum.inl (out32,IntKind.wrap .i64 (i7 + 1)))
 else
  some (Sum.inr out6)
def mD (nodes1:List GNode) (k2:Int):Option (List Int) :=
 Option.bind (
  aG (fP nodes1) ([k2],0)) fun out34 =>
 (sort_Ints out34).bind fun q35 =>
 some q35
def mG (p1:GProgram) (k2:Int):Option (List Int) :=
 (iL p1.Nodes k2).bind fun r3 =>
 if (r3 == 0)=true then
  some []
 else
  (mD p1.Nodes k2).bind fun r7 =>
  some r7
def mF (p1:GProgram) (fn2:Int):Option (List Int) :=
 (cV fn2 0 (IntKind.wrap .i64 ((p1.Fns.length:Int) - 1))).bind fun r3 =>
 if (!r3)=true then
  some []
 else
  (getI p1.Fns fn2).bind fun e7 =>
  (getI p1.Fns fn2).bind fun e8 =>
  if (e8.Ret != (-1))=true then
   (getI p1.Fns fn2).bind fun e11 =>
   (appI 8 [e7.Body] [e11.Ret]).bind fun l12 =>
   some l12
  else
   some [e7.Body]
def eD (r19:List Int):((List Int) × Int)→Option (((List Int) × Int) ⊕ (List Int)):=fun ⟨out21,v22⟩ =>
 if (decide (v22 < (r19.length:Int)))=true then
  (getI r19 v22).bind fun e28 =>
  (eI out21 e28).bind fun r29 =>
  if (!r29)=true then
   (appI 8 out21 [e28]).bind fun l33 =>
   some (Sum.inl (l33,IntKind.wrap .i64 (v22 + 1)))
  else
   some (Sum.inl (out21,IntKind.wrap .i64 (v22 + 1)))
 else
  some (Sum.inr out21)
def cW (p1:GProgram) (r6:List Int):((List Int) × Int)→Option (((List Int) × Int) ⊕ (List Int)):=fun ⟨out8,v9⟩ =>
 if (decide (v9 < (r6.length:Int)))=true then
  Option.bind (
   (getI r6 v9).bind fun e18 =>
   (mG p1 e18).bind fun r19 =>
   aG (eD r19) (out8,0)) fun out35 =>
  some (Sum.inl (out35,IntKind.wrap .i64 (v9 + 1)))
 else
  some (Sum.inr out8)
def jE (p1:GProgram) (fn2:Int):Option (List Int) :=
 Option.bind (
  (mF p1 fn2).bind fun r6 =>
  aG (cW p1 r6) ([],0)) fun out37 =>
 (sort_Ints out37).bind fun q38 =>
 some q38
def eE (p1:GProgram) (r6:List Int):((List Int) × Int)→Option (((List Int) × Int) ⊕ (List Int)):=fun ⟨out8,v9⟩ =>
 if (decide (v9 < (r6.length:Int)))=true then
  (getI r6 v9).bind fun e15 =>
  (getI p1.Nodes e15).bind fun e16 =>
  if (e16.Kind == 12)=true then
   (mH p1 e16.Name).bind fun r19 =>
   Option.bind (
    if (decide (r19 ≥ 0))=true then
     (eI out8 r19).bind fun r25 =>
     some (!r25)
    else
     some false) fun v27 =>
   if v27=true then
    (appI 8 out8 [r19]).bind fun l30 =>
    some (Sum.inl (l30,IntKind.wrap .i64 (v9 + 1)))
   else
    some (Sum.inl (out8,IntKind.wrap .i64 (v9 + 1)))
  else
   some (Sum.inl (out8,IntKind.wrap .i64 (v9 + 1)))
 else
  some (Sum.inr out8)
def jG (p1:GProgram) (fn2:Int):Option (List Int) :=
 Option.bind (
  (jE p1 fn2).bind fun r6 =>
  aG (eE p1 r6) ([],0)) fun out32 =>
 some out32
def eT (a1:List Int) (b2:List Int):Int→Option ((Int) ⊕ ((Unit) ⊕ (Bool))):=fun i8 =>
 if (decide (i8 < (a1.length:Int)))=true then
  (getI a1 i8).bind fun e15 =>
  (getI b2 i8).bind fun e16 =>
  if (e15 != e16)=true then
   some (Sum.inr (Sum.inr false))
  else
   some (Sum.inl (IntKind.wrap .i64 (i8 + 1)))
 else
  some (Sum.inr (Sum.inl ()))
def kP (a1:List Int) (b2:List Int):Option (Bool) :=
 if ((a1.length:Int) != (b2.length:Int))=true then
  some false
 else
  Option.bind (
   aG (eT a1 b2) 0) fun j7 =>
  match j7 with
  | Sum.inr z=>some z
  | Sum.inl () =>
   some true
def kO (a1:GNode) (b2:GNode):Option (Bool) :=
 if (a1.Kind != b2.Kind)=true then
  some false
 else
  if (a1.Num != b2.Num)=true then
   some false
  else
   if (!(sEq a1.Name b2.Name))=true then
    some false
   else
    (kP a1.Kids b2.Kids).bind fun r9 =>
    if (!r9)=true then
     some false
    else
     some true
def eB (a1:List GNode) (b2:List GNode):Int→Option ((Int) ⊕ ((Unit) ⊕ (Bool))):=fun i8 =>
 if (decide (i8 < (a1.length:Int)))=true then
  (getI a1 i8).bind fun e15 =>
  (getI b2 i8).bind fun e16 =>
  (kO e15 e16).bind fun r17 =>
  if (!r17)=true then
   some (Sum.inr (Sum.inr false))
  else
   some (Sum.inl (IntKind.wrap .i64 (i8 + 1)))
 else
  some (Sum.inr (Sum.inl ()))
def jB (a1:List GNode) (b2:List GNode):Option (Bool) :=
 if ((a1.length:Int) != (b2.length:Int))=true then
  some false
 else
  Option.bind (
   aG (eB a1 b2) 0) fun j7 =>
  match j7 with
  | Sum.inr z=>some z
  | Sum.inl () =>
   some true
def jA (a1:GParam) (b2:GParam):Option (Bool) :=
 if (!(sEq a1.Name b2.Name))=true then
  some false
 else
  if (a1.Typ != b2.Typ)=true then
   some false
  else
   some true
def dH (a1:List GParam) (b2:List GParam):Int→Option ((Int) ⊕ ((Unit) ⊕ (Bool))):=fun i8 =>
 if (decide (i8 < (a1.length:Int)))=true then
  (getI a1 i8).bind fun e15 =>
  (getI b2 i8).bind fun e16 =>
  (jA e15 e16).bind fun r17 =>
  if (!r17)=true then
   some (Sum.inr (Sum.inr false))
  else
   some (Sum.inl (IntKind.wrap .i64 (i8 + 1)))
 else
  some (Sum.inr (Sum.inl ()))
def iC (a1:List GParam) (b2:List GParam):Option (Bool) :=
 if ((a1.length:Int) != (b2.length:Int))=true then
  some false
 else
  Option.bind (
   aG (dH a1 b2) 0) fun j7 =>
  match j7 with
  | Sum.inr z=>some z
  | Sum.inl () =>
   some true
def nY (a1:GFn) (b2:GFn):Option (Bool) :=
 if (!(sEq a1.Name b2.Name))=true then
  some false
 else
  (iC a1.Params b2.Params).bind fun r5 =>
  if (!r5)=true then
   some false
  else
   if (a1.Res != b2.Res)=true then
    some false
   else
    if (a1.Body != b2.Body)=true then
     some false
    else
     if (a1.Ret != b2.Ret)=true then
      some false
     else
      some true
def fN (a1:List GFn) (b2:List GFn):Int→Option ((Int) ⊕ ((Unit) ⊕ (Bool))):=fun i8 =>
 if (decide (i8 < (a1.length:Int)))=true then
  (getI a1 i8).bind fun e15 =>
  (getI b2 i8).bind fun e16 =>
  (nY e15 e16).bind fun r17 =>
  if (!r17)=true then
   some (Sum.inr (Sum.inr false))
  else
   some (Sum.inl (IntKind.wrap .i64 (i8 + 1)))
 else
  some (Sum.inr (Sum.inl ()))
def mC (a1:List GFn) (b2:List GFn):Option (Bool) :=
 if ((a1.length:Int) != (b2.length:Int))=true then
  some false
 else
  Option.bind (
   aG (fN a1 b2) 0) fun j7 =>
  match j7 with
  | Sum.inr z=>some z
  | Sum.inl () =>
   some true
def cG (a1:GProgram) (b2:GProgram):Option (Bool) :=
 (jB a1.Nodes b2.Nodes).bind fun r3 =>
 if (!r3)=true then
  some false
 else
  (mC a1.Fns b2.Fns).bind fun r7 =>
  if (!r7)=true then
   some false
  else
   some true
def cY (nodes1:List GNode):((List GNode) × Int)→Option (((List GNode) × Int) ⊕ (List GNode)):=fun ⟨out5,i6⟩ =>
 if (decide (i6 < (nodes1.length:Int)))=true then
  (getI nodes1 i6).bind fun e12 =>
  (appI 8 [] e12.Kids).bind fun l13 =>
  (appI 56 out5 [(⟨e12.Kind,e12.Num,e12.Name,e12.Kids⟩:GNode)]).bind fun l14 =>
  some (Sum.inl (l14,IntKind.wrap .i64 (i6 + 1)))
 else
  some (Sum.inr out5)
def gW (nodes1:List GNode):Option (List GNode) :=
 Option.bind (
  aG (cY nodes1) ([],0)) fun out16 =>
 some out16
def dX (p1:GProgram):(Int × GProgram)→Option ((Int × GProgram) ⊕ (GProgram)):=fun ⟨i7,v8⟩ =>
 if (decide (i7 < (p1.Fns.length:Int)))=true then
  (getI p1.Fns i7).bind fun e14 =>
  (appI 24 [] e14.Params).bind fun l15 =>
  (appI 64 v8.Fns [(⟨e14.Name,e14.Params,e14.Res,e14.Body,e14.Ret⟩:GFn)]).bind fun l16 =>
  some (Sum.inl (IntKind.wrap .i64 (i7 + 1),(⟨v8.Nodes,l16⟩:GProgram)))
 else
  some (Sum.inr v8)
def gN (p1:GProgram):Option (GProgram) :=
 (gW p1.Nodes).bind fun r2 =>
 Option.bind (
  aG (dX p1) (0,(⟨r2,[]⟩:GProgram))) fun v18 =>
 some v18
def bR (r26:List Int):((List Bool) × (List Int) × Int)→Option (((List Bool) × (List Int) × Int) ⊕ ((List Bool) × (List Int))):=fun ⟨has28,list29,k30⟩ =>
 if (decide (k30 < (r26.length:Int)))=true then
  (getI r26 k30).bind fun e36 =>
  (getI has28 e36).bind fun e37 =>
  if (!e37)=true then
   (getI r26 k30).bind fun e40 =>
   (getI has28 e40).bind fun e41 =>
   jJ (List.set has28 e40.toNat true) fun l42 =>
   (getI r26 k30).bind fun e43 =>
   (appI 8 list29 [e43]).bind fun l44 =>
   some (Sum.inl (l42,l44,IntKind.wrap .i64 (k30 + 1)))
  else
   some (Sum.inl (has28,list29,IntKind.wrap .i64 (k30 + 1)))
 else
  some (Sum.inr (has28,list29))
def bT (p1:GProgram):((List Bool) × (List Int) × Int)→Option (((List Bool) × (List Int) × Int) ⊕ (List Bool)):=fun ⟨has13,list14,i15⟩ =>
 if (decide (i15 < (list14.length:Int)))=true then
  Option.bind (
   (getI list14 i15).bind fun e25 =>
   (iS p1 e25).bind fun r26 =>
   aG (bR r26) (has13,list14,0)) fun ⟨has46,list47⟩ =>
  some (Sum.inl (has46,list47,IntKind.wrap .i64 (i15 + 1)))
 else
  some (Sum.inr has13)
def bQ (has49:List Bool):((List Int) × Int)→Option (((List Int) × Int) ⊕ (List Int)):=fun ⟨out53,i54⟩ =>
 if (decide (i54 < (has49.length:Int)))=true then
  (getI has49 i54).bind fun e60 =>
  if e60=true then
   (appI 8 out53 [i54]).bind fun l63 =>
   some (Sum.inl (l63,IntKind.wrap .i64 (i54 + 1)))
  else
   some (Sum.inl (out53,IntKind.wrap .i64 (i54 + 1)))
 else
  some (Sum.inr out53)
def fA (p1:GProgram) (fn2:Int):Option (List Int) :=
 (aP fn2 0 (IntKind.wrap .i64 ((p1.Fns.length:Int) - 1))).bind fun r3 =>
 if (!r3)=true then
  some []
 else
  (mkI 1 (p1.Fns.length:Int) false).bind fun l7 =>
  (getI l7 fn2).bind fun e8 =>
  jJ (List.set l7 fn2.toNat true) fun l9 =>
  Option.bind (
   aG (bT p1) (l9,[fn2],0)) fun has49 =>
  Option.bind (
   aG (bQ has49) ([],0)) fun out65 =>
  some out65
def aV (rec_spec_l04Pack_put:Gl04Pack→Int→Int→Option (Int × Gl04Pack)) (k2:Int) (deep3:Int):(Int × GNode × Gl04Pack)→Option ((Int × GNode × Gl04Pack) ⊕ (GNode × Gl04Pack)):=fun ⟨i21,v22,v23⟩ =>
 Option.bind (
  (getI v23.from_ k2).bind fun e29 =>
  if (decide (i21 < (e29.Kids.length:Int)))=true then
   some (!v23.bad)
  else
   some false) fun v32 =>
 if v32=true then
  (getI v23.from_ k2).bind fun e35 =>
  (getI e35.Kids i21).bind fun e36 =>
  (rec_spec_l04Pack_put (⟨v23.from_,v23.to_,v23.bad⟩:Gl04Pack) e36 (IntKind.wrap .i64 (deep3 + 1))).bind fun ⟨r37,q38⟩ =>
  (appI 8 v22.Kids [r37]).bind fun l40 =>
  some (Sum.inl (IntKind.wrap .i64 (i21 + 1),(⟨v22.Kind,v22.Num,v22.Name,l40⟩:GNode),(⟨q38.from_,q38.to_,q38.bad⟩:Gl04Pack)))
 else
  some (Sum.inr (v22,(⟨v23.from_,v23.to_,v23.bad⟩:Gl04Pack)))
def aZ (rec_spec_l04Pack_put:Gl04Pack→Int→Int→Option (Int × Gl04Pack)) (x1:Gl04Pack) (k2:Int) (deep3:Int):Option (Int × Gl04Pack) :=
 Option.bind (
  if x1.bad=true then
   some true
  else
   if (decide (deep3 > 10))=true then
    some true
   else
    (aP k2 0 (IntKind.wrap .i64 ((x1.from_.length:Int) - 1))).bind fun r10 =>
    if (!r10)=true then
     some true
    else
     some (decide ((x1.to_.length:Int) > 300))) fun v14 =>
 if v14=true then
  some ((-1),(⟨x1.from_,x1.to_,true⟩:Gl04Pack))
 else
  (getI x1.from_ k2).bind fun e17 =>
  Option.bind (
   aG (aV rec_spec_l04Pack_put k2 deep3) (0,(⟨e17.Kind,e17.Num,e17.Name,[]⟩:GNode),(⟨x1.from_,x1.to_,x1.bad⟩:Gl04Pack))) fun ⟨v42,v43⟩ =>
  (appI 56 v43.to_ [v42]).bind fun l44 =>
  some (IntKind.wrap .i64 ((l44.length:Int) - 1),(⟨v43.from_,l44,v43.bad⟩:Gl04Pack))
def aH:Nat→Gl04Pack→Int→Int→Option (Int × Gl04Pack)
 | 0=>fun _ _ _=>none
 | n + 1=>aZ (aH n)
def cX:Gl04Pack→Int→Int→Option (Int × Gl04Pack):=(aH dN)
def aX (p1:GProgram):(Int × GProgram × Gl04Pack)→Option ((Int × GProgram × Gl04Pack) ⊕ (GProgram × Gl04Pack)):=fun ⟨i5,v6,v7⟩ =>
 if (decide (i5 < (p1.Fns.length:Int)))=true then
  (getI p1.Fns i5).bind fun e13 =>
  (appI 24 [] e13.Params).bind fun l14 =>
  (cX (⟨v7.from_,v7.to_,v7.bad⟩:Gl04Pack) e13.Body 1).bind fun ⟨r15,q16⟩ =>
  Option.bind (
   if (decide (e13.Ret ≥ 0))=true then
    (cX (⟨q16.from_,q16.to_,q16.bad⟩:Gl04Pack) e13.Ret 1).bind fun ⟨r23,q24⟩ =>
    some ((⟨e13.Name,e13.Params,e13.Res,r15,r23⟩:GFn),(⟨q24.from_,q24.to_,q24.bad⟩:Gl04Pack))
   else
    some ((⟨e13.Name,e13.Params,e13.Res,r15,e13.Ret⟩:GFn),(⟨q16.from_,q16.to_,q16.bad⟩:Gl04Pack))) fun ⟨v26,v27⟩ =>
  (appI 64 v6.Fns [v26]).bind fun l28 =>
  some (Sum.inl (IntKind.wrap .i64 (i5 + 1),(⟨v6.Nodes,l28⟩:GProgram),(⟨v27.from_,v27.to_,v27.bad⟩:Gl04Pack)))
 else
  some (Sum.inr (v6,(⟨v7.from_,v7.to_,v7.bad⟩:Gl04Pack)))
def kE (p1:GProgram):Option (GProgram × Bool) :=
 Option.bind (
  aG (aX p1) (0,(⟨[],[]⟩:GProgram),(⟨p1.Nodes,[],false⟩:Gl04Pack))) fun ⟨v30,v31⟩ =>
 Option.bind (
  if v31.bad=true then
   some true
  else
   some (decide ((v31.to_.length:Int) > 300))) fun v36 =>
 if v36=true then
  some ((⟨[],[]⟩:GProgram),false)
 else
  some ((⟨v31.to_,v30.Fns⟩:GProgram),true)
def dA (p1:GProgram) (r8:List Int):(Int × GProgram)→Option ((Int × GProgram) ⊕ (GProgram)):=fun ⟨i13,v14⟩ =>
 if (decide (i13 < (r8.length:Int)))=true then
  (getI r8 i13).bind fun e21 =>
  (getI p1.Fns e21).bind fun e22 =>
  (appI 64 v14.Fns [e22]).bind fun l23 =>
  some (Sum.inl (IntKind.wrap .i64 (i13 + 1),(⟨v14.Nodes,l23⟩:GProgram)))
 else
  some (Sum.inr (⟨v14.Nodes,v14.Fns⟩:GProgram))
def gY (p1:GProgram):Option (GProgram × Bool) :=
 (fW p1).bind fun r2 =>
 if (!r2)=true then
  (gN p1).bind fun r6 =>
  some (r6,false)
 else
  (fA p1 (IntKind.wrap .i64 ((p1.Fns.length:Int) - 1))).bind fun r8 =>
  Option.bind (
   aG (dA p1 r8) (0,(⟨p1.Nodes,[]⟩:GProgram))) fun v25 =>
  (kE (⟨v25.Nodes,v25.Fns⟩:GProgram)).bind fun ⟨r26,r27⟩ =>
  if (!r27)=true then
   (gN p1).bind fun r31 =>
   some (r31,false)
  else
   some (r26,true)
def gJ (f1:GFn):Option (GFn) :=
 (appI 24 [] f1.Params).bind fun l2 =>
 some (⟨f1.Name,f1.Params,f1.Res,f1.Body,f1.Ret⟩:GFn)
def iF (l1:List Int):Option (List Int) :=
 (appI 8 [] l1).bind fun l2 =>
 some l1
def cO (l1:List GNode):((List GNode) × Int)→Option (((List GNode) × Int) ⊕ (List GNode)):=fun ⟨out5,v6⟩ =>
 if (decide (v6 < (l1.length:Int)))=true then
  (getI l1 v6).bind fun e12 =>
  (iF e12.Kids).bind fun r13 =>
  (appI 56 out5 [(⟨e12.Kind,e12.Num,e12.Name,r13⟩:GNode)]).bind fun l15 =>
  some (Sum.inl (l15,IntKind.wrap .i64 (v6 + 1)))
 else
  some (Sum.inr out5)
def gD (l1:List GNode):Option (List GNode) :=
 Option.bind (
  aG (cO l1) ([],0)) fun out17 =>
 some out17
def bL (p1:GProgram):(Int × GProgram)→Option ((Int × GProgram) ⊕ (GProgram)):=fun ⟨v7,v8⟩ =>
 if (decide (v7 < (p1.Fns.length:Int)))=true then
  (getI p1.Fns v7).bind fun e14 =>
  (gJ e14).bind fun r15 =>
  (appI 64 v8.Fns [r15]).bind fun l17 =>
  some (Sum.inl (IntKind.wrap .i64 (v7 + 1),(⟨v8.Nodes,l17⟩:GProgram)))
 else
  some (Sum.inr v8)
def cB (p1:GProgram):Option (GProgram) :=
 (gD p1.Nodes).bind fun r2 =>
 Option.bind (
  aG (bL p1) (0,(⟨r2,[]⟩:GProgram))) fun v19 =>
 some v19
def bU (r22:List Int):((List Int) × Int)→Option (((List Int) × Int) ⊕ (List Int)):=fun ⟨out24,v25⟩ =>
 if (decide (v25 < (r22.length:Int)))=true then
  (getI r22 v25).bind fun e31 =>
  (eI out24 e31).bind fun r32 =>
  if (!r32)=true then
   (appI 8 out24 [e31]).bind fun l36 =>
   some (Sum.inl (l36,IntKind.wrap .i64 (v25 + 1)))
  else
   some (Sum.inl (out24,IntKind.wrap .i64 (v25 + 1)))
 else
  some (Sum.inr out24)
def bV (p1:GProgram):((List Int) × Int)→Option (((List Int) × Int) ⊕ (List Int)):=fun ⟨out10,i11⟩ =>
 if (decide (i11 < (out10.length:Int)))=true then
  Option.bind (
   (getI out10 i11).bind fun e21 =>
   (jG p1 e21).bind fun r22 =>
   aG (bU r22) (out10,0)) fun out38 =>
  some (Sum.inl (out38,IntKind.wrap .i64 (i11 + 1)))
 else
  some (Sum.inr out10)
def fE (p1:GProgram) (fn2:Int):Option (List Int) :=
 (cV fn2 0 (IntKind.wrap .i64 ((p1.Fns.length:Int) - 1))).bind fun r3 =>
 if (!r3)=true then
  some []
 else
  Option.bind (
   aG (bV p1) ([fn2],0)) fun out40 =>
  (sort_Ints out40).bind fun q41 =>
  some q41
def bF (rec_impl_packer_put:Gpacker→Int→Int→Option (Int × Gpacker)) (deep3:Int) (e17:GNode):((List Int) × Int × Gpacker)→Option (((List Int) × Int × Gpacker) ⊕ (((List Int) × Gpacker) ⊕ (Int × Gpacker))):=fun ⟨kids21,v22,v23⟩ =>
 if (decide (v22 < (e17.Kids.length:Int)))=true then
  (getI e17.Kids v22).bind fun e29 =>
  (rec_impl_packer_put (⟨v23.from_,v23.to_,v23.bad⟩:Gpacker) e29 (IntKind.wrap .i64 (deep3 + 1))).bind fun ⟨r30,q31⟩ =>
  if q31.bad=true then
   some (Sum.inr (Sum.inr ((-1),(⟨q31.from_,q31.to_,q31.bad⟩:Gpacker))))
  else
   (appI 8 kids21 [r30]).bind fun l36 =>
   some (Sum.inl (l36,IntKind.wrap .i64 (v22 + 1),(⟨q31.from_,q31.to_,q31.bad⟩:Gpacker)))
 else
  some (Sum.inr (Sum.inl (kids21,(⟨v23.from_,v23.to_,v23.bad⟩:Gpacker))))
def cM (rec_impl_packer_put:Gpacker→Int→Int→Option (Int × Gpacker)) (x1:Gpacker) (k2:Int) (deep3:Int):Option (Int × Gpacker) :=
 Option.bind (
  if x1.bad=true then
   some true
  else
   (cV k2 0 (IntKind.wrap .i64 ((x1.from_.length:Int) - 1))).bind fun r8 =>
   if (!r8)=true then
    some true
   else
    if (decide (deep3 > 10))=true then
     some true
    else
     some (decide ((x1.to_.length:Int) ≥ 300))) fun v14 =>
 if v14=true then
  some ((-1),(⟨x1.from_,x1.to_,true⟩:Gpacker))
 else
  (getI x1.from_ k2).bind fun e17 =>
  Option.bind (
   aG (bF rec_impl_packer_put deep3 e17) ([],0,(⟨x1.from_,x1.to_,x1.bad⟩:Gpacker))) fun j20 =>
  match j20 with
  | Sum.inr z=>some z
  | Sum.inl (kids38,v39) =>
   if (decide ((v39.to_.length:Int) ≥ 300))=true then
    some ((-1),(⟨v39.from_,v39.to_,true⟩:Gpacker))
   else
    (appI 56 v39.to_ [(⟨e17.Kind,e17.Num,e17.Name,kids38⟩:GNode)]).bind fun l42 =>
    some (IntKind.wrap .i64 ((l42.length:Int) - 1),(⟨v39.from_,l42,v39.bad⟩:Gpacker))
def aN:Nat→Gpacker→Int→Int→Option (Int × Gpacker)
 | 0=>fun _ _ _=>none
 | n + 1=>cM (aN n)
def eC:Gpacker→Int→Int→Option (Int × Gpacker):=(aN dN)
def aY (p1:GProgram):(Int × Gpacker × GProgram)→Option ((Int × Gpacker × GProgram) ⊕ (Gpacker × GProgram)):=fun ⟨v5,v6,v7⟩ =>
 if (decide (v5 < (p1.Fns.length:Int)))=true then
  (getI p1.Fns v5).bind fun e13 =>
  (gJ e13).bind fun r14 =>
  (eC (⟨v6.from_,v6.to_,v6.bad⟩:Gpacker) r14.Body 1).bind fun ⟨r16,q17⟩ =>
  Option.bind (
   if (decide (r14.Ret ≥ 0))=true then
    (eC (⟨q17.from_,q17.to_,q17.bad⟩:Gpacker) r14.Ret 1).bind fun ⟨r24,q25⟩ =>
    some ((⟨q25.from_,q25.to_,q25.bad⟩:Gpacker),(⟨r14.Name,r14.Params,r14.Res,r16,r24⟩:GFn))
   else
    some ((⟨q17.from_,q17.to_,q17.bad⟩:Gpacker),(⟨r14.Name,r14.Params,r14.Res,r16,r14.Ret⟩:GFn))) fun ⟨v27,v28⟩ =>
  (appI 64 v7.Fns [v28]).bind fun l29 =>
  some (Sum.inl (IntKind.wrap .i64 (v5 + 1),(⟨v27.from_,v27.to_,v27.bad⟩:Gpacker),(⟨v7.Nodes,l29⟩:GProgram)))
 else
  some (Sum.inr ((⟨v6.from_,v6.to_,v6.bad⟩:Gpacker),v7))
def kT (p1:GProgram):Option (GProgram × Bool) :=
 Option.bind (
  aG (aY p1) (0,(⟨p1.Nodes,[],false⟩:Gpacker),(⟨[],[]⟩:GProgram))) fun ⟨v31,v32⟩ =>
 if v31.bad=true then
  some ((⟨[],[]⟩:GProgram),false)
 else
  some ((⟨v31.to_,v32.Fns⟩:GProgram),true)
def dI (p1:GProgram) (r13:List Int):(Int × GProgram)→Option ((Int × GProgram) ⊕ (GProgram)):=fun ⟨v15,v16⟩ =>
 if (decide (v15 < (r13.length:Int)))=true then
  (getI r13 v15).bind fun e22 =>
  (getI p1.Fns e22).bind fun e23 =>
  (gJ e23).bind fun r24 =>
  (appI 64 v16.Fns [r24]).bind fun l26 =>
  some (Sum.inl (IntKind.wrap .i64 (v15 + 1),(⟨v16.Nodes,l26⟩:GProgram)))
 else
  some (Sum.inr v16)
def fR (p1:GProgram):Option (GProgram × Bool) :=
 (gE p1).bind fun r2 =>
 if (!r2)=true then
  (cB p1).bind fun r6 =>
  some (r6,false)
 else
  (cB p1).bind fun r8 =>
  Option.bind (
   (fE p1 (IntKind.wrap .i64 ((p1.Fns.length:Int) - 1))).bind fun r13 =>
   aG (dI p1 r13) (0,(⟨r8.Nodes,[]⟩:GProgram))) fun v28 =>
  (kT v28).bind fun ⟨r29,r30⟩ =>
  if (!r30)=true then
   (cB p1).bind fun r34 =>
   some (r34,false)
  else
   some (r29,true)
def dE:(Int × ByteArray)→Option ((Int × ByteArray) ⊕ (ByteArray)):=fun ⟨k7,out8⟩ =>
 if (decide (k7 > 0))=true then
  (sCat (kV [IntKind.wrap .u8 (IntKind.wrap .i64 (48 + (Int.tmod k7 10)))]) out8).bind fun t14 =>
  some (Sum.inl (IntKind.wrap .i64 (Int.tdiv k7 10),t14))
 else
  some (Sum.inr out8)
def aM (k1:Int):Option (ByteArray) :=
 if (decide (k1 ≤ 0))=true then
  some (⟨#[109,48]⟩:ByteArray)
 else
  Option.bind (
   aG (dE) (k1,(⟨#[]⟩:ByteArray))) fun out16 =>
  (sCat (⟨#[109]⟩:ByteArray) out16).bind fun t17 =>
  some t17
def bY:((List Int) × Int × Int)→Option (((List Int) × Int × Int) ⊕ ((List Int) × Int)):=fun ⟨a6,k7,i8⟩ =>
 if (decide (i8 < (a6.length:Int)))=true then
  (getI a6 i8).bind fun e14 =>
  jJ (List.set a6 i8.toNat k7) fun l15 =>
  some (Sum.inl (l15,IntKind.wrap .i64 (k7 + 1),IntKind.wrap .i64 (i8 + 1)))
 else
  some (Sum.inr (a6,k7))
def iA (a1:List Int) (k2:Int):Option (Int × (List Int)) :=
 Option.bind (
  aG (bY) (a1,k2,0)) fun ⟨a17,k18⟩ =>
 some (k18,a17)
def bJ:((List GNode) × Int × Int)→Option (((List GNode) × Int × Int) ⊕ ((List GNode) × Int)):=fun ⟨a6,k7,i8⟩ =>
 if (decide (i8 < (a6.length:Int)))=true then
  (getI a6 i8).bind fun e14 =>
  jJ (List.set a6 i8.toNat (⟨k7,e14.Num,e14.Name,e14.Kids⟩:GNode)) fun l15 =>
  (getI l15 i8).bind fun e16 =>
  jJ (List.set l15 i8.toNat (⟨e16.Kind,IntKind.wrap .i64 (k7 + 1),e16.Name,e16.Kids⟩:GNode)) fun l17 =>
  (aM (IntKind.wrap .i64 ((IntKind.wrap .i64 (k7 + 1)) + 1))).bind fun r18 =>
  (getI l17 i8).bind fun e20 =>
  jJ (List.set l17 i8.toNat (⟨e20.Kind,e20.Num,r18,e20.Kids⟩:GNode)) fun l21 =>
  (getI l21 i8).bind fun e22 =>
  (iA e22.Kids (IntKind.wrap .i64 ((IntKind.wrap .i64 ((IntKind.wrap .i64 (k7 + 1)) + 1)) + 1))).bind fun ⟨r23,q24⟩ =>
  jJ (List.set l21 i8.toNat (⟨e22.Kind,e22.Num,e22.Name,q24⟩:GNode)) fun l26 =>
  some (Sum.inl (l26,r23,IntKind.wrap .i64 (i8 + 1)))
 else
  some (Sum.inr (a6,k7))
def gB (a1:List GNode) (k2:Int):Option (Int × (List GNode)) :=
 Option.bind (
  aG (bJ) (a1,k2,0)) fun ⟨a28,k29⟩ =>
 some (k29,a28)
def bD:((List GParam) × Int × Int)→Option (((List GParam) × Int × Int) ⊕ ((List GParam) × Int)):=fun ⟨a6,k7,i8⟩ =>
 if (decide (i8 < (a6.length:Int)))=true then
  (aM k7).bind fun r14 =>
  (getI a6 i8).bind fun e16 =>
  jJ (List.set a6 i8.toNat (⟨r14,e16.Typ⟩:GParam)) fun l17 =>
  (getI l17 i8).bind fun e18 =>
  jJ (List.set l17 i8.toNat (⟨e18.Name,IntKind.wrap .i64 (k7 + 1)⟩:GParam)) fun l19 =>
  some (Sum.inl (l19,IntKind.wrap .i64 ((IntKind.wrap .i64 (k7 + 1)) + 1),IntKind.wrap .i64 (i8 + 1)))
 else
  some (Sum.inr (a6,k7))
def fD (a1:List GParam) (k2:Int):Option (Int × (List GParam)) :=
 Option.bind (
  aG (bD) (a1,k2,0)) fun ⟨a21,k22⟩ =>
 some (k22,a21)
def cT:((List GFn) × Int × Int)→Option (((List GFn) × Int × Int) ⊕ ((List GFn) × Int)):=fun ⟨a6,k7,i8⟩ =>
 if (decide (i8 < (a6.length:Int)))=true then
  (aM k7).bind fun r14 =>
  (getI a6 i8).bind fun e16 =>
  jJ (List.set a6 i8.toNat (⟨r14,e16.Params,e16.Res,e16.Body,e16.Ret⟩:GFn)) fun l17 =>
  (getI l17 i8).bind fun e18 =>
  (fD e18.Params (IntKind.wrap .i64 (k7 + 1))).bind fun ⟨r19,q20⟩ =>
  jJ (List.set l17 i8.toNat (⟨e18.Name,q20,e18.Res,e18.Body,e18.Ret⟩:GFn)) fun l22 =>
  (getI l22 i8).bind fun e23 =>
  jJ (List.set l22 i8.toNat (⟨e23.Name,e23.Params,r19,e23.Body,e23.Ret⟩:GFn)) fun l24 =>
  (getI l24 i8).bind fun e25 =>
  jJ (List.set l24 i8.toNat (⟨e25.Name,e25.Params,e25.Res,IntKind.wrap .i64 (r19 + 1),e25.Ret⟩:GFn)) fun l26 =>
  (getI l26 i8).bind fun e27 =>
  jJ (List.set l26 i8.toNat (⟨e27.Name,e27.Params,e27.Res,e27.Body,IntKind.wrap .i64 ((IntKind.wrap .i64 (r19 + 1)) + 1)⟩:GFn)) fun l28 =>
  some (Sum.inl (l28,IntKind.wrap .i64 ((IntKind.wrap .i64 ((IntKind.wrap .i64 (r19 + 1)) + 1)) + 1),IntKind.wrap .i64 (i8 + 1)))
 else
  some (Sum.inr (a6,k7))
def iY (a1:List GFn) (k2:Int):Option (Int × (List GFn)) :=
 Option.bind (
  aG (cT) (a1,k2,0)) fun ⟨a30,k31⟩ =>
 some (k31,a30)
def dF (a1:GProgram) (k2:Int):Option (Int × GProgram) :=
 (gB a1.Nodes k2).bind fun ⟨r3,q4⟩ =>
 (iY a1.Fns r3).bind fun ⟨r6,q7⟩ =>
 some (r6,(⟨q4,q7⟩:GProgram))
def cA (a1:List Int):(Int × Int)→Option ((Int × Int) ⊕ ((Int) ⊕ (Int))):=fun ⟨k6,i7⟩ =>
 if (decide (i7 < (a1.length:Int)))=true then
  (getI a1 i7).bind fun e13 =>
  if (e13 != k6)=true then
   some (Sum.inr (Sum.inr (-1)))
  else
   some (Sum.inl (IntKind.wrap .i64 (k6 + 1),IntKind.wrap .i64 (i7 + 1)))
 else
  some (Sum.inr (Sum.inl k6))
def dL (a1:List Int) (k2:Int):Option (Int) :=
 Option.bind (
  aG (cA a1) (k2,0)) fun j5 =>
 match j5 with
 | Sum.inr z=>some z
 | Sum.inl k18 =>
  some k18
def bK (a1:List GNode):(Int × Int)→Option ((Int × Int) ⊕ ((Int) ⊕ (Int))):=fun ⟨k6,i7⟩ =>
 if (decide (i7 < (a1.length:Int)))=true then
  (getI a1 i7).bind fun e13 =>
  if (e13.Kind != k6)=true then
   some (Sum.inr (Sum.inr (-1)))
  else
   (getI a1 i7).bind fun e17 =>
   if (e17.Num != (IntKind.wrap .i64 (k6 + 1)))=true then
    some (Sum.inr (Sum.inr (-1)))
   else
    (getI a1 i7).bind fun e22 =>
    (aM (IntKind.wrap .i64 ((IntKind.wrap .i64 (k6 + 1)) + 1))).bind fun r23 =>
    if (!(sEq e22.Name r23))=true then
     some (Sum.inr (Sum.inr (-1)))
    else
     (getI a1 i7).bind fun e28 =>
     (dL e28.Kids (IntKind.wrap .i64 ((IntKind.wrap .i64 ((IntKind.wrap .i64 (k6 + 1)) + 1)) + 1))).bind fun r29 =>
     if (decide (r29 < 0))=true then
      some (Sum.inr (Sum.inr (-1)))
     else
      some (Sum.inl (r29,IntKind.wrap .i64 (i7 + 1)))
 else
  some (Sum.inr (Sum.inl k6))
def gC (a1:List GNode) (k2:Int):Option (Int) :=
 Option.bind (
  aG (bK a1) (k2,0)) fun j5 =>
 match j5 with
 | Sum.inr z=>some z
 | Sum.inl k35 =>
  some k35
def bE (a1:List GParam):(Int × Int)→Option ((Int × Int) ⊕ ((Int) ⊕ (Int))):=fun ⟨k6,i7⟩ =>
 if (decide (i7 < (a1.length:Int)))=true then
  (getI a1 i7).bind fun e14 =>
  (aM k6).bind fun r15 =>
  if (!(sEq e14.Name r15))=true then
   some (Sum.inr (Sum.inr (-1)))
  else
   (getI a1 i7).bind fun e20 =>
   if (e20.Typ != (IntKind.wrap .i64 (k6 + 1)))=true then
    some (Sum.inr (Sum.inr (-1)))
   else
    some (Sum.inl (IntKind.wrap .i64 ((IntKind.wrap .i64 (k6 + 1)) + 1),IntKind.wrap .i64 (i7 + 1)))
 else
  some (Sum.inr (Sum.inl k6))
def bO (a1:List GParam) (k2:Int):Option (Int) :=
 Option.bind (
  aG (bE a1) (k2,0)) fun j5 =>
 match j5 with
 | Sum.inr z=>some z
 | Sum.inl k25 =>
  some k25
def cU (a1:List GFn):(Int × Int)→Option ((Int × Int) ⊕ ((Int) ⊕ (Int))):=fun ⟨k6,i7⟩ =>
 if (decide (i7 < (a1.length:Int)))=true then
  (getI a1 i7).bind fun e14 =>
  (aM k6).bind fun r15 =>
  if (!(sEq e14.Name r15))=true then
   some (Sum.inr (Sum.inr (-1)))
  else
   (getI a1 i7).bind fun e20 =>
   (bO e20.Params (IntKind.wrap .i64 (k6 + 1))).bind fun r21 =>
   if (decide (r21 < 0))=true then
    some (Sum.inr (Sum.inr (-1)))
   else
    (getI a1 i7).bind fun e26 =>
    if (e26.Res != r21)=true then
     some (Sum.inr (Sum.inr (-1)))
    else
     (getI a1 i7).bind fun e30 =>
     if (e30.Body != (IntKind.wrap .i64 (r21 + 1)))=true then
      some (Sum.inr (Sum.inr (-1)))
     else
      (getI a1 i7).bind fun e34 =>
      if (e34.Ret != (IntKind.wrap .i64 ((IntKind.wrap .i64 (r21 + 1)) + 1)))=true then
       some (Sum.inr (Sum.inr (-1)))
      else
       some (Sum.inl (IntKind.wrap .i64 ((IntKind.wrap .i64 ((IntKind.wrap .i64 (r21 + 1)) + 1)) + 1),IntKind.wrap .i64 (i7 + 1)))
 else
  some (Sum.inr (Sum.inl k6))
def iZ (a1:List GFn) (k2:Int):Option (Int) :=
 Option.bind (
  aG (cU a1) (k2,0)) fun j5 =>
 match j5 with
 | Sum.inr z=>some z
 | Sum.inl k39 =>
  some k39
def dG (a1:GProgram) (k2:Int):Option (Int) :=
 (gC a1.Nodes k2).bind fun r3 =>
 if (decide (r3 < 0))=true then
  some (-1)
 else
  (iZ a1.Fns r3).bind fun r7 =>
  if (decide (r7 < 0))=true then
   some (-1)
  else
   some r7
def dR (aP1:GProgram):Option (Bool) :=
 (gA aP1 1048576).bind fun r2 =>
 if (decide (r2 < 0))=true then
  some true
 else
  (cF aP1).bind fun r6 =>
  (gY r6).bind fun ⟨r8,r9⟩ =>
  (cF aP1).bind fun r11 =>
  (fR r11).bind fun ⟨r13,r14⟩ =>
  Option.bind (
   (cG r13 r8).bind fun r18 =>
   if (!r18)=true then
    some true
   else
    some (!(r14 == r9))) fun v22 =>
  if v22=true then
   some false
  else
   (cF aP1).bind fun r26 =>
   (cG r11 r26).bind fun r28 =>
   if (!r28)=true then
    some false
   else
    (dF r11 1).bind fun ⟨r32,q33⟩ =>
    Option.bind (
     if (decide (r32 < 0))=true then
      some true
     else
      (cG r13 r8).bind fun r39 =>
      if (!r39)=true then
       some true
      else
       some (!(r14 == r9))) fun v43 =>
    if v43=true then
     some false
    else
     (dF r13 1).bind fun ⟨r46,q47⟩ =>
     (dG q47 1).bind fun r49 =>
     if (decide (r49 < 0))=true then
      some false
     else
      if (r49 != r46)=true then
       some false
      else
       (cF aP1).bind fun r55 =>
       (fR r55).bind fun ⟨r57,r58⟩ =>
       Option.bind (
        (cG r57 r8).bind fun r62 =>
        if (!r62)=true then
         some true
        else
         some (!(r58 == r9))) fun v66 =>
       if v66=true then
        some false
       else
        (dG q47 1).bind fun r69 =>
        if (decide (r69 < 0))=true then
         some false
        else
         if (r69 != r46)=true then
          some false
         else
          some true
end Go.OM
end
set_option maxRecDepth 100000
set_option maxHeartbeats 8000000
namespace Go.Proofs.T
open Go.OM
noncomputable def ty:TypeId→Option TI
 | 2=>some ⟨1,8,.int .i64,[.v (.int .i64 0)]⟩
 | 3=>some ⟨1,8,.int .i64,[.v (.int .i64 0)]⟩
 | 4=>some ⟨1,1,.bool,[.v (.bool false)]⟩
 | 5=>some ⟨1,1,.int .u8,[.v (.int .u8 0)]⟩
 | 7=>some ⟨4,24,.struct [(0,1),(1,1),(2,1),(3,1)],[.v (.int .i64 0),.v (.int .i64 0),.v (.bool false),.v (.int .u8 0)]⟩
 | 9=>some ⟨1,16,.str,[.v (.string .empty)]⟩
 | 12=>some ⟨1,8,.int .u64,[.v (.int .u64 0)]⟩
 | 13=>some ⟨2,24,.struct [(0,1),(1,1)],[.v (.string .empty),.v (.int .u64 0)]⟩
 | 15=>some ⟨1,8,.ptr,[.v (.pointer none)]⟩
 | 16=>some ⟨1,8,.ptr,[.v (.pointer none)]⟩
 | 17=>some ⟨1,8,.ptr,[.v (.pointer none)]⟩
 | 18=>some ⟨1,8,.struct [(0,1)],[.v (.pointer none)]⟩
 | 20=>some ⟨1,16,.iface,[.v .nilIface]⟩
 | 21=>some ⟨1,4,.int .i32,[.v (.int .i32 0)]⟩
 | 22=>some ⟨1,24,.slice 56,[.nl true 4 none]⟩
 | 23=>some ⟨1,24,.slice 60,[.nl true 5 none]⟩
 | 24=>some ⟨2,48,.struct [(0,1),(1,1)],[.nl true 4 none,.nl true 5 none]⟩
 | 25=>some ⟨2,48,.struct [(0,1),(1,1)],[.nl true 4 none,.nl true 5 none]⟩
 | 26=>some ⟨1,8,.func,[.v .nilFunc]⟩
 | 27=>some ⟨1,8,.func,[.v .nilFunc]⟩
 | 28=>some ⟨1,24,.slice 73,[.nl true 4 none]⟩
 | 29=>some ⟨1,24,.slice 50,[.nl true 5 none]⟩
 | 30=>some ⟨2,48,.struct [(0,1),(1,1)],[.nl true 4 none,.nl true 5 none]⟩
 | 31=>some ⟨2,48,.struct [(0,1),(1,1)],[.nl true 4 none,.nl true 5 none]⟩
 | 32=>some ⟨1,8,.func,[.v .nilFunc]⟩
 | 33=>some ⟨1,8,.func,[.v .nilFunc]⟩
 | 34=>some ⟨1,8,.func,[.v .nilFunc]⟩
 | 36=>some ⟨1,8,.func,[.v .nilFunc]⟩
 | 37=>some ⟨1,8,.func,[.v .nilFunc]⟩
 | 38=>some ⟨1,8,.func,[.v .nilFunc]⟩
 | 39=>some ⟨1,8,.func,[.v .nilFunc]⟩
 | 40=>some ⟨1,8,.func,[.v .nilFunc]⟩
 | 41=>some ⟨1,24,.slice 3,[.nl true 1 none]⟩
 | 42=>some ⟨1,8,.func,[.v .nilFunc]⟩
 | 43=>some ⟨1,8,.func,[.v .nilFunc]⟩
 | 44=>some ⟨1,8,.func,[.v .nilFunc]⟩
 | 45=>some ⟨1,8,.func,[.v .nilFunc]⟩
 | 46=>some ⟨1,8,.func,[.v .nilFunc]⟩
 | 47=>some ⟨1,8,.func,[.v .nilFunc]⟩
 | 48=>some ⟨1,24,.slice 71,[.nl true 2 none]⟩
 | 49=>some ⟨5,64,.struct [(0,1),(1,1),(2,1),(3,1),(4,1)],[.v (.string .empty),.nl true 2 none,.v (.int .i64 0),.v (.int .i64 0),.v (.int .i64 0)]⟩
 | 50=>some ⟨5,64,.struct [(0,1),(1,1),(2,1),(3,1),(4,1)],[.v (.string .empty),.nl true 2 none,.v (.int .i64 0),.v (.int .i64 0),.v (.int .i64 0)]⟩
 | 51=>some ⟨1,8,.func,[.v .nilFunc]⟩
 | 52=>some ⟨1,8,.func,[.v .nilFunc]⟩
 | 53=>some ⟨1,8,.func,[.v .nilFunc]⟩
 | 54=>some ⟨1,8,.func,[.v .nilFunc]⟩
 | 55=>some ⟨4,56,.struct [(0,1),(1,1),(2,1),(3,1)],[.v (.int .i64 0),.v (.int .i64 0),.v (.string .empty),.nl true 1 none]⟩
 | 56=>some ⟨4,56,.struct [(0,1),(1,1),(2,1),(3,1)],[.v (.int .i64 0),.v (.int .i64 0),.v (.string .empty),.nl true 1 none]⟩
 | 57=>some ⟨1,8,.func,[.v .nilFunc]⟩
 | 58=>some ⟨1,24,.slice 113,[.nl true 2 none]⟩
 | 59=>some ⟨5,64,.struct [(0,1),(1,1),(2,1),(3,1),(4,1)],[.v (.string .empty),.nl true 2 none,.v (.int .i64 0),.v (.int .i64 0),.v (.int .i64 0)]⟩
 | 60=>some ⟨5,64,.struct [(0,1),(1,1),(2,1),(3,1),(4,1)],[.v (.string .empty),.nl true 2 none,.v (.int .i64 0),.v (.int .i64 0),.v (.int .i64 0)]⟩
 | 61=>some ⟨1,24,.slice 65,[.nl true 3 none]⟩
 | 62=>some ⟨1,8,.func,[.v .nilFunc]⟩
 | 63=>some ⟨1,8,.func,[.v .nilFunc]⟩
 | 64=>some ⟨3,32,.struct [(0,1),(1,1),(2,1)],[.v (.string .empty),.v (.int .i64 0),.v (.int .i64 0)]⟩
 | 65=>some ⟨3,32,.struct [(0,1),(1,1),(2,1)],[.v (.string .empty),.v (.int .i64 0),.v (.int .i64 0)]⟩
 | 66=>some ⟨1,8,.ptr,[.v (.pointer none)]⟩
 | 67=>some ⟨1,24,.slice 9,[.nl true 1 none]⟩
 | 68=>some ⟨5,88,.struct [(0,2),(2,1),(3,1),(4,1)],[.nl true 4 none,.nl true 5 none,.v (.int .i64 0),.nl true 1 none,.v (.bool false)]⟩
 | 69=>some ⟨5,88,.struct [(0,2),(2,1),(3,1),(4,1)],[.nl true 4 none,.nl true 5 none,.v (.int .i64 0),.nl true 1 none,.v (.bool false)]⟩
 | 70=>some ⟨2,24,.struct [(0,1),(1,1)],[.v (.string .empty),.v (.int .i64 0)]⟩
 | 71=>some ⟨2,24,.struct [(0,1),(1,1)],[.v (.string .empty),.v (.int .i64 0)]⟩
 | 72=>some ⟨1,8,.func,[.v .nilFunc]⟩
 | 73=>some ⟨4,56,.struct [(0,1),(1,1),(2,1),(3,1)],[.v (.int .i64 0),.v (.int .i64 0),.v (.string .empty),.nl true 1 none]⟩
 | 74=>some ⟨1,8,.func,[.v .nilFunc]⟩
 | 75=>some ⟨1,8,.func,[.v .nilFunc]⟩
 | 76=>some ⟨1,8,.func,[.v .nilFunc]⟩
 | 77=>some ⟨1,8,.func,[.v .nilFunc]⟩
 | 78=>some ⟨1,8,.func,[.v .nilFunc]⟩
 | 79=>some ⟨1,8,.func,[.v .nilFunc]⟩
 | 80=>some ⟨1,8,.func,[.v .nilFunc]⟩
 | 81=>some ⟨1,8,.func,[.v .nilFunc]⟩
 | 82=>some ⟨1,8,.func,[.v .nilFunc]⟩
 | 83=>some ⟨1,8,.func,[.v .nilFunc]⟩
 | 84=>some ⟨1,8,.func,[.v .nilFunc]⟩
 | 85=>some ⟨1,8,.func,[.v .nilFunc]⟩
 | 86=>some ⟨1,24,.slice 4,[.nl true 1 none]⟩
 | 87=>some ⟨1,8,.ptr,[.v (.pointer none)]⟩
 | 88=>some ⟨3,56,.struct [(0,1),(1,1),(2,1)],[.nl true 4 none,.nl true 4 none,.v (.bool false)]⟩
 | 89=>some ⟨3,56,.struct [(0,1),(1,1),(2,1)],[.nl true 4 none,.nl true 4 none,.v (.bool false)]⟩
 | 90=>some ⟨1,8,.func,[.v .nilFunc]⟩
 | 91=>some ⟨1,8,.func,[.v .nilFunc]⟩
 | 92=>some ⟨1,8,.func,[.v .nilFunc]⟩
 | 93=>some ⟨1,8,.func,[.v .nilFunc]⟩
 | 94=>some ⟨3,56,.struct [(0,1),(1,1),(2,1)],[.nl true 4 none,.nl true 4 none,.v (.bool false)]⟩
 | 95=>some ⟨3,56,.struct [(0,1),(1,1),(2,1)],[.nl true 4 none,.nl true 4 none,.v (.bool false)]⟩
 | 96=>some ⟨1,8,.func,[.v .nilFunc]⟩
 | 97=>some ⟨1,8,.func,[.v .nilFunc]⟩
 | 98=>some ⟨1,8,.func,[.v .nilFunc]⟩
 | 99=>some ⟨1,8,.func,[.v .nilFunc]⟩
 | 100=>some ⟨1,8,.func,[.v .nilFunc]⟩
 | 101=>some ⟨1,8,.func,[.v .nilFunc]⟩
 | 102=>some ⟨1,8,.func,[.v .nilFunc]⟩
 | 103=>some ⟨1,8,.func,[.v .nilFunc]⟩
 | 104=>some ⟨1,8,.func,[.v .nilFunc]⟩
 | 105=>some ⟨1,8,.func,[.v .nilFunc]⟩
 | 106=>some ⟨1,8,.func,[.v .nilFunc]⟩
 | 107=>some ⟨1,8,.func,[.v .nilFunc]⟩
 | 109=>some ⟨1,8,.func,[.v .nilFunc]⟩
 | 110=>some ⟨1,8,.ptr,[.v (.pointer none)]⟩
 | 111=>some ⟨1,24,.slice 5,[.nl true 1 none]⟩
 | 112=>some ⟨1,8,.func,[.v .nilFunc]⟩
 | 113=>some ⟨2,24,.struct [(0,1),(1,1)],[.v (.string .empty),.v (.int .i64 0)]⟩
 | 114=>some ⟨1,8,.func,[.v .nilFunc]⟩
 | 115=>some ⟨1,8,.func,[.v .nilFunc]⟩
 | 116=>some ⟨1,8,.func,[.v .nilFunc]⟩
 | 118=>some ⟨1,8,.func,[.v .nilFunc]⟩
 | 119=>some ⟨1,8,.func,[.v .nilFunc]⟩
 | 120=>some ⟨1,8,.func,[.v .nilFunc]⟩
 | 121=>some ⟨1,8,.func,[.v .nilFunc]⟩
 | 122=>some ⟨1,8,.int .u64,[.v (.int .u64 0)]⟩
 | 123=>some ⟨1,8,.func,[.v .nilFunc]⟩
 | 124=>some ⟨1,8,.func,[.v .nilFunc]⟩
 | 125=>some ⟨1,8,.func,[.v .nilFunc]⟩
 | 126=>some ⟨1,8,.int .i64,[.v (.int .i64 0)]⟩
 | 128=>some ⟨1,8,.func,[.v .nilFunc]⟩
 | 129=>some ⟨1,8,.func,[.v .nilFunc]⟩
 | 130=>some ⟨1,8,.func,[.v .nilFunc]⟩
 | 131=>some ⟨1,8,.func,[.v .nilFunc]⟩
 | 133=>some ⟨1,8,.func,[.v .nilFunc]⟩
 | 134=>some ⟨1,8,.func,[.v .nilFunc]⟩
 | 135=>some ⟨1,4,.int .u32,[.v (.int .u32 0)]⟩
 | 136=>some ⟨1,8,.func,[.v .nilFunc]⟩
 | 137=>some ⟨1,8,.int .u64,[.v (.int .u64 0)]⟩
 | 138=>some ⟨1,8,.func,[.v .nilFunc]⟩
 | 139=>some ⟨1,8,.int .u64,[.v (.int .u64 0)]⟩
 | 140=>some ⟨1,8,.func,[.v .nilFunc]⟩
 | 141=>some ⟨1,8,.func,[.v .nilFunc]⟩
 | 142=>some ⟨1,8,.func,[.v .nilFunc]⟩
 | 143=>some ⟨1,8,.ptr,[.v (.pointer none)]⟩
 | 144=>some ⟨1,8,.func,[.v .nilFunc]⟩
 | 145=>some ⟨1,8,.func,[.v .nilFunc]⟩
 | 146=>some ⟨1,8,.ptr,[.v (.pointer none)]⟩
 | 147=>some ⟨1,8,.func,[.v .nilFunc]⟩
 | 148=>some ⟨1,8,.func,[.v .nilFunc]⟩
 | 149=>some ⟨1,8,.func,[.v .nilFunc]⟩
 | 150=>some ⟨1,8,.func,[.v .nilFunc]⟩
 | 152=>some ⟨1,8,.func,[.v .nilFunc]⟩
 | 153=>some ⟨1,8,.func,[.v .nilFunc]⟩
 | 154=>some ⟨1,8,.func,[.v .nilFunc]⟩
 | 156=>some ⟨2,2,.struct [(0,1),(1,1)],[.v (.int .u8 0),.v (.int .u8 0)]⟩
 | 157=>some ⟨2,2,.struct [(0,1),(1,1)],[.v (.int .u8 0),.v (.int .u8 0)]⟩
 | 160=>some ⟨1,8,.func,[.v .nilFunc]⟩
 | 161=>some ⟨1,8,.func,[.v .nilFunc]⟩
 | 162=>some ⟨4,40,.struct [(0,1),(1,1),(2,1),(3,1)],[.v (.pointer none),.v (.pointer none),.v (.pointer none),.v (.string .empty)]⟩
 | 167=>some ⟨1,8,.func,[.v .nilFunc]⟩
 | 170=>some ⟨1,8,.func,[.v .nilFunc]⟩
 | 171=>some ⟨1,8,.ptr,[.v (.pointer none)]⟩
 | 174=>some ⟨11,48,.struct [(0,1),(1,1),(2,1),(3,1),(4,1),(5,1),(6,1),(7,1),(8,1),(9,1),(10,1)],[.v (.int .u64 0),.v (.int .u64 0),.v (.int .u32 0),.v (.int .u8 0),.v (.int .u8 0),.v (.int .u8 0),.v (.int .u8 0),.v .nilFunc,.v (.pointer none),.v (.int .i32 0),.v (.int .i32 0)]⟩
 | _=>none
theorem ty_ok (t:TypeId) (ti:TI) (h:ty t=some ti):TIok Tryz.prog t ti:=by
 unfold ty at h
 split at h
 ·cases h;exact ⟨by kernel_rfl,Tryz.underlying2,rfl⟩
 ·cases h;exact ⟨by kernel_rfl,Tryz.underlying3,rfl⟩
 ·cases h;exact ⟨by kernel_rfl,Tryz.underlying4,rfl⟩
 ·cases h;exact ⟨by kernel_rfl,Tryz.underlying5,rfl⟩
 ·cases h;exact ⟨by kernel_rfl,(show aF Tryz.prog 7=some [(0,1),(1,1),(2,1),(3,1)] by kernel_rfl),rfl⟩
 ·cases h;exact ⟨by kernel_rfl,Tryz.underlying9,rfl⟩
 ·cases h;exact ⟨by kernel_rfl,Tryz.underlying12,rfl⟩
 ·cases h;exact ⟨by kernel_rfl,(show aF Tryz.prog 13=some [(0,1),(1,1)] by kernel_rfl),rfl⟩
 ·cases h;exact ⟨by kernel_rfl,⟨_,Tryz.underlying15⟩,rfl⟩
 ·cases h;exact ⟨by kernel_rfl,⟨_,Tryz.underlying16⟩,rfl⟩
 ·cases h;exact ⟨by kernel_rfl,⟨_,Tryz.underlying17⟩,rfl⟩
 ·cases h;exact ⟨by kernel_rfl,(show aF Tryz.prog 18=some [(0,1)] by kernel_rfl),rfl⟩
 ·cases h;exact ⟨by kernel_rfl,⟨_,Tryz.underlying20⟩,rfl⟩
 ·cases h;exact ⟨by kernel_rfl,Tryz.underlying21,rfl⟩
 ·cases h;exact ⟨by kernel_rfl,Tryz.underlying22,rfl⟩
 ·cases h;exact ⟨by kernel_rfl,Tryz.underlying23,rfl⟩
 ·cases h;exact ⟨by kernel_rfl,(show aF Tryz.prog 24=some [(0,1),(1,1)] by kernel_rfl),rfl⟩
 ·cases h;exact ⟨by kernel_rfl,(show aF Tryz.prog 25=some [(0,1),(1,1)] by kernel_rfl),rfl⟩
 ·cases h;exact ⟨by kernel_rfl,⟨_,_,_,Tryz.underlying26⟩,rfl⟩
 ·cases h;exact ⟨by kernel_rfl,⟨_,_,_,Tryz.underlying27⟩,rfl⟩
 ·cases h;exact ⟨by kernel_rfl,Tryz.underlying28,rfl⟩
 ·cases h;exact ⟨by kernel_rfl,Tryz.underlying29,rfl⟩
 ·cases h;exact ⟨by kernel_rfl,(show aF Tryz.prog 30=some [(0,1),(1,1)] by kernel_rfl),rfl⟩
 ·cases h;exact ⟨by kernel_rfl,(show aF Tryz.prog 31=some [(0,1),(1,1)] by kernel_rfl),rfl⟩
 ·cases h;exact ⟨by kernel_rfl,⟨_,_,_,Tryz.underlying32⟩,rfl⟩
 ·cases h;exact ⟨by kernel_rfl,⟨_,_,_,Tryz.underlying33⟩,rfl⟩
 ·cases h;exact ⟨by kernel_rfl,⟨_,_,_,Tryz.underlying34⟩,rfl⟩
 ·cases h;exact ⟨by kernel_rfl,⟨_,_,_,Tryz.underlying36⟩,rfl⟩
 ·cases h;exact ⟨by kernel_rfl,⟨_,_,_,Tryz.underlying37⟩,rfl⟩
 ·cases h;exact ⟨by kernel_rfl,⟨_,_,_,Tryz.underlying38⟩,rfl⟩
 ·cases h;exact ⟨by kernel_rfl,⟨_,_,_,Tryz.underlying39⟩,rfl⟩
 ·cases h;exact ⟨by kernel_rfl,⟨_,_,_,Tryz.underlying40⟩,rfl⟩
 ·cases h;exact ⟨by kernel_rfl,Tryz.underlying41,rfl⟩
 ·cases h;exact ⟨by kernel_rfl,⟨_,_,_,Tryz.underlying42⟩,rfl⟩
 ·cases h;exact ⟨by kernel_rfl,⟨_,_,_,Tryz.underlying43⟩,rfl⟩
 ·cases h;exact ⟨by kernel_rfl,⟨_,_,_,Tryz.underlying44⟩,rfl⟩
 ·cases h;exact ⟨by kernel_rfl,⟨_,_,_,Tryz.underlying45⟩,rfl⟩
 ·cases h;exact ⟨by kernel_rfl,⟨_,_,_,Tryz.underlying46⟩,rfl⟩
 ·cases h;exact ⟨by kernel_rfl,⟨_,_,_,Tryz.underlying47⟩,rfl⟩
 ·cases h;exact ⟨by kernel_rfl,Tryz.underlying48,rfl⟩
 ·cases h;exact ⟨by kernel_rfl,(show aF Tryz.prog 49=some [(0,1),(1,1),(2,1),(3,1),(4,1)] by kernel_rfl),rfl⟩
 ·cases h;exact ⟨by kernel_rfl,(show aF Tryz.prog 50=some [(0,1),(1,1),(2,1),(3,1),(4,1)] by kernel_rfl),rfl⟩
 ·cases h;exact ⟨by kernel_rfl,⟨_,_,_,Tryz.underlying51⟩,rfl⟩
 ·cases h;exact ⟨by kernel_rfl,⟨_,_,_,Tryz.underlying52⟩,rfl⟩
 ·cases h;exact ⟨by kernel_rfl,⟨_,_,_,Tryz.underlying53⟩,rfl⟩
 ·cases h;exact ⟨by kernel_rfl,⟨_,_,_,Tryz.underlying54⟩,rfl⟩
 ·cases h;exact ⟨by kernel_rfl,(show aF Tryz.prog 55=some [(0,1),(1,1),(2,1),(3,1)] by kernel_rfl),rfl⟩
 ·cases h;exact ⟨by kernel_rfl,(show aF Tryz.prog 56=some [(0,1),(1,1),(2,1),(3,1)] by kernel_rfl),rfl⟩
 ·cases h;exact ⟨by kernel_rfl,⟨_,_,_,Tryz.underlying57⟩,rfl⟩
 ·cases h;exact ⟨by kernel_rfl,Tryz.underlying58,rfl⟩
 ·cases h;exact ⟨by kernel_rfl,(show aF Tryz.prog 59=some [(0,1),(1,1),(2,1),(3,1),(4,1)] by kernel_rfl),rfl⟩
 ·cases h;exact ⟨by kernel_rfl,(show aF Tryz.prog 60=some [(0,1),(1,1),(2,1),(3,1),(4,1)] by kernel_rfl),rfl⟩
 ·cases h;exact ⟨by kernel_rfl,Tryz.underlying61,rfl⟩
 ·cases h;exact ⟨by kernel_rfl,⟨_,_,_,Tryz.underlying62⟩,rfl⟩
 ·cases h;exact ⟨by kernel_rfl,⟨_,_,_,Tryz.underlying63⟩,rfl⟩
 ·cases h;exact ⟨by kernel_rfl,(show aF Tryz.prog 64=some [(0,1),(1,1),(2,1)] by kernel_rfl),rfl⟩
 ·cases h;exact ⟨by kernel_rfl,(show aF Tryz.prog 65=some [(0,1),(1,1),(2,1)] by kernel_rfl),rfl⟩
 ·cases h;exact ⟨by kernel_rfl,⟨_,Tryz.underlying66⟩,rfl⟩
 ·cases h;exact ⟨by kernel_rfl,Tryz.underlying67,rfl⟩
 ·cases h;exact ⟨by kernel_rfl,(show aF Tryz.prog 68=some [(0,2),(2,1),(3,1),(4,1)] by kernel_rfl),rfl⟩
 ·cases h;exact ⟨by kernel_rfl,(show aF Tryz.prog 69=some [(0,2),(2,1),(3,1),(4,1)] by kernel_rfl),rfl⟩
 ·cases h;exact ⟨by kernel_rfl,(show aF Tryz.prog 70=some [(0,1),(1,1)] by kernel_rfl),rfl⟩
 ·cases h;exact ⟨by kernel_rfl,(show aF Tryz.prog 71=some [(0,1),(1,1)] by kernel_rfl),rfl⟩
 ·cases h;exact ⟨by kernel_rfl,⟨_,_,_,Tryz.underlying72⟩,rfl⟩
 ·cases h;exact ⟨by kernel_rfl,(show aF Tryz.prog 73=some [(0,1),(1,1),(2,1),(3,1)] by kernel_rfl),rfl⟩
 ·cases h;exact ⟨by kernel_rfl,⟨_,_,_,Tryz.underlying74⟩,rfl⟩
 ·cases h;exact ⟨by kernel_rfl,⟨_,_,_,Tryz.underlying75⟩,rfl⟩
 ·cases h;exact ⟨by kernel_rfl,⟨_,_,_,Tryz.underlying76⟩,rfl⟩
 ·cases h;exact ⟨by kernel_rfl,⟨_,_,_,Tryz.underlying77⟩,rfl⟩
 ·cases h;exact ⟨by kernel_rfl,⟨_,_,_,Tryz.underlying78⟩,rfl⟩
 ·cases h;exact ⟨by kernel_rfl,⟨_,_,_,Tryz.underlying79⟩,rfl⟩
 ·cases h;exact ⟨by kernel_rfl,⟨_,_,_,Tryz.underlying80⟩,rfl⟩
 ·cases h;exact ⟨by kernel_rfl,⟨_,_,_,Tryz.underlying81⟩,rfl⟩
 ·cases h;exact ⟨by kernel_rfl,⟨_,_,_,Tryz.underlying82⟩,rfl⟩
 ·cases h;exact ⟨by kernel_rfl,⟨_,_,_,Tryz.underlying83⟩,rfl⟩
 ·cases h;exact ⟨by kernel_rfl,⟨_,_,_,Tryz.underlying84⟩,rfl⟩
 ·cases h;exact ⟨by kernel_rfl,⟨_,_,_,Tryz.underlying85⟩,rfl⟩
 ·cases h;exact ⟨by kernel_rfl,Tryz.underlying86,rfl⟩
 ·cases h;exact ⟨by kernel_rfl,⟨_,Tryz.underlying87⟩,rfl⟩
 ·cases h;exact ⟨by kernel_rfl,(show aF Tryz.prog 88=some [(0,1),(1,1),(2,1)] by kernel_rfl),rfl⟩
 ·cases h;exact ⟨by kernel_rfl,(show aF Tryz.prog 89=some [(0,1),(1,1),(2,1)] by kernel_rfl),rfl⟩
 ·cases h;exact ⟨by kernel_rfl,⟨_,_,_,Tryz.underlying90⟩,rfl⟩
 ·cases h;exact ⟨by kernel_rfl,⟨_,_,_,Tryz.underlying91⟩,rfl⟩
 ·cases h;exact ⟨by kernel_rfl,⟨_,_,_,Tryz.underlying92⟩,rfl⟩
 ·cases h;exact ⟨by kernel_rfl,⟨_,_,_,Tryz.underlying93⟩,rfl⟩
 ·cases h;exact ⟨by kernel_rfl,(show aF Tryz.prog 94=some [(0,1),(1,1),(2,1)] by kernel_rfl),rfl⟩
 ·cases h;exact ⟨by kernel_rfl,(show aF Tryz.prog 95=some [(0,1),(1,1),(2,1)] by kernel_rfl),rfl⟩
 ·cases h;exact ⟨by kernel_rfl,⟨_,_,_,Tryz.underlying96⟩,rfl⟩
 ·cases h;exact ⟨by kernel_rfl,⟨_,_,_,Tryz.underlying97⟩,rfl⟩
 ·cases h;exact ⟨by kernel_rfl,⟨_,_,_,Tryz.underlying98⟩,rfl⟩
 ·cases h;exact ⟨by kernel_rfl,⟨_,_,_,Tryz.underlying99⟩,rfl⟩
 ·cases h;exact ⟨by kernel_rfl,⟨_,_,_,Tryz.underlying100⟩,rfl⟩
 ·cases h;exact ⟨by kernel_rfl,⟨_,_,_,Tryz.underlying101⟩,rfl⟩
 ·cases h;exact ⟨by kernel_rfl,⟨_,_,_,Tryz.underlying102⟩,rfl⟩
 ·cases h;exact ⟨by kernel_rfl,⟨_,_,_,Tryz.underlying103⟩,rfl⟩
 ·cases h;exact ⟨by kernel_rfl,⟨_,_,_,Tryz.underlying104⟩,rfl⟩
 ·cases h;exact ⟨by kernel_rfl,⟨_,_,_,Tryz.underlying105⟩,rfl⟩
 ·cases h;exact ⟨by kernel_rfl,⟨_,_,_,Tryz.underlying106⟩,rfl⟩
 ·cases h;exact ⟨by kernel_rfl,⟨_,_,_,Tryz.underlying107⟩,rfl⟩
 ·cases h;exact ⟨by kernel_rfl,⟨_,_,_,Tryz.underlying109⟩,rfl⟩
 ·cases h;exact ⟨by kernel_rfl,⟨_,Tryz.underlying110⟩,rfl⟩
 ·cases h;exact ⟨by kernel_rfl,Tryz.underlying111,rfl⟩
 ·cases h;exact ⟨by kernel_rfl,⟨_,_,_,Tryz.underlying112⟩,rfl⟩
 ·cases h;exact ⟨by kernel_rfl,(show aF Tryz.prog 113=some [(0,1),(1,1)] by kernel_rfl),rfl⟩
 ·cases h;exact ⟨by kernel_rfl,⟨_,_,_,Tryz.underlying114⟩,rfl⟩
 ·cases h;exact ⟨by kernel_rfl,⟨_,_,_,Tryz.underlying115⟩,rfl⟩
 ·cases h;exact ⟨by kernel_rfl,⟨_,_,_,Tryz.underlying116⟩,rfl⟩
 ·cases h;exact ⟨by kernel_rfl,⟨_,_,_,Tryz.underlying118⟩,rfl⟩
 ·cases h;exact ⟨by kernel_rfl,⟨_,_,_,Tryz.underlying119⟩,rfl⟩
 ·cases h;exact ⟨by kernel_rfl,⟨_,_,_,Tryz.underlying120⟩,rfl⟩
 ·cases h;exact ⟨by kernel_rfl,⟨_,_,_,Tryz.underlying121⟩,rfl⟩
 ·cases h;exact ⟨by kernel_rfl,Tryz.underlying122,rfl⟩
 ·cases h;exact ⟨by kernel_rfl,⟨_,_,_,Tryz.underlying123⟩,rfl⟩
 ·cases h;exact ⟨by kernel_rfl,⟨_,_,_,Tryz.underlying124⟩,rfl⟩
 ·cases h;exact ⟨by kernel_rfl,⟨_,_,_,Tryz.underlying125⟩,rfl⟩
 ·cases h;exact ⟨by kernel_rfl,Tryz.underlying126,rfl⟩
 ·cases h;exact ⟨by kernel_rfl,⟨_,_,_,Tryz.underlying128⟩,rfl⟩
 ·cases h;exact ⟨by kernel_rfl,⟨_,_,_,Tryz.underlying129⟩,rfl⟩
 ·cases h;exact ⟨by kernel_rfl,⟨_,_,_,Tryz.underlying130⟩,rfl⟩
 ·cases h;exact ⟨by kernel_rfl,⟨_,_,_,Tryz.underlying131⟩,rfl⟩
 ·cases h;exact ⟨by kernel_rfl,⟨_,_,_,Tryz.underlying133⟩,rfl⟩
 ·cases h;exact ⟨by kernel_rfl,⟨_,_,_,Tryz.underlying134⟩,rfl⟩
 ·cases h;exact ⟨by kernel_rfl,Tryz.underlying135,rfl⟩
 ·cases h;exact ⟨by kernel_rfl,⟨_,_,_,Tryz.underlying136⟩,rfl⟩
 ·cases h;exact ⟨by kernel_rfl,Tryz.underlying137,rfl⟩
 ·cases h;exact ⟨by kernel_rfl,⟨_,_,_,Tryz.underlying138⟩,rfl⟩
 ·cases h;exact ⟨by kernel_rfl,Tryz.underlying139,rfl⟩
 ·cases h;exact ⟨by kernel_rfl,⟨_,_,_,Tryz.underlying140⟩,rfl⟩
 ·cases h;exact ⟨by kernel_rfl,⟨_,_,_,Tryz.underlying141⟩,rfl⟩
 ·cases h;exact ⟨by kernel_rfl,⟨_,_,_,Tryz.underlying142⟩,rfl⟩
 ·cases h;exact ⟨by kernel_rfl,⟨_,Tryz.underlying143⟩,rfl⟩
 ·cases h;exact ⟨by kernel_rfl,⟨_,_,_,Tryz.underlying144⟩,rfl⟩
 ·cases h;exact ⟨by kernel_rfl,⟨_,_,_,Tryz.underlying145⟩,rfl⟩
 ·cases h;exact ⟨by kernel_rfl,⟨_,Tryz.underlying146⟩,rfl⟩
 ·cases h;exact ⟨by kernel_rfl,⟨_,_,_,Tryz.underlying147⟩,rfl⟩
 ·cases h;exact ⟨by kernel_rfl,⟨_,_,_,Tryz.underlying148⟩,rfl⟩
 ·cases h;exact ⟨by kernel_rfl,⟨_,_,_,Tryz.underlying149⟩,rfl⟩
 ·cases h;exact ⟨by kernel_rfl,⟨_,_,_,Tryz.underlying150⟩,rfl⟩
 ·cases h;exact ⟨by kernel_rfl,⟨_,_,_,Tryz.underlying152⟩,rfl⟩
 ·cases h;exact ⟨by kernel_rfl,⟨_,_,_,Tryz.underlying153⟩,rfl⟩
 ·cases h;exact ⟨by kernel_rfl,⟨_,_,_,Tryz.underlying154⟩,rfl⟩
 ·cases h;exact ⟨by kernel_rfl,(show aF Tryz.prog 156=some [(0,1),(1,1)] by kernel_rfl),rfl⟩
 ·cases h;exact ⟨by kernel_rfl,(show aF Tryz.prog 157=some [(0,1),(1,1)] by kernel_rfl),rfl⟩
 ·cases h;exact ⟨by kernel_rfl,⟨_,_,_,Tryz.underlying160⟩,rfl⟩
 ·cases h;exact ⟨by kernel_rfl,⟨_,_,_,Tryz.underlying161⟩,rfl⟩
 ·cases h;exact ⟨by kernel_rfl,(show aF Tryz.prog 162=some [(0,1),(1,1),(2,1),(3,1)] by kernel_rfl),rfl⟩
 ·cases h;exact ⟨by kernel_rfl,⟨_,_,_,Tryz.underlying167⟩,rfl⟩
 ·cases h;exact ⟨by kernel_rfl,⟨_,_,_,Tryz.underlying170⟩,rfl⟩
 ·cases h;exact ⟨by kernel_rfl,⟨_,Tryz.underlying171⟩,rfl⟩
 ·cases h;exact ⟨by kernel_rfl,(show aF Tryz.prog 174=some [(0,1),(1,1),(2,1),(3,1),(4,1),(5,1),(6,1),(7,1),(8,1),(9,1),(10,1)] by kernel_rfl),rfl⟩
 ·cases h
noncomputable def E:Env:=⟨Tryz.prog,ty,ty_ok,by kernel_rfl,[(0,fun cs=>∃ m,cs[0]? = some (.int .i64 m))]⟩
@[simp] theorem E_ty2:E.ty 2=some ⟨1,8,.int .i64,[.v (.int .i64 0)]⟩:=rfl
@[simp] theorem E_ty3:E.ty 3=some ⟨1,8,.int .i64,[.v (.int .i64 0)]⟩:=rfl
@[simp] theorem E_ty4:E.ty 4=some ⟨1,1,.bool,[.v (.bool false)]⟩:=rfl
@[simp] theorem E_ty5:E.ty 5=some ⟨1,1,.int .u8,[.v (.int .u8 0)]⟩:=rfl
@[simp] theorem E_ty7:E.ty 7=some ⟨4,24,.struct [(0,1),(1,1),(2,1),(3,1)],[.v (.int .i64 0),.v (.int .i64 0),.v (.bool false),.v (.int .u8 0)]⟩:=rfl
@[simp] theorem E_ty9:E.ty 9=some ⟨1,16,.str,[.v (.string .empty)]⟩:=rfl
@[simp] theorem E_ty12:E.ty 12=some ⟨1,8,.int .u64,[.v (.int .u64 0)]⟩:=rfl
@[simp] theorem E_ty13:E.ty 13=some ⟨2,24,.struct [(0,1),(1,1)],[.v (.string .empty),.v (.int .u64 0)]⟩:=rfl
@[simp] theorem E_ty15:E.ty 15=some ⟨1,8,.ptr,[.v (.pointer none)]⟩:=rfl
@[simp] theorem E_ty16:E.ty 16=some ⟨1,8,.ptr,[.v (.pointer none)]⟩:=rfl
@[simp] theorem E_ty17:E.ty 17=some ⟨1,8,.ptr,[.v (.pointer none)]⟩:=rfl
@[simp] theorem E_ty18:E.ty 18=some ⟨1,8,.struct [(0,1)],[.v (.pointer none)]⟩:=rfl
@[simp] theorem E_ty20:E.ty 20=some ⟨1,16,.iface,[.v .nilIface]⟩:=rfl
@[simp] theorem E_ty21:E.ty 21=some ⟨1,4,.int .i32,[.v (.int .i32 0)]⟩:=rfl
@[simp] theorem E_ty22:E.ty 22=some ⟨1,24,.slice 56,[.nl true 4 none]⟩:=rfl
@[simp] theorem E_ty23:E.ty 23=some ⟨1,24,.slice 60,[.nl true 5 none]⟩:=rfl
@[simp] theorem E_ty24:E.ty 24=some ⟨2,48,.struct [(0,1),(1,1)],[.nl true 4 none,.nl true 5 none]⟩:=rfl
@[simp] theorem E_ty25:E.ty 25=some ⟨2,48,.struct [(0,1),(1,1)],[.nl true 4 none,.nl true 5 none]⟩:=rfl
@[simp] theorem E_ty26:E.ty 26=some ⟨1,8,.func,[.v .nilFunc]⟩:=rfl
@[simp] theorem E_ty27:E.ty 27=some ⟨1,8,.func,[.v .nilFunc]⟩:=rfl
@[simp] theorem E_ty28:E.ty 28=some ⟨1,24,.slice 73,[.nl true 4 none]⟩:=rfl
@[simp] theorem E_ty29:E.ty 29=some ⟨1,24,.slice 50,[.nl true 5 none]⟩:=rfl
@[simp] theorem E_ty30:E.ty 30=some ⟨2,48,.struct [(0,1),(1,1)],[.nl true 4 none,.nl true 5 none]⟩:=rfl
@[simp] theorem E_ty31:E.ty 31=some ⟨2,48,.struct [(0,1),(1,1)],[.nl true 4 none,.nl true 5 none]⟩:=rfl
@[simp] theorem E_ty32:E.ty 32=some ⟨1,8,.func,[.v .nilFunc]⟩:=rfl
@[simp] theorem E_ty33:E.ty 33=some ⟨1,8,.func,[.v .nilFunc]⟩:=rfl
@[simp] theorem E_ty34:E.ty 34=some ⟨1,8,.func,[.v .nilFunc]⟩:=rfl
@[simp] theorem E_ty36:E.ty 36=some ⟨1,8,.func,[.v .nilFunc]⟩:=rfl
@[simp] theorem E_ty37:E.ty 37=some ⟨1,8,.func,[.v .nilFunc]⟩:=rfl
@[simp] theorem E_ty38:E.ty 38=some ⟨1,8,.func,[.v .nilFunc]⟩:=rfl
@[simp] theorem E_ty39:E.ty 39=some ⟨1,8,.func,[.v .nilFunc]⟩:=rfl
@[simp] theorem E_ty40:E.ty 40=some ⟨1,8,.func,[.v .nilFunc]⟩:=rfl
@[simp] theorem E_ty41:E.ty 41=some ⟨1,24,.slice 3,[.nl true 1 none]⟩:=rfl
@[simp] theorem E_ty42:E.ty 42=some ⟨1,8,.func,[.v .nilFunc]⟩:=rfl
@[simp] theorem E_ty43:E.ty 43=some ⟨1,8,.func,[.v .nilFunc]⟩:=rfl
@[simp] theorem E_ty44:E.ty 44=some ⟨1,8,.func,[.v .nilFunc]⟩:=rfl
@[simp] theorem E_ty45:E.ty 45=some ⟨1,8,.func,[.v .nilFunc]⟩:=rfl
@[simp] theorem E_ty46:E.ty 46=some ⟨1,8,.func,[.v .nilFunc]⟩:=rfl
@[simp] theorem E_ty47:E.ty 47=some ⟨1,8,.func,[.v .nilFunc]⟩:=rfl
@[simp] theorem E_ty48:E.ty 48=some ⟨1,24,.slice 71,[.nl true 2 none]⟩:=rfl
@[simp] theorem E_ty49:E.ty 49=some ⟨5,64,.struct [(0,1),(1,1),(2,1),(3,1),(4,1)],[.v (.string .empty),.nl true 2 none,.v (.int .i64 0),.v (.int .i64 0),.v (.int .i64 0)]⟩:=rfl
@[simp] theorem E_ty50:E.ty 50=some ⟨5,64,.struct [(0,1),(1,1),(2,1),(3,1),(4,1)],[.v (.string .empty),.nl true 2 none,.v (.int .i64 0),.v (.int .i64 0),.v (.int .i64 0)]⟩:=rfl
@[simp] theorem E_ty51:E.ty 51=some ⟨1,8,.func,[.v .nilFunc]⟩:=rfl
@[simp] theorem E_ty52:E.ty 52=some ⟨1,8,.func,[.v .nilFunc]⟩:=rfl
@[simp] theorem E_ty53:E.ty 53=some ⟨1,8,.func,[.v .nilFunc]⟩:=rfl
@[simp] theorem E_ty54:E.ty 54=some ⟨1,8,.func,[.v .nilFunc]⟩:=rfl
@[simp] theorem E_ty55:E.ty 55=some ⟨4,56,.struct [(0,1),(1,1),(2,1),(3,1)],[.v (.int .i64 0),.v (.int .i64 0),.v (.string .empty),.nl true 1 none]⟩:=rfl
@[simp] theorem E_ty56:E.ty 56=some ⟨4,56,.struct [(0,1),(1,1),(2,1),(3,1)],[.v (.int .i64 0),.v (.int .i64 0),.v (.string .empty),.nl true 1 none]⟩:=rfl
@[simp] theorem E_ty57:E.ty 57=some ⟨1,8,.func,[.v .nilFunc]⟩:=rfl
@[simp] theorem E_ty58:E.ty 58=some ⟨1,24,.slice 113,[.nl true 2 none]⟩:=rfl
@[simp] theorem E_ty59:E.ty 59=some ⟨5,64,.struct [(0,1),(1,1),(2,1),(3,1),(4,1)],[.v (.string .empty),.nl true 2 none,.v (.int .i64 0),.v (.int .i64 0),.v (.int .i64 0)]⟩:=rfl
@[simp] theorem E_ty60:E.ty 60=some ⟨5,64,.struct [(0,1),(1,1),(2,1),(3,1),(4,1)],[.v (.string .empty),.nl true 2 none,.v (.int .i64 0),.v (.int .i64 0),.v (.int .i64 0)]⟩:=rfl
@[simp] theorem E_ty61:E.ty 61=some ⟨1,24,.slice 65,[.nl true 3 none]⟩:=rfl
@[simp] theorem E_ty62:E.ty 62=some ⟨1,8,.func,[.v .nilFunc]⟩:=rfl
@[simp] theorem E_ty63:E.ty 63=some ⟨1,8,.func,[.v .nilFunc]⟩:=rfl
@[simp] theorem E_ty64:E.ty 64=some ⟨3,32,.struct [(0,1),(1,1),(2,1)],[.v (.string .empty),.v (.int .i64 0),.v (.int .i64 0)]⟩:=rfl
@[simp] theorem E_ty65:E.ty 65=some ⟨3,32,.struct [(0,1),(1,1),(2,1)],[.v (.string .empty),.v (.int .i64 0),.v (.int .i64 0)]⟩:=rfl
@[simp] theorem E_ty66:E.ty 66=some ⟨1,8,.ptr,[.v (.pointer none)]⟩:=rfl
@[simp] theorem E_ty67:E.ty 67=some ⟨1,24,.slice 9,[.nl true 1 none]⟩:=rfl
@[simp] theorem E_ty68:E.ty 68=some ⟨5,88,.struct [(0,2),(2,1),(3,1),(4,1)],[.nl true 4 none,.nl true 5 none,.v (.int .i64 0),.nl true 1 none,.v (.bool false)]⟩:=rfl
@[simp] theorem E_ty69:E.ty 69=some ⟨5,88,.struct [(0,2),(2,1),(3,1),(4,1)],[.nl true 4 none,.nl true 5 none,.v (.int .i64 0),.nl true 1 none,.v (.bool false)]⟩:=rfl
@[simp] theorem E_ty70:E.ty 70=some ⟨2,24,.struct [(0,1),(1,1)],[.v (.string .empty),.v (.int .i64 0)]⟩:=rfl
@[simp] theorem E_ty71:E.ty 71=some ⟨2,24,.struct [(0,1),(1,1)],[.v (.string .empty),.v (.int .i64 0)]⟩:=rfl
@[simp] theorem E_ty72:E.ty 72=some ⟨1,8,.func,[.v .nilFunc]⟩:=rfl
@[simp] theorem E_ty73:E.ty 73=some ⟨4,56,.struct [(0,1),(1,1),(2,1),(3,1)],[.v (.int .i64 0),.v (.int .i64 0),.v (.string .empty),.nl true 1 none]⟩:=rfl
@[simp] theorem E_ty74:E.ty 74=some ⟨1,8,.func,[.v .nilFunc]⟩:=rfl
@[simp] theorem E_ty75:E.ty 75=some ⟨1,8,.func,[.v .nilFunc]⟩:=rfl
@[simp] theorem E_ty76:E.ty 76=some ⟨1,8,.func,[.v .nilFunc]⟩:=rfl
@[simp] theorem E_ty77:E.ty 77=some ⟨1,8,.func,[.v .nilFunc]⟩:=rfl
@[simp] theorem E_ty78:E.ty 78=some ⟨1,8,.func,[.v .nilFunc]⟩:=rfl
@[simp] theorem E_ty79:E.ty 79=some ⟨1,8,.func,[.v .nilFunc]⟩:=rfl
@[simp] theorem E_ty80:E.ty 80=some ⟨1,8,.func,[.v .nilFunc]⟩:=rfl
@[simp] theorem E_ty81:E.ty 81=some ⟨1,8,.func,[.v .nilFunc]⟩:=rfl
@[simp] theorem E_ty82:E.ty 82=some ⟨1,8,.func,[.v .nilFunc]⟩:=rfl
@[simp] theorem E_ty83:E.ty 83=some ⟨1,8,.func,[.v .nilFunc]⟩:=rfl
@[simp] theorem E_ty84:E.ty 84=some ⟨1,8,.func,[.v .nilFunc]⟩:=rfl
@[simp] theorem E_ty85:E.ty 85=some ⟨1,8,.func,[.v .nilFunc]⟩:=rfl
@[simp] theorem E_ty86:E.ty 86=some ⟨1,24,.slice 4,[.nl true 1 none]⟩:=rfl
@[simp] theorem E_ty87:E.ty 87=some ⟨1,8,.ptr,[.v (.pointer none)]⟩:=rfl
@[simp] theorem E_ty88:E.ty 88=some ⟨3,56,.struct [(0,1),(1,1),(2,1)],[.nl true 4 none,.nl true 4 none,.v (.bool false)]⟩:=rfl
@[simp] theorem E_ty89:E.ty 89=some ⟨3,56,.struct [(0,1),(1,1),(2,1)],[.nl true 4 none,.nl true 4 none,.v (.bool false)]⟩:=rfl
@[simp] theorem E_ty90:E.ty 90=some ⟨1,8,.func,[.v .nilFunc]⟩:=rfl
@[simp] theorem E_ty91:E.ty 91=some ⟨1,8,.func,[.v .nilFunc]⟩:=rfl
@[simp] theorem E_ty92:E.ty 92=some ⟨1,8,.func,[.v .nilFunc]⟩:=rfl
@[simp] theorem E_ty93:E.ty 93=some ⟨1,8,.func,[.v .nilFunc]⟩:=rfl
@[simp] theorem E_ty94:E.ty 94=some ⟨3,56,.struct [(0,1),(1,1),(2,1)],[.nl true 4 none,.nl true 4 none,.v (.bool false)]⟩:=rfl
@[simp] theorem E_ty95:E.ty 95=some ⟨3,56,.struct [(0,1),(1,1),(2,1)],[.nl true 4 none,.nl true 4 none,.v (.bool false)]⟩:=rfl
@[simp] theorem E_ty96:E.ty 96=some ⟨1,8,.func,[.v .nilFunc]⟩:=rfl
@[simp] theorem E_ty97:E.ty 97=some ⟨1,8,.func,[.v .nilFunc]⟩:=rfl
@[simp] theorem E_ty98:E.ty 98=some ⟨1,8,.func,[.v .nilFunc]⟩:=rfl
@[simp] theorem E_ty99:E.ty 99=some ⟨1,8,.func,[.v .nilFunc]⟩:=rfl
@[simp] theorem E_ty100:E.ty 100=some ⟨1,8,.func,[.v .nilFunc]⟩:=rfl
@[simp] theorem E_ty101:E.ty 101=some ⟨1,8,.func,[.v .nilFunc]⟩:=rfl
@[simp] theorem E_ty102:E.ty 102=some ⟨1,8,.func,[.v .nilFunc]⟩:=rfl
@[simp] theorem E_ty103:E.ty 103=some ⟨1,8,.func,[.v .nilFunc]⟩:=rfl
@[simp] theorem E_ty104:E.ty 104=some ⟨1,8,.func,[.v .nilFunc]⟩:=rfl
@[simp] theorem E_ty105:E.ty 105=some ⟨1,8,.func,[.v .nilFunc]⟩:=rfl
@[simp] theorem E_ty106:E.ty 106=some ⟨1,8,.func,[.v .nilFunc]⟩:=rfl
@[simp] theorem E_ty107:E.ty 107=some ⟨1,8,.func,[.v .nilFunc]⟩:=rfl
@[simp] theorem E_ty109:E.ty 109=some ⟨1,8,.func,[.v .nilFunc]⟩:=rfl
@[simp] theorem E_ty110:E.ty 110=some ⟨1,8,.ptr,[.v (.pointer none)]⟩:=rfl
@[simp] theorem E_ty111:E.ty 111=some ⟨1,24,.slice 5,[.nl true 1 none]⟩:=rfl
@[simp] theorem E_ty112:E.ty 112=some ⟨1,8,.func,[.v .nilFunc]⟩:=rfl
@[simp] theorem E_ty113:E.ty 113=some ⟨2,24,.struct [(0,1),(1,1)],[.v (.string .empty),.v (.int .i64 0)]⟩:=rfl
@[simp] theorem E_ty114:E.ty 114=some ⟨1,8,.func,[.v .nilFunc]⟩:=rfl
@[simp] theorem E_ty115:E.ty 115=some ⟨1,8,.func,[.v .nilFunc]⟩:=rfl
@[simp] theorem E_ty116:E.ty 116=some ⟨1,8,.func,[.v .nilFunc]⟩:=rfl
@[simp] theorem E_ty118:E.ty 118=some ⟨1,8,.func,[.v .nilFunc]⟩:=rfl
@[simp] theorem E_ty119:E.ty 119=some ⟨1,8,.func,[.v .nilFunc]⟩:=rfl
@[simp] theorem E_ty120:E.ty 120=some ⟨1,8,.func,[.v .nilFunc]⟩:=rfl
@[simp] theorem E_ty121:E.ty 121=some ⟨1,8,.func,[.v .nilFunc]⟩:=rfl
@[simp] theorem E_ty122:E.ty 122=some ⟨1,8,.int .u64,[.v (.int .u64 0)]⟩:=rfl
@[simp] theorem E_ty123:E.ty 123=some ⟨1,8,.func,[.v .nilFunc]⟩:=rfl
@[simp] theorem E_ty124:E.ty 124=some ⟨1,8,.func,[.v .nilFunc]⟩:=rfl
@[simp] theorem E_ty125:E.ty 125=some ⟨1,8,.func,[.v .nilFunc]⟩:=rfl
@[simp] theorem E_ty126:E.ty 126=some ⟨1,8,.int .i64,[.v (.int .i64 0)]⟩:=rfl
@[simp] theorem E_ty128:E.ty 128=some ⟨1,8,.func,[.v .nilFunc]⟩:=rfl
@[simp] theorem E_ty129:E.ty 129=some ⟨1,8,.func,[.v .nilFunc]⟩:=rfl
@[simp] theorem E_ty130:E.ty 130=some ⟨1,8,.func,[.v .nilFunc]⟩:=rfl
@[simp] theorem E_ty131:E.ty 131=some ⟨1,8,.func,[.v .nilFunc]⟩:=rfl
@[simp] theorem E_ty133:E.ty 133=some ⟨1,8,.func,[.v .nilFunc]⟩:=rfl
@[simp] theorem E_ty134:E.ty 134=some ⟨1,8,.func,[.v .nilFunc]⟩:=rfl
@[simp] theorem E_ty135:E.ty 135=some ⟨1,4,.int .u32,[.v (.int .u32 0)]⟩:=rfl
@[simp] theorem E_ty136:E.ty 136=some ⟨1,8,.func,[.v .nilFunc]⟩:=rfl
@[simp] theorem E_ty137:E.ty 137=some ⟨1,8,.int .u64,[.v (.int .u64 0)]⟩:=rfl
@[simp] theorem E_ty138:E.ty 138=some ⟨1,8,.func,[.v .nilFunc]⟩:=rfl
@[simp] theorem E_ty139:E.ty 139=some ⟨1,8,.int .u64,[.v (.int .u64 0)]⟩:=rfl
@[simp] theorem E_ty140:E.ty 140=some ⟨1,8,.func,[.v .nilFunc]⟩:=rfl
@[simp] theorem E_ty141:E.ty 141=some ⟨1,8,.func,[.v .nilFunc]⟩:=rfl
@[simp] theorem E_ty142:E.ty 142=some ⟨1,8,.func,[.v .nilFunc]⟩:=rfl
@[simp] theorem E_ty143:E.ty 143=some ⟨1,8,.ptr,[.v (.pointer none)]⟩:=rfl
@[simp] theorem E_ty144:E.ty 144=some ⟨1,8,.func,[.v .nilFunc]⟩:=rfl
@[simp] theorem E_ty145:E.ty 145=some ⟨1,8,.func,[.v .nilFunc]⟩:=rfl
@[simp] theorem E_ty146:E.ty 146=some ⟨1,8,.ptr,[.v (.pointer none)]⟩:=rfl
@[simp] theorem E_ty147:E.ty 147=some ⟨1,8,.func,[.v .nilFunc]⟩:=rfl
@[simp] theorem E_ty148:E.ty 148=some ⟨1,8,.func,[.v .nilFunc]⟩:=rfl
@[simp] theorem E_ty149:E.ty 149=some ⟨1,8,.func,[.v .nilFunc]⟩:=rfl
@[simp] theorem E_ty150:E.ty 150=some ⟨1,8,.func,[.v .nilFunc]⟩:=rfl
@[simp] theorem E_ty152:E.ty 152=some ⟨1,8,.func,[.v .nilFunc]⟩:=rfl
@[simp] theorem E_ty153:E.ty 153=some ⟨1,8,.func,[.v .nilFunc]⟩:=rfl
@[simp] theorem E_ty154:E.ty 154=some ⟨1,8,.func,[.v .nilFunc]⟩:=rfl
@[simp] theorem E_ty156:E.ty 156=some ⟨2,2,.struct [(0,1),(1,1)],[.v (.int .u8 0),.v (.int .u8 0)]⟩:=rfl
@[simp] theorem E_ty157:E.ty 157=some ⟨2,2,.struct [(0,1),(1,1)],[.v (.int .u8 0),.v (.int .u8 0)]⟩:=rfl
@[simp] theorem E_ty160:E.ty 160=some ⟨1,8,.func,[.v .nilFunc]⟩:=rfl
@[simp] theorem E_ty161:E.ty 161=some ⟨1,8,.func,[.v .nilFunc]⟩:=rfl
@[simp] theorem E_ty162:E.ty 162=some ⟨4,40,.struct [(0,1),(1,1),(2,1),(3,1)],[.v (.pointer none),.v (.pointer none),.v (.pointer none),.v (.string .empty)]⟩:=rfl
@[simp] theorem E_ty167:E.ty 167=some ⟨1,8,.func,[.v .nilFunc]⟩:=rfl
@[simp] theorem E_ty170:E.ty 170=some ⟨1,8,.func,[.v .nilFunc]⟩:=rfl
@[simp] theorem E_ty171:E.ty 171=some ⟨1,8,.ptr,[.v (.pointer none)]⟩:=rfl
@[simp] theorem E_ty174:E.ty 174=some ⟨11,48,.struct [(0,1),(1,1),(2,1),(3,1),(4,1),(5,1),(6,1),(7,1),(8,1),(9,1),(10,1)],[.v (.int .u64 0),.v (.int .u64 0),.v (.int .u32 0),.v (.int .u8 0),.v (.int .u8 0),.v (.int .u8 0),.v (.int .u8 0),.v .nilFunc,.v (.pointer none),.v (.int .i32 0),.v (.int .i32 0)]⟩:=rfl
theorem res72:Tryz.f72.results.toList=[.tmp 4]:=rfl
theorem ent72:aE E.P 72:=eO Tryz.func72 (by simp [Tryz.f72]) rfl
theorem laws_szIntS_ok (a1:List Int) (left2:Int) {r0:Int} (h:kK a1 left2=some r0):Ok E 72 [.val (.sl false 1 (List.map vi a1)),.val (vi left2)] [vi r0] []:=by
 refine oB (fn:=Tryz.f72) Tryz.func72 rfl (by simp [Tryz.f72]) fun C hN hP=>?_
 have u:∀ l,pinK [] l=true→pinB C.pin l=true:=pO (by rw [hP];rfl)
 have y:C.N=12:=hN
 clear hN
 unfold kK at h
 refine SWp.sR rfl (u _ rfl) fun K q=>?_
 refine wC rfl fun K q=>?_;simp [y];refine q _ ?_;clear q
 refine wN (q _ ?_);clear q
 refine SWp.sR rfl (u _ rfl) fun K q=>?_
 iterate 5 (refine wC rfl fun K q=>?_;simp [y];refine q _ ?_;clear q)
 refine wN (q _ ?_);clear q
 refine SWp.seq ?_
 refine SWp.sR rfl (u _ rfl) fun K q=>?_
 iterate 2 (refine wC rfl fun K q=>?_;simp [y];refine q _ ?_;clear q)
 refine wN (q _ ?_);clear q
 rcases aA h with ⟨hb3,h⟩ | ⟨hb4,h⟩
 ·refine SWp.cT' (b:=decide (IntKind.wrap .i64 (left2 - (a1.length:Int)) < 0)) (by simp) hb3 ?_
  refine SWp.sR rfl (u _ rfl) fun K q=>?_
  refine wC rfl fun K q=>?_;simp [y];refine q _ ?_;clear q
  refine wN (q _ ?_);clear q
  cases h
  refine SWp.ret ?_
  simp [aC,iB,res72]
 ·refine SWp.cF' (b:=decide (IntKind.wrap .i64 (left2 - (a1.length:Int)) < 0)) (by simp) hb4 ?_
  refine SWp.skip ?_
  show SWp E C _ _ _
  refine SWp.sR rfl (u _ rfl) fun K q=>?_
  iterate 2 (refine wC rfl fun K q=>?_;simp [y];refine q _ ?_;clear q)
  refine wN (q _ ?_);clear q
  cases h
  refine SWp.ret ?_
  simp [aC,iB,res72]
theorem res37:Tryz.f37.results.toList=[.tmp 4]:=rfl
theorem ent37:aE E.P 37:=eO Tryz.func37 (by simp [Tryz.f37]) rfl
theorem laws_szNode_ok (a1:GNode) (left2:Int) {r0:Int} (h:kJ a1 left2=some r0):Ok E 37 [.val (GNode.enc false a1),.val (vi left2)] [vi r0] []:=by
 refine oB (fn:=Tryz.f37) Tryz.func37 rfl (by simp [Tryz.f37]) fun C hN hP=>?_
 have u:∀ l,pinK [] l=true→pinB C.pin l=true:=pO (by rw [hP];rfl)
 have y:C.N=19:=hN
 clear hN
 unfold kJ at h
 refine SWp.sR rfl (u _ rfl) fun K q=>?_
 iterate 2 (refine wC rfl fun K q=>?_;simp [y];refine q _ ?_;clear q)
 refine wN (q _ ?_);clear q
 refine SWp.sR rfl (u _ rfl) fun K q=>?_
 iterate 6 (refine wC rfl fun K q=>?_;simp [y];refine q _ ?_;clear q)
 refine wN (q _ ?_);clear q
 refine SWp.seq ?_
 refine SWp.sR rfl (u _ rfl) fun K q=>?_
 iterate 2 (refine wC rfl fun K q=>?_;simp [y];refine q _ ?_;clear q)
 refine wN (q _ ?_);clear q
 rcases aA h with ⟨hb3,h⟩ | ⟨hb4,h⟩
 ·refine SWp.cT' (b:=decide (IntKind.wrap .i64 (left2 - (a1.Name.size:Int)) < 0)) (by simp) hb3 ?_
  refine SWp.sR rfl (u _ rfl) fun K q=>?_
  refine wC rfl fun K q=>?_;simp [y];refine q _ ?_;clear q
  refine wN (q _ ?_);clear q
  cases h
  refine SWp.ret ?_
  simp [aC,iB,res37]
 ·refine SWp.cF' (b:=decide (IntKind.wrap .i64 (left2 - (a1.Name.size:Int)) < 0)) (by simp) hb4 ?_
  refine SWp.skip ?_
  show SWp E C _ _ _
  refine SWp.sR rfl (u _ rfl) fun K q=>?_
  iterate 3 (refine wC rfl fun K q=>?_;simp [y];refine q _ ?_;clear q)
  obtain ⟨r5,hc6,h⟩:=bS h
  refine wL [(.take,.tmp 13),(.take,.tmp 14)] rfl rfl ent72 (laws_szIntS_ok _ _ hc6) fun K q=>?_;simp [y];refine q _ ?_;clear q
  refine wC rfl fun K q=>?_;simp [y];refine q _ ?_;clear q
  refine wN (q _ ?_);clear q
  refine SWp.seq ?_
  refine SWp.sR rfl (u _ rfl) fun K q=>?_
  iterate 2 (refine wC rfl fun K q=>?_;simp [y];refine q _ ?_;clear q)
  refine wN (q _ ?_);clear q
  rcases aA h with ⟨hb7,h⟩ | ⟨hb8,h⟩
  ·refine SWp.cT' (b:=decide (r5 < 0)) (by simp) hb7 ?_
   refine SWp.sR rfl (u _ rfl) fun K q=>?_
   refine wC rfl fun K q=>?_;simp [y];refine q _ ?_;clear q
   refine wN (q _ ?_);clear q
   cases h
   refine SWp.ret ?_
   simp [aC,iB,res37]
  ·refine SWp.cF' (b:=decide (r5 < 0)) (by simp) hb8 ?_
   refine SWp.skip ?_
   show SWp E C _ _ _
   refine SWp.sR rfl (u _ rfl) fun K q=>?_
   iterate 2 (refine wC rfl fun K q=>?_;simp [y];refine q _ ?_;clear q)
   refine wN (q _ ?_);clear q
   cases h
   refine SWp.ret ?_
   simp [aC,iB,res37]
theorem res14:Tryz.f14.results.toList=[.tmp 4]:=rfl
theorem ent14:aE E.P 14:=eO Tryz.func14 (by simp [Tryz.f14]) rfl
theorem laws_szNodeS_ok (a1:List GNode) (left2:Int) {r0:Int} (h:iX a1 left2=some r0):Ok E 14 [.val (.sl false 4 (List.map (GNode.enc false) a1)),.val (vi left2)] [vi r0] []:=by
 refine oB (fn:=Tryz.f14) Tryz.func14 rfl (by simp [Tryz.f14]) fun C hN hP=>?_
 have hPB:∀ l,pinK [] l=true→pinB C.pin l=true:=pO (by rw [hP];rfl)
 have hN':C.N=27:=hN
 clear hN
 unfold iX at h
 refine SWp.sR rfl (hPB _ rfl) fun K hK=>?_
 refine wC rfl fun K hK=>?_;simp [hN'];refine hK _ ?_;clear hK
 refine wN (hK _ ?_);clear hK
 refine SWp.sR rfl (hPB _ rfl) fun K hK=>?_
 iterate 5 (refine wC rfl fun K hK=>?_;simp [hN'];refine hK _ ?_;clear hK)
 refine wN (hK _ ?_);clear hK
 refine SWp.seq ?_
 refine SWp.sR rfl (hPB _ rfl) fun K hK=>?_
 iterate 2 (refine wC rfl fun K hK=>?_;simp [hN'];refine hK _ ?_;clear hK)
 refine wN (hK _ ?_);clear hK
 rcases aA h with ⟨hb3,h⟩ | ⟨hb4,h⟩
 ·refine SWp.cT' (b:=decide (IntKind.wrap .i64 (left2 - (a1.length:Int)) < 0)) (by simp) hb3 ?_
  refine SWp.sR rfl (hPB _ rfl) fun K hK=>?_
  refine wC rfl fun K hK=>?_;simp [hN'];refine hK _ ?_;clear hK
  refine wN (hK _ ?_);clear hK
  cases h
  refine SWp.ret ?_
  simp [aC,iB,res14]
 ·refine SWp.cF' (b:=decide (IntKind.wrap .i64 (left2 - (a1.length:Int)) < 0)) (by simp) hb4 ?_
  refine SWp.skip ?_
  show SWp E C _ _ _
  obtain ⟨j7,hj5,h⟩:=bS h
  refine SWp.seqC [1] [] (fun v:Int=>⟨[(1,.t (vi v))],[]⟩) (fun v=>j7=Sum.inl v) (fun v hv=>?_) fun K6 hK6=>?_
  rotate_left
  ·refine SWp.sR rfl (hPB _ rfl) fun K hK=>?_
   refine wC rfl fun K hK=>?_;simp [hN'];refine hK _ ?_;clear hK
   refine wN (hK _ ?_);clear hK
   refine SWp.block ?_
   refine SWp.loopO [] [0,1,5] [] (fun v:Int × Int=>⟨[(0,.t (.sl false 4 (List.map (GNode.enc false) a1))),(1,.t (vi v.1)),(5,.t (vi v.2))],[]⟩) (cS a1) _ (IntKind.wrap .i64 (left2 - (a1.length:Int)),0) hj5 (by simp [hN']) ?_
   intro g s12 h10 ho11
   obtain ⟨left8,i9⟩:=g
   simp only [cS] at h10
   try dsimp only
   refine SWp.seq ?_
   refine SWp.sR rfl (hPB _ rfl) fun K hK=>?_
   iterate 4 (refine wC rfl fun K hK=>?_;simp [hN'];refine hK _ ?_;clear hK)
   refine wN (hK _ ?_);clear hK
   rcases aA h10 with ⟨hb13,h10⟩ | ⟨hb14,h10⟩
   ·refine SWp.cT' (b:=decide (i9 < (a1.length:Int))) (by simp) hb13 ?_
    refine SWp.skip ?_
    show SWp E C _ _ _
    refine SWp.seq ?_
    refine SWp.block ?_
    refine SWp.sR rfl (hPB _ rfl) fun K hK=>?_
    iterate 2 (refine wC rfl fun K hK=>?_;simp [hN'];refine hK _ ?_;clear hK)
    obtain ⟨e15,he15,h10⟩:=bS h10
    obtain ⟨he15a,he15b,he15c,he15d⟩:=gS he15
    iterate 3 (refine wC rfl fun K hK=>?_;simp [hN',he15a,he15b,he15c,he15d];refine hK _ ?_;clear hK)
    obtain ⟨r16,hc17,h10⟩:=bS h10
    refine wL [(.take,.tmp 21),(.take,.tmp 22)] rfl rfl ent37 (laws_szNode_ok _ _ hc17) fun K hK=>?_;simp [hN',he15a,he15b,he15c,he15d];refine hK _ ?_;clear hK
    refine wC rfl fun K hK=>?_;simp [hN',he15a,he15b,he15c,he15d];refine hK _ ?_;clear hK
    refine wN (hK _ ?_);clear hK
    refine SWp.sR rfl (hPB _ rfl) fun K hK=>?_
    iterate 2 (refine wC rfl fun K hK=>?_;simp [hN'];refine hK _ ?_;clear hK)
    refine wN (hK _ ?_);clear hK
    rcases aA h10 with ⟨hb18,h10⟩ | ⟨hb19,h10⟩
    ·refine SWp.cT' (b:=decide (r16 < 0)) (by simp) hb18 ?_
     refine SWp.sR rfl (hPB _ rfl) fun K hK=>?_
     refine wC rfl fun K hK=>?_;simp [hN'];refine hK _ ?_;clear hK
     refine wN (hK _ ?_);clear hK
     have h20:=congrArg some (ho11 _ (Option.some.inj h10).symm)
     cases h20
     try dsimp only at h
     cases h
     refine SWp.ret ?_
     simp [aC,iB,res14]
    ·refine SWp.cF' (b:=decide (r16 < 0)) (by simp) hb19 ?_
     refine SWp.skip ?_
     show SWp E C _ _ _
     refine SWp.reg rfl (hPB _ rfl) fun K hK=>?_
     iterate 3 (refine wC rfl fun K hK=>?_;simp [hN'];refine hK _ ?_;clear hK)
     refine wN (hK _ ?_);clear hK
     cases h10
     exact ⟨_,[],rfl,by simp [hN']⟩
   ·refine SWp.cF' (b:=decide (i9 < (a1.length:Int))) (by simp) hb14 ?_
    refine SWp.exit ?_
    have h21:=congrArg some (ho11 _ (Option.some.inj h10).symm)
    cases h21
    exact hK6 _ _ [] rfl (by simp [hN'])
  subst hv
  obtain ⟨left22,hv⟩:∃ y,y=v:=⟨_,rfl⟩
  subst hv
  try dsimp only at h ⊢
  refine SWp.sR rfl (hPB _ rfl) fun K hK=>?_
  iterate 2 (refine wC rfl fun K hK=>?_;simp [hN'];refine hK _ ?_;clear hK)
  refine wN (hK _ ?_);clear hK
  cases h
  refine SWp.ret ?_
  simp [aC,iB,res14]
theorem res94:Tryz.f94.results.toList=[.tmp 4]:=rfl
theorem ent94:aE E.P 94:=eO Tryz.func94 (by simp [Tryz.f94]) rfl
theorem laws_szParam_ok (a1:GParam) (left2:Int) {r0:Int} (h:iW a1 left2=some r0):Ok E 94 [.val (GParam.enc a1),.val (vi left2)] [vi r0] []:=by
 refine oB (fn:=Tryz.f94) Tryz.func94 rfl (by simp [Tryz.f94]) fun C hN hP=>?_
 have u:∀ l,pinK [] l=true→pinB C.pin l=true:=pO (by rw [hP];rfl)
 have y:C.N=13:=hN
 clear hN
 unfold iW at h
 refine SWp.sR rfl (u _ rfl) fun K q=>?_
 iterate 2 (refine wC rfl fun K q=>?_;simp [y];refine q _ ?_;clear q)
 refine wN (q _ ?_);clear q
 refine SWp.sR rfl (u _ rfl) fun K q=>?_
 iterate 6 (refine wC rfl fun K q=>?_;simp [y];refine q _ ?_;clear q)
 refine wN (q _ ?_);clear q
 refine SWp.seq ?_
 refine SWp.sR rfl (u _ rfl) fun K q=>?_
 iterate 2 (refine wC rfl fun K q=>?_;simp [y];refine q _ ?_;clear q)
 refine wN (q _ ?_);clear q
 rcases aA h with ⟨hb3,h⟩ | ⟨hb4,h⟩
 ·refine SWp.cT' (b:=decide (IntKind.wrap .i64 (left2 - (a1.Name.size:Int)) < 0)) (by simp) hb3 ?_
  refine SWp.sR rfl (u _ rfl) fun K q=>?_
  refine wC rfl fun K q=>?_;simp [y];refine q _ ?_;clear q
  refine wN (q _ ?_);clear q
  cases h
  refine SWp.ret ?_
  simp [aC,iB,res94]
 ·refine SWp.cF' (b:=decide (IntKind.wrap .i64 (left2 - (a1.Name.size:Int)) < 0)) (by simp) hb4 ?_
  refine SWp.skip ?_
  show SWp E C _ _ _
  refine SWp.sR rfl (u _ rfl) fun K q=>?_
  iterate 2 (refine wC rfl fun K q=>?_;simp [y];refine q _ ?_;clear q)
  refine wN (q _ ?_);clear q
  cases h
  refine SWp.ret ?_
  simp [aC,iB,res94]
theorem res73:Tryz.f73.results.toList=[.tmp 4]:=rfl
theorem ent73:aE E.P 73:=eO Tryz.func73 (by simp [Tryz.f73]) rfl
theorem laws_szParamS_ok (a1:List GParam) (left2:Int) {r0:Int} (h:hJ a1 left2=some r0):Ok E 73 [.val (.sl false 2 (List.map GParam.enc a1)),.val (vi left2)] [vi r0] []:=by
 refine oB (fn:=Tryz.f73) Tryz.func73 rfl (by simp [Tryz.f73]) fun C hN hP=>?_
 have hPB:∀ l,pinK [] l=true→pinB C.pin l=true:=pO (by rw [hP];rfl)
 have hN':C.N=27:=hN
 clear hN
 unfold hJ at h
 refine SWp.sR rfl (hPB _ rfl) fun K hK=>?_
 refine wC rfl fun K hK=>?_;simp [hN'];refine hK _ ?_;clear hK
 refine wN (hK _ ?_);clear hK
 refine SWp.sR rfl (hPB _ rfl) fun K hK=>?_
 iterate 5 (refine wC rfl fun K hK=>?_;simp [hN'];refine hK _ ?_;clear hK)
 refine wN (hK _ ?_);clear hK
 refine SWp.seq ?_
 refine SWp.sR rfl (hPB _ rfl) fun K hK=>?_
 iterate 2 (refine wC rfl fun K hK=>?_;simp [hN'];refine hK _ ?_;clear hK)
 refine wN (hK _ ?_);clear hK
 rcases aA h with ⟨hb3,h⟩ | ⟨hb4,h⟩
 ·refine SWp.cT' (b:=decide (IntKind.wrap .i64 (left2 - (a1.length:Int)) < 0)) (by simp) hb3 ?_
  refine SWp.sR rfl (hPB _ rfl) fun K hK=>?_
  refine wC rfl fun K hK=>?_;simp [hN'];refine hK _ ?_;clear hK
  refine wN (hK _ ?_);clear hK
  cases h
  refine SWp.ret ?_
  simp [aC,iB,res73]
 ·refine SWp.cF' (b:=decide (IntKind.wrap .i64 (left2 - (a1.length:Int)) < 0)) (by simp) hb4 ?_
  refine SWp.skip ?_
  show SWp E C _ _ _
  obtain ⟨j7,hj5,h⟩:=bS h
  refine SWp.seqC [1] [] (fun v:Int=>⟨[(1,.t (vi v))],[]⟩) (fun v=>j7=Sum.inl v) (fun v hv=>?_) fun K6 hK6=>?_
  rotate_left
  ·refine SWp.sR rfl (hPB _ rfl) fun K hK=>?_
   refine wC rfl fun K hK=>?_;simp [hN'];refine hK _ ?_;clear hK
   refine wN (hK _ ?_);clear hK
   refine SWp.block ?_
   refine SWp.loopO [] [0,1,5] [] (fun v:Int × Int=>⟨[(0,.t (.sl false 2 (List.map GParam.enc a1))),(1,.t (vi v.1)),(5,.t (vi v.2))],[]⟩) (bX a1) _ (IntKind.wrap .i64 (left2 - (a1.length:Int)),0) hj5 (by simp [hN']) ?_
   intro g s12 h10 ho11
   obtain ⟨left8,i9⟩:=g
   simp only [bX] at h10
   try dsimp only
   refine SWp.seq ?_
   refine SWp.sR rfl (hPB _ rfl) fun K hK=>?_
   iterate 4 (refine wC rfl fun K hK=>?_;simp [hN'];refine hK _ ?_;clear hK)
   refine wN (hK _ ?_);clear hK
   rcases aA h10 with ⟨hb13,h10⟩ | ⟨hb14,h10⟩
   ·refine SWp.cT' (b:=decide (i9 < (a1.length:Int))) (by simp) hb13 ?_
    refine SWp.skip ?_
    show SWp E C _ _ _
    refine SWp.seq ?_
    refine SWp.block ?_
    refine SWp.sR rfl (hPB _ rfl) fun K hK=>?_
    iterate 2 (refine wC rfl fun K hK=>?_;simp [hN'];refine hK _ ?_;clear hK)
    obtain ⟨e15,he15,h10⟩:=bS h10
    obtain ⟨he15a,he15b,he15c,he15d⟩:=gS he15
    iterate 3 (refine wC rfl fun K hK=>?_;simp [hN',he15a,he15b,he15c,he15d];refine hK _ ?_;clear hK)
    obtain ⟨r16,hc17,h10⟩:=bS h10
    refine wL [(.take,.tmp 21),(.take,.tmp 22)] rfl rfl ent94 (laws_szParam_ok _ _ hc17) fun K hK=>?_;simp [hN',he15a,he15b,he15c,he15d];refine hK _ ?_;clear hK
    refine wC rfl fun K hK=>?_;simp [hN',he15a,he15b,he15c,he15d];refine hK _ ?_;clear hK
    refine wN (hK _ ?_);clear hK
    refine SWp.sR rfl (hPB _ rfl) fun K hK=>?_
    iterate 2 (refine wC rfl fun K hK=>?_;simp [hN'];refine hK _ ?_;clear hK)
    refine wN (hK _ ?_);clear hK
    rcases aA h10 with ⟨hb18,h10⟩ | ⟨hb19,h10⟩
    ·refine SWp.cT' (b:=decide (r16 < 0)) (by simp) hb18 ?_
     refine SWp.sR rfl (hPB _ rfl) fun K hK=>?_
     refine wC rfl fun K hK=>?_;simp [hN'];refine hK _ ?_;clear hK
     refine wN (hK _ ?_);clear hK
     have h20:=congrArg some (ho11 _ (Option.some.inj h10).symm)
     cases h20
     try dsimp only at h
     cases h
     refine SWp.ret ?_
     simp [aC,iB,res73]
    ·refine SWp.cF' (b:=decide (r16 < 0)) (by simp) hb19 ?_
     refine SWp.skip ?_
     show SWp E C _ _ _
     refine SWp.reg rfl (hPB _ rfl) fun K hK=>?_
     iterate 3 (refine wC rfl fun K hK=>?_;simp [hN'];refine hK _ ?_;clear hK)
     refine wN (hK _ ?_);clear hK
     cases h10
     exact ⟨_,[],rfl,by simp [hN']⟩
   ·refine SWp.cF' (b:=decide (i9 < (a1.length:Int))) (by simp) hb14 ?_
    refine SWp.exit ?_
    have h21:=congrArg some (ho11 _ (Option.some.inj h10).symm)
    cases h21
    exact hK6 _ _ [] rfl (by simp [hN'])
  subst hv
  obtain ⟨left22,hv⟩:∃ y,y=v:=⟨_,rfl⟩
  subst hv
  try dsimp only at h ⊢
  refine SWp.sR rfl (hPB _ rfl) fun K hK=>?_
  iterate 2 (refine wC rfl fun K hK=>?_;simp [hN'];refine hK _ ?_;clear hK)
  refine wN (hK _ ?_);clear hK
  cases h
  refine SWp.ret ?_
  simp [aC,iB,res73]
theorem res38:Tryz.f38.results.toList=[.tmp 4]:=rfl
theorem ent38:aE E.P 38:=eO Tryz.func38 (by simp [Tryz.f38]) rfl
theorem laws_szFn_ok (a1:GFn) (left2:Int) {r0:Int} (h:nX a1 left2=some r0):Ok E 38 [.val (GFn.enc false a1),.val (vi left2)] [vi r0] []:=by
 refine oB (fn:=Tryz.f38) Tryz.func38 rfl (by simp [Tryz.f38]) fun C hN hP=>?_
 have u:∀ l,pinK [] l=true→pinB C.pin l=true:=pO (by rw [hP];rfl)
 have y:C.N=19:=hN
 clear hN
 unfold nX at h
 refine SWp.sR rfl (u _ rfl) fun K q=>?_
 iterate 2 (refine wC rfl fun K q=>?_;simp [y];refine q _ ?_;clear q)
 refine wN (q _ ?_);clear q
 refine SWp.sR rfl (u _ rfl) fun K q=>?_
 iterate 6 (refine wC rfl fun K q=>?_;simp [y];refine q _ ?_;clear q)
 refine wN (q _ ?_);clear q
 refine SWp.seq ?_
 refine SWp.sR rfl (u _ rfl) fun K q=>?_
 iterate 2 (refine wC rfl fun K q=>?_;simp [y];refine q _ ?_;clear q)
 refine wN (q _ ?_);clear q
 rcases aA h with ⟨hb3,h⟩ | ⟨hb4,h⟩
 ·refine SWp.cT' (b:=decide (IntKind.wrap .i64 (left2 - (a1.Name.size:Int)) < 0)) (by simp) hb3 ?_
  refine SWp.sR rfl (u _ rfl) fun K q=>?_
  refine wC rfl fun K q=>?_;simp [y];refine q _ ?_;clear q
  refine wN (q _ ?_);clear q
  cases h
  refine SWp.ret ?_
  simp [aC,iB,res38]
 ·refine SWp.cF' (b:=decide (IntKind.wrap .i64 (left2 - (a1.Name.size:Int)) < 0)) (by simp) hb4 ?_
  refine SWp.skip ?_
  show SWp E C _ _ _
  refine SWp.sR rfl (u _ rfl) fun K q=>?_
  iterate 3 (refine wC rfl fun K q=>?_;simp [y];refine q _ ?_;clear q)
  obtain ⟨r5,hc6,h⟩:=bS h
  refine wL [(.take,.tmp 13),(.take,.tmp 14)] rfl rfl ent73 (laws_szParamS_ok _ _ hc6) fun K q=>?_;simp [y];refine q _ ?_;clear q
  refine wC rfl fun K q=>?_;simp [y];refine q _ ?_;clear q
  refine wN (q _ ?_);clear q
  refine SWp.seq ?_
  refine SWp.sR rfl (u _ rfl) fun K q=>?_
  iterate 2 (refine wC rfl fun K q=>?_;simp [y];refine q _ ?_;clear q)
  refine wN (q _ ?_);clear q
  rcases aA h with ⟨hb7,h⟩ | ⟨hb8,h⟩
  ·refine SWp.cT' (b:=decide (r5 < 0)) (by simp) hb7 ?_
   refine SWp.sR rfl (u _ rfl) fun K q=>?_
   refine wC rfl fun K q=>?_;simp [y];refine q _ ?_;clear q
   refine wN (q _ ?_);clear q
   cases h
   refine SWp.ret ?_
   simp [aC,iB,res38]
  ·refine SWp.cF' (b:=decide (r5 < 0)) (by simp) hb8 ?_
   refine SWp.skip ?_
   show SWp E C _ _ _
   refine SWp.sR rfl (u _ rfl) fun K q=>?_
   iterate 2 (refine wC rfl fun K q=>?_;simp [y];refine q _ ?_;clear q)
   refine wN (q _ ?_);clear q
   cases h
   refine SWp.ret ?_
   simp [aC,iB,res38]
theorem res15:Tryz.f15.results.toList=[.tmp 4]:=rfl
theorem ent15:aE E.P 15:=eO Tryz.func15 (by simp [Tryz.f15]) rfl
theorem laws_szFnS_ok (a1:List GFn) (left2:Int) {r0:Int} (h:mB a1 left2=some r0):Ok E 15 [.val (.sl false 5 (List.map (GFn.enc false) a1)),.val (vi left2)] [vi r0] []:=by
 refine oB (fn:=Tryz.f15) Tryz.func15 rfl (by simp [Tryz.f15]) fun C hN hP=>?_
 have hPB:∀ l,pinK [] l=true→pinB C.pin l=true:=pO (by rw [hP];rfl)
 have hN':C.N=27:=hN
 clear hN
 unfold mB at h
 refine SWp.sR rfl (hPB _ rfl) fun K hK=>?_
 refine wC rfl fun K hK=>?_;simp [hN'];refine hK _ ?_;clear hK
 refine wN (hK _ ?_);clear hK
 refine SWp.sR rfl (hPB _ rfl) fun K hK=>?_
 iterate 5 (refine wC rfl fun K hK=>?_;simp [hN'];refine hK _ ?_;clear hK)
 refine wN (hK _ ?_);clear hK
 refine SWp.seq ?_
 refine SWp.sR rfl (hPB _ rfl) fun K hK=>?_
 iterate 2 (refine wC rfl fun K hK=>?_;simp [hN'];refine hK _ ?_;clear hK)
 refine wN (hK _ ?_);clear hK
 rcases aA h with ⟨hb3,h⟩ | ⟨hb4,h⟩
 ·refine SWp.cT' (b:=decide (IntKind.wrap .i64 (left2 - (a1.length:Int)) < 0)) (by simp) hb3 ?_
  refine SWp.sR rfl (hPB _ rfl) fun K hK=>?_
  refine wC rfl fun K hK=>?_;simp [hN'];refine hK _ ?_;clear hK
  refine wN (hK _ ?_);clear hK
  cases h
  refine SWp.ret ?_
  simp [aC,iB,res15]
 ·refine SWp.cF' (b:=decide (IntKind.wrap .i64 (left2 - (a1.length:Int)) < 0)) (by simp) hb4 ?_
  refine SWp.skip ?_
  show SWp E C _ _ _
  obtain ⟨j7,hj5,h⟩:=bS h
  refine SWp.seqC [1] [] (fun v:Int=>⟨[(1,.t (vi v))],[]⟩) (fun v=>j7=Sum.inl v) (fun v hv=>?_) fun K6 hK6=>?_
  rotate_left
  ·refine SWp.sR rfl (hPB _ rfl) fun K hK=>?_
   refine wC rfl fun K hK=>?_;simp [hN'];refine hK _ ?_;clear hK
   refine wN (hK _ ?_);clear hK
   refine SWp.block ?_
   refine SWp.loopO [] [0,1,5] [] (fun v:Int × Int=>⟨[(0,.t (.sl false 5 (List.map (GFn.enc false) a1))),(1,.t (vi v.1)),(5,.t (vi v.2))],[]⟩) (eH a1) _ (IntKind.wrap .i64 (left2 - (a1.length:Int)),0) hj5 (by simp [hN']) ?_
   intro g s12 h10 ho11
   obtain ⟨left8,i9⟩:=g
   simp only [eH] at h10
   try dsimp only
   refine SWp.seq ?_
   refine SWp.sR rfl (hPB _ rfl) fun K hK=>?_
   iterate 4 (refine wC rfl fun K hK=>?_;simp [hN'];refine hK _ ?_;clear hK)
   refine wN (hK _ ?_);clear hK
   rcases aA h10 with ⟨hb13,h10⟩ | ⟨hb14,h10⟩
   ·refine SWp.cT' (b:=decide (i9 < (a1.length:Int))) (by simp) hb13 ?_
    refine SWp.skip ?_
    show SWp E C _ _ _
    refine SWp.seq ?_
    refine SWp.block ?_
    refine SWp.sR rfl (hPB _ rfl) fun K hK=>?_
    iterate 2 (refine wC rfl fun K hK=>?_;simp [hN'];refine hK _ ?_;clear hK)
    obtain ⟨e15,he15,h10⟩:=bS h10
    obtain ⟨he15a,he15b,he15c,he15d⟩:=gS he15
    iterate 3 (refine wC rfl fun K hK=>?_;simp [hN',he15a,he15b,he15c,he15d];refine hK _ ?_;clear hK)
    obtain ⟨r16,hc17,h10⟩:=bS h10
    refine wL [(.take,.tmp 21),(.take,.tmp 22)] rfl rfl ent38 (laws_szFn_ok _ _ hc17) fun K hK=>?_;simp [hN',he15a,he15b,he15c,he15d];refine hK _ ?_;clear hK
    refine wC rfl fun K hK=>?_;simp [hN',he15a,he15b,he15c,he15d];refine hK _ ?_;clear hK
    refine wN (hK _ ?_);clear hK
    refine SWp.sR rfl (hPB _ rfl) fun K hK=>?_
    iterate 2 (refine wC rfl fun K hK=>?_;simp [hN'];refine hK _ ?_;clear hK)
    refine wN (hK _ ?_);clear hK
    rcases aA h10 with ⟨hb18,h10⟩ | ⟨hb19,h10⟩
    ·refine SWp.cT' (b:=decide (r16 < 0)) (by simp) hb18 ?_
     refine SWp.sR rfl (hPB _ rfl) fun K hK=>?_
     refine wC rfl fun K hK=>?_;simp [hN'];refine hK _ ?_;clear hK
     refine wN (hK _ ?_);clear hK
     have h20:=congrArg some (ho11 _ (Option.some.inj h10).symm)
     cases h20
     try dsimp only at h
     cases h
     refine SWp.ret ?_
     simp [aC,iB,res15]
    ·refine SWp.cF' (b:=decide (r16 < 0)) (by simp) hb19 ?_
     refine SWp.skip ?_
     show SWp E C _ _ _
     refine SWp.reg rfl (hPB _ rfl) fun K hK=>?_
     iterate 3 (refine wC rfl fun K hK=>?_;simp [hN'];refine hK _ ?_;clear hK)
     refine wN (hK _ ?_);clear hK
     cases h10
     exact ⟨_,[],rfl,by simp [hN']⟩
   ·refine SWp.cF' (b:=decide (i9 < (a1.length:Int))) (by simp) hb14 ?_
    refine SWp.exit ?_
    have h21:=congrArg some (ho11 _ (Option.some.inj h10).symm)
    cases h21
    exact hK6 _ _ [] rfl (by simp [hN'])
  subst hv
  obtain ⟨left22,hv⟩:∃ y,y=v:=⟨_,rfl⟩
  subst hv
  try dsimp only at h ⊢
  refine SWp.sR rfl (hPB _ rfl) fun K hK=>?_
  iterate 2 (refine wC rfl fun K hK=>?_;simp [hN'];refine hK _ ?_;clear hK)
  refine wN (hK _ ?_);clear hK
  cases h
  refine SWp.ret ?_
  simp [aC,iB,res15]
theorem res5:Tryz.f5.results.toList=[.tmp 4]:=rfl
theorem ent5:aE E.P 5:=eO Tryz.func5 (by simp [Tryz.f5]) rfl
theorem laws_szProgram_ok (a1:GProgram) (left2:Int) {r0:Int} (h:gA a1 left2=some r0):Ok E 5 [.val (GProgram.enc false a1),.val (vi left2)] [vi r0] []:=by
 refine oB (fn:=Tryz.f5) Tryz.func5 rfl (by simp [Tryz.f5]) fun C hN hP=>?_
 have u:∀ l,pinK [] l=true→pinB C.pin l=true:=pO (by rw [hP];rfl)
 have y:C.N=18:=hN
 clear hN
 unfold gA at h
 refine SWp.sR rfl (u _ rfl) fun K q=>?_
 iterate 2 (refine wC rfl fun K q=>?_;simp [y];refine q _ ?_;clear q)
 refine wN (q _ ?_);clear q
 refine SWp.sR rfl (u _ rfl) fun K q=>?_
 iterate 3 (refine wC rfl fun K q=>?_;simp [y];refine q _ ?_;clear q)
 obtain ⟨r3,hc4,h⟩:=bS h
 refine wL [(.take,.tmp 6),(.take,.tmp 7)] rfl rfl ent14 (laws_szNodeS_ok _ _ hc4) fun K q=>?_;simp [y];refine q _ ?_;clear q
 refine wC rfl fun K q=>?_;simp [y];refine q _ ?_;clear q
 refine wN (q _ ?_);clear q
 refine SWp.seq ?_
 refine SWp.sR rfl (u _ rfl) fun K q=>?_
 iterate 2 (refine wC rfl fun K q=>?_;simp [y];refine q _ ?_;clear q)
 refine wN (q _ ?_);clear q
 rcases aA h with ⟨hb5,h⟩ | ⟨hb6,h⟩
 ·refine SWp.cT' (b:=decide (r3 < 0)) (by simp) hb5 ?_
  refine SWp.sR rfl (u _ rfl) fun K q=>?_
  refine wC rfl fun K q=>?_;simp [y];refine q _ ?_;clear q
  refine wN (q _ ?_);clear q
  cases h
  refine SWp.ret ?_
  simp [aC,iB,res5]
 ·refine SWp.cF' (b:=decide (r3 < 0)) (by simp) hb6 ?_
  refine SWp.skip ?_
  show SWp E C _ _ _
  refine SWp.sR rfl (u _ rfl) fun K q=>?_
  iterate 3 (refine wC rfl fun K q=>?_;simp [y];refine q _ ?_;clear q)
  obtain ⟨r7,hc8,h⟩:=bS h
  refine wL [(.take,.tmp 12),(.take,.tmp 13)] rfl rfl ent15 (laws_szFnS_ok _ _ hc8) fun K q=>?_;simp [y];refine q _ ?_;clear q
  refine wC rfl fun K q=>?_;simp [y];refine q _ ?_;clear q
  refine wN (q _ ?_);clear q
  refine SWp.seq ?_
  refine SWp.sR rfl (u _ rfl) fun K q=>?_
  iterate 2 (refine wC rfl fun K q=>?_;simp [y];refine q _ ?_;clear q)
  refine wN (q _ ?_);clear q
  rcases aA h with ⟨hb9,h⟩ | ⟨hb10,h⟩
  ·refine SWp.cT' (b:=decide (r7 < 0)) (by simp) hb9 ?_
   refine SWp.sR rfl (u _ rfl) fun K q=>?_
   refine wC rfl fun K q=>?_;simp [y];refine q _ ?_;clear q
   refine wN (q _ ?_);clear q
   cases h
   refine SWp.ret ?_
   simp [aC,iB,res5]
  ·refine SWp.cF' (b:=decide (r7 < 0)) (by simp) hb10 ?_
   refine SWp.skip ?_
   show SWp E C _ _ _
   refine SWp.sR rfl (u _ rfl) fun K q=>?_
   iterate 2 (refine wC rfl fun K q=>?_;simp [y];refine q _ ?_;clear q)
   refine wN (q _ ?_);clear q
   cases h
   refine SWp.ret ?_
   simp [aC,iB,res5]
theorem res77:Tryz.f77.results.toList=[.tmp 2]:=rfl
theorem ent77:aE E.P 77:=eO Tryz.func77 (by simp [Tryz.f77]) rfl
theorem laws_toIntS_ok (a1:List Int) {r0:List Int} (h:kI a1=some r0):Ok E 77 [.val (.sl false 1 (List.map vi a1))] [.sl true 1 (List.map vi r0)] []:=by
 refine oB (fn:=Tryz.f77) Tryz.func77 rfl (by simp [Tryz.f77]) fun C hN hP=>?_
 have u:∀ l,pinK [] l=true→pinB C.pin l=true:=pO (by rw [hP];rfl)
 have y:C.N=22:=hN
 clear hN
 unfold kI at h
 refine SWp.sR rfl (u _ rfl) fun K q=>?_
 refine wC rfl fun K q=>?_;simp [y];refine q _ ?_;clear q
 refine wN (q _ ?_);clear q
 refine SWp.sR rfl (u _ rfl) fun K q=>?_
 iterate 2 (refine wC rfl fun K q=>?_;simp [y];refine q _ ?_;clear q)
 obtain ⟨l2,hl2,h⟩:=bS h
 obtain ⟨hl2a,hl2b,hl2c,hl2d⟩:=mS hl2
 have hl2f:List.replicate (a1.length:Int).toNat (vi 0)=List.map vi l2:=nO (f:=vi) hl2d
 try simp only [Int.toNat_natCast] at hl2f
 iterate 2 (refine wC rfl fun K q=>?_;simp [y,hl2a,hl2b,hl2c,hl2f];refine q _ ?_;clear q)
 refine wN (q _ ?_);clear q
 obtain ⟨out17,hj3,h⟩:=bS h
 refine SWp.seqC [3] [] (fun _:Unit=>⟨[(3,.t (.sl true 1 (List.map vi out17)))],[]⟩) (fun _=>True) (fun _ _=>?_) fun K4 hK4=>?_
 rotate_left
 ·refine SWp.sR rfl (u _ rfl) fun K q=>?_
  refine wC rfl fun K q=>?_;simp [y];refine q _ ?_;clear q
  refine wN (q _ ?_);clear q
  refine SWp.block ?_
  refine SWp.loopO [] [0,3,4] [] (fun v:(List Int) × Int=>⟨[(0,.t (.sl false 1 (List.map vi a1))),(3,.t (.sl true 1 (List.map vi v.1))),(4,.t (vi v.2))],[]⟩) (eS a1) _ (l2,0) hj3 (by simp [y]) ?_
  intro g s10 h8 ho9
  obtain ⟨out6,i7⟩:=g
  simp only [eS] at h8
  try dsimp only
  refine SWp.seq ?_
  refine SWp.sR rfl (u _ rfl) fun K q=>?_
  iterate 4 (refine wC rfl fun K q=>?_;simp [y];refine q _ ?_;clear q)
  refine wN (q _ ?_);clear q
  rcases aA h8 with ⟨hb11,h8⟩ | ⟨hb12,h8⟩
  ·refine SWp.cT' (b:=decide (i7 < (a1.length:Int))) (by simp) hb11 ?_
   refine SWp.skip ?_
   show SWp E C _ _ _
   refine SWp.seq ?_
   refine SWp.block ?_
   refine SWp.reg rfl (u _ rfl) fun K q=>?_
   iterate 4 (refine wC rfl fun K q=>?_;simp [y];refine q _ ?_;clear q)
   obtain ⟨e13,he13,h8⟩:=bS h8
   obtain ⟨he13a,he13b,he13c,he13d⟩:=gS he13
   iterate 2 (refine wC rfl fun K q=>?_;simp [y,he13a,he13b,he13c,he13d];refine q _ ?_;clear q)
   obtain ⟨e14,he14,h8⟩:=bS h8
   obtain ⟨he14a,he14b,he14c,he14d⟩:=gS he14
   refine wC rfl fun K q=>?_;simp [y,he13a,he13b,he13c,he13d,he14a,he14b,he14c,he14d];refine q _ ?_;clear q
   obtain ⟨l15,hl15,h8⟩:=bZ h8
   have hl15f:(List.map vi out6).set i7.toNat (vi e13)=List.map vi l15:=cE (f:=vi) hl15
   try simp only [Int.toNat_natCast] at hl15f
   refine wC rfl fun K q=>?_;simp [y,he13a,he13b,he13c,he13d,he14a,he14b,he14c,he14d,hl15f];refine q _ ?_;clear q
   refine wN (q _ ?_);clear q
   show SWp E C _ _ _
   refine SWp.reg rfl (u _ rfl) fun K q=>?_
   iterate 3 (refine wC rfl fun K q=>?_;simp [y];refine q _ ?_;clear q)
   refine wN (q _ ?_);clear q
   cases h8
   exact ⟨_,[],rfl,by simp [y]⟩
  ·refine SWp.cF' (b:=decide (i7 < (a1.length:Int))) (by simp) hb12 ?_
   refine SWp.exit ?_
   have h16:=congrArg some (ho9 _ (Option.some.inj h8).symm)
   cases h16
   exact hK4 _ () [] trivial (by simp [y])
 refine SWp.sR rfl (u _ rfl) fun K q=>?_
 iterate 2 (refine wC rfl fun K q=>?_;simp [y];refine q _ ?_;clear q)
 refine wN (q _ ?_);clear q
 cases h
 refine SWp.ret ?_
 simp [aC,iB,res77]
theorem res46:Tryz.f46.results.toList=[.cell 2 73]:=rfl
theorem ent46:aE E.P 46:=eO Tryz.func46 (by simp [Tryz.f46]) rfl
theorem laws_toNode_ok (a1:GNode) {r0:GNode} (h:kH a1=some r0):Ok E 46 [.val (GNode.enc false a1)] [GNode.enc true r0] []:=by
 refine oB (fn:=Tryz.f46) Tryz.func46 rfl (by simp [Tryz.f46]) fun C hN hP=>?_
 have u:∀ l,pinK [] l=true→pinB C.pin l=true:=pO (by rw [hP];rfl)
 have y:C.N=18:=hN
 clear hN
 unfold kH at h
 refine SWp.sR rfl (u _ rfl) fun K q=>?_
 iterate 2 (refine wC rfl fun K q=>?_;simp [y];refine q _ ?_;clear q)
 refine wN (q _ ?_);clear q
 refine SWp.sR rfl (u _ rfl) fun K q=>?_
 refine wC rfl fun K q=>?_;simp [y];refine q _ ?_;clear q
 refine wN (q _ ?_);clear q
 refine SWp.sR rfl (u _ rfl) fun K q=>?_
 iterate 4 (refine wC rfl fun K q=>?_;simp [y];refine q _ ?_;clear q)
 refine wN (q _ ?_);clear q
 refine SWp.sR rfl (u _ rfl) fun K q=>?_
 iterate 4 (refine wC rfl fun K q=>?_;simp [y];refine q _ ?_;clear q)
 refine wN (q _ ?_);clear q
 refine SWp.sR rfl (u _ rfl) fun K q=>?_
 iterate 4 (refine wC rfl fun K q=>?_;simp [y];refine q _ ?_;clear q)
 refine wN (q _ ?_);clear q
 refine SWp.sR rfl (u _ rfl) fun K q=>?_
 iterate 2 (refine wC rfl fun K q=>?_;simp [y];refine q _ ?_;clear q)
 obtain ⟨r2,hc3,h⟩:=bS h
 refine wL [(.take,.tmp 14)] rfl rfl ent77 (laws_toIntS_ok _ hc3) fun K q=>?_;simp [y];refine q _ ?_;clear q
 iterate 2 (refine wC rfl fun K q=>?_;simp [y];refine q _ ?_;clear q)
 refine wN (q _ ?_);clear q
 refine SWp.sR rfl (u _ rfl) fun K q=>?_
 iterate 2 (refine wC rfl fun K q=>?_;simp [y];refine q _ ?_;clear q)
 refine wN (q _ ?_);clear q
 cases h
 refine SWp.ret ?_
 simp [aC,iB,res46]
theorem res18:Tryz.f18.results.toList=[.tmp 2]:=rfl
theorem ent18:aE E.P 18:=eO Tryz.func18 (by simp [Tryz.f18]) rfl
theorem laws_toNodeS_ok (a1:List GNode) {r0:List GNode} (h:iV a1=some r0):Ok E 18 [.val (.sl false 4 (List.map (GNode.enc false) a1))] [.sl true 4 (List.map (GNode.enc true) r0)] []:=by
 refine oB (fn:=Tryz.f18) Tryz.func18 rfl (by simp [Tryz.f18]) fun C hN hP=>?_
 have u:∀ l,pinK [] l=true→pinB C.pin l=true:=pO (by rw [hP];rfl)
 have y:C.N=23:=hN
 clear hN
 unfold iV at h
 refine SWp.sR rfl (u _ rfl) fun K q=>?_
 refine wC rfl fun K q=>?_;simp [y];refine q _ ?_;clear q
 refine wN (q _ ?_);clear q
 refine SWp.sR rfl (u _ rfl) fun K q=>?_
 iterate 2 (refine wC rfl fun K q=>?_;simp [y];refine q _ ?_;clear q)
 obtain ⟨l2,hl2,h⟩:=bS h
 obtain ⟨hl2a,hl2b,hl2c,hl2d⟩:=mS hl2
 have hl2f:List.replicate (a1.length:Int).toNat (.agg [vi 0,vi 0,vs ByteArray.empty,.sl true 1 []])=List.map (GNode.enc true) l2:=nO (f:=(GNode.enc true)) hl2d
 try simp only [Int.toNat_natCast] at hl2f
 iterate 2 (refine wC rfl fun K q=>?_;simp [y,hl2a,hl2b,hl2c,hl2f];refine q _ ?_;clear q)
 refine wN (q _ ?_);clear q
 obtain ⟨out19,hj3,h⟩:=bS h
 refine SWp.seqC [3] [] (fun _:Unit=>⟨[(3,.t (.sl true 4 (List.map (GNode.enc true) out19)))],[]⟩) (fun _=>True) (fun _ _=>?_) fun K4 hK4=>?_
 rotate_left
 ·refine SWp.sR rfl (u _ rfl) fun K q=>?_
  refine wC rfl fun K q=>?_;simp [y];refine q _ ?_;clear q
  refine wN (q _ ?_);clear q
  refine SWp.block ?_
  refine SWp.loopO [] [0,3,4] [] (fun v:(List GNode) × Int=>⟨[(0,.t (.sl false 4 (List.map (GNode.enc false) a1))),(3,.t (.sl true 4 (List.map (GNode.enc true) v.1))),(4,.t (vi v.2))],[]⟩) (dZ a1) _ (l2,0) hj3 (by simp [y]) ?_
  intro g s10 h8 ho9
  obtain ⟨out6,i7⟩:=g
  simp only [dZ] at h8
  try dsimp only
  refine SWp.seq ?_
  refine SWp.sR rfl (u _ rfl) fun K q=>?_
  iterate 4 (refine wC rfl fun K q=>?_;simp [y];refine q _ ?_;clear q)
  refine wN (q _ ?_);clear q
  rcases aA h8 with ⟨hb11,h8⟩ | ⟨hb12,h8⟩
  ·refine SWp.cT' (b:=decide (i7 < (a1.length:Int))) (by simp) hb11 ?_
   refine SWp.skip ?_
   show SWp E C _ _ _
   refine SWp.seq ?_
   refine SWp.block ?_
   refine SWp.reg rfl (u _ rfl) fun K q=>?_
   iterate 4 (refine wC rfl fun K q=>?_;simp [y];refine q _ ?_;clear q)
   obtain ⟨e13,he13,h8⟩:=bS h8
   obtain ⟨he13a,he13b,he13c,he13d⟩:=gS he13
   iterate 2 (refine wC rfl fun K q=>?_;simp [y,he13a,he13b,he13c,he13d];refine q _ ?_;clear q)
   obtain ⟨r14,hc15,h8⟩:=bS h8
   refine wL [(.take,.tmp 19)] rfl rfl ent46 (laws_toNode_ok _ hc15) fun K q=>?_;simp [y,he13a,he13b,he13c,he13d];refine q _ ?_;clear q
   obtain ⟨e16,he16,h8⟩:=bS h8
   obtain ⟨he16a,he16b,he16c,he16d⟩:=gS he16
   refine wC rfl fun K q=>?_;simp [y,he13a,he13b,he13c,he13d,he16a,he16b,he16c,he16d];refine q _ ?_;clear q
   obtain ⟨l17,hl17,h8⟩:=bZ h8
   have hl17f:(List.map (GNode.enc true) out6).set i7.toNat (.agg [vi r14.Kind,vi r14.Num,vs r14.Name,.sl true 1 (List.map vi r14.Kids)])=List.map (GNode.enc true) l17:=cE (f:=(GNode.enc true)) hl17
   try simp only [Int.toNat_natCast] at hl17f
   refine wC rfl fun K q=>?_;simp [y,he13a,he13b,he13c,he13d,he16a,he16b,he16c,he16d,hl17f];refine q _ ?_;clear q
   refine wN (q _ ?_);clear q
   show SWp E C _ _ _
   refine SWp.reg rfl (u _ rfl) fun K q=>?_
   iterate 3 (refine wC rfl fun K q=>?_;simp [y];refine q _ ?_;clear q)
   refine wN (q _ ?_);clear q
   cases h8
   exact ⟨_,[],rfl,by simp [y]⟩
  ·refine SWp.cF' (b:=decide (i7 < (a1.length:Int))) (by simp) hb12 ?_
   refine SWp.exit ?_
   have h18:=congrArg some (ho9 _ (Option.some.inj h8).symm)
   cases h18
   exact hK4 _ () [] trivial (by simp [y])
 refine SWp.sR rfl (u _ rfl) fun K q=>?_
 iterate 2 (refine wC rfl fun K q=>?_;simp [y];refine q _ ?_;clear q)
 refine wN (q _ ?_);clear q
 cases h
 refine SWp.ret ?_
 simp [aC,iB,res18]
theorem res97:Tryz.f97.results.toList=[.cell 2 71]:=rfl
theorem ent97:aE E.P 97:=eO Tryz.func97 (by simp [Tryz.f97]) rfl
theorem laws_toParam_ok (a1:GParam) {r0:GParam} (h:iU a1=some r0):Ok E 97 [.val (GParam.enc a1)] [GParam.enc r0] []:=by
 refine oB (fn:=Tryz.f97) Tryz.func97 rfl (by simp [Tryz.f97]) fun C hN hP=>?_
 have u:∀ l,pinK [] l=true→pinB C.pin l=true:=pO (by rw [hP];rfl)
 have y:C.N=11:=hN
 clear hN
 unfold iU at h
 refine SWp.sR rfl (u _ rfl) fun K q=>?_
 iterate 2 (refine wC rfl fun K q=>?_;simp [y];refine q _ ?_;clear q)
 refine wN (q _ ?_);clear q
 refine SWp.sR rfl (u _ rfl) fun K q=>?_
 refine wC rfl fun K q=>?_;simp [y];refine q _ ?_;clear q
 refine wN (q _ ?_);clear q
 refine SWp.sR rfl (u _ rfl) fun K q=>?_
 iterate 4 (refine wC rfl fun K q=>?_;simp [y];refine q _ ?_;clear q)
 refine wN (q _ ?_);clear q
 refine SWp.sR rfl (u _ rfl) fun K q=>?_
 iterate 4 (refine wC rfl fun K q=>?_;simp [y];refine q _ ?_;clear q)
 refine wN (q _ ?_);clear q
 refine SWp.sR rfl (u _ rfl) fun K q=>?_
 iterate 2 (refine wC rfl fun K q=>?_;simp [y];refine q _ ?_;clear q)
 refine wN (q _ ?_);clear q
 cases h
 refine SWp.ret ?_
 simp [aC,iB,res97]
theorem res78:Tryz.f78.results.toList=[.tmp 2]:=rfl
theorem ent78:aE E.P 78:=eO Tryz.func78 (by simp [Tryz.f78]) rfl
theorem laws_toParamS_ok (a1:List GParam) {r0:List GParam} (h:hE a1=some r0):Ok E 78 [.val (.sl false 2 (List.map GParam.enc a1))] [.sl true 2 (List.map GParam.enc r0)] []:=by
 refine oB (fn:=Tryz.f78) Tryz.func78 rfl (by simp [Tryz.f78]) fun C hN hP=>?_
 have u:∀ l,pinK [] l=true→pinB C.pin l=true:=pO (by rw [hP];rfl)
 have y:C.N=23:=hN
 clear hN
 unfold hE at h
 refine SWp.sR rfl (u _ rfl) fun K q=>?_
 refine wC rfl fun K q=>?_;simp [y];refine q _ ?_;clear q
 refine wN (q _ ?_);clear q
 refine SWp.sR rfl (u _ rfl) fun K q=>?_
 iterate 2 (refine wC rfl fun K q=>?_;simp [y];refine q _ ?_;clear q)
 obtain ⟨l2,hl2,h⟩:=bS h
 obtain ⟨hl2a,hl2b,hl2c,hl2d⟩:=mS hl2
 have hl2f:List.replicate (a1.length:Int).toNat (.agg [vs ByteArray.empty,vi 0])=List.map GParam.enc l2:=nO (f:=GParam.enc) hl2d
 try simp only [Int.toNat_natCast] at hl2f
 iterate 2 (refine wC rfl fun K q=>?_;simp [y,hl2a,hl2b,hl2c,hl2f];refine q _ ?_;clear q)
 refine wN (q _ ?_);clear q
 obtain ⟨out19,hj3,h⟩:=bS h
 refine SWp.seqC [3] [] (fun _:Unit=>⟨[(3,.t (.sl true 2 (List.map GParam.enc out19)))],[]⟩) (fun _=>True) (fun _ _=>?_) fun K4 hK4=>?_
 rotate_left
 ·refine SWp.sR rfl (u _ rfl) fun K q=>?_
  refine wC rfl fun K q=>?_;simp [y];refine q _ ?_;clear q
  refine wN (q _ ?_);clear q
  refine SWp.block ?_
  refine SWp.loopO [] [0,3,4] [] (fun v:(List GParam) × Int=>⟨[(0,.t (.sl false 2 (List.map GParam.enc a1))),(3,.t (.sl true 2 (List.map GParam.enc v.1))),(4,.t (vi v.2))],[]⟩) (dC a1) _ (l2,0) hj3 (by simp [y]) ?_
  intro g s10 h8 ho9
  obtain ⟨out6,i7⟩:=g
  simp only [dC] at h8
  try dsimp only
  refine SWp.seq ?_
  refine SWp.sR rfl (u _ rfl) fun K q=>?_
  iterate 4 (refine wC rfl fun K q=>?_;simp [y];refine q _ ?_;clear q)
  refine wN (q _ ?_);clear q
  rcases aA h8 with ⟨hb11,h8⟩ | ⟨hb12,h8⟩
  ·refine SWp.cT' (b:=decide (i7 < (a1.length:Int))) (by simp) hb11 ?_
   refine SWp.skip ?_
   show SWp E C _ _ _
   refine SWp.seq ?_
   refine SWp.block ?_
   refine SWp.reg rfl (u _ rfl) fun K q=>?_
   iterate 4 (refine wC rfl fun K q=>?_;simp [y];refine q _ ?_;clear q)
   obtain ⟨e13,he13,h8⟩:=bS h8
   obtain ⟨he13a,he13b,he13c,he13d⟩:=gS he13
   iterate 2 (refine wC rfl fun K q=>?_;simp [y,he13a,he13b,he13c,he13d];refine q _ ?_;clear q)
   obtain ⟨r14,hc15,h8⟩:=bS h8
   refine wL [(.take,.tmp 19)] rfl rfl ent97 (laws_toParam_ok _ hc15) fun K q=>?_;simp [y,he13a,he13b,he13c,he13d];refine q _ ?_;clear q
   obtain ⟨e16,he16,h8⟩:=bS h8
   obtain ⟨he16a,he16b,he16c,he16d⟩:=gS he16
   refine wC rfl fun K q=>?_;simp [y,he13a,he13b,he13c,he13d,he16a,he16b,he16c,he16d];refine q _ ?_;clear q
   obtain ⟨l17,hl17,h8⟩:=bZ h8
   have hl17f:(List.map GParam.enc out6).set i7.toNat (.agg [vs r14.Name,vi r14.Typ])=List.map GParam.enc l17:=cE (f:=GParam.enc) hl17
   try simp only [Int.toNat_natCast] at hl17f
   refine wC rfl fun K q=>?_;simp [y,he13a,he13b,he13c,he13d,he16a,he16b,he16c,he16d,hl17f];refine q _ ?_;clear q
   refine wN (q _ ?_);clear q
   show SWp E C _ _ _
   refine SWp.reg rfl (u _ rfl) fun K q=>?_
   iterate 3 (refine wC rfl fun K q=>?_;simp [y];refine q _ ?_;clear q)
   refine wN (q _ ?_);clear q
   cases h8
   exact ⟨_,[],rfl,by simp [y]⟩
  ·refine SWp.cF' (b:=decide (i7 < (a1.length:Int))) (by simp) hb12 ?_
   refine SWp.exit ?_
   have h18:=congrArg some (ho9 _ (Option.some.inj h8).symm)
   cases h18
   exact hK4 _ () [] trivial (by simp [y])
 refine SWp.sR rfl (u _ rfl) fun K q=>?_
 iterate 2 (refine wC rfl fun K q=>?_;simp [y];refine q _ ?_;clear q)
 refine wN (q _ ?_);clear q
 cases h
 refine SWp.ret ?_
 simp [aC,iB,res78]
theorem res47:Tryz.f47.results.toList=[.cell 2 50]:=rfl
theorem ent47:aE E.P 47:=eO Tryz.func47 (by simp [Tryz.f47]) rfl
theorem laws_toFn_ok (a1:GFn) {r0:GFn} (h:nW a1=some r0):Ok E 47 [.val (GFn.enc false a1)] [GFn.enc true r0] []:=by
 refine oB (fn:=Tryz.f47) Tryz.func47 rfl (by simp [Tryz.f47]) fun C hN hP=>?_
 have u:∀ l,pinK [] l=true→pinB C.pin l=true:=pO (by rw [hP];rfl)
 have y:C.N=21:=hN
 clear hN
 unfold nW at h
 refine SWp.sR rfl (u _ rfl) fun K q=>?_
 iterate 2 (refine wC rfl fun K q=>?_;simp [y];refine q _ ?_;clear q)
 refine wN (q _ ?_);clear q
 refine SWp.sR rfl (u _ rfl) fun K q=>?_
 refine wC rfl fun K q=>?_;simp [y];refine q _ ?_;clear q
 refine wN (q _ ?_);clear q
 refine SWp.sR rfl (u _ rfl) fun K q=>?_
 iterate 4 (refine wC rfl fun K q=>?_;simp [y];refine q _ ?_;clear q)
 refine wN (q _ ?_);clear q
 refine SWp.sR rfl (u _ rfl) fun K q=>?_
 iterate 2 (refine wC rfl fun K q=>?_;simp [y];refine q _ ?_;clear q)
 obtain ⟨r2,hc3,h⟩:=bS h
 refine wL [(.take,.tmp 8)] rfl rfl ent78 (laws_toParamS_ok _ hc3) fun K q=>?_;simp [y];refine q _ ?_;clear q
 iterate 2 (refine wC rfl fun K q=>?_;simp [y];refine q _ ?_;clear q)
 refine wN (q _ ?_);clear q
 refine SWp.sR rfl (u _ rfl) fun K q=>?_
 iterate 4 (refine wC rfl fun K q=>?_;simp [y];refine q _ ?_;clear q)
 refine wN (q _ ?_);clear q
 refine SWp.sR rfl (u _ rfl) fun K q=>?_
 iterate 4 (refine wC rfl fun K q=>?_;simp [y];refine q _ ?_;clear q)
 refine wN (q _ ?_);clear q
 refine SWp.sR rfl (u _ rfl) fun K q=>?_
 iterate 4 (refine wC rfl fun K q=>?_;simp [y];refine q _ ?_;clear q)
 refine wN (q _ ?_);clear q
 refine SWp.sR rfl (u _ rfl) fun K q=>?_
 iterate 2 (refine wC rfl fun K q=>?_;simp [y];refine q _ ?_;clear q)
 refine wN (q _ ?_);clear q
 cases h
 refine SWp.ret ?_
 simp [aC,iB,res47]
theorem res19:Tryz.f19.results.toList=[.tmp 2]:=rfl
theorem ent19:aE E.P 19:=eO Tryz.func19 (by simp [Tryz.f19]) rfl
theorem laws_toFnS_ok (a1:List GFn) {r0:List GFn} (h:mA a1=some r0):Ok E 19 [.val (.sl false 5 (List.map (GFn.enc false) a1))] [.sl true 5 (List.map (GFn.enc true) r0)] []:=by
 refine oB (fn:=Tryz.f19) Tryz.func19 rfl (by simp [Tryz.f19]) fun C hN hP=>?_
 have u:∀ l,pinK [] l=true→pinB C.pin l=true:=pO (by rw [hP];rfl)
 have y:C.N=23:=hN
 clear hN
 unfold mA at h
 refine SWp.sR rfl (u _ rfl) fun K q=>?_
 refine wC rfl fun K q=>?_;simp [y];refine q _ ?_;clear q
 refine wN (q _ ?_);clear q
 refine SWp.sR rfl (u _ rfl) fun K q=>?_
 iterate 2 (refine wC rfl fun K q=>?_;simp [y];refine q _ ?_;clear q)
 obtain ⟨l2,hl2,h⟩:=bS h
 obtain ⟨hl2a,hl2b,hl2c,hl2d⟩:=mS hl2
 have hl2f:List.replicate (a1.length:Int).toNat (.agg [vs ByteArray.empty,.sl true 2 [],vi 0,vi 0,vi 0])=List.map (GFn.enc true) l2:=nO (f:=(GFn.enc true)) hl2d
 try simp only [Int.toNat_natCast] at hl2f
 iterate 2 (refine wC rfl fun K q=>?_;simp [y,hl2a,hl2b,hl2c,hl2f];refine q _ ?_;clear q)
 refine wN (q _ ?_);clear q
 obtain ⟨out19,hj3,h⟩:=bS h
 refine SWp.seqC [3] [] (fun _:Unit=>⟨[(3,.t (.sl true 5 (List.map (GFn.enc true) out19)))],[]⟩) (fun _=>True) (fun _ _=>?_) fun K4 hK4=>?_
 rotate_left
 ·refine SWp.sR rfl (u _ rfl) fun K q=>?_
  refine wC rfl fun K q=>?_;simp [y];refine q _ ?_;clear q
  refine wN (q _ ?_);clear q
  refine SWp.block ?_
  refine SWp.loopO [] [0,3,4] [] (fun v:(List GFn) × Int=>⟨[(0,.t (.sl false 5 (List.map (GFn.enc false) a1))),(3,.t (.sl true 5 (List.map (GFn.enc true) v.1))),(4,.t (vi v.2))],[]⟩) (fL a1) _ (l2,0) hj3 (by simp [y]) ?_
  intro g s10 h8 ho9
  obtain ⟨out6,i7⟩:=g
  simp only [fL] at h8
  try dsimp only
  refine SWp.seq ?_
  refine SWp.sR rfl (u _ rfl) fun K q=>?_
  iterate 4 (refine wC rfl fun K q=>?_;simp [y];refine q _ ?_;clear q)
  refine wN (q _ ?_);clear q
  rcases aA h8 with ⟨hb11,h8⟩ | ⟨hb12,h8⟩
  ·refine SWp.cT' (b:=decide (i7 < (a1.length:Int))) (by simp) hb11 ?_
   refine SWp.skip ?_
   show SWp E C _ _ _
   refine SWp.seq ?_
   refine SWp.block ?_
   refine SWp.reg rfl (u _ rfl) fun K q=>?_
   iterate 4 (refine wC rfl fun K q=>?_;simp [y];refine q _ ?_;clear q)
   obtain ⟨e13,he13,h8⟩:=bS h8
   obtain ⟨he13a,he13b,he13c,he13d⟩:=gS he13
   iterate 2 (refine wC rfl fun K q=>?_;simp [y,he13a,he13b,he13c,he13d];refine q _ ?_;clear q)
   obtain ⟨r14,hc15,h8⟩:=bS h8
   refine wL [(.take,.tmp 19)] rfl rfl ent47 (laws_toFn_ok _ hc15) fun K q=>?_;simp [y,he13a,he13b,he13c,he13d];refine q _ ?_;clear q
   obtain ⟨e16,he16,h8⟩:=bS h8
   obtain ⟨he16a,he16b,he16c,he16d⟩:=gS he16
   refine wC rfl fun K q=>?_;simp [y,he13a,he13b,he13c,he13d,he16a,he16b,he16c,he16d];refine q _ ?_;clear q
   obtain ⟨l17,hl17,h8⟩:=bZ h8
   have hl17f:(List.map (GFn.enc true) out6).set i7.toNat (.agg [vs r14.Name,.sl true 2 (List.map GParam.enc r14.Params),vi r14.Res,vi r14.Body,vi r14.Ret])=List.map (GFn.enc true) l17:=cE (f:=(GFn.enc true)) hl17
   try simp only [Int.toNat_natCast] at hl17f
   refine wC rfl fun K q=>?_;simp [y,he13a,he13b,he13c,he13d,he16a,he16b,he16c,he16d,hl17f];refine q _ ?_;clear q
   refine wN (q _ ?_);clear q
   show SWp E C _ _ _
   refine SWp.reg rfl (u _ rfl) fun K q=>?_
   iterate 3 (refine wC rfl fun K q=>?_;simp [y];refine q _ ?_;clear q)
   refine wN (q _ ?_);clear q
   cases h8
   exact ⟨_,[],rfl,by simp [y]⟩
  ·refine SWp.cF' (b:=decide (i7 < (a1.length:Int))) (by simp) hb12 ?_
   refine SWp.exit ?_
   have h18:=congrArg some (ho9 _ (Option.some.inj h8).symm)
   cases h18
   exact hK4 _ () [] trivial (by simp [y])
 refine SWp.sR rfl (u _ rfl) fun K q=>?_
 iterate 2 (refine wC rfl fun K q=>?_;simp [y];refine q _ ?_;clear q)
 refine wN (q _ ?_);clear q
 cases h
 refine SWp.ret ?_
 simp [aC,iB,res19]
theorem res7:Tryz.f7.results.toList=[.cell 2 31]:=rfl
theorem ent7:aE E.P 7:=eO Tryz.func7 (by simp [Tryz.f7]) rfl
theorem fK (a1:GProgram) {r0:GProgram} (h:cF a1=some r0):Ok E 7 [.val (GProgram.enc false a1)] [GProgram.enc true r0] []:=by
 refine oB (fn:=Tryz.f7) Tryz.func7 rfl (by simp [Tryz.f7]) fun C hN hP=>?_
 have u:∀ l,pinK [] l=true→pinB C.pin l=true:=pO (by rw [hP];rfl)
 have y:C.N=13:=hN
 clear hN
 unfold cF at h
 refine SWp.sR rfl (u _ rfl) fun K q=>?_
 iterate 2 (refine wC rfl fun K q=>?_;simp [y];refine q _ ?_;clear q)
 refine wN (q _ ?_);clear q
 refine SWp.sR rfl (u _ rfl) fun K q=>?_
 refine wC rfl fun K q=>?_;simp [y];refine q _ ?_;clear q
 refine wN (q _ ?_);clear q
 refine SWp.sR rfl (u _ rfl) fun K q=>?_
 iterate 2 (refine wC rfl fun K q=>?_;simp [y];refine q _ ?_;clear q)
 obtain ⟨r2,hc3,h⟩:=bS h
 refine wL [(.take,.tmp 5)] rfl rfl ent18 (laws_toNodeS_ok _ hc3) fun K q=>?_;simp [y];refine q _ ?_;clear q
 iterate 2 (refine wC rfl fun K q=>?_;simp [y];refine q _ ?_;clear q)
 refine wN (q _ ?_);clear q
 refine SWp.sR rfl (u _ rfl) fun K q=>?_
 iterate 2 (refine wC rfl fun K q=>?_;simp [y];refine q _ ?_;clear q)
 obtain ⟨r4,hc5,h⟩:=bS h
 refine wL [(.take,.tmp 9)] rfl rfl ent19 (laws_toFnS_ok _ hc5) fun K q=>?_;simp [y];refine q _ ?_;clear q
 iterate 2 (refine wC rfl fun K q=>?_;simp [y];refine q _ ?_;clear q)
 refine wN (q _ ?_);clear q
 refine SWp.sR rfl (u _ rfl) fun K q=>?_
 iterate 2 (refine wC rfl fun K q=>?_;simp [y];refine q _ ?_;clear q)
 refine wN (q _ ?_);clear q
 cases h
 refine SWp.ret ?_
 simp [aC,iB,res7]
theorem res84:Tryz.f84.results.toList=[.tmp 4]:=rfl
theorem ent84:aE E.P 84:=eO Tryz.func84 (by simp [Tryz.f84]) rfl
theorem laws_eqIntS_ok (a1:List Int) (b2:List Int) {r0:Bool} (h:kP a1 b2=some r0):Ok E 84 [.val (.sl false 1 (List.map vi a1)),.val (.sl false 1 (List.map vi b2))] [vb r0] []:=by
 refine oB (fn:=Tryz.f84) Tryz.func84 rfl (by simp [Tryz.f84]) fun C hN hP=>?_
 have hPB:∀ l,pinK [] l=true→pinB C.pin l=true:=pO (by rw [hP];rfl)
 have hN':C.N=26:=hN
 clear hN
 unfold kP at h
 refine SWp.sR rfl (hPB _ rfl) fun K hK=>?_
 refine wC rfl fun K hK=>?_;simp [hN'];refine hK _ ?_;clear hK
 refine wN (hK _ ?_);clear hK
 refine SWp.seq ?_
 refine SWp.sR rfl (hPB _ rfl) fun K hK=>?_
 iterate 5 (refine wC rfl fun K hK=>?_;simp [hN'];refine hK _ ?_;clear hK)
 refine wN (hK _ ?_);clear hK
 rcases aA h with ⟨hb3,h⟩ | ⟨hb4,h⟩
 ·refine SWp.cT' (b:=(a1.length:Int) != (b2.length:Int)) (by simp) hb3 ?_
  refine SWp.sR rfl (hPB _ rfl) fun K hK=>?_
  refine wC rfl fun K hK=>?_;simp [hN'];refine hK _ ?_;clear hK
  refine wN (hK _ ?_);clear hK
  cases h
  refine SWp.ret ?_
  simp [aC,iB,res84]
 ·refine SWp.cF' (b:=(a1.length:Int) != (b2.length:Int)) (by simp) hb4 ?_
  refine SWp.skip ?_
  show SWp E C _ _ _
  obtain ⟨j7,hj5,h⟩:=bS h
  refine SWp.seqC [] [] (fun v:Unit=>⟨[],[]⟩) (fun v=>j7=Sum.inl v) (fun v hv=>?_) fun K6 hK6=>?_
  rotate_left
  ·refine SWp.sR rfl (hPB _ rfl) fun K hK=>?_
   refine wC rfl fun K hK=>?_;simp [hN'];refine hK _ ?_;clear hK
   refine wN (hK _ ?_);clear hK
   refine SWp.block ?_
   refine SWp.loopO [] [0,1,5] [] (fun v:Int=>⟨[(0,.t (.sl false 1 (List.map vi a1))),(1,.t (.sl false 1 (List.map vi b2))),(5,.t (vi v))],[]⟩) (eT a1 b2) _ 0 hj5 (by simp [hN']) ?_
   intro g s11 h9 ho10
   obtain ⟨i8,hg⟩:∃ y,y=g:=⟨_,rfl⟩
   subst hg
   simp only [eT] at h9
   try dsimp only
   refine SWp.seq ?_
   refine SWp.sR rfl (hPB _ rfl) fun K hK=>?_
   iterate 4 (refine wC rfl fun K hK=>?_;simp [hN'];refine hK _ ?_;clear hK)
   refine wN (hK _ ?_);clear hK
   rcases aA h9 with ⟨hb12,h9⟩ | ⟨hb13,h9⟩
   ·refine SWp.cT' (b:=decide (i8 < (a1.length:Int))) (by simp) hb12 ?_
    refine SWp.skip ?_
    show SWp E C _ _ _
    refine SWp.seq ?_
    refine SWp.block ?_
    refine SWp.seq ?_
    obtain ⟨e15,he15,h9⟩:=bS h9
    obtain ⟨he15a,he15b,he15c,he15d⟩:=gS he15
    obtain ⟨e16,he16,h9⟩:=bS h9
    obtain ⟨he16a,he16b,he16c,he16d⟩:=gS he16
    refine SWp.dT rfl (hPB _ rfl) [(17,.t (.sl false 1 (List.map vi a1))),(18,.t (vi i8)),(19,.rop [vi e15] 0),(20,.t (vi e15)),(21,.t (.sl false 1 (List.map vi b2))),(22,.t (vi i8)),(23,.rop [vi e16] 0),(24,.t (vi e16))] [[],[],[0,1],[0,1,2],[],[],[4,5],[4,5,6],[0,1,2,3,4,5,6,7]] (by simp) (by simp) (by simp [look]) rfl rfl rfl ?_ fun K hK=>?_
    ·refine ⟨?_,?_,?_,?_,?_,?_,?_,?_,trivial⟩
     all_goals (intro τ hbx hb hd hf K hK;try simp [vsAt] at hd;simp [vsAt] at hf;first | (refine wC rfl fun K' hK'=>?_;simp [hN',hbx,hb,hd,hf,he15a,he15b,he15c,he15d,he16a,he16b,he16c,he16d];exact hK' _ (wN (hK _ (by simp [vsAt,hbx,he15a,he15b,he15c,he15d,he16a,he16b,he16c,he16d])))))
    refine wC rfl fun K hK=>?_;simp [hN',he15a,he15b,he15c,he15d,he16a,he16b,he16c,he16d];refine hK _ ?_;clear hK
    refine wN (hK _ ?_);clear hK
    show SWp E C _ _ _
    rcases aA h9 with ⟨hb17,h9⟩ | ⟨hb18,h9⟩
    ·refine SWp.cT' (b:=e15 != e16) (by simp) hb17 ?_
     refine SWp.sR rfl (hPB _ rfl) fun K hK=>?_
     refine wC rfl fun K hK=>?_;simp [hN'];refine hK _ ?_;clear hK
     refine wN (hK _ ?_);clear hK
     have h19:=congrArg some (ho10 _ (Option.some.inj h9).symm)
     cases h19
     try dsimp only at h
     cases h
     refine SWp.ret ?_
     simp [aC,iB,res84]
    ·refine SWp.cF' (b:=e15 != e16) (by simp) hb18 ?_
     refine SWp.skip ?_
     show SWp E C _ _ _
     refine SWp.reg rfl (hPB _ rfl) fun K hK=>?_
     iterate 3 (refine wC rfl fun K hK=>?_;simp [hN'];refine hK _ ?_;clear hK)
     refine wN (hK _ ?_);clear hK
     cases h9
     exact ⟨_,[],rfl,by simp [hN']⟩
   ·refine SWp.cF' (b:=decide (i8 < (a1.length:Int))) (by simp) hb13 ?_
    refine SWp.exit ?_
    have h20:=congrArg some (ho10 _ (Option.some.inj h9).symm)
    cases h20
    exact hK6 _ _ [] rfl (by simp [hN'])
  subst hv
  obtain ⟨⟩:=v
  try dsimp only at h ⊢
  refine SWp.sR rfl (hPB _ rfl) fun K hK=>?_
  refine wC rfl fun K hK=>?_;simp [hN'];refine hK _ ?_;clear hK
  refine wN (hK _ ?_);clear hK
  cases h
  refine SWp.ret ?_
  simp [aC,iB,res84]
theorem res51:Tryz.f51.results.toList=[.tmp 4]:=rfl
theorem ent51:aE E.P 51:=eO Tryz.func51 (by simp [Tryz.f51]) rfl
theorem laws_eqNode_ok (a1:GNode) (b2:GNode) {r0:Bool} (h:kO a1 b2=some r0):Ok E 51 [.val (GNode.enc false a1),.val (GNode.enc false b2)] [vb r0] []:=by
 refine oB (fn:=Tryz.f51) Tryz.func51 rfl (by simp [Tryz.f51]) fun C hN hP=>?_
 have u:∀ l,pinK [] l=true→pinB C.pin l=true:=pO (by rw [hP];rfl)
 have y:C.N=26:=hN
 clear hN
 unfold kO at h
 refine SWp.sR rfl (u _ rfl) fun K q=>?_
 iterate 3 (refine wC rfl fun K q=>?_;simp [y];refine q _ ?_;clear q)
 refine wN (q _ ?_);clear q
 refine SWp.seq ?_
 refine SWp.sR rfl (u _ rfl) fun K q=>?_
 iterate 5 (refine wC rfl fun K q=>?_;simp [y];refine q _ ?_;clear q)
 refine wN (q _ ?_);clear q
 rcases aA h with ⟨hb3,h⟩ | ⟨hb4,h⟩
 ·refine SWp.cT' (b:=a1.Kind != b2.Kind) (by simp) hb3 ?_
  refine SWp.sR rfl (u _ rfl) fun K q=>?_
  refine wC rfl fun K q=>?_;simp [y];refine q _ ?_;clear q
  refine wN (q _ ?_);clear q
  cases h
  refine SWp.ret ?_
  simp [aC,iB,res51]
 ·refine SWp.cF' (b:=a1.Kind != b2.Kind) (by simp) hb4 ?_
  refine SWp.skip ?_
  show SWp E C _ _ _
  refine SWp.seq ?_
  refine SWp.sR rfl (u _ rfl) fun K q=>?_
  iterate 5 (refine wC rfl fun K q=>?_;simp [y];refine q _ ?_;clear q)
  refine wN (q _ ?_);clear q
  rcases aA h with ⟨hb5,h⟩ | ⟨hb6,h⟩
  ·refine SWp.cT' (b:=a1.Num != b2.Num) (by simp) hb5 ?_
   refine SWp.sR rfl (u _ rfl) fun K q=>?_
   refine wC rfl fun K q=>?_;simp [y];refine q _ ?_;clear q
   refine wN (q _ ?_);clear q
   cases h
   refine SWp.ret ?_
   simp [aC,iB,res51]
  ·refine SWp.cF' (b:=a1.Num != b2.Num) (by simp) hb6 ?_
   refine SWp.skip ?_
   show SWp E C _ _ _
   refine SWp.seq ?_
   refine SWp.sR rfl (u _ rfl) fun K q=>?_
   iterate 5 (refine wC rfl fun K q=>?_;simp [y];refine q _ ?_;clear q)
   refine wN (q _ ?_);clear q
   rcases aA h with ⟨hb7,h⟩ | ⟨hb8,h⟩
   ·refine SWp.cT' (b:=!(sEq a1.Name b2.Name)) (by simp) hb7 ?_
    refine SWp.sR rfl (u _ rfl) fun K q=>?_
    refine wC rfl fun K q=>?_;simp [y];refine q _ ?_;clear q
    refine wN (q _ ?_);clear q
    cases h
    refine SWp.ret ?_
    simp [aC,iB,res51]
   ·refine SWp.cF' (b:=!(sEq a1.Name b2.Name)) (by simp) hb8 ?_
    refine SWp.skip ?_
    show SWp E C _ _ _
    refine SWp.seq ?_
    refine SWp.sR rfl (u _ rfl) fun K q=>?_
    iterate 4 (refine wC rfl fun K q=>?_;simp [y];refine q _ ?_;clear q)
    obtain ⟨r9,hc10,h⟩:=bS h
    refine wL [(.take,.tmp 21),(.take,.tmp 23)] rfl rfl ent84 (laws_eqIntS_ok _ _ hc10) fun K q=>?_;simp [y];refine q _ ?_;clear q
    refine wC rfl fun K q=>?_;simp [y];refine q _ ?_;clear q
    refine wN (q _ ?_);clear q
    rcases aA h with ⟨hb11,h⟩ | ⟨hb12,h⟩
    ·refine SWp.cT' (b:=!r9) (by simp) hb11 ?_
     refine SWp.sR rfl (u _ rfl) fun K q=>?_
     refine wC rfl fun K q=>?_;simp [y];refine q _ ?_;clear q
     refine wN (q _ ?_);clear q
     cases h
     refine SWp.ret ?_
     simp [aC,iB,res51]
    ·refine SWp.cF' (b:=!r9) (by simp) hb12 ?_
     refine SWp.skip ?_
     show SWp E C _ _ _
     refine SWp.sR rfl (u _ rfl) fun K q=>?_
     refine wC rfl fun K q=>?_;simp [y];refine q _ ?_;clear q
     refine wN (q _ ?_);clear q
     cases h
     refine SWp.ret ?_
     simp [aC,iB,res51]
theorem res22:Tryz.f22.results.toList=[.tmp 4]:=rfl
theorem ent22:aE E.P 22:=eO Tryz.func22 (by simp [Tryz.f22]) rfl
theorem laws_eqNodeS_ok (a1:List GNode) (b2:List GNode) {r0:Bool} (h:jB a1 b2=some r0):Ok E 22 [.val (.sl false 4 (List.map (GNode.enc false) a1)),.val (.sl false 4 (List.map (GNode.enc false) b2))] [vb r0] []:=by
 refine oB (fn:=Tryz.f22) Tryz.func22 rfl (by simp [Tryz.f22]) fun C hN hP=>?_
 have hPB:∀ l,pinK [] l=true→pinB C.pin l=true:=pO (by rw [hP];rfl)
 have hN':C.N=27:=hN
 clear hN
 unfold jB at h
 refine SWp.sR rfl (hPB _ rfl) fun K hK=>?_
 refine wC rfl fun K hK=>?_;simp [hN'];refine hK _ ?_;clear hK
 refine wN (hK _ ?_);clear hK
 refine SWp.seq ?_
 refine SWp.sR rfl (hPB _ rfl) fun K hK=>?_
 iterate 5 (refine wC rfl fun K hK=>?_;simp [hN'];refine hK _ ?_;clear hK)
 refine wN (hK _ ?_);clear hK
 rcases aA h with ⟨hb3,h⟩ | ⟨hb4,h⟩
 ·refine SWp.cT' (b:=(a1.length:Int) != (b2.length:Int)) (by simp) hb3 ?_
  refine SWp.sR rfl (hPB _ rfl) fun K hK=>?_
  refine wC rfl fun K hK=>?_;simp [hN'];refine hK _ ?_;clear hK
  refine wN (hK _ ?_);clear hK
  cases h
  refine SWp.ret ?_
  simp [aC,iB,res22]
 ·refine SWp.cF' (b:=(a1.length:Int) != (b2.length:Int)) (by simp) hb4 ?_
  refine SWp.skip ?_
  show SWp E C _ _ _
  obtain ⟨j7,hj5,h⟩:=bS h
  refine SWp.seqC [] [] (fun v:Unit=>⟨[],[]⟩) (fun v=>j7=Sum.inl v) (fun v hv=>?_) fun K6 hK6=>?_
  rotate_left
  ·refine SWp.sR rfl (hPB _ rfl) fun K hK=>?_
   refine wC rfl fun K hK=>?_;simp [hN'];refine hK _ ?_;clear hK
   refine wN (hK _ ?_);clear hK
   refine SWp.block ?_
   refine SWp.loopO [] [0,1,5] [] (fun v:Int=>⟨[(0,.t (.sl false 4 (List.map (GNode.enc false) a1))),(1,.t (.sl false 4 (List.map (GNode.enc false) b2))),(5,.t (vi v))],[]⟩) (eB a1 b2) _ 0 hj5 (by simp [hN']) ?_
   intro g s11 h9 ho10
   obtain ⟨i8,hg⟩:∃ y,y=g:=⟨_,rfl⟩
   subst hg
   simp only [eB] at h9
   try dsimp only
   refine SWp.seq ?_
   refine SWp.sR rfl (hPB _ rfl) fun K hK=>?_
   iterate 4 (refine wC rfl fun K hK=>?_;simp [hN'];refine hK _ ?_;clear hK)
   refine wN (hK _ ?_);clear hK
   rcases aA h9 with ⟨hb12,h9⟩ | ⟨hb13,h9⟩
   ·refine SWp.cT' (b:=decide (i8 < (a1.length:Int))) (by simp) hb12 ?_
    refine SWp.skip ?_
    show SWp E C _ _ _
    refine SWp.seq ?_
    refine SWp.block ?_
    refine SWp.seq ?_
    obtain ⟨e15,he15,h9⟩:=bS h9
    obtain ⟨he15a,he15b,he15c,he15d⟩:=gS he15
    obtain ⟨e16,he16,h9⟩:=bS h9
    obtain ⟨he16a,he16b,he16c,he16d⟩:=gS he16
    refine SWp.dT rfl (hPB _ rfl) [(17,.t (.sl false 4 (List.map (GNode.enc false) a1))),(18,.t (vi i8)),(19,.rop [vi e15.Kind,vi e15.Num,vs e15.Name,.sl false 1 (List.map vi e15.Kids)] 0),(20,.t (GNode.enc false e15)),(21,.t (.sl false 4 (List.map (GNode.enc false) b2))),(22,.t (vi i8)),(23,.rop [vi e16.Kind,vi e16.Num,vs e16.Name,.sl false 1 (List.map vi e16.Kids)] 0),(24,.t (GNode.enc false e16))] [[],[],[0,1],[0,1,2],[],[],[4,5],[4,5,6],[0,1,2,3,4,5,6,7],[0,1,2,3,4,5,6,7,8]] (by simp) (by simp) (by simp [look]) rfl rfl rfl ?_ fun K hK=>?_
    ·refine ⟨?_,?_,?_,?_,?_,?_,?_,?_,trivial⟩
     all_goals (intro τ hbx hb hd hf K hK;try simp [vsAt] at hd;simp [vsAt] at hf;first | (refine wC rfl fun K' hK'=>?_;simp [hN',hbx,hb,hd,hf,he15a,he15b,he15c,he15d,he16a,he16b,he16c,he16d];exact hK' _ (wN (hK _ (by simp [vsAt,hbx,he15a,he15b,he15c,he15d,he16a,he16b,he16c,he16d])))))
    obtain ⟨r17,hc18,h9⟩:=bS h9
    refine wL [(.take,.tmp 20),(.take,.tmp 24)] rfl rfl ent51 (laws_eqNode_ok _ _ hc18) fun K hK=>?_;simp [hN',he15a,he15b,he15c,he15d,he16a,he16b,he16c,he16d];refine hK _ ?_;clear hK
    refine wC rfl fun K hK=>?_;simp [hN',he15a,he15b,he15c,he15d,he16a,he16b,he16c,he16d];refine hK _ ?_;clear hK
    refine wN (hK _ ?_);clear hK
    show SWp E C _ _ _
    rcases aA h9 with ⟨hb19,h9⟩ | ⟨hb20,h9⟩
    ·refine SWp.cT' (b:=!r17) (by simp) hb19 ?_
     refine SWp.sR rfl (hPB _ rfl) fun K hK=>?_
     refine wC rfl fun K hK=>?_;simp [hN'];refine hK _ ?_;clear hK
     refine wN (hK _ ?_);clear hK
     have h21:=congrArg some (ho10 _ (Option.some.inj h9).symm)
     cases h21
     try dsimp only at h
     cases h
     refine SWp.ret ?_
     simp [aC,iB,res22]
    ·refine SWp.cF' (b:=!r17) (by simp) hb20 ?_
     refine SWp.skip ?_
     show SWp E C _ _ _
     refine SWp.reg rfl (hPB _ rfl) fun K hK=>?_
     iterate 3 (refine wC rfl fun K hK=>?_;simp [hN'];refine hK _ ?_;clear hK)
     refine wN (hK _ ?_);clear hK
     cases h9
     exact ⟨_,[],rfl,by simp [hN']⟩
   ·refine SWp.cF' (b:=decide (i8 < (a1.length:Int))) (by simp) hb13 ?_
    refine SWp.exit ?_
    have h22:=congrArg some (ho10 _ (Option.some.inj h9).symm)
    cases h22
    exact hK6 _ _ [] rfl (by simp [hN'])
  subst hv
  obtain ⟨⟩:=v
  try dsimp only at h ⊢
  refine SWp.sR rfl (hPB _ rfl) fun K hK=>?_
  refine wC rfl fun K hK=>?_;simp [hN'];refine hK _ ?_;clear hK
  refine wN (hK _ ?_);clear hK
  cases h
  refine SWp.ret ?_
  simp [aC,iB,res22]
theorem res100:Tryz.f100.results.toList=[.tmp 4]:=rfl
theorem ent100:aE E.P 100:=eO Tryz.func100 (by simp [Tryz.f100]) rfl
theorem laws_eqParam_ok (a1:GParam) (b2:GParam) {r0:Bool} (h:jA a1 b2=some r0):Ok E 100 [.val (GParam.enc a1),.val (GParam.enc b2)] [vb r0] []:=by
 refine oB (fn:=Tryz.f100) Tryz.func100 rfl (by simp [Tryz.f100]) fun C hN hP=>?_
 have u:∀ l,pinK [] l=true→pinB C.pin l=true:=pO (by rw [hP];rfl)
 have y:C.N=15:=hN
 clear hN
 unfold jA at h
 refine SWp.sR rfl (u _ rfl) fun K q=>?_
 iterate 3 (refine wC rfl fun K q=>?_;simp [y];refine q _ ?_;clear q)
 refine wN (q _ ?_);clear q
 refine SWp.seq ?_
 refine SWp.sR rfl (u _ rfl) fun K q=>?_
 iterate 5 (refine wC rfl fun K q=>?_;simp [y];refine q _ ?_;clear q)
 refine wN (q _ ?_);clear q
 rcases aA h with ⟨hb3,h⟩ | ⟨hb4,h⟩
 ·refine SWp.cT' (b:=!(sEq a1.Name b2.Name)) (by simp) hb3 ?_
  refine SWp.sR rfl (u _ rfl) fun K q=>?_
  refine wC rfl fun K q=>?_;simp [y];refine q _ ?_;clear q
  refine wN (q _ ?_);clear q
  cases h
  refine SWp.ret ?_
  simp [aC,iB,res100]
 ·refine SWp.cF' (b:=!(sEq a1.Name b2.Name)) (by simp) hb4 ?_
  refine SWp.skip ?_
  show SWp E C _ _ _
  refine SWp.seq ?_
  refine SWp.sR rfl (u _ rfl) fun K q=>?_
  iterate 5 (refine wC rfl fun K q=>?_;simp [y];refine q _ ?_;clear q)
  refine wN (q _ ?_);clear q
  rcases aA h with ⟨hb5,h⟩ | ⟨hb6,h⟩
  ·refine SWp.cT' (b:=a1.Typ != b2.Typ) (by simp) hb5 ?_
   refine SWp.sR rfl (u _ rfl) fun K q=>?_
   refine wC rfl fun K q=>?_;simp [y];refine q _ ?_;clear q
   refine wN (q _ ?_);clear q
   cases h
   refine SWp.ret ?_
   simp [aC,iB,res100]
  ·refine SWp.cF' (b:=a1.Typ != b2.Typ) (by simp) hb6 ?_
   refine SWp.skip ?_
   show SWp E C _ _ _
   refine SWp.sR rfl (u _ rfl) fun K q=>?_
   refine wC rfl fun K q=>?_;simp [y];refine q _ ?_;clear q
   refine wN (q _ ?_);clear q
   cases h
   refine SWp.ret ?_
   simp [aC,iB,res100]
theorem res85:Tryz.f85.results.toList=[.tmp 4]:=rfl
theorem ent85:aE E.P 85:=eO Tryz.func85 (by simp [Tryz.f85]) rfl
theorem laws_eqParamS_ok (a1:List GParam) (b2:List GParam) {r0:Bool} (h:iC a1 b2=some r0):Ok E 85 [.val (.sl false 2 (List.map GParam.enc a1)),.val (.sl false 2 (List.map GParam.enc b2))] [vb r0] []:=by
 refine oB (fn:=Tryz.f85) Tryz.func85 rfl (by simp [Tryz.f85]) fun C hN hP=>?_
 have hPB:∀ l,pinK [] l=true→pinB C.pin l=true:=pO (by rw [hP];rfl)
 have hN':C.N=27:=hN
 clear hN
 unfold iC at h
 refine SWp.sR rfl (hPB _ rfl) fun K hK=>?_
 refine wC rfl fun K hK=>?_;simp [hN'];refine hK _ ?_;clear hK
 refine wN (hK _ ?_);clear hK
 refine SWp.seq ?_
 refine SWp.sR rfl (hPB _ rfl) fun K hK=>?_
 iterate 5 (refine wC rfl fun K hK=>?_;simp [hN'];refine hK _ ?_;clear hK)
 refine wN (hK _ ?_);clear hK
 rcases aA h with ⟨hb3,h⟩ | ⟨hb4,h⟩
 ·refine SWp.cT' (b:=(a1.length:Int) != (b2.length:Int)) (by simp) hb3 ?_
  refine SWp.sR rfl (hPB _ rfl) fun K hK=>?_
  refine wC rfl fun K hK=>?_;simp [hN'];refine hK _ ?_;clear hK
  refine wN (hK _ ?_);clear hK
  cases h
  refine SWp.ret ?_
  simp [aC,iB,res85]
 ·refine SWp.cF' (b:=(a1.length:Int) != (b2.length:Int)) (by simp) hb4 ?_
  refine SWp.skip ?_
  show SWp E C _ _ _
  obtain ⟨j7,hj5,h⟩:=bS h
  refine SWp.seqC [] [] (fun v:Unit=>⟨[],[]⟩) (fun v=>j7=Sum.inl v) (fun v hv=>?_) fun K6 hK6=>?_
  rotate_left
  ·refine SWp.sR rfl (hPB _ rfl) fun K hK=>?_
   refine wC rfl fun K hK=>?_;simp [hN'];refine hK _ ?_;clear hK
   refine wN (hK _ ?_);clear hK
   refine SWp.block ?_
   refine SWp.loopO [] [0,1,5] [] (fun v:Int=>⟨[(0,.t (.sl false 2 (List.map GParam.enc a1))),(1,.t (.sl false 2 (List.map GParam.enc b2))),(5,.t (vi v))],[]⟩) (dH a1 b2) _ 0 hj5 (by simp [hN']) ?_
   intro g s11 h9 ho10
   obtain ⟨i8,hg⟩:∃ y,y=g:=⟨_,rfl⟩
   subst hg
   simp only [dH] at h9
   try dsimp only
   refine SWp.seq ?_
   refine SWp.sR rfl (hPB _ rfl) fun K hK=>?_
   iterate 4 (refine wC rfl fun K hK=>?_;simp [hN'];refine hK _ ?_;clear hK)
   refine wN (hK _ ?_);clear hK
   rcases aA h9 with ⟨hb12,h9⟩ | ⟨hb13,h9⟩
   ·refine SWp.cT' (b:=decide (i8 < (a1.length:Int))) (by simp) hb12 ?_
    refine SWp.skip ?_
    show SWp E C _ _ _
    refine SWp.seq ?_
    refine SWp.block ?_
    refine SWp.seq ?_
    obtain ⟨e15,he15,h9⟩:=bS h9
    obtain ⟨he15a,he15b,he15c,he15d⟩:=gS he15
    obtain ⟨e16,he16,h9⟩:=bS h9
    obtain ⟨he16a,he16b,he16c,he16d⟩:=gS he16
    refine SWp.dT rfl (hPB _ rfl) [(17,.t (.sl false 2 (List.map GParam.enc a1))),(18,.t (vi i8)),(19,.rop [vs e15.Name,vi e15.Typ] 0),(20,.t (GParam.enc e15)),(21,.t (.sl false 2 (List.map GParam.enc b2))),(22,.t (vi i8)),(23,.rop [vs e16.Name,vi e16.Typ] 0),(24,.t (GParam.enc e16))] [[],[],[0,1],[0,1,2],[],[],[4,5],[4,5,6],[0,1,2,3,4,5,6,7],[0,1,2,3,4,5,6,7,8]] (by simp) (by simp) (by simp [look]) rfl rfl rfl ?_ fun K hK=>?_
    ·refine ⟨?_,?_,?_,?_,?_,?_,?_,?_,trivial⟩
     all_goals (intro τ hbx hb hd hf K hK;try simp [vsAt] at hd;simp [vsAt] at hf;first | (refine wC rfl fun K' hK'=>?_;simp [hN',hbx,hb,hd,hf,he15a,he15b,he15c,he15d,he16a,he16b,he16c,he16d];exact hK' _ (wN (hK _ (by simp [vsAt,hbx,he15a,he15b,he15c,he15d,he16a,he16b,he16c,he16d])))))
    obtain ⟨r17,hc18,h9⟩:=bS h9
    refine wL [(.take,.tmp 20),(.take,.tmp 24)] rfl rfl ent100 (laws_eqParam_ok _ _ hc18) fun K hK=>?_;simp [hN',he15a,he15b,he15c,he15d,he16a,he16b,he16c,he16d];refine hK _ ?_;clear hK
    refine wC rfl fun K hK=>?_;simp [hN',he15a,he15b,he15c,he15d,he16a,he16b,he16c,he16d];refine hK _ ?_;clear hK
    refine wN (hK _ ?_);clear hK
    show SWp E C _ _ _
    rcases aA h9 with ⟨hb19,h9⟩ | ⟨hb20,h9⟩
    ·refine SWp.cT' (b:=!r17) (by simp) hb19 ?_
     refine SWp.sR rfl (hPB _ rfl) fun K hK=>?_
     refine wC rfl fun K hK=>?_;simp [hN'];refine hK _ ?_;clear hK
     refine wN (hK _ ?_);clear hK
     have h21:=congrArg some (ho10 _ (Option.some.inj h9).symm)
     cases h21
     try dsimp only at h
     cases h
     refine SWp.ret ?_
     simp [aC,iB,res85]
    ·refine SWp.cF' (b:=!r17) (by simp) hb20 ?_
     refine SWp.skip ?_
     show SWp E C _ _ _
     refine SWp.reg rfl (hPB _ rfl) fun K hK=>?_
     iterate 3 (refine wC rfl fun K hK=>?_;simp [hN'];refine hK _ ?_;clear hK)
     refine wN (hK _ ?_);clear hK
     cases h9
     exact ⟨_,[],rfl,by simp [hN']⟩
   ·refine SWp.cF' (b:=decide (i8 < (a1.length:Int))) (by simp) hb13 ?_
    refine SWp.exit ?_
    have h22:=congrArg some (ho10 _ (Option.some.inj h9).symm)
    cases h22
    exact hK6 _ _ [] rfl (by simp [hN'])
  subst hv
  obtain ⟨⟩:=v
  try dsimp only at h ⊢
  refine SWp.sR rfl (hPB _ rfl) fun K hK=>?_
  refine wC rfl fun K hK=>?_;simp [hN'];refine hK _ ?_;clear hK
  refine wN (hK _ ?_);clear hK
  cases h
  refine SWp.ret ?_
  simp [aC,iB,res85]
theorem res52:Tryz.f52.results.toList=[.tmp 4]:=rfl
theorem ent52:aE E.P 52:=eO Tryz.func52 (by simp [Tryz.f52]) rfl
theorem laws_eqFn_ok (a1:GFn) (b2:GFn) {r0:Bool} (h:nY a1 b2=some r0):Ok E 52 [.val (GFn.enc false a1),.val (GFn.enc false b2)] [vb r0] []:=by
 refine oB (fn:=Tryz.f52) Tryz.func52 rfl (by simp [Tryz.f52]) fun C hN hP=>?_
 have u:∀ l,pinK [] l=true→pinB C.pin l=true:=pO (by rw [hP];rfl)
 have y:C.N=31:=hN
 clear hN
 unfold nY at h
 refine SWp.sR rfl (u _ rfl) fun K q=>?_
 iterate 3 (refine wC rfl fun K q=>?_;simp [y];refine q _ ?_;clear q)
 refine wN (q _ ?_);clear q
 refine SWp.seq ?_
 refine SWp.sR rfl (u _ rfl) fun K q=>?_
 iterate 5 (refine wC rfl fun K q=>?_;simp [y];refine q _ ?_;clear q)
 refine wN (q _ ?_);clear q
 rcases aA h with ⟨hb3,h⟩ | ⟨hb4,h⟩
 ·refine SWp.cT' (b:=!(sEq a1.Name b2.Name)) (by simp) hb3 ?_
  refine SWp.sR rfl (u _ rfl) fun K q=>?_
  refine wC rfl fun K q=>?_;simp [y];refine q _ ?_;clear q
  refine wN (q _ ?_);clear q
  cases h
  refine SWp.ret ?_
  simp [aC,iB,res52]
 ·refine SWp.cF' (b:=!(sEq a1.Name b2.Name)) (by simp) hb4 ?_
  refine SWp.skip ?_
  show SWp E C _ _ _
  refine SWp.seq ?_
  refine SWp.sR rfl (u _ rfl) fun K q=>?_
  iterate 4 (refine wC rfl fun K q=>?_;simp [y];refine q _ ?_;clear q)
  obtain ⟨r5,hc6,h⟩:=bS h
  refine wL [(.take,.tmp 11),(.take,.tmp 13)] rfl rfl ent85 (laws_eqParamS_ok _ _ hc6) fun K q=>?_;simp [y];refine q _ ?_;clear q
  refine wC rfl fun K q=>?_;simp [y];refine q _ ?_;clear q
  refine wN (q _ ?_);clear q
  rcases aA h with ⟨hb7,h⟩ | ⟨hb8,h⟩
  ·refine SWp.cT' (b:=!r5) (by simp) hb7 ?_
   refine SWp.sR rfl (u _ rfl) fun K q=>?_
   refine wC rfl fun K q=>?_;simp [y];refine q _ ?_;clear q
   refine wN (q _ ?_);clear q
   cases h
   refine SWp.ret ?_
   simp [aC,iB,res52]
  ·refine SWp.cF' (b:=!r5) (by simp) hb8 ?_
   refine SWp.skip ?_
   show SWp E C _ _ _
   refine SWp.seq ?_
   refine SWp.sR rfl (u _ rfl) fun K q=>?_
   iterate 5 (refine wC rfl fun K q=>?_;simp [y];refine q _ ?_;clear q)
   refine wN (q _ ?_);clear q
   rcases aA h with ⟨hb9,h⟩ | ⟨hb10,h⟩
   ·refine SWp.cT' (b:=a1.Res != b2.Res) (by simp) hb9 ?_
    refine SWp.sR rfl (u _ rfl) fun K q=>?_
    refine wC rfl fun K q=>?_;simp [y];refine q _ ?_;clear q
    refine wN (q _ ?_);clear q
    cases h
    refine SWp.ret ?_
    simp [aC,iB,res52]
   ·refine SWp.cF' (b:=a1.Res != b2.Res) (by simp) hb10 ?_
    refine SWp.skip ?_
    show SWp E C _ _ _
    refine SWp.seq ?_
    refine SWp.sR rfl (u _ rfl) fun K q=>?_
    iterate 5 (refine wC rfl fun K q=>?_;simp [y];refine q _ ?_;clear q)
    refine wN (q _ ?_);clear q
    rcases aA h with ⟨hb11,h⟩ | ⟨hb12,h⟩
    ·refine SWp.cT' (b:=a1.Body != b2.Body) (by simp) hb11 ?_
     refine SWp.sR rfl (u _ rfl) fun K q=>?_
     refine wC rfl fun K q=>?_;simp [y];refine q _ ?_;clear q
     refine wN (q _ ?_);clear q
     cases h
     refine SWp.ret ?_
     simp [aC,iB,res52]
    ·refine SWp.cF' (b:=a1.Body != b2.Body) (by simp) hb12 ?_
     refine SWp.skip ?_
     show SWp E C _ _ _
     refine SWp.seq ?_
     refine SWp.sR rfl (u _ rfl) fun K q=>?_
     iterate 5 (refine wC rfl fun K q=>?_;simp [y];refine q _ ?_;clear q)
     refine wN (q _ ?_);clear q
     rcases aA h with ⟨hb13,h⟩ | ⟨hb14,h⟩
     ·refine SWp.cT' (b:=a1.Ret != b2.Ret) (by simp) hb13 ?_
      refine SWp.sR rfl (u _ rfl) fun K q=>?_
      refine wC rfl fun K q=>?_;simp [y];refine q _ ?_;clear q
      refine wN (q _ ?_);clear q
      cases h
      refine SWp.ret ?_
      simp [aC,iB,res52]
     ·refine SWp.cF' (b:=a1.Ret != b2.Ret) (by simp) hb14 ?_
      refine SWp.skip ?_
      show SWp E C _ _ _
      refine SWp.sR rfl (u _ rfl) fun K q=>?_
      refine wC rfl fun K q=>?_;simp [y];refine q _ ?_;clear q
      refine wN (q _ ?_);clear q
      cases h
      refine SWp.ret ?_
      simp [aC,iB,res52]
theorem res23:Tryz.f23.results.toList=[.tmp 4]:=rfl
theorem ent23:aE E.P 23:=eO Tryz.func23 (by simp [Tryz.f23]) rfl
theorem laws_eqFnS_ok (a1:List GFn) (b2:List GFn) {r0:Bool} (h:mC a1 b2=some r0):Ok E 23 [.val (.sl false 5 (List.map (GFn.enc false) a1)),.val (.sl false 5 (List.map (GFn.enc false) b2))] [vb r0] []:=by
 refine oB (fn:=Tryz.f23) Tryz.func23 rfl (by simp [Tryz.f23]) fun C hN hP=>?_
 have hPB:∀ l,pinK [] l=true→pinB C.pin l=true:=pO (by rw [hP];rfl)
 have hN':C.N=27:=hN
 clear hN
 unfold mC at h
 refine SWp.sR rfl (hPB _ rfl) fun K hK=>?_
 refine wC rfl fun K hK=>?_;simp [hN'];refine hK _ ?_;clear hK
 refine wN (hK _ ?_);clear hK
 refine SWp.seq ?_
 refine SWp.sR rfl (hPB _ rfl) fun K hK=>?_
 iterate 5 (refine wC rfl fun K hK=>?_;simp [hN'];refine hK _ ?_;clear hK)
 refine wN (hK _ ?_);clear hK
 rcases aA h with ⟨hb3,h⟩ | ⟨hb4,h⟩
 ·refine SWp.cT' (b:=(a1.length:Int) != (b2.length:Int)) (by simp) hb3 ?_
  refine SWp.sR rfl (hPB _ rfl) fun K hK=>?_
  refine wC rfl fun K hK=>?_;simp [hN'];refine hK _ ?_;clear hK
  refine wN (hK _ ?_);clear hK
  cases h
  refine SWp.ret ?_
  simp [aC,iB,res23]
 ·refine SWp.cF' (b:=(a1.length:Int) != (b2.length:Int)) (by simp) hb4 ?_
  refine SWp.skip ?_
  show SWp E C _ _ _
  obtain ⟨j7,hj5,h⟩:=bS h
  refine SWp.seqC [] [] (fun v:Unit=>⟨[],[]⟩) (fun v=>j7=Sum.inl v) (fun v hv=>?_) fun K6 hK6=>?_
  rotate_left
  ·refine SWp.sR rfl (hPB _ rfl) fun K hK=>?_
   refine wC rfl fun K hK=>?_;simp [hN'];refine hK _ ?_;clear hK
   refine wN (hK _ ?_);clear hK
   refine SWp.block ?_
   refine SWp.loopO [] [0,1,5] [] (fun v:Int=>⟨[(0,.t (.sl false 5 (List.map (GFn.enc false) a1))),(1,.t (.sl false 5 (List.map (GFn.enc false) b2))),(5,.t (vi v))],[]⟩) (fN a1 b2) _ 0 hj5 (by simp [hN']) ?_
   intro g s11 h9 ho10
   obtain ⟨i8,hg⟩:∃ y,y=g:=⟨_,rfl⟩
   subst hg
   simp only [fN] at h9
   try dsimp only
   refine SWp.seq ?_
   refine SWp.sR rfl (hPB _ rfl) fun K hK=>?_
   iterate 4 (refine wC rfl fun K hK=>?_;simp [hN'];refine hK _ ?_;clear hK)
   refine wN (hK _ ?_);clear hK
   rcases aA h9 with ⟨hb12,h9⟩ | ⟨hb13,h9⟩
   ·refine SWp.cT' (b:=decide (i8 < (a1.length:Int))) (by simp) hb12 ?_
    refine SWp.skip ?_
    show SWp E C _ _ _
    refine SWp.seq ?_
    refine SWp.block ?_
    refine SWp.seq ?_
    obtain ⟨e15,he15,h9⟩:=bS h9
    obtain ⟨he15a,he15b,he15c,he15d⟩:=gS he15
    obtain ⟨e16,he16,h9⟩:=bS h9
    obtain ⟨he16a,he16b,he16c,he16d⟩:=gS he16
    refine SWp.dT rfl (hPB _ rfl) [(17,.t (.sl false 5 (List.map (GFn.enc false) a1))),(18,.t (vi i8)),(19,.rop [vs e15.Name,.sl false 2 (List.map GParam.enc e15.Params),vi e15.Res,vi e15.Body,vi e15.Ret] 0),(20,.t (GFn.enc false e15)),(21,.t (.sl false 5 (List.map (GFn.enc false) b2))),(22,.t (vi i8)),(23,.rop [vs e16.Name,.sl false 2 (List.map GParam.enc e16.Params),vi e16.Res,vi e16.Body,vi e16.Ret] 0),(24,.t (GFn.enc false e16))] [[],[],[0,1],[0,1,2],[],[],[4,5],[4,5,6],[0,1,2,3,4,5,6,7],[0,1,2,3,4,5,6,7,8]] (by simp) (by simp) (by simp [look]) rfl rfl rfl ?_ fun K hK=>?_
    ·refine ⟨?_,?_,?_,?_,?_,?_,?_,?_,trivial⟩
     all_goals (intro τ hbx hb hd hf K hK;try simp [vsAt] at hd;simp [vsAt] at hf;first | (refine wC rfl fun K' hK'=>?_;simp [hN',hbx,hb,hd,hf,he15a,he15b,he15c,he15d,he16a,he16b,he16c,he16d];exact hK' _ (wN (hK _ (by simp [vsAt,hbx,he15a,he15b,he15c,he15d,he16a,he16b,he16c,he16d])))))
    obtain ⟨r17,hc18,h9⟩:=bS h9
    refine wL [(.take,.tmp 20),(.take,.tmp 24)] rfl rfl ent52 (laws_eqFn_ok _ _ hc18) fun K hK=>?_;simp [hN',he15a,he15b,he15c,he15d,he16a,he16b,he16c,he16d];refine hK _ ?_;clear hK
    refine wC rfl fun K hK=>?_;simp [hN',he15a,he15b,he15c,he15d,he16a,he16b,he16c,he16d];refine hK _ ?_;clear hK
    refine wN (hK _ ?_);clear hK
    show SWp E C _ _ _
    rcases aA h9 with ⟨hb19,h9⟩ | ⟨hb20,h9⟩
    ·refine SWp.cT' (b:=!r17) (by simp) hb19 ?_
     refine SWp.sR rfl (hPB _ rfl) fun K hK=>?_
     refine wC rfl fun K hK=>?_;simp [hN'];refine hK _ ?_;clear hK
     refine wN (hK _ ?_);clear hK
     have h21:=congrArg some (ho10 _ (Option.some.inj h9).symm)
     cases h21
     try dsimp only at h
     cases h
     refine SWp.ret ?_
     simp [aC,iB,res23]
    ·refine SWp.cF' (b:=!r17) (by simp) hb20 ?_
     refine SWp.skip ?_
     show SWp E C _ _ _
     refine SWp.reg rfl (hPB _ rfl) fun K hK=>?_
     iterate 3 (refine wC rfl fun K hK=>?_;simp [hN'];refine hK _ ?_;clear hK)
     refine wN (hK _ ?_);clear hK
     cases h9
     exact ⟨_,[],rfl,by simp [hN']⟩
   ·refine SWp.cF' (b:=decide (i8 < (a1.length:Int))) (by simp) hb13 ?_
    refine SWp.exit ?_
    have h22:=congrArg some (ho10 _ (Option.some.inj h9).symm)
    cases h22
    exact hK6 _ _ [] rfl (by simp [hN'])
  subst hv
  obtain ⟨⟩:=v
  try dsimp only at h ⊢
  refine SWp.sR rfl (hPB _ rfl) fun K hK=>?_
  refine wC rfl fun K hK=>?_;simp [hN'];refine hK _ ?_;clear hK
  refine wN (hK _ ?_);clear hK
  cases h
  refine SWp.ret ?_
  simp [aC,iB,res23]
theorem res9:Tryz.f9.results.toList=[.tmp 4]:=rfl
theorem ent9:aE E.P 9:=eO Tryz.func9 (by simp [Tryz.f9]) rfl
theorem fM (a1:GProgram) (b2:GProgram) {r0:Bool} (h:cG a1 b2=some r0):Ok E 9 [.val (GProgram.enc false a1),.val (GProgram.enc false b2)] [vb r0] []:=by
 refine oB (fn:=Tryz.f9) Tryz.func9 rfl (by simp [Tryz.f9]) fun C hN hP=>?_
 have u:∀ l,pinK [] l=true→pinB C.pin l=true:=pO (by rw [hP];rfl)
 have y:C.N=17:=hN
 clear hN
 unfold cG at h
 refine SWp.sR rfl (u _ rfl) fun K q=>?_
 iterate 3 (refine wC rfl fun K q=>?_;simp [y];refine q _ ?_;clear q)
 refine wN (q _ ?_);clear q
 refine SWp.seq ?_
 refine SWp.sR rfl (u _ rfl) fun K q=>?_
 iterate 4 (refine wC rfl fun K q=>?_;simp [y];refine q _ ?_;clear q)
 obtain ⟨r3,hc4,h⟩:=bS h
 refine wL [(.take,.tmp 6),(.take,.tmp 8)] rfl rfl ent22 (laws_eqNodeS_ok _ _ hc4) fun K q=>?_;simp [y];refine q _ ?_;clear q
 refine wC rfl fun K q=>?_;simp [y];refine q _ ?_;clear q
 refine wN (q _ ?_);clear q
 rcases aA h with ⟨hb5,h⟩ | ⟨hb6,h⟩
 ·refine SWp.cT' (b:=!r3) (by simp) hb5 ?_
  refine SWp.sR rfl (u _ rfl) fun K q=>?_
  refine wC rfl fun K q=>?_;simp [y];refine q _ ?_;clear q
  refine wN (q _ ?_);clear q
  cases h
  refine SWp.ret ?_
  simp [aC,iB,res9]
 ·refine SWp.cF' (b:=!r3) (by simp) hb6 ?_
  refine SWp.skip ?_
  show SWp E C _ _ _
  refine SWp.seq ?_
  refine SWp.sR rfl (u _ rfl) fun K q=>?_
  iterate 4 (refine wC rfl fun K q=>?_;simp [y];refine q _ ?_;clear q)
  obtain ⟨r7,hc8,h⟩:=bS h
  refine wL [(.take,.tmp 12),(.take,.tmp 14)] rfl rfl ent23 (laws_eqFnS_ok _ _ hc8) fun K q=>?_;simp [y];refine q _ ?_;clear q
  refine wC rfl fun K q=>?_;simp [y];refine q _ ?_;clear q
  refine wN (q _ ?_);clear q
  rcases aA h with ⟨hb9,h⟩ | ⟨hb10,h⟩
  ·refine SWp.cT' (b:=!r7) (by simp) hb9 ?_
   refine SWp.sR rfl (u _ rfl) fun K q=>?_
   refine wC rfl fun K q=>?_;simp [y];refine q _ ?_;clear q
   refine wN (q _ ?_);clear q
   cases h
   refine SWp.ret ?_
   simp [aC,iB,res9]
  ·refine SWp.cF' (b:=!r7) (by simp) hb10 ?_
   refine SWp.skip ?_
   show SWp E C _ _ _
   refine SWp.sR rfl (u _ rfl) fun K q=>?_
   refine wC rfl fun K q=>?_;simp [y];refine q _ ?_;clear q
   refine wN (q _ ?_);clear q
   cases h
   refine SWp.ret ?_
   simp [aC,iB,res9]
theorem res53:Tryz.f53.results.toList=[.tmp 6]:=rfl
theorem mW:aE E.P 53:=eO Tryz.func53 (by simp [Tryz.f53]) rfl
theorem aK (x1:Int) (least2:Int) (most3:Int) {r0:Bool} (h:aP x1 least2 most3=some r0):Ok E 53 [.val (vi x1),.val (vi least2),.val (vi most3)] [vb r0] []:=by
 refine oB (fn:=Tryz.f53) Tryz.func53 rfl (by simp [Tryz.f53]) fun C hN hP=>?_
 have u:∀ l,pinK [] l=true→pinB C.pin l=true:=pO (by rw [hP];rfl)
 have y:C.N=15:=hN
 clear hN
 unfold aP at h
 refine SWp.sR rfl (u _ rfl) fun K q=>?_
 refine wC rfl fun K q=>?_;simp [y];refine q _ ?_;clear q
 refine wN (q _ ?_);clear q
 obtain ⟨v8,hj4,h⟩:=bS h
 refine SWp.seqRC rfl (u _ rfl) [6] [] (fun _:Unit=>⟨[(6,.t (vb v8))],[]⟩) (fun _=>True) (fun _ _=>?_) fun K5 hK5=>?_
 rotate_left
 ·refine wC rfl fun K q=>?_;simp [y];refine q _ ?_;clear q
  iterate 3 (refine wC rfl fun K q=>?_;simp [y];refine q _ ?_;clear q)
  rcases aA hj4 with ⟨hb6,hj4⟩ | ⟨hb7,hj4⟩
  ·have hb6s:=hb6
   try simp at hb6s
   iterate 5 (refine wC rfl fun K q=>?_;simp [y,hb6,hb6s];refine q _ ?_;clear q)
   refine wN ?_
   cases hj4
   exact hK5 _ () [] trivial (by simp [y,hb6,hb6s])
  ·have hb7s:=hb7
   try simp at hb7s
   iterate 3 (refine wO fun K q=>?_;simp [y,hb7,hb7s];refine q _ ?_;clear q)
   iterate 2 (refine wC rfl fun K q=>?_;simp [y,hb7,hb7s];refine q _ ?_;clear q)
   refine wN ?_
   cases hj4
   exact hK5 _ () [] trivial (by simp [y,hb7,hb7s])
 cases h
 refine SWp.ret ?_
 simp [aC,iB,res53]
theorem res104:Tryz.f104.results.toList=[.tmp 2]:=rfl
theorem ent104:aE E.P 104:=eO Tryz.func104 (by simp [Tryz.f104]) rfl
theorem lS (b1:Int) {r0:Bool} (h:eM b1=some r0):Ok E 104 [.val (vk .u8 b1)] [vb r0] []:=by
 refine oB (fn:=Tryz.f104) Tryz.func104 rfl (by simp [Tryz.f104]) fun C hN hP=>?_
 have u:∀ l,pinK [] l=true→pinB C.pin l=true:=pO (by rw [hP];rfl)
 have y:C.N=9:=hN
 clear hN
 unfold eM at h
 refine SWp.sR rfl (u _ rfl) fun K q=>?_
 refine wC rfl fun K q=>?_;simp [y];refine q _ ?_;clear q
 refine wN (q _ ?_);clear q
 obtain ⟨v6,hj2,h⟩:=bS h
 refine SWp.seqRC rfl (u _ rfl) [2] [] (fun _:Unit=>⟨[(2,.t (vb v6))],[]⟩) (fun _=>True) (fun _ _=>?_) fun K3 hK3=>?_
 rotate_left
 ·refine wC rfl fun K q=>?_;simp [y];refine q _ ?_;clear q
  iterate 2 (refine wC rfl fun K q=>?_;simp [y];refine q _ ?_;clear q)
  rcases aA hj2 with ⟨hb4,hj2⟩ | ⟨hb5,hj2⟩
  ·have hb4s:=hb4
   try simp at hb4s
   iterate 4 (refine wC rfl fun K q=>?_;simp [y,hb4,hb4s];refine q _ ?_;clear q)
   refine wN ?_
   cases hj2
   exact hK3 _ () [] trivial (by simp [y,hb4,hb4s])
  ·have hb5s:=hb5
   try simp at hb5s
   iterate 2 (refine wO fun K q=>?_;simp [y,hb5,hb5s];refine q _ ?_;clear q)
   iterate 2 (refine wC rfl fun K q=>?_;simp [y,hb5,hb5s];refine q _ ?_;clear q)
   refine wN ?_
   cases hj2
   exact hK3 _ () [] trivial (by simp [y,hb5,hb5s])
 cases h
 refine SWp.ret ?_
 simp [aC,iB,res104]
theorem res115:Tryz.f115.results.toList=[.tmp 0]:=rfl
theorem ent115:aE E.P 115:=eO Tryz.func115 (by simp [Tryz.f115]) rfl
theorem spec_l03Keys_ok {r0:List ByteArray} (h:kZ=some r0):Ok E 115 [] [.sl true 1 (List.map vs r0)] []:=by
 refine oB (fn:=Tryz.f115) Tryz.func115 rfl (by simp [Tryz.f115]) fun C hN hP=>?_
 have u:∀ l,pinK [] l=true→pinB C.pin l=true:=pO (by rw [hP];rfl)
 have y:C.N=2:=hN
 clear hN
 unfold kZ at h
 refine SWp.sR rfl (u _ rfl) fun K q=>?_
 refine wC rfl fun K q=>?_;simp [y];refine q _ ?_;clear q
 refine wN (q _ ?_);clear q
 refine SWp.sR rfl (u _ rfl) fun K q=>?_
 iterate 2 (refine wC rfl fun K q=>?_;simp [y];refine q _ ?_;clear q)
 refine wN (q _ ?_);clear q
 cases h
 refine SWp.ret ?_
 simp [aC,iB,res115]
theorem res105:Tryz.f105.results.toList=[.tmp 2]:=rfl
theorem ent105:aE E.P 105:=eO Tryz.func105 (by simp [Tryz.f105]) rfl
theorem spec_KeyWord_ok (s1:ByteArray) {r0:Bool} (h:iR s1=some r0):Ok E 105 [.val (vs s1)] [vb r0] []:=by
 refine oB (fn:=Tryz.f105) Tryz.func105 rfl (by simp [Tryz.f105]) fun C hN hP=>?_
 have hPB:∀ l,pinK [] l=true→pinB C.pin l=true:=pO (by rw [hP];rfl)
 have hN':C.N=18:=hN
 clear hN
 unfold iR at h
 refine SWp.sR rfl (hPB _ rfl) fun K hK=>?_
 refine wC rfl fun K hK=>?_;simp [hN'];refine hK _ ?_;clear hK
 refine wN (hK _ ?_);clear hK
 refine SWp.sR rfl (hPB _ rfl) fun K hK=>?_
 obtain ⟨r2,hc3,h⟩:=bS h
 refine wL [] rfl rfl ent115 (spec_l03Keys_ok hc3) fun K hK=>?_;simp [hN'];refine hK _ ?_;clear hK
 refine wC rfl fun K hK=>?_;simp [hN'];refine hK _ ?_;clear hK
 refine wN (hK _ ?_);clear hK
 obtain ⟨j6,hj4,h⟩:=bS h
 refine SWp.seqC [] [] (fun v:Unit=>⟨[],[]⟩) (fun v=>j6=Sum.inl v) (fun v hv=>?_) fun K5 hK5=>?_
 rotate_left
 ·refine SWp.sR rfl (hPB _ rfl) fun K hK=>?_
  refine wC rfl fun K hK=>?_;simp [hN'];refine hK _ ?_;clear hK
  refine wN (hK _ ?_);clear hK
  refine SWp.block ?_
  refine SWp.loopO [] [0,3,4] [] (fun v:Int=>⟨[(0,.t (vs s1)),(3,.t (.sl true 1 (List.map vs r2))),(4,.t (vi v))],[]⟩) (fB s1 r2) _ 0 hj4 (by simp [hN']) ?_
  intro g s10 h8 ho9
  obtain ⟨i7,hg⟩:∃ y,y=g:=⟨_,rfl⟩
  subst hg
  simp only [fB] at h8
  try dsimp only
  refine SWp.seq ?_
  refine SWp.sR rfl (hPB _ rfl) fun K hK=>?_
  iterate 4 (refine wC rfl fun K hK=>?_;simp [hN'];refine hK _ ?_;clear hK)
  refine wN (hK _ ?_);clear hK
  rcases aA h8 with ⟨hb11,h8⟩ | ⟨hb12,h8⟩
  ·refine SWp.cT' (b:=decide (i7 < (r2.length:Int))) (by simp) hb11 ?_
   refine SWp.skip ?_
   show SWp E C _ _ _
   refine SWp.seq ?_
   refine SWp.block ?_
   refine SWp.sR rfl (hPB _ rfl) fun K hK=>?_
   iterate 2 (refine wC rfl fun K hK=>?_;simp [hN'];refine hK _ ?_;clear hK)
   obtain ⟨e13,he13,h8⟩:=bS h8
   obtain ⟨he13a,he13b,he13c,he13d⟩:=gS he13
   iterate 4 (refine wC rfl fun K hK=>?_;simp [hN',he13a,he13b,he13c,he13d];refine hK _ ?_;clear hK)
   refine wN (hK _ ?_);clear hK
   rcases aA h8 with ⟨hb14,h8⟩ | ⟨hb15,h8⟩
   ·refine SWp.cT' (b:=sEq e13 s1) (by simp) hb14 ?_
    refine SWp.sR rfl (hPB _ rfl) fun K hK=>?_
    refine wC rfl fun K hK=>?_;simp [hN'];refine hK _ ?_;clear hK
    refine wN (hK _ ?_);clear hK
    have h16:=congrArg some (ho9 _ (Option.some.inj h8).symm)
    cases h16
    try dsimp only at h
    cases h
    refine SWp.ret ?_
    simp [aC,iB,res105]
   ·refine SWp.cF' (b:=sEq e13 s1) (by simp) hb15 ?_
    refine SWp.skip ?_
    show SWp E C _ _ _
    refine SWp.reg rfl (hPB _ rfl) fun K hK=>?_
    iterate 3 (refine wC rfl fun K hK=>?_;simp [hN'];refine hK _ ?_;clear hK)
    refine wN (hK _ ?_);clear hK
    cases h8
    exact ⟨_,[],rfl,by simp [hN']⟩
  ·refine SWp.cF' (b:=decide (i7 < (r2.length:Int))) (by simp) hb12 ?_
   refine SWp.exit ?_
   have h17:=congrArg some (ho9 _ (Option.some.inj h8).symm)
   cases h17
   exact hK5 _ _ [] rfl (by simp [hN'])
 subst hv
 obtain ⟨⟩:=v
 try dsimp only at h ⊢
 refine SWp.sR rfl (hPB _ rfl) fun K hK=>?_
 refine wC rfl fun K hK=>?_;simp [hN'];refine hK _ ?_;clear hK
 refine wN (hK _ ?_);clear hK
 cases h
 refine SWp.ret ?_
 simp [aC,iB,res105]
theorem res106:Tryz.f106.results.toList=[.tmp 2]:=rfl
theorem ent106:aE E.P 106:=eO Tryz.func106 (by simp [Tryz.f106]) rfl
theorem spec_l03Figure_ok (b1:Int) {r0:Bool} (h:fV b1=some r0):Ok E 106 [.val (vk .u8 b1)] [vb r0] []:=by
 refine oB (fn:=Tryz.f106) Tryz.func106 rfl (by simp [Tryz.f106]) fun C hN hP=>?_
 have u:∀ l,pinK [] l=true→pinB C.pin l=true:=pO (by rw [hP];rfl)
 have y:C.N=9:=hN
 clear hN
 unfold fV at h
 refine SWp.sR rfl (u _ rfl) fun K q=>?_
 refine wC rfl fun K q=>?_;simp [y];refine q _ ?_;clear q
 refine wN (q _ ?_);clear q
 obtain ⟨v6,hj2,h⟩:=bS h
 refine SWp.seqRC rfl (u _ rfl) [2] [] (fun _:Unit=>⟨[(2,.t (vb v6))],[]⟩) (fun _=>True) (fun _ _=>?_) fun K3 hK3=>?_
 rotate_left
 ·refine wC rfl fun K q=>?_;simp [y];refine q _ ?_;clear q
  iterate 2 (refine wC rfl fun K q=>?_;simp [y];refine q _ ?_;clear q)
  rcases aA hj2 with ⟨hb4,hj2⟩ | ⟨hb5,hj2⟩
  ·have hb4s:=hb4
   try simp at hb4s
   iterate 4 (refine wC rfl fun K q=>?_;simp [y,hb4,hb4s];refine q _ ?_;clear q)
   refine wN ?_
   cases hj2
   exact hK3 _ () [] trivial (by simp [y,hb4,hb4s])
  ·have hb5s:=hb5
   try simp at hb5s
   iterate 2 (refine wO fun K q=>?_;simp [y,hb5,hb5s];refine q _ ?_;clear q)
   iterate 2 (refine wC rfl fun K q=>?_;simp [y,hb5,hb5s];refine q _ ?_;clear q)
   refine wN ?_
   cases hj2
   exact hK3 _ () [] trivial (by simp [y,hb5,hb5s])
 cases h
 refine SWp.ret ?_
 simp [aC,iB,res106]
theorem res87:Tryz.f87.results.toList=[.tmp 2]:=rfl
theorem ent87:aE E.P 87:=eO Tryz.func87 (by simp [Tryz.f87]) rfl
theorem lJ (s1:ByteArray) {r0:Bool} (h:gH s1=some r0):Ok E 87 [.val (vs s1)] [vb r0] []:=by
 refine oB (fn:=Tryz.f87) Tryz.func87 rfl (by simp [Tryz.f87]) fun C hN hP=>?_
 have hPB:∀ l,pinK [] l=true→pinB C.pin l=true:=pO (by rw [hP];rfl)
 have hN':C.N=36:=hN
 clear hN
 unfold gH at h
 refine SWp.sR rfl (hPB _ rfl) fun K hK=>?_
 refine wC rfl fun K hK=>?_;simp [hN'];refine hK _ ?_;clear hK
 refine wN (hK _ ?_);clear hK
 refine SWp.seq ?_
 obtain ⟨v15,hj2,h⟩:=bS h
 refine SWp.seqRC rfl (hPB _ rfl) [0,17] [] (fun _:Unit=>⟨[(0,.t (vs s1)),(17,.t (vb v15))],[]⟩) (fun _=>True) (fun _ _=>?_) fun K3 hK3=>?_
 rotate_left
 ·refine wC rfl fun K hK=>?_;simp [hN'];refine hK _ ?_;clear hK
  refine wC rfl fun K hK=>?_;simp [hN'];refine hK _ ?_;clear hK
  obtain ⟨r4,hc5,hj2⟩:=bS hj2
  refine wL [(.take,.tmp 5),(.take,.const (.int .i64 1)),(.take,.const (.int .i64 8))] rfl rfl mW (aK _ _ _ hc5) fun K hK=>?_;simp [hN'];refine hK _ ?_;clear hK
  iterate 2 (refine wC rfl fun K hK=>?_;simp [hN'];refine hK _ ?_;clear hK)
  rcases aA hj2 with ⟨hb6,hj2⟩ | ⟨hb7,hj2⟩
  ·have hb6s:=hb6
   try simp at hb6s
   iterate 4 (refine wO fun K hK=>?_;simp [hN',hb6,hb6s];refine hK _ ?_;clear hK)
   iterate 2 (refine wC rfl fun K hK=>?_;simp [hN',hb6,hb6s];refine hK _ ?_;clear hK)
   iterate 2 (refine wO fun K hK=>?_;simp [hN',hb6,hb6s];refine hK _ ?_;clear hK)
   refine wC rfl fun K hK=>?_;simp [hN',hb6,hb6s];refine hK _ ?_;clear hK
   refine wN ?_
   cases hj2
   exact hK3 _ () [] trivial (by simp [hN',hb6,hb6s])
  ·have hb7s:=hb7
   try simp at hb7s
   refine wC rfl fun K hK=>?_;simp [hN',hb7,hb7s];refine hK _ ?_;clear hK
   obtain ⟨c8,hc8,hj2⟩:=bS hj2
   obtain ⟨hc8a,hc8b,hc8c⟩:=sAt_some hc8
   have hc8e:0 < s1.size:=by omega
   refine wC rfl fun K hK=>?_;simp [hN',hb7,hb7s,hc8a,hc8b,hc8c,hc8e];refine hK _ ?_;clear hK
   obtain ⟨r9,hc10,hj2⟩:=bS hj2
   refine wL [(.take,.tmp 10)] rfl rfl ent104 (lS _ hc10) fun K hK=>?_;simp [hN',hb7,hb7s,hc8a,hc8b,hc8c,hc8e];refine hK _ ?_;clear hK
   iterate 3 (refine wC rfl fun K hK=>?_;simp [hN',hb7,hb7s,hc8a,hc8b,hc8c,hc8e];refine hK _ ?_;clear hK)
   rcases aA hj2 with ⟨hb11,hj2⟩ | ⟨hb12,hj2⟩
   ·have hb11s:=hb11
    try simp at hb11s
    iterate 2 (refine wO fun K hK=>?_;simp [hN',hb7,hb7s,hc8a,hc8b,hc8c,hc8e,hb11,hb11s];refine hK _ ?_;clear hK)
    refine wC rfl fun K hK=>?_;simp [hN',hb7,hb7s,hc8a,hc8b,hc8c,hc8e,hb11,hb11s];refine hK _ ?_;clear hK
    refine wN ?_
    cases hj2
    exact hK3 _ () [] trivial (by simp [hN',hb7,hb7s,hc8a,hc8b,hc8c,hc8e,hb11,hb11s])
   ·have hb12s:=hb12
    try simp at hb12s
    refine wC rfl fun K hK=>?_;simp [hN',hb7,hb7s,hc8a,hc8b,hc8c,hc8e,hb12,hb12s];refine hK _ ?_;clear hK
    obtain ⟨r13,hc14,hj2⟩:=bS hj2
    refine wL [(.take,.tmp 15)] rfl rfl ent105 (spec_KeyWord_ok _ hc14) fun K hK=>?_;simp [hN',hb7,hb7s,hc8a,hc8b,hc8c,hc8e,hb12,hb12s];refine hK _ ?_;clear hK
    refine wC rfl fun K hK=>?_;simp [hN',hb7,hb7s,hc8a,hc8b,hc8c,hc8e,hb12,hb12s];refine hK _ ?_;clear hK
    refine wN ?_
    cases hj2
    exact hK3 _ () [] trivial (by simp [hN',hb7,hb7s,hc8a,hc8b,hc8c,hc8e,hb12,hb12s])
 rcases aA h with ⟨hb16,h⟩ | ⟨hb17,h⟩
 ·refine SWp.cT' (b:=v15) (by simp) hb16 ?_
  refine SWp.sR rfl (hPB _ rfl) fun K hK=>?_
  refine wC rfl fun K hK=>?_;simp [hN'];refine hK _ ?_;clear hK
  refine wN (hK _ ?_);clear hK
  cases h
  refine SWp.ret ?_
  simp [aC,iB,res87]
 ·refine SWp.cF' (b:=v15) (by simp) hb17 ?_
  refine SWp.skip ?_
  show SWp E C _ _ _
  obtain ⟨j20,hj18,h⟩:=bS h
  refine SWp.seqC [] [] (fun v:Unit=>⟨[],[]⟩) (fun v=>j20=Sum.inl v) (fun v hv=>?_) fun K19 hK19=>?_
  rotate_left
  ·refine SWp.sR rfl (hPB _ rfl) fun K hK=>?_
   refine wC rfl fun K hK=>?_;simp [hN'];refine hK _ ?_;clear hK
   refine wN (hK _ ?_);clear hK
   refine SWp.block ?_
   refine SWp.loopO [] [0,3] [] (fun v:Int=>⟨[(0,.t (vs s1)),(3,.t (vi v))],[]⟩) (eQ s1) _ 0 hj18 (by simp [hN']) ?_
   intro g s24 h22 ho23
   obtain ⟨i21,hg⟩:∃ y,y=g:=⟨_,rfl⟩
   subst hg
   simp only [eQ] at h22
   try dsimp only
   refine SWp.seq ?_
   refine SWp.sR rfl (hPB _ rfl) fun K hK=>?_
   iterate 4 (refine wC rfl fun K hK=>?_;simp [hN'];refine hK _ ?_;clear hK)
   refine wN (hK _ ?_);clear hK
   rcases aA h22 with ⟨hb25,h22⟩ | ⟨hb26,h22⟩
   ·refine SWp.cT' (b:=decide (i21 < (s1.size:Int))) (by simp) hb25 ?_
    refine SWp.skip ?_
    show SWp E C _ _ _
    refine SWp.seq ?_
    refine SWp.block ?_
    obtain ⟨v36,hj27,h22⟩:=bS h22
    refine SWp.seqRC rfl (hPB _ rfl) [0,3,35] [] (fun _:Unit=>⟨[(0,.t (vs s1)),(3,.t (vi i21)),(35,.t (vb v36))],[]⟩) (fun _=>True) (fun _ _=>?_) fun K28 hK28=>?_
    rotate_left
    ·refine wC rfl fun K hK=>?_;simp [hN'];refine hK _ ?_;clear hK
     refine wC rfl fun K hK=>?_;simp [hN'];refine hK _ ?_;clear hK
     obtain ⟨c29,hc29,hj27⟩:=bS hj27
     obtain ⟨hc29a,hc29b,hc29c⟩:=sAt_some hc29
     refine wC rfl fun K hK=>?_;simp [hN',hc29a,hc29b,hc29c];refine hK _ ?_;clear hK
     obtain ⟨r30,hc31,hj27⟩:=bS hj27
     refine wL [(.take,.tmp 26)] rfl rfl ent104 (lS _ hc31) fun K hK=>?_;simp [hN',hc29a,hc29b,hc29c];refine hK _ ?_;clear hK
     iterate 2 (refine wC rfl fun K hK=>?_;simp [hN',hc29a,hc29b,hc29c];refine hK _ ?_;clear hK)
     rcases aA hj27 with ⟨hb32,hj27⟩ | ⟨hb33,hj27⟩
     ·have hb32s:=hb32
      try simp at hb32s
      iterate 3 (refine wC rfl fun K hK=>?_;simp [hN',hc29a,hc29b,hc29c,hb32,hb32s];refine hK _ ?_;clear hK)
      obtain ⟨r34,hc35,hj27⟩:=bS hj27
      refine wL [(.take,.tmp 32)] rfl rfl ent106 (spec_l03Figure_ok _ hc35) fun K hK=>?_;simp [hN',hc29a,hc29b,hc29c,hb32,hb32s];refine hK _ ?_;clear hK
      iterate 2 (refine wC rfl fun K hK=>?_;simp [hN',hc29a,hc29b,hc29c,hb32,hb32s];refine hK _ ?_;clear hK)
      refine wN ?_
      cases hj27
      exact hK28 _ () [] trivial (by simp [hN',hc29a,hc29b,hc29c,hb32,hb32s])
     ·have hb33s:=hb33
      try simp at hb33s
      iterate 5 (refine wO fun K hK=>?_;simp [hN',hc29a,hc29b,hc29c,hb33,hb33s];refine hK _ ?_;clear hK)
      refine wC rfl fun K hK=>?_;simp [hN',hc29a,hc29b,hc29c,hb33,hb33s];refine hK _ ?_;clear hK
      refine wN ?_
      cases hj27
      exact hK28 _ () [] trivial (by simp [hN',hc29a,hc29b,hc29c,hb33,hb33s])
    rcases aA h22 with ⟨hb37,h22⟩ | ⟨hb38,h22⟩
    ·refine SWp.cT' (b:=v36) (by simp) hb37 ?_
     refine SWp.sR rfl (hPB _ rfl) fun K hK=>?_
     refine wC rfl fun K hK=>?_;simp [hN'];refine hK _ ?_;clear hK
     refine wN (hK _ ?_);clear hK
     have h39:=congrArg some (ho23 _ (Option.some.inj h22).symm)
     cases h39
     try dsimp only at h
     cases h
     refine SWp.ret ?_
     simp [aC,iB,res87]
    ·refine SWp.cF' (b:=v36) (by simp) hb38 ?_
     refine SWp.skip ?_
     show SWp E C _ _ _
     refine SWp.reg rfl (hPB _ rfl) fun K hK=>?_
     iterate 3 (refine wC rfl fun K hK=>?_;simp [hN'];refine hK _ ?_;clear hK)
     refine wN (hK _ ?_);clear hK
     cases h22
     exact ⟨_,[],rfl,by simp [hN']⟩
   ·refine SWp.cF' (b:=decide (i21 < (s1.size:Int))) (by simp) hb26 ?_
    refine SWp.exit ?_
    have h40:=congrArg some (ho23 _ (Option.some.inj h22).symm)
    cases h40
    exact hK19 _ _ [] rfl (by simp [hN'])
  subst hv
  obtain ⟨⟩:=v
  try dsimp only at h ⊢
  refine SWp.sR rfl (hPB _ rfl) fun K hK=>?_
  refine wC rfl fun K hK=>?_;simp [hN'];refine hK _ ?_;clear hK
  refine wN (hK _ ?_);clear hK
  cases h
  refine SWp.ret ?_
  simp [aC,iB,res87]
theorem res101:Tryz.f101.results.toList=[.tmp 2,.tmp 3]:=rfl
theorem ent101:aE E.P 101:=eO Tryz.func101 (by simp [Tryz.f101]) rfl
theorem spec_l04Kids_ok (kind1:Int) {r0:Int} {r1:Int} (h:iP kind1=some (r0,r1)):Ok E 101 [.val (vi kind1)] [vi r0,vi r1] []:=by
 refine oB (fn:=Tryz.f101) Tryz.func101 rfl (by simp [Tryz.f101]) fun C hN hP=>?_
 have u:∀ l,pinK [] l=true→pinB C.pin l=true:=pO (by rw [hP];rfl)
 have y:C.N=23:=hN
 clear hN
 unfold iP at h
 refine SWp.sR rfl (u _ rfl) fun K q=>?_
 iterate 2 (refine wC rfl fun K q=>?_;simp [y];refine q _ ?_;clear q)
 refine wN (q _ ?_);clear q
 refine SWp.seq ?_
 refine SWp.sR rfl (u _ rfl) fun K q=>?_
 refine wC rfl fun K q=>?_;simp [y];refine q _ ?_;clear q
 refine wN (q _ ?_);clear q
 refine SWp.block ?_
 obtain ⟨v15,hj2,h⟩:=bS h
 refine SWp.seqC [4,5] [] (fun _:Unit=>⟨[(4,.t (vi kind1)),(5,.t (vb v15))],[]⟩) (fun _=>True) (fun _ _=>?_) fun K3 hK3=>?_
 rotate_left
 ·refine SWp.sR rfl (u _ rfl) fun K q=>?_
  iterate 2 (refine wC rfl fun K q=>?_;simp [y];refine q _ ?_;clear q)
  refine wN (q _ ?_);clear q
  rcases aA hj2 with ⟨hb5,hj2⟩ | ⟨hb6,hj2⟩
  ·refine SWp.cT' (b:=kind1 == 8) (by simp) hb5 ?_
   refine SWp.skip ?_
   cases hj2
   exact hK3 _ () [] trivial (by simp [y])
  ·refine SWp.cF' (b:=kind1 == 8) (by simp) hb6 ?_
   refine SWp.sR rfl (u _ rfl) fun K q=>?_
   iterate 2 (refine wC rfl fun K q=>?_;simp [y];refine q _ ?_;clear q)
   refine wN (q _ ?_);clear q
   rcases aA hj2 with ⟨hb7,hj2⟩ | ⟨hb8,hj2⟩
   ·refine SWp.cT' (b:=kind1 == 13) (by simp) hb7 ?_
    refine SWp.skip ?_
    cases hj2
    exact hK3 _ () [] trivial (by simp [y])
   ·refine SWp.cF' (b:=kind1 == 13) (by simp) hb8 ?_
    refine SWp.sR rfl (u _ rfl) fun K q=>?_
    iterate 2 (refine wC rfl fun K q=>?_;simp [y];refine q _ ?_;clear q)
    refine wN (q _ ?_);clear q
    rcases aA hj2 with ⟨hb9,hj2⟩ | ⟨hb10,hj2⟩
    ·refine SWp.cT' (b:=kind1 == 14) (by simp) hb9 ?_
     refine SWp.skip ?_
     cases hj2
     exact hK3 _ () [] trivial (by simp [y])
    ·refine SWp.cF' (b:=kind1 == 14) (by simp) hb10 ?_
     refine SWp.sR rfl (u _ rfl) fun K q=>?_
     iterate 2 (refine wC rfl fun K q=>?_;simp [y];refine q _ ?_;clear q)
     refine wN (q _ ?_);clear q
     rcases aA hj2 with ⟨hb11,hj2⟩ | ⟨hb12,hj2⟩
     ·refine SWp.cT' (b:=kind1 == 15) (by simp) hb11 ?_
      refine SWp.skip ?_
      cases hj2
      exact hK3 _ () [] trivial (by simp [y])
     ·refine SWp.cF' (b:=kind1 == 15) (by simp) hb12 ?_
      refine SWp.sR rfl (u _ rfl) fun K q=>?_
      iterate 2 (refine wC rfl fun K q=>?_;simp [y];refine q _ ?_;clear q)
      refine wN (q _ ?_);clear q
      rcases aA hj2 with ⟨hb13,hj2⟩ | ⟨hb14,hj2⟩
      ·refine SWp.cT' (b:=kind1 == 18) (by simp) hb13 ?_
       refine SWp.skip ?_
       cases hj2
       exact hK3 _ () [] trivial (by simp [y])
      ·refine SWp.cF' (b:=kind1 == 18) (by simp) hb14 ?_
       refine SWp.reg rfl (u _ rfl) fun K q=>?_
       iterate 2 (refine wC rfl fun K q=>?_;simp [y];refine q _ ?_;clear q)
       refine wN (q _ ?_);clear q
       cases hj2
       exact hK3 _ () [] trivial (by simp [y])
 rcases aA h with ⟨hb16,h⟩ | ⟨hb17,h⟩
 ·refine SWp.cT' (b:=v15) (by simp) hb16 ?_
  refine SWp.sR rfl (u _ rfl) fun K q=>?_
  iterate 2 (refine wC rfl fun K q=>?_;simp [y];refine q _ ?_;clear q)
  refine wN (q _ ?_);clear q
  cases h
  refine SWp.ret ?_
  simp [aC,iB,res101]
 ·refine SWp.cF' (b:=v15) (by simp) hb17 ?_
  obtain ⟨v27,hj18,h⟩:=bS h
  refine SWp.seqC [4,12] [] (fun _:Unit=>⟨[(4,.t (vi kind1)),(12,.t (vb v27))],[]⟩) (fun _=>True) (fun _ _=>?_) fun K19 hK19=>?_
  rotate_left
  ·refine SWp.sR rfl (u _ rfl) fun K q=>?_
   iterate 2 (refine wC rfl fun K q=>?_;simp [y];refine q _ ?_;clear q)
   refine wN (q _ ?_);clear q
   rcases aA hj18 with ⟨hb21,hj18⟩ | ⟨hb22,hj18⟩
   ·refine SWp.cT' (b:=kind1 == 9) (by simp) hb21 ?_
    refine SWp.skip ?_
    cases hj18
    exact hK19 _ () [] trivial (by simp [y])
   ·refine SWp.cF' (b:=kind1 == 9) (by simp) hb22 ?_
    refine SWp.sR rfl (u _ rfl) fun K q=>?_
    iterate 2 (refine wC rfl fun K q=>?_;simp [y];refine q _ ?_;clear q)
    refine wN (q _ ?_);clear q
    rcases aA hj18 with ⟨hb23,hj18⟩ | ⟨hb24,hj18⟩
    ·refine SWp.cT' (b:=kind1 == 10) (by simp) hb23 ?_
     refine SWp.skip ?_
     cases hj18
     exact hK19 _ () [] trivial (by simp [y])
    ·refine SWp.cF' (b:=kind1 == 10) (by simp) hb24 ?_
     refine SWp.sR rfl (u _ rfl) fun K q=>?_
     iterate 2 (refine wC rfl fun K q=>?_;simp [y];refine q _ ?_;clear q)
     refine wN (q _ ?_);clear q
     rcases aA hj18 with ⟨hb25,hj18⟩ | ⟨hb26,hj18⟩
     ·refine SWp.cT' (b:=kind1 == 11) (by simp) hb25 ?_
      refine SWp.skip ?_
      cases hj18
      exact hK19 _ () [] trivial (by simp [y])
     ·refine SWp.cF' (b:=kind1 == 11) (by simp) hb26 ?_
      refine SWp.reg rfl (u _ rfl) fun K q=>?_
      iterate 2 (refine wC rfl fun K q=>?_;simp [y];refine q _ ?_;clear q)
      refine wN (q _ ?_);clear q
      cases hj18
      exact hK19 _ () [] trivial (by simp [y])
  rcases aA h with ⟨hb28,h⟩ | ⟨hb29,h⟩
  ·refine SWp.cT' (b:=v27) (by simp) hb28 ?_
   refine SWp.sR rfl (u _ rfl) fun K q=>?_
   iterate 2 (refine wC rfl fun K q=>?_;simp [y];refine q _ ?_;clear q)
   refine wN (q _ ?_);clear q
   cases h
   refine SWp.ret ?_
   simp [aC,iB,res101]
  ·refine SWp.cF' (b:=v27) (by simp) hb29 ?_
   refine SWp.sR rfl (u _ rfl) fun K q=>?_
   iterate 2 (refine wC rfl fun K q=>?_;simp [y];refine q _ ?_;clear q)
   refine wN (q _ ?_);clear q
   rcases aA h with ⟨hb30,h⟩ | ⟨hb31,h⟩
   ·refine SWp.cT' (b:=kind1 == 12) (by simp) hb30 ?_
    refine SWp.sR rfl (u _ rfl) fun K q=>?_
    iterate 2 (refine wC rfl fun K q=>?_;simp [y];refine q _ ?_;clear q)
    refine wN (q _ ?_);clear q
    cases h
    refine SWp.ret ?_
    simp [aC,iB,res101]
   ·refine SWp.cF' (b:=kind1 == 12) (by simp) hb31 ?_
    refine SWp.sR rfl (u _ rfl) fun K q=>?_
    iterate 2 (refine wC rfl fun K q=>?_;simp [y];refine q _ ?_;clear q)
    refine wN (q _ ?_);clear q
    rcases aA h with ⟨hb32,h⟩ | ⟨hb33,h⟩
    ·refine SWp.cT' (b:=kind1 == 16) (by simp) hb32 ?_
     refine SWp.sR rfl (u _ rfl) fun K q=>?_
     iterate 2 (refine wC rfl fun K q=>?_;simp [y];refine q _ ?_;clear q)
     refine wN (q _ ?_);clear q
     cases h
     refine SWp.ret ?_
     simp [aC,iB,res101]
    ·refine SWp.cF' (b:=kind1 == 16) (by simp) hb33 ?_
     refine SWp.sR rfl (u _ rfl) fun K q=>?_
     iterate 2 (refine wC rfl fun K q=>?_;simp [y];refine q _ ?_;clear q)
     refine wN (q _ ?_);clear q
     rcases aA h with ⟨hb34,h⟩ | ⟨hb35,h⟩
     ·refine SWp.cT' (b:=kind1 == 20) (by simp) hb34 ?_
      refine SWp.sR rfl (u _ rfl) fun K q=>?_
      iterate 2 (refine wC rfl fun K q=>?_;simp [y];refine q _ ?_;clear q)
      refine wN (q _ ?_);clear q
      cases h
      refine SWp.ret ?_
      simp [aC,iB,res101]
     ·refine SWp.cF' (b:=kind1 == 20) (by simp) hb35 ?_
      refine SWp.skip ?_
      show SWp E C _ _ _
      refine SWp.sR rfl (u _ rfl) fun K q=>?_
      iterate 2 (refine wC rfl fun K q=>?_;simp [y];refine q _ ?_;clear q)
      refine wN (q _ ?_);clear q
      cases h
      refine SWp.ret ?_
      simp [aC,iB,res101]
theorem res102:Tryz.f102.results.toList=[.tmp 2]:=rfl
theorem ent102:aE E.P 102:=eO Tryz.func102 (by simp [Tryz.f102]) rfl
theorem spec_l04Named_ok (kind1:Int) {r0:Bool} (h:gX kind1=some r0):Ok E 102 [.val (vi kind1)] [vb r0] []:=by
 refine oB (fn:=Tryz.f102) Tryz.func102 rfl (by simp [Tryz.f102]) fun C hN hP=>?_
 have u:∀ l,pinK [] l=true→pinB C.pin l=true:=pO (by rw [hP];rfl)
 have y:C.N=14:=hN
 clear hN
 unfold gX at h
 refine SWp.sR rfl (u _ rfl) fun K q=>?_
 refine wC rfl fun K q=>?_;simp [y];refine q _ ?_;clear q
 refine wN (q _ ?_);clear q
 refine SWp.seq ?_
 refine SWp.sR rfl (u _ rfl) fun K q=>?_
 refine wC rfl fun K q=>?_;simp [y];refine q _ ?_;clear q
 refine wN (q _ ?_);clear q
 refine SWp.block ?_
 obtain ⟨v21,hj2,h⟩:=bS h
 refine SWp.seqC [4] [] (fun _:Unit=>⟨[(4,.t (vb v21))],[]⟩) (fun _=>True) (fun _ _=>?_) fun K3 hK3=>?_
 rotate_left
 ·refine SWp.sR rfl (u _ rfl) fun K q=>?_
  iterate 2 (refine wC rfl fun K q=>?_;simp [y];refine q _ ?_;clear q)
  refine wN (q _ ?_);clear q
  rcases aA hj2 with ⟨hb5,hj2⟩ | ⟨hb6,hj2⟩
  ·refine SWp.cT' (b:=kind1 == 2) (by simp) hb5 ?_
   refine SWp.skip ?_
   cases hj2
   exact hK3 _ () [] trivial (by simp [y])
  ·refine SWp.cF' (b:=kind1 == 2) (by simp) hb6 ?_
   refine SWp.sR rfl (u _ rfl) fun K q=>?_
   iterate 2 (refine wC rfl fun K q=>?_;simp [y];refine q _ ?_;clear q)
   refine wN (q _ ?_);clear q
   rcases aA hj2 with ⟨hb7,hj2⟩ | ⟨hb8,hj2⟩
   ·refine SWp.cT' (b:=kind1 == 3) (by simp) hb7 ?_
    refine SWp.skip ?_
    cases hj2
    exact hK3 _ () [] trivial (by simp [y])
   ·refine SWp.cF' (b:=kind1 == 3) (by simp) hb8 ?_
    refine SWp.sR rfl (u _ rfl) fun K q=>?_
    iterate 2 (refine wC rfl fun K q=>?_;simp [y];refine q _ ?_;clear q)
    refine wN (q _ ?_);clear q
    rcases aA hj2 with ⟨hb9,hj2⟩ | ⟨hb10,hj2⟩
    ·refine SWp.cT' (b:=kind1 == 4) (by simp) hb9 ?_
     refine SWp.skip ?_
     cases hj2
     exact hK3 _ () [] trivial (by simp [y])
    ·refine SWp.cF' (b:=kind1 == 4) (by simp) hb10 ?_
     refine SWp.sR rfl (u _ rfl) fun K q=>?_
     iterate 2 (refine wC rfl fun K q=>?_;simp [y];refine q _ ?_;clear q)
     refine wN (q _ ?_);clear q
     rcases aA hj2 with ⟨hb11,hj2⟩ | ⟨hb12,hj2⟩
     ·refine SWp.cT' (b:=kind1 == 5) (by simp) hb11 ?_
      refine SWp.skip ?_
      cases hj2
      exact hK3 _ () [] trivial (by simp [y])
     ·refine SWp.cF' (b:=kind1 == 5) (by simp) hb12 ?_
      refine SWp.sR rfl (u _ rfl) fun K q=>?_
      iterate 2 (refine wC rfl fun K q=>?_;simp [y];refine q _ ?_;clear q)
      refine wN (q _ ?_);clear q
      rcases aA hj2 with ⟨hb13,hj2⟩ | ⟨hb14,hj2⟩
      ·refine SWp.cT' (b:=kind1 == 6) (by simp) hb13 ?_
       refine SWp.skip ?_
       cases hj2
       exact hK3 _ () [] trivial (by simp [y])
      ·refine SWp.cF' (b:=kind1 == 6) (by simp) hb14 ?_
       refine SWp.sR rfl (u _ rfl) fun K q=>?_
       iterate 2 (refine wC rfl fun K q=>?_;simp [y];refine q _ ?_;clear q)
       refine wN (q _ ?_);clear q
       rcases aA hj2 with ⟨hb15,hj2⟩ | ⟨hb16,hj2⟩
       ·refine SWp.cT' (b:=kind1 == 12) (by simp) hb15 ?_
        refine SWp.skip ?_
        cases hj2
        exact hK3 _ () [] trivial (by simp [y])
       ·refine SWp.cF' (b:=kind1 == 12) (by simp) hb16 ?_
        refine SWp.sR rfl (u _ rfl) fun K q=>?_
        iterate 2 (refine wC rfl fun K q=>?_;simp [y];refine q _ ?_;clear q)
        refine wN (q _ ?_);clear q
        rcases aA hj2 with ⟨hb17,hj2⟩ | ⟨hb18,hj2⟩
        ·refine SWp.cT' (b:=kind1 == 13) (by simp) hb17 ?_
         refine SWp.skip ?_
         cases hj2
         exact hK3 _ () [] trivial (by simp [y])
        ·refine SWp.cF' (b:=kind1 == 13) (by simp) hb18 ?_
         refine SWp.sR rfl (u _ rfl) fun K q=>?_
         iterate 2 (refine wC rfl fun K q=>?_;simp [y];refine q _ ?_;clear q)
         refine wN (q _ ?_);clear q
         rcases aA hj2 with ⟨hb19,hj2⟩ | ⟨hb20,hj2⟩
         ·refine SWp.cT' (b:=kind1 == 14) (by simp) hb19 ?_
          refine SWp.skip ?_
          cases hj2
          exact hK3 _ () [] trivial (by simp [y])
         ·refine SWp.cF' (b:=kind1 == 14) (by simp) hb20 ?_
          refine SWp.reg rfl (u _ rfl) fun K q=>?_
          iterate 2 (refine wC rfl fun K q=>?_;simp [y];refine q _ ?_;clear q)
          refine wN (q _ ?_);clear q
          cases hj2
          exact hK3 _ () [] trivial (by simp [y])
 rcases aA h with ⟨hb22,h⟩ | ⟨hb23,h⟩
 ·refine SWp.cT' (b:=v21) (by simp) hb22 ?_
  refine SWp.sR rfl (u _ rfl) fun K q=>?_
  refine wC rfl fun K q=>?_;simp [y];refine q _ ?_;clear q
  refine wN (q _ ?_);clear q
  cases h
  refine SWp.ret ?_
  simp [aC,iB,res102]
 ·refine SWp.cF' (b:=v21) (by simp) hb23 ?_
  refine SWp.skip ?_
  show SWp E C _ _ _
  refine SWp.sR rfl (u _ rfl) fun K q=>?_
  refine wC rfl fun K q=>?_;simp [y];refine q _ ?_;clear q
  refine wN (q _ ?_);clear q
  cases h
  refine SWp.ret ?_
  simp [aC,iB,res102]
theorem res88:Tryz.f88.results.toList=[.tmp 2]:=rfl
theorem ent88:aE E.P 88:=eO Tryz.func88 (by simp [Tryz.f88]) rfl
theorem jK (kind1:Int) {r0:Bool} (h:eG kind1=some r0):Ok E 88 [.val (vi kind1)] [vb r0] []:=by
 refine oB (fn:=Tryz.f88) Tryz.func88 rfl (by simp [Tryz.f88]) fun C hN hP=>?_
 have u:∀ l,pinK [] l=true→pinB C.pin l=true:=pO (by rw [hP];rfl)
 have y:C.N=5:=hN
 clear hN
 unfold eG at h
 refine SWp.sR rfl (u _ rfl) fun K q=>?_
 refine wC rfl fun K q=>?_;simp [y];refine q _ ?_;clear q
 refine wN (q _ ?_);clear q
 refine SWp.sR rfl (u _ rfl) fun K q=>?_
 refine wC rfl fun K q=>?_;simp [y];refine q _ ?_;clear q
 obtain ⟨r2,hc3,h⟩:=bS h
 refine wL [(.take,.tmp 3),(.take,.const (.int .i64 1)),(.take,.const (.int .i64 12))] rfl rfl mW (aK _ _ _ hc3) fun K q=>?_;simp [y];refine q _ ?_;clear q
 refine wC rfl fun K q=>?_;simp [y];refine q _ ?_;clear q
 refine wN (q _ ?_);clear q
 cases h
 refine SWp.ret ?_
 simp [aC,iB,res88]
theorem res114:Tryz.f114.results.toList=[.tmp 2]:=rfl
theorem ent114:aE E.P 114:=eO Tryz.func114 (by simp [Tryz.f114]) rfl
theorem oV (kind1:Int) {r0:Bool} (h:dV kind1=some r0):Ok E 114 [.val (vi kind1)] [vb r0] []:=by
 refine oB (fn:=Tryz.f114) Tryz.func114 rfl (by simp [Tryz.f114]) fun C hN hP=>?_
 have u:∀ l,pinK [] l=true→pinB C.pin l=true:=pO (by rw [hP];rfl)
 have y:C.N=5:=hN
 clear hN
 unfold dV at h
 refine SWp.sR rfl (u _ rfl) fun K q=>?_
 refine wC rfl fun K q=>?_;simp [y];refine q _ ?_;clear q
 refine wN (q _ ?_);clear q
 refine SWp.sR rfl (u _ rfl) fun K q=>?_
 refine wC rfl fun K q=>?_;simp [y];refine q _ ?_;clear q
 obtain ⟨r2,hc3,h⟩:=bS h
 refine wL [(.take,.tmp 3),(.take,.const (.int .i64 13)),(.take,.const (.int .i64 19))] rfl rfl mW (aK _ _ _ hc3) fun K q=>?_;simp [y];refine q _ ?_;clear q
 refine wC rfl fun K q=>?_;simp [y];refine q _ ?_;clear q
 refine wN (q _ ?_);clear q
 cases h
 refine SWp.ret ?_
 simp [aC,iB,res114]
theorem res103:Tryz.f103.results.toList=[.tmp 6]:=rfl
theorem ent103:aE E.P 103:=eO Tryz.func103 (by simp [Tryz.f103]) rfl
theorem spec_l04Fits_ok (kind1:Int) (at2:Int) (kid3:Int) {r0:Bool} (h:iQ kind1 at2 kid3=some r0):Ok E 103 [.val (vi kind1),.val (vi at2),.val (vi kid3)] [vb r0] []:=by
 refine oB (fn:=Tryz.f103) Tryz.func103 rfl (by simp [Tryz.f103]) fun C hN hP=>?_
 have u:∀ l,pinK [] l=true→pinB C.pin l=true:=pO (by rw [hP];rfl)
 have y:C.N=25:=hN
 clear hN
 unfold iQ at h
 refine SWp.sR rfl (u _ rfl) fun K q=>?_
 refine wC rfl fun K q=>?_;simp [y];refine q _ ?_;clear q
 refine wN (q _ ?_);clear q
 refine SWp.seq ?_
 refine SWp.sR rfl (u _ rfl) fun K q=>?_
 refine wC rfl fun K q=>?_;simp [y];refine q _ ?_;clear q
 refine wN (q _ ?_);clear q
 refine SWp.block ?_
 refine SWp.sR rfl (u _ rfl) fun K q=>?_
 iterate 2 (refine wC rfl fun K q=>?_;simp [y];refine q _ ?_;clear q)
 refine wN (q _ ?_);clear q
 rcases aA h with ⟨hb4,h⟩ | ⟨hb5,h⟩
 ·refine SWp.cT' (b:=kind1 == 20) (by simp) hb4 ?_
  refine SWp.sR rfl (u _ rfl) fun K q=>?_
  refine wC rfl fun K q=>?_;simp [y];refine q _ ?_;clear q
  obtain ⟨r6,hc7,h⟩:=bS h
  refine wL [(.take,.tmp 10)] rfl rfl ent114 (oV _ hc7) fun K q=>?_;simp [y];refine q _ ?_;clear q
  refine wC rfl fun K q=>?_;simp [y];refine q _ ?_;clear q
  refine wN (q _ ?_);clear q
  cases h
  refine SWp.ret ?_
  simp [aC,iB,res103]
 ·refine SWp.cF' (b:=kind1 == 20) (by simp) hb5 ?_
  obtain ⟨v13,hj8,h⟩:=bS h
  refine SWp.seqC [1,2,7,12] [] (fun _:Unit=>⟨[(1,.t (vi at2)),(2,.t (vi kid3)),(7,.t (vi kind1)),(12,.t (vb v13))],[]⟩) (fun _=>True) (fun _ _=>?_) fun K9 hK9=>?_
  rotate_left
  ·refine SWp.sR rfl (u _ rfl) fun K q=>?_
   iterate 2 (refine wC rfl fun K q=>?_;simp [y];refine q _ ?_;clear q)
   refine wN (q _ ?_);clear q
   rcases aA hj8 with ⟨hb11,hj8⟩ | ⟨hb12,hj8⟩
   ·refine SWp.cT' (b:=kind1 == 16) (by simp) hb11 ?_
    refine SWp.skip ?_
    cases hj8
    exact hK9 _ () [] trivial (by simp [y])
   ·refine SWp.cF' (b:=kind1 == 16) (by simp) hb12 ?_
    refine SWp.reg rfl (u _ rfl) fun K q=>?_
    iterate 2 (refine wC rfl fun K q=>?_;simp [y];refine q _ ?_;clear q)
    refine wN (q _ ?_);clear q
    cases hj8
    exact hK9 _ () [] trivial (by simp [y])
  rcases aA h with ⟨hb14,h⟩ | ⟨hb15,h⟩
  ·refine SWp.cT' (b:=v13) (by simp) hb14 ?_
   refine SWp.sR rfl (u _ rfl) fun K q=>?_
   iterate 2 (refine wC rfl fun K q=>?_;simp [y];refine q _ ?_;clear q)
   refine wN (q _ ?_);clear q
   rcases aA h with ⟨hb16,h⟩ | ⟨hb17,h⟩
   ·refine SWp.cT' (b:=decide (at2 > 0)) (by simp) hb16 ?_
    refine SWp.sR rfl (u _ rfl) fun K q=>?_
    iterate 3 (refine wC rfl fun K q=>?_;simp [y];refine q _ ?_;clear q)
    refine wN (q _ ?_);clear q
    cases h
    refine SWp.ret ?_
    simp [aC,iB,res103]
   ·refine SWp.cF' (b:=decide (at2 > 0)) (by simp) hb17 ?_
    refine SWp.skip ?_
    show SWp E C _ _ _
    refine SWp.sR rfl (u _ rfl) fun K q=>?_
    refine wC rfl fun K q=>?_;simp [y];refine q _ ?_;clear q
    obtain ⟨r18,hc19,h⟩:=bS h
    refine wL [(.take,.tmp 23)] rfl rfl ent88 (jK _ hc19) fun K q=>?_;simp [y];refine q _ ?_;clear q
    refine wC rfl fun K q=>?_;simp [y];refine q _ ?_;clear q
    refine wN (q _ ?_);clear q
    cases h
    refine SWp.ret ?_
    simp [aC,iB,res103]
  ·refine SWp.cF' (b:=v13) (by simp) hb15 ?_
   refine SWp.sR rfl (u _ rfl) fun K q=>?_
   iterate 2 (refine wC rfl fun K q=>?_;simp [y];refine q _ ?_;clear q)
   refine wN (q _ ?_);clear q
   rcases aA h with ⟨hb20,h⟩ | ⟨hb21,h⟩
   ·refine SWp.cT' (b:=kind1 == 19) (by simp) hb20 ?_
    refine SWp.sR rfl (u _ rfl) fun K q=>?_
    iterate 3 (refine wC rfl fun K q=>?_;simp [y];refine q _ ?_;clear q)
    refine wN (q _ ?_);clear q
    cases h
    refine SWp.ret ?_
    simp [aC,iB,res103]
   ·refine SWp.cF' (b:=kind1 == 19) (by simp) hb21 ?_
    refine SWp.skip ?_
    show SWp E C _ _ _
    refine SWp.sR rfl (u _ rfl) fun K q=>?_
    refine wC rfl fun K q=>?_;simp [y];refine q _ ?_;clear q
    obtain ⟨r22,hc23,h⟩:=bS h
    refine wL [(.take,.tmp 23)] rfl rfl ent88 (jK _ hc23) fun K q=>?_;simp [y];refine q _ ?_;clear q
    refine wC rfl fun K q=>?_;simp [y];refine q _ ?_;clear q
    refine wN (q _ ?_);clear q
    cases h
    refine SWp.ret ?_
    simp [aC,iB,res103]
theorem res86:Tryz.f86.results.toList=[.tmp 4]:=rfl
theorem ent86:aE E.P 86:=eO Tryz.func86 (by simp [Tryz.f86]) rfl
theorem spec_NodeOk_ok (nodes1:List GNode) (k2:Int) {r0:Bool} (h:kF nodes1 k2=some r0):Ok E 86 [.val (.sl false 4 (List.map (GNode.enc false) nodes1)),.val (vi k2)] [vb r0] []:=by
 refine oB (fn:=Tryz.f86) Tryz.func86 rfl (by simp [Tryz.f86]) fun C hN hP=>?_
 have hPB:∀ l,pinK [] l=true→pinB C.pin l=true:=pO (by rw [hP];rfl)
 have hN':C.N=124:=hN
 clear hN
 unfold kF at h
 refine SWp.sR rfl (hPB _ rfl) fun K hK=>?_
 refine wC rfl fun K hK=>?_;simp [hN'];refine hK _ ?_;clear hK
 refine wN (hK _ ?_);clear hK
 refine SWp.seq ?_
 obtain ⟨v12,hj3,h⟩:=bS h
 refine SWp.seqRC rfl (hPB _ rfl) [0,1,24] [] (fun _:Unit=>⟨[(0,.t (.sl false 4 (List.map (GNode.enc false) nodes1))),(1,.t (vi k2)),(24,.t (vb v12))],[]⟩) (fun _=>True) (fun _ _=>?_) fun K4 hK4=>?_
 rotate_left
 ·refine wC rfl fun K hK=>?_;simp [hN'];refine hK _ ?_;clear hK
  iterate 3 (refine wC rfl fun K hK=>?_;simp [hN'];refine hK _ ?_;clear hK)
  obtain ⟨r5,hc6,hj3⟩:=bS hj3
  refine wL [(.take,.tmp 10),(.take,.const (.int .i64 0)),(.take,.tmp 13)] rfl rfl mW (aK _ _ _ hc6) fun K hK=>?_;simp [hN'];refine hK _ ?_;clear hK
  iterate 2 (refine wC rfl fun K hK=>?_;simp [hN'];refine hK _ ?_;clear hK)
  rcases aA hj3 with ⟨hb7,hj3⟩ | ⟨hb8,hj3⟩
  ·have hb7s:=hb7
   try simp at hb7s
   iterate 7 (refine wO fun K hK=>?_;simp [hN',hb7,hb7s];refine hK _ ?_;clear hK)
   refine wC rfl fun K hK=>?_;simp [hN',hb7,hb7s];refine hK _ ?_;clear hK
   refine wN ?_
   cases hj3
   exact hK4 _ () [] trivial (by simp [hN',hb7,hb7s])
  ·have hb8s:=hb8
   try simp at hb8s
   iterate 2 (refine wC rfl fun K hK=>?_;simp [hN',hb8,hb8s];refine hK _ ?_;clear hK)
   obtain ⟨e9,he9,hj3⟩:=bS hj3
   obtain ⟨he9a,he9b,he9c,he9d⟩:=gS he9
   iterate 3 (refine wC rfl fun K hK=>?_;simp [hN',hb8,hb8s,he9a,he9b,he9c,he9d];refine hK _ ?_;clear hK)
   obtain ⟨r10,hc11,hj3⟩:=bS hj3
   refine wL [(.take,.tmp 21),(.take,.const (.int .i64 1)),(.take,.const (.int .i64 20))] rfl rfl mW (aK _ _ _ hc11) fun K hK=>?_;simp [hN',hb8,hb8s,he9a,he9b,he9c,he9d];refine hK _ ?_;clear hK
   iterate 2 (refine wC rfl fun K hK=>?_;simp [hN',hb8,hb8s,he9a,he9b,he9c,he9d];refine hK _ ?_;clear hK)
   refine wN ?_
   cases hj3
   exact hK4 _ () [] trivial (by simp [hN',hb8,hb8s,he9a,he9b,he9c,he9d])
 rcases aA h with ⟨hb13,h⟩ | ⟨hb14,h⟩
 ·refine SWp.cT' (b:=v12) (by simp) hb13 ?_
  refine SWp.sR rfl (hPB _ rfl) fun K hK=>?_
  refine wC rfl fun K hK=>?_;simp [hN'];refine hK _ ?_;clear hK
  refine wN (hK _ ?_);clear hK
  cases h
  refine SWp.ret ?_
  simp [aC,iB,res86]
 ·refine SWp.cF' (b:=v12) (by simp) hb14 ?_
  refine SWp.skip ?_
  show SWp E C _ _ _
  refine SWp.sR rfl (hPB _ rfl) fun K hK=>?_
  iterate 2 (refine wC rfl fun K hK=>?_;simp [hN'];refine hK _ ?_;clear hK)
  obtain ⟨e15,he15,h⟩:=bS h
  obtain ⟨he15a,he15b,he15c,he15d⟩:=gS he15
  iterate 4 (refine wC rfl fun K hK=>?_;simp [hN',he15a,he15b,he15c,he15d];refine hK _ ?_;clear hK)
  refine wN (hK _ ?_);clear hK
  refine SWp.sR rfl (hPB _ rfl) fun K hK=>?_
  iterate 2 (refine wC rfl fun K hK=>?_;simp [hN'];refine hK _ ?_;clear hK)
  obtain ⟨⟨r16,r17⟩,hc18,h⟩:=bS h
  try dsimp only at h
  refine wL [(.take,.tmp 31)] rfl rfl ent101 (spec_l04Kids_ok _ hc18) fun K hK=>?_;simp [hN'];refine hK _ ?_;clear hK
  iterate 5 (refine wC rfl fun K hK=>?_;simp [hN'];refine hK _ ?_;clear hK)
  refine wN (hK _ ?_);clear hK
  refine SWp.seq ?_
  obtain ⟨v31,hj19,h⟩:=bS h
  refine SWp.seqRC rfl (hPB _ rfl) [0,1,5,57] [5] (fun _:Unit=>⟨[(0,.t (.sl false 4 (List.map (GNode.enc false) nodes1))),(1,.t (vi k2)),(5,.ref (.box 5) 0 []),(57,.t (vb v31))],[(5,[vi e15.Kind,vi e15.Num,vs e15.Name,.sl false 1 (List.map vi e15.Kids)])]⟩) (fun _=>True) (fun _ _=>?_) fun K20 hK20=>?_
  rotate_left
  ·refine wC rfl fun K hK=>?_;simp [hN'];refine hK _ ?_;clear hK
   iterate 4 (refine wC rfl fun K hK=>?_;simp [hN'];refine hK _ ?_;clear hK)
   obtain ⟨r21,hc22,hj19⟩:=bS hj19
   refine wL [(.take,.tmp 37),(.take,.tmp 38),(.take,.tmp 39)] rfl rfl mW (aK _ _ _ hc22) fun K hK=>?_;simp [hN'];refine hK _ ?_;clear hK
   iterate 2 (refine wC rfl fun K hK=>?_;simp [hN'];refine hK _ ?_;clear hK)
   rcases aA hj19 with ⟨hb23,hj19⟩ | ⟨hb24,hj19⟩
   ·have hb23s:=hb23
    try simp at hb23s
    iterate 4 (refine wO fun K hK=>?_;simp [hN',hb23,hb23s];refine hK _ ?_;clear hK)
    iterate 2 (refine wC rfl fun K hK=>?_;simp [hN',hb23,hb23s];refine hK _ ?_;clear hK)
    iterate 8 (refine wO fun K hK=>?_;simp [hN',hb23,hb23s];refine hK _ ?_;clear hK)
    refine wC rfl fun K hK=>?_;simp [hN',hb23,hb23s];refine hK _ ?_;clear hK
    refine wN ?_
    cases hj19
    exact hK20 _ () [] trivial (by simp [hN',hb23,hb23s])
   ·have hb24s:=hb24
    try simp at hb24s
    iterate 2 (refine wC rfl fun K hK=>?_;simp [hN',hb24,hb24s];refine hK _ ?_;clear hK)
    obtain ⟨r25,hc26,hj19⟩:=bS hj19
    refine wL [(.take,.tmp 44),(.take,.const (.int .i64 0)),(.take,.const (.int .i64 1000000000))] rfl rfl mW (aK _ _ _ hc26) fun K hK=>?_;simp [hN',hb24,hb24s];refine hK _ ?_;clear hK
    iterate 3 (refine wC rfl fun K hK=>?_;simp [hN',hb24,hb24s];refine hK _ ?_;clear hK)
    rcases aA hj19 with ⟨hb27,hj19⟩ | ⟨hb28,hj19⟩
    ·have hb27s:=hb27
     try simp at hb27s
     iterate 8 (refine wO fun K hK=>?_;simp [hN',hb24,hb24s,hb27,hb27s];refine hK _ ?_;clear hK)
     refine wC rfl fun K hK=>?_;simp [hN',hb24,hb24s,hb27,hb27s];refine hK _ ?_;clear hK
     refine wN ?_
     cases hj19
     exact hK20 _ () [] trivial (by simp [hN',hb24,hb24s,hb27,hb27s])
    ·have hb28s:=hb28
     try simp at hb28s
     iterate 4 (refine wC rfl fun K hK=>?_;simp [hN',hb24,hb24s,hb28,hb28s];refine hK _ ?_;clear hK)
     rcases aA hj19 with ⟨hb29,hj19⟩ | ⟨hb30,hj19⟩
     ·have hb29s:=hb29
      try simp at hb29s
      iterate 5 (refine wC rfl fun K hK=>?_;simp [hN',hb24,hb24s,hb28,hb28s,hb29,hb29s];refine hK _ ?_;clear hK)
      refine wN ?_
      cases hj19
      exact hK20 _ () [] trivial (by simp [hN',hb24,hb24s,hb28,hb28s,hb29,hb29s])
     ·have hb30s:=hb30
      try simp at hb30s
      iterate 3 (refine wO fun K hK=>?_;simp [hN',hb24,hb24s,hb28,hb28s,hb30,hb30s];refine hK _ ?_;clear hK)
      iterate 2 (refine wC rfl fun K hK=>?_;simp [hN',hb24,hb24s,hb28,hb28s,hb30,hb30s];refine hK _ ?_;clear hK)
      refine wN ?_
      cases hj19
      exact hK20 _ () [] trivial (by simp [hN',hb24,hb24s,hb28,hb28s,hb30,hb30s])
  rcases aA h with ⟨hb32,h⟩ | ⟨hb33,h⟩
  ·refine SWp.cT' (b:=v31) (by simp) hb32 ?_
   refine SWp.sR rfl (hPB _ rfl) fun K hK=>?_
   refine wC rfl fun K hK=>?_;simp [hN'];refine hK _ ?_;clear hK
   refine wN (hK _ ?_);clear hK
   cases h
   refine SWp.ret ?_
   simp [aC,iB,res86]
  ·refine SWp.cF' (b:=v31) (by simp) hb33 ?_
   refine SWp.skip ?_
   show SWp E C _ _ _
   refine SWp.seq ?_
   obtain ⟨v44,hj34,h⟩:=bS h
   refine SWp.seqC [0,1,5,75] [5] (fun _:Unit=>⟨[(0,.t (.sl false 4 (List.map (GNode.enc false) nodes1))),(1,.t (vi k2)),(5,.ref (.box 5) 0 []),(75,.t (vb v44))],[(5,[vi e15.Kind,vi e15.Num,vs e15.Name,.sl false 1 (List.map vi e15.Kids)])]⟩) (fun _=>True) (fun _ _=>?_) fun K35 hK35=>?_
   rotate_left
   ·obtain ⟨r36,hc37,hj34⟩:=bS hj34
    refine SWp.dT rfl (hPB _ rfl) [(58,.ref (.box 5) 0 []),(59,.t (vi e15.Kind)),(60,.t (vb r36)),(61,.ref (.box 5) 2 []),(62,.t (vs e15.Name)),(63,.t (vb (!(sEq e15.Name (⟨#[]⟩:ByteArray)))))] [[],[0],[0,1],[],[3],[3,4],[0,1,2,3,4,5],[0,1,2,3,4,5,6],[0,1,2,3,4,5,6,7],[0,1,2,3,4,5,6,7,8],[0,1,2,3,4,5,6,7,8,9],[0,1,2,3,4,5,6,7,8,9,10],[0,1,2,3,4,5,6,7,8,9,10,11],[0,1,2,3,4,5,6,7,8,9,10,11,12],[0,1,2,3,4,5,6,7,8,9,10,11,12,13],[0,1,2,3,4,5,6,7,8,9,10,11,12,13,14],[0,1,2,3,4,5,6,7,8,9,10,11,12,13,14,15],[0,1,2,3,4,5,6,7,8,9,10,11,12,13,14,15,16]] (by simp) (by simp) (by simp [look]) rfl rfl rfl ?_ fun K hK=>?_
    ·refine ⟨?_,?_,?_,?_,?_,?_,trivial⟩
     all_goals (intro τ hbx hb hd hf K hK;try simp [vsAt] at hd;simp [vsAt] at hf;first | (refine wC rfl fun K' hK'=>?_;simp [hN',hbx,hb,hd,hf];exact hK' _ (wN (hK _ (by simp [vsAt,hbx])))) | (refine wL [(.take,.tmp 59)] rfl rfl ent102 (spec_l04Named_ok _ hc37) fun K' hK'=>?_;simp [hN',hbx,hb,hd,hf];exact hK' _ (wN (hK _ (by simp [vsAt,hbx])))))
    iterate 2 (refine wC rfl fun K hK=>?_;simp [hN'];refine hK _ ?_;clear hK)
    rcases aA hj34 with ⟨hb38,hj34⟩ | ⟨hb39,hj34⟩
    ·have hb38s:=hb38
     try simp at hb38s
     iterate 9 (refine wO fun K hK=>?_;simp [hN',hb38,hb38s];refine hK _ ?_;clear hK)
     refine wC rfl fun K hK=>?_;simp [hN',hb38,hb38s];refine hK _ ?_;clear hK
     refine wN (hK _ ?_);clear hK
     cases hj34
     exact hK35 _ () [] trivial (by simp [hN',hb38,hb38s])
    ·have hb39s:=hb39
     try simp at hb39s
     iterate 4 (refine wC rfl fun K hK=>?_;simp [hN',hb39,hb39s];refine hK _ ?_;clear hK)
     rcases aA hj34 with ⟨hb40,hj34⟩ | ⟨hb41,hj34⟩
     ·have hb40s:=hb40
      try simp at hb40s
      iterate 2 (refine wC rfl fun K hK=>?_;simp [hN',hb39,hb39s,hb40,hb40s];refine hK _ ?_;clear hK)
      obtain ⟨r42,hc43,hj34⟩:=bS hj34
      refine wL [(.take,.tmp 71)] rfl rfl ent87 (lJ _ hc43) fun K hK=>?_;simp [hN',hb39,hb39s,hb40,hb40s];refine hK _ ?_;clear hK
      iterate 3 (refine wC rfl fun K hK=>?_;simp [hN',hb39,hb39s,hb40,hb40s];refine hK _ ?_;clear hK)
      refine wN (hK _ ?_);clear hK
      cases hj34
      exact hK35 _ () [] trivial (by simp [hN',hb39,hb39s,hb40,hb40s])
     ·have hb41s:=hb41
      try simp at hb41s
      iterate 4 (refine wO fun K hK=>?_;simp [hN',hb39,hb39s,hb41,hb41s];refine hK _ ?_;clear hK)
      iterate 2 (refine wC rfl fun K hK=>?_;simp [hN',hb39,hb39s,hb41,hb41s];refine hK _ ?_;clear hK)
      refine wN (hK _ ?_);clear hK
      cases hj34
      exact hK35 _ () [] trivial (by simp [hN',hb39,hb39s,hb41,hb41s])
   rcases aA h with ⟨hb45,h⟩ | ⟨hb46,h⟩
   ·refine SWp.cT' (b:=v44) (by simp) hb45 ?_
    refine SWp.sR rfl (hPB _ rfl) fun K hK=>?_
    refine wC rfl fun K hK=>?_;simp [hN'];refine hK _ ?_;clear hK
    refine wN (hK _ ?_);clear hK
    cases h
    refine SWp.ret ?_
    simp [aC,iB,res86]
   ·refine SWp.cF' (b:=v44) (by simp) hb46 ?_
    refine SWp.skip ?_
    show SWp E C _ _ _
    obtain ⟨j49,hj47,h⟩:=bS h
    refine SWp.seqC [] [] (fun v:Unit=>⟨[],[]⟩) (fun v=>j49=Sum.inl v) (fun v hv=>?_) fun K48 hK48=>?_
    rotate_left
    ·refine SWp.sR rfl (hPB _ rfl) fun K hK=>?_
     refine wC rfl fun K hK=>?_;simp [hN'];refine hK _ ?_;clear hK
     refine wN (hK _ ?_);clear hK
     refine SWp.block ?_
     refine SWp.loopO [] [0,1,5,8] [5] (fun v:Int=>⟨[(0,.t (.sl false 4 (List.map (GNode.enc false) nodes1))),(1,.t (vi k2)),(5,.ref (.box 5) 0 []),(8,.t (vi v))],[(5,[vi e15.Kind,vi e15.Num,vs e15.Name,.sl false 1 (List.map vi e15.Kids)])]⟩) (eP nodes1 k2 e15) _ 0 hj47 (by simp [hN']) ?_
     intro g s53 h51 ho52
     obtain ⟨i50,hg⟩:∃ y,y=g:=⟨_,rfl⟩
     subst hg
     simp only [eP] at h51
     try dsimp only
     refine SWp.seq ?_
     refine SWp.sR rfl (hPB _ rfl) fun K hK=>?_
     iterate 5 (refine wC rfl fun K hK=>?_;simp [hN'];refine hK _ ?_;clear hK)
     refine wN (hK _ ?_);clear hK
     rcases aA h51 with ⟨hb54,h51⟩ | ⟨hb55,h51⟩
     ·refine SWp.cT' (b:=decide (i50 < (e15.Kids.length:Int))) (by simp) hb54 ?_
      refine SWp.skip ?_
      show SWp E C _ _ _
      obtain ⟨j58,hj56,h51⟩:=bS h51
      refine SWp.seqC [0,1,5,8] [5] (fun v:Unit=>⟨[(0,.t (.sl false 4 (List.map (GNode.enc false) nodes1))),(1,.t (vi k2)),(5,.ref (.box 5) 0 []),(8,.t (vi i50))],[(5,[vi e15.Kind,vi e15.Num,vs e15.Name,.sl false 1 (List.map vi e15.Kids)])]⟩) (fun v=>j58=Sum.inl v) (fun v hv=>?_) fun K57 hK57=>?_
      rotate_left
      ·refine SWp.block ?_
       refine SWp.seq ?_
       obtain ⟨v69,hj59,hj56⟩:=bS hj56
       refine SWp.seqC [0,1,5,8,107] [5] (fun _:Unit=>⟨[(0,.t (.sl false 4 (List.map (GNode.enc false) nodes1))),(1,.t (vi k2)),(5,.ref (.box 5) 0 []),(8,.t (vi i50)),(107,.t (vb v69))],[(5,[vi e15.Kind,vi e15.Num,vs e15.Name,.sl false 1 (List.map vi e15.Kids)])]⟩) (fun _=>True) (fun _ _=>?_) fun K60 hK60=>?_
       rotate_left
       ·obtain ⟨e61,he61,hj59⟩:=bS hj59
        obtain ⟨he61a,he61b,he61c,he61d⟩:=gS he61
        obtain ⟨r62,hc63,hj59⟩:=bS hj59
        rcases aA hj59 with ⟨hb64,hj59⟩ | ⟨hb65,hj59⟩
        ·have hb64s:=hb64
         try simp at hb64s
         refine SWp.dT rfl (hPB _ rfl) [(83,.ref (.box 5) 3 []),(84,.t (.sl false 1 (List.map vi e15.Kids))),(85,.t (vi i50)),(86,.rop [vi e61] 0),(87,.t (vi e61)),(88,.t (vi k2)),(89,.t (vi (IntKind.wrap .i64 (k2 - 1)))),(90,.t (vb r62)),(91,.t (vb (!r62))),(92,.t (vb (!r62))),(93,.tup []),(94,.tup []),(95,.tup []),(96,.tup []),(97,.tup []),(98,.tup []),(99,.tup []),(100,.tup []),(101,.tup []),(102,.tup []),(103,.tup []),(104,.tup [])] [[],[0],[],[0,1,2],[0,1,2,3],[],[5],[0,1,2,3,4,5,6],[0,1,2,3,4,5,6,7],[0,1,2,3,4,5,6,7,8],[0,1,2,3,4,5,6,7,8,9],[0,1,2,3,4,5,6,7,8,9,10],[0,1,2,3,4,5,6,7,8,9],[0,1,2,3,4,5,6,7,8,9],[0,1,2,3,4,5,6,7,8,9],[0,1,2,3,4,5,6,7,8,9,14],[0,1,2,3,4,5,6,7,8,9],[0,1,2,3,4,5,6,7,8,9,14,15,16],[0,1,2,3,4,5,6,7,8,9,14,15,16,17],[0,1,2,3,4,5,6,7,8,9,13,14,15,16,17,18],[0,1,2,3,4,5,6,7,8,9,13,14,15,16,17,18,19],[0,1,2,3,4,5,6,7,8,9,13,14,15,16,17,18,19,20],[0,1,2,3,4,5,6,7,8,9,10,11,12,13,14,15,16,17,18,19,20,21],[0,1,2,3,4,5,6,7,8,9,10,11,12,13,14,15,16,17,18,19,20,21,22],[0,1,2,3,4,5,6,7,8,9,10,11,12,13,14,15,16,17,18,19,20,21,22,23]] (by simp) (by simp) (by simp [look]) rfl rfl rfl ?_ fun K hK=>?_
         ·refine ⟨?_,?_,?_,?_,?_,?_,?_,?_,?_,?_,?_,?_,?_,?_,?_,?_,?_,?_,?_,?_,?_,?_,trivial⟩
          all_goals (intro τ hbx hb hd hf K hK;try simp [vsAt] at hd;simp [vsAt] at hf;first | (refine wC rfl fun K' hK'=>?_;simp [hN',hbx,hb,hd,hf,he61a,he61b,he61c,he61d,hb64,hb64s];exact hK' _ (wN (hK _ (by simp [vsAt,hbx,he61a,he61b,he61c,he61d,hb64,hb64s])))) | (refine wL [(.take,.tmp 87),(.take,.const (.int .i64 0)),(.take,.tmp 89)] rfl rfl mW (aK _ _ _ hc63) fun K' hK'=>?_;simp [hN',hbx,hb,hd,hf,he61a,he61b,he61c,he61d,hb64,hb64s];exact hK' _ (wN (hK _ (by simp [vsAt,hbx,he61a,he61b,he61c,he61d,hb64,hb64s])))) | (refine wO fun K' hK'=>?_;simp [hN',hbx,hb,hd,hf,he61a,he61b,he61c,he61d,hb64,hb64s];exact hK' _ (wN (hK _ (by simp [vsAt,hbx,he61a,he61b,he61c,he61d,hb64,hb64s])))))
         iterate 2 (refine wO fun K hK=>?_;simp [hN',he61a,he61b,he61c,he61d,hb64,hb64s];refine hK _ ?_;clear hK)
         refine wC rfl fun K hK=>?_;simp [hN',he61a,he61b,he61c,he61d,hb64,hb64s];refine hK _ ?_;clear hK
         refine wN (hK _ ?_);clear hK
         cases hj59
         exact hK60 _ () [] trivial (by simp [hN',he61a,he61b,he61c,he61d,hb64,hb64s])
        ·have hb65s:=hb65
         try simp at hb65s
         obtain ⟨e66,he66,hj59⟩:=bS hj59
         obtain ⟨he66a,he66b,he66c,he66d⟩:=gS he66
         refine SWp.dT rfl (hPB _ rfl) [(83,.ref (.box 5) 3 []),(84,.t (.sl false 1 (List.map vi e15.Kids))),(85,.t (vi i50)),(86,.rop [vi e61] 0),(87,.t (vi e61)),(88,.t (vi k2)),(89,.t (vi (IntKind.wrap .i64 (k2 - 1)))),(90,.t (vb r62)),(91,.t (vb (!r62))),(92,.t (vb (!r62))),(93,.ref (.box 5) 0 []),(94,.t (vi e15.Kind)),(95,.t (vi i50)),(96,.t (.sl false 4 (List.map (GNode.enc false) nodes1))),(97,.ref (.box 5) 3 []),(98,.t (.sl false 1 (List.map vi e15.Kids))),(99,.t (vi i50)),(100,.rop [vi e61] 0),(101,.t (vi e61)),(102,.rop [vi e66.Kind,vi e66.Num,vs e66.Name,.sl false 1 (List.map vi e66.Kids)] 0),(103,.rop [vi e66.Kind,vi e66.Num,vs e66.Name,.sl false 1 (List.map vi e66.Kids)] 0),(104,.t (vi e66.Kind))] [[],[0],[],[0,1,2],[0,1,2,3],[],[5],[0,1,2,3,4,5,6],[0,1,2,3,4,5,6,7],[0,1,2,3,4,5,6,7,8],[0,1,2,3,4,5,6,7,8,9],[0,1,2,3,4,5,6,7,8,9,10],[0,1,2,3,4,5,6,7,8,9],[0,1,2,3,4,5,6,7,8,9],[0,1,2,3,4,5,6,7,8,9],[0,1,2,3,4,5,6,7,8,9,14],[0,1,2,3,4,5,6,7,8,9],[0,1,2,3,4,5,6,7,8,9,14,15,16],[0,1,2,3,4,5,6,7,8,9,14,15,16,17],[0,1,2,3,4,5,6,7,8,9,13,14,15,16,17,18],[0,1,2,3,4,5,6,7,8,9,13,14,15,16,17,18,19],[0,1,2,3,4,5,6,7,8,9,13,14,15,16,17,18,19,20],[0,1,2,3,4,5,6,7,8,9,10,11,12,13,14,15,16,17,18,19,20,21],[0,1,2,3,4,5,6,7,8,9,10,11,12,13,14,15,16,17,18,19,20,21,22],[0,1,2,3,4,5,6,7,8,9,10,11,12,13,14,15,16,17,18,19,20,21,22,23]] (by simp) (by simp) (by simp [look]) rfl rfl rfl ?_ fun K hK=>?_
         ·refine ⟨?_,?_,?_,?_,?_,?_,?_,?_,?_,?_,?_,?_,?_,?_,?_,?_,?_,?_,?_,?_,?_,?_,trivial⟩
          all_goals (intro τ hbx hb hd hf K hK;try simp [vsAt] at hd;simp [vsAt] at hf;first | (refine wC rfl fun K' hK'=>?_;simp [hN',hbx,hb,hd,hf,he61a,he61b,he61c,he61d,hb65,hb65s,he66a,he66b,he66c,he66d];exact hK' _ (wN (hK _ (by simp [vsAt,hbx,he61a,he61b,he61c,he61d,hb65,hb65s,he66a,he66b,he66c,he66d])))) | (refine wL [(.take,.tmp 87),(.take,.const (.int .i64 0)),(.take,.tmp 89)] rfl rfl mW (aK _ _ _ hc63) fun K' hK'=>?_;simp [hN',hbx,hb,hd,hf,he61a,he61b,he61c,he61d,hb65,hb65s,he66a,he66b,he66c,he66d];exact hK' _ (wN (hK _ (by simp [vsAt,hbx,he61a,he61b,he61c,he61d,hb65,hb65s,he66a,he66b,he66c,he66d])))))
         obtain ⟨r67,hc68,hj59⟩:=bS hj59
         refine wL [(.take,.tmp 94),(.take,.tmp 95),(.take,.tmp 104)] rfl rfl ent103 (spec_l04Fits_ok _ _ _ hc68) fun K hK=>?_;simp [hN',he61a,he61b,he61c,he61d,hb65,hb65s,he66a,he66b,he66c,he66d];refine hK _ ?_;clear hK
         iterate 2 (refine wC rfl fun K hK=>?_;simp [hN',he61a,he61b,he61c,he61d,hb65,hb65s,he66a,he66b,he66c,he66d];refine hK _ ?_;clear hK)
         refine wN (hK _ ?_);clear hK
         cases hj59
         exact hK60 _ () [] trivial (by simp [hN',he61a,he61b,he61c,he61d,hb65,hb65s,he66a,he66b,he66c,he66d])
       rcases aA hj56 with ⟨hb70,hj56⟩ | ⟨hb71,hj56⟩
       ·refine SWp.cT' (b:=v69) (by simp) hb70 ?_
        refine SWp.sR rfl (hPB _ rfl) fun K hK=>?_
        refine wC rfl fun K hK=>?_;simp [hN'];refine hK _ ?_;clear hK
        refine wN (hK _ ?_);clear hK
        cases hj56
        try dsimp only at h51
        have h72:=congrArg some (ho52 _ (Option.some.inj h51).symm)
        cases h72
        try dsimp only at h
        cases h
        refine SWp.ret ?_
        simp [aC,iB,res86]
       ·refine SWp.cF' (b:=v69) (by simp) hb71 ?_
        refine SWp.skip ?_
        show SWp E C _ _ _
        refine SWp.sR rfl (hPB _ rfl) fun K hK=>?_
        refine wC rfl fun K hK=>?_;simp [hN'];refine hK _ ?_;clear hK
        refine wN (hK _ ?_);clear hK
        refine SWp.block ?_
        refine SWp.loopO [] [0,1,5,8,9] [5] (fun v:Int=>⟨[(0,.t (.sl false 4 (List.map (GNode.enc false) nodes1))),(1,.t (vi k2)),(5,.ref (.box 5) 0 []),(8,.t (vi i50)),(9,.t (vi v))],[(5,[vi e15.Kind,vi e15.Num,vs e15.Name,.sl false 1 (List.map vi e15.Kids)])]⟩) (eN e15 i50) _ 0 hj56 (by simp [hN']) ?_
        intro g s76 h74 ho75
        obtain ⟨j73,hg⟩:∃ y,y=g:=⟨_,rfl⟩
        subst hg
        simp only [eN] at h74
        try dsimp only
        refine SWp.seq ?_
        refine SWp.sR rfl (hPB _ rfl) fun K hK=>?_
        iterate 3 (refine wC rfl fun K hK=>?_;simp [hN'];refine hK _ ?_;clear hK)
        refine wN (hK _ ?_);clear hK
        rcases aA h74 with ⟨hb77,h74⟩ | ⟨hb78,h74⟩
        ·refine SWp.cT' (b:=decide (j73 < i50)) (by simp) hb77 ?_
         refine SWp.skip ?_
         show SWp E C _ _ _
         refine SWp.seq ?_
         refine SWp.block ?_
         refine SWp.seq ?_
         obtain ⟨e80,he80,h74⟩:=bS h74
         obtain ⟨he80a,he80b,he80c,he80d⟩:=gS he80
         obtain ⟨e81,he81,h74⟩:=bS h74
         obtain ⟨he81a,he81b,he81c,he81d⟩:=gS he81
         refine SWp.dT rfl (hPB _ rfl) [(113,.ref (.box 5) 3 []),(114,.t (.sl false 1 (List.map vi e15.Kids))),(115,.t (vi i50)),(116,.rop [vi e80] 0),(117,.t (vi e80)),(118,.ref (.box 5) 3 []),(119,.t (.sl false 1 (List.map vi e15.Kids))),(120,.t (vi j73)),(121,.rop [vi e81] 0),(122,.t (vi e81))] [[],[0],[],[0,1,2],[0,1,2,3],[],[5],[],[5,6,7],[5,6,7,8],[0,1,2,3,4,5,6,7,8,9]] (by simp) (by simp) (by simp [look]) rfl rfl rfl ?_ fun K hK=>?_
         ·refine ⟨?_,?_,?_,?_,?_,?_,?_,?_,?_,?_,trivial⟩
          all_goals (intro τ hbx hb hd hf K hK;try simp [vsAt] at hd;simp [vsAt] at hf;first | (refine wC rfl fun K' hK'=>?_;simp [hN',hbx,hb,hd,hf,he80a,he80b,he80c,he80d,he81a,he81b,he81c,he81d];exact hK' _ (wN (hK _ (by simp [vsAt,hbx,he80a,he80b,he80c,he80d,he81a,he81b,he81c,he81d])))))
         refine wC rfl fun K hK=>?_;simp [hN',he80a,he80b,he80c,he80d,he81a,he81b,he81c,he81d];refine hK _ ?_;clear hK
         refine wN (hK _ ?_);clear hK
         show SWp E C _ _ _
         rcases aA h74 with ⟨hb82,h74⟩ | ⟨hb83,h74⟩
         ·refine SWp.cT' (b:=e80 == e81) (by simp) hb82 ?_
          refine SWp.sR rfl (hPB _ rfl) fun K hK=>?_
          refine wC rfl fun K hK=>?_;simp [hN'];refine hK _ ?_;clear hK
          refine wN (hK _ ?_);clear hK
          have h84:=congrArg some (ho75 _ (Option.some.inj h74).symm)
          cases h84
          try dsimp only at h51
          have h85:=congrArg some (ho52 _ (Option.some.inj h51).symm)
          cases h85
          try dsimp only at h
          cases h
          refine SWp.ret ?_
          simp [aC,iB,res86]
         ·refine SWp.cF' (b:=e80 == e81) (by simp) hb83 ?_
          refine SWp.skip ?_
          show SWp E C _ _ _
          refine SWp.reg rfl (hPB _ rfl) fun K hK=>?_
          iterate 3 (refine wC rfl fun K hK=>?_;simp [hN'];refine hK _ ?_;clear hK)
          refine wN (hK _ ?_);clear hK
          cases h74
          exact ⟨_,[],rfl,by simp [hN']⟩
        ·refine SWp.cF' (b:=decide (j73 < i50)) (by simp) hb78 ?_
         refine SWp.exit ?_
         have h86:=congrArg some (ho75 _ (Option.some.inj h74).symm)
         cases h86
         exact hK57 _ _ [] rfl (by simp [hN'])
      subst hv
      obtain ⟨⟩:=v
      try dsimp only at h51 ⊢
      refine SWp.reg rfl (hPB _ rfl) fun K hK=>?_
      iterate 3 (refine wC rfl fun K hK=>?_;simp [hN'];refine hK _ ?_;clear hK)
      refine wN (hK _ ?_);clear hK
      cases h51
      exact ⟨_,[],rfl,by simp [hN']⟩
     ·refine SWp.cF' (b:=decide (i50 < (e15.Kids.length:Int))) (by simp) hb55 ?_
      refine SWp.exit ?_
      have h87:=congrArg some (ho52 _ (Option.some.inj h51).symm)
      cases h87
      exact hK48 _ _ [] rfl (by simp [hN'])
    subst hv
    obtain ⟨⟩:=v
    try dsimp only at h ⊢
    refine SWp.sR rfl (hPB _ rfl) fun K hK=>?_
    refine wC rfl fun K hK=>?_;simp [hN'];refine hK _ ?_;clear hK
    refine wN (hK _ ?_);clear hK
    cases h
    refine SWp.ret ?_
    simp [aC,iB,res86]
theorem res54:Tryz.f54.results.toList=[.tmp 4]:=rfl
theorem ent54:aE E.P 54:=eO Tryz.func54 (by simp [Tryz.f54]) rfl
theorem mY (nodes1:List GNode) (k2:Int) {r0:List Int} (h:fG nodes1 k2=some r0):Ok E 54 [.val (.sl false 4 (List.map (GNode.enc false) nodes1)),.val (vi k2)] [.sl true 1 (List.map vi r0)] []:=by
 refine oB (fn:=Tryz.f54) Tryz.func54 rfl (by simp [Tryz.f54]) fun C hN hP=>?_
 have u:∀ l,pinK [] l=true→pinB C.pin l=true:=pO (by rw [hP];rfl)
 have y:C.N=84:=hN
 clear hN
 unfold fG at h
 refine SWp.sR rfl (u _ rfl) fun K q=>?_
 refine wC rfl fun K q=>?_;simp [y];refine q _ ?_;clear q
 refine wN (q _ ?_);clear q
 refine SWp.sR rfl (u _ rfl) fun K q=>?_
 iterate 2 (refine wC rfl fun K q=>?_;simp [y];refine q _ ?_;clear q)
 refine wN (q _ ?_);clear q
 obtain ⟨out72,hj3,h⟩:=bS h
 refine SWp.seqC [5] [] (fun _:Unit=>⟨[(5,.t (.sl true 1 (List.map vi out72)))],[]⟩) (fun _=>True) (fun _ _=>?_) fun K4 hK4=>?_
 rotate_left
 ·refine SWp.sR rfl (u _ rfl) fun K q=>?_
  refine wC rfl fun K q=>?_;simp [y];refine q _ ?_;clear q
  refine wN (q _ ?_);clear q
  refine SWp.block ?_
  refine SWp.loopO [] [0,1,5,6] [] (fun v:(List Int) × Int=>⟨[(0,.t (.sl false 4 (List.map (GNode.enc false) nodes1))),(1,.t (vi k2)),(5,.t (.sl true 1 (List.map vi v.1))),(6,.t (vi v.2))],[]⟩) (cZ nodes1 k2) _ ([],0) hj3 (by simp [y]) ?_
  intro g s10 h8 ho9
  obtain ⟨out6,i7⟩:=g
  simp only [cZ] at h8
  try dsimp only
  refine SWp.seq ?_
  obtain ⟨v15,hj11,h8⟩:=bS h8
  refine SWp.seqRC rfl (u _ rfl) [0,1,5,6,18] [] (fun _:Unit=>⟨[(0,.t (.sl false 4 (List.map (GNode.enc false) nodes1))),(1,.t (vi k2)),(5,.t (.sl true 1 (List.map vi out6))),(6,.t (vi i7)),(18,.t (vb v15))],[]⟩) (fun _=>True) (fun _ _=>?_) fun K12 hK12=>?_
  rotate_left
  ·refine wC rfl fun K q=>?_;simp [y];refine q _ ?_;clear q
   iterate 3 (refine wC rfl fun K q=>?_;simp [y];refine q _ ?_;clear q)
   rcases aA hj11 with ⟨hb13,hj11⟩ | ⟨hb14,hj11⟩
   ·have hb13s:=hb13
    try simp at hb13s
    iterate 5 (refine wC rfl fun K q=>?_;simp [y,hb13,hb13s];refine q _ ?_;clear q)
    refine wN ?_
    cases hj11
    exact hK12 _ () [] trivial (by simp [y,hb13,hb13s])
   ·have hb14s:=hb14
    try simp at hb14s
    iterate 4 (refine wO fun K q=>?_;simp [y,hb14,hb14s];refine q _ ?_;clear q)
    refine wC rfl fun K q=>?_;simp [y,hb14,hb14s];refine q _ ?_;clear q
    refine wN ?_
    cases hj11
    exact hK12 _ () [] trivial (by simp [y,hb14,hb14s])
  rcases aA h8 with ⟨hb16,h8⟩ | ⟨hb17,h8⟩
  ·refine SWp.cT' (b:=v15) (by simp) hb16 ?_
   refine SWp.skip ?_
   show SWp E C _ _ _
   obtain ⟨out70,hj18,h8⟩:=bS h8
   refine SWp.seqC [0,1,5,6] [] (fun _:Unit=>⟨[(0,.t (.sl false 4 (List.map (GNode.enc false) nodes1))),(1,.t (vi k2)),(5,.t (.sl true 1 (List.map vi out70))),(6,.t (vi i7))],[]⟩) (fun _=>True) (fun _ _=>?_) fun K19 hK19=>?_
   rotate_left
   ·refine SWp.block ?_
    refine SWp.sR rfl (u _ rfl) fun K q=>?_
    refine wC rfl fun K q=>?_;simp [y];refine q _ ?_;clear q
    refine wN (q _ ?_);clear q
    obtain ⟨deep36,hj21,hj18⟩:=bS hj18
    refine SWp.seqC [0,1,5,6,7] [] (fun _:Unit=>⟨[(0,.t (.sl false 4 (List.map (GNode.enc false) nodes1))),(1,.t (vi k2)),(5,.t (.sl true 1 (List.map vi out6))),(6,.t (vi i7)),(7,.t (vi deep36))],[]⟩) (fun _=>True) (fun _ _=>?_) fun K22 hK22=>?_
    rotate_left
    ·obtain ⟨v33,hj24,hj21⟩:=bS hj21
     refine SWp.seqRC rfl (u _ rfl) [0,1,5,6,7,36] [] (fun _:Unit=>⟨[(0,.t (.sl false 4 (List.map (GNode.enc false) nodes1))),(1,.t (vi k2)),(5,.t (.sl true 1 (List.map vi out6))),(6,.t (vi i7)),(7,.t (vi 1)),(36,.t (vb v33))],[]⟩) (fun _=>True) (fun _ _=>?_) fun K25 hK25=>?_
     rotate_left
     ·refine wC rfl fun K q=>?_;simp [y];refine q _ ?_;clear q
      refine wC rfl fun K q=>?_;simp [y];refine q _ ?_;clear q
      obtain ⟨r26,hc27,hj24⟩:=bS hj24
      refine wL [(.take,.tmp 21),(.take,.tmp 22)] rfl rfl ent86 (spec_NodeOk_ok _ _ hc27) fun K q=>?_;simp [y];refine q _ ?_;clear q
      iterate 2 (refine wC rfl fun K q=>?_;simp [y];refine q _ ?_;clear q)
      rcases aA hj24 with ⟨hb28,hj24⟩ | ⟨hb29,hj24⟩
      ·have hb28s:=hb28
       try simp at hb28s
       iterate 10 (refine wO fun K q=>?_;simp [y,hb28,hb28s];refine q _ ?_;clear q)
       refine wC rfl fun K q=>?_;simp [y,hb28,hb28s];refine q _ ?_;clear q
       refine wN ?_
       cases hj24
       exact hK25 _ () [] trivial (by simp [y,hb28,hb28s])
      ·have hb29s:=hb29
       try simp at hb29s
       iterate 3 (refine wC rfl fun K q=>?_;simp [y,hb29,hb29s];refine q _ ?_;clear q)
       rcases aA hj24 with ⟨hb30,hj24⟩ | ⟨hb31,hj24⟩
       ·have hb30s:=hb30
        try simp at hb30s
        iterate 3 (refine wC rfl fun K q=>?_;simp [y,hb29,hb29s,hb30,hb30s];refine q _ ?_;clear q)
        obtain ⟨e32,he32,hj24⟩:=bS hj24
        obtain ⟨he32a,he32b,he32c,he32d⟩:=gS he32
        have he32j:=he32b;try simp at he32j
        try simp only [Int.toNat_natCast] at he32c he32d
        iterate 5 (refine wC rfl fun K q=>?_;simp [y,hb29,hb29s,hb30,hb30s,he32a,he32b,he32c,he32d,he32j];refine q _ ?_;clear q)
        refine wN ?_
        cases hj24
        exact hK25 _ () [] trivial (by simp [y,hb29,hb29s,hb30,hb30s,he32a,he32b,he32c,he32d,he32j])
       ·have hb31s:=hb31
        try simp at hb31s
        iterate 6 (refine wO fun K q=>?_;simp [y,hb29,hb29s,hb31,hb31s];refine q _ ?_;clear q)
        iterate 2 (refine wC rfl fun K q=>?_;simp [y,hb29,hb29s,hb31,hb31s];refine q _ ?_;clear q)
        refine wN ?_
        cases hj24
        exact hK25 _ () [] trivial (by simp [y,hb29,hb29s,hb31,hb31s])
     rcases aA hj21 with ⟨hb34,hj21⟩ | ⟨hb35,hj21⟩
     ·refine SWp.cT' (b:=v33) (by simp) hb34 ?_
      refine SWp.reg rfl (u _ rfl) fun K q=>?_
      refine wC rfl fun K q=>?_;simp [y];refine q _ ?_;clear q
      refine wN (q _ ?_);clear q
      cases hj21
      exact hK22 _ () [] trivial (by simp [y])
     ·refine SWp.cF' (b:=v33) (by simp) hb35 ?_
      refine SWp.skip ?_
      cases hj21
      exact hK22 _ () [] trivial (by simp [y])
    obtain ⟨deep62,hj37,hj18⟩:=bS hj18
    refine SWp.seqC [0,1,5,6,7] [] (fun _:Unit=>⟨[(0,.t (.sl false 4 (List.map (GNode.enc false) nodes1))),(1,.t (vi k2)),(5,.t (.sl true 1 (List.map vi out6))),(6,.t (vi i7)),(7,.t (vi deep62))],[]⟩) (fun _=>True) (fun _ _=>?_) fun K38 hK38=>?_
    rotate_left
    ·refine SWp.sR rfl (u _ rfl) fun K q=>?_
     refine wC rfl fun K q=>?_;simp [y];refine q _ ?_;clear q
     refine wN (q _ ?_);clear q
     refine SWp.block ?_
     refine SWp.loopO [] [0,1,5,6,7,8] [] (fun v:Int × Int=>⟨[(0,.t (.sl false 4 (List.map (GNode.enc false) nodes1))),(1,.t (vi k2)),(5,.t (.sl true 1 (List.map vi out6))),(6,.t (vi i7)),(7,.t (vi v.1)),(8,.t (vi v.2))],[]⟩) (bA nodes1 out6 i7) _ (deep36,0) hj37 (by simp [y]) ?_
     intro g s44 h42 ho43
     obtain ⟨deep40,j41⟩:=g
     simp only [bA] at h42
     try dsimp only
     refine SWp.seq ?_
     obtain ⟨v50,hj45,h42⟩:=bS h42
     refine SWp.seqRC rfl (u _ rfl) [0,1,5,6,7,8,48] [] (fun _:Unit=>⟨[(0,.t (.sl false 4 (List.map (GNode.enc false) nodes1))),(1,.t (vi k2)),(5,.t (.sl true 1 (List.map vi out6))),(6,.t (vi i7)),(7,.t (vi deep40)),(8,.t (vi j41)),(48,.t (vb v50))],[]⟩) (fun _=>True) (fun _ _=>?_) fun K46 hK46=>?_
     rotate_left
     ·refine wC rfl fun K q=>?_;simp [y];refine q _ ?_;clear q
      iterate 2 (refine wC rfl fun K q=>?_;simp [y];refine q _ ?_;clear q)
      rcases aA hj45 with ⟨hb47,hj45⟩ | ⟨hb48,hj45⟩
      ·have hb47s:=hb47
       try simp at hb47s
       iterate 3 (refine wC rfl fun K q=>?_;simp [y,hb47,hb47s];refine q _ ?_;clear q)
       obtain ⟨e49,he49,hj45⟩:=bS hj45
       obtain ⟨he49a,he49b,he49c,he49d⟩:=gS he49
       iterate 6 (refine wC rfl fun K q=>?_;simp [y,hb47,hb47s,he49a,he49b,he49c,he49d];refine q _ ?_;clear q)
       refine wN ?_
       cases hj45
       exact hK46 _ () [] trivial (by simp [y,hb47,hb47s,he49a,he49b,he49c,he49d])
      ·have hb48s:=hb48
       try simp at hb48s
       iterate 8 (refine wO fun K q=>?_;simp [y,hb48,hb48s];refine q _ ?_;clear q)
       refine wC rfl fun K q=>?_;simp [y,hb48,hb48s];refine q _ ?_;clear q
       refine wN ?_
       cases hj45
       exact hK46 _ () [] trivial (by simp [y,hb48,hb48s])
     rcases aA h42 with ⟨hb51,h42⟩ | ⟨hb52,h42⟩
     ·refine SWp.cT' (b:=v50) (by simp) hb51 ?_
      refine SWp.skip ?_
      show SWp E C _ _ _
      refine SWp.seq ?_
      refine SWp.block ?_
      refine SWp.sR rfl (u _ rfl) fun K q=>?_
      iterate 3 (refine wC rfl fun K q=>?_;simp [y];refine q _ ?_;clear q)
      obtain ⟨e53,he53,h42⟩:=bS h42
      obtain ⟨he53a,he53b,he53c,he53d⟩:=gS he53
      iterate 4 (refine wC rfl fun K q=>?_;simp [y,he53a,he53b,he53c,he53d];refine q _ ?_;clear q)
      obtain ⟨e54,he54,h42⟩:=bS h42
      obtain ⟨he54a,he54b,he54c,he54d⟩:=gS he54
      iterate 2 (refine wC rfl fun K q=>?_;simp [y,he53a,he53b,he53c,he53d,he54a,he54b,he54c,he54d];refine q _ ?_;clear q)
      obtain ⟨e55,he55,h42⟩:=bS h42
      obtain ⟨he55a,he55b,he55c,he55d⟩:=gS he55
      iterate 5 (refine wC rfl fun K q=>?_;simp [y,he53a,he53b,he53c,he53d,he54a,he54b,he54c,he54d,he55a,he55b,he55c,he55d];refine q _ ?_;clear q)
      refine wN (q _ ?_);clear q
      rcases aA h42 with ⟨hb56,h42⟩ | ⟨hb57,h42⟩
      ·refine SWp.cT' (b:=decide (IntKind.wrap .i64 (e55 + 1) > deep40)) (by simp) hb56 ?_
       refine SWp.reg rfl (u _ rfl) fun K q=>?_
       iterate 3 (refine wC rfl fun K q=>?_;simp [y];refine q _ ?_;clear q)
       obtain ⟨e58,he58,h42⟩:=bS h42
       obtain ⟨he58a,he58b,he58c,he58d⟩:=gS he58
       iterate 4 (refine wC rfl fun K q=>?_;simp [y,he58a,he58b,he58c,he58d];refine q _ ?_;clear q)
       obtain ⟨e59,he59,h42⟩:=bS h42
       obtain ⟨he59a,he59b,he59c,he59d⟩:=gS he59
       iterate 2 (refine wC rfl fun K q=>?_;simp [y,he58a,he58b,he58c,he58d,he59a,he59b,he59c,he59d];refine q _ ?_;clear q)
       obtain ⟨e60,he60,h42⟩:=bS h42
       obtain ⟨he60a,he60b,he60c,he60d⟩:=gS he60
       iterate 4 (refine wC rfl fun K q=>?_;simp [y,he58a,he58b,he58c,he58d,he59a,he59b,he59c,he59d,he60a,he60b,he60c,he60d];refine q _ ?_;clear q)
       refine wN (q _ ?_);clear q
       show SWp E C _ _ _
       refine SWp.reg rfl (u _ rfl) fun K q=>?_
       iterate 3 (refine wC rfl fun K q=>?_;simp [y];refine q _ ?_;clear q)
       refine wN (q _ ?_);clear q
       cases h42
       exact ⟨_,[],rfl,by simp [y]⟩
      ·refine SWp.cF' (b:=decide (IntKind.wrap .i64 (e55 + 1) > deep40)) (by simp) hb57 ?_
       refine SWp.skip ?_
       show SWp E C _ _ _
       refine SWp.reg rfl (u _ rfl) fun K q=>?_
       iterate 3 (refine wC rfl fun K q=>?_;simp [y];refine q _ ?_;clear q)
       refine wN (q _ ?_);clear q
       cases h42
       exact ⟨_,[],rfl,by simp [y]⟩
     ·refine SWp.cF' (b:=v50) (by simp) hb52 ?_
      refine SWp.exit ?_
      have h61:=congrArg some (ho43 _ (Option.some.inj h42).symm)
      cases h61
      exact hK38 _ () [] trivial (by simp [y])
    obtain ⟨deep68,hj63,hj18⟩:=bS hj18
    refine SWp.seqC [0,1,5,6,7] [] (fun _:Unit=>⟨[(0,.t (.sl false 4 (List.map (GNode.enc false) nodes1))),(1,.t (vi k2)),(5,.t (.sl true 1 (List.map vi out6))),(6,.t (vi i7)),(7,.t (vi deep68))],[]⟩) (fun _=>True) (fun _ _=>?_) fun K64 hK64=>?_
    rotate_left
    ·refine SWp.sR rfl (u _ rfl) fun K q=>?_
     iterate 2 (refine wC rfl fun K q=>?_;simp [y];refine q _ ?_;clear q)
     refine wN (q _ ?_);clear q
     rcases aA hj63 with ⟨hb66,hj63⟩ | ⟨hb67,hj63⟩
     ·refine SWp.cT' (b:=decide (deep62 > 10)) (by simp) hb66 ?_
      refine SWp.reg rfl (u _ rfl) fun K q=>?_
      refine wC rfl fun K q=>?_;simp [y];refine q _ ?_;clear q
      refine wN (q _ ?_);clear q
      cases hj63
      exact hK64 _ () [] trivial (by simp [y])
     ·refine SWp.cF' (b:=decide (deep62 > 10)) (by simp) hb67 ?_
      refine SWp.skip ?_
      cases hj63
      exact hK64 _ () [] trivial (by simp [y])
    refine SWp.reg rfl (u _ rfl) fun K q=>?_
    iterate 3 (refine wC rfl fun K q=>?_;simp [y];refine q _ ?_;clear q)
    obtain ⟨l69,hl69,hj18⟩:=bS hj18
    obtain ⟨hl69a,hl69b,hl69d⟩:=aS hl69
    have hl69f:List.map vi out6 ++ List.map vi [deep68]=List.map vi l69:=cC (f:=vi) hl69d
    simp [eSl] at hl69a hl69b hl69f
    iterate 2 (refine wC rfl fun K q=>?_;simp [y,hl69a,hl69b,hl69f];refine q _ ?_;clear q)
    refine wN (q _ ?_);clear q
    cases hj18
    exact hK19 _ () [] trivial (by simp [y])
   refine SWp.reg rfl (u _ rfl) fun K q=>?_
   iterate 3 (refine wC rfl fun K q=>?_;simp [y];refine q _ ?_;clear q)
   refine wN (q _ ?_);clear q
   cases h8
   exact ⟨_,[],rfl,by simp [y]⟩
  ·refine SWp.cF' (b:=v15) (by simp) hb17 ?_
   refine SWp.exit ?_
   have h71:=congrArg some (ho9 _ (Option.some.inj h8).symm)
   cases h71
   exact hK4 _ () [] trivial (by simp [y])
 refine SWp.sR rfl (u _ rfl) fun K q=>?_
 iterate 2 (refine wC rfl fun K q=>?_;simp [y];refine q _ ?_;clear q)
 refine wN (q _ ?_);clear q
 cases h
 refine SWp.ret ?_
 simp [aC,iB,res54]
theorem res55:Tryz.f55.results.toList=[.tmp 2]:=rfl
theorem ent55:aE E.P 55:=eO Tryz.func55 (by simp [Tryz.f55]) rfl
theorem spec_l04Used_ok (nodes1:List GNode) {r0:List Int} (h:iO nodes1=some r0):Ok E 55 [.val (.sl false 4 (List.map (GNode.enc false) nodes1))] [.sl true 1 (List.map vi r0)] []:=by
 refine oB (fn:=Tryz.f55) Tryz.func55 rfl (by simp [Tryz.f55]) fun C hN hP=>?_
 have u:∀ l,pinK [] l=true→pinB C.pin l=true:=pO (by rw [hP];rfl)
 have y:C.N=39:=hN
 clear hN
 unfold iO at h
 refine SWp.sR rfl (u _ rfl) fun K q=>?_
 refine wC rfl fun K q=>?_;simp [y];refine q _ ?_;clear q
 refine wN (q _ ?_);clear q
 refine SWp.sR rfl (u _ rfl) fun K q=>?_
 iterate 2 (refine wC rfl fun K q=>?_;simp [y];refine q _ ?_;clear q)
 obtain ⟨l2,hl2,h⟩:=bS h
 obtain ⟨hl2a,hl2b,hl2c,hl2d⟩:=mS hl2
 have hl2f:List.replicate (nodes1.length:Int).toNat (vi 0)=List.map vi l2:=nO (f:=vi) hl2d
 try simp only [Int.toNat_natCast] at hl2f
 iterate 2 (refine wC rfl fun K q=>?_;simp [y,hl2a,hl2b,hl2c,hl2f];refine q _ ?_;clear q)
 refine wN (q _ ?_);clear q
 obtain ⟨out31,hj3,h⟩:=bS h
 refine SWp.seqC [3] [] (fun _:Unit=>⟨[(3,.t (.sl true 1 (List.map vi out31)))],[]⟩) (fun _=>True) (fun _ _=>?_) fun K4 hK4=>?_
 rotate_left
 ·refine SWp.sR rfl (u _ rfl) fun K q=>?_
  refine wC rfl fun K q=>?_;simp [y];refine q _ ?_;clear q
  refine wN (q _ ?_);clear q
  refine SWp.block ?_
  refine SWp.loopO [] [0,3,4] [] (fun v:(List Int) × Int=>⟨[(0,.t (.sl false 4 (List.map (GNode.enc false) nodes1))),(3,.t (.sl true 1 (List.map vi v.1))),(4,.t (vi v.2))],[]⟩) (dU nodes1) _ (l2,0) hj3 (by simp [y]) ?_
  intro g s10 h8 ho9
  obtain ⟨out6,i7⟩:=g
  simp only [dU] at h8
  try dsimp only
  refine SWp.seq ?_
  refine SWp.sR rfl (u _ rfl) fun K q=>?_
  iterate 4 (refine wC rfl fun K q=>?_;simp [y];refine q _ ?_;clear q)
  refine wN (q _ ?_);clear q
  rcases aA h8 with ⟨hb11,h8⟩ | ⟨hb12,h8⟩
  ·refine SWp.cT' (b:=decide (i7 < (nodes1.length:Int))) (by simp) hb11 ?_
   refine SWp.skip ?_
   show SWp E C _ _ _
   obtain ⟨out29,hj13,h8⟩:=bS h8
   refine SWp.seqC [0,3,4] [] (fun _:Unit=>⟨[(0,.t (.sl false 4 (List.map (GNode.enc false) nodes1))),(3,.t (.sl true 1 (List.map vi out29))),(4,.t (vi i7))],[]⟩) (fun _=>True) (fun _ _=>?_) fun K14 hK14=>?_
   rotate_left
   ·refine SWp.block ?_
    refine SWp.sR rfl (u _ rfl) fun K q=>?_
    refine wC rfl fun K q=>?_;simp [y];refine q _ ?_;clear q
    refine wN (q _ ?_);clear q
    refine SWp.block ?_
    refine SWp.loopO [] [0,3,4,5] [] (fun v:(List Int) × Int=>⟨[(0,.t (.sl false 4 (List.map (GNode.enc false) nodes1))),(3,.t (.sl true 1 (List.map vi v.1))),(4,.t (vi i7)),(5,.t (vi v.2))],[]⟩) (dS nodes1 i7) _ (out6,0) hj13 (by simp [y]) ?_
    intro g s20 h18 ho19
    obtain ⟨out16,j17⟩:=g
    simp only [dS] at h18
    try dsimp only
    refine SWp.seq ?_
    refine SWp.sR rfl (u _ rfl) fun K q=>?_
    iterate 3 (refine wC rfl fun K q=>?_;simp [y];refine q _ ?_;clear q)
    obtain ⟨e21,he21,h18⟩:=bS h18
    obtain ⟨he21a,he21b,he21c,he21d⟩:=gS he21
    iterate 5 (refine wC rfl fun K q=>?_;simp [y,he21a,he21b,he21c,he21d];refine q _ ?_;clear q)
    refine wN (q _ ?_);clear q
    rcases aA h18 with ⟨hb22,h18⟩ | ⟨hb23,h18⟩
    ·refine SWp.cT' (b:=decide (j17 < (e21.Kids.length:Int))) (by simp) hb22 ?_
     refine SWp.skip ?_
     show SWp E C _ _ _
     refine SWp.seq ?_
     refine SWp.block ?_
     refine SWp.reg rfl (u _ rfl) fun K q=>?_
     iterate 3 (refine wC rfl fun K q=>?_;simp [y];refine q _ ?_;clear q)
     obtain ⟨e24,he24,h18⟩:=bS h18
     obtain ⟨he24a,he24b,he24c,he24d⟩:=gS he24
     iterate 4 (refine wC rfl fun K q=>?_;simp [y,he24a,he24b,he24c,he24d];refine q _ ?_;clear q)
     obtain ⟨e25,he25,h18⟩:=bS h18
     obtain ⟨he25a,he25b,he25c,he25d⟩:=gS he25
     iterate 2 (refine wC rfl fun K q=>?_;simp [y,he24a,he24b,he24c,he24d,he25a,he25b,he25c,he25d];refine q _ ?_;clear q)
     obtain ⟨e26,he26,h18⟩:=bS h18
     obtain ⟨he26a,he26b,he26c,he26d⟩:=gS he26
     iterate 4 (refine wC rfl fun K q=>?_;simp [y,he24a,he24b,he24c,he24d,he25a,he25b,he25c,he25d,he26a,he26b,he26c,he26d];refine q _ ?_;clear q)
     obtain ⟨l27,hl27,h18⟩:=bZ h18
     have hl27f:(List.map vi out16).set e25.toNat (vi (IntKind.wrap .i64 (e26 + 1)))=List.map vi l27:=cE (f:=vi) hl27
     try simp only [Int.toNat_natCast] at hl27f
     refine wC rfl fun K q=>?_;simp [y,he24a,he24b,he24c,he24d,he25a,he25b,he25c,he25d,he26a,he26b,he26c,he26d,hl27f];refine q _ ?_;clear q
     refine wN (q _ ?_);clear q
     show SWp E C _ _ _
     refine SWp.reg rfl (u _ rfl) fun K q=>?_
     iterate 3 (refine wC rfl fun K q=>?_;simp [y];refine q _ ?_;clear q)
     refine wN (q _ ?_);clear q
     cases h18
     exact ⟨_,[],rfl,by simp [y]⟩
    ·refine SWp.cF' (b:=decide (j17 < (e21.Kids.length:Int))) (by simp) hb23 ?_
     refine SWp.exit ?_
     have h28:=congrArg some (ho19 _ (Option.some.inj h18).symm)
     cases h28
     exact hK14 _ () [] trivial (by simp [y])
   refine SWp.reg rfl (u _ rfl) fun K q=>?_
   iterate 3 (refine wC rfl fun K q=>?_;simp [y];refine q _ ?_;clear q)
   refine wN (q _ ?_);clear q
   cases h8
   exact ⟨_,[],rfl,by simp [y]⟩
  ·refine SWp.cF' (b:=decide (i7 < (nodes1.length:Int))) (by simp) hb12 ?_
   refine SWp.exit ?_
   have h30:=congrArg some (ho9 _ (Option.some.inj h8).symm)
   cases h30
   exact hK4 _ () [] trivial (by simp [y])
 refine SWp.sR rfl (u _ rfl) fun K q=>?_
 iterate 2 (refine wC rfl fun K q=>?_;simp [y];refine q _ ?_;clear q)
 refine wN (q _ ?_);clear q
 cases h
 refine SWp.ret ?_
 simp [aC,iB,res55]
end Go.Proofs.T
