import Derived.Test.YtaikgmffaohobaaGreatDoorOmC
import Derived.Lib.Split
import Derived.Lib.ItoaNum
import Derived.Test.YtaikgmffaohobaaGreatDoorProg
import Derived.KernelRfl
set_option linter.unusedVariables false
set_option linter.unusedSimpArgs false
set_option linter.unusedVariables false
noncomputable section
namespace Go.OM
def strings_Split (s sep:ByteArray):Option (List ByteArray):=if s.size < 4294967281∧1 ≤ sep.size∧(Lib.splitB sep 0 (Lib.countB s sep) s).length=Lib.countB s sep + 1 then some (Lib.splitB sep 0 (Lib.countB s sep) s) else none
end Go.OM
end
namespace Go.OM
def sort_Ints (l:List Int):Option (List Int):=if l.length < 4611686018427387904 then some (l.mergeSort fun x y=>decide (x ≤ y)) else none
end Go.OM
set_option linter.unusedSimpArgs false
namespace Go.OM
def dG:Nat:=1048576
abbrev vi (n:Int):T:=.v (.int .i64 n)
abbrev vk (k:IntKind) (n:Int):T:=.v (.int k n)
abbrev vb (b:Bool):T:=.v (.bool b)
abbrev vs (z:ByteArray):T:=.v (.string z)
abbrev eSl {α:Type} (o:Bool) (s:Nat) (f:α→T) (l:List α):T:=.sl o s (l.map f)
@[simp] theorem own_vi (l:List Int):T.hasOwnL (l.map vi)=false:=bG vi (fun _=>rfl) l
@[simp] theorem own_vk (k:IntKind) (l:List Int):T.hasOwnL (l.map (vk k))=false:=bG _ (fun _=>rfl) l
@[simp] theorem own_vb (l:List Bool):T.hasOwnL (l.map vb)=false:=bG _ (fun _=>rfl) l
@[simp] theorem own_vs (l:List ByteArray):T.hasOwnL (l.map vs)=false:=bG _ (fun _=>rfl) l
@[simp] theorem ro_vi (l:List Int):T.roL (l.map vi)=l.map vi:=fF _ _ (fun _=>rfl) l
@[simp] theorem ro_vk (k:IntKind) (l:List Int):T.roL (l.map (vk k))=l.map (vk k):=fF _ _ (fun _=>rfl) l
@[simp] theorem ro_vb (l:List Bool):T.roL (l.map vb)=l.map vb:=fF _ _ (fun _=>rfl) l
@[simp] theorem ro_vs (l:List ByteArray):T.roL (l.map vs)=l.map vs:=fF _ _ (fun _=>rfl) l
@[simp] theorem noRo_vi (l:List Int):T.noRoL (l.map vi)=true:=cS _ (fun _=>rfl) l
@[simp] theorem noRo_vk (k:IntKind) (l:List Int):T.noRoL (l.map (vk k))=true:=cS _ (fun _=>rfl) l
@[simp] theorem noRo_vb (l:List Bool):T.noRoL (l.map vb)=true:=cS _ (fun _=>rfl) l
@[simp] theorem noRo_vs (l:List ByteArray):T.noRoL (l.map vs)=true:=cS _ (fun _=>rfl) l
@[simp] theorem own_eSl {α:Type} {s:Nat} {f:α→T} (h:∀ l:List α,T.hasOwnL (l.map f)=false) (l:List (List α)):T.hasOwnL (l.map (eSl false s f))=false:=bG _ (fun x=>by simp [h x]) l
@[simp] theorem ro_eSl {α:Type} {o:Bool} {s:Nat} {f:α→T} (h:∀ l:List α,T.roL (l.map f)=l.map f) (l:List (List α)):T.roL (l.map (eSl o s f))=l.map (eSl false s f):=fF _ _ (fun x=>by simp [h x]) l
@[simp] theorem noRo_eSl {α:Type} {s:Nat} {f:α→T} (h:∀ l:List α,T.noRoL (l.map f)=true) (l:List (List α)):T.noRoL (l.map (eSl true s f))=true:=cS _ (fun x=>by simp [h x]) l
theorem aA {α:Type} {c:Prop} [Decidable c] {a b:Option α} {r:α} (h:(if c then a else b)=some r):(c∧a=some r) ∨ (¬ c∧b=some r):=by
 by_cases hc:c
 ·rw [if_pos hc] at h;exact .inl ⟨hc,h⟩
 ·rw [if_neg hc] at h;exact .inr ⟨hc,h⟩
structure GNode where
 Kind:Int
 Num:Int
 Name:ByteArray
 Kids:List Int
 deriving DecidableEq
def GNode.enc (o:Bool) (x:GNode):T:=.agg [vi x.Kind,vi x.Num,vs x.Name,.sl o 1 (List.map vi x.Kids)]
@[simp] theorem GNode.own (x:GNode):(x.enc false).hasOwn=false:=by simp [GNode.enc]
@[simp] theorem GNode.ownT (x:GNode):(x.enc true).hasOwn=true:=by simp [GNode.enc]
@[simp] theorem GNode.ownL (l:List GNode):T.hasOwnL (l.map (GNode.enc false))=false:=bG _ (fun x=>by simp) l
@[simp] theorem GNode.ro1 (o:Bool) (x:GNode):(x.enc o).ro=x.enc false:=by cases o<;>simp [GNode.enc,T.roL_map,Function.comp_def]
@[simp] theorem GNode.roL (o:Bool) (l:List GNode):T.roL (l.map (GNode.enc o))=l.map (GNode.enc false):=fF _ _ (fun x=>by simp) l
@[simp] theorem GNode.noRo (x:GNode):(x.enc true).noRo=true:=by simp [GNode.enc]
@[simp] theorem GNode.noRoL (l:List GNode):T.noRoL (l.map (GNode.enc true))=true:=cS _ (fun x=>by simp) l
structure GParam where
 Name:ByteArray
 Typ:Int
 deriving DecidableEq
def GParam.enc (x:GParam):T:=.agg [vs x.Name,vi x.Typ]
@[simp] theorem GParam.own (x:GParam):x.enc.hasOwn=false:=by simp [GParam.enc]
@[simp] theorem GParam.ownL (l:List GParam):T.hasOwnL (l.map GParam.enc)=false:=bG _ (fun x=>by simp) l
@[simp] theorem GParam.ro1 (x:GParam):x.enc.ro=x.enc:=by simp [GParam.enc]
@[simp] theorem GParam.roL (l:List GParam):T.roL (l.map GParam.enc)=l.map GParam.enc:=fF _ _ (fun x=>by simp) l
@[simp] theorem GParam.noRo (x:GParam):x.enc.noRo=true:=by simp [GParam.enc]
@[simp] theorem GParam.noRoL (l:List GParam):T.noRoL (l.map GParam.enc)=true:=cS _ (fun x=>by simp) l
structure GFn where
 Name:ByteArray
 Params:List GParam
 Res:Int
 Body:Int
 Ret:Int
 deriving DecidableEq
def GFn.enc (o:Bool) (x:GFn):T:=.agg [vs x.Name,.sl o 2 (List.map GParam.enc x.Params),vi x.Res,vi x.Body,vi x.Ret]
@[simp] theorem GFn.own (x:GFn):(x.enc false).hasOwn=false:=by simp [GFn.enc]
@[simp] theorem GFn.ownT (x:GFn):(x.enc true).hasOwn=true:=by simp [GFn.enc]
@[simp] theorem GFn.ownL (l:List GFn):T.hasOwnL (l.map (GFn.enc false))=false:=bG _ (fun x=>by simp) l
@[simp] theorem GFn.ro1 (o:Bool) (x:GFn):(x.enc o).ro=x.enc false:=by cases o<;>simp [GFn.enc,T.roL_map,Function.comp_def]
@[simp] theorem GFn.roL (o:Bool) (l:List GFn):T.roL (l.map (GFn.enc o))=l.map (GFn.enc false):=fF _ _ (fun x=>by simp) l
@[simp] theorem GFn.noRo (x:GFn):(x.enc true).noRo=true:=by simp [GFn.enc]
@[simp] theorem GFn.noRoL (l:List GFn):T.noRoL (l.map (GFn.enc true))=true:=cS _ (fun x=>by simp) l
structure GProgram where
 Nodes:List GNode
 Fns:List GFn
 deriving DecidableEq
def GProgram.enc (o:Bool) (x:GProgram):T:=.agg [.sl o 4 (List.map (GNode.enc o) x.Nodes),.sl o 5 (List.map (GFn.enc o) x.Fns)]
@[simp] theorem GProgram.own (x:GProgram):(x.enc false).hasOwn=false:=by simp [GProgram.enc]
@[simp] theorem GProgram.ownT (x:GProgram):(x.enc true).hasOwn=true:=by simp [GProgram.enc]
@[simp] theorem GProgram.ownL (l:List GProgram):T.hasOwnL (l.map (GProgram.enc false))=false:=bG _ (fun x=>by simp) l
@[simp] theorem GProgram.ro1 (o:Bool) (x:GProgram):(x.enc o).ro=x.enc false:=by cases o<;>simp [GProgram.enc,T.roL_map,Function.comp_def]
@[simp] theorem GProgram.roL (o:Bool) (l:List GProgram):T.roL (l.map (GProgram.enc o))=l.map (GProgram.enc false):=fF _ _ (fun x=>by simp) l
@[simp] theorem GProgram.noRo (x:GProgram):(x.enc true).noRo=true:=by simp [GProgram.enc]
@[simp] theorem GProgram.noRoL (l:List GProgram):T.noRoL (l.map (GProgram.enc true))=true:=cS _ (fun x=>by simp) l
structure GVar where
 Name:ByteArray
 Typ:Int
 Node:Int
 deriving DecidableEq
def GVar.enc (x:GVar):T:=.agg [vs x.Name,vi x.Typ,vi x.Node]
@[simp] theorem GVar.own (x:GVar):x.enc.hasOwn=false:=by simp [GVar.enc]
@[simp] theorem GVar.ownL (l:List GVar):T.hasOwnL (l.map GVar.enc)=false:=bG _ (fun x=>by simp) l
@[simp] theorem GVar.ro1 (x:GVar):x.enc.ro=x.enc:=by simp [GVar.enc]
@[simp] theorem GVar.roL (l:List GVar):T.roL (l.map GVar.enc)=l.map GVar.enc:=fF _ _ (fun x=>by simp) l
@[simp] theorem GVar.noRo (x:GVar):x.enc.noRo=true:=by simp [GVar.enc]
@[simp] theorem GVar.noRoL (l:List GVar):T.noRoL (l.map GVar.enc)=true:=cS _ (fun x=>by simp) l
structure Gl07Seen where
 p:GProgram
 fn:Int
 there:List ByteArray
 bad:Bool
 deriving DecidableEq
def Gl07Seen.enc (o:Bool) (x:Gl07Seen):T:=.agg [.sl o 4 (List.map (GNode.enc o) x.p.Nodes),.sl o 5 (List.map (GFn.enc o) x.p.Fns),vi x.fn,.sl o 1 (List.map vs x.there),vb x.bad]
@[simp] theorem Gl07Seen.own (x:Gl07Seen):(x.enc false).hasOwn=false:=by simp [Gl07Seen.enc]
@[simp] theorem Gl07Seen.ownT (x:Gl07Seen):(x.enc true).hasOwn=true:=by simp [Gl07Seen.enc]
@[simp] theorem Gl07Seen.ownL (l:List Gl07Seen):T.hasOwnL (l.map (Gl07Seen.enc false))=false:=bG _ (fun x=>by simp) l
@[simp] theorem Gl07Seen.ro1 (o:Bool) (x:Gl07Seen):(x.enc o).ro=x.enc false:=by cases o<;>simp [Gl07Seen.enc,T.roL_map,Function.comp_def]
@[simp] theorem Gl07Seen.roL (o:Bool) (l:List Gl07Seen):T.roL (l.map (Gl07Seen.enc o))=l.map (Gl07Seen.enc false):=fF _ _ (fun x=>by simp) l
@[simp] theorem Gl07Seen.noRo (x:Gl07Seen):(x.enc true).noRo=true:=by simp [Gl07Seen.enc]
@[simp] theorem Gl07Seen.noRoL (l:List Gl07Seen):T.noRoL (l.map (Gl07Seen.enc true))=true:=cS _ (fun x=>by simp) l
structure Gl04Pack where
 from_:List GNode
 to_:List GNode
 bad:Bool
 deriving DecidableEq
def Gl04Pack.enc (o:Bool) (x:Gl04Pack):T:=.agg [.sl o 4 (List.map (GNode.enc o) x.from_),.sl o 4 (List.map (GNode.enc o) x.to_),vb x.bad]
@[simp] theorem Gl04Pack.own (x:Gl04Pack):(x.enc false).hasOwn=false:=by simp [Gl04Pack.enc]
@[simp] theorem Gl04Pack.ownT (x:Gl04Pack):(x.enc true).hasOwn=true:=by simp [Gl04Pack.enc]
@[simp] theorem Gl04Pack.ownL (l:List Gl04Pack):T.hasOwnL (l.map (Gl04Pack.enc false))=false:=bG _ (fun x=>by simp) l
@[simp] theorem Gl04Pack.ro1 (o:Bool) (x:Gl04Pack):(x.enc o).ro=x.enc false:=by cases o<;>simp [Gl04Pack.enc,T.roL_map,Function.comp_def]
@[simp] theorem Gl04Pack.roL (o:Bool) (l:List Gl04Pack):T.roL (l.map (Gl04Pack.enc o))=l.map (Gl04Pack.enc false):=fF _ _ (fun x=>by simp) l
@[simp] theorem Gl04Pack.noRo (x:Gl04Pack):(x.enc true).noRo=true:=by simp [Gl04Pack.enc]
@[simp] theorem Gl04Pack.noRoL (l:List Gl04Pack):T.noRoL (l.map (Gl04Pack.enc true))=true:=cS _ (fun x=>by simp) l
structure Gpacker where
 from_:List GNode
 to_:List GNode
 bad:Bool
 deriving DecidableEq
def Gpacker.enc (o:Bool) (x:Gpacker):T:=.agg [.sl o 4 (List.map (GNode.enc o) x.from_),.sl o 4 (List.map (GNode.enc o) x.to_),vb x.bad]
@[simp] theorem Gpacker.own (x:Gpacker):(x.enc false).hasOwn=false:=by simp [Gpacker.enc]
@[simp] theorem Gpacker.ownT (x:Gpacker):(x.enc true).hasOwn=true:=by simp [Gpacker.enc]
@[simp] theorem Gpacker.ownL (l:List Gpacker):T.hasOwnL (l.map (Gpacker.enc false))=false:=bG _ (fun x=>by simp) l
@[simp] theorem Gpacker.ro1 (o:Bool) (x:Gpacker):(x.enc o).ro=x.enc false:=by cases o<;>simp [Gpacker.enc,T.roL_map,Function.comp_def]
@[simp] theorem Gpacker.roL (o:Bool) (l:List Gpacker):T.roL (l.map (Gpacker.enc o))=l.map (Gpacker.enc false):=fF _ _ (fun x=>by simp) l
@[simp] theorem Gpacker.noRo (x:Gpacker):(x.enc true).noRo=true:=by simp [Gpacker.enc]
@[simp] theorem Gpacker.noRoL (l:List Gpacker):T.noRoL (l.map (Gpacker.enc true))=true:=cS _ (fun x=>by simp) l
attribute [simp] GNode.enc GParam.enc GFn.enc GProgram.enc GVar.enc Gl07Seen.enc Gl04Pack.enc Gpacker.enc
end Go.OM
noncomputable section
namespace Go.OM
def kF (a1:List Int) (left2:Int):Option (Int) :=
 if (decide (IntKind.wrap .i64 (left2 - (a1.length:Int)) < 0))=true then
  some (-1)
 else
  some (IntKind.wrap .i64 (left2 - (a1.length:Int)))
def kE (a1:GNode) (left2:Int):Option (Int) :=
 if (decide (IntKind.wrap .i64 (left2 - (a1.Name.size:Int)) < 0))=true then
  some (-1)
 else
  (kF a1.Kids (IntKind.wrap .i64 (left2 - (a1.Name.size:Int)))).bind fun r5 =>
  if (decide (r5 < 0))=true then
   some (-1)
  else
   some r5
def cK (a1:List GNode):(Int × Int)→Option ((Int × Int) ⊕ ((Int) ⊕ (Int))):=fun ⟨left8,i9⟩ =>
 if (decide (i9 < (a1.length:Int)))=true then
  (getI a1 i9).bind fun e15 =>
  (kE e15 left8).bind fun r16 =>
  if (decide (r16 < 0))=true then
   some (Sum.inr (Sum.inr (-1)))
  else
   some (Sum.inl (r16,IntKind.wrap .i64 (i9 + 1)))
 else
  some (Sum.inr (Sum.inl left8))
def iR (a1:List GNode) (left2:Int):Option (Int) :=
 if (decide (IntKind.wrap .i64 (left2 - (a1.length:Int)) < 0))=true then
  some (-1)
 else
  Option.bind (
   aI (cK a1) (IntKind.wrap .i64 (left2 - (a1.length:Int)),0)) fun j7 =>
  match j7 with
  | Sum.inr z=>some z
  | Sum.inl left22 =>
   some left22
def iQ (a1:GParam) (left2:Int):Option (Int) :=
 if (decide (IntKind.wrap .i64 (left2 - (a1.Name.size:Int)) < 0))=true then
  some (-1)
 else
  some (IntKind.wrap .i64 (left2 - (a1.Name.size:Int)))
def bR (a1:List GParam):(Int × Int)→Option ((Int × Int) ⊕ ((Int) ⊕ (Int))):=fun ⟨left8,i9⟩ =>
 if (decide (i9 < (a1.length:Int)))=true then
  (getI a1 i9).bind fun e15 =>
  (iQ e15 left8).bind fun r16 =>
  if (decide (r16 < 0))=true then
   some (Sum.inr (Sum.inr (-1)))
  else
   some (Sum.inl (r16,IntKind.wrap .i64 (i9 + 1)))
 else
  some (Sum.inr (Sum.inl left8))
def gQ (a1:List GParam) (left2:Int):Option (Int) :=
 if (decide (IntKind.wrap .i64 (left2 - (a1.length:Int)) < 0))=true then
  some (-1)
 else
  Option.bind (
   aI (bR a1) (IntKind.wrap .i64 (left2 - (a1.length:Int)),0)) fun j7 =>
  match j7 with
  | Sum.inr z=>some z
  | Sum.inl left22 =>
   some left22
def nW (a1:GFn) (left2:Int):Option (Int) :=
 if (decide (IntKind.wrap .i64 (left2 - (a1.Name.size:Int)) < 0))=true then
  some (-1)
 else
  (gQ a1.Params (IntKind.wrap .i64 (left2 - (a1.Name.size:Int)))).bind fun r5 =>
  if (decide (r5 < 0))=true then
   some (-1)
  else
   some r5
def dR (a1:List GFn):(Int × Int)→Option ((Int × Int) ⊕ ((Int) ⊕ (Int))):=fun ⟨left8,i9⟩ =>
 if (decide (i9 < (a1.length:Int)))=true then
  (getI a1 i9).bind fun e15 =>
  (nW e15 left8).bind fun r16 =>
  if (decide (r16 < 0))=true then
   some (Sum.inr (Sum.inr (-1)))
  else
   some (Sum.inl (r16,IntKind.wrap .i64 (i9 + 1)))
 else
  some (Sum.inr (Sum.inl left8))
def lR (a1:List GFn) (left2:Int):Option (Int) :=
 if (decide (IntKind.wrap .i64 (left2 - (a1.length:Int)) < 0))=true then
  some (-1)
 else
  Option.bind (
   aI (dR a1) (IntKind.wrap .i64 (left2 - (a1.length:Int)),0)) fun j7 =>
  match j7 with
  | Sum.inr z=>some z
  | Sum.inl left22 =>
   some left22
def fU (a1:GProgram) (left2:Int):Option (Int) :=
 (iR a1.Nodes left2).bind fun r3 =>
 if (decide (r3 < 0))=true then
  some (-1)
 else
  (lR a1.Fns r3).bind fun r7 =>
  if (decide (r7 < 0))=true then
   some (-1)
  else
   some r7
def aR (x1:Int) (least2:Int) (most3:Int):Option (Bool) :=
 Option.bind (
  if (decide (x1 ≥ least2))=true then
   some (decide (x1 ≤ most3))
  else
   some false) fun v8 =>
 some v8
def eC (b1:Int):Option (Bool) :=
 Option.bind (
  if (decide (b1 ≥ 97))=true then
   some (decide (b1 ≤ 122))
  else
   some false) fun v6 =>
 some v6
def kT:Option (List ByteArray) :=
 some [(⟨#[102,110]⟩:ByteArray),(⟨#[108,101,116]⟩:ByteArray),(⟨#[105,102]⟩:ByteArray),(⟨#[101,108,115,101]⟩:ByteArray),(⟨#[119,104,105,108,101]⟩:ByteArray),(⟨#[112,114,105,110,116]⟩:ByteArray),(⟨#[100,111]⟩:ByteArray),(⟨#[110,101,119]⟩:ByteArray),(⟨#[99,108,111,110,101]⟩:ByteArray),(⟨#[109,117,116]⟩:ByteArray),(⟨#[105,110,112,117,116]⟩:ByteArray),(⟨#[105,110,116]⟩:ByteArray),(⟨#[98,111,120]⟩:ByteArray),(⟨#[114,101,116]⟩:ByteArray)]
def eV (s1:ByteArray) (r2:List ByteArray):Int→Option ((Int) ⊕ ((Unit) ⊕ (Bool))):=fun i7 =>
 if (decide (i7 < (r2.length:Int)))=true then
  (getI r2 i7).bind fun e13 =>
  if (sEq e13 s1)=true then
   some (Sum.inr (Sum.inr true))
  else
   some (Sum.inl (IntKind.wrap .i64 (i7 + 1)))
 else
  some (Sum.inr (Sum.inl ()))
def iJ (s1:ByteArray):Option (Bool) :=
 (kT ).bind fun r2 =>
 Option.bind (
  aI (eV s1 r2) 0) fun j6 =>
 match j6 with
 | Sum.inr z=>some z
 | Sum.inl () =>
  some false
def fR (b1:Int):Option (Bool) :=
 Option.bind (
  if (decide (b1 ≥ 48))=true then
   some (decide (b1 ≤ 57))
  else
   some false) fun v6 =>
 some v6
def eH (s1:ByteArray):Int→Option ((Int) ⊕ ((Unit) ⊕ (Bool))):=fun i21 =>
 if (decide (i21 < (s1.size:Int)))=true then
  Option.bind (
   (sAt s1 i21).bind fun c29 =>
   (eC c29).bind fun r30 =>
   if (!r30)=true then
    (fR c29).bind fun r34 =>
    some (!r34)
   else
    some false) fun v36 =>
  if v36=true then
   some (Sum.inr (Sum.inr false))
  else
   some (Sum.inl (IntKind.wrap .i64 (i21 + 1)))
 else
  some (Sum.inr (Sum.inl ()))
def fY (s1:ByteArray):Option (Bool) :=
 Option.bind (
  (aR (s1.size:Int) 1 8).bind fun r4 =>
  if (!r4)=true then
   some true
  else
   (sAt s1 0).bind fun c8 =>
   (eC c8).bind fun r9 =>
   if (!r9)=true then
    some true
   else
    (iJ s1).bind fun r13 =>
    some r13) fun v15 =>
 if v15=true then
  some false
 else
  Option.bind (
   aI (eH s1) 0) fun j20 =>
  match j20 with
  | Sum.inr z=>some z
  | Sum.inl () =>
   some true
def iH (kind1:Int):Option (Int × Int) :=
 Option.bind (
  if (kind1 == 8)=true then
   some (kind1 == 8)
  else
   if (kind1 == 13)=true then
    some (kind1 == 13)
   else
    if (kind1 == 14)=true then
     some (kind1 == 14)
    else
     if (kind1 == 15)=true then
      some (kind1 == 15)
     else
      if (kind1 == 18)=true then
       some (kind1 == 18)
      else
       some (kind1 == 19)) fun v15 =>
 if v15=true then
  some (1,1)
 else
  Option.bind (
   if (kind1 == 9)=true then
    some (kind1 == 9)
   else
    if (kind1 == 10)=true then
     some (kind1 == 10)
    else
     if (kind1 == 11)=true then
      some (kind1 == 11)
     else
      some (kind1 == 17)) fun v27 =>
  if v27=true then
   some (2,2)
  else
   if (kind1 == 12)=true then
    some (0,3)
   else
    if (kind1 == 16)=true then
     some (3,3)
    else
     if (kind1 == 20)=true then
      some (0,12)
     else
      some (0,0)
def gL (kind1:Int):Option (Bool) :=
 Option.bind (
  if (kind1 == 2)=true then
   some (kind1 == 2)
  else
   if (kind1 == 3)=true then
    some (kind1 == 3)
   else
    if (kind1 == 4)=true then
     some (kind1 == 4)
    else
     if (kind1 == 5)=true then
      some (kind1 == 5)
     else
      if (kind1 == 6)=true then
       some (kind1 == 6)
      else
       if (kind1 == 12)=true then
        some (kind1 == 12)
       else
        if (kind1 == 13)=true then
         some (kind1 == 13)
        else
         if (kind1 == 14)=true then
          some (kind1 == 14)
         else
          some (kind1 == 15)) fun v21 =>
 if v21=true then
  some true
 else
  some false
def dQ (kind1:Int):Option (Bool) :=
 (aR kind1 1 12).bind fun r2 =>
 some r2
def dA (kind1:Int):Option (Bool) :=
 (aR kind1 13 19).bind fun r2 =>
 some r2
def iI (kind1:Int) (at2:Int) (kid3:Int):Option (Bool) :=
 if (kind1 == 20)=true then
  (dA kid3).bind fun r6 =>
  some r6
 else
  Option.bind (
   if (kind1 == 16)=true then
    some (kind1 == 16)
   else
    some (kind1 == 17)) fun v13 =>
  if v13=true then
   if (decide (at2 > 0))=true then
    some (kid3 == 20)
   else
    (dQ kid3).bind fun r18 =>
    some r18
  else
   if (kind1 == 19)=true then
    some (kid3 == 12)
   else
    (dQ kid3).bind fun r22 =>
    some r22
def eF (e15:GNode) (i50:Int):Int→Option ((Int) ⊕ ((Unit) ⊕ ((Int) ⊕ ((Unit) ⊕ (Bool))))):=fun j73 =>
 if (decide (j73 < i50))=true then
  (getI e15.Kids i50).bind fun e80 =>
  (getI e15.Kids j73).bind fun e81 =>
  if (e80 == e81)=true then
   some (Sum.inr (Sum.inr (Sum.inr (Sum.inr false))))
  else
   some (Sum.inl (IntKind.wrap .i64 (j73 + 1)))
 else
  some (Sum.inr (Sum.inl ()))
def eG (nodes1:List GNode) (k2:Int) (e15:GNode):Int→Option ((Int) ⊕ ((Unit) ⊕ (Bool))):=fun i50 =>
 if (decide (i50 < (e15.Kids.length:Int)))=true then
  Option.bind (
   Option.bind (
    (getI e15.Kids i50).bind fun e61 =>
    (aR e61 0 (IntKind.wrap .i64 (k2 - 1))).bind fun r62 =>
    if (!r62)=true then
     some true
    else
     (getI nodes1 e61).bind fun e66 =>
     (iI e15.Kind i50 e66.Kind).bind fun r67 =>
     some (!r67)) fun v69 =>
   if v69=true then
    some (Sum.inr (Sum.inr (Sum.inr false)))
   else
    aI (eF e15 i50) 0) fun j58 =>
  match j58 with
  | Sum.inr z=>some z
  | Sum.inl () =>
   some (Sum.inl (IntKind.wrap .i64 (i50 + 1)))
 else
  some (Sum.inr (Sum.inl ()))
def jZ (nodes1:List GNode) (k2:Int):Option (Bool) :=
 Option.bind (
  (aR k2 0 (IntKind.wrap .i64 ((nodes1.length:Int) - 1))).bind fun r5 =>
  if (!r5)=true then
   some true
  else
   (getI nodes1 k2).bind fun e9 =>
   (aR e9.Kind 1 20).bind fun r10 =>
   some (!r10)) fun v12 =>
 if v12=true then
  some false
 else
  (getI nodes1 k2).bind fun e15 =>
  (iH e15.Kind).bind fun ⟨r16,r17⟩ =>
  Option.bind (
   (aR (e15.Kids.length:Int) r16 r17).bind fun r21 =>
   if (!r21)=true then
    some true
   else
    (aR e15.Num 0 1000000000).bind fun r25 =>
    if (!r25)=true then
     some true
    else
     if (e15.Kind != 1)=true then
      some (e15.Num != 0)
     else
      some false) fun v31 =>
  if v31=true then
   some false
  else
   Option.bind (
    (gL e15.Kind).bind fun r36 =>
    if (!(r36 == (!(sEq e15.Name (⟨#[]⟩:ByteArray)))))=true then
     some true
    else
     if (!(sEq e15.Name (⟨#[]⟩:ByteArray)))=true then
      (fY e15.Name).bind fun r42 =>
      some (!r42)
     else
      some false) fun v44 =>
   if v44=true then
    some false
   else
    Option.bind (
     aI (eG nodes1 k2 e15) 0) fun j49 =>
    match j49 with
    | Sum.inr z=>some z
    | Sum.inl () =>
     some true
def aY (nodes1:List GNode) (out6:List Int) (i7:Int):(Int × Int)→Option ((Int × Int) ⊕ (Int)):=fun ⟨deep40,j41⟩ =>
 Option.bind (
  if (decide (deep40 > 0))=true then
   (getI nodes1 i7).bind fun e49 =>
   some (decide (j41 < (e49.Kids.length:Int)))
  else
   some false) fun v50 =>
 if v50=true then
  (getI nodes1 i7).bind fun e53 =>
  (getI e53.Kids j41).bind fun e54 =>
  (getI out6 e54).bind fun e55 =>
  if (decide (IntKind.wrap .i64 (e55 + 1) > deep40))=true then
   (getI nodes1 i7).bind fun e58 =>
   (getI e58.Kids j41).bind fun e59 =>
   (getI out6 e59).bind fun e60 =>
   some (Sum.inl (IntKind.wrap .i64 (e60 + 1),IntKind.wrap .i64 (j41 + 1)))
  else
   some (Sum.inl (deep40,IntKind.wrap .i64 (j41 + 1)))
 else
  some (Sum.inr deep40)
def cM (nodes1:List GNode) (k2:Int):((List Int) × Int)→Option (((List Int) × Int) ⊕ (List Int)):=fun ⟨out6,i7⟩ =>
 Option.bind (
  if (decide (i7 ≤ k2))=true then
   some (decide (i7 < (nodes1.length:Int)))
  else
   some false) fun v15 =>
 if v15=true then
  Option.bind (
   Option.bind (
    Option.bind (
     (jZ nodes1 i7).bind fun r26 =>
     if (!r26)=true then
      some true
     else
      if (decide (i7 > 0))=true then
       (getI out6 (IntKind.wrap .i64 (i7 - 1))).bind fun e32 =>
       some (e32 == 0)
      else
       some false) fun v33 =>
    if v33=true then
     some 0
    else
     some 1) fun deep36 =>
   Option.bind (
    aI (aY nodes1 out6 i7) (deep36,0)) fun deep62 =>
   Option.bind (
    if (decide (deep62 > 10))=true then
     some 0
    else
     some deep62) fun deep68 =>
   (appI 8 out6 [deep68]).bind fun l69 =>
   some l69) fun out70 =>
  some (Sum.inl (out70,IntKind.wrap .i64 (i7 + 1)))
 else
  some (Sum.inr out6)
def fD (nodes1:List GNode) (k2:Int):Option (List Int) :=
 Option.bind (
  aI (cM nodes1 k2) ([],0)) fun out72 =>
 some out72
def cY (nodes1:List GNode) (i7:Int):((List Int) × Int)→Option (((List Int) × Int) ⊕ (List Int)):=fun ⟨out16,j17⟩ =>
 (getI nodes1 i7).bind fun e21 =>
 if (decide (j17 < (e21.Kids.length:Int)))=true then
  (getI nodes1 i7).bind fun e24 =>
  (getI e24.Kids j17).bind fun e25 =>
  (getI out16 e25).bind fun e26 =>
  rG (List.set out16 e25.toNat (IntKind.wrap .i64 (e26 + 1))) fun l27 =>
  some (Sum.inl (l27,IntKind.wrap .i64 (j17 + 1)))
 else
  some (Sum.inr out16)
def cZ (nodes1:List GNode):((List Int) × Int)→Option (((List Int) × Int) ⊕ (List Int)):=fun ⟨out6,i7⟩ =>
 if (decide (i7 < (nodes1.length:Int)))=true then
  Option.bind (
   aI (cY nodes1 i7) (out6,0)) fun out29 =>
  some (Sum.inl (out29,IntKind.wrap .i64 (i7 + 1)))
 else
  some (Sum.inr out6)
def iG (nodes1:List GNode):Option (List Int) :=
 (mkI 8 (nodes1.length:Int) 0).bind fun l2 =>
 Option.bind (
  aI (cZ nodes1) (l2,0)) fun out31 =>
 some out31
def nL (p1:GProgram) (name2:ByteArray):Int→Option ((Int) ⊕ ((Unit) ⊕ (Int))):=fun i6 =>
 if (decide (i6 < (p1.Fns.length:Int)))=true then
  (getI p1.Fns i6).bind fun e12 =>
  if (sEq e12.Name name2)=true then
   some (Sum.inr (Sum.inr i6))
  else
   some (Sum.inl (IntKind.wrap .i64 (i6 + 1)))
 else
  some (Sum.inr (Sum.inl ()))
def lL (p1:GProgram) (name2:ByteArray):Option (Int) :=
 Option.bind (
  aI (nL p1 name2) 0) fun j5 =>
 match j5 with
 | Sum.inr z=>some z
 | Sum.inl () =>
  some (-1)
def fC (e3:GFn):Int→Option ((Int) ⊕ ((Unit) ⊕ (Bool))):=fun k24 =>
 if (decide (k24 < (e3.Params.length:Int)))=true then
  Option.bind (
   (getI e3.Params k24).bind fun e32 =>
   (fY e32.Name).bind fun r33 =>
   if (!r33)=true then
    some true
   else
    (aR e32.Typ 1 4).bind fun r37 =>
    some (!r37)) fun v39 =>
  if v39=true then
   some (Sum.inr (Sum.inr false))
  else
   some (Sum.inl (IntKind.wrap .i64 (k24 + 1)))
 else
  some (Sum.inr (Sum.inl ()))
def lI (p1:GProgram) (i2:Int):Option (Bool) :=
 (getI p1.Fns i2).bind fun e3 =>
 Option.bind (
  (fY e3.Name).bind fun r6 =>
  if (!r6)=true then
   some true
  else
   (lL p1 e3.Name).bind fun r10 =>
   if (r10 != i2)=true then
    some true
   else
    if (decide ((e3.Params.length:Int) > 3))=true then
     some true
    else
     (aR e3.Res 0 2).bind fun r16 =>
     some (!r16)) fun v18 =>
 if v18=true then
  some false
 else
  Option.bind (
   aI (fC e3) 0) fun j23 =>
  match j23 with
  | Sum.inr z=>some z
  | Sum.inl () =>
   Option.bind (
    (aR e3.Body 0 (IntKind.wrap .i64 ((p1.Nodes.length:Int) - 1))).bind fun r46 =>
    if (!r46)=true then
     some true
    else
     (getI p1.Nodes e3.Body).bind fun e50 =>
     some (e50.Kind != 20)) fun v51 =>
   if v51=true then
    some false
   else
    if (e3.Res == 0)=true then
     some (e3.Ret == (-1))
    else
     Option.bind (
      (aR e3.Ret 0 (IntKind.wrap .i64 ((p1.Nodes.length:Int) - 1))).bind fun r58 =>
      if r58=true then
       (getI p1.Nodes e3.Ret).bind fun e62 =>
       (dQ e62.Kind).bind fun r63 =>
       some r63
      else
       some false) fun v65 =>
     some v65
def bA (p1:GProgram):((List Int) × Int)→Option (((List Int) × Int) ⊕ ((List Int) ⊕ (Bool))):=fun ⟨used23,i24⟩ =>
 if (decide (i24 < (p1.Fns.length:Int)))=true then
  (lI p1 i24).bind fun r30 =>
  if (!r30)=true then
   some (Sum.inr (Sum.inr false))
  else
   (getI p1.Fns i24).bind fun e36 =>
   (getI used23 e36.Body).bind fun e37 =>
   rG (List.set used23 e36.Body.toNat (IntKind.wrap .i64 (e37 + 1000))) fun l38 =>
   (getI p1.Fns i24).bind fun e39 =>
   if (decide (e39.Ret ≥ 0))=true then
    (getI p1.Fns i24).bind fun e43 =>
    (getI l38 e43.Ret).bind fun e44 =>
    rG (List.set l38 e43.Ret.toNat (IntKind.wrap .i64 (e44 + 1000))) fun l45 =>
    some (Sum.inl (l45,IntKind.wrap .i64 (i24 + 1)))
   else
    some (Sum.inl (l38,IntKind.wrap .i64 (i24 + 1)))
 else
  some (Sum.inr (Sum.inl used23))
def cC (used47:List Int):Int→Option ((Int) ⊕ ((Unit) ⊕ (Bool))):=fun i51 =>
 if (decide (i51 < (used47.length:Int)))=true then
  Option.bind (
   (getI used47 i51).bind fun e59 =>
   if (e59 != 1)=true then
    some (e59 != 1000)
   else
    some false) fun v62 =>
  if v62=true then
   some (Sum.inr (Sum.inr false))
  else
   some (Sum.inl (IntKind.wrap .i64 (i51 + 1)))
 else
  some (Sum.inr (Sum.inl ()))
def fS (p1:GProgram):Option (Bool) :=
 Option.bind (
  (aR (p1.Nodes.length:Int) 1 300).bind fun r4 =>
  if (!r4)=true then
   some true
  else
   (aR (p1.Fns.length:Int) 1 8).bind fun r8 =>
   some (!r8)) fun v10 =>
 if v10=true then
  some false
 else
  (fD p1.Nodes (IntKind.wrap .i64 ((p1.Nodes.length:Int) - 1))).bind fun r13 =>
  (getI r13 (IntKind.wrap .i64 ((r13.length:Int) - 1))).bind fun e15 =>
  if (e15 == 0)=true then
   some false
  else
   (iG p1.Nodes).bind fun r18 =>
   Option.bind (
    aI (bA p1) (r18,0)) fun j22 =>
   match j22 with
   | Sum.inr z=>some z
   | Sum.inl used47 =>
    Option.bind (
     aI (cC used47) 0) fun j50 =>
    match j50 with
    | Sum.inr z=>some z
    | Sum.inl () =>
     some true
def kA (nodes1:List GNode) (k2:Int):Option (Int) :=
 (aR k2 0 (IntKind.wrap .i64 ((nodes1.length:Int) - 1))).bind fun r3 =>
 if (!r3)=true then
  some 0
 else
  (fD nodes1 k2).bind fun r7 =>
  (getI r7 k2).bind fun e9 =>
  some e9
def dB (rec_spec_l04Mark:(List GNode)→Int→(List Bool)→Option (List Bool)) (nodes1:List GNode) (k2:Int):((List Bool) × Int)→Option (((List Bool) × Int) ⊕ (List Bool)):=fun ⟨seen9,i10⟩ =>
 (getI nodes1 k2).bind fun e14 =>
 if (decide (i10 < (e14.Kids.length:Int)))=true then
  (getI nodes1 k2).bind fun e17 =>
  (getI e17.Kids i10).bind fun e18 =>
  (rec_spec_l04Mark nodes1 e18 seen9).bind fun q19 =>
  some (Sum.inl (q19,IntKind.wrap .i64 (i10 + 1)))
 else
  some (Sum.inr seen9)
def fQ (rec_spec_l04Mark:(List GNode)→Int→(List Bool)→Option (List Bool)) (nodes1:List GNode) (k2:Int) (seen3:List Bool):Option (List Bool) :=
 (getI seen3 k2).bind fun e4 =>
 if e4=true then
  some seen3
 else
  (getI seen3 k2).bind fun e7 =>
  rG (List.set seen3 k2.toNat true) fun l8 =>
  aI (dB rec_spec_l04Mark nodes1 k2) (l8,0)
def bQ:Nat→(List GNode)→Int→(List Bool)→Option (List Bool)
 | 0=>fun _ _ _=>none
 | n + 1=>fQ (bQ n)
def nJ:(List GNode)→Int→(List Bool)→Option (List Bool):=(bQ dG)
def fE (q8:List Bool):((List Int) × Int)→Option (((List Int) × Int) ⊕ (List Int)):=fun ⟨out13,i14⟩ =>
 if (decide (i14 < (q8.length:Int)))=true then
  (getI q8 i14).bind fun e20 =>
  if e20=true then
   (appI 8 out13 [i14]).bind fun l23 =>
   some (Sum.inl (l23,IntKind.wrap .i64 (i14 + 1)))
  else
   some (Sum.inl (out13,IntKind.wrap .i64 (i14 + 1)))
 else
  some (Sum.inr out13)
def hJ (p1:GProgram) (k2:Int):Option (List Int) :=
 (kA p1.Nodes k2).bind fun r3 =>
 if (r3 == 0)=true then
  some []
 else
  (mkI 1 (p1.Nodes.length:Int) false).bind fun l7 =>
  (nJ p1.Nodes k2 l7).bind fun q8 =>
  Option.bind (
   aI (fE q8) ([],0)) fun out25 =>
  some out25
def eE (e7:GFn):((List GVar) × Int)→Option (((List GVar) × Int) ⊕ (List GVar)):=fun ⟨out11,i12⟩ =>
 if (decide (i12 < (e7.Params.length:Int)))=true then
  (getI e7.Params i12).bind fun e19 =>
  (appI 32 out11 [(⟨e19.Name,e19.Typ,(-1)⟩:GVar)]).bind fun l20 =>
  some (Sum.inl (l20,IntKind.wrap .i64 (i12 + 1)))
 else
  some (Sum.inr out11)
def eD (p1:GProgram) (r23:List Int):((List GVar) × Int)→Option (((List GVar) × Int) ⊕ (List GVar)):=fun ⟨out28,i29⟩ =>
 if (decide (i29 < (r23.length:Int)))=true then
  (getI r23 i29).bind fun e36 =>
  (getI p1.Nodes e36).bind fun e37 =>
  if (e37.Kind == 13)=true then
   (getI r23 i29).bind fun e41 =>
   (getI p1.Nodes e41).bind fun e42 =>
   (appI 32 out28 [(⟨e42.Name,0,e41⟩:GVar)]).bind fun l43 =>
   some (Sum.inl (l43,IntKind.wrap .i64 (i29 + 1)))
  else
   some (Sum.inl (out28,IntKind.wrap .i64 (i29 + 1)))
 else
  some (Sum.inr out28)
def jY (p1:GProgram) (fn2:Int):Option (List GVar) :=
 (aR fn2 0 (IntKind.wrap .i64 ((p1.Fns.length:Int) - 1))).bind fun r3 =>
 if (!r3)=true then
  some []
 else
  (getI p1.Fns fn2).bind fun e7 =>
  Option.bind (
   aI (eE e7) ([],0)) fun out22 =>
  (hJ p1 e7.Body).bind fun r23 =>
  Option.bind (
   aI (eD p1 r23) (out22,0)) fun out45 =>
  some out45
def mF (list1:List GVar) (name2:ByteArray):Int→Option ((Int) ⊕ ((Unit) ⊕ (Int))):=fun i6 =>
 if (decide (i6 < (list1.length:Int)))=true then
  (getI list1 i6).bind fun e12 =>
  if (sEq e12.Name name2)=true then
   some (Sum.inr (Sum.inr i6))
  else
   some (Sum.inl (IntKind.wrap .i64 (i6 + 1)))
 else
  some (Sum.inr (Sum.inl ()))
def oL (list1:List GVar) (name2:ByteArray):Option (Int) :=
 Option.bind (
  aI (mF list1 name2) 0) fun j5 =>
 match j5 with
 | Sum.inr z=>some z
 | Sum.inl () =>
  some (-1)
def eB (list1:List ByteArray) (s2:ByteArray):Int→Option ((Int) ⊕ ((Unit) ⊕ (Bool))):=fun i6 =>
 if (decide (i6 < (list1.length:Int)))=true then
  (getI list1 i6).bind fun e12 =>
  if (sEq e12 s2)=true then
   some (Sum.inr (Sum.inr true))
  else
   some (Sum.inl (IntKind.wrap .i64 (i6 + 1)))
 else
  some (Sum.inr (Sum.inl ()))
def hE (list1:List ByteArray) (s2:ByteArray):Option (Bool) :=
 Option.bind (
  aI (eB list1 s2) 0) fun j5 =>
 match j5 with
 | Sum.inr z=>some z
 | Sum.inl () =>
  some false
def aV (rec_spec_l07Seen_value:Gl07Seen→Int→Option (Gl07Seen)) (e3:GNode):(Int × Gl07Seen)→Option ((Int × Gl07Seen) ⊕ (Gl07Seen)):=fun ⟨i7,v8⟩ =>
 if (decide (i7 < (e3.Kids.length:Int)))=true then
  (getI e3.Kids i7).bind fun e14 =>
  (rec_spec_l07Seen_value v8 e14).bind fun q15 =>
  some (Sum.inl (IntKind.wrap .i64 (i7 + 1),(⟨q15.p,q15.fn,q15.there,q15.bad⟩:Gl07Seen)))
 else
  some (Sum.inr v8)
def bW (rec_spec_l07Seen_value:Gl07Seen→Int→Option (Gl07Seen)) (s1:Gl07Seen) (k2:Int):Option (Gl07Seen) :=
 (getI s1.p.Nodes k2).bind fun e3 =>
 Option.bind (
  aI (aV rec_spec_l07Seen_value e3) (0,(⟨s1.p,s1.fn,s1.there,s1.bad⟩:Gl07Seen))) fun v18 =>
 Option.bind (
  if (e3.Kind == 2)=true then
   some (e3.Kind == 2)
  else
   if (e3.Kind == 3)=true then
    some (e3.Kind == 3)
   else
    if (e3.Kind == 4)=true then
     some (e3.Kind == 4)
    else
     if (e3.Kind == 5)=true then
      some (e3.Kind == 5)
     else
      some (e3.Kind == 6)) fun v30 =>
 if v30=true then
  if v18.bad=true then
   some (⟨v18.p,v18.fn,v18.there,true⟩:Gl07Seen)
  else
   (hE v18.there e3.Name).bind fun r37 =>
   some (⟨v18.p,v18.fn,v18.there,!r37⟩:Gl07Seen)
 else
  if (e3.Kind == 12)=true then
   (lL v18.p e3.Name).bind fun r42 =>
   if v18.bad=true then
    some (⟨v18.p,v18.fn,v18.there,true⟩:Gl07Seen)
   else
    if (decide (r42 < 0))=true then
     some (⟨v18.p,v18.fn,v18.there,true⟩:Gl07Seen)
    else
     if (decide (r42 ≥ v18.fn))=true then
      some (⟨v18.p,v18.fn,v18.there,true⟩:Gl07Seen)
     else
      (getI v18.p.Fns r42).bind fun e52 =>
      some (⟨v18.p,v18.fn,v18.there,(e52.Params.length:Int) != (e3.Kids.length:Int)⟩:Gl07Seen)
  else
   some v18
def aP:Nat→Gl07Seen→Int→Option (Gl07Seen)
 | 0=>fun _ _=>none
 | n + 1=>bW (aP n)
def cQ:Gl07Seen→Int→Option (Gl07Seen):=(aP dG)
def aZ (rec_spec_l07Seen_step:Gl07Seen→Int→Option (Gl07Seen)) (k2:Int):(Int × Gl07Seen)→Option ((Int × Gl07Seen) ⊕ (Gl07Seen)):=fun ⟨i3,v4⟩ =>
 (getI v4.p.Nodes k2).bind fun e8 =>
 if (decide (i3 < (e8.Kids.length:Int)))=true then
  (getI v4.p.Nodes k2).bind fun e11 =>
  (getI e11.Kids i3).bind fun e12 =>
  (rec_spec_l07Seen_step v4 e12).bind fun q13 =>
  some (Sum.inl (IntKind.wrap .i64 (i3 + 1),(⟨q13.p,q13.fn,q13.there,q13.bad⟩:Gl07Seen)))
 else
  some (Sum.inr v4)
def bX (rec_spec_l07Seen_block:Gl07Seen→Int→Option (Gl07Seen)) (rec_spec_l07Seen_step:Gl07Seen→Int→Option (Gl07Seen)) (s1:Gl07Seen) (k2:Int):Option (Gl07Seen) :=
 aI (aZ rec_spec_l07Seen_step k2) (0,(⟨s1.p,s1.fn,s1.there,s1.bad⟩:Gl07Seen))
def bH (rec_spec_l07Seen_block:Gl07Seen→Int→Option (Gl07Seen)) (e3:GNode):(Int × Gl07Seen)→Option ((Int × Gl07Seen) ⊕ (Gl07Seen)):=fun ⟨i33,v34⟩ =>
 if (decide (i33 < (e3.Kids.length:Int)))=true then
  (getI e3.Kids i33).bind fun e40 =>
  (rec_spec_l07Seen_block v34 e40).bind fun q41 =>
  some (Sum.inl (IntKind.wrap .i64 (i33 + 1),(⟨q41.p,q41.fn,v34.there,q41.bad⟩:Gl07Seen)))
 else
  some (Sum.inr v34)
def cI (rec_spec_l07Seen_block:Gl07Seen→Int→Option (Gl07Seen)) (rec_spec_l07Seen_step:Gl07Seen→Int→Option (Gl07Seen)) (s1:Gl07Seen) (k2:Int):Option (Gl07Seen) :=
 (getI s1.p.Nodes k2).bind fun e3 =>
 (getI e3.Kids 0).bind fun e4 =>
 (cQ (⟨s1.p,s1.fn,s1.there,s1.bad⟩:Gl07Seen) e4).bind fun q5 =>
 if (e3.Kind == 13)=true then
  (appI 16 [] q5.there).bind fun l9 =>
  (appI 16 q5.there [e3.Name]).bind fun l10 =>
  some (⟨q5.p,q5.fn,l10,q5.bad⟩:Gl07Seen)
 else
  Option.bind (
   if (e3.Kind == 14)=true then
    some (e3.Kind == 14)
   else
    some (e3.Kind == 15)) fun v16 =>
  if v16=true then
   if q5.bad=true then
    some (⟨q5.p,q5.fn,q5.there,true⟩:Gl07Seen)
   else
    (hE q5.there e3.Name).bind fun r23 =>
    some (⟨q5.p,q5.fn,q5.there,!r23⟩:Gl07Seen)
  else
   Option.bind (
    if (e3.Kind == 16)=true then
     some (e3.Kind == 16)
    else
     some (e3.Kind == 17)) fun v30 =>
   if v30=true then
    aI (bH rec_spec_l07Seen_block e3) (1,(⟨q5.p,q5.fn,q5.there,q5.bad⟩:Gl07Seen))
   else
    some (⟨q5.p,q5.fn,q5.there,q5.bad⟩:Gl07Seen)
def aD:Nat→(Gl07Seen→Int→Option (Gl07Seen)) × (Gl07Seen→Int→Option (Gl07Seen))
 | 0=>(fun _ _=>none,fun _ _=>none)
 | n + 1=>(bX ((aD n).1) ((aD n).2),cI ((aD n).1) ((aD n).2))
def gK:Gl07Seen→Int→Option (Gl07Seen):=(aD dG).1
def bD (r18:List GVar):Int→Option ((Int) ⊕ ((Unit) ⊕ ((Unit) ⊕ ((Int) ⊕ ((Unit) ⊕ (Bool)))))):=fun k23 =>
 if (decide (k23 < (r18.length:Int)))=true then
  (getI r18 k23).bind fun e29 =>
  (oL r18 e29.Name).bind fun r30 =>
  if (r30 != k23)=true then
   some (Sum.inr (Sum.inr (Sum.inr (Sum.inr (Sum.inr false)))))
  else
   some (Sum.inl (IntKind.wrap .i64 (k23 + 1)))
 else
  some (Sum.inr (Sum.inl ()))
def bC (p1:GProgram) (i9:Int):(Int × Gl07Seen)→Option ((Int × Gl07Seen) ⊕ (Gl07Seen)):=fun ⟨k40,v41⟩ =>
 (getI p1.Fns i9).bind fun e45 =>
 if (decide (k40 < (e45.Params.length:Int)))=true then
  (getI p1.Fns i9).bind fun e48 =>
  (getI e48.Params k40).bind fun e49 =>
  (appI 16 v41.there [e49.Name]).bind fun l50 =>
  some (Sum.inl (IntKind.wrap .i64 (k40 + 1),(⟨v41.p,v41.fn,l50,v41.bad⟩:Gl07Seen)))
 else
  some (Sum.inr (⟨v41.p,v41.fn,v41.there,v41.bad⟩:Gl07Seen))
def bN (p1:GProgram):Int→Option ((Int) ⊕ ((Unit) ⊕ (Bool))):=fun i9 =>
 if (decide (i9 < (p1.Fns.length:Int)))=true then
  Option.bind (
   (jY p1 i9).bind fun r18 =>
   Option.bind (
    aI (bD r18) 0) fun j22 =>
   match j22 with
   | Sum.inr z=>some z
   | Sum.inl () =>
    Option.bind (
     aI (bC p1 i9) (0,(⟨p1,i9,[],false⟩:Gl07Seen))) fun v52 =>
    (getI p1.Fns i9).bind fun e53 =>
    (gK (⟨v52.p,v52.fn,v52.there,v52.bad⟩:Gl07Seen) e53.Body).bind fun q54 =>
    Option.bind (
     (getI p1.Fns i9).bind fun e59 =>
     if (decide (e59.Ret ≥ 0))=true then
      (getI p1.Fns i9).bind fun e62 =>
      (cQ (⟨q54.p,q54.fn,q54.there,q54.bad⟩:Gl07Seen) e62.Ret).bind fun q63 =>
      some (⟨q63.p,q63.fn,q63.there,q63.bad⟩:Gl07Seen)
     else
      some (⟨q54.p,q54.fn,q54.there,q54.bad⟩:Gl07Seen)) fun v65 =>
    if v65.bad=true then
     some (Sum.inr (Sum.inr (Sum.inr false)))
    else
     some (Sum.inl ())) fun j17 =>
  match j17 with
  | Sum.inr z=>some z
  | Sum.inl () =>
   some (Sum.inl (IntKind.wrap .i64 (i9 + 1)))
 else
  some (Sum.inr (Sum.inl ()))
def eU (p1:GProgram):Option (Bool) :=
 (fS p1).bind fun r2 =>
 if (!r2)=true then
  some false
 else
  Option.bind (
   aI (bN p1) 0) fun j8 =>
  match j8 with
  | Sum.inr z=>some z
  | Sum.inl () =>
   some true
def aW (r9:List Int) (r13:List Int):((List Int) × Int × Int)→Option (((List Int) × Int × Int) ⊕ (List Int)):=fun ⟨out18,i19,k20⟩ =>
 Option.bind (
  if (decide (i19 < (r9.length:Int)))=true then
   some true
  else
   some (decide (k20 < (r13.length:Int)))) fun v28 =>
 if v28=true then
  Option.bind (
   if (decide (k20 ≥ (r13.length:Int)))=true then
    some true
   else
    if (decide (i19 < (r9.length:Int)))=true then
     (getI r9 i19).bind fun e37 =>
     (getI r13 k20).bind fun e38 =>
     some (decide (e37 < e38))
    else
     some false) fun v39 =>
  if v39=true then
   (getI r9 i19).bind fun e42 =>
   (appI 8 out18 [e42]).bind fun l43 =>
   some (Sum.inl (l43,IntKind.wrap .i64 (i19 + 1),k20))
  else
   Option.bind (
    Option.bind (
     if (decide (i19 < (r9.length:Int)))=true then
      (getI r9 i19).bind fun e51 =>
      (getI r13 k20).bind fun e52 =>
      some (e51 == e52)
     else
      some false) fun v53 =>
    if v53=true then
     some (IntKind.wrap .i64 (i19 + 1))
    else
     some i19) fun i56 =>
   (getI r13 k20).bind fun e57 =>
   (appI 8 out18 [e57]).bind fun l58 =>
   some (Sum.inl (l58,i56,IntKind.wrap .i64 (k20 + 1)))
 else
  some (Sum.inr out18)
def jW (p1:GProgram) (fn2:Int):Option (List Int) :=
 (aR fn2 0 (IntKind.wrap .i64 ((p1.Fns.length:Int) - 1))).bind fun r3 =>
 if (!r3)=true then
  some []
 else
  (getI p1.Fns fn2).bind fun e8 =>
  (hJ p1 e8.Body).bind fun r9 =>
  (getI p1.Fns fn2).bind fun e12 =>
  (hJ p1 e12.Ret).bind fun r13 =>
  Option.bind (
   aI (aW r9 r13) ([],0,0)) fun out60 =>
  some out60
def dZ (list1:List Int) (n2:Int):Int→Option ((Int) ⊕ ((Unit) ⊕ (List Int))):=fun i6 =>
 if (decide (i6 < (list1.length:Int)))=true then
  (getI list1 i6).bind fun e12 =>
  if (e12 == n2)=true then
   some (Sum.inr (Sum.inr list1))
  else
   some (Sum.inl (IntKind.wrap .i64 (i6 + 1)))
 else
  some (Sum.inr (Sum.inl ()))
def jV (list1:List Int) (n2:Int):Option (List Int) :=
 Option.bind (
  aI (dZ list1 n2) 0) fun j5 =>
 match j5 with
 | Sum.inr z=>some z
 | Sum.inl () =>
  (appI 8 list1 [n2]).bind fun l17 =>
  some l17
def dE (p1:GProgram) (r3:List Int):((List Int) × Int)→Option (((List Int) × Int) ⊕ (List Int)):=fun ⟨out8,i9⟩ =>
 if (decide (i9 < (r3.length:Int)))=true then
  (getI r3 i9).bind fun e16 =>
  (getI p1.Nodes e16).bind fun e17 =>
  if (e17.Kind != 12)=true then
   some (Sum.inl (out8,IntKind.wrap .i64 (i9 + 1)))
  else
   (getI r3 i9).bind fun e21 =>
   (getI p1.Nodes e21).bind fun e22 =>
   (lL p1 e22.Name).bind fun r23 =>
   if (decide (r23 ≥ 0))=true then
    (jV out8 r23).bind fun r27 =>
    some (Sum.inl (r27,IntKind.wrap .i64 (i9 + 1)))
   else
    some (Sum.inl (out8,IntKind.wrap .i64 (i9 + 1)))
 else
  some (Sum.inr out8)
def iL (p1:GProgram) (fn2:Int):Option (List Int) :=
 (jW p1 fn2).bind fun r3 =>
 Option.bind (
  aI (dE p1 r3) ([],0)) fun out30 =>
 some out30
def cJ (i11:Int) (r22:List Int):((List Int) × Int)→Option (((List Int) × Int) ⊕ (List Int)):=fun ⟨long24,k25⟩ =>
 if (decide (k25 < (r22.length:Int)))=true then
  Option.bind (
   (getI r22 k25).bind fun e33 =>
   if (decide (e33 < i11))=true then
    (getI long24 e33).bind fun e36 =>
    (getI long24 i11).bind fun e37 =>
    some (decide (IntKind.wrap .i64 (e36 + 1) > e37))
   else
    some false) fun v38 =>
  if v38=true then
   (getI r22 k25).bind fun e41 =>
   (getI long24 e41).bind fun e42 =>
   (getI long24 i11).bind fun e43 =>
   rG (List.set long24 i11.toNat (IntKind.wrap .i64 (e42 + 1))) fun l44 =>
   some (Sum.inl (l44,IntKind.wrap .i64 (k25 + 1)))
  else
   some (Sum.inl (long24,IntKind.wrap .i64 (k25 + 1)))
 else
  some (Sum.inr long24)
def dD (p1:GProgram):((List Int) × Int)→Option (((List Int) × Int) ⊕ (List Int)):=fun ⟨long10,i11⟩ =>
 if (decide (i11 < (p1.Fns.length:Int)))=true then
  Option.bind (
   (getI long10 i11).bind fun e20 =>
   rG (List.set long10 i11.toNat 1) fun l21 =>
   (iL p1 i11).bind fun r22 =>
   aI (cJ i11 r22) (l21,0)) fun long46 =>
  some (Sum.inl (long46,IntKind.wrap .i64 (i11 + 1)))
 else
  some (Sum.inr long10)
def iK (p1:GProgram):Option (Int) :=
 (eU p1).bind fun r2 =>
 if (!r2)=true then
  some 0
 else
  (mkI 8 (p1.Fns.length:Int) 0).bind fun l6 =>
  Option.bind (
   aI (dD p1) (l6,0)) fun long48 =>
  (getI long48 (IntKind.wrap .i64 ((long48.length:Int) - 1))).bind fun e49 =>
  some e49
def eJ (a1:List Int):((List Int) × Int)→Option (((List Int) × Int) ⊕ (List Int)):=fun ⟨out6,i7⟩ =>
 if (decide (i7 < (a1.length:Int)))=true then
  (getI a1 i7).bind fun e13 =>
  (getI out6 i7).bind fun e14 =>
  rG (List.set out6 i7.toNat e13) fun l15 =>
  some (Sum.inl (l15,IntKind.wrap .i64 (i7 + 1)))
 else
  some (Sum.inr out6)
def kD (a1:List Int):Option (List Int) :=
 (mkI 8 (a1.length:Int) 0).bind fun l2 =>
 Option.bind (
  aI (eJ a1) (l2,0)) fun out17 =>
 some out17
def kC (a1:GNode):Option (GNode) :=
 (kD a1.Kids).bind fun r2 =>
 some (⟨a1.Kind,a1.Num,a1.Name,r2⟩:GNode)
def dH (a1:List GNode):((List GNode) × Int)→Option (((List GNode) × Int) ⊕ (List GNode)):=fun ⟨out6,i7⟩ =>
 if (decide (i7 < (a1.length:Int)))=true then
  (getI a1 i7).bind fun e13 =>
  (kC e13).bind fun r14 =>
  (getI out6 i7).bind fun e16 =>
  rG (List.set out6 i7.toNat r14) fun l17 =>
  some (Sum.inl (l17,IntKind.wrap .i64 (i7 + 1)))
 else
  some (Sum.inr out6)
def iP (a1:List GNode):Option (List GNode) :=
 (mkI 56 (a1.length:Int) (⟨0,0,ByteArray.empty,[]⟩:GNode)).bind fun l2 =>
 Option.bind (
  aI (dH a1) (l2,0)) fun out19 =>
 some out19
def iO (a1:GParam):Option (GParam) :=
 some (⟨a1.Name,a1.Typ⟩:GParam)
def cO (a1:List GParam):((List GParam) × Int)→Option (((List GParam) × Int) ⊕ (List GParam)):=fun ⟨out6,i7⟩ =>
 if (decide (i7 < (a1.length:Int)))=true then
  (getI a1 i7).bind fun e13 =>
  (iO e13).bind fun r14 =>
  (getI out6 i7).bind fun e16 =>
  rG (List.set out6 i7.toNat r14) fun l17 =>
  some (Sum.inl (l17,IntKind.wrap .i64 (i7 + 1)))
 else
  some (Sum.inr out6)
def gP (a1:List GParam):Option (List GParam) :=
 (mkI 24 (a1.length:Int) (⟨ByteArray.empty,0⟩:GParam)).bind fun l2 =>
 Option.bind (
  aI (cO a1) (l2,0)) fun out19 =>
 some out19
def nV (a1:GFn):Option (GFn) :=
 (gP a1.Params).bind fun r2 =>
 some (⟨a1.Name,r2,a1.Res,a1.Body,a1.Ret⟩:GFn)
def fH (a1:List GFn):((List GFn) × Int)→Option (((List GFn) × Int) ⊕ (List GFn)):=fun ⟨out6,i7⟩ =>
 if (decide (i7 < (a1.length:Int)))=true then
  (getI a1 i7).bind fun e13 =>
  (nV e13).bind fun r14 =>
  (getI out6 i7).bind fun e16 =>
  rG (List.set out6 i7.toNat r14) fun l17 =>
  some (Sum.inl (l17,IntKind.wrap .i64 (i7 + 1)))
 else
  some (Sum.inr out6)
def lQ (a1:List GFn):Option (List GFn) :=
 (mkI 64 (a1.length:Int) (⟨ByteArray.empty,[],0,0,0⟩:GFn)).bind fun l2 =>
 Option.bind (
  aI (fH a1) (l2,0)) fun out19 =>
 some out19
def cV (a1:GProgram):Option (GProgram) :=
 (iP a1.Nodes).bind fun r2 =>
 (lQ a1.Fns).bind fun r4 =>
 some (⟨r2,r4⟩:GProgram)
def bT (n1:Int) (low2:Int) (high3:Int):Option (Bool) :=
 Option.bind (
  if (decide (n1 ≥ low2))=true then
   some (decide (n1 ≤ high3))
  else
   some false) fun v8 =>
 some v8
def eL (l1:List Int) (n2:Int):Int→Option ((Int) ⊕ ((Unit) ⊕ (Bool))):=fun v6 =>
 if (decide (v6 < (l1.length:Int)))=true then
  (getI l1 v6).bind fun e12 =>
  if (e12 == n2)=true then
   some (Sum.inr (Sum.inr true))
  else
   some (Sum.inl (IntKind.wrap .i64 (v6 + 1)))
 else
  some (Sum.inr (Sum.inl ()))
def eZ (l1:List Int) (n2:Int):Option (Bool) :=
 Option.bind (
  aI (eL l1 n2) 0) fun j5 =>
 match j5 with
 | Sum.inr z=>some z
 | Sum.inl () =>
  some false
def fL (b1:Int):Option (Bool) :=
 Option.bind (
  if (decide (b1 ≥ 97))=true then
   some (decide (b1 ≤ 122))
  else
   some false) fun v6 =>
 some v6
def gU (b1:Int):Option (Bool) :=
 Option.bind (
  if (decide (b1 ≥ 48))=true then
   some (decide (b1 ≤ 57))
  else
   some false) fun v6 =>
 some v6
def gT (s1:ByteArray) (r6:List ByteArray):Int→Option ((Int) ⊕ ((Unit) ⊕ (Bool))):=fun v8 =>
 if (decide (v8 < (r6.length:Int)))=true then
  (getI r6 v8).bind fun e14 =>
  if (sEq e14 s1)=true then
   some (Sum.inr (Sum.inr true))
  else
   some (Sum.inl (IntKind.wrap .i64 (v8 + 1)))
 else
  some (Sum.inr (Sum.inl ()))
def oU (s1:ByteArray) (words2:ByteArray):Option (Bool) :=
 Option.bind (
  (strings_Split words2 (⟨#[32]⟩:ByteArray)).bind fun r6 =>
  aI (gT s1 r6) 0) fun j5 =>
 match j5 with
 | Sum.inr z=>some z
 | Sum.inl () =>
  some false
def jA (s1:ByteArray):Option (Bool) :=
 (oU s1 (⟨#[102,110,32,108,101,116,32,105,102,32,101,108,115,101,32,119,104,105,108,101,32,112,114,105,110,116,32,100,111,32,110,101,119,32,99,108,111,110,101,32,109,117,116,32,105,110,112,117,116,32,105,110,116,32,98,111,120,32,114,101,116]⟩:ByteArray)).bind fun r2 =>
 some r2
def eR (s1:ByteArray):Int→Option ((Int) ⊕ ((Unit) ⊕ (Bool))):=fun i17 =>
 if (decide (i17 < (s1.size:Int)))=true then
  Option.bind (
   (sAt s1 i17).bind fun c25 =>
   (fL c25).bind fun r26 =>
   if (!r26)=true then
    (gU c25).bind fun r30 =>
    some (!r30)
   else
    some false) fun v32 =>
  if v32=true then
   some (Sum.inr (Sum.inr false))
  else
   some (Sum.inl (IntKind.wrap .i64 (i17 + 1)))
 else
  some (Sum.inr (Sum.inl ()))
def fZ (s1:ByteArray):Option (Bool) :=
 Option.bind (
  (bT (s1.size:Int) 1 8).bind fun r4 =>
  if (!r4)=true then
   some true
  else
   (sAt s1 0).bind fun c8 =>
   (fL c8).bind fun r9 =>
   some (!r9)) fun v11 =>
 if v11=true then
  some false
 else
  Option.bind (
   aI (eR s1) 0) fun j16 =>
  match j16 with
  | Sum.inr z=>some z
  | Sum.inl () =>
   (jA s1).bind fun r37 =>
   some (!r37)
def lV (kind1:Int):Option (Int × Int) :=
 Option.bind (
  if (kind1 == 8)=true then
   some (kind1 == 8)
  else
   if (kind1 == 13)=true then
    some (kind1 == 13)
   else
    if (kind1 == 14)=true then
     some (kind1 == 14)
    else
     if (kind1 == 15)=true then
      some (kind1 == 15)
     else
      if (kind1 == 18)=true then
       some (kind1 == 18)
      else
       some (kind1 == 19)) fun v15 =>
 if v15=true then
  some (1,1)
 else
  Option.bind (
   if (kind1 == 9)=true then
    some (kind1 == 9)
   else
    if (kind1 == 10)=true then
     some (kind1 == 10)
    else
     if (kind1 == 11)=true then
      some (kind1 == 11)
     else
      some (kind1 == 17)) fun v27 =>
  if v27=true then
   some (2,2)
  else
   if (kind1 == 16)=true then
    some (3,3)
   else
    if (kind1 == 12)=true then
     some (0,3)
    else
     if (kind1 == 20)=true then
      some (0,12)
     else
      some (0,0)
def gF (kind1:Int):Option (Bool) :=
 (bT kind1 1 12).bind fun r2 =>
 some r2
def kK (kind1:Int):Option (Bool) :=
 (bT kind1 13 19).bind fun r2 =>
 some r2
def iV (kind1:Int) (i2:Int) (kid3:Int):Option (Bool) :=
 if (kind1 == 20)=true then
  (kK kid3).bind fun r6 =>
  some r6
 else
  Option.bind (
   if (kind1 == 16)=true then
    some (decide (i2 > 0))
   else
    if (kind1 == 17)=true then
     some (decide (i2 > 0))
    else
     some false) fun v14 =>
  if v14=true then
   some (kid3 == 20)
  else
   if (kind1 == 19)=true then
    some (kid3 == 12)
   else
    (gF kid3).bind fun r19 =>
    some r19
def iX (kind1:Int):Option (Bool) :=
 Option.bind (
  (bT kind1 2 6).bind fun r4 =>
  if r4=true then
   some true
  else
   (bT kind1 12 15).bind fun r8 =>
   some r8) fun v10 =>
 some v10
def eQ (nodes1:List GNode) (k2:Int) (e7:GNode):Int→Option ((Int) ⊕ ((Unit) ⊕ (Bool))):=fun v25 =>
 if (decide (v25 < (e7.Kids.length:Int)))=true then
  (getI e7.Kids v25).bind fun e31 =>
  Option.bind (
   (bT e31 0 (IntKind.wrap .i64 (k2 - 1))).bind fun r34 =>
   if (!r34)=true then
    some true
   else
    (subI e7.Kids 0 v25).bind fun l38 =>
    (eZ l38 e31).bind fun r39 =>
    if r39=true then
     some true
    else
     (getI nodes1 e31).bind fun e43 =>
     (iV e7.Kind v25 e43.Kind).bind fun r44 =>
     some (!r44)) fun v46 =>
  if v46=true then
   some (Sum.inr (Sum.inr false))
  else
   some (Sum.inl (IntKind.wrap .i64 (v25 + 1)))
 else
  some (Sum.inr (Sum.inl ()))
def kN (nodes1:List GNode) (k2:Int):Option (Bool) :=
 (bT k2 0 (IntKind.wrap .i64 ((nodes1.length:Int) - 1))).bind fun r3 =>
 if (!r3)=true then
  some false
 else
  (getI nodes1 k2).bind fun e7 =>
  (lV e7.Kind).bind fun ⟨r8,r9⟩ =>
  Option.bind (
   (bT e7.Kind 1 20).bind fun r13 =>
   if (!r13)=true then
    some true
   else
    (bT (e7.Kids.length:Int) r8 r9).bind fun r17 =>
    some (!r17)) fun v19 =>
  if v19=true then
   some false
  else
   Option.bind (
    aI (eQ nodes1 k2 e7) 0) fun j24 =>
   match j24 with
   | Sum.inr z=>some z
   | Sum.inl () =>
    Option.bind (
     if (e7.Kind == 1)=true then
      (bT e7.Num 0 1000000000).bind fun r55 =>
      if (!r55)=true then
       some true
      else
       some false
     else
      some (e7.Num != 0)) fun v61 =>
    if v61=true then
     some false
    else
     (iX e7.Kind).bind fun r64 =>
     if r64=true then
      (fZ e7.Name).bind fun r68 =>
      some r68
     else
      some (sEq e7.Name (⟨#[]⟩:ByteArray))
def cW (out10:List Int) (e28:GNode):(Int × Int)→Option ((Int × Int) ⊕ (Int)):=fun ⟨d29,v30⟩ =>
 if (decide (v30 < (e28.Kids.length:Int)))=true then
  (getI e28.Kids v30).bind fun e36 =>
  (getI out10 e36).bind fun e37 =>
  some (Sum.inl (if IntKind.wrap .i64 (e37 + 1) > d29 then IntKind.wrap .i64 (e37 + 1) else d29,IntKind.wrap .i64 (v30 + 1)))
 else
  some (Sum.inr d29)
def eM (nodes1:List GNode) (k2:Int):((List Int) × Int)→Option (((List Int) × Int) ⊕ ((List Int) ⊕ ((List Int) × Bool))):=fun ⟨out10,i11⟩ =>
 if (decide (i11 ≤ k2))=true then
  Option.bind (
   (kN nodes1 i11).bind fun r20 =>
   if (!r20)=true then
    some (Sum.inr (Sum.inr (Sum.inr ([],false))))
   else
    Option.bind (
     (getI nodes1 i11).bind fun e28 =>
     aI (cW out10 e28) (1,0)) fun d39 =>
    if (decide (d39 > 10))=true then
     some (Sum.inr (Sum.inr (Sum.inr ([],false))))
    else
     (appI 8 out10 [d39]).bind fun l43 =>
     some (Sum.inl l43)) fun j19 =>
  match j19 with
  | Sum.inr z=>some z
  | Sum.inl out44 =>
   some (Sum.inl (out44,IntKind.wrap .i64 (i11 + 1)))
 else
  some (Sum.inr (Sum.inl out10))
def kL (nodes1:List GNode) (k2:Int):Option ((List Int) × Bool) :=
 (bT k2 0 (IntKind.wrap .i64 ((nodes1.length:Int) - 1))).bind fun r3 =>
 if (!r3)=true then
  some ([],false)
 else
  Option.bind (
   aI (eM nodes1 k2) ([],0)) fun j9 =>
  match j9 with
  | Sum.inr z=>some z
  | Sum.inl out46 =>
   some (out46,true)
def iC (nodes1:List GNode) (k2:Int):Option (Int) :=
 (kL nodes1 k2).bind fun ⟨r3,r4⟩ =>
 if (!r4)=true then
  some 0
 else
  (getI r3 k2).bind fun e8 =>
  some e8
def gG (f2:GFn):Int→Option ((Int) ⊕ ((Unit) ⊕ (Bool))):=fun v21 =>
 if (decide (v21 < (f2.Params.length:Int)))=true then
  (getI f2.Params v21).bind fun e27 =>
  Option.bind (
   (fZ e27.Name).bind fun r30 =>
   if (!r30)=true then
    some true
   else
    (bT e27.Typ 1 4).bind fun r34 =>
    some (!r34)) fun v36 =>
  if v36=true then
   some (Sum.inr (Sum.inr false))
  else
   some (Sum.inl (IntKind.wrap .i64 (v21 + 1)))
 else
  some (Sum.inr (Sum.inl ()))
def oE (p1:GProgram) (f2:GFn):Option (Bool) :=
 Option.bind (
  (fZ f2.Name).bind fun r5 =>
  if (!r5)=true then
   some true
  else
   if (decide ((f2.Params.length:Int) > 3))=true then
    some true
   else
    if (f2.Res != 0)=true then
     if (f2.Res != 1)=true then
      some (f2.Res != 2)
     else
      some false
    else
     some false) fun v15 =>
 if v15=true then
  some false
 else
  Option.bind (
   aI (gG f2) 0) fun j20 =>
  match j20 with
  | Sum.inr z=>some z
  | Sum.inl () =>
   Option.bind (
    (bT f2.Body 0 (IntKind.wrap .i64 ((p1.Nodes.length:Int) - 1))).bind fun r43 =>
    if (!r43)=true then
     some true
    else
     (getI p1.Nodes f2.Body).bind fun e47 =>
     some (e47.Kind != 20)) fun v48 =>
   if v48=true then
    some false
   else
    if (f2.Res == 0)=true then
     some (f2.Ret == (-1))
    else
     Option.bind (
      (bT f2.Ret 0 (IntKind.wrap .i64 ((p1.Nodes.length:Int) - 1))).bind fun r55 =>
      if r55=true then
       (getI p1.Nodes f2.Ret).bind fun e59 =>
       (gF e59.Kind).bind fun r60 =>
       some r60
      else
       some false) fun v62 =>
     some v62
def gH (p1:GProgram) (name2:ByteArray):Int→Option ((Int) ⊕ ((Unit) ⊕ (Int))):=fun v6 =>
 if (decide (v6 < (p1.Fns.length:Int)))=true then
  (getI p1.Fns v6).bind fun e12 =>
  if (sEq e12.Name name2)=true then
   some (Sum.inr (Sum.inr v6))
  else
   some (Sum.inl (IntKind.wrap .i64 (v6 + 1)))
 else
  some (Sum.inr (Sum.inl ()))
def jB (p1:GProgram) (name2:ByteArray):Option (Int) :=
 Option.bind (
  aI (gH p1 name2) 0) fun j5 =>
 match j5 with
 | Sum.inr z=>some z
 | Sum.inl () =>
  some (-1)
def cG (e31:GNode):((List Int) × Int)→Option (((List Int) × Int) ⊕ (List Int)):=fun ⟨met32,v33⟩ =>
 if (decide (v33 < (e31.Kids.length:Int)))=true then
  (getI e31.Kids v33).bind fun e39 =>
  (getI met32 e39).bind fun e40 =>
  rG (List.set met32 e39.toNat (IntKind.wrap .i64 (e40 + 1))) fun l41 =>
  some (Sum.inl (l41,IntKind.wrap .i64 (v33 + 1)))
 else
  some (Sum.inr met32)
def cH (p1:GProgram):((List Int) × Int)→Option (((List Int) × Int) ⊕ (List Int)):=fun ⟨met21,v22⟩ =>
 if (decide (v22 < (p1.Nodes.length:Int)))=true then
  Option.bind (
   (getI p1.Nodes v22).bind fun e31 =>
   aI (cG e31) (met21,0)) fun met43 =>
  some (Sum.inl (met43,IntKind.wrap .i64 (v22 + 1)))
 else
  some (Sum.inr met21)
def aH (e59:GFn):((List Int) × Int)→Option (((List Int) × Int) ⊕ ((List Int) ⊕ (((List Int) × Int) ⊕ ((List Int) ⊕ (Bool))))):=fun ⟨met72,v73⟩ =>
 if (decide (v73 < ([e59.Body,e59.Ret].length:Int)))=true then
  (getI [e59.Body,e59.Ret] v73).bind fun e79 =>
  if (decide (e79 < 0))=true then
   some (Sum.inl (met72,IntKind.wrap .i64 (v73 + 1)))
  else
   (getI met72 e79).bind fun e82 =>
   if (e82 != 0)=true then
    some (Sum.inr (Sum.inr (Sum.inr (Sum.inr false))))
   else
    (getI met72 e79).bind fun e87 =>
    rG (List.set met72 e79.toNat (-1)) fun l88 =>
    some (Sum.inl (l88,IntKind.wrap .i64 (v73 + 1)))
 else
  some (Sum.inr (Sum.inl met72))
def bK (p1:GProgram):((List Int) × Int)→Option (((List Int) × Int) ⊕ ((List Int) ⊕ (Bool))):=fun ⟨met49,v50⟩ =>
 if (decide (v50 < (p1.Fns.length:Int)))=true then
  Option.bind (
   (getI p1.Fns v50).bind fun e59 =>
   Option.bind (
    (oE p1 e59).bind fun r62 =>
    if (!r62)=true then
     some true
    else
     (jB p1 e59.Name).bind fun r66 =>
     some (r66 != v50)) fun v68 =>
   if v68=true then
    some (Sum.inr (Sum.inr (Sum.inr false)))
   else
    aI (aH e59) (met49,0)) fun j58 =>
  match j58 with
  | Sum.inr z=>some z
  | Sum.inl met90 =>
   some (Sum.inl (met90,IntKind.wrap .i64 (v50 + 1)))
 else
  some (Sum.inr (Sum.inl met49))
def cF (met92:List Int):Int→Option ((Int) ⊕ ((Unit) ⊕ (Bool))):=fun v96 =>
 if (decide (v96 < (met92.length:Int)))=true then
  (getI met92 v96).bind fun e102 =>
  Option.bind (
   if (e102 != 1)=true then
    some (e102 != (-1))
   else
    some false) fun v107 =>
  if v107=true then
   some (Sum.inr (Sum.inr false))
  else
   some (Sum.inl (IntKind.wrap .i64 (v96 + 1)))
 else
  some (Sum.inr (Sum.inl ()))
def fX (p1:GProgram):Option (Bool) :=
 Option.bind (
  (bT (p1.Nodes.length:Int) 1 300).bind fun r4 =>
  if (!r4)=true then
   some true
  else
   (bT (p1.Fns.length:Int) 1 8).bind fun r8 =>
   if (!r8)=true then
    some true
   else
    (iC p1.Nodes (IntKind.wrap .i64 ((p1.Nodes.length:Int) - 1))).bind fun r12 =>
    some (r12 == 0)) fun v14 =>
 if v14=true then
  some false
 else
  (mkI 8 (p1.Nodes.length:Int) 0).bind fun l17 =>
  Option.bind (
   aI (cH p1) (l17,0)) fun met45 =>
  Option.bind (
   aI (bK p1) (met45,0)) fun j48 =>
  match j48 with
  | Sum.inr z=>some z
  | Sum.inl met92 =>
   Option.bind (
    aI (cF met92) 0) fun j95 =>
   match j95 with
   | Sum.inr z=>some z
   | Sum.inl () =>
    some true
def fJ (e17:GNode):((List Int) × Int)→Option (((List Int) × Int) ⊕ (List Int)):=fun ⟨out18,v19⟩ =>
 if (decide (v19 < (e17.Kids.length:Int)))=true then
  (getI e17.Kids v19).bind fun e25 =>
  (eZ out18 e25).bind fun r26 =>
  if (!r26)=true then
   (appI 8 out18 [e25]).bind fun l30 =>
   some (Sum.inl (l30,IntKind.wrap .i64 (v19 + 1)))
  else
   some (Sum.inl (out18,IntKind.wrap .i64 (v19 + 1)))
 else
  some (Sum.inr out18)
def fK (nodes1:List GNode):((List Int) × Int)→Option (((List Int) × Int) ⊕ (List Int)):=fun ⟨out6,i7⟩ =>
 if (decide (i7 < (out6.length:Int)))=true then
  Option.bind (
   (getI out6 i7).bind fun e16 =>
   (getI nodes1 e16).bind fun e17 =>
   aI (fJ e17) (out6,0)) fun out32 =>
  some (Sum.inl (out32,IntKind.wrap .i64 (i7 + 1)))
 else
  some (Sum.inr out6)
def lU (nodes1:List GNode) (k2:Int):Option (List Int) :=
 Option.bind (
  aI (fK nodes1) ([k2],0)) fun out34 =>
 (sort_Ints out34).bind fun q35 =>
 some q35
def jR (p1:GProgram) (k2:Int):Option (List Int) :=
 (iC p1.Nodes k2).bind fun r3 =>
 if (r3 == 0)=true then
  some []
 else
  (lU p1.Nodes k2).bind fun r7 =>
  some r7
def eP (e10:GFn):((List GVar) × Int)→Option (((List GVar) × Int) ⊕ (List GVar)):=fun ⟨out11,v12⟩ =>
 if (decide (v12 < (e10.Params.length:Int)))=true then
  (getI e10.Params v12).bind fun e18 =>
  (appI 32 out11 [(⟨e18.Name,e18.Typ,(-1)⟩:GVar)]).bind fun l19 =>
  some (Sum.inl (l19,IntKind.wrap .i64 (v12 + 1)))
 else
  some (Sum.inr out11)
def eN (p1:GProgram) (r27:List Int):((List GVar) × Int)→Option (((List GVar) × Int) ⊕ (List GVar)):=fun ⟨out29,v30⟩ =>
 if (decide (v30 < (r27.length:Int)))=true then
  (getI r27 v30).bind fun e36 =>
  (getI p1.Nodes e36).bind fun e37 =>
  if (e37.Kind == 13)=true then
   (appI 32 out29 [(⟨e37.Name,0,e36⟩:GVar)]).bind fun l40 =>
   some (Sum.inl (l40,IntKind.wrap .i64 (v30 + 1)))
  else
   some (Sum.inl (out29,IntKind.wrap .i64 (v30 + 1)))
 else
  some (Sum.inr out29)
def kM (p1:GProgram) (fn2:Int):Option (List GVar) :=
 (bT fn2 0 (IntKind.wrap .i64 ((p1.Fns.length:Int) - 1))).bind fun r3 =>
 if (!r3)=true then
  some []
 else
  Option.bind (
   (getI p1.Fns fn2).bind fun e10 =>
   aI (eP e10) ([],0)) fun out21 =>
  Option.bind (
   (getI p1.Fns fn2).bind fun e26 =>
   (jR p1 e26.Body).bind fun r27 =>
   aI (eN p1 r27) (out21,0)) fun out42 =>
  some out42
def fM (list1:List GVar) (name2:ByteArray):Int→Option ((Int) ⊕ ((Unit) ⊕ (Int))):=fun v6 =>
 if (decide (v6 < (list1.length:Int)))=true then
  (getI list1 v6).bind fun e12 =>
  if (sEq e12.Name name2)=true then
   some (Sum.inr (Sum.inr v6))
  else
   some (Sum.inl (IntKind.wrap .i64 (v6 + 1)))
 else
  some (Sum.inr (Sum.inl ()))
def lY (list1:List GVar) (name2:ByteArray):Option (Int) :=
 Option.bind (
  aI (fM list1 name2) 0) fun j5 =>
 match j5 with
 | Sum.inr z=>some z
 | Sum.inl () =>
  some (-1)
def dJ (r3:List GVar):Int→Option ((Int) ⊕ ((Unit) ⊕ (Bool))):=fun v8 =>
 if (decide (v8 < (r3.length:Int)))=true then
  (getI r3 v8).bind fun e14 =>
  (lY r3 e14.Name).bind fun r15 =>
  if (r15 != v8)=true then
   some (Sum.inr (Sum.inr false))
  else
   some (Sum.inl (IntKind.wrap .i64 (v8 + 1)))
 else
  some (Sum.inr (Sum.inl ()))
def iU (p1:GProgram) (fn2:Int):Option (Bool) :=
 (kM p1 fn2).bind fun r3 =>
 Option.bind (
  aI (dJ r3) 0) fun j7 =>
 match j7 with
 | Sum.inr z=>some z
 | Sum.inl () =>
  some true
def nZ (kind1:Int):Option (Bool) :=
 Option.bind (
  (bT kind1 2 6).bind fun r4 =>
  if r4=true then
   some true
  else
   if (kind1 == 14)=true then
    some true
   else
    some (kind1 == 15)) fun v10 =>
 some v10
def dK (l1:List ByteArray) (s2:ByteArray):Int→Option ((Int) ⊕ ((Unit) ⊕ (Bool))):=fun v6 =>
 if (decide (v6 < (l1.length:Int)))=true then
  (getI l1 v6).bind fun e12 =>
  if (sEq e12 s2)=true then
   some (Sum.inr (Sum.inr true))
  else
   some (Sum.inl (IntKind.wrap .i64 (v6 + 1)))
 else
  some (Sum.inr (Sum.inl ()))
def iW (l1:List ByteArray) (s2:ByteArray):Option (Bool) :=
 Option.bind (
  aI (dK l1 s2) 0) fun j5 =>
 match j5 with
 | Sum.inr z=>some z
 | Sum.inl () =>
  some false
def eY (rec_impl_seen:GProgram→Int→Int→(List ByteArray)→Option (Bool)) (p1:GProgram) (fn2:Int) (e5:GNode):((List ByteArray) × Int)→Option (((List ByteArray) × Int) ⊕ ((Unit) ⊕ (Bool))):=fun ⟨inner38,v39⟩ =>
 if (decide (v39 < (e5.Kids.length:Int)))=true then
  (getI e5.Kids v39).bind fun e45 =>
  (rec_impl_seen p1 fn2 e45 inner38).bind fun r46 =>
  if (!r46)=true then
   some (Sum.inr (Sum.inr false))
  else
   Option.bind (
    if (e5.Kind == 20)=true then
     (getI p1.Nodes e45).bind fun e55 =>
     some (e55.Kind == 13)
    else
     some false) fun v56 =>
   if v56=true then
    (getI p1.Nodes e45).bind fun e59 =>
    (appI 16 inner38 [e59.Name]).bind fun l60 =>
    some (Sum.inl (l60,IntKind.wrap .i64 (v39 + 1)))
   else
    some (Sum.inl (inner38,IntKind.wrap .i64 (v39 + 1)))
 else
  some (Sum.inr (Sum.inl ()))
def kJ (rec_impl_seen:GProgram→Int→Int→(List ByteArray)→Option (Bool)) (p1:GProgram) (fn2:Int) (k3:Int) (names4:List ByteArray):Option (Bool) :=
 (getI p1.Nodes k3).bind fun e5 =>
 Option.bind (
  (nZ e5.Kind).bind fun r8 =>
  if r8=true then
   (iW names4 e5.Name).bind fun r12 =>
   some (!r12)
  else
   some false) fun v14 =>
 if v14=true then
  some false
 else
  Option.bind (
   if (e5.Kind == 12)=true then
    (jB p1 e5.Name).bind fun r22 =>
    Option.bind (
     (bT r22 0 (IntKind.wrap .i64 (fn2 - 1))).bind fun r26 =>
     if (!r26)=true then
      some true
     else
      (getI p1.Fns r22).bind fun e30 =>
      some ((e30.Params.length:Int) != (e5.Kids.length:Int))) fun v31 =>
    if v31=true then
     some (Sum.inr false)
    else
     some (Sum.inl ())
   else
    some (Sum.inl ())) fun j19 =>
  match j19 with
  | Sum.inr z=>some z
  | Sum.inl () =>
   (appI 16 [] names4).bind fun l34 =>
   Option.bind (
    aI (eY rec_impl_seen p1 fn2 e5) (names4,0)) fun j37 =>
   match j37 with
   | Sum.inr z=>some z
   | Sum.inl () =>
    some true
def cT:Nat→GProgram→Int→Int→(List ByteArray)→Option (Bool)
 | 0=>fun _ _ _ _=>none
 | n + 1=>kJ (cT n)
def oA:GProgram→Int→Int→(List ByteArray)→Option (Bool):=(cT dG)
def bF (e18:GFn):((List ByteArray) × Int)→Option (((List ByteArray) × Int) ⊕ (List ByteArray)):=fun ⟨names27,v28⟩ =>
 if (decide (v28 < (e18.Params.length:Int)))=true then
  (getI e18.Params v28).bind fun e34 =>
  (appI 16 names27 [e34.Name]).bind fun l35 =>
  some (Sum.inl (l35,IntKind.wrap .i64 (v28 + 1)))
 else
  some (Sum.inr names27)
def bE (p1:GProgram) (e46:GNode):((List ByteArray) × Int)→Option (((List ByteArray) × Int) ⊕ (List ByteArray)):=fun ⟨names47,v48⟩ =>
 if (decide (v48 < (e46.Kids.length:Int)))=true then
  (getI e46.Kids v48).bind fun e54 =>
  (getI p1.Nodes e54).bind fun e55 =>
  if (e55.Kind == 13)=true then
   (getI p1.Nodes e54).bind fun e58 =>
   (appI 16 names47 [e58.Name]).bind fun l59 =>
   some (Sum.inl (l59,IntKind.wrap .i64 (v48 + 1)))
  else
   some (Sum.inl (names47,IntKind.wrap .i64 (v48 + 1)))
 else
  some (Sum.inr names47)
def bP (p1:GProgram):Int→Option ((Int) ⊕ ((Unit) ⊕ (Bool))):=fun v9 =>
 if (decide (v9 < (p1.Fns.length:Int)))=true then
  Option.bind (
   (getI p1.Fns v9).bind fun e18 =>
   (iU p1 v9).bind fun r19 =>
   if (!r19)=true then
    some (Sum.inr (Sum.inr (Sum.inr false)))
   else
    Option.bind (
     aI (bF e18) ([],0)) fun names37 =>
    (oA p1 v9 e18.Body names37).bind fun r38 =>
    if (!r38)=true then
     some (Sum.inr (Sum.inr (Sum.inr false)))
    else
     Option.bind (
      (getI p1.Nodes e18.Body).bind fun e46 =>
      aI (bE p1 e46) (names37,0)) fun names61 =>
     Option.bind (
      if (decide (e18.Ret ≥ 0))=true then
       (oA p1 v9 e18.Ret names61).bind fun r66 =>
       some (!r66)
      else
       some false) fun v68 =>
     if v68=true then
      some (Sum.inr (Sum.inr (Sum.inr false)))
     else
      some (Sum.inl ())) fun j17 =>
  match j17 with
  | Sum.inr z=>some z
  | Sum.inl () =>
   some (Sum.inl (IntKind.wrap .i64 (v9 + 1)))
 else
  some (Sum.inr (Sum.inl ()))
def fA (p1:GProgram):Option (Bool) :=
 (fX p1).bind fun r2 =>
 if (!r2)=true then
  some false
 else
  Option.bind (
   aI (bP p1) 0) fun j8 =>
  match j8 with
  | Sum.inr z=>some z
  | Sum.inl () =>
   some true
def lW (p1:GProgram) (fn2:Int):Option (List Int) :=
 (bT fn2 0 (IntKind.wrap .i64 ((p1.Fns.length:Int) - 1))).bind fun r3 =>
 if (!r3)=true then
  some []
 else
  (getI p1.Fns fn2).bind fun e7 =>
  (getI p1.Fns fn2).bind fun e8 =>
  if (e8.Ret != (-1))=true then
   (getI p1.Fns fn2).bind fun e11 =>
   (appI 8 [e7.Body] [e11.Ret]).bind fun l12 =>
   some l12
  else
   some [e7.Body]
def dL (r19:List Int):((List Int) × Int)→Option (((List Int) × Int) ⊕ (List Int)):=fun ⟨out21,v22⟩ =>
 if (decide (v22 < (r19.length:Int)))=true then
  (getI r19 v22).bind fun e28 =>
  (eZ out21 e28).bind fun r29 =>
  if (!r29)=true then
   (appI 8 out21 [e28]).bind fun l33 =>
   some (Sum.inl (l33,IntKind.wrap .i64 (v22 + 1)))
  else
   some (Sum.inl (out21,IntKind.wrap .i64 (v22 + 1)))
 else
  some (Sum.inr out21)
def cL (p1:GProgram) (r6:List Int):((List Int) × Int)→Option (((List Int) × Int) ⊕ (List Int)):=fun ⟨out8,v9⟩ =>
 if (decide (v9 < (r6.length:Int)))=true then
  Option.bind (
   (getI r6 v9).bind fun e18 =>
   (jR p1 e18).bind fun r19 =>
   aI (dL r19) (out8,0)) fun out35 =>
  some (Sum.inl (out35,IntKind.wrap .i64 (v9 + 1)))
 else
  some (Sum.inr out8)
def iY (p1:GProgram) (fn2:Int):Option (List Int) :=
 Option.bind (
  (lW p1 fn2).bind fun r6 =>
  aI (cL p1 r6) ([],0)) fun out37 =>
 (sort_Ints out37).bind fun q38 =>
 some q38
def dM (p1:GProgram) (r6:List Int):((List Int) × Int)→Option (((List Int) × Int) ⊕ (List Int)):=fun ⟨out8,v9⟩ =>
 if (decide (v9 < (r6.length:Int)))=true then
  (getI r6 v9).bind fun e15 =>
  (getI p1.Nodes e15).bind fun e16 =>
  if (e16.Kind == 12)=true then
   (jB p1 e16.Name).bind fun r19 =>
   Option.bind (
    if (decide (r19 ≥ 0))=true then
     (eZ out8 r19).bind fun r25 =>
     some (!r25)
    else
     some false) fun v27 =>
   if v27=true then
    (appI 8 out8 [r19]).bind fun l30 =>
    some (Sum.inl (l30,IntKind.wrap .i64 (v9 + 1)))
   else
    some (Sum.inl (out8,IntKind.wrap .i64 (v9 + 1)))
  else
   some (Sum.inl (out8,IntKind.wrap .i64 (v9 + 1)))
 else
  some (Sum.inr out8)
def jD (p1:GProgram) (fn2:Int):Option (List Int) :=
 Option.bind (
  (iY p1 fn2).bind fun r6 =>
  aI (dM p1 r6) ([],0)) fun out32 =>
 some out32
def dU (rec_impl_chain:GProgram→Int→Option (Int)) (p1:GProgram) (r6:List Int):(Int × Int)→Option ((Int × Int) ⊕ (Int)):=fun ⟨n8,v9⟩ =>
 if (decide (v9 < (r6.length:Int)))=true then
  (getI r6 v9).bind fun e15 =>
  (rec_impl_chain p1 e15).bind fun r16 =>
  some (Sum.inl (if r16 > n8 then r16 else n8,IntKind.wrap .i64 (v9 + 1)))
 else
  some (Sum.inr n8)
def iZ (rec_impl_chain:GProgram→Int→Option (Int)) (p1:GProgram) (fn2:Int):Option (Int) :=
 Option.bind (
  (jD p1 fn2).bind fun r6 =>
  aI (dU rec_impl_chain p1 r6) (0,0)) fun n19 =>
 some (IntKind.wrap .i64 (n19 + 1))
def bL:Nat→GProgram→Int→Option (Int)
 | 0=>fun _ _=>none
 | n + 1=>iZ (bL n)
def impl_chain:GProgram→Int→Option (Int):=(bL dG)
def jC (p1:GProgram):Option (Int) :=
 (fA p1).bind fun r2 =>
 if (!r2)=true then
  some 0
 else
  (impl_chain p1 (IntKind.wrap .i64 ((p1.Fns.length:Int) - 1))).bind fun r6 =>
  some r6
def eK (a1:List Int) (b2:List Int):Int→Option ((Int) ⊕ ((Unit) ⊕ (Bool))):=fun i8 =>
 if (decide (i8 < (a1.length:Int)))=true then
  (getI a1 i8).bind fun e15 =>
  (getI b2 i8).bind fun e16 =>
  if (e15 != e16)=true then
   some (Sum.inr (Sum.inr false))
  else
   some (Sum.inl (IntKind.wrap .i64 (i8 + 1)))
 else
  some (Sum.inr (Sum.inl ()))
def kH (a1:List Int) (b2:List Int):Option (Bool) :=
 if ((a1.length:Int) != (b2.length:Int))=true then
  some false
 else
  Option.bind (
   aI (eK a1 b2) 0) fun j7 =>
  match j7 with
  | Sum.inr z=>some z
  | Sum.inl () =>
   some true
def kG (a1:GNode) (b2:GNode):Option (Bool) :=
 if (a1.Kind != b2.Kind)=true then
  some false
 else
  if (a1.Num != b2.Num)=true then
   some false
  else
   if (!(sEq a1.Name b2.Name))=true then
    some false
   else
    (kH a1.Kids b2.Kids).bind fun r9 =>
    if (!r9)=true then
     some false
    else
     some true
def dI (a1:List GNode) (b2:List GNode):Int→Option ((Int) ⊕ ((Unit) ⊕ (Bool))):=fun i8 =>
 if (decide (i8 < (a1.length:Int)))=true then
  (getI a1 i8).bind fun e15 =>
  (getI b2 i8).bind fun e16 =>
  (kG e15 e16).bind fun r17 =>
  if (!r17)=true then
   some (Sum.inr (Sum.inr false))
  else
   some (Sum.inl (IntKind.wrap .i64 (i8 + 1)))
 else
  some (Sum.inr (Sum.inl ()))
def iT (a1:List GNode) (b2:List GNode):Option (Bool) :=
 if ((a1.length:Int) != (b2.length:Int))=true then
  some false
 else
  Option.bind (
   aI (dI a1 b2) 0) fun j7 =>
  match j7 with
  | Sum.inr z=>some z
  | Sum.inl () =>
   some true
def iS (a1:GParam) (b2:GParam):Option (Bool) :=
 if (!(sEq a1.Name b2.Name))=true then
  some false
 else
  if (a1.Typ != b2.Typ)=true then
   some false
  else
   some true
def cP (a1:List GParam) (b2:List GParam):Int→Option ((Int) ⊕ ((Unit) ⊕ (Bool))):=fun i8 =>
 if (decide (i8 < (a1.length:Int)))=true then
  (getI a1 i8).bind fun e15 =>
  (getI b2 i8).bind fun e16 =>
  (iS e15 e16).bind fun r17 =>
  if (!r17)=true then
   some (Sum.inr (Sum.inr false))
  else
   some (Sum.inl (IntKind.wrap .i64 (i8 + 1)))
 else
  some (Sum.inr (Sum.inl ()))
def gR (a1:List GParam) (b2:List GParam):Option (Bool) :=
 if ((a1.length:Int) != (b2.length:Int))=true then
  some false
 else
  Option.bind (
   aI (cP a1 b2) 0) fun j7 =>
  match j7 with
  | Sum.inr z=>some z
  | Sum.inl () =>
   some true
def nX (a1:GFn) (b2:GFn):Option (Bool) :=
 if (!(sEq a1.Name b2.Name))=true then
  some false
 else
  (gR a1.Params b2.Params).bind fun r5 =>
  if (!r5)=true then
   some false
  else
   if (a1.Res != b2.Res)=true then
    some false
   else
    if (a1.Body != b2.Body)=true then
     some false
    else
     if (a1.Ret != b2.Ret)=true then
      some false
     else
      some true
def fI (a1:List GFn) (b2:List GFn):Int→Option ((Int) ⊕ ((Unit) ⊕ (Bool))):=fun i8 =>
 if (decide (i8 < (a1.length:Int)))=true then
  (getI a1 i8).bind fun e15 =>
  (getI b2 i8).bind fun e16 =>
  (nX e15 e16).bind fun r17 =>
  if (!r17)=true then
   some (Sum.inr (Sum.inr false))
  else
   some (Sum.inl (IntKind.wrap .i64 (i8 + 1)))
 else
  some (Sum.inr (Sum.inl ()))
def lS (a1:List GFn) (b2:List GFn):Option (Bool) :=
 if ((a1.length:Int) != (b2.length:Int))=true then
  some false
 else
  Option.bind (
   aI (fI a1 b2) 0) fun j7 =>
  match j7 with
  | Sum.inr z=>some z
  | Sum.inl () =>
   some true
def fV (a1:GProgram) (b2:GProgram):Option (Bool) :=
 (iT a1.Nodes b2.Nodes).bind fun r3 =>
 if (!r3)=true then
  some false
 else
  (lS a1.Fns b2.Fns).bind fun r7 =>
  if (!r7)=true then
   some false
  else
   some true
def dS (aP1:GProgram):Option (Bool) :=
 (fU aP1 1048576).bind fun r2 =>
 if (decide (r2 < 0))=true then
  some true
 else
  (cV aP1).bind fun r6 =>
  (iK r6).bind fun r8 =>
  (cV aP1).bind fun r10 =>
  (jC r10).bind fun r12 =>
  if (r12 != r8)=true then
   some false
  else
   (cV aP1).bind fun r17 =>
   (fV r10 r17).bind fun r19 =>
   if (!r19)=true then
    some false
   else
    some true
end Go.OM
end
set_option maxRecDepth 100000
set_option maxHeartbeats 8000000
namespace Go.Proofs.T
open Go.OM
noncomputable def ty:TypeId→Option TI
 | 2=>some ⟨1,8,.int .i64,[.v (.int .i64 0)]⟩
 | 3=>some ⟨1,8,.int .i64,[.v (.int .i64 0)]⟩
 | 4=>some ⟨1,1,.bool,[.v (.bool false)]⟩
 | 5=>some ⟨1,1,.int .u8,[.v (.int .u8 0)]⟩
 | 7=>some ⟨4,24,.struct [(0,1),(1,1),(2,1),(3,1)],[.v (.int .i64 0),.v (.int .i64 0),.v (.bool false),.v (.int .u8 0)]⟩
 | 9=>some ⟨1,16,.str,[.v (.string .empty)]⟩
 | 12=>some ⟨1,8,.int .u64,[.v (.int .u64 0)]⟩
 | 13=>some ⟨2,24,.struct [(0,1),(1,1)],[.v (.string .empty),.v (.int .u64 0)]⟩
 | 15=>some ⟨1,8,.ptr,[.v (.pointer none)]⟩
 | 16=>some ⟨1,8,.ptr,[.v (.pointer none)]⟩
 | 17=>some ⟨1,8,.ptr,[.v (.pointer none)]⟩
 | 18=>some ⟨1,8,.struct [(0,1)],[.v (.pointer none)]⟩
 | 20=>some ⟨1,16,.iface,[.v .nilIface]⟩
 | 21=>some ⟨1,4,.int .i32,[.v (.int .i32 0)]⟩
 | 22=>some ⟨1,24,.slice 56,[.nl true 4 none]⟩
 | 23=>some ⟨1,24,.slice 60,[.nl true 5 none]⟩
 | 24=>some ⟨2,48,.struct [(0,1),(1,1)],[.nl true 4 none,.nl true 5 none]⟩
 | 25=>some ⟨2,48,.struct [(0,1),(1,1)],[.nl true 4 none,.nl true 5 none]⟩
 | 26=>some ⟨1,8,.func,[.v .nilFunc]⟩
 | 27=>some ⟨1,8,.func,[.v .nilFunc]⟩
 | 28=>some ⟨1,24,.slice 73,[.nl true 4 none]⟩
 | 29=>some ⟨1,24,.slice 50,[.nl true 5 none]⟩
 | 30=>some ⟨2,48,.struct [(0,1),(1,1)],[.nl true 4 none,.nl true 5 none]⟩
 | 31=>some ⟨2,48,.struct [(0,1),(1,1)],[.nl true 4 none,.nl true 5 none]⟩
 | 32=>some ⟨1,8,.func,[.v .nilFunc]⟩
 | 33=>some ⟨1,8,.func,[.v .nilFunc]⟩
 | 34=>some ⟨1,8,.func,[.v .nilFunc]⟩
 | 36=>some ⟨1,8,.func,[.v .nilFunc]⟩
 | 37=>some ⟨1,8,.func,[.v .nilFunc]⟩
 | 38=>some ⟨1,8,.func,[.v .nilFunc]⟩
 | 39=>some ⟨1,8,.func,[.v .nilFunc]⟩
 | 40=>some ⟨1,8,.func,[.v .nilFunc]⟩
 | 41=>some ⟨1,24,.slice 3,[.nl true 1 none]⟩
 | 42=>some ⟨1,8,.func,[.v .nilFunc]⟩
 | 43=>some ⟨1,8,.func,[.v .nilFunc]⟩
 | 44=>some ⟨1,8,.func,[.v .nilFunc]⟩
 | 45=>some ⟨1,8,.func,[.v .nilFunc]⟩
 | 46=>some ⟨1,8,.func,[.v .nilFunc]⟩
 | 47=>some ⟨1,8,.func,[.v .nilFunc]⟩
 | 48=>some ⟨1,24,.slice 71,[.nl true 2 none]⟩
 | 49=>some ⟨5,64,.struct [(0,1),(1,1),(2,1),(3,1),(4,1)],[.v (.string .empty),.nl true 2 none,.v (.int .i64 0),.v (.int .i64 0),.v (.int .i64 0)]⟩
 | 50=>some ⟨5,64,.struct [(0,1),(1,1),(2,1),(3,1),(4,1)],[.v (.string .empty),.nl true 2 none,.v (.int .i64 0),.v (.int .i64 0),.v (.int .i64 0)]⟩
 | 51=>some ⟨1,8,.func,[.v .nilFunc]⟩
 | 52=>some ⟨1,8,.func,[.v .nilFunc]⟩
 | 53=>some ⟨1,8,.func,[.v .nilFunc]⟩
 | 54=>some ⟨1,8,.func,[.v .nilFunc]⟩
 | 55=>some ⟨4,56,.struct [(0,1),(1,1),(2,1),(3,1)],[.v (.int .i64 0),.v (.int .i64 0),.v (.string .empty),.nl true 1 none]⟩
 | 56=>some ⟨4,56,.struct [(0,1),(1,1),(2,1),(3,1)],[.v (.int .i64 0),.v (.int .i64 0),.v (.string .empty),.nl true 1 none]⟩
 | 57=>some ⟨1,8,.func,[.v .nilFunc]⟩
 | 58=>some ⟨1,24,.slice 113,[.nl true 2 none]⟩
 | 59=>some ⟨5,64,.struct [(0,1),(1,1),(2,1),(3,1),(4,1)],[.v (.string .empty),.nl true 2 none,.v (.int .i64 0),.v (.int .i64 0),.v (.int .i64 0)]⟩
 | 60=>some ⟨5,64,.struct [(0,1),(1,1),(2,1),(3,1),(4,1)],[.v (.string .empty),.nl true 2 none,.v (.int .i64 0),.v (.int .i64 0),.v (.int .i64 0)]⟩
 | 61=>some ⟨1,24,.slice 65,[.nl true 3 none]⟩
 | 62=>some ⟨1,8,.func,[.v .nilFunc]⟩
 | 63=>some ⟨1,8,.func,[.v .nilFunc]⟩
 | 64=>some ⟨3,32,.struct [(0,1),(1,1),(2,1)],[.v (.string .empty),.v (.int .i64 0),.v (.int .i64 0)]⟩
 | 65=>some ⟨3,32,.struct [(0,1),(1,1),(2,1)],[.v (.string .empty),.v (.int .i64 0),.v (.int .i64 0)]⟩
 | 66=>some ⟨1,8,.ptr,[.v (.pointer none)]⟩
 | 67=>some ⟨1,24,.slice 9,[.nl true 1 none]⟩
 | 68=>some ⟨5,88,.struct [(0,2),(2,1),(3,1),(4,1)],[.nl true 4 none,.nl true 5 none,.v (.int .i64 0),.nl true 1 none,.v (.bool false)]⟩
 | 69=>some ⟨5,88,.struct [(0,2),(2,1),(3,1),(4,1)],[.nl true 4 none,.nl true 5 none,.v (.int .i64 0),.nl true 1 none,.v (.bool false)]⟩
 | 70=>some ⟨2,24,.struct [(0,1),(1,1)],[.v (.string .empty),.v (.int .i64 0)]⟩
 | 71=>some ⟨2,24,.struct [(0,1),(1,1)],[.v (.string .empty),.v (.int .i64 0)]⟩
 | 72=>some ⟨1,8,.func,[.v .nilFunc]⟩
 | 73=>some ⟨4,56,.struct [(0,1),(1,1),(2,1),(3,1)],[.v (.int .i64 0),.v (.int .i64 0),.v (.string .empty),.nl true 1 none]⟩
 | 74=>some ⟨1,8,.func,[.v .nilFunc]⟩
 | 75=>some ⟨1,8,.func,[.v .nilFunc]⟩
 | 76=>some ⟨1,8,.func,[.v .nilFunc]⟩
 | 77=>some ⟨1,8,.func,[.v .nilFunc]⟩
 | 78=>some ⟨1,8,.func,[.v .nilFunc]⟩
 | 79=>some ⟨1,8,.func,[.v .nilFunc]⟩
 | 80=>some ⟨1,8,.func,[.v .nilFunc]⟩
 | 81=>some ⟨1,8,.func,[.v .nilFunc]⟩
 | 82=>some ⟨1,8,.func,[.v .nilFunc]⟩
 | 83=>some ⟨1,8,.func,[.v .nilFunc]⟩
 | 84=>some ⟨1,8,.func,[.v .nilFunc]⟩
 | 85=>some ⟨1,8,.func,[.v .nilFunc]⟩
 | 86=>some ⟨1,24,.slice 4,[.nl true 1 none]⟩
 | 87=>some ⟨1,8,.ptr,[.v (.pointer none)]⟩
 | 88=>some ⟨3,56,.struct [(0,1),(1,1),(2,1)],[.nl true 4 none,.nl true 4 none,.v (.bool false)]⟩
 | 89=>some ⟨3,56,.struct [(0,1),(1,1),(2,1)],[.nl true 4 none,.nl true 4 none,.v (.bool false)]⟩
 | 90=>some ⟨1,8,.func,[.v .nilFunc]⟩
 | 91=>some ⟨1,8,.func,[.v .nilFunc]⟩
 | 92=>some ⟨1,8,.func,[.v .nilFunc]⟩
 | 93=>some ⟨1,8,.func,[.v .nilFunc]⟩
 | 94=>some ⟨3,56,.struct [(0,1),(1,1),(2,1)],[.nl true 4 none,.nl true 4 none,.v (.bool false)]⟩
 | 95=>some ⟨3,56,.struct [(0,1),(1,1),(2,1)],[.nl true 4 none,.nl true 4 none,.v (.bool false)]⟩
 | 96=>some ⟨1,8,.func,[.v .nilFunc]⟩
 | 97=>some ⟨1,8,.func,[.v .nilFunc]⟩
 | 98=>some ⟨1,8,.func,[.v .nilFunc]⟩
 | 99=>some ⟨1,8,.func,[.v .nilFunc]⟩
 | 100=>some ⟨1,8,.func,[.v .nilFunc]⟩
 | 101=>some ⟨1,8,.func,[.v .nilFunc]⟩
 | 102=>some ⟨1,8,.func,[.v .nilFunc]⟩
 | 103=>some ⟨1,8,.func,[.v .nilFunc]⟩
 | 104=>some ⟨1,8,.func,[.v .nilFunc]⟩
 | 105=>some ⟨1,8,.func,[.v .nilFunc]⟩
 | 106=>some ⟨1,8,.func,[.v .nilFunc]⟩
 | 107=>some ⟨1,8,.func,[.v .nilFunc]⟩
 | 109=>some ⟨1,8,.func,[.v .nilFunc]⟩
 | 110=>some ⟨1,8,.ptr,[.v (.pointer none)]⟩
 | 111=>some ⟨1,24,.slice 5,[.nl true 1 none]⟩
 | 112=>some ⟨1,8,.func,[.v .nilFunc]⟩
 | 113=>some ⟨2,24,.struct [(0,1),(1,1)],[.v (.string .empty),.v (.int .i64 0)]⟩
 | 114=>some ⟨1,8,.func,[.v .nilFunc]⟩
 | 115=>some ⟨1,8,.func,[.v .nilFunc]⟩
 | 116=>some ⟨1,8,.func,[.v .nilFunc]⟩
 | 118=>some ⟨1,8,.func,[.v .nilFunc]⟩
 | 119=>some ⟨1,8,.func,[.v .nilFunc]⟩
 | 120=>some ⟨1,8,.func,[.v .nilFunc]⟩
 | 121=>some ⟨1,8,.func,[.v .nilFunc]⟩
 | 122=>some ⟨1,8,.int .u64,[.v (.int .u64 0)]⟩
 | 123=>some ⟨1,8,.func,[.v .nilFunc]⟩
 | 124=>some ⟨1,8,.func,[.v .nilFunc]⟩
 | 125=>some ⟨1,8,.func,[.v .nilFunc]⟩
 | 126=>some ⟨1,8,.int .i64,[.v (.int .i64 0)]⟩
 | 128=>some ⟨1,8,.func,[.v .nilFunc]⟩
 | 129=>some ⟨1,8,.func,[.v .nilFunc]⟩
 | 130=>some ⟨1,8,.func,[.v .nilFunc]⟩
 | 131=>some ⟨1,8,.func,[.v .nilFunc]⟩
 | 133=>some ⟨1,8,.func,[.v .nilFunc]⟩
 | 134=>some ⟨1,8,.func,[.v .nilFunc]⟩
 | 135=>some ⟨1,4,.int .u32,[.v (.int .u32 0)]⟩
 | 136=>some ⟨1,8,.func,[.v .nilFunc]⟩
 | 137=>some ⟨1,8,.int .u64,[.v (.int .u64 0)]⟩
 | 138=>some ⟨1,8,.func,[.v .nilFunc]⟩
 | 139=>some ⟨1,8,.int .u64,[.v (.int .u64 0)]⟩
 | 140=>some ⟨1,8,.func,[.v .nilFunc]⟩
 | 141=>some ⟨1,8,.func,[.v .nilFunc]⟩
 | 142=>some ⟨1,8,.func,[.v .nilFunc]⟩
 | 143=>some ⟨1,8,.ptr,[.v (.pointer none)]⟩
 | 144=>some ⟨1,8,.func,[.v .nilFunc]⟩
 | 145=>some ⟨1,8,.func,[.v .nilFunc]⟩
 | 146=>some ⟨1,8,.ptr,[.v (.pointer none)]⟩
 | 147=>some ⟨1,8,.func,[.v .nilFunc]⟩
 | 148=>some ⟨1,8,.func,[.v .nilFunc]⟩
 | 149=>some ⟨1,8,.func,[.v .nilFunc]⟩
 | 150=>some ⟨1,8,.func,[.v .nilFunc]⟩
 | 152=>some ⟨1,8,.func,[.v .nilFunc]⟩
 | 153=>some ⟨1,8,.func,[.v .nilFunc]⟩
 | 154=>some ⟨1,8,.func,[.v .nilFunc]⟩
 | 156=>some ⟨2,2,.struct [(0,1),(1,1)],[.v (.int .u8 0),.v (.int .u8 0)]⟩
 | 157=>some ⟨2,2,.struct [(0,1),(1,1)],[.v (.int .u8 0),.v (.int .u8 0)]⟩
 | 160=>some ⟨1,8,.func,[.v .nilFunc]⟩
 | 161=>some ⟨1,8,.func,[.v .nilFunc]⟩
 | 162=>some ⟨4,40,.struct [(0,1),(1,1),(2,1),(3,1)],[.v (.pointer none),.v (.pointer none),.v (.pointer none),.v (.string .empty)]⟩
 | 167=>some ⟨1,8,.func,[.v .nilFunc]⟩
 | 170=>some ⟨1,8,.func,[.v .nilFunc]⟩
 | 171=>some ⟨1,8,.ptr,[.v (.pointer none)]⟩
 | 174=>some ⟨11,48,.struct [(0,1),(1,1),(2,1),(3,1),(4,1),(5,1),(6,1),(7,1),(8,1),(9,1),(10,1)],[.v (.int .u64 0),.v (.int .u64 0),.v (.int .u32 0),.v (.int .u8 0),.v (.int .u8 0),.v (.int .u8 0),.v (.int .u8 0),.v .nilFunc,.v (.pointer none),.v (.int .i32 0),.v (.int .i32 0)]⟩
 | _=>none
theorem ty_ok (t:TypeId) (ti:TI) (h:ty t=some ti):TIok Tryz.prog t ti:=by
 unfold ty at h
 split at h
 ·cases h;exact ⟨by kernel_rfl,Tryz.underlying2,rfl⟩
 ·cases h;exact ⟨by kernel_rfl,Tryz.underlying3,rfl⟩
 ·cases h;exact ⟨by kernel_rfl,Tryz.underlying4,rfl⟩
 ·cases h;exact ⟨by kernel_rfl,Tryz.underlying5,rfl⟩
 ·cases h;exact ⟨by kernel_rfl,(show aG Tryz.prog 7=some [(0,1),(1,1),(2,1),(3,1)] by kernel_rfl),rfl⟩
 ·cases h;exact ⟨by kernel_rfl,Tryz.underlying9,rfl⟩
 ·cases h;exact ⟨by kernel_rfl,Tryz.underlying12,rfl⟩
 ·cases h;exact ⟨by kernel_rfl,(show aG Tryz.prog 13=some [(0,1),(1,1)] by kernel_rfl),rfl⟩
 ·cases h;exact ⟨by kernel_rfl,⟨_,Tryz.underlying15⟩,rfl⟩
 ·cases h;exact ⟨by kernel_rfl,⟨_,Tryz.underlying16⟩,rfl⟩
 ·cases h;exact ⟨by kernel_rfl,⟨_,Tryz.underlying17⟩,rfl⟩
 ·cases h;exact ⟨by kernel_rfl,(show aG Tryz.prog 18=some [(0,1)] by kernel_rfl),rfl⟩
 ·cases h;exact ⟨by kernel_rfl,⟨_,Tryz.underlying20⟩,rfl⟩
 ·cases h;exact ⟨by kernel_rfl,Tryz.underlying21,rfl⟩
 ·cases h;exact ⟨by kernel_rfl,Tryz.underlying22,rfl⟩
 ·cases h;exact ⟨by kernel_rfl,Tryz.underlying23,rfl⟩
 ·cases h;exact ⟨by kernel_rfl,(show aG Tryz.prog 24=some [(0,1),(1,1)] by kernel_rfl),rfl⟩
 ·cases h;exact ⟨by kernel_rfl,(show aG Tryz.prog 25=some [(0,1),(1,1)] by kernel_rfl),rfl⟩
 ·cases h;exact ⟨by kernel_rfl,⟨_,_,_,Tryz.underlying26⟩,rfl⟩
 ·cases h;exact ⟨by kernel_rfl,⟨_,_,_,Tryz.underlying27⟩,rfl⟩
 ·cases h;exact ⟨by kernel_rfl,Tryz.underlying28,rfl⟩
 ·cases h;exact ⟨by kernel_rfl,Tryz.underlying29,rfl⟩
 ·cases h;exact ⟨by kernel_rfl,(show aG Tryz.prog 30=some [(0,1),(1,1)] by kernel_rfl),rfl⟩
 ·cases h;exact ⟨by kernel_rfl,(show aG Tryz.prog 31=some [(0,1),(1,1)] by kernel_rfl),rfl⟩
 ·cases h;exact ⟨by kernel_rfl,⟨_,_,_,Tryz.underlying32⟩,rfl⟩
 ·cases h;exact ⟨by kernel_rfl,⟨_,_,_,Tryz.underlying33⟩,rfl⟩
 ·cases h;exact ⟨by kernel_rfl,⟨_,_,_,Tryz.underlying34⟩,rfl⟩
 ·cases h;exact ⟨by kernel_rfl,⟨_,_,_,Tryz.underlying36⟩,rfl⟩
 ·cases h;exact ⟨by kernel_rfl,⟨_,_,_,Tryz.underlying37⟩,rfl⟩
 ·cases h;exact ⟨by kernel_rfl,⟨_,_,_,Tryz.underlying38⟩,rfl⟩
 ·cases h;exact ⟨by kernel_rfl,⟨_,_,_,Tryz.underlying39⟩,rfl⟩
 ·cases h;exact ⟨by kernel_rfl,⟨_,_,_,Tryz.underlying40⟩,rfl⟩
 ·cases h;exact ⟨by kernel_rfl,Tryz.underlying41,rfl⟩
 ·cases h;exact ⟨by kernel_rfl,⟨_,_,_,Tryz.underlying42⟩,rfl⟩
 ·cases h;exact ⟨by kernel_rfl,⟨_,_,_,Tryz.underlying43⟩,rfl⟩
 ·cases h;exact ⟨by kernel_rfl,⟨_,_,_,Tryz.underlying44⟩,rfl⟩
 ·cases h;exact ⟨by kernel_rfl,⟨_,_,_,Tryz.underlying45⟩,rfl⟩
 ·cases h;exact ⟨by kernel_rfl,⟨_,_,_,Tryz.underlying46⟩,rfl⟩
 ·cases h;exact ⟨by kernel_rfl,⟨_,_,_,Tryz.underlying47⟩,rfl⟩
 ·cases h;exact ⟨by kernel_rfl,Tryz.underlying48,rfl⟩
 ·cases h;exact ⟨by kernel_rfl,(show aG Tryz.prog 49=some [(0,1),(1,1),(2,1),(3,1),(4,1)] by kernel_rfl),rfl⟩
 ·cases h;exact ⟨by kernel_rfl,(show aG Tryz.prog 50=some [(0,1),(1,1),(2,1),(3,1),(4,1)] by kernel_rfl),rfl⟩
 ·cases h;exact ⟨by kernel_rfl,⟨_,_,_,Tryz.underlying51⟩,rfl⟩
 ·cases h;exact ⟨by kernel_rfl,⟨_,_,_,Tryz.underlying52⟩,rfl⟩
 ·cases h;exact ⟨by kernel_rfl,⟨_,_,_,Tryz.underlying53⟩,rfl⟩
 ·cases h;exact ⟨by kernel_rfl,⟨_,_,_,Tryz.underlying54⟩,rfl⟩
 ·cases h;exact ⟨by kernel_rfl,(show aG Tryz.prog 55=some [(0,1),(1,1),(2,1),(3,1)] by kernel_rfl),rfl⟩
 ·cases h;exact ⟨by kernel_rfl,(show aG Tryz.prog 56=some [(0,1),(1,1),(2,1),(3,1)] by kernel_rfl),rfl⟩
 ·cases h;exact ⟨by kernel_rfl,⟨_,_,_,Tryz.underlying57⟩,rfl⟩
 ·cases h;exact ⟨by kernel_rfl,Tryz.underlying58,rfl⟩
 ·cases h;exact ⟨by kernel_rfl,(show aG Tryz.prog 59=some [(0,1),(1,1),(2,1),(3,1),(4,1)] by kernel_rfl),rfl⟩
 ·cases h;exact ⟨by kernel_rfl,(show aG Tryz.prog 60=some [(0,1),(1,1),(2,1),(3,1),(4,1)] by kernel_rfl),rfl⟩
 ·cases h;exact ⟨by kernel_rfl,Tryz.underlying61,rfl⟩
 ·cases h;exact ⟨by kernel_rfl,⟨_,_,_,Tryz.underlying62⟩,rfl⟩
 ·cases h;exact ⟨by kernel_rfl,⟨_,_,_,Tryz.underlying63⟩,rfl⟩
 ·cases h;exact ⟨by kernel_rfl,(show aG Tryz.prog 64=some [(0,1),(1,1),(2,1)] by kernel_rfl),rfl⟩
 ·cases h;exact ⟨by kernel_rfl,(show aG Tryz.prog 65=some [(0,1),(1,1),(2,1)] by kernel_rfl),rfl⟩
 ·cases h;exact ⟨by kernel_rfl,⟨_,Tryz.underlying66⟩,rfl⟩
 ·cases h;exact ⟨by kernel_rfl,Tryz.underlying67,rfl⟩
 ·cases h;exact ⟨by kernel_rfl,(show aG Tryz.prog 68=some [(0,2),(2,1),(3,1),(4,1)] by kernel_rfl),rfl⟩
 ·cases h;exact ⟨by kernel_rfl,(show aG Tryz.prog 69=some [(0,2),(2,1),(3,1),(4,1)] by kernel_rfl),rfl⟩
 ·cases h;exact ⟨by kernel_rfl,(show aG Tryz.prog 70=some [(0,1),(1,1)] by kernel_rfl),rfl⟩
 ·cases h;exact ⟨by kernel_rfl,(show aG Tryz.prog 71=some [(0,1),(1,1)] by kernel_rfl),rfl⟩
 ·cases h;exact ⟨by kernel_rfl,⟨_,_,_,Tryz.underlying72⟩,rfl⟩
 ·cases h;exact ⟨by kernel_rfl,(show aG Tryz.prog 73=some [(0,1),(1,1),(2,1),(3,1)] by kernel_rfl),rfl⟩
 ·cases h;exact ⟨by kernel_rfl,⟨_,_,_,Tryz.underlying74⟩,rfl⟩
 ·cases h;exact ⟨by kernel_rfl,⟨_,_,_,Tryz.underlying75⟩,rfl⟩
 ·cases h;exact ⟨by kernel_rfl,⟨_,_,_,Tryz.underlying76⟩,rfl⟩
 ·cases h;exact ⟨by kernel_rfl,⟨_,_,_,Tryz.underlying77⟩,rfl⟩
 ·cases h;exact ⟨by kernel_rfl,⟨_,_,_,Tryz.underlying78⟩,rfl⟩
 ·cases h;exact ⟨by kernel_rfl,⟨_,_,_,Tryz.underlying79⟩,rfl⟩
 ·cases h;exact ⟨by kernel_rfl,⟨_,_,_,Tryz.underlying80⟩,rfl⟩
 ·cases h;exact ⟨by kernel_rfl,⟨_,_,_,Tryz.underlying81⟩,rfl⟩
 ·cases h;exact ⟨by kernel_rfl,⟨_,_,_,Tryz.underlying82⟩,rfl⟩
 ·cases h;exact ⟨by kernel_rfl,⟨_,_,_,Tryz.underlying83⟩,rfl⟩
 ·cases h;exact ⟨by kernel_rfl,⟨_,_,_,Tryz.underlying84⟩,rfl⟩
 ·cases h;exact ⟨by kernel_rfl,⟨_,_,_,Tryz.underlying85⟩,rfl⟩
 ·cases h;exact ⟨by kernel_rfl,Tryz.underlying86,rfl⟩
 ·cases h;exact ⟨by kernel_rfl,⟨_,Tryz.underlying87⟩,rfl⟩
 ·cases h;exact ⟨by kernel_rfl,(show aG Tryz.prog 88=some [(0,1),(1,1),(2,1)] by kernel_rfl),rfl⟩
 ·cases h;exact ⟨by kernel_rfl,(show aG Tryz.prog 89=some [(0,1),(1,1),(2,1)] by kernel_rfl),rfl⟩
 ·cases h;exact ⟨by kernel_rfl,⟨_,_,_,Tryz.underlying90⟩,rfl⟩
 ·cases h;exact ⟨by kernel_rfl,⟨_,_,_,Tryz.underlying91⟩,rfl⟩
 ·cases h;exact ⟨by kernel_rfl,⟨_,_,_,Tryz.underlying92⟩,rfl⟩
 ·cases h;exact ⟨by kernel_rfl,⟨_,_,_,Tryz.underlying93⟩,rfl⟩
 ·cases h;exact ⟨by kernel_rfl,(show aG Tryz.prog 94=some [(0,1),(1,1),(2,1)] by kernel_rfl),rfl⟩
 ·cases h;exact ⟨by kernel_rfl,(show aG Tryz.prog 95=some [(0,1),(1,1),(2,1)] by kernel_rfl),rfl⟩
 ·cases h;exact ⟨by kernel_rfl,⟨_,_,_,Tryz.underlying96⟩,rfl⟩
 ·cases h;exact ⟨by kernel_rfl,⟨_,_,_,Tryz.underlying97⟩,rfl⟩
 ·cases h;exact ⟨by kernel_rfl,⟨_,_,_,Tryz.underlying98⟩,rfl⟩
 ·cases h;exact ⟨by kernel_rfl,⟨_,_,_,Tryz.underlying99⟩,rfl⟩
 ·cases h;exact ⟨by kernel_rfl,⟨_,_,_,Tryz.underlying100⟩,rfl⟩
 ·cases h;exact ⟨by kernel_rfl,⟨_,_,_,Tryz.underlying101⟩,rfl⟩
 ·cases h;exact ⟨by kernel_rfl,⟨_,_,_,Tryz.underlying102⟩,rfl⟩
 ·cases h;exact ⟨by kernel_rfl,⟨_,_,_,Tryz.underlying103⟩,rfl⟩
 ·cases h;exact ⟨by kernel_rfl,⟨_,_,_,Tryz.underlying104⟩,rfl⟩
 ·cases h;exact ⟨by kernel_rfl,⟨_,_,_,Tryz.underlying105⟩,rfl⟩
 ·cases h;exact ⟨by kernel_rfl,⟨_,_,_,Tryz.underlying106⟩,rfl⟩
 ·cases h;exact ⟨by kernel_rfl,⟨_,_,_,Tryz.underlying107⟩,rfl⟩
 ·cases h;exact ⟨by kernel_rfl,⟨_,_,_,Tryz.underlying109⟩,rfl⟩
 ·cases h;exact ⟨by kernel_rfl,⟨_,Tryz.underlying110⟩,rfl⟩
 ·cases h;exact ⟨by kernel_rfl,Tryz.underlying111,rfl⟩
 ·cases h;exact ⟨by kernel_rfl,⟨_,_,_,Tryz.underlying112⟩,rfl⟩
 ·cases h;exact ⟨by kernel_rfl,(show aG Tryz.prog 113=some [(0,1),(1,1)] by kernel_rfl),rfl⟩
 ·cases h;exact ⟨by kernel_rfl,⟨_,_,_,Tryz.underlying114⟩,rfl⟩
 ·cases h;exact ⟨by kernel_rfl,⟨_,_,_,Tryz.underlying115⟩,rfl⟩
 ·cases h;exact ⟨by kernel_rfl,⟨_,_,_,Tryz.underlying116⟩,rfl⟩
 ·cases h;exact ⟨by kernel_rfl,⟨_,_,_,Tryz.underlying118⟩,rfl⟩
 ·cases h;exact ⟨by kernel_rfl,⟨_,_,_,Tryz.underlying119⟩,rfl⟩
 ·cases h;exact ⟨by kernel_rfl,⟨_,_,_,Tryz.underlying120⟩,rfl⟩
 ·cases h;exact ⟨by kernel_rfl,⟨_,_,_,Tryz.underlying121⟩,rfl⟩
 ·cases h;exact ⟨by kernel_rfl,Tryz.underlying122,rfl⟩
 ·cases h;exact ⟨by kernel_rfl,⟨_,_,_,Tryz.underlying123⟩,rfl⟩
 ·cases h;exact ⟨by kernel_rfl,⟨_,_,_,Tryz.underlying124⟩,rfl⟩
 ·cases h;exact ⟨by kernel_rfl,⟨_,_,_,Tryz.underlying125⟩,rfl⟩
 ·cases h;exact ⟨by kernel_rfl,Tryz.underlying126,rfl⟩
 ·cases h;exact ⟨by kernel_rfl,⟨_,_,_,Tryz.underlying128⟩,rfl⟩
 ·cases h;exact ⟨by kernel_rfl,⟨_,_,_,Tryz.underlying129⟩,rfl⟩
 ·cases h;exact ⟨by kernel_rfl,⟨_,_,_,Tryz.underlying130⟩,rfl⟩
 ·cases h;exact ⟨by kernel_rfl,⟨_,_,_,Tryz.underlying131⟩,rfl⟩
 ·cases h;exact ⟨by kernel_rfl,⟨_,_,_,Tryz.underlying133⟩,rfl⟩
 ·cases h;exact ⟨by kernel_rfl,⟨_,_,_,Tryz.underlying134⟩,rfl⟩
 ·cases h;exact ⟨by kernel_rfl,Tryz.underlying135,rfl⟩
 ·cases h;exact ⟨by kernel_rfl,⟨_,_,_,Tryz.underlying136⟩,rfl⟩
 ·cases h;exact ⟨by kernel_rfl,Tryz.underlying137,rfl⟩
 ·cases h;exact ⟨by kernel_rfl,⟨_,_,_,Tryz.underlying138⟩,rfl⟩
 ·cases h;exact ⟨by kernel_rfl,Tryz.underlying139,rfl⟩
 ·cases h;exact ⟨by kernel_rfl,⟨_,_,_,Tryz.underlying140⟩,rfl⟩
 ·cases h;exact ⟨by kernel_rfl,⟨_,_,_,Tryz.underlying141⟩,rfl⟩
 ·cases h;exact ⟨by kernel_rfl,⟨_,_,_,Tryz.underlying142⟩,rfl⟩
 ·cases h;exact ⟨by kernel_rfl,⟨_,Tryz.underlying143⟩,rfl⟩
 ·cases h;exact ⟨by kernel_rfl,⟨_,_,_,Tryz.underlying144⟩,rfl⟩
 ·cases h;exact ⟨by kernel_rfl,⟨_,_,_,Tryz.underlying145⟩,rfl⟩
 ·cases h;exact ⟨by kernel_rfl,⟨_,Tryz.underlying146⟩,rfl⟩
 ·cases h;exact ⟨by kernel_rfl,⟨_,_,_,Tryz.underlying147⟩,rfl⟩
 ·cases h;exact ⟨by kernel_rfl,⟨_,_,_,Tryz.underlying148⟩,rfl⟩
 ·cases h;exact ⟨by kernel_rfl,⟨_,_,_,Tryz.underlying149⟩,rfl⟩
 ·cases h;exact ⟨by kernel_rfl,⟨_,_,_,Tryz.underlying150⟩,rfl⟩
 ·cases h;exact ⟨by kernel_rfl,⟨_,_,_,Tryz.underlying152⟩,rfl⟩
 ·cases h;exact ⟨by kernel_rfl,⟨_,_,_,Tryz.underlying153⟩,rfl⟩
 ·cases h;exact ⟨by kernel_rfl,⟨_,_,_,Tryz.underlying154⟩,rfl⟩
 ·cases h;exact ⟨by kernel_rfl,(show aG Tryz.prog 156=some [(0,1),(1,1)] by kernel_rfl),rfl⟩
 ·cases h;exact ⟨by kernel_rfl,(show aG Tryz.prog 157=some [(0,1),(1,1)] by kernel_rfl),rfl⟩
 ·cases h;exact ⟨by kernel_rfl,⟨_,_,_,Tryz.underlying160⟩,rfl⟩
 ·cases h;exact ⟨by kernel_rfl,⟨_,_,_,Tryz.underlying161⟩,rfl⟩
 ·cases h;exact ⟨by kernel_rfl,(show aG Tryz.prog 162=some [(0,1),(1,1),(2,1),(3,1)] by kernel_rfl),rfl⟩
 ·cases h;exact ⟨by kernel_rfl,⟨_,_,_,Tryz.underlying167⟩,rfl⟩
 ·cases h;exact ⟨by kernel_rfl,⟨_,_,_,Tryz.underlying170⟩,rfl⟩
 ·cases h;exact ⟨by kernel_rfl,⟨_,Tryz.underlying171⟩,rfl⟩
 ·cases h;exact ⟨by kernel_rfl,(show aG Tryz.prog 174=some [(0,1),(1,1),(2,1),(3,1),(4,1),(5,1),(6,1),(7,1),(8,1),(9,1),(10,1)] by kernel_rfl),rfl⟩
 ·cases h
noncomputable def E:Env:=⟨Tryz.prog,ty,ty_ok,by kernel_rfl,[(0,fun cs=>∃ m,cs[0]? = some (.int .i64 m))]⟩
@[simp] theorem E_ty2:E.ty 2=some ⟨1,8,.int .i64,[.v (.int .i64 0)]⟩:=rfl
@[simp] theorem E_ty3:E.ty 3=some ⟨1,8,.int .i64,[.v (.int .i64 0)]⟩:=rfl
@[simp] theorem E_ty4:E.ty 4=some ⟨1,1,.bool,[.v (.bool false)]⟩:=rfl
@[simp] theorem E_ty5:E.ty 5=some ⟨1,1,.int .u8,[.v (.int .u8 0)]⟩:=rfl
@[simp] theorem E_ty7:E.ty 7=some ⟨4,24,.struct [(0,1),(1,1),(2,1),(3,1)],[.v (.int .i64 0),.v (.int .i64 0),.v (.bool false),.v (.int .u8 0)]⟩:=rfl
@[simp] theorem E_ty9:E.ty 9=some ⟨1,16,.str,[.v (.string .empty)]⟩:=rfl
@[simp] theorem E_ty12:E.ty 12=some ⟨1,8,.int .u64,[.v (.int .u64 0)]⟩:=rfl
@[simp] theorem E_ty13:E.ty 13=some ⟨2,24,.struct [(0,1),(1,1)],[.v (.string .empty),.v (.int .u64 0)]⟩:=rfl
@[simp] theorem E_ty15:E.ty 15=some ⟨1,8,.ptr,[.v (.pointer none)]⟩:=rfl
@[simp] theorem E_ty16:E.ty 16=some ⟨1,8,.ptr,[.v (.pointer none)]⟩:=rfl
@[simp] theorem E_ty17:E.ty 17=some ⟨1,8,.ptr,[.v (.pointer none)]⟩:=rfl
@[simp] theorem E_ty18:E.ty 18=some ⟨1,8,.struct [(0,1)],[.v (.pointer none)]⟩:=rfl
@[simp] theorem E_ty20:E.ty 20=some ⟨1,16,.iface,[.v .nilIface]⟩:=rfl
@[simp] theorem E_ty21:E.ty 21=some ⟨1,4,.int .i32,[.v (.int .i32 0)]⟩:=rfl
@[simp] theorem E_ty22:E.ty 22=some ⟨1,24,.slice 56,[.nl true 4 none]⟩:=rfl
@[simp] theorem E_ty23:E.ty 23=some ⟨1,24,.slice 60,[.nl true 5 none]⟩:=rfl
@[simp] theorem E_ty24:E.ty 24=some ⟨2,48,.struct [(0,1),(1,1)],[.nl true 4 none,.nl true 5 none]⟩:=rfl
@[simp] theorem E_ty25:E.ty 25=some ⟨2,48,.struct [(0,1),(1,1)],[.nl true 4 none,.nl true 5 none]⟩:=rfl
@[simp] theorem E_ty26:E.ty 26=some ⟨1,8,.func,[.v .nilFunc]⟩:=rfl
@[simp] theorem E_ty27:E.ty 27=some ⟨1,8,.func,[.v .nilFunc]⟩:=rfl
@[simp] theorem E_ty28:E.ty 28=some ⟨1,24,.slice 73,[.nl true 4 none]⟩:=rfl
@[simp] theorem E_ty29:E.ty 29=some ⟨1,24,.slice 50,[.nl true 5 none]⟩:=rfl
@[simp] theorem E_ty30:E.ty 30=some ⟨2,48,.struct [(0,1),(1,1)],[.nl true 4 none,.nl true 5 none]⟩:=rfl
@[simp] theorem E_ty31:E.ty 31=some ⟨2,48,.struct [(0,1),(1,1)],[.nl true 4 none,.nl true 5 none]⟩:=rfl
@[simp] theorem E_ty32:E.ty 32=some ⟨1,8,.func,[.v .nilFunc]⟩:=rfl
@[simp] theorem E_ty33:E.ty 33=some ⟨1,8,.func,[.v .nilFunc]⟩:=rfl
@[simp] theorem E_ty34:E.ty 34=some ⟨1,8,.func,[.v .nilFunc]⟩:=rfl
@[simp] theorem E_ty36:E.ty 36=some ⟨1,8,.func,[.v .nilFunc]⟩:=rfl
@[simp] theorem E_ty37:E.ty 37=some ⟨1,8,.func,[.v .nilFunc]⟩:=rfl
@[simp] theorem E_ty38:E.ty 38=some ⟨1,8,.func,[.v .nilFunc]⟩:=rfl
@[simp] theorem E_ty39:E.ty 39=some ⟨1,8,.func,[.v .nilFunc]⟩:=rfl
@[simp] theorem E_ty40:E.ty 40=some ⟨1,8,.func,[.v .nilFunc]⟩:=rfl
@[simp] theorem E_ty41:E.ty 41=some ⟨1,24,.slice 3,[.nl true 1 none]⟩:=rfl
@[simp] theorem E_ty42:E.ty 42=some ⟨1,8,.func,[.v .nilFunc]⟩:=rfl
@[simp] theorem E_ty43:E.ty 43=some ⟨1,8,.func,[.v .nilFunc]⟩:=rfl
@[simp] theorem E_ty44:E.ty 44=some ⟨1,8,.func,[.v .nilFunc]⟩:=rfl
@[simp] theorem E_ty45:E.ty 45=some ⟨1,8,.func,[.v .nilFunc]⟩:=rfl
@[simp] theorem E_ty46:E.ty 46=some ⟨1,8,.func,[.v .nilFunc]⟩:=rfl
@[simp] theorem E_ty47:E.ty 47=some ⟨1,8,.func,[.v .nilFunc]⟩:=rfl
@[simp] theorem E_ty48:E.ty 48=some ⟨1,24,.slice 71,[.nl true 2 none]⟩:=rfl
@[simp] theorem E_ty49:E.ty 49=some ⟨5,64,.struct [(0,1),(1,1),(2,1),(3,1),(4,1)],[.v (.string .empty),.nl true 2 none,.v (.int .i64 0),.v (.int .i64 0),.v (.int .i64 0)]⟩:=rfl
@[simp] theorem E_ty50:E.ty 50=some ⟨5,64,.struct [(0,1),(1,1),(2,1),(3,1),(4,1)],[.v (.string .empty),.nl true 2 none,.v (.int .i64 0),.v (.int .i64 0),.v (.int .i64 0)]⟩:=rfl
@[simp] theorem E_ty51:E.ty 51=some ⟨1,8,.func,[.v .nilFunc]⟩:=rfl
@[simp] theorem E_ty52:E.ty 52=some ⟨1,8,.func,[.v .nilFunc]⟩:=rfl
@[simp] theorem E_ty53:E.ty 53=some ⟨1,8,.func,[.v .nilFunc]⟩:=rfl
@[simp] theorem E_ty54:E.ty 54=some ⟨1,8,.func,[.v .nilFunc]⟩:=rfl
@[simp] theorem E_ty55:E.ty 55=some ⟨4,56,.struct [(0,1),(1,1),(2,1),(3,1)],[.v (.int .i64 0),.v (.int .i64 0),.v (.string .empty),.nl true 1 none]⟩:=rfl
@[simp] theorem E_ty56:E.ty 56=some ⟨4,56,.struct [(0,1),(1,1),(2,1),(3,1)],[.v (.int .i64 0),.v (.int .i64 0),.v (.string .empty),.nl true 1 none]⟩:=rfl
@[simp] theorem E_ty57:E.ty 57=some ⟨1,8,.func,[.v .nilFunc]⟩:=rfl
@[simp] theorem E_ty58:E.ty 58=some ⟨1,24,.slice 113,[.nl true 2 none]⟩:=rfl
@[simp] theorem E_ty59:E.ty 59=some ⟨5,64,.struct [(0,1),(1,1),(2,1),(3,1),(4,1)],[.v (.string .empty),.nl true 2 none,.v (.int .i64 0),.v (.int .i64 0),.v (.int .i64 0)]⟩:=rfl
@[simp] theorem E_ty60:E.ty 60=some ⟨5,64,.struct [(0,1),(1,1),(2,1),(3,1),(4,1)],[.v (.string .empty),.nl true 2 none,.v (.int .i64 0),.v (.int .i64 0),.v (.int .i64 0)]⟩:=rfl
@[simp] theorem E_ty61:E.ty 61=some ⟨1,24,.slice 65,[.nl true 3 none]⟩:=rfl
@[simp] theorem E_ty62:E.ty 62=some ⟨1,8,.func,[.v .nilFunc]⟩:=rfl
@[simp] theorem E_ty63:E.ty 63=some ⟨1,8,.func,[.v .nilFunc]⟩:=rfl
@[simp] theorem E_ty64:E.ty 64=some ⟨3,32,.struct [(0,1),(1,1),(2,1)],[.v (.string .empty),.v (.int .i64 0),.v (.int .i64 0)]⟩:=rfl
@[simp] theorem E_ty65:E.ty 65=some ⟨3,32,.struct [(0,1),(1,1),(2,1)],[.v (.string .empty),.v (.int .i64 0),.v (.int .i64 0)]⟩:=rfl
@[simp] theorem E_ty66:E.ty 66=some ⟨1,8,.ptr,[.v (.pointer none)]⟩:=rfl
@[simp] theorem E_ty67:E.ty 67=some ⟨1,24,.slice 9,[.nl true 1 none]⟩:=rfl
@[simp] theorem E_ty68:E.ty 68=some ⟨5,88,.struct [(0,2),(2,1),(3,1),(4,1)],[.nl true 4 none,.nl true 5 none,.v (.int .i64 0),.nl true 1 none,.v (.bool false)]⟩:=rfl
@[simp] theorem E_ty69:E.ty 69=some ⟨5,88,.struct [(0,2),(2,1),(3,1),(4,1)],[.nl true 4 none,.nl true 5 none,.v (.int .i64 0),.nl true 1 none,.v (.bool false)]⟩:=rfl
@[simp] theorem E_ty70:E.ty 70=some ⟨2,24,.struct [(0,1),(1,1)],[.v (.string .empty),.v (.int .i64 0)]⟩:=rfl
@[simp] theorem E_ty71:E.ty 71=some ⟨2,24,.struct [(0,1),(1,1)],[.v (.string .empty),.v (.int .i64 0)]⟩:=rfl
@[simp] theorem E_ty72:E.ty 72=some ⟨1,8,.func,[.v .nilFunc]⟩:=rfl
@[simp] theorem E_ty73:E.ty 73=some ⟨4,56,.struct [(0,1),(1,1),(2,1),(3,1)],[.v (.int .i64 0),.v (.int .i64 0),.v (.string .empty),.nl true 1 none]⟩:=rfl
@[simp] theorem E_ty74:E.ty 74=some ⟨1,8,.func,[.v .nilFunc]⟩:=rfl
@[simp] theorem E_ty75:E.ty 75=some ⟨1,8,.func,[.v .nilFunc]⟩:=rfl
@[simp] theorem E_ty76:E.ty 76=some ⟨1,8,.func,[.v .nilFunc]⟩:=rfl
@[simp] theorem E_ty77:E.ty 77=some ⟨1,8,.func,[.v .nilFunc]⟩:=rfl
@[simp] theorem E_ty78:E.ty 78=some ⟨1,8,.func,[.v .nilFunc]⟩:=rfl
@[simp] theorem E_ty79:E.ty 79=some ⟨1,8,.func,[.v .nilFunc]⟩:=rfl
@[simp] theorem E_ty80:E.ty 80=some ⟨1,8,.func,[.v .nilFunc]⟩:=rfl
@[simp] theorem E_ty81:E.ty 81=some ⟨1,8,.func,[.v .nilFunc]⟩:=rfl
@[simp] theorem E_ty82:E.ty 82=some ⟨1,8,.func,[.v .nilFunc]⟩:=rfl
@[simp] theorem E_ty83:E.ty 83=some ⟨1,8,.func,[.v .nilFunc]⟩:=rfl
@[simp] theorem E_ty84:E.ty 84=some ⟨1,8,.func,[.v .nilFunc]⟩:=rfl
@[simp] theorem E_ty85:E.ty 85=some ⟨1,8,.func,[.v .nilFunc]⟩:=rfl
@[simp] theorem E_ty86:E.ty 86=some ⟨1,24,.slice 4,[.nl true 1 none]⟩:=rfl
@[simp] theorem E_ty87:E.ty 87=some ⟨1,8,.ptr,[.v (.pointer none)]⟩:=rfl
@[simp] theorem E_ty88:E.ty 88=some ⟨3,56,.struct [(0,1),(1,1),(2,1)],[.nl true 4 none,.nl true 4 none,.v (.bool false)]⟩:=rfl
@[simp] theorem E_ty89:E.ty 89=some ⟨3,56,.struct [(0,1),(1,1),(2,1)],[.nl true 4 none,.nl true 4 none,.v (.bool false)]⟩:=rfl
@[simp] theorem E_ty90:E.ty 90=some ⟨1,8,.func,[.v .nilFunc]⟩:=rfl
@[simp] theorem E_ty91:E.ty 91=some ⟨1,8,.func,[.v .nilFunc]⟩:=rfl
@[simp] theorem E_ty92:E.ty 92=some ⟨1,8,.func,[.v .nilFunc]⟩:=rfl
@[simp] theorem E_ty93:E.ty 93=some ⟨1,8,.func,[.v .nilFunc]⟩:=rfl
@[simp] theorem E_ty94:E.ty 94=some ⟨3,56,.struct [(0,1),(1,1),(2,1)],[.nl true 4 none,.nl true 4 none,.v (.bool false)]⟩:=rfl
@[simp] theorem E_ty95:E.ty 95=some ⟨3,56,.struct [(0,1),(1,1),(2,1)],[.nl true 4 none,.nl true 4 none,.v (.bool false)]⟩:=rfl
@[simp] theorem E_ty96:E.ty 96=some ⟨1,8,.func,[.v .nilFunc]⟩:=rfl
@[simp] theorem E_ty97:E.ty 97=some ⟨1,8,.func,[.v .nilFunc]⟩:=rfl
@[simp] theorem E_ty98:E.ty 98=some ⟨1,8,.func,[.v .nilFunc]⟩:=rfl
@[simp] theorem E_ty99:E.ty 99=some ⟨1,8,.func,[.v .nilFunc]⟩:=rfl
@[simp] theorem E_ty100:E.ty 100=some ⟨1,8,.func,[.v .nilFunc]⟩:=rfl
@[simp] theorem E_ty101:E.ty 101=some ⟨1,8,.func,[.v .nilFunc]⟩:=rfl
@[simp] theorem E_ty102:E.ty 102=some ⟨1,8,.func,[.v .nilFunc]⟩:=rfl
@[simp] theorem E_ty103:E.ty 103=some ⟨1,8,.func,[.v .nilFunc]⟩:=rfl
@[simp] theorem E_ty104:E.ty 104=some ⟨1,8,.func,[.v .nilFunc]⟩:=rfl
@[simp] theorem E_ty105:E.ty 105=some ⟨1,8,.func,[.v .nilFunc]⟩:=rfl
@[simp] theorem E_ty106:E.ty 106=some ⟨1,8,.func,[.v .nilFunc]⟩:=rfl
@[simp] theorem E_ty107:E.ty 107=some ⟨1,8,.func,[.v .nilFunc]⟩:=rfl
@[simp] theorem E_ty109:E.ty 109=some ⟨1,8,.func,[.v .nilFunc]⟩:=rfl
@[simp] theorem E_ty110:E.ty 110=some ⟨1,8,.ptr,[.v (.pointer none)]⟩:=rfl
@[simp] theorem E_ty111:E.ty 111=some ⟨1,24,.slice 5,[.nl true 1 none]⟩:=rfl
@[simp] theorem E_ty112:E.ty 112=some ⟨1,8,.func,[.v .nilFunc]⟩:=rfl
@[simp] theorem E_ty113:E.ty 113=some ⟨2,24,.struct [(0,1),(1,1)],[.v (.string .empty),.v (.int .i64 0)]⟩:=rfl
@[simp] theorem E_ty114:E.ty 114=some ⟨1,8,.func,[.v .nilFunc]⟩:=rfl
@[simp] theorem E_ty115:E.ty 115=some ⟨1,8,.func,[.v .nilFunc]⟩:=rfl
@[simp] theorem E_ty116:E.ty 116=some ⟨1,8,.func,[.v .nilFunc]⟩:=rfl
@[simp] theorem E_ty118:E.ty 118=some ⟨1,8,.func,[.v .nilFunc]⟩:=rfl
@[simp] theorem E_ty119:E.ty 119=some ⟨1,8,.func,[.v .nilFunc]⟩:=rfl
@[simp] theorem E_ty120:E.ty 120=some ⟨1,8,.func,[.v .nilFunc]⟩:=rfl
@[simp] theorem E_ty121:E.ty 121=some ⟨1,8,.func,[.v .nilFunc]⟩:=rfl
@[simp] theorem E_ty122:E.ty 122=some ⟨1,8,.int .u64,[.v (.int .u64 0)]⟩:=rfl
@[simp] theorem E_ty123:E.ty 123=some ⟨1,8,.func,[.v .nilFunc]⟩:=rfl
@[simp] theorem E_ty124:E.ty 124=some ⟨1,8,.func,[.v .nilFunc]⟩:=rfl
@[simp] theorem E_ty125:E.ty 125=some ⟨1,8,.func,[.v .nilFunc]⟩:=rfl
@[simp] theorem E_ty126:E.ty 126=some ⟨1,8,.int .i64,[.v (.int .i64 0)]⟩:=rfl
@[simp] theorem E_ty128:E.ty 128=some ⟨1,8,.func,[.v .nilFunc]⟩:=rfl
@[simp] theorem E_ty129:E.ty 129=some ⟨1,8,.func,[.v .nilFunc]⟩:=rfl
@[simp] theorem E_ty130:E.ty 130=some ⟨1,8,.func,[.v .nilFunc]⟩:=rfl
@[simp] theorem E_ty131:E.ty 131=some ⟨1,8,.func,[.v .nilFunc]⟩:=rfl
@[simp] theorem E_ty133:E.ty 133=some ⟨1,8,.func,[.v .nilFunc]⟩:=rfl
@[simp] theorem E_ty134:E.ty 134=some ⟨1,8,.func,[.v .nilFunc]⟩:=rfl
@[simp] theorem E_ty135:E.ty 135=some ⟨1,4,.int .u32,[.v (.int .u32 0)]⟩:=rfl
@[simp] theorem E_ty136:E.ty 136=some ⟨1,8,.func,[.v .nilFunc]⟩:=rfl
@[simp] theorem E_ty137:E.ty 137=some ⟨1,8,.int .u64,[.v (.int .u64 0)]⟩:=rfl
@[simp] theorem E_ty138:E.ty 138=some ⟨1,8,.func,[.v .nilFunc]⟩:=rfl
@[simp] theorem E_ty139:E.ty 139=some ⟨1,8,.int .u64,[.v (.int .u64 0)]⟩:=rfl
@[simp] theorem E_ty140:E.ty 140=some ⟨1,8,.func,[.v .nilFunc]⟩:=rfl
@[simp] theorem E_ty141:E.ty 141=some ⟨1,8,.func,[.v .nilFunc]⟩:=rfl
@[simp] theorem E_ty142:E.ty 142=some ⟨1,8,.func,[.v .nilFunc]⟩:=rfl
@[simp] theorem E_ty143:E.ty 143=some ⟨1,8,.ptr,[.v (.pointer none)]⟩:=rfl
@[simp] theorem E_ty144:E.ty 144=some ⟨1,8,.func,[.v .nilFunc]⟩:=rfl
@[simp] theorem E_ty145:E.ty 145=some ⟨1,8,.func,[.v .nilFunc]⟩:=rfl
@[simp] theorem E_ty146:E.ty 146=some ⟨1,8,.ptr,[.v (.pointer none)]⟩:=rfl
@[simp] theorem E_ty147:E.ty 147=some ⟨1,8,.func,[.v .nilFunc]⟩:=rfl
@[simp] theorem E_ty148:E.ty 148=some ⟨1,8,.func,[.v .nilFunc]⟩:=rfl
@[simp] theorem E_ty149:E.ty 149=some ⟨1,8,.func,[.v .nilFunc]⟩:=rfl
@[simp] theorem E_ty150:E.ty 150=some ⟨1,8,.func,[.v .nilFunc]⟩:=rfl
@[simp] theorem E_ty152:E.ty 152=some ⟨1,8,.func,[.v .nilFunc]⟩:=rfl
@[simp] theorem E_ty153:E.ty 153=some ⟨1,8,.func,[.v .nilFunc]⟩:=rfl
@[simp] theorem E_ty154:E.ty 154=some ⟨1,8,.func,[.v .nilFunc]⟩:=rfl
@[simp] theorem E_ty156:E.ty 156=some ⟨2,2,.struct [(0,1),(1,1)],[.v (.int .u8 0),.v (.int .u8 0)]⟩:=rfl
@[simp] theorem E_ty157:E.ty 157=some ⟨2,2,.struct [(0,1),(1,1)],[.v (.int .u8 0),.v (.int .u8 0)]⟩:=rfl
@[simp] theorem E_ty160:E.ty 160=some ⟨1,8,.func,[.v .nilFunc]⟩:=rfl
@[simp] theorem E_ty161:E.ty 161=some ⟨1,8,.func,[.v .nilFunc]⟩:=rfl
@[simp] theorem E_ty162:E.ty 162=some ⟨4,40,.struct [(0,1),(1,1),(2,1),(3,1)],[.v (.pointer none),.v (.pointer none),.v (.pointer none),.v (.string .empty)]⟩:=rfl
@[simp] theorem E_ty167:E.ty 167=some ⟨1,8,.func,[.v .nilFunc]⟩:=rfl
@[simp] theorem E_ty170:E.ty 170=some ⟨1,8,.func,[.v .nilFunc]⟩:=rfl
@[simp] theorem E_ty171:E.ty 171=some ⟨1,8,.ptr,[.v (.pointer none)]⟩:=rfl
@[simp] theorem E_ty174:E.ty 174=some ⟨11,48,.struct [(0,1),(1,1),(2,1),(3,1),(4,1),(5,1),(6,1),(7,1),(8,1),(9,1),(10,1)],[.v (.int .u64 0),.v (.int .u64 0),.v (.int .u32 0),.v (.int .u8 0),.v (.int .u8 0),.v (.int .u8 0),.v (.int .u8 0),.v .nilFunc,.v (.pointer none),.v (.int .i32 0),.v (.int .i32 0)]⟩:=rfl
theorem res72:Tryz.f72.results.toList=[.tmp 4]:=rfl
theorem ent72:aF E.P 72:=eO Tryz.func72 (by simp [Tryz.f72]) rfl
theorem laws_szIntS_ok (a1:List Int) (left2:Int) {r0:Int} (h:kF a1 left2=some r0):Ok E 72 [.val (.sl false 1 (List.map vi a1)),.val (vi left2)] [vi r0] []:=by
 refine oB (fn:=Tryz.f72) Tryz.func72 rfl (by simp [Tryz.f72]) fun C hN hP=>?_
 have u:∀ l,pinK [] l=true→pinB C.pin l=true:=pO (by rw [hP];rfl)
 have y:C.N=12:=hN
 clear hN
 unfold kF at h
 refine SWp.sR rfl (u _ rfl) fun K q=>?_
 refine wC rfl fun K q=>?_;simp [y];refine q _ ?_;clear q
 refine wN (q _ ?_);clear q
 refine SWp.sR rfl (u _ rfl) fun K q=>?_
 iterate 5 (refine wC rfl fun K q=>?_;simp [y];refine q _ ?_;clear q)
 refine wN (q _ ?_);clear q
 refine SWp.seq ?_
 refine SWp.sR rfl (u _ rfl) fun K q=>?_
 iterate 2 (refine wC rfl fun K q=>?_;simp [y];refine q _ ?_;clear q)
 refine wN (q _ ?_);clear q
 rcases aA h with ⟨hb3,h⟩ | ⟨hb4,h⟩
 ·refine SWp.cT' (b:=decide (IntKind.wrap .i64 (left2 - (a1.length:Int)) < 0)) (by simp) hb3 ?_
  refine SWp.sR rfl (u _ rfl) fun K q=>?_
  refine wC rfl fun K q=>?_;simp [y];refine q _ ?_;clear q
  refine wN (q _ ?_);clear q
  cases h
  refine SWp.ret ?_
  simp [aC,iB,res72]
 ·refine SWp.cF' (b:=decide (IntKind.wrap .i64 (left2 - (a1.length:Int)) < 0)) (by simp) hb4 ?_
  refine SWp.skip ?_
  show SWp E C _ _ _
  refine SWp.sR rfl (u _ rfl) fun K q=>?_
  iterate 2 (refine wC rfl fun K q=>?_;simp [y];refine q _ ?_;clear q)
  refine wN (q _ ?_);clear q
  cases h
  refine SWp.ret ?_
  simp [aC,iB,res72]
theorem res37:Tryz.f37.results.toList=[.tmp 4]:=rfl
theorem ent37:aF E.P 37:=eO Tryz.func37 (by simp [Tryz.f37]) rfl
theorem laws_szNode_ok (a1:GNode) (left2:Int) {r0:Int} (h:kE a1 left2=some r0):Ok E 37 [.val (GNode.enc false a1),.val (vi left2)] [vi r0] []:=by
 refine oB (fn:=Tryz.f37) Tryz.func37 rfl (by simp [Tryz.f37]) fun C hN hP=>?_
 have u:∀ l,pinK [] l=true→pinB C.pin l=true:=pO (by rw [hP];rfl)
 have y:C.N=19:=hN
 clear hN
 unfold kE at h
 refine SWp.sR rfl (u _ rfl) fun K q=>?_
 iterate 2 (refine wC rfl fun K q=>?_;simp [y];refine q _ ?_;clear q)
 refine wN (q _ ?_);clear q
 refine SWp.sR rfl (u _ rfl) fun K q=>?_
 iterate 6 (refine wC rfl fun K q=>?_;simp [y];refine q _ ?_;clear q)
 refine wN (q _ ?_);clear q
 refine SWp.seq ?_
 refine SWp.sR rfl (u _ rfl) fun K q=>?_
 iterate 2 (refine wC rfl fun K q=>?_;simp [y];refine q _ ?_;clear q)
 refine wN (q _ ?_);clear q
 rcases aA h with ⟨hb3,h⟩ | ⟨hb4,h⟩
 ·refine SWp.cT' (b:=decide (IntKind.wrap .i64 (left2 - (a1.Name.size:Int)) < 0)) (by simp) hb3 ?_
  refine SWp.sR rfl (u _ rfl) fun K q=>?_
  refine wC rfl fun K q=>?_;simp [y];refine q _ ?_;clear q
  refine wN (q _ ?_);clear q
  cases h
  refine SWp.ret ?_
  simp [aC,iB,res37]
 ·refine SWp.cF' (b:=decide (IntKind.wrap .i64 (left2 - (a1.Name.size:Int)) < 0)) (by simp) hb4 ?_
  refine SWp.skip ?_
  show SWp E C _ _ _
  refine SWp.sR rfl (u _ rfl) fun K q=>?_
  iterate 3 (refine wC rfl fun K q=>?_;simp [y];refine q _ ?_;clear q)
  obtain ⟨r5,hc6,h⟩:=bS h
  refine wL [(.take,.tmp 13),(.take,.tmp 14)] rfl rfl ent72 (laws_szIntS_ok _ _ hc6) fun K q=>?_;simp [y];refine q _ ?_;clear q
  refine wC rfl fun K q=>?_;simp [y];refine q _ ?_;clear q
  refine wN (q _ ?_);clear q
  refine SWp.seq ?_
  refine SWp.sR rfl (u _ rfl) fun K q=>?_
  iterate 2 (refine wC rfl fun K q=>?_;simp [y];refine q _ ?_;clear q)
  refine wN (q _ ?_);clear q
  rcases aA h with ⟨hb7,h⟩ | ⟨hb8,h⟩
  ·refine SWp.cT' (b:=decide (r5 < 0)) (by simp) hb7 ?_
   refine SWp.sR rfl (u _ rfl) fun K q=>?_
   refine wC rfl fun K q=>?_;simp [y];refine q _ ?_;clear q
   refine wN (q _ ?_);clear q
   cases h
   refine SWp.ret ?_
   simp [aC,iB,res37]
  ·refine SWp.cF' (b:=decide (r5 < 0)) (by simp) hb8 ?_
   refine SWp.skip ?_
   show SWp E C _ _ _
   refine SWp.sR rfl (u _ rfl) fun K q=>?_
   iterate 2 (refine wC rfl fun K q=>?_;simp [y];refine q _ ?_;clear q)
   refine wN (q _ ?_);clear q
   cases h
   refine SWp.ret ?_
   simp [aC,iB,res37]
theorem res14:Tryz.f14.results.toList=[.tmp 4]:=rfl
theorem ent14:aF E.P 14:=eO Tryz.func14 (by simp [Tryz.f14]) rfl
theorem laws_szNodeS_ok (a1:List GNode) (left2:Int) {r0:Int} (h:iR a1 left2=some r0):Ok E 14 [.val (.sl false 4 (List.map (GNode.enc false) a1)),.val (vi left2)] [vi r0] []:=by
 refine oB (fn:=Tryz.f14) Tryz.func14 rfl (by simp [Tryz.f14]) fun C hN hP=>?_
 have hPB:∀ l,pinK [] l=true→pinB C.pin l=true:=pO (by rw [hP];rfl)
 have hN':C.N=27:=hN
 clear hN
 unfold iR at h
 refine SWp.sR rfl (hPB _ rfl) fun K hK=>?_
 refine wC rfl fun K hK=>?_;simp [hN'];refine hK _ ?_;clear hK
 refine wN (hK _ ?_);clear hK
 refine SWp.sR rfl (hPB _ rfl) fun K hK=>?_
 iterate 5 (refine wC rfl fun K hK=>?_;simp [hN'];refine hK _ ?_;clear hK)
 refine wN (hK _ ?_);clear hK
 refine SWp.seq ?_
 refine SWp.sR rfl (hPB _ rfl) fun K hK=>?_
 iterate 2 (refine wC rfl fun K hK=>?_;simp [hN'];refine hK _ ?_;clear hK)
 refine wN (hK _ ?_);clear hK
 rcases aA h with ⟨hb3,h⟩ | ⟨hb4,h⟩
 ·refine SWp.cT' (b:=decide (IntKind.wrap .i64 (left2 - (a1.length:Int)) < 0)) (by simp) hb3 ?_
  refine SWp.sR rfl (hPB _ rfl) fun K hK=>?_
  refine wC rfl fun K hK=>?_;simp [hN'];refine hK _ ?_;clear hK
  refine wN (hK _ ?_);clear hK
  cases h
  refine SWp.ret ?_
  simp [aC,iB,res14]
 ·refine SWp.cF' (b:=decide (IntKind.wrap .i64 (left2 - (a1.length:Int)) < 0)) (by simp) hb4 ?_
  refine SWp.skip ?_
  show SWp E C _ _ _
  obtain ⟨j7,hj5,h⟩:=bS h
  refine SWp.seqC [1] [] (fun v:Int=>⟨[(1,.t (vi v))],[]⟩) (fun v=>j7=Sum.inl v) (fun v hv=>?_) fun K6 hK6=>?_
  rotate_left
  ·refine SWp.sR rfl (hPB _ rfl) fun K hK=>?_
   refine wC rfl fun K hK=>?_;simp [hN'];refine hK _ ?_;clear hK
   refine wN (hK _ ?_);clear hK
   refine SWp.block ?_
   refine SWp.loopO [] [0,1,5] [] (fun v:Int × Int=>⟨[(0,.t (.sl false 4 (List.map (GNode.enc false) a1))),(1,.t (vi v.1)),(5,.t (vi v.2))],[]⟩) (cK a1) _ (IntKind.wrap .i64 (left2 - (a1.length:Int)),0) hj5 (by simp [hN']) ?_
   intro g s12 h10 ho11
   obtain ⟨left8,i9⟩:=g
   simp only [cK] at h10
   try dsimp only
   refine SWp.seq ?_
   refine SWp.sR rfl (hPB _ rfl) fun K hK=>?_
   iterate 4 (refine wC rfl fun K hK=>?_;simp [hN'];refine hK _ ?_;clear hK)
   refine wN (hK _ ?_);clear hK
   rcases aA h10 with ⟨hb13,h10⟩ | ⟨hb14,h10⟩
   ·refine SWp.cT' (b:=decide (i9 < (a1.length:Int))) (by simp) hb13 ?_
    refine SWp.skip ?_
    show SWp E C _ _ _
    refine SWp.seq ?_
    refine SWp.block ?_
    refine SWp.sR rfl (hPB _ rfl) fun K hK=>?_
    iterate 2 (refine wC rfl fun K hK=>?_;simp [hN'];refine hK _ ?_;clear hK)
    obtain ⟨e15,he15,h10⟩:=bS h10
    obtain ⟨he15a,he15b,he15c,he15d⟩:=gS he15
    iterate 3 (refine wC rfl fun K hK=>?_;simp [hN',he15a,he15b,he15c,he15d];refine hK _ ?_;clear hK)
    obtain ⟨r16,hc17,h10⟩:=bS h10
    refine wL [(.take,.tmp 21),(.take,.tmp 22)] rfl rfl ent37 (laws_szNode_ok _ _ hc17) fun K hK=>?_;simp [hN',he15a,he15b,he15c,he15d];refine hK _ ?_;clear hK
    refine wC rfl fun K hK=>?_;simp [hN',he15a,he15b,he15c,he15d];refine hK _ ?_;clear hK
    refine wN (hK _ ?_);clear hK
    refine SWp.sR rfl (hPB _ rfl) fun K hK=>?_
    iterate 2 (refine wC rfl fun K hK=>?_;simp [hN'];refine hK _ ?_;clear hK)
    refine wN (hK _ ?_);clear hK
    rcases aA h10 with ⟨hb18,h10⟩ | ⟨hb19,h10⟩
    ·refine SWp.cT' (b:=decide (r16 < 0)) (by simp) hb18 ?_
     refine SWp.sR rfl (hPB _ rfl) fun K hK=>?_
     refine wC rfl fun K hK=>?_;simp [hN'];refine hK _ ?_;clear hK
     refine wN (hK _ ?_);clear hK
     have h20:=congrArg some (ho11 _ (Option.some.inj h10).symm)
     cases h20
     try dsimp only at h
     cases h
     refine SWp.ret ?_
     simp [aC,iB,res14]
    ·refine SWp.cF' (b:=decide (r16 < 0)) (by simp) hb19 ?_
     refine SWp.skip ?_
     show SWp E C _ _ _
     refine SWp.reg rfl (hPB _ rfl) fun K hK=>?_
     iterate 3 (refine wC rfl fun K hK=>?_;simp [hN'];refine hK _ ?_;clear hK)
     refine wN (hK _ ?_);clear hK
     cases h10
     exact ⟨_,[],rfl,by simp [hN']⟩
   ·refine SWp.cF' (b:=decide (i9 < (a1.length:Int))) (by simp) hb14 ?_
    refine SWp.exit ?_
    have h21:=congrArg some (ho11 _ (Option.some.inj h10).symm)
    cases h21
    exact hK6 _ _ [] rfl (by simp [hN'])
  subst hv
  obtain ⟨left22,hv⟩:∃ y,y=v:=⟨_,rfl⟩
  subst hv
  try dsimp only at h ⊢
  refine SWp.sR rfl (hPB _ rfl) fun K hK=>?_
  iterate 2 (refine wC rfl fun K hK=>?_;simp [hN'];refine hK _ ?_;clear hK)
  refine wN (hK _ ?_);clear hK
  cases h
  refine SWp.ret ?_
  simp [aC,iB,res14]
theorem res94:Tryz.f94.results.toList=[.tmp 4]:=rfl
theorem ent94:aF E.P 94:=eO Tryz.func94 (by simp [Tryz.f94]) rfl
theorem laws_szParam_ok (a1:GParam) (left2:Int) {r0:Int} (h:iQ a1 left2=some r0):Ok E 94 [.val (GParam.enc a1),.val (vi left2)] [vi r0] []:=by
 refine oB (fn:=Tryz.f94) Tryz.func94 rfl (by simp [Tryz.f94]) fun C hN hP=>?_
 have u:∀ l,pinK [] l=true→pinB C.pin l=true:=pO (by rw [hP];rfl)
 have y:C.N=13:=hN
 clear hN
 unfold iQ at h
 refine SWp.sR rfl (u _ rfl) fun K q=>?_
 iterate 2 (refine wC rfl fun K q=>?_;simp [y];refine q _ ?_;clear q)
 refine wN (q _ ?_);clear q
 refine SWp.sR rfl (u _ rfl) fun K q=>?_
 iterate 6 (refine wC rfl fun K q=>?_;simp [y];refine q _ ?_;clear q)
 refine wN (q _ ?_);clear q
 refine SWp.seq ?_
 refine SWp.sR rfl (u _ rfl) fun K q=>?_
 iterate 2 (refine wC rfl fun K q=>?_;simp [y];refine q _ ?_;clear q)
 refine wN (q _ ?_);clear q
 rcases aA h with ⟨hb3,h⟩ | ⟨hb4,h⟩
 ·refine SWp.cT' (b:=decide (IntKind.wrap .i64 (left2 - (a1.Name.size:Int)) < 0)) (by simp) hb3 ?_
  refine SWp.sR rfl (u _ rfl) fun K q=>?_
  refine wC rfl fun K q=>?_;simp [y];refine q _ ?_;clear q
  refine wN (q _ ?_);clear q
  cases h
  refine SWp.ret ?_
  simp [aC,iB,res94]
 ·refine SWp.cF' (b:=decide (IntKind.wrap .i64 (left2 - (a1.Name.size:Int)) < 0)) (by simp) hb4 ?_
  refine SWp.skip ?_
  show SWp E C _ _ _
  refine SWp.sR rfl (u _ rfl) fun K q=>?_
  iterate 2 (refine wC rfl fun K q=>?_;simp [y];refine q _ ?_;clear q)
  refine wN (q _ ?_);clear q
  cases h
  refine SWp.ret ?_
  simp [aC,iB,res94]
theorem res73:Tryz.f73.results.toList=[.tmp 4]:=rfl
theorem ent73:aF E.P 73:=eO Tryz.func73 (by simp [Tryz.f73]) rfl
theorem laws_szParamS_ok (a1:List GParam) (left2:Int) {r0:Int} (h:gQ a1 left2=some r0):Ok E 73 [.val (.sl false 2 (List.map GParam.enc a1)),.val (vi left2)] [vi r0] []:=by
 refine oB (fn:=Tryz.f73) Tryz.func73 rfl (by simp [Tryz.f73]) fun C hN hP=>?_
 have hPB:∀ l,pinK [] l=true→pinB C.pin l=true:=pO (by rw [hP];rfl)
 have hN':C.N=27:=hN
 clear hN
 unfold gQ at h
 refine SWp.sR rfl (hPB _ rfl) fun K hK=>?_
 refine wC rfl fun K hK=>?_;simp [hN'];refine hK _ ?_;clear hK
 refine wN (hK _ ?_);clear hK
 refine SWp.sR rfl (hPB _ rfl) fun K hK=>?_
 iterate 5 (refine wC rfl fun K hK=>?_;simp [hN'];refine hK _ ?_;clear hK)
 refine wN (hK _ ?_);clear hK
 refine SWp.seq ?_
 refine SWp.sR rfl (hPB _ rfl) fun K hK=>?_
 iterate 2 (refine wC rfl fun K hK=>?_;simp [hN'];refine hK _ ?_;clear hK)
 refine wN (hK _ ?_);clear hK
 rcases aA h with ⟨hb3,h⟩ | ⟨hb4,h⟩
 ·refine SWp.cT' (b:=decide (IntKind.wrap .i64 (left2 - (a1.length:Int)) < 0)) (by simp) hb3 ?_
  refine SWp.sR rfl (hPB _ rfl) fun K hK=>?_
  refine wC rfl fun K hK=>?_;simp [hN'];refine hK _ ?_;clear hK
  refine wN (hK _ ?_);clear hK
  cases h
  refine SWp.ret ?_
  simp [aC,iB,res73]
 ·refine SWp.cF' (b:=decide (IntKind.wrap .i64 (left2 - (a1.length:Int)) < 0)) (by simp) hb4 ?_
  refine SWp.skip ?_
  show SWp E C _ _ _
  obtain ⟨j7,hj5,h⟩:=bS h
  refine SWp.seqC [1] [] (fun v:Int=>⟨[(1,.t (vi v))],[]⟩) (fun v=>j7=Sum.inl v) (fun v hv=>?_) fun K6 hK6=>?_
  rotate_left
  ·refine SWp.sR rfl (hPB _ rfl) fun K hK=>?_
   refine wC rfl fun K hK=>?_;simp [hN'];refine hK _ ?_;clear hK
   refine wN (hK _ ?_);clear hK
   refine SWp.block ?_
   refine SWp.loopO [] [0,1,5] [] (fun v:Int × Int=>⟨[(0,.t (.sl false 2 (List.map GParam.enc a1))),(1,.t (vi v.1)),(5,.t (vi v.2))],[]⟩) (bR a1) _ (IntKind.wrap .i64 (left2 - (a1.length:Int)),0) hj5 (by simp [hN']) ?_
   intro g s12 h10 ho11
   obtain ⟨left8,i9⟩:=g
   simp only [bR] at h10
   try dsimp only
   refine SWp.seq ?_
   refine SWp.sR rfl (hPB _ rfl) fun K hK=>?_
   iterate 4 (refine wC rfl fun K hK=>?_;simp [hN'];refine hK _ ?_;clear hK)
   refine wN (hK _ ?_);clear hK
   rcases aA h10 with ⟨hb13,h10⟩ | ⟨hb14,h10⟩
   ·refine SWp.cT' (b:=decide (i9 < (a1.length:Int))) (by simp) hb13 ?_
    refine SWp.skip ?_
    show SWp E C _ _ _
    refine SWp.seq ?_
    refine SWp.block ?_
    refine SWp.sR rfl (hPB _ rfl) fun K hK=>?_
    iterate 2 (refine wC rfl fun K hK=>?_;simp [hN'];refine hK _ ?_;clear hK)
    obtain ⟨e15,he15,h10⟩:=bS h10
    obtain ⟨he15a,he15b,he15c,he15d⟩:=gS he15
    iterate 3 (refine wC rfl fun K hK=>?_;simp [hN',he15a,he15b,he15c,he15d];refine hK _ ?_;clear hK)
    obtain ⟨r16,hc17,h10⟩:=bS h10
    refine wL [(.take,.tmp 21),(.take,.tmp 22)] rfl rfl ent94 (laws_szParam_ok _ _ hc17) fun K hK=>?_;simp [hN',he15a,he15b,he15c,he15d];refine hK _ ?_;clear hK
    refine wC rfl fun K hK=>?_;simp [hN',he15a,he15b,he15c,he15d];refine hK _ ?_;clear hK
    refine wN (hK _ ?_);clear hK
    refine SWp.sR rfl (hPB _ rfl) fun K hK=>?_
    iterate 2 (refine wC rfl fun K hK=>?_;simp [hN'];refine hK _ ?_;clear hK)
    refine wN (hK _ ?_);clear hK
    rcases aA h10 with ⟨hb18,h10⟩ | ⟨hb19,h10⟩
    ·refine SWp.cT' (b:=decide (r16 < 0)) (by simp) hb18 ?_
     refine SWp.sR rfl (hPB _ rfl) fun K hK=>?_
     refine wC rfl fun K hK=>?_;simp [hN'];refine hK _ ?_;clear hK
     refine wN (hK _ ?_);clear hK
     have h20:=congrArg some (ho11 _ (Option.some.inj h10).symm)
     cases h20
     try dsimp only at h
     cases h
     refine SWp.ret ?_
     simp [aC,iB,res73]
    ·refine SWp.cF' (b:=decide (r16 < 0)) (by simp) hb19 ?_
     refine SWp.skip ?_
     show SWp E C _ _ _
     refine SWp.reg rfl (hPB _ rfl) fun K hK=>?_
     iterate 3 (refine wC rfl fun K hK=>?_;simp [hN'];refine hK _ ?_;clear hK)
     refine wN (hK _ ?_);clear hK
     cases h10
     exact ⟨_,[],rfl,by simp [hN']⟩
   ·refine SWp.cF' (b:=decide (i9 < (a1.length:Int))) (by simp) hb14 ?_
    refine SWp.exit ?_
    have h21:=congrArg some (ho11 _ (Option.some.inj h10).symm)
    cases h21
    exact hK6 _ _ [] rfl (by simp [hN'])
  subst hv
  obtain ⟨left22,hv⟩:∃ y,y=v:=⟨_,rfl⟩
  subst hv
  try dsimp only at h ⊢
  refine SWp.sR rfl (hPB _ rfl) fun K hK=>?_
  iterate 2 (refine wC rfl fun K hK=>?_;simp [hN'];refine hK _ ?_;clear hK)
  refine wN (hK _ ?_);clear hK
  cases h
  refine SWp.ret ?_
  simp [aC,iB,res73]
theorem res38:Tryz.f38.results.toList=[.tmp 4]:=rfl
theorem ent38:aF E.P 38:=eO Tryz.func38 (by simp [Tryz.f38]) rfl
theorem laws_szFn_ok (a1:GFn) (left2:Int) {r0:Int} (h:nW a1 left2=some r0):Ok E 38 [.val (GFn.enc false a1),.val (vi left2)] [vi r0] []:=by
 refine oB (fn:=Tryz.f38) Tryz.func38 rfl (by simp [Tryz.f38]) fun C hN hP=>?_
 have u:∀ l,pinK [] l=true→pinB C.pin l=true:=pO (by rw [hP];rfl)
 have y:C.N=19:=hN
 clear hN
 unfold nW at h
 refine SWp.sR rfl (u _ rfl) fun K q=>?_
 iterate 2 (refine wC rfl fun K q=>?_;simp [y];refine q _ ?_;clear q)
 refine wN (q _ ?_);clear q
 refine SWp.sR rfl (u _ rfl) fun K q=>?_
 iterate 6 (refine wC rfl fun K q=>?_;simp [y];refine q _ ?_;clear q)
 refine wN (q _ ?_);clear q
 refine SWp.seq ?_
 refine SWp.sR rfl (u _ rfl) fun K q=>?_
 iterate 2 (refine wC rfl fun K q=>?_;simp [y];refine q _ ?_;clear q)
 refine wN (q _ ?_);clear q
 rcases aA h with ⟨hb3,h⟩ | ⟨hb4,h⟩
 ·refine SWp.cT' (b:=decide (IntKind.wrap .i64 (left2 - (a1.Name.size:Int)) < 0)) (by simp) hb3 ?_
  refine SWp.sR rfl (u _ rfl) fun K q=>?_
  refine wC rfl fun K q=>?_;simp [y];refine q _ ?_;clear q
  refine wN (q _ ?_);clear q
  cases h
  refine SWp.ret ?_
  simp [aC,iB,res38]
 ·refine SWp.cF' (b:=decide (IntKind.wrap .i64 (left2 - (a1.Name.size:Int)) < 0)) (by simp) hb4 ?_
  refine SWp.skip ?_
  show SWp E C _ _ _
  refine SWp.sR rfl (u _ rfl) fun K q=>?_
  iterate 3 (refine wC rfl fun K q=>?_;simp [y];refine q _ ?_;clear q)
  obtain ⟨r5,hc6,h⟩:=bS h
  refine wL [(.take,.tmp 13),(.take,.tmp 14)] rfl rfl ent73 (laws_szParamS_ok _ _ hc6) fun K q=>?_;simp [y];refine q _ ?_;clear q
  refine wC rfl fun K q=>?_;simp [y];refine q _ ?_;clear q
  refine wN (q _ ?_);clear q
  refine SWp.seq ?_
  refine SWp.sR rfl (u _ rfl) fun K q=>?_
  iterate 2 (refine wC rfl fun K q=>?_;simp [y];refine q _ ?_;clear q)
  refine wN (q _ ?_);clear q
  rcases aA h with ⟨hb7,h⟩ | ⟨hb8,h⟩
  ·refine SWp.cT' (b:=decide (r5 < 0)) (by simp) hb7 ?_
   refine SWp.sR rfl (u _ rfl) fun K q=>?_
   refine wC rfl fun K q=>?_;simp [y];refine q _ ?_;clear q
   refine wN (q _ ?_);clear q
   cases h
   refine SWp.ret ?_
   simp [aC,iB,res38]
  ·refine SWp.cF' (b:=decide (r5 < 0)) (by simp) hb8 ?_
   refine SWp.skip ?_
   show SWp E C _ _ _
   refine SWp.sR rfl (u _ rfl) fun K q=>?_
   iterate 2 (refine wC rfl fun K q=>?_;simp [y];refine q _ ?_;clear q)
   refine wN (q _ ?_);clear q
   cases h
   refine SWp.ret ?_
   simp [aC,iB,res38]
theorem res15:Tryz.f15.results.toList=[.tmp 4]:=rfl
theorem ent15:aF E.P 15:=eO Tryz.func15 (by simp [Tryz.f15]) rfl
theorem laws_szFnS_ok (a1:List GFn) (left2:Int) {r0:Int} (h:lR a1 left2=some r0):Ok E 15 [.val (.sl false 5 (List.map (GFn.enc false) a1)),.val (vi left2)] [vi r0] []:=by
 refine oB (fn:=Tryz.f15) Tryz.func15 rfl (by simp [Tryz.f15]) fun C hN hP=>?_
 have hPB:∀ l,pinK [] l=true→pinB C.pin l=true:=pO (by rw [hP];rfl)
 have hN':C.N=27:=hN
 clear hN
 unfold lR at h
 refine SWp.sR rfl (hPB _ rfl) fun K hK=>?_
 refine wC rfl fun K hK=>?_;simp [hN'];refine hK _ ?_;clear hK
 refine wN (hK _ ?_);clear hK
 refine SWp.sR rfl (hPB _ rfl) fun K hK=>?_
 iterate 5 (refine wC rfl fun K hK=>?_;simp [hN'];refine hK _ ?_;clear hK)
 refine wN (hK _ ?_);clear hK
 refine SWp.seq ?_
 refine SWp.sR rfl (hPB _ rfl) fun K hK=>?_
 iterate 2 (refine wC rfl fun K hK=>?_;simp [hN'];refine hK _ ?_;clear hK)
 refine wN (hK _ ?_);clear hK
 rcases aA h with ⟨hb3,h⟩ | ⟨hb4,h⟩
 ·refine SWp.cT' (b:=decide (IntKind.wrap .i64 (left2 - (a1.length:Int)) < 0)) (by simp) hb3 ?_
  refine SWp.sR rfl (hPB _ rfl) fun K hK=>?_
  refine wC rfl fun K hK=>?_;simp [hN'];refine hK _ ?_;clear hK
  refine wN (hK _ ?_);clear hK
  cases h
  refine SWp.ret ?_
  simp [aC,iB,res15]
 ·refine SWp.cF' (b:=decide (IntKind.wrap .i64 (left2 - (a1.length:Int)) < 0)) (by simp) hb4 ?_
  refine SWp.skip ?_
  show SWp E C _ _ _
  obtain ⟨j7,hj5,h⟩:=bS h
  refine SWp.seqC [1] [] (fun v:Int=>⟨[(1,.t (vi v))],[]⟩) (fun v=>j7=Sum.inl v) (fun v hv=>?_) fun K6 hK6=>?_
  rotate_left
  ·refine SWp.sR rfl (hPB _ rfl) fun K hK=>?_
   refine wC rfl fun K hK=>?_;simp [hN'];refine hK _ ?_;clear hK
   refine wN (hK _ ?_);clear hK
   refine SWp.block ?_
   refine SWp.loopO [] [0,1,5] [] (fun v:Int × Int=>⟨[(0,.t (.sl false 5 (List.map (GFn.enc false) a1))),(1,.t (vi v.1)),(5,.t (vi v.2))],[]⟩) (dR a1) _ (IntKind.wrap .i64 (left2 - (a1.length:Int)),0) hj5 (by simp [hN']) ?_
   intro g s12 h10 ho11
   obtain ⟨left8,i9⟩:=g
   simp only [dR] at h10
   try dsimp only
   refine SWp.seq ?_
   refine SWp.sR rfl (hPB _ rfl) fun K hK=>?_
   iterate 4 (refine wC rfl fun K hK=>?_;simp [hN'];refine hK _ ?_;clear hK)
   refine wN (hK _ ?_);clear hK
   rcases aA h10 with ⟨hb13,h10⟩ | ⟨hb14,h10⟩
   ·refine SWp.cT' (b:=decide (i9 < (a1.length:Int))) (by simp) hb13 ?_
    refine SWp.skip ?_
    show SWp E C _ _ _
    refine SWp.seq ?_
    refine SWp.block ?_
    refine SWp.sR rfl (hPB _ rfl) fun K hK=>?_
    iterate 2 (refine wC rfl fun K hK=>?_;simp [hN'];refine hK _ ?_;clear hK)
    obtain ⟨e15,he15,h10⟩:=bS h10
    obtain ⟨he15a,he15b,he15c,he15d⟩:=gS he15
    iterate 3 (refine wC rfl fun K hK=>?_;simp [hN',he15a,he15b,he15c,he15d];refine hK _ ?_;clear hK)
    obtain ⟨r16,hc17,h10⟩:=bS h10
    refine wL [(.take,.tmp 21),(.take,.tmp 22)] rfl rfl ent38 (laws_szFn_ok _ _ hc17) fun K hK=>?_;simp [hN',he15a,he15b,he15c,he15d];refine hK _ ?_;clear hK
    refine wC rfl fun K hK=>?_;simp [hN',he15a,he15b,he15c,he15d];refine hK _ ?_;clear hK
    refine wN (hK _ ?_);clear hK
    refine SWp.sR rfl (hPB _ rfl) fun K hK=>?_
    iterate 2 (refine wC rfl fun K hK=>?_;simp [hN'];refine hK _ ?_;clear hK)
    refine wN (hK _ ?_);clear hK
    rcases aA h10 with ⟨hb18,h10⟩ | ⟨hb19,h10⟩
    ·refine SWp.cT' (b:=decide (r16 < 0)) (by simp) hb18 ?_
     refine SWp.sR rfl (hPB _ rfl) fun K hK=>?_
     refine wC rfl fun K hK=>?_;simp [hN'];refine hK _ ?_;clear hK
     refine wN (hK _ ?_);clear hK
     have h20:=congrArg some (ho11 _ (Option.some.inj h10).symm)
     cases h20
     try dsimp only at h
     cases h
     refine SWp.ret ?_
     simp [aC,iB,res15]
    ·refine SWp.cF' (b:=decide (r16 < 0)) (by simp) hb19 ?_
     refine SWp.skip ?_
     show SWp E C _ _ _
     refine SWp.reg rfl (hPB _ rfl) fun K hK=>?_
     iterate 3 (refine wC rfl fun K hK=>?_;simp [hN'];refine hK _ ?_;clear hK)
     refine wN (hK _ ?_);clear hK
     cases h10
     exact ⟨_,[],rfl,by simp [hN']⟩
   ·refine SWp.cF' (b:=decide (i9 < (a1.length:Int))) (by simp) hb14 ?_
    refine SWp.exit ?_
    have h21:=congrArg some (ho11 _ (Option.some.inj h10).symm)
    cases h21
    exact hK6 _ _ [] rfl (by simp [hN'])
  subst hv
  obtain ⟨left22,hv⟩:∃ y,y=v:=⟨_,rfl⟩
  subst hv
  try dsimp only at h ⊢
  refine SWp.sR rfl (hPB _ rfl) fun K hK=>?_
  iterate 2 (refine wC rfl fun K hK=>?_;simp [hN'];refine hK _ ?_;clear hK)
  refine wN (hK _ ?_);clear hK
  cases h
  refine SWp.ret ?_
  simp [aC,iB,res15]
theorem res5:Tryz.f5.results.toList=[.tmp 4]:=rfl
theorem ent5:aF E.P 5:=eO Tryz.func5 (by simp [Tryz.f5]) rfl
theorem laws_szProgram_ok (a1:GProgram) (left2:Int) {r0:Int} (h:fU a1 left2=some r0):Ok E 5 [.val (GProgram.enc false a1),.val (vi left2)] [vi r0] []:=by
 refine oB (fn:=Tryz.f5) Tryz.func5 rfl (by simp [Tryz.f5]) fun C hN hP=>?_
 have u:∀ l,pinK [] l=true→pinB C.pin l=true:=pO (by rw [hP];rfl)
 have y:C.N=18:=hN
 clear hN
 unfold fU at h
 refine SWp.sR rfl (u _ rfl) fun K q=>?_
 iterate 2 (refine wC rfl fun K q=>?_;simp [y];refine q _ ?_;clear q)
 refine wN (q _ ?_);clear q
 refine SWp.sR rfl (u _ rfl) fun K q=>?_
 iterate 3 (refine wC rfl fun K q=>?_;simp [y];refine q _ ?_;clear q)
 obtain ⟨r3,hc4,h⟩:=bS h
 refine wL [(.take,.tmp 6),(.take,.tmp 7)] rfl rfl ent14 (laws_szNodeS_ok _ _ hc4) fun K q=>?_;simp [y];refine q _ ?_;clear q
 refine wC rfl fun K q=>?_;simp [y];refine q _ ?_;clear q
 refine wN (q _ ?_);clear q
 refine SWp.seq ?_
 refine SWp.sR rfl (u _ rfl) fun K q=>?_
 iterate 2 (refine wC rfl fun K q=>?_;simp [y];refine q _ ?_;clear q)
 refine wN (q _ ?_);clear q
 rcases aA h with ⟨hb5,h⟩ | ⟨hb6,h⟩
 ·refine SWp.cT' (b:=decide (r3 < 0)) (by simp) hb5 ?_
  refine SWp.sR rfl (u _ rfl) fun K q=>?_
  refine wC rfl fun K q=>?_;simp [y];refine q _ ?_;clear q
  refine wN (q _ ?_);clear q
  cases h
  refine SWp.ret ?_
  simp [aC,iB,res5]
 ·refine SWp.cF' (b:=decide (r3 < 0)) (by simp) hb6 ?_
  refine SWp.skip ?_
  show SWp E C _ _ _
  refine SWp.sR rfl (u _ rfl) fun K q=>?_
  iterate 3 (refine wC rfl fun K q=>?_;simp [y];refine q _ ?_;clear q)
  obtain ⟨r7,hc8,h⟩:=bS h
  refine wL [(.take,.tmp 12),(.take,.tmp 13)] rfl rfl ent15 (laws_szFnS_ok _ _ hc8) fun K q=>?_;simp [y];refine q _ ?_;clear q
  refine wC rfl fun K q=>?_;simp [y];refine q _ ?_;clear q
  refine wN (q _ ?_);clear q
  refine SWp.seq ?_
  refine SWp.sR rfl (u _ rfl) fun K q=>?_
  iterate 2 (refine wC rfl fun K q=>?_;simp [y];refine q _ ?_;clear q)
  refine wN (q _ ?_);clear q
  rcases aA h with ⟨hb9,h⟩ | ⟨hb10,h⟩
  ·refine SWp.cT' (b:=decide (r7 < 0)) (by simp) hb9 ?_
   refine SWp.sR rfl (u _ rfl) fun K q=>?_
   refine wC rfl fun K q=>?_;simp [y];refine q _ ?_;clear q
   refine wN (q _ ?_);clear q
   cases h
   refine SWp.ret ?_
   simp [aC,iB,res5]
  ·refine SWp.cF' (b:=decide (r7 < 0)) (by simp) hb10 ?_
   refine SWp.skip ?_
   show SWp E C _ _ _
   refine SWp.sR rfl (u _ rfl) fun K q=>?_
   iterate 2 (refine wC rfl fun K q=>?_;simp [y];refine q _ ?_;clear q)
   refine wN (q _ ?_);clear q
   cases h
   refine SWp.ret ?_
   simp [aC,iB,res5]
theorem res53:Tryz.f53.results.toList=[.tmp 6]:=rfl
theorem nB:aF E.P 53:=eO Tryz.func53 (by simp [Tryz.f53]) rfl
theorem aM (x1:Int) (least2:Int) (most3:Int) {r0:Bool} (h:aR x1 least2 most3=some r0):Ok E 53 [.val (vi x1),.val (vi least2),.val (vi most3)] [vb r0] []:=by
 refine oB (fn:=Tryz.f53) Tryz.func53 rfl (by simp [Tryz.f53]) fun C hN hP=>?_
 have u:∀ l,pinK [] l=true→pinB C.pin l=true:=pO (by rw [hP];rfl)
 have y:C.N=15:=hN
 clear hN
 unfold aR at h
 refine SWp.sR rfl (u _ rfl) fun K q=>?_
 refine wC rfl fun K q=>?_;simp [y];refine q _ ?_;clear q
 refine wN (q _ ?_);clear q
 obtain ⟨v8,hj4,h⟩:=bS h
 refine SWp.seqRC rfl (u _ rfl) [6] [] (fun _:Unit=>⟨[(6,.t (vb v8))],[]⟩) (fun _=>True) (fun _ _=>?_) fun K5 hK5=>?_
 rotate_left
 ·refine wC rfl fun K q=>?_;simp [y];refine q _ ?_;clear q
  iterate 3 (refine wC rfl fun K q=>?_;simp [y];refine q _ ?_;clear q)
  rcases aA hj4 with ⟨hb6,hj4⟩ | ⟨hb7,hj4⟩
  ·have hb6s:=hb6
   try simp at hb6s
   iterate 5 (refine wC rfl fun K q=>?_;simp [y,hb6,hb6s];refine q _ ?_;clear q)
   refine wN ?_
   cases hj4
   exact hK5 _ () [] trivial (by simp [y,hb6,hb6s])
  ·have hb7s:=hb7
   try simp at hb7s
   iterate 3 (refine wO fun K q=>?_;simp [y,hb7,hb7s];refine q _ ?_;clear q)
   iterate 2 (refine wC rfl fun K q=>?_;simp [y,hb7,hb7s];refine q _ ?_;clear q)
   refine wN ?_
   cases hj4
   exact hK5 _ () [] trivial (by simp [y,hb7,hb7s])
 cases h
 refine SWp.ret ?_
 simp [aC,iB,res53]
theorem res104:Tryz.f104.results.toList=[.tmp 2]:=rfl
theorem ent104:aF E.P 104:=eO Tryz.func104 (by simp [Tryz.f104]) rfl
theorem lJ (b1:Int) {r0:Bool} (h:eC b1=some r0):Ok E 104 [.val (vk .u8 b1)] [vb r0] []:=by
 refine oB (fn:=Tryz.f104) Tryz.func104 rfl (by simp [Tryz.f104]) fun C hN hP=>?_
 have u:∀ l,pinK [] l=true→pinB C.pin l=true:=pO (by rw [hP];rfl)
 have y:C.N=9:=hN
 clear hN
 unfold eC at h
 refine SWp.sR rfl (u _ rfl) fun K q=>?_
 refine wC rfl fun K q=>?_;simp [y];refine q _ ?_;clear q
 refine wN (q _ ?_);clear q
 obtain ⟨v6,hj2,h⟩:=bS h
 refine SWp.seqRC rfl (u _ rfl) [2] [] (fun _:Unit=>⟨[(2,.t (vb v6))],[]⟩) (fun _=>True) (fun _ _=>?_) fun K3 hK3=>?_
 rotate_left
 ·refine wC rfl fun K q=>?_;simp [y];refine q _ ?_;clear q
  iterate 2 (refine wC rfl fun K q=>?_;simp [y];refine q _ ?_;clear q)
  rcases aA hj2 with ⟨hb4,hj2⟩ | ⟨hb5,hj2⟩
  ·have hb4s:=hb4
   try simp at hb4s
   iterate 4 (refine wC rfl fun K q=>?_;simp [y,hb4,hb4s];refine q _ ?_;clear q)
   refine wN ?_
   cases hj2
   exact hK3 _ () [] trivial (by simp [y,hb4,hb4s])
  ·have hb5s:=hb5
   try simp at hb5s
   iterate 2 (refine wO fun K q=>?_;simp [y,hb5,hb5s];refine q _ ?_;clear q)
   iterate 2 (refine wC rfl fun K q=>?_;simp [y,hb5,hb5s];refine q _ ?_;clear q)
   refine wN ?_
   cases hj2
   exact hK3 _ () [] trivial (by simp [y,hb5,hb5s])
 cases h
 refine SWp.ret ?_
 simp [aC,iB,res104]
theorem res115:Tryz.f115.results.toList=[.tmp 0]:=rfl
theorem ent115:aF E.P 115:=eO Tryz.func115 (by simp [Tryz.f115]) rfl
theorem spec_l03Keys_ok {r0:List ByteArray} (h:kT=some r0):Ok E 115 [] [.sl true 1 (List.map vs r0)] []:=by
 refine oB (fn:=Tryz.f115) Tryz.func115 rfl (by simp [Tryz.f115]) fun C hN hP=>?_
 have u:∀ l,pinK [] l=true→pinB C.pin l=true:=pO (by rw [hP];rfl)
 have y:C.N=2:=hN
 clear hN
 unfold kT at h
 refine SWp.sR rfl (u _ rfl) fun K q=>?_
 refine wC rfl fun K q=>?_;simp [y];refine q _ ?_;clear q
 refine wN (q _ ?_);clear q
 refine SWp.sR rfl (u _ rfl) fun K q=>?_
 iterate 2 (refine wC rfl fun K q=>?_;simp [y];refine q _ ?_;clear q)
 refine wN (q _ ?_);clear q
 cases h
 refine SWp.ret ?_
 simp [aC,iB,res115]
theorem res105:Tryz.f105.results.toList=[.tmp 2]:=rfl
theorem ent105:aF E.P 105:=eO Tryz.func105 (by simp [Tryz.f105]) rfl
theorem spec_KeyWord_ok (s1:ByteArray) {r0:Bool} (h:iJ s1=some r0):Ok E 105 [.val (vs s1)] [vb r0] []:=by
 refine oB (fn:=Tryz.f105) Tryz.func105 rfl (by simp [Tryz.f105]) fun C hN hP=>?_
 have hPB:∀ l,pinK [] l=true→pinB C.pin l=true:=pO (by rw [hP];rfl)
 have hN':C.N=18:=hN
 clear hN
 unfold iJ at h
 refine SWp.sR rfl (hPB _ rfl) fun K hK=>?_
 refine wC rfl fun K hK=>?_;simp [hN'];refine hK _ ?_;clear hK
 refine wN (hK _ ?_);clear hK
 refine SWp.sR rfl (hPB _ rfl) fun K hK=>?_
 obtain ⟨r2,hc3,h⟩:=bS h
 refine wL [] rfl rfl ent115 (spec_l03Keys_ok hc3) fun K hK=>?_;simp [hN'];refine hK _ ?_;clear hK
 refine wC rfl fun K hK=>?_;simp [hN'];refine hK _ ?_;clear hK
 refine wN (hK _ ?_);clear hK
 obtain ⟨j6,hj4,h⟩:=bS h
 refine SWp.seqC [] [] (fun v:Unit=>⟨[],[]⟩) (fun v=>j6=Sum.inl v) (fun v hv=>?_) fun K5 hK5=>?_
 rotate_left
 ·refine SWp.sR rfl (hPB _ rfl) fun K hK=>?_
  refine wC rfl fun K hK=>?_;simp [hN'];refine hK _ ?_;clear hK
  refine wN (hK _ ?_);clear hK
  refine SWp.block ?_
  refine SWp.loopO [] [0,3,4] [] (fun v:Int=>⟨[(0,.t (vs s1)),(3,.t (.sl true 1 (List.map vs r2))),(4,.t (vi v))],[]⟩) (eV s1 r2) _ 0 hj4 (by simp [hN']) ?_
  intro g s10 h8 ho9
  obtain ⟨i7,hg⟩:∃ y,y=g:=⟨_,rfl⟩
  subst hg
  simp only [eV] at h8
  try dsimp only
  refine SWp.seq ?_
  refine SWp.sR rfl (hPB _ rfl) fun K hK=>?_
  iterate 4 (refine wC rfl fun K hK=>?_;simp [hN'];refine hK _ ?_;clear hK)
  refine wN (hK _ ?_);clear hK
  rcases aA h8 with ⟨hb11,h8⟩ | ⟨hb12,h8⟩
  ·refine SWp.cT' (b:=decide (i7 < (r2.length:Int))) (by simp) hb11 ?_
   refine SWp.skip ?_
   show SWp E C _ _ _
   refine SWp.seq ?_
   refine SWp.block ?_
   refine SWp.sR rfl (hPB _ rfl) fun K hK=>?_
   iterate 2 (refine wC rfl fun K hK=>?_;simp [hN'];refine hK _ ?_;clear hK)
   obtain ⟨e13,he13,h8⟩:=bS h8
   obtain ⟨he13a,he13b,he13c,he13d⟩:=gS he13
   iterate 4 (refine wC rfl fun K hK=>?_;simp [hN',he13a,he13b,he13c,he13d];refine hK _ ?_;clear hK)
   refine wN (hK _ ?_);clear hK
   rcases aA h8 with ⟨hb14,h8⟩ | ⟨hb15,h8⟩
   ·refine SWp.cT' (b:=sEq e13 s1) (by simp) hb14 ?_
    refine SWp.sR rfl (hPB _ rfl) fun K hK=>?_
    refine wC rfl fun K hK=>?_;simp [hN'];refine hK _ ?_;clear hK
    refine wN (hK _ ?_);clear hK
    have h16:=congrArg some (ho9 _ (Option.some.inj h8).symm)
    cases h16
    try dsimp only at h
    cases h
    refine SWp.ret ?_
    simp [aC,iB,res105]
   ·refine SWp.cF' (b:=sEq e13 s1) (by simp) hb15 ?_
    refine SWp.skip ?_
    show SWp E C _ _ _
    refine SWp.reg rfl (hPB _ rfl) fun K hK=>?_
    iterate 3 (refine wC rfl fun K hK=>?_;simp [hN'];refine hK _ ?_;clear hK)
    refine wN (hK _ ?_);clear hK
    cases h8
    exact ⟨_,[],rfl,by simp [hN']⟩
  ·refine SWp.cF' (b:=decide (i7 < (r2.length:Int))) (by simp) hb12 ?_
   refine SWp.exit ?_
   have h17:=congrArg some (ho9 _ (Option.some.inj h8).symm)
   cases h17
   exact hK5 _ _ [] rfl (by simp [hN'])
 subst hv
 obtain ⟨⟩:=v
 try dsimp only at h ⊢
 refine SWp.sR rfl (hPB _ rfl) fun K hK=>?_
 refine wC rfl fun K hK=>?_;simp [hN'];refine hK _ ?_;clear hK
 refine wN (hK _ ?_);clear hK
 cases h
 refine SWp.ret ?_
 simp [aC,iB,res105]
theorem res106:Tryz.f106.results.toList=[.tmp 2]:=rfl
theorem ent106:aF E.P 106:=eO Tryz.func106 (by simp [Tryz.f106]) rfl
theorem spec_l03Figure_ok (b1:Int) {r0:Bool} (h:fR b1=some r0):Ok E 106 [.val (vk .u8 b1)] [vb r0] []:=by
 refine oB (fn:=Tryz.f106) Tryz.func106 rfl (by simp [Tryz.f106]) fun C hN hP=>?_
 have u:∀ l,pinK [] l=true→pinB C.pin l=true:=pO (by rw [hP];rfl)
 have y:C.N=9:=hN
 clear hN
 unfold fR at h
 refine SWp.sR rfl (u _ rfl) fun K q=>?_
 refine wC rfl fun K q=>?_;simp [y];refine q _ ?_;clear q
 refine wN (q _ ?_);clear q
 obtain ⟨v6,hj2,h⟩:=bS h
 refine SWp.seqRC rfl (u _ rfl) [2] [] (fun _:Unit=>⟨[(2,.t (vb v6))],[]⟩) (fun _=>True) (fun _ _=>?_) fun K3 hK3=>?_
 rotate_left
 ·refine wC rfl fun K q=>?_;simp [y];refine q _ ?_;clear q
  iterate 2 (refine wC rfl fun K q=>?_;simp [y];refine q _ ?_;clear q)
  rcases aA hj2 with ⟨hb4,hj2⟩ | ⟨hb5,hj2⟩
  ·have hb4s:=hb4
   try simp at hb4s
   iterate 4 (refine wC rfl fun K q=>?_;simp [y,hb4,hb4s];refine q _ ?_;clear q)
   refine wN ?_
   cases hj2
   exact hK3 _ () [] trivial (by simp [y,hb4,hb4s])
  ·have hb5s:=hb5
   try simp at hb5s
   iterate 2 (refine wO fun K q=>?_;simp [y,hb5,hb5s];refine q _ ?_;clear q)
   iterate 2 (refine wC rfl fun K q=>?_;simp [y,hb5,hb5s];refine q _ ?_;clear q)
   refine wN ?_
   cases hj2
   exact hK3 _ () [] trivial (by simp [y,hb5,hb5s])
 cases h
 refine SWp.ret ?_
 simp [aC,iB,res106]
theorem res87:Tryz.f87.results.toList=[.tmp 2]:=rfl
theorem ent87:aF E.P 87:=eO Tryz.func87 (by simp [Tryz.f87]) rfl
theorem kY (s1:ByteArray) {r0:Bool} (h:fY s1=some r0):Ok E 87 [.val (vs s1)] [vb r0] []:=by
 refine oB (fn:=Tryz.f87) Tryz.func87 rfl (by simp [Tryz.f87]) fun C hN hP=>?_
 have hPB:∀ l,pinK [] l=true→pinB C.pin l=true:=pO (by rw [hP];rfl)
 have hN':C.N=36:=hN
 clear hN
 unfold fY at h
 refine SWp.sR rfl (hPB _ rfl) fun K hK=>?_
 refine wC rfl fun K hK=>?_;simp [hN'];refine hK _ ?_;clear hK
 refine wN (hK _ ?_);clear hK
 refine SWp.seq ?_
 obtain ⟨v15,hj2,h⟩:=bS h
 refine SWp.seqRC rfl (hPB _ rfl) [0,17] [] (fun _:Unit=>⟨[(0,.t (vs s1)),(17,.t (vb v15))],[]⟩) (fun _=>True) (fun _ _=>?_) fun K3 hK3=>?_
 rotate_left
 ·refine wC rfl fun K hK=>?_;simp [hN'];refine hK _ ?_;clear hK
  refine wC rfl fun K hK=>?_;simp [hN'];refine hK _ ?_;clear hK
  obtain ⟨r4,hc5,hj2⟩:=bS hj2
  refine wL [(.take,.tmp 5),(.take,.const (.int .i64 1)),(.take,.const (.int .i64 8))] rfl rfl nB (aM _ _ _ hc5) fun K hK=>?_;simp [hN'];refine hK _ ?_;clear hK
  iterate 2 (refine wC rfl fun K hK=>?_;simp [hN'];refine hK _ ?_;clear hK)
  rcases aA hj2 with ⟨hb6,hj2⟩ | ⟨hb7,hj2⟩
  ·have hb6s:=hb6
   try simp at hb6s
   iterate 4 (refine wO fun K hK=>?_;simp [hN',hb6,hb6s];refine hK _ ?_;clear hK)
   iterate 2 (refine wC rfl fun K hK=>?_;simp [hN',hb6,hb6s];refine hK _ ?_;clear hK)
   iterate 2 (refine wO fun K hK=>?_;simp [hN',hb6,hb6s];refine hK _ ?_;clear hK)
   refine wC rfl fun K hK=>?_;simp [hN',hb6,hb6s];refine hK _ ?_;clear hK
   refine wN ?_
   cases hj2
   exact hK3 _ () [] trivial (by simp [hN',hb6,hb6s])
  ·have hb7s:=hb7
   try simp at hb7s
   refine wC rfl fun K hK=>?_;simp [hN',hb7,hb7s];refine hK _ ?_;clear hK
   obtain ⟨c8,hc8,hj2⟩:=bS hj2
   obtain ⟨hc8a,hc8b,hc8c⟩:=sAt_some hc8
   have hc8e:0 < s1.size:=by omega
   refine wC rfl fun K hK=>?_;simp [hN',hb7,hb7s,hc8a,hc8b,hc8c,hc8e];refine hK _ ?_;clear hK
   obtain ⟨r9,hc10,hj2⟩:=bS hj2
   refine wL [(.take,.tmp 10)] rfl rfl ent104 (lJ _ hc10) fun K hK=>?_;simp [hN',hb7,hb7s,hc8a,hc8b,hc8c,hc8e];refine hK _ ?_;clear hK
   iterate 3 (refine wC rfl fun K hK=>?_;simp [hN',hb7,hb7s,hc8a,hc8b,hc8c,hc8e];refine hK _ ?_;clear hK)
   rcases aA hj2 with ⟨hb11,hj2⟩ | ⟨hb12,hj2⟩
   ·have hb11s:=hb11
    try simp at hb11s
    iterate 2 (refine wO fun K hK=>?_;simp [hN',hb7,hb7s,hc8a,hc8b,hc8c,hc8e,hb11,hb11s];refine hK _ ?_;clear hK)
    refine wC rfl fun K hK=>?_;simp [hN',hb7,hb7s,hc8a,hc8b,hc8c,hc8e,hb11,hb11s];refine hK _ ?_;clear hK
    refine wN ?_
    cases hj2
    exact hK3 _ () [] trivial (by simp [hN',hb7,hb7s,hc8a,hc8b,hc8c,hc8e,hb11,hb11s])
   ·have hb12s:=hb12
    try simp at hb12s
    refine wC rfl fun K hK=>?_;simp [hN',hb7,hb7s,hc8a,hc8b,hc8c,hc8e,hb12,hb12s];refine hK _ ?_;clear hK
    obtain ⟨r13,hc14,hj2⟩:=bS hj2
    refine wL [(.take,.tmp 15)] rfl rfl ent105 (spec_KeyWord_ok _ hc14) fun K hK=>?_;simp [hN',hb7,hb7s,hc8a,hc8b,hc8c,hc8e,hb12,hb12s];refine hK _ ?_;clear hK
    refine wC rfl fun K hK=>?_;simp [hN',hb7,hb7s,hc8a,hc8b,hc8c,hc8e,hb12,hb12s];refine hK _ ?_;clear hK
    refine wN ?_
    cases hj2
    exact hK3 _ () [] trivial (by simp [hN',hb7,hb7s,hc8a,hc8b,hc8c,hc8e,hb12,hb12s])
 rcases aA h with ⟨hb16,h⟩ | ⟨hb17,h⟩
 ·refine SWp.cT' (b:=v15) (by simp) hb16 ?_
  refine SWp.sR rfl (hPB _ rfl) fun K hK=>?_
  refine wC rfl fun K hK=>?_;simp [hN'];refine hK _ ?_;clear hK
  refine wN (hK _ ?_);clear hK
  cases h
  refine SWp.ret ?_
  simp [aC,iB,res87]
 ·refine SWp.cF' (b:=v15) (by simp) hb17 ?_
  refine SWp.skip ?_
  show SWp E C _ _ _
  obtain ⟨j20,hj18,h⟩:=bS h
  refine SWp.seqC [] [] (fun v:Unit=>⟨[],[]⟩) (fun v=>j20=Sum.inl v) (fun v hv=>?_) fun K19 hK19=>?_
  rotate_left
  ·refine SWp.sR rfl (hPB _ rfl) fun K hK=>?_
   refine wC rfl fun K hK=>?_;simp [hN'];refine hK _ ?_;clear hK
   refine wN (hK _ ?_);clear hK
   refine SWp.block ?_
   refine SWp.loopO [] [0,3] [] (fun v:Int=>⟨[(0,.t (vs s1)),(3,.t (vi v))],[]⟩) (eH s1) _ 0 hj18 (by simp [hN']) ?_
   intro g s24 h22 ho23
   obtain ⟨i21,hg⟩:∃ y,y=g:=⟨_,rfl⟩
   subst hg
   simp only [eH] at h22
   try dsimp only
   refine SWp.seq ?_
   refine SWp.sR rfl (hPB _ rfl) fun K hK=>?_
   iterate 4 (refine wC rfl fun K hK=>?_;simp [hN'];refine hK _ ?_;clear hK)
   refine wN (hK _ ?_);clear hK
   rcases aA h22 with ⟨hb25,h22⟩ | ⟨hb26,h22⟩
   ·refine SWp.cT' (b:=decide (i21 < (s1.size:Int))) (by simp) hb25 ?_
    refine SWp.skip ?_
    show SWp E C _ _ _
    refine SWp.seq ?_
    refine SWp.block ?_
    obtain ⟨v36,hj27,h22⟩:=bS h22
    refine SWp.seqRC rfl (hPB _ rfl) [0,3,35] [] (fun _:Unit=>⟨[(0,.t (vs s1)),(3,.t (vi i21)),(35,.t (vb v36))],[]⟩) (fun _=>True) (fun _ _=>?_) fun K28 hK28=>?_
    rotate_left
    ·refine wC rfl fun K hK=>?_;simp [hN'];refine hK _ ?_;clear hK
     refine wC rfl fun K hK=>?_;simp [hN'];refine hK _ ?_;clear hK
     obtain ⟨c29,hc29,hj27⟩:=bS hj27
     obtain ⟨hc29a,hc29b,hc29c⟩:=sAt_some hc29
     refine wC rfl fun K hK=>?_;simp [hN',hc29a,hc29b,hc29c];refine hK _ ?_;clear hK
     obtain ⟨r30,hc31,hj27⟩:=bS hj27
     refine wL [(.take,.tmp 26)] rfl rfl ent104 (lJ _ hc31) fun K hK=>?_;simp [hN',hc29a,hc29b,hc29c];refine hK _ ?_;clear hK
     iterate 2 (refine wC rfl fun K hK=>?_;simp [hN',hc29a,hc29b,hc29c];refine hK _ ?_;clear hK)
     rcases aA hj27 with ⟨hb32,hj27⟩ | ⟨hb33,hj27⟩
     ·have hb32s:=hb32
      try simp at hb32s
      iterate 3 (refine wC rfl fun K hK=>?_;simp [hN',hc29a,hc29b,hc29c,hb32,hb32s];refine hK _ ?_;clear hK)
      obtain ⟨r34,hc35,hj27⟩:=bS hj27
      refine wL [(.take,.tmp 32)] rfl rfl ent106 (spec_l03Figure_ok _ hc35) fun K hK=>?_;simp [hN',hc29a,hc29b,hc29c,hb32,hb32s];refine hK _ ?_;clear hK
      iterate 2 (refine wC rfl fun K hK=>?_;simp [hN',hc29a,hc29b,hc29c,hb32,hb32s];refine hK _ ?_;clear hK)
      refine wN ?_
      cases hj27
      exact hK28 _ () [] trivial (by simp [hN',hc29a,hc29b,hc29c,hb32,hb32s])
     ·have hb33s:=hb33
      try simp at hb33s
      iterate 5 (refine wO fun K hK=>?_;simp [hN',hc29a,hc29b,hc29c,hb33,hb33s];refine hK _ ?_;clear hK)
      refine wC rfl fun K hK=>?_;simp [hN',hc29a,hc29b,hc29c,hb33,hb33s];refine hK _ ?_;clear hK
      refine wN ?_
      cases hj27
      exact hK28 _ () [] trivial (by simp [hN',hc29a,hc29b,hc29c,hb33,hb33s])
    rcases aA h22 with ⟨hb37,h22⟩ | ⟨hb38,h22⟩
    ·refine SWp.cT' (b:=v36) (by simp) hb37 ?_
     refine SWp.sR rfl (hPB _ rfl) fun K hK=>?_
     refine wC rfl fun K hK=>?_;simp [hN'];refine hK _ ?_;clear hK
     refine wN (hK _ ?_);clear hK
     have h39:=congrArg some (ho23 _ (Option.some.inj h22).symm)
     cases h39
     try dsimp only at h
     cases h
     refine SWp.ret ?_
     simp [aC,iB,res87]
    ·refine SWp.cF' (b:=v36) (by simp) hb38 ?_
     refine SWp.skip ?_
     show SWp E C _ _ _
     refine SWp.reg rfl (hPB _ rfl) fun K hK=>?_
     iterate 3 (refine wC rfl fun K hK=>?_;simp [hN'];refine hK _ ?_;clear hK)
     refine wN (hK _ ?_);clear hK
     cases h22
     exact ⟨_,[],rfl,by simp [hN']⟩
   ·refine SWp.cF' (b:=decide (i21 < (s1.size:Int))) (by simp) hb26 ?_
    refine SWp.exit ?_
    have h40:=congrArg some (ho23 _ (Option.some.inj h22).symm)
    cases h40
    exact hK19 _ _ [] rfl (by simp [hN'])
  subst hv
  obtain ⟨⟩:=v
  try dsimp only at h ⊢
  refine SWp.sR rfl (hPB _ rfl) fun K hK=>?_
  refine wC rfl fun K hK=>?_;simp [hN'];refine hK _ ?_;clear hK
  refine wN (hK _ ?_);clear hK
  cases h
  refine SWp.ret ?_
  simp [aC,iB,res87]
theorem res101:Tryz.f101.results.toList=[.tmp 2,.tmp 3]:=rfl
theorem ent101:aF E.P 101:=eO Tryz.func101 (by simp [Tryz.f101]) rfl
theorem spec_l04Kids_ok (kind1:Int) {r0:Int} {r1:Int} (h:iH kind1=some (r0,r1)):Ok E 101 [.val (vi kind1)] [vi r0,vi r1] []:=by
 refine oB (fn:=Tryz.f101) Tryz.func101 rfl (by simp [Tryz.f101]) fun C hN hP=>?_
 have u:∀ l,pinK [] l=true→pinB C.pin l=true:=pO (by rw [hP];rfl)
 have y:C.N=23:=hN
 clear hN
 unfold iH at h
 refine SWp.sR rfl (u _ rfl) fun K q=>?_
 iterate 2 (refine wC rfl fun K q=>?_;simp [y];refine q _ ?_;clear q)
 refine wN (q _ ?_);clear q
 refine SWp.seq ?_
 refine SWp.sR rfl (u _ rfl) fun K q=>?_
 refine wC rfl fun K q=>?_;simp [y];refine q _ ?_;clear q
 refine wN (q _ ?_);clear q
 refine SWp.block ?_
 obtain ⟨v15,hj2,h⟩:=bS h
 refine SWp.seqC [4,5] [] (fun _:Unit=>⟨[(4,.t (vi kind1)),(5,.t (vb v15))],[]⟩) (fun _=>True) (fun _ _=>?_) fun K3 hK3=>?_
 rotate_left
 ·refine SWp.sR rfl (u _ rfl) fun K q=>?_
  iterate 2 (refine wC rfl fun K q=>?_;simp [y];refine q _ ?_;clear q)
  refine wN (q _ ?_);clear q
  rcases aA hj2 with ⟨hb5,hj2⟩ | ⟨hb6,hj2⟩
  ·refine SWp.cT' (b:=kind1 == 8) (by simp) hb5 ?_
   refine SWp.skip ?_
   cases hj2
   exact hK3 _ () [] trivial (by simp [y])
  ·refine SWp.cF' (b:=kind1 == 8) (by simp) hb6 ?_
   refine SWp.sR rfl (u _ rfl) fun K q=>?_
   iterate 2 (refine wC rfl fun K q=>?_;simp [y];refine q _ ?_;clear q)
   refine wN (q _ ?_);clear q
   rcases aA hj2 with ⟨hb7,hj2⟩ | ⟨hb8,hj2⟩
   ·refine SWp.cT' (b:=kind1 == 13) (by simp) hb7 ?_
    refine SWp.skip ?_
    cases hj2
    exact hK3 _ () [] trivial (by simp [y])
   ·refine SWp.cF' (b:=kind1 == 13) (by simp) hb8 ?_
    refine SWp.sR rfl (u _ rfl) fun K q=>?_
    iterate 2 (refine wC rfl fun K q=>?_;simp [y];refine q _ ?_;clear q)
    refine wN (q _ ?_);clear q
    rcases aA hj2 with ⟨hb9,hj2⟩ | ⟨hb10,hj2⟩
    ·refine SWp.cT' (b:=kind1 == 14) (by simp) hb9 ?_
     refine SWp.skip ?_
     cases hj2
     exact hK3 _ () [] trivial (by simp [y])
    ·refine SWp.cF' (b:=kind1 == 14) (by simp) hb10 ?_
     refine SWp.sR rfl (u _ rfl) fun K q=>?_
     iterate 2 (refine wC rfl fun K q=>?_;simp [y];refine q _ ?_;clear q)
     refine wN (q _ ?_);clear q
     rcases aA hj2 with ⟨hb11,hj2⟩ | ⟨hb12,hj2⟩
     ·refine SWp.cT' (b:=kind1 == 15) (by simp) hb11 ?_
      refine SWp.skip ?_
      cases hj2
      exact hK3 _ () [] trivial (by simp [y])
     ·refine SWp.cF' (b:=kind1 == 15) (by simp) hb12 ?_
      refine SWp.sR rfl (u _ rfl) fun K q=>?_
      iterate 2 (refine wC rfl fun K q=>?_;simp [y];refine q _ ?_;clear q)
      refine wN (q _ ?_);clear q
      rcases aA hj2 with ⟨hb13,hj2⟩ | ⟨hb14,hj2⟩
      ·refine SWp.cT' (b:=kind1 == 18) (by simp) hb13 ?_
       refine SWp.skip ?_
       cases hj2
       exact hK3 _ () [] trivial (by simp [y])
      ·refine SWp.cF' (b:=kind1 == 18) (by simp) hb14 ?_
       refine SWp.reg rfl (u _ rfl) fun K q=>?_
       iterate 2 (refine wC rfl fun K q=>?_;simp [y];refine q _ ?_;clear q)
       refine wN (q _ ?_);clear q
       cases hj2
       exact hK3 _ () [] trivial (by simp [y])
 rcases aA h with ⟨hb16,h⟩ | ⟨hb17,h⟩
 ·refine SWp.cT' (b:=v15) (by simp) hb16 ?_
  refine SWp.sR rfl (u _ rfl) fun K q=>?_
  iterate 2 (refine wC rfl fun K q=>?_;simp [y];refine q _ ?_;clear q)
  refine wN (q _ ?_);clear q
  cases h
  refine SWp.ret ?_
  simp [aC,iB,res101]
 ·refine SWp.cF' (b:=v15) (by simp) hb17 ?_
  obtain ⟨v27,hj18,h⟩:=bS h
  refine SWp.seqC [4,12] [] (fun _:Unit=>⟨[(4,.t (vi kind1)),(12,.t (vb v27))],[]⟩) (fun _=>True) (fun _ _=>?_) fun K19 hK19=>?_
  rotate_left
  ·refine SWp.sR rfl (u _ rfl) fun K q=>?_
   iterate 2 (refine wC rfl fun K q=>?_;simp [y];refine q _ ?_;clear q)
   refine wN (q _ ?_);clear q
   rcases aA hj18 with ⟨hb21,hj18⟩ | ⟨hb22,hj18⟩
   ·refine SWp.cT' (b:=kind1 == 9) (by simp) hb21 ?_
    refine SWp.skip ?_
    cases hj18
    exact hK19 _ () [] trivial (by simp [y])
   ·refine SWp.cF' (b:=kind1 == 9) (by simp) hb22 ?_
    refine SWp.sR rfl (u _ rfl) fun K q=>?_
    iterate 2 (refine wC rfl fun K q=>?_;simp [y];refine q _ ?_;clear q)
    refine wN (q _ ?_);clear q
    rcases aA hj18 with ⟨hb23,hj18⟩ | ⟨hb24,hj18⟩
    ·refine SWp.cT' (b:=kind1 == 10) (by simp) hb23 ?_
     refine SWp.skip ?_
     cases hj18
     exact hK19 _ () [] trivial (by simp [y])
    ·refine SWp.cF' (b:=kind1 == 10) (by simp) hb24 ?_
     refine SWp.sR rfl (u _ rfl) fun K q=>?_
     iterate 2 (refine wC rfl fun K q=>?_;simp [y];refine q _ ?_;clear q)
     refine wN (q _ ?_);clear q
     rcases aA hj18 with ⟨hb25,hj18⟩ | ⟨hb26,hj18⟩
     ·refine SWp.cT' (b:=kind1 == 11) (by simp) hb25 ?_
      refine SWp.skip ?_
      cases hj18
      exact hK19 _ () [] trivial (by simp [y])
     ·refine SWp.cF' (b:=kind1 == 11) (by simp) hb26 ?_
      refine SWp.reg rfl (u _ rfl) fun K q=>?_
      iterate 2 (refine wC rfl fun K q=>?_;simp [y];refine q _ ?_;clear q)
      refine wN (q _ ?_);clear q
      cases hj18
      exact hK19 _ () [] trivial (by simp [y])
  rcases aA h with ⟨hb28,h⟩ | ⟨hb29,h⟩
  ·refine SWp.cT' (b:=v27) (by simp) hb28 ?_
   refine SWp.sR rfl (u _ rfl) fun K q=>?_
   iterate 2 (refine wC rfl fun K q=>?_;simp [y];refine q _ ?_;clear q)
   refine wN (q _ ?_);clear q
   cases h
   refine SWp.ret ?_
   simp [aC,iB,res101]
  ·refine SWp.cF' (b:=v27) (by simp) hb29 ?_
   refine SWp.sR rfl (u _ rfl) fun K q=>?_
   iterate 2 (refine wC rfl fun K q=>?_;simp [y];refine q _ ?_;clear q)
   refine wN (q _ ?_);clear q
   rcases aA h with ⟨hb30,h⟩ | ⟨hb31,h⟩
   ·refine SWp.cT' (b:=kind1 == 12) (by simp) hb30 ?_
    refine SWp.sR rfl (u _ rfl) fun K q=>?_
    iterate 2 (refine wC rfl fun K q=>?_;simp [y];refine q _ ?_;clear q)
    refine wN (q _ ?_);clear q
    cases h
    refine SWp.ret ?_
    simp [aC,iB,res101]
   ·refine SWp.cF' (b:=kind1 == 12) (by simp) hb31 ?_
    refine SWp.sR rfl (u _ rfl) fun K q=>?_
    iterate 2 (refine wC rfl fun K q=>?_;simp [y];refine q _ ?_;clear q)
    refine wN (q _ ?_);clear q
    rcases aA h with ⟨hb32,h⟩ | ⟨hb33,h⟩
    ·refine SWp.cT' (b:=kind1 == 16) (by simp) hb32 ?_
     refine SWp.sR rfl (u _ rfl) fun K q=>?_
     iterate 2 (refine wC rfl fun K q=>?_;simp [y];refine q _ ?_;clear q)
     refine wN (q _ ?_);clear q
     cases h
     refine SWp.ret ?_
     simp [aC,iB,res101]
    ·refine SWp.cF' (b:=kind1 == 16) (by simp) hb33 ?_
     refine SWp.sR rfl (u _ rfl) fun K q=>?_
     iterate 2 (refine wC rfl fun K q=>?_;simp [y];refine q _ ?_;clear q)
     refine wN (q _ ?_);clear q
     rcases aA h with ⟨hb34,h⟩ | ⟨hb35,h⟩
     ·refine SWp.cT' (b:=kind1 == 20) (by simp) hb34 ?_
      refine SWp.sR rfl (u _ rfl) fun K q=>?_
      iterate 2 (refine wC rfl fun K q=>?_;simp [y];refine q _ ?_;clear q)
      refine wN (q _ ?_);clear q
      cases h
      refine SWp.ret ?_
      simp [aC,iB,res101]
     ·refine SWp.cF' (b:=kind1 == 20) (by simp) hb35 ?_
      refine SWp.skip ?_
      show SWp E C _ _ _
      refine SWp.sR rfl (u _ rfl) fun K q=>?_
      iterate 2 (refine wC rfl fun K q=>?_;simp [y];refine q _ ?_;clear q)
      refine wN (q _ ?_);clear q
      cases h
      refine SWp.ret ?_
      simp [aC,iB,res101]
theorem res102:Tryz.f102.results.toList=[.tmp 2]:=rfl
theorem ent102:aF E.P 102:=eO Tryz.func102 (by simp [Tryz.f102]) rfl
theorem spec_l04Named_ok (kind1:Int) {r0:Bool} (h:gL kind1=some r0):Ok E 102 [.val (vi kind1)] [vb r0] []:=by
 refine oB (fn:=Tryz.f102) Tryz.func102 rfl (by simp [Tryz.f102]) fun C hN hP=>?_
 have u:∀ l,pinK [] l=true→pinB C.pin l=true:=pO (by rw [hP];rfl)
 have y:C.N=14:=hN
 clear hN
 unfold gL at h
 refine SWp.sR rfl (u _ rfl) fun K q=>?_
 refine wC rfl fun K q=>?_;simp [y];refine q _ ?_;clear q
 refine wN (q _ ?_);clear q
 refine SWp.seq ?_
 refine SWp.sR rfl (u _ rfl) fun K q=>?_
 refine wC rfl fun K q=>?_;simp [y];refine q _ ?_;clear q
 refine wN (q _ ?_);clear q
 refine SWp.block ?_
 obtain ⟨v21,hj2,h⟩:=bS h
 refine SWp.seqC [4] [] (fun _:Unit=>⟨[(4,.t (vb v21))],[]⟩) (fun _=>True) (fun _ _=>?_) fun K3 hK3=>?_
 rotate_left
 ·refine SWp.sR rfl (u _ rfl) fun K q=>?_
  iterate 2 (refine wC rfl fun K q=>?_;simp [y];refine q _ ?_;clear q)
  refine wN (q _ ?_);clear q
  rcases aA hj2 with ⟨hb5,hj2⟩ | ⟨hb6,hj2⟩
  ·refine SWp.cT' (b:=kind1 == 2) (by simp) hb5 ?_
   refine SWp.skip ?_
   cases hj2
   exact hK3 _ () [] trivial (by simp [y])
  ·refine SWp.cF' (b:=kind1 == 2) (by simp) hb6 ?_
   refine SWp.sR rfl (u _ rfl) fun K q=>?_
   iterate 2 (refine wC rfl fun K q=>?_;simp [y];refine q _ ?_;clear q)
   refine wN (q _ ?_);clear q
   rcases aA hj2 with ⟨hb7,hj2⟩ | ⟨hb8,hj2⟩
   ·refine SWp.cT' (b:=kind1 == 3) (by simp) hb7 ?_
    refine SWp.skip ?_
    cases hj2
    exact hK3 _ () [] trivial (by simp [y])
   ·refine SWp.cF' (b:=kind1 == 3) (by simp) hb8 ?_
    refine SWp.sR rfl (u _ rfl) fun K q=>?_
    iterate 2 (refine wC rfl fun K q=>?_;simp [y];refine q _ ?_;clear q)
    refine wN (q _ ?_);clear q
    rcases aA hj2 with ⟨hb9,hj2⟩ | ⟨hb10,hj2⟩
    ·refine SWp.cT' (b:=kind1 == 4) (by simp) hb9 ?_
     refine SWp.skip ?_
     cases hj2
     exact hK3 _ () [] trivial (by simp [y])
    ·refine SWp.cF' (b:=kind1 == 4) (by simp) hb10 ?_
     refine SWp.sR rfl (u _ rfl) fun K q=>?_
     iterate 2 (refine wC rfl fun K q=>?_;simp [y];refine q _ ?_;clear q)
     refine wN (q _ ?_);clear q
     rcases aA hj2 with ⟨hb11,hj2⟩ | ⟨hb12,hj2⟩
     ·refine SWp.cT' (b:=kind1 == 5) (by simp) hb11 ?_
      refine SWp.skip ?_
      cases hj2
      exact hK3 _ () [] trivial (by simp [y])
     ·refine SWp.cF' (b:=kind1 == 5) (by simp) hb12 ?_
      refine SWp.sR rfl (u _ rfl) fun K q=>?_
      iterate 2 (refine wC rfl fun K q=>?_;simp [y];refine q _ ?_;clear q)
      refine wN (q _ ?_);clear q
      rcases aA hj2 with ⟨hb13,hj2⟩ | ⟨hb14,hj2⟩
      ·refine SWp.cT' (b:=kind1 == 6) (by simp) hb13 ?_
       refine SWp.skip ?_
       cases hj2
       exact hK3 _ () [] trivial (by simp [y])
      ·refine SWp.cF' (b:=kind1 == 6) (by simp) hb14 ?_
       refine SWp.sR rfl (u _ rfl) fun K q=>?_
       iterate 2 (refine wC rfl fun K q=>?_;simp [y];refine q _ ?_;clear q)
       refine wN (q _ ?_);clear q
       rcases aA hj2 with ⟨hb15,hj2⟩ | ⟨hb16,hj2⟩
       ·refine SWp.cT' (b:=kind1 == 12) (by simp) hb15 ?_
        refine SWp.skip ?_
        cases hj2
        exact hK3 _ () [] trivial (by simp [y])
       ·refine SWp.cF' (b:=kind1 == 12) (by simp) hb16 ?_
        refine SWp.sR rfl (u _ rfl) fun K q=>?_
        iterate 2 (refine wC rfl fun K q=>?_;simp [y];refine q _ ?_;clear q)
        refine wN (q _ ?_);clear q
        rcases aA hj2 with ⟨hb17,hj2⟩ | ⟨hb18,hj2⟩
        ·refine SWp.cT' (b:=kind1 == 13) (by simp) hb17 ?_
         refine SWp.skip ?_
         cases hj2
         exact hK3 _ () [] trivial (by simp [y])
        ·refine SWp.cF' (b:=kind1 == 13) (by simp) hb18 ?_
         refine SWp.sR rfl (u _ rfl) fun K q=>?_
         iterate 2 (refine wC rfl fun K q=>?_;simp [y];refine q _ ?_;clear q)
         refine wN (q _ ?_);clear q
         rcases aA hj2 with ⟨hb19,hj2⟩ | ⟨hb20,hj2⟩
         ·refine SWp.cT' (b:=kind1 == 14) (by simp) hb19 ?_
          refine SWp.skip ?_
          cases hj2
          exact hK3 _ () [] trivial (by simp [y])
         ·refine SWp.cF' (b:=kind1 == 14) (by simp) hb20 ?_
          refine SWp.reg rfl (u _ rfl) fun K q=>?_
          iterate 2 (refine wC rfl fun K q=>?_;simp [y];refine q _ ?_;clear q)
          refine wN (q _ ?_);clear q
          cases hj2
          exact hK3 _ () [] trivial (by simp [y])
 rcases aA h with ⟨hb22,h⟩ | ⟨hb23,h⟩
 ·refine SWp.cT' (b:=v21) (by simp) hb22 ?_
  refine SWp.sR rfl (u _ rfl) fun K q=>?_
  refine wC rfl fun K q=>?_;simp [y];refine q _ ?_;clear q
  refine wN (q _ ?_);clear q
  cases h
  refine SWp.ret ?_
  simp [aC,iB,res102]
 ·refine SWp.cF' (b:=v21) (by simp) hb23 ?_
  refine SWp.skip ?_
  show SWp E C _ _ _
  refine SWp.sR rfl (u _ rfl) fun K q=>?_
  refine wC rfl fun K q=>?_;simp [y];refine q _ ?_;clear q
  refine wN (q _ ?_);clear q
  cases h
  refine SWp.ret ?_
  simp [aC,iB,res102]
theorem res88:Tryz.f88.results.toList=[.tmp 2]:=rfl
theorem ent88:aF E.P 88:=eO Tryz.func88 (by simp [Tryz.f88]) rfl
theorem jG (kind1:Int) {r0:Bool} (h:dQ kind1=some r0):Ok E 88 [.val (vi kind1)] [vb r0] []:=by
 refine oB (fn:=Tryz.f88) Tryz.func88 rfl (by simp [Tryz.f88]) fun C hN hP=>?_
 have u:∀ l,pinK [] l=true→pinB C.pin l=true:=pO (by rw [hP];rfl)
 have y:C.N=5:=hN
 clear hN
 unfold dQ at h
 refine SWp.sR rfl (u _ rfl) fun K q=>?_
 refine wC rfl fun K q=>?_;simp [y];refine q _ ?_;clear q
 refine wN (q _ ?_);clear q
 refine SWp.sR rfl (u _ rfl) fun K q=>?_
 refine wC rfl fun K q=>?_;simp [y];refine q _ ?_;clear q
 obtain ⟨r2,hc3,h⟩:=bS h
 refine wL [(.take,.tmp 3),(.take,.const (.int .i64 1)),(.take,.const (.int .i64 12))] rfl rfl nB (aM _ _ _ hc3) fun K q=>?_;simp [y];refine q _ ?_;clear q
 refine wC rfl fun K q=>?_;simp [y];refine q _ ?_;clear q
 refine wN (q _ ?_);clear q
 cases h
 refine SWp.ret ?_
 simp [aC,iB,res88]
theorem res114:Tryz.f114.results.toList=[.tmp 2]:=rfl
theorem ent114:aF E.P 114:=eO Tryz.func114 (by simp [Tryz.f114]) rfl
theorem oY (kind1:Int) {r0:Bool} (h:dA kind1=some r0):Ok E 114 [.val (vi kind1)] [vb r0] []:=by
 refine oB (fn:=Tryz.f114) Tryz.func114 rfl (by simp [Tryz.f114]) fun C hN hP=>?_
 have u:∀ l,pinK [] l=true→pinB C.pin l=true:=pO (by rw [hP];rfl)
 have y:C.N=5:=hN
 clear hN
 unfold dA at h
 refine SWp.sR rfl (u _ rfl) fun K q=>?_
 refine wC rfl fun K q=>?_;simp [y];refine q _ ?_;clear q
 refine wN (q _ ?_);clear q
 refine SWp.sR rfl (u _ rfl) fun K q=>?_
 refine wC rfl fun K q=>?_;simp [y];refine q _ ?_;clear q
 obtain ⟨r2,hc3,h⟩:=bS h
 refine wL [(.take,.tmp 3),(.take,.const (.int .i64 13)),(.take,.const (.int .i64 19))] rfl rfl nB (aM _ _ _ hc3) fun K q=>?_;simp [y];refine q _ ?_;clear q
 refine wC rfl fun K q=>?_;simp [y];refine q _ ?_;clear q
 refine wN (q _ ?_);clear q
 cases h
 refine SWp.ret ?_
 simp [aC,iB,res114]
theorem res103:Tryz.f103.results.toList=[.tmp 6]:=rfl
theorem ent103:aF E.P 103:=eO Tryz.func103 (by simp [Tryz.f103]) rfl
theorem spec_l04Fits_ok (kind1:Int) (at2:Int) (kid3:Int) {r0:Bool} (h:iI kind1 at2 kid3=some r0):Ok E 103 [.val (vi kind1),.val (vi at2),.val (vi kid3)] [vb r0] []:=by
 refine oB (fn:=Tryz.f103) Tryz.func103 rfl (by simp [Tryz.f103]) fun C hN hP=>?_
 have u:∀ l,pinK [] l=true→pinB C.pin l=true:=pO (by rw [hP];rfl)
 have y:C.N=25:=hN
 clear hN
 unfold iI at h
 refine SWp.sR rfl (u _ rfl) fun K q=>?_
 refine wC rfl fun K q=>?_;simp [y];refine q _ ?_;clear q
 refine wN (q _ ?_);clear q
 refine SWp.seq ?_
 refine SWp.sR rfl (u _ rfl) fun K q=>?_
 refine wC rfl fun K q=>?_;simp [y];refine q _ ?_;clear q
 refine wN (q _ ?_);clear q
 refine SWp.block ?_
 refine SWp.sR rfl (u _ rfl) fun K q=>?_
 iterate 2 (refine wC rfl fun K q=>?_;simp [y];refine q _ ?_;clear q)
 refine wN (q _ ?_);clear q
 rcases aA h with ⟨hb4,h⟩ | ⟨hb5,h⟩
 ·refine SWp.cT' (b:=kind1 == 20) (by simp) hb4 ?_
  refine SWp.sR rfl (u _ rfl) fun K q=>?_
  refine wC rfl fun K q=>?_;simp [y];refine q _ ?_;clear q
  obtain ⟨r6,hc7,h⟩:=bS h
  refine wL [(.take,.tmp 10)] rfl rfl ent114 (oY _ hc7) fun K q=>?_;simp [y];refine q _ ?_;clear q
  refine wC rfl fun K q=>?_;simp [y];refine q _ ?_;clear q
  refine wN (q _ ?_);clear q
  cases h
  refine SWp.ret ?_
  simp [aC,iB,res103]
 ·refine SWp.cF' (b:=kind1 == 20) (by simp) hb5 ?_
  obtain ⟨v13,hj8,h⟩:=bS h
  refine SWp.seqC [1,2,7,12] [] (fun _:Unit=>⟨[(1,.t (vi at2)),(2,.t (vi kid3)),(7,.t (vi kind1)),(12,.t (vb v13))],[]⟩) (fun _=>True) (fun _ _=>?_) fun K9 hK9=>?_
  rotate_left
  ·refine SWp.sR rfl (u _ rfl) fun K q=>?_
   iterate 2 (refine wC rfl fun K q=>?_;simp [y];refine q _ ?_;clear q)
   refine wN (q _ ?_);clear q
   rcases aA hj8 with ⟨hb11,hj8⟩ | ⟨hb12,hj8⟩
   ·refine SWp.cT' (b:=kind1 == 16) (by simp) hb11 ?_
    refine SWp.skip ?_
    cases hj8
    exact hK9 _ () [] trivial (by simp [y])
   ·refine SWp.cF' (b:=kind1 == 16) (by simp) hb12 ?_
    refine SWp.reg rfl (u _ rfl) fun K q=>?_
    iterate 2 (refine wC rfl fun K q=>?_;simp [y];refine q _ ?_;clear q)
    refine wN (q _ ?_);clear q
    cases hj8
    exact hK9 _ () [] trivial (by simp [y])
  rcases aA h with ⟨hb14,h⟩ | ⟨hb15,h⟩
  ·refine SWp.cT' (b:=v13) (by simp) hb14 ?_
   refine SWp.sR rfl (u _ rfl) fun K q=>?_
   iterate 2 (refine wC rfl fun K q=>?_;simp [y];refine q _ ?_;clear q)
   refine wN (q _ ?_);clear q
   rcases aA h with ⟨hb16,h⟩ | ⟨hb17,h⟩
   ·refine SWp.cT' (b:=decide (at2 > 0)) (by simp) hb16 ?_
    refine SWp.sR rfl (u _ rfl) fun K q=>?_
    iterate 3 (refine wC rfl fun K q=>?_;simp [y];refine q _ ?_;clear q)
    refine wN (q _ ?_);clear q
    cases h
    refine SWp.ret ?_
    simp [aC,iB,res103]
   ·refine SWp.cF' (b:=decide (at2 > 0)) (by simp) hb17 ?_
    refine SWp.skip ?_
    show SWp E C _ _ _
    refine SWp.sR rfl (u _ rfl) fun K q=>?_
    refine wC rfl fun K q=>?_;simp [y];refine q _ ?_;clear q
    obtain ⟨r18,hc19,h⟩:=bS h
    refine wL [(.take,.tmp 23)] rfl rfl ent88 (jG _ hc19) fun K q=>?_;simp [y];refine q _ ?_;clear q
    refine wC rfl fun K q=>?_;simp [y];refine q _ ?_;clear q
    refine wN (q _ ?_);clear q
    cases h
    refine SWp.ret ?_
    simp [aC,iB,res103]
  ·refine SWp.cF' (b:=v13) (by simp) hb15 ?_
   refine SWp.sR rfl (u _ rfl) fun K q=>?_
   iterate 2 (refine wC rfl fun K q=>?_;simp [y];refine q _ ?_;clear q)
   refine wN (q _ ?_);clear q
   rcases aA h with ⟨hb20,h⟩ | ⟨hb21,h⟩
   ·refine SWp.cT' (b:=kind1 == 19) (by simp) hb20 ?_
    refine SWp.sR rfl (u _ rfl) fun K q=>?_
    iterate 3 (refine wC rfl fun K q=>?_;simp [y];refine q _ ?_;clear q)
    refine wN (q _ ?_);clear q
    cases h
    refine SWp.ret ?_
    simp [aC,iB,res103]
   ·refine SWp.cF' (b:=kind1 == 19) (by simp) hb21 ?_
    refine SWp.skip ?_
    show SWp E C _ _ _
    refine SWp.sR rfl (u _ rfl) fun K q=>?_
    refine wC rfl fun K q=>?_;simp [y];refine q _ ?_;clear q
    obtain ⟨r22,hc23,h⟩:=bS h
    refine wL [(.take,.tmp 23)] rfl rfl ent88 (jG _ hc23) fun K q=>?_;simp [y];refine q _ ?_;clear q
    refine wC rfl fun K q=>?_;simp [y];refine q _ ?_;clear q
    refine wN (q _ ?_);clear q
    cases h
    refine SWp.ret ?_
    simp [aC,iB,res103]
theorem res86:Tryz.f86.results.toList=[.tmp 4]:=rfl
theorem ent86:aF E.P 86:=eO Tryz.func86 (by simp [Tryz.f86]) rfl
theorem spec_NodeOk_ok (nodes1:List GNode) (k2:Int) {r0:Bool} (h:jZ nodes1 k2=some r0):Ok E 86 [.val (.sl false 4 (List.map (GNode.enc false) nodes1)),.val (vi k2)] [vb r0] []:=by
 refine oB (fn:=Tryz.f86) Tryz.func86 rfl (by simp [Tryz.f86]) fun C hN hP=>?_
 have hPB:∀ l,pinK [] l=true→pinB C.pin l=true:=pO (by rw [hP];rfl)
 have hN':C.N=124:=hN
 clear hN
 unfold jZ at h
 refine SWp.sR rfl (hPB _ rfl) fun K hK=>?_
 refine wC rfl fun K hK=>?_;simp [hN'];refine hK _ ?_;clear hK
 refine wN (hK _ ?_);clear hK
 refine SWp.seq ?_
 obtain ⟨v12,hj3,h⟩:=bS h
 refine SWp.seqRC rfl (hPB _ rfl) [0,1,24] [] (fun _:Unit=>⟨[(0,.t (.sl false 4 (List.map (GNode.enc false) nodes1))),(1,.t (vi k2)),(24,.t (vb v12))],[]⟩) (fun _=>True) (fun _ _=>?_) fun K4 hK4=>?_
 rotate_left
 ·refine wC rfl fun K hK=>?_;simp [hN'];refine hK _ ?_;clear hK
  iterate 3 (refine wC rfl fun K hK=>?_;simp [hN'];refine hK _ ?_;clear hK)
  obtain ⟨r5,hc6,hj3⟩:=bS hj3
  refine wL [(.take,.tmp 10),(.take,.const (.int .i64 0)),(.take,.tmp 13)] rfl rfl nB (aM _ _ _ hc6) fun K hK=>?_;simp [hN'];refine hK _ ?_;clear hK
  iterate 2 (refine wC rfl fun K hK=>?_;simp [hN'];refine hK _ ?_;clear hK)
  rcases aA hj3 with ⟨hb7,hj3⟩ | ⟨hb8,hj3⟩
  ·have hb7s:=hb7
   try simp at hb7s
   iterate 7 (refine wO fun K hK=>?_;simp [hN',hb7,hb7s];refine hK _ ?_;clear hK)
   refine wC rfl fun K hK=>?_;simp [hN',hb7,hb7s];refine hK _ ?_;clear hK
   refine wN ?_
   cases hj3
   exact hK4 _ () [] trivial (by simp [hN',hb7,hb7s])
  ·have hb8s:=hb8
   try simp at hb8s
   iterate 2 (refine wC rfl fun K hK=>?_;simp [hN',hb8,hb8s];refine hK _ ?_;clear hK)
   obtain ⟨e9,he9,hj3⟩:=bS hj3
   obtain ⟨he9a,he9b,he9c,he9d⟩:=gS he9
   iterate 3 (refine wC rfl fun K hK=>?_;simp [hN',hb8,hb8s,he9a,he9b,he9c,he9d];refine hK _ ?_;clear hK)
   obtain ⟨r10,hc11,hj3⟩:=bS hj3
   refine wL [(.take,.tmp 21),(.take,.const (.int .i64 1)),(.take,.const (.int .i64 20))] rfl rfl nB (aM _ _ _ hc11) fun K hK=>?_;simp [hN',hb8,hb8s,he9a,he9b,he9c,he9d];refine hK _ ?_;clear hK
   iterate 2 (refine wC rfl fun K hK=>?_;simp [hN',hb8,hb8s,he9a,he9b,he9c,he9d];refine hK _ ?_;clear hK)
   refine wN ?_
   cases hj3
   exact hK4 _ () [] trivial (by simp [hN',hb8,hb8s,he9a,he9b,he9c,he9d])
 rcases aA h with ⟨hb13,h⟩ | ⟨hb14,h⟩
 ·refine SWp.cT' (b:=v12) (by simp) hb13 ?_
  refine SWp.sR rfl (hPB _ rfl) fun K hK=>?_
  refine wC rfl fun K hK=>?_;simp [hN'];refine hK _ ?_;clear hK
  refine wN (hK _ ?_);clear hK
  cases h
  refine SWp.ret ?_
  simp [aC,iB,res86]
 ·refine SWp.cF' (b:=v12) (by simp) hb14 ?_
  refine SWp.skip ?_
  show SWp E C _ _ _
  refine SWp.sR rfl (hPB _ rfl) fun K hK=>?_
  iterate 2 (refine wC rfl fun K hK=>?_;simp [hN'];refine hK _ ?_;clear hK)
  obtain ⟨e15,he15,h⟩:=bS h
  obtain ⟨he15a,he15b,he15c,he15d⟩:=gS he15
  iterate 4 (refine wC rfl fun K hK=>?_;simp [hN',he15a,he15b,he15c,he15d];refine hK _ ?_;clear hK)
  refine wN (hK _ ?_);clear hK
  refine SWp.sR rfl (hPB _ rfl) fun K hK=>?_
  iterate 2 (refine wC rfl fun K hK=>?_;simp [hN'];refine hK _ ?_;clear hK)
  obtain ⟨⟨r16,r17⟩,hc18,h⟩:=bS h
  try dsimp only at h
  refine wL [(.take,.tmp 31)] rfl rfl ent101 (spec_l04Kids_ok _ hc18) fun K hK=>?_;simp [hN'];refine hK _ ?_;clear hK
  iterate 5 (refine wC rfl fun K hK=>?_;simp [hN'];refine hK _ ?_;clear hK)
  refine wN (hK _ ?_);clear hK
  refine SWp.seq ?_
  obtain ⟨v31,hj19,h⟩:=bS h
  refine SWp.seqRC rfl (hPB _ rfl) [0,1,5,57] [5] (fun _:Unit=>⟨[(0,.t (.sl false 4 (List.map (GNode.enc false) nodes1))),(1,.t (vi k2)),(5,.ref (.box 5) 0 []),(57,.t (vb v31))],[(5,[vi e15.Kind,vi e15.Num,vs e15.Name,.sl false 1 (List.map vi e15.Kids)])]⟩) (fun _=>True) (fun _ _=>?_) fun K20 hK20=>?_
  rotate_left
  ·refine wC rfl fun K hK=>?_;simp [hN'];refine hK _ ?_;clear hK
   iterate 4 (refine wC rfl fun K hK=>?_;simp [hN'];refine hK _ ?_;clear hK)
   obtain ⟨r21,hc22,hj19⟩:=bS hj19
   refine wL [(.take,.tmp 37),(.take,.tmp 38),(.take,.tmp 39)] rfl rfl nB (aM _ _ _ hc22) fun K hK=>?_;simp [hN'];refine hK _ ?_;clear hK
   iterate 2 (refine wC rfl fun K hK=>?_;simp [hN'];refine hK _ ?_;clear hK)
   rcases aA hj19 with ⟨hb23,hj19⟩ | ⟨hb24,hj19⟩
   ·have hb23s:=hb23
    try simp at hb23s
    iterate 4 (refine wO fun K hK=>?_;simp [hN',hb23,hb23s];refine hK _ ?_;clear hK)
    iterate 2 (refine wC rfl fun K hK=>?_;simp [hN',hb23,hb23s];refine hK _ ?_;clear hK)
    iterate 8 (refine wO fun K hK=>?_;simp [hN',hb23,hb23s];refine hK _ ?_;clear hK)
    refine wC rfl fun K hK=>?_;simp [hN',hb23,hb23s];refine hK _ ?_;clear hK
    refine wN ?_
    cases hj19
    exact hK20 _ () [] trivial (by simp [hN',hb23,hb23s])
   ·have hb24s:=hb24
    try simp at hb24s
    iterate 2 (refine wC rfl fun K hK=>?_;simp [hN',hb24,hb24s];refine hK _ ?_;clear hK)
    obtain ⟨r25,hc26,hj19⟩:=bS hj19
    refine wL [(.take,.tmp 44),(.take,.const (.int .i64 0)),(.take,.const (.int .i64 1000000000))] rfl rfl nB (aM _ _ _ hc26) fun K hK=>?_;simp [hN',hb24,hb24s];refine hK _ ?_;clear hK
    iterate 3 (refine wC rfl fun K hK=>?_;simp [hN',hb24,hb24s];refine hK _ ?_;clear hK)
    rcases aA hj19 with ⟨hb27,hj19⟩ | ⟨hb28,hj19⟩
    ·have hb27s:=hb27
     try simp at hb27s
     iterate 8 (refine wO fun K hK=>?_;simp [hN',hb24,hb24s,hb27,hb27s];refine hK _ ?_;clear hK)
     refine wC rfl fun K hK=>?_;simp [hN',hb24,hb24s,hb27,hb27s];refine hK _ ?_;clear hK
     refine wN ?_
     cases hj19
     exact hK20 _ () [] trivial (by simp [hN',hb24,hb24s,hb27,hb27s])
    ·have hb28s:=hb28
     try simp at hb28s
     iterate 4 (refine wC rfl fun K hK=>?_;simp [hN',hb24,hb24s,hb28,hb28s];refine hK _ ?_;clear hK)
     rcases aA hj19 with ⟨hb29,hj19⟩ | ⟨hb30,hj19⟩
     ·have hb29s:=hb29
      try simp at hb29s
      iterate 5 (refine wC rfl fun K hK=>?_;simp [hN',hb24,hb24s,hb28,hb28s,hb29,hb29s];refine hK _ ?_;clear hK)
      refine wN ?_
      cases hj19
      exact hK20 _ () [] trivial (by simp [hN',hb24,hb24s,hb28,hb28s,hb29,hb29s])
     ·have hb30s:=hb30
      try simp at hb30s
      iterate 3 (refine wO fun K hK=>?_;simp [hN',hb24,hb24s,hb28,hb28s,hb30,hb30s];refine hK _ ?_;clear hK)
      iterate 2 (refine wC rfl fun K hK=>?_;simp [hN',hb24,hb24s,hb28,hb28s,hb30,hb30s];refine hK _ ?_;clear hK)
      refine wN ?_
      cases hj19
      exact hK20 _ () [] trivial (by simp [hN',hb24,hb24s,hb28,hb28s,hb30,hb30s])
  rcases aA h with ⟨hb32,h⟩ | ⟨hb33,h⟩
  ·refine SWp.cT' (b:=v31) (by simp) hb32 ?_
   refine SWp.sR rfl (hPB _ rfl) fun K hK=>?_
   refine wC rfl fun K hK=>?_;simp [hN'];refine hK _ ?_;clear hK
   refine wN (hK _ ?_);clear hK
   cases h
   refine SWp.ret ?_
   simp [aC,iB,res86]
  ·refine SWp.cF' (b:=v31) (by simp) hb33 ?_
   refine SWp.skip ?_
   show SWp E C _ _ _
   refine SWp.seq ?_
   obtain ⟨v44,hj34,h⟩:=bS h
   refine SWp.seqC [0,1,5,75] [5] (fun _:Unit=>⟨[(0,.t (.sl false 4 (List.map (GNode.enc false) nodes1))),(1,.t (vi k2)),(5,.ref (.box 5) 0 []),(75,.t (vb v44))],[(5,[vi e15.Kind,vi e15.Num,vs e15.Name,.sl false 1 (List.map vi e15.Kids)])]⟩) (fun _=>True) (fun _ _=>?_) fun K35 hK35=>?_
   rotate_left
   ·obtain ⟨r36,hc37,hj34⟩:=bS hj34
    refine SWp.dT rfl (hPB _ rfl) [(58,.ref (.box 5) 0 []),(59,.t (vi e15.Kind)),(60,.t (vb r36)),(61,.ref (.box 5) 2 []),(62,.t (vs e15.Name)),(63,.t (vb (!(sEq e15.Name (⟨#[]⟩:ByteArray)))))] [[],[0],[0,1],[],[3],[3,4],[0,1,2,3,4,5],[0,1,2,3,4,5,6],[0,1,2,3,4,5,6,7],[0,1,2,3,4,5,6,7,8],[0,1,2,3,4,5,6,7,8,9],[0,1,2,3,4,5,6,7,8,9,10],[0,1,2,3,4,5,6,7,8,9,10,11],[0,1,2,3,4,5,6,7,8,9,10,11,12],[0,1,2,3,4,5,6,7,8,9,10,11,12,13],[0,1,2,3,4,5,6,7,8,9,10,11,12,13,14],[0,1,2,3,4,5,6,7,8,9,10,11,12,13,14,15],[0,1,2,3,4,5,6,7,8,9,10,11,12,13,14,15,16]] (by simp) (by simp) (by simp [look]) rfl rfl rfl ?_ fun K hK=>?_
    ·refine ⟨?_,?_,?_,?_,?_,?_,trivial⟩
     all_goals (intro τ hbx hb hd hf K hK;try simp [vsAt] at hd;simp [vsAt] at hf;first | (refine wC rfl fun K' hK'=>?_;simp [hN',hbx,hb,hd,hf];exact hK' _ (wN (hK _ (by simp [vsAt,hbx])))) | (refine wL [(.take,.tmp 59)] rfl rfl ent102 (spec_l04Named_ok _ hc37) fun K' hK'=>?_;simp [hN',hbx,hb,hd,hf];exact hK' _ (wN (hK _ (by simp [vsAt,hbx])))))
    iterate 2 (refine wC rfl fun K hK=>?_;simp [hN'];refine hK _ ?_;clear hK)
    rcases aA hj34 with ⟨hb38,hj34⟩ | ⟨hb39,hj34⟩
    ·have hb38s:=hb38
     try simp at hb38s
     iterate 9 (refine wO fun K hK=>?_;simp [hN',hb38,hb38s];refine hK _ ?_;clear hK)
     refine wC rfl fun K hK=>?_;simp [hN',hb38,hb38s];refine hK _ ?_;clear hK
     refine wN (hK _ ?_);clear hK
     cases hj34
     exact hK35 _ () [] trivial (by simp [hN',hb38,hb38s])
    ·have hb39s:=hb39
     try simp at hb39s
     iterate 4 (refine wC rfl fun K hK=>?_;simp [hN',hb39,hb39s];refine hK _ ?_;clear hK)
     rcases aA hj34 with ⟨hb40,hj34⟩ | ⟨hb41,hj34⟩
     ·have hb40s:=hb40
      try simp at hb40s
      iterate 2 (refine wC rfl fun K hK=>?_;simp [hN',hb39,hb39s,hb40,hb40s];refine hK _ ?_;clear hK)
      obtain ⟨r42,hc43,hj34⟩:=bS hj34
      refine wL [(.take,.tmp 71)] rfl rfl ent87 (kY _ hc43) fun K hK=>?_;simp [hN',hb39,hb39s,hb40,hb40s];refine hK _ ?_;clear hK
      iterate 3 (refine wC rfl fun K hK=>?_;simp [hN',hb39,hb39s,hb40,hb40s];refine hK _ ?_;clear hK)
      refine wN (hK _ ?_);clear hK
      cases hj34
      exact hK35 _ () [] trivial (by simp [hN',hb39,hb39s,hb40,hb40s])
     ·have hb41s:=hb41
      try simp at hb41s
      iterate 4 (refine wO fun K hK=>?_;simp [hN',hb39,hb39s,hb41,hb41s];refine hK _ ?_;clear hK)
      iterate 2 (refine wC rfl fun K hK=>?_;simp [hN',hb39,hb39s,hb41,hb41s];refine hK _ ?_;clear hK)
      refine wN (hK _ ?_);clear hK
      cases hj34
      exact hK35 _ () [] trivial (by simp [hN',hb39,hb39s,hb41,hb41s])
   rcases aA h with ⟨hb45,h⟩ | ⟨hb46,h⟩
   ·refine SWp.cT' (b:=v44) (by simp) hb45 ?_
    refine SWp.sR rfl (hPB _ rfl) fun K hK=>?_
    refine wC rfl fun K hK=>?_;simp [hN'];refine hK _ ?_;clear hK
    refine wN (hK _ ?_);clear hK
    cases h
    refine SWp.ret ?_
    simp [aC,iB,res86]
   ·refine SWp.cF' (b:=v44) (by simp) hb46 ?_
    refine SWp.skip ?_
    show SWp E C _ _ _
    obtain ⟨j49,hj47,h⟩:=bS h
    refine SWp.seqC [] [] (fun v:Unit=>⟨[],[]⟩) (fun v=>j49=Sum.inl v) (fun v hv=>?_) fun K48 hK48=>?_
    rotate_left
    ·refine SWp.sR rfl (hPB _ rfl) fun K hK=>?_
     refine wC rfl fun K hK=>?_;simp [hN'];refine hK _ ?_;clear hK
     refine wN (hK _ ?_);clear hK
     refine SWp.block ?_
     refine SWp.loopO [] [0,1,5,8] [5] (fun v:Int=>⟨[(0,.t (.sl false 4 (List.map (GNode.enc false) nodes1))),(1,.t (vi k2)),(5,.ref (.box 5) 0 []),(8,.t (vi v))],[(5,[vi e15.Kind,vi e15.Num,vs e15.Name,.sl false 1 (List.map vi e15.Kids)])]⟩) (eG nodes1 k2 e15) _ 0 hj47 (by simp [hN']) ?_
     intro g s53 h51 ho52
     obtain ⟨i50,hg⟩:∃ y,y=g:=⟨_,rfl⟩
     subst hg
     simp only [eG] at h51
     try dsimp only
     refine SWp.seq ?_
     refine SWp.sR rfl (hPB _ rfl) fun K hK=>?_
     iterate 5 (refine wC rfl fun K hK=>?_;simp [hN'];refine hK _ ?_;clear hK)
     refine wN (hK _ ?_);clear hK
     rcases aA h51 with ⟨hb54,h51⟩ | ⟨hb55,h51⟩
     ·refine SWp.cT' (b:=decide (i50 < (e15.Kids.length:Int))) (by simp) hb54 ?_
      refine SWp.skip ?_
      show SWp E C _ _ _
      obtain ⟨j58,hj56,h51⟩:=bS h51
      refine SWp.seqC [0,1,5,8] [5] (fun v:Unit=>⟨[(0,.t (.sl false 4 (List.map (GNode.enc false) nodes1))),(1,.t (vi k2)),(5,.ref (.box 5) 0 []),(8,.t (vi i50))],[(5,[vi e15.Kind,vi e15.Num,vs e15.Name,.sl false 1 (List.map vi e15.Kids)])]⟩) (fun v=>j58=Sum.inl v) (fun v hv=>?_) fun K57 hK57=>?_
      rotate_left
      ·refine SWp.block ?_
       refine SWp.seq ?_
       obtain ⟨v69,hj59,hj56⟩:=bS hj56
       refine SWp.seqC [0,1,5,8,107] [5] (fun _:Unit=>⟨[(0,.t (.sl false 4 (List.map (GNode.enc false) nodes1))),(1,.t (vi k2)),(5,.ref (.box 5) 0 []),(8,.t (vi i50)),(107,.t (vb v69))],[(5,[vi e15.Kind,vi e15.Num,vs e15.Name,.sl false 1 (List.map vi e15.Kids)])]⟩) (fun _=>True) (fun _ _=>?_) fun K60 hK60=>?_
       rotate_left
       ·obtain ⟨e61,he61,hj59⟩:=bS hj59
        obtain ⟨he61a,he61b,he61c,he61d⟩:=gS he61
        obtain ⟨r62,hc63,hj59⟩:=bS hj59
        rcases aA hj59 with ⟨hb64,hj59⟩ | ⟨hb65,hj59⟩
        ·have hb64s:=hb64
         try simp at hb64s
         refine SWp.dT rfl (hPB _ rfl) [(83,.ref (.box 5) 3 []),(84,.t (.sl false 1 (List.map vi e15.Kids))),(85,.t (vi i50)),(86,.rop [vi e61] 0),(87,.t (vi e61)),(88,.t (vi k2)),(89,.t (vi (IntKind.wrap .i64 (k2 - 1)))),(90,.t (vb r62)),(91,.t (vb (!r62))),(92,.t (vb (!r62))),(93,.tup []),(94,.tup []),(95,.tup []),(96,.tup []),(97,.tup []),(98,.tup []),(99,.tup []),(100,.tup []),(101,.tup []),(102,.tup []),(103,.tup []),(104,.tup [])] [[],[0],[],[0,1,2],[0,1,2,3],[],[5],[0,1,2,3,4,5,6],[0,1,2,3,4,5,6,7],[0,1,2,3,4,5,6,7,8],[0,1,2,3,4,5,6,7,8,9],[0,1,2,3,4,5,6,7,8,9,10],[0,1,2,3,4,5,6,7,8,9],[0,1,2,3,4,5,6,7,8,9],[0,1,2,3,4,5,6,7,8,9],[0,1,2,3,4,5,6,7,8,9,14],[0,1,2,3,4,5,6,7,8,9],[0,1,2,3,4,5,6,7,8,9,14,15,16],[0,1,2,3,4,5,6,7,8,9,14,15,16,17],[0,1,2,3,4,5,6,7,8,9,13,14,15,16,17,18],[0,1,2,3,4,5,6,7,8,9,13,14,15,16,17,18,19],[0,1,2,3,4,5,6,7,8,9,13,14,15,16,17,18,19,20],[0,1,2,3,4,5,6,7,8,9,10,11,12,13,14,15,16,17,18,19,20,21],[0,1,2,3,4,5,6,7,8,9,10,11,12,13,14,15,16,17,18,19,20,21,22],[0,1,2,3,4,5,6,7,8,9,10,11,12,13,14,15,16,17,18,19,20,21,22,23]] (by simp) (by simp) (by simp [look]) rfl rfl rfl ?_ fun K hK=>?_
         ·refine ⟨?_,?_,?_,?_,?_,?_,?_,?_,?_,?_,?_,?_,?_,?_,?_,?_,?_,?_,?_,?_,?_,?_,trivial⟩
          all_goals (intro τ hbx hb hd hf K hK;try simp [vsAt] at hd;simp [vsAt] at hf;first | (refine wC rfl fun K' hK'=>?_;simp [hN',hbx,hb,hd,hf,he61a,he61b,he61c,he61d,hb64,hb64s];exact hK' _ (wN (hK _ (by simp [vsAt,hbx,he61a,he61b,he61c,he61d,hb64,hb64s])))) | (refine wL [(.take,.tmp 87),(.take,.const (.int .i64 0)),(.take,.tmp 89)] rfl rfl nB (aM _ _ _ hc63) fun K' hK'=>?_;simp [hN',hbx,hb,hd,hf,he61a,he61b,he61c,he61d,hb64,hb64s];exact hK' _ (wN (hK _ (by simp [vsAt,hbx,he61a,he61b,he61c,he61d,hb64,hb64s])))) | (refine wO fun K' hK'=>?_;simp [hN',hbx,hb,hd,hf,he61a,he61b,he61c,he61d,hb64,hb64s];exact hK' _ (wN (hK _ (by simp [vsAt,hbx,he61a,he61b,he61c,he61d,hb64,hb64s])))))
         iterate 2 (refine wO fun K hK=>?_;simp [hN',he61a,he61b,he61c,he61d,hb64,hb64s];refine hK _ ?_;clear hK)
         refine wC rfl fun K hK=>?_;simp [hN',he61a,he61b,he61c,he61d,hb64,hb64s];refine hK _ ?_;clear hK
         refine wN (hK _ ?_);clear hK
         cases hj59
         exact hK60 _ () [] trivial (by simp [hN',he61a,he61b,he61c,he61d,hb64,hb64s])
        ·have hb65s:=hb65
         try simp at hb65s
         obtain ⟨e66,he66,hj59⟩:=bS hj59
         obtain ⟨he66a,he66b,he66c,he66d⟩:=gS he66
         refine SWp.dT rfl (hPB _ rfl) [(83,.ref (.box 5) 3 []),(84,.t (.sl false 1 (List.map vi e15.Kids))),(85,.t (vi i50)),(86,.rop [vi e61] 0),(87,.t (vi e61)),(88,.t (vi k2)),(89,.t (vi (IntKind.wrap .i64 (k2 - 1)))),(90,.t (vb r62)),(91,.t (vb (!r62))),(92,.t (vb (!r62))),(93,.ref (.box 5) 0 []),(94,.t (vi e15.Kind)),(95,.t (vi i50)),(96,.t (.sl false 4 (List.map (GNode.enc false) nodes1))),(97,.ref (.box 5) 3 []),(98,.t (.sl false 1 (List.map vi e15.Kids))),(99,.t (vi i50)),(100,.rop [vi e61] 0),(101,.t (vi e61)),(102,.rop [vi e66.Kind,vi e66.Num,vs e66.Name,.sl false 1 (List.map vi e66.Kids)] 0),(103,.rop [vi e66.Kind,vi e66.Num,vs e66.Name,.sl false 1 (List.map vi e66.Kids)] 0),(104,.t (vi e66.Kind))] [[],[0],[],[0,1,2],[0,1,2,3],[],[5],[0,1,2,3,4,5,6],[0,1,2,3,4,5,6,7],[0,1,2,3,4,5,6,7,8],[0,1,2,3,4,5,6,7,8,9],[0,1,2,3,4,5,6,7,8,9,10],[0,1,2,3,4,5,6,7,8,9],[0,1,2,3,4,5,6,7,8,9],[0,1,2,3,4,5,6,7,8,9],[0,1,2,3,4,5,6,7,8,9,14],[0,1,2,3,4,5,6,7,8,9],[0,1,2,3,4,5,6,7,8,9,14,15,16],[0,1,2,3,4,5,6,7,8,9,14,15,16,17],[0,1,2,3,4,5,6,7,8,9,13,14,15,16,17,18],[0,1,2,3,4,5,6,7,8,9,13,14,15,16,17,18,19],[0,1,2,3,4,5,6,7,8,9,13,14,15,16,17,18,19,20],[0,1,2,3,4,5,6,7,8,9,10,11,12,13,14,15,16,17,18,19,20,21],[0,1,2,3,4,5,6,7,8,9,10,11,12,13,14,15,16,17,18,19,20,21,22],[0,1,2,3,4,5,6,7,8,9,10,11,12,13,14,15,16,17,18,19,20,21,22,23]] (by simp) (by simp) (by simp [look]) rfl rfl rfl ?_ fun K hK=>?_
         ·refine ⟨?_,?_,?_,?_,?_,?_,?_,?_,?_,?_,?_,?_,?_,?_,?_,?_,?_,?_,?_,?_,?_,?_,trivial⟩
          all_goals (intro τ hbx hb hd hf K hK;try simp [vsAt] at hd;simp [vsAt] at hf;first | (refine wC rfl fun K' hK'=>?_;simp [hN',hbx,hb,hd,hf,he61a,he61b,he61c,he61d,hb65,hb65s,he66a,he66b,he66c,he66d];exact hK' _ (wN (hK _ (by simp [vsAt,hbx,he61a,he61b,he61c,he61d,hb65,hb65s,he66a,he66b,he66c,he66d])))) | (refine wL [(.take,.tmp 87),(.take,.const (.int .i64 0)),(.take,.tmp 89)] rfl rfl nB (aM _ _ _ hc63) fun K' hK'=>?_;simp [hN',hbx,hb,hd,hf,he61a,he61b,he61c,he61d,hb65,hb65s,he66a,he66b,he66c,he66d];exact hK' _ (wN (hK _ (by simp [vsAt,hbx,he61a,he61b,he61c,he61d,hb65,hb65s,he66a,he66b,he66c,he66d])))))
         obtain ⟨r67,hc68,hj59⟩:=bS hj59
         refine wL [(.take,.tmp 94),(.take,.tmp 95),(.take,.tmp 104)] rfl rfl ent103 (spec_l04Fits_ok _ _ _ hc68) fun K hK=>?_;simp [hN',he61a,he61b,he61c,he61d,hb65,hb65s,he66a,he66b,he66c,he66d];refine hK _ ?_;clear hK
         iterate 2 (refine wC rfl fun K hK=>?_;simp [hN',he61a,he61b,he61c,he61d,hb65,hb65s,he66a,he66b,he66c,he66d];refine hK _ ?_;clear hK)
         refine wN (hK _ ?_);clear hK
         cases hj59
         exact hK60 _ () [] trivial (by simp [hN',he61a,he61b,he61c,he61d,hb65,hb65s,he66a,he66b,he66c,he66d])
       rcases aA hj56 with ⟨hb70,hj56⟩ | ⟨hb71,hj56⟩
       ·refine SWp.cT' (b:=v69) (by simp) hb70 ?_
        refine SWp.sR rfl (hPB _ rfl) fun K hK=>?_
        refine wC rfl fun K hK=>?_;simp [hN'];refine hK _ ?_;clear hK
        refine wN (hK _ ?_);clear hK
        cases hj56
        try dsimp only at h51
        have h72:=congrArg some (ho52 _ (Option.some.inj h51).symm)
        cases h72
        try dsimp only at h
        cases h
        refine SWp.ret ?_
        simp [aC,iB,res86]
       ·refine SWp.cF' (b:=v69) (by simp) hb71 ?_
        refine SWp.skip ?_
        show SWp E C _ _ _
        refine SWp.sR rfl (hPB _ rfl) fun K hK=>?_
        refine wC rfl fun K hK=>?_;simp [hN'];refine hK _ ?_;clear hK
        refine wN (hK _ ?_);clear hK
        refine SWp.block ?_
        refine SWp.loopO [] [0,1,5,8,9] [5] (fun v:Int=>⟨[(0,.t (.sl false 4 (List.map (GNode.enc false) nodes1))),(1,.t (vi k2)),(5,.ref (.box 5) 0 []),(8,.t (vi i50)),(9,.t (vi v))],[(5,[vi e15.Kind,vi e15.Num,vs e15.Name,.sl false 1 (List.map vi e15.Kids)])]⟩) (eF e15 i50) _ 0 hj56 (by simp [hN']) ?_
        intro g s76 h74 ho75
        obtain ⟨j73,hg⟩:∃ y,y=g:=⟨_,rfl⟩
        subst hg
        simp only [eF] at h74
        try dsimp only
        refine SWp.seq ?_
        refine SWp.sR rfl (hPB _ rfl) fun K hK=>?_
        iterate 3 (refine wC rfl fun K hK=>?_;simp [hN'];refine hK _ ?_;clear hK)
        refine wN (hK _ ?_);clear hK
        rcases aA h74 with ⟨hb77,h74⟩ | ⟨hb78,h74⟩
        ·refine SWp.cT' (b:=decide (j73 < i50)) (by simp) hb77 ?_
         refine SWp.skip ?_
         show SWp E C _ _ _
         refine SWp.seq ?_
         refine SWp.block ?_
         refine SWp.seq ?_
         obtain ⟨e80,he80,h74⟩:=bS h74
         obtain ⟨he80a,he80b,he80c,he80d⟩:=gS he80
         obtain ⟨e81,he81,h74⟩:=bS h74
         obtain ⟨he81a,he81b,he81c,he81d⟩:=gS he81
         refine SWp.dT rfl (hPB _ rfl) [(113,.ref (.box 5) 3 []),(114,.t (.sl false 1 (List.map vi e15.Kids))),(115,.t (vi i50)),(116,.rop [vi e80] 0),(117,.t (vi e80)),(118,.ref (.box 5) 3 []),(119,.t (.sl false 1 (List.map vi e15.Kids))),(120,.t (vi j73)),(121,.rop [vi e81] 0),(122,.t (vi e81))] [[],[0],[],[0,1,2],[0,1,2,3],[],[5],[],[5,6,7],[5,6,7,8],[0,1,2,3,4,5,6,7,8,9]] (by simp) (by simp) (by simp [look]) rfl rfl rfl ?_ fun K hK=>?_
         ·refine ⟨?_,?_,?_,?_,?_,?_,?_,?_,?_,?_,trivial⟩
          all_goals (intro τ hbx hb hd hf K hK;try simp [vsAt] at hd;simp [vsAt] at hf;first | (refine wC rfl fun K' hK'=>?_;simp [hN',hbx,hb,hd,hf,he80a,he80b,he80c,he80d,he81a,he81b,he81c,he81d];exact hK' _ (wN (hK _ (by simp [vsAt,hbx,he80a,he80b,he80c,he80d,he81a,he81b,he81c,he81d])))))
         refine wC rfl fun K hK=>?_;simp [hN',he80a,he80b,he80c,he80d,he81a,he81b,he81c,he81d];refine hK _ ?_;clear hK
         refine wN (hK _ ?_);clear hK
         show SWp E C _ _ _
         rcases aA h74 with ⟨hb82,h74⟩ | ⟨hb83,h74⟩
         ·refine SWp.cT' (b:=e80 == e81) (by simp) hb82 ?_
          refine SWp.sR rfl (hPB _ rfl) fun K hK=>?_
          refine wC rfl fun K hK=>?_;simp [hN'];refine hK _ ?_;clear hK
          refine wN (hK _ ?_);clear hK
          have h84:=congrArg some (ho75 _ (Option.some.inj h74).symm)
          cases h84
          try dsimp only at h51
          have h85:=congrArg some (ho52 _ (Option.some.inj h51).symm)
          cases h85
          try dsimp only at h
          cases h
          refine SWp.ret ?_
          simp [aC,iB,res86]
         ·refine SWp.cF' (b:=e80 == e81) (by simp) hb83 ?_
          refine SWp.skip ?_
          show SWp E C _ _ _
          refine SWp.reg rfl (hPB _ rfl) fun K hK=>?_
          iterate 3 (refine wC rfl fun K hK=>?_;simp [hN'];refine hK _ ?_;clear hK)
          refine wN (hK _ ?_);clear hK
          cases h74
          exact ⟨_,[],rfl,by simp [hN']⟩
        ·refine SWp.cF' (b:=decide (j73 < i50)) (by simp) hb78 ?_
         refine SWp.exit ?_
         have h86:=congrArg some (ho75 _ (Option.some.inj h74).symm)
         cases h86
         exact hK57 _ _ [] rfl (by simp [hN'])
      subst hv
      obtain ⟨⟩:=v
      try dsimp only at h51 ⊢
      refine SWp.reg rfl (hPB _ rfl) fun K hK=>?_
      iterate 3 (refine wC rfl fun K hK=>?_;simp [hN'];refine hK _ ?_;clear hK)
      refine wN (hK _ ?_);clear hK
      cases h51
      exact ⟨_,[],rfl,by simp [hN']⟩
     ·refine SWp.cF' (b:=decide (i50 < (e15.Kids.length:Int))) (by simp) hb55 ?_
      refine SWp.exit ?_
      have h87:=congrArg some (ho52 _ (Option.some.inj h51).symm)
      cases h87
      exact hK48 _ _ [] rfl (by simp [hN'])
    subst hv
    obtain ⟨⟩:=v
    try dsimp only at h ⊢
    refine SWp.sR rfl (hPB _ rfl) fun K hK=>?_
    refine wC rfl fun K hK=>?_;simp [hN'];refine hK _ ?_;clear hK
    refine wN (hK _ ?_);clear hK
    cases h
    refine SWp.ret ?_
    simp [aC,iB,res86]
theorem res54:Tryz.f54.results.toList=[.tmp 4]:=rfl
theorem ent54:aF E.P 54:=eO Tryz.func54 (by simp [Tryz.f54]) rfl
theorem mQ (nodes1:List GNode) (k2:Int) {r0:List Int} (h:fD nodes1 k2=some r0):Ok E 54 [.val (.sl false 4 (List.map (GNode.enc false) nodes1)),.val (vi k2)] [.sl true 1 (List.map vi r0)] []:=by
 refine oB (fn:=Tryz.f54) Tryz.func54 rfl (by simp [Tryz.f54]) fun C hN hP=>?_
 have u:∀ l,pinK [] l=true→pinB C.pin l=true:=pO (by rw [hP];rfl)
 have y:C.N=84:=hN
 clear hN
 unfold fD at h
 refine SWp.sR rfl (u _ rfl) fun K q=>?_
 refine wC rfl fun K q=>?_;simp [y];refine q _ ?_;clear q
 refine wN (q _ ?_);clear q
 refine SWp.sR rfl (u _ rfl) fun K q=>?_
 iterate 2 (refine wC rfl fun K q=>?_;simp [y];refine q _ ?_;clear q)
 refine wN (q _ ?_);clear q
 obtain ⟨out72,hj3,h⟩:=bS h
 refine SWp.seqC [5] [] (fun _:Unit=>⟨[(5,.t (.sl true 1 (List.map vi out72)))],[]⟩) (fun _=>True) (fun _ _=>?_) fun K4 hK4=>?_
 rotate_left
 ·refine SWp.sR rfl (u _ rfl) fun K q=>?_
  refine wC rfl fun K q=>?_;simp [y];refine q _ ?_;clear q
  refine wN (q _ ?_);clear q
  refine SWp.block ?_
  refine SWp.loopO [] [0,1,5,6] [] (fun v:(List Int) × Int=>⟨[(0,.t (.sl false 4 (List.map (GNode.enc false) nodes1))),(1,.t (vi k2)),(5,.t (.sl true 1 (List.map vi v.1))),(6,.t (vi v.2))],[]⟩) (cM nodes1 k2) _ ([],0) hj3 (by simp [y]) ?_
  intro g s10 h8 ho9
  obtain ⟨out6,i7⟩:=g
  simp only [cM] at h8
  try dsimp only
  refine SWp.seq ?_
  obtain ⟨v15,hj11,h8⟩:=bS h8
  refine SWp.seqRC rfl (u _ rfl) [0,1,5,6,18] [] (fun _:Unit=>⟨[(0,.t (.sl false 4 (List.map (GNode.enc false) nodes1))),(1,.t (vi k2)),(5,.t (.sl true 1 (List.map vi out6))),(6,.t (vi i7)),(18,.t (vb v15))],[]⟩) (fun _=>True) (fun _ _=>?_) fun K12 hK12=>?_
  rotate_left
  ·refine wC rfl fun K q=>?_;simp [y];refine q _ ?_;clear q
   iterate 3 (refine wC rfl fun K q=>?_;simp [y];refine q _ ?_;clear q)
   rcases aA hj11 with ⟨hb13,hj11⟩ | ⟨hb14,hj11⟩
   ·have hb13s:=hb13
    try simp at hb13s
    iterate 5 (refine wC rfl fun K q=>?_;simp [y,hb13,hb13s];refine q _ ?_;clear q)
    refine wN ?_
    cases hj11
    exact hK12 _ () [] trivial (by simp [y,hb13,hb13s])
   ·have hb14s:=hb14
    try simp at hb14s
    iterate 4 (refine wO fun K q=>?_;simp [y,hb14,hb14s];refine q _ ?_;clear q)
    refine wC rfl fun K q=>?_;simp [y,hb14,hb14s];refine q _ ?_;clear q
    refine wN ?_
    cases hj11
    exact hK12 _ () [] trivial (by simp [y,hb14,hb14s])
  rcases aA h8 with ⟨hb16,h8⟩ | ⟨hb17,h8⟩
  ·refine SWp.cT' (b:=v15) (by simp) hb16 ?_
   refine SWp.skip ?_
   show SWp E C _ _ _
   obtain ⟨out70,hj18,h8⟩:=bS h8
   refine SWp.seqC [0,1,5,6] [] (fun _:Unit=>⟨[(0,.t (.sl false 4 (List.map (GNode.enc false) nodes1))),(1,.t (vi k2)),(5,.t (.sl true 1 (List.map vi out70))),(6,.t (vi i7))],[]⟩) (fun _=>True) (fun _ _=>?_) fun K19 hK19=>?_
   rotate_left
   ·refine SWp.block ?_
    refine SWp.sR rfl (u _ rfl) fun K q=>?_
    refine wC rfl fun K q=>?_;simp [y];refine q _ ?_;clear q
    refine wN (q _ ?_);clear q
    obtain ⟨deep36,hj21,hj18⟩:=bS hj18
    refine SWp.seqC [0,1,5,6,7] [] (fun _:Unit=>⟨[(0,.t (.sl false 4 (List.map (GNode.enc false) nodes1))),(1,.t (vi k2)),(5,.t (.sl true 1 (List.map vi out6))),(6,.t (vi i7)),(7,.t (vi deep36))],[]⟩) (fun _=>True) (fun _ _=>?_) fun K22 hK22=>?_
    rotate_left
    ·obtain ⟨v33,hj24,hj21⟩:=bS hj21
     refine SWp.seqRC rfl (u _ rfl) [0,1,5,6,7,36] [] (fun _:Unit=>⟨[(0,.t (.sl false 4 (List.map (GNode.enc false) nodes1))),(1,.t (vi k2)),(5,.t (.sl true 1 (List.map vi out6))),(6,.t (vi i7)),(7,.t (vi 1)),(36,.t (vb v33))],[]⟩) (fun _=>True) (fun _ _=>?_) fun K25 hK25=>?_
     rotate_left
     ·refine wC rfl fun K q=>?_;simp [y];refine q _ ?_;clear q
      refine wC rfl fun K q=>?_;simp [y];refine q _ ?_;clear q
      obtain ⟨r26,hc27,hj24⟩:=bS hj24
      refine wL [(.take,.tmp 21),(.take,.tmp 22)] rfl rfl ent86 (spec_NodeOk_ok _ _ hc27) fun K q=>?_;simp [y];refine q _ ?_;clear q
      iterate 2 (refine wC rfl fun K q=>?_;simp [y];refine q _ ?_;clear q)
      rcases aA hj24 with ⟨hb28,hj24⟩ | ⟨hb29,hj24⟩
      ·have hb28s:=hb28
       try simp at hb28s
       iterate 10 (refine wO fun K q=>?_;simp [y,hb28,hb28s];refine q _ ?_;clear q)
       refine wC rfl fun K q=>?_;simp [y,hb28,hb28s];refine q _ ?_;clear q
       refine wN ?_
       cases hj24
       exact hK25 _ () [] trivial (by simp [y,hb28,hb28s])
      ·have hb29s:=hb29
       try simp at hb29s
       iterate 3 (refine wC rfl fun K q=>?_;simp [y,hb29,hb29s];refine q _ ?_;clear q)
       rcases aA hj24 with ⟨hb30,hj24⟩ | ⟨hb31,hj24⟩
       ·have hb30s:=hb30
        try simp at hb30s
        iterate 3 (refine wC rfl fun K q=>?_;simp [y,hb29,hb29s,hb30,hb30s];refine q _ ?_;clear q)
        obtain ⟨e32,he32,hj24⟩:=bS hj24
        obtain ⟨he32a,he32b,he32c,he32d⟩:=gS he32
        have he32j:=he32b;try simp at he32j
        try simp only [Int.toNat_natCast] at he32c he32d
        iterate 5 (refine wC rfl fun K q=>?_;simp [y,hb29,hb29s,hb30,hb30s,he32a,he32b,he32c,he32d,he32j];refine q _ ?_;clear q)
        refine wN ?_
        cases hj24
        exact hK25 _ () [] trivial (by simp [y,hb29,hb29s,hb30,hb30s,he32a,he32b,he32c,he32d,he32j])
       ·have hb31s:=hb31
        try simp at hb31s
        iterate 6 (refine wO fun K q=>?_;simp [y,hb29,hb29s,hb31,hb31s];refine q _ ?_;clear q)
        iterate 2 (refine wC rfl fun K q=>?_;simp [y,hb29,hb29s,hb31,hb31s];refine q _ ?_;clear q)
        refine wN ?_
        cases hj24
        exact hK25 _ () [] trivial (by simp [y,hb29,hb29s,hb31,hb31s])
     rcases aA hj21 with ⟨hb34,hj21⟩ | ⟨hb35,hj21⟩
     ·refine SWp.cT' (b:=v33) (by simp) hb34 ?_
      refine SWp.reg rfl (u _ rfl) fun K q=>?_
      refine wC rfl fun K q=>?_;simp [y];refine q _ ?_;clear q
      refine wN (q _ ?_);clear q
      cases hj21
      exact hK22 _ () [] trivial (by simp [y])
     ·refine SWp.cF' (b:=v33) (by simp) hb35 ?_
      refine SWp.skip ?_
      cases hj21
      exact hK22 _ () [] trivial (by simp [y])
    obtain ⟨deep62,hj37,hj18⟩:=bS hj18
    refine SWp.seqC [0,1,5,6,7] [] (fun _:Unit=>⟨[(0,.t (.sl false 4 (List.map (GNode.enc false) nodes1))),(1,.t (vi k2)),(5,.t (.sl true 1 (List.map vi out6))),(6,.t (vi i7)),(7,.t (vi deep62))],[]⟩) (fun _=>True) (fun _ _=>?_) fun K38 hK38=>?_
    rotate_left
    ·refine SWp.sR rfl (u _ rfl) fun K q=>?_
     refine wC rfl fun K q=>?_;simp [y];refine q _ ?_;clear q
     refine wN (q _ ?_);clear q
     refine SWp.block ?_
     refine SWp.loopO [] [0,1,5,6,7,8] [] (fun v:Int × Int=>⟨[(0,.t (.sl false 4 (List.map (GNode.enc false) nodes1))),(1,.t (vi k2)),(5,.t (.sl true 1 (List.map vi out6))),(6,.t (vi i7)),(7,.t (vi v.1)),(8,.t (vi v.2))],[]⟩) (aY nodes1 out6 i7) _ (deep36,0) hj37 (by simp [y]) ?_
     intro g s44 h42 ho43
     obtain ⟨deep40,j41⟩:=g
     simp only [aY] at h42
     try dsimp only
     refine SWp.seq ?_
     obtain ⟨v50,hj45,h42⟩:=bS h42
     refine SWp.seqRC rfl (u _ rfl) [0,1,5,6,7,8,48] [] (fun _:Unit=>⟨[(0,.t (.sl false 4 (List.map (GNode.enc false) nodes1))),(1,.t (vi k2)),(5,.t (.sl true 1 (List.map vi out6))),(6,.t (vi i7)),(7,.t (vi deep40)),(8,.t (vi j41)),(48,.t (vb v50))],[]⟩) (fun _=>True) (fun _ _=>?_) fun K46 hK46=>?_
     rotate_left
     ·refine wC rfl fun K q=>?_;simp [y];refine q _ ?_;clear q
      iterate 2 (refine wC rfl fun K q=>?_;simp [y];refine q _ ?_;clear q)
      rcases aA hj45 with ⟨hb47,hj45⟩ | ⟨hb48,hj45⟩
      ·have hb47s:=hb47
       try simp at hb47s
       iterate 3 (refine wC rfl fun K q=>?_;simp [y,hb47,hb47s];refine q _ ?_;clear q)
       obtain ⟨e49,he49,hj45⟩:=bS hj45
       obtain ⟨he49a,he49b,he49c,he49d⟩:=gS he49
       iterate 6 (refine wC rfl fun K q=>?_;simp [y,hb47,hb47s,he49a,he49b,he49c,he49d];refine q _ ?_;clear q)
       refine wN ?_
       cases hj45
       exact hK46 _ () [] trivial (by simp [y,hb47,hb47s,he49a,he49b,he49c,he49d])
      ·have hb48s:=hb48
       try simp at hb48s
       iterate 8 (refine wO fun K q=>?_;simp [y,hb48,hb48s];refine q _ ?_;clear q)
       refine wC rfl fun K q=>?_;simp [y,hb48,hb48s];refine q _ ?_;clear q
       refine wN ?_
       cases hj45
       exact hK46 _ () [] trivial (by simp [y,hb48,hb48s])
     rcases aA h42 with ⟨hb51,h42⟩ | ⟨hb52,h42⟩
     ·refine SWp.cT' (b:=v50) (by simp) hb51 ?_
      refine SWp.skip ?_
      show SWp E C _ _ _
      refine SWp.seq ?_
      refine SWp.block ?_
      refine SWp.sR rfl (u _ rfl) fun K q=>?_
      iterate 3 (refine wC rfl fun K q=>?_;simp [y];refine q _ ?_;clear q)
      obtain ⟨e53,he53,h42⟩:=bS h42
      obtain ⟨he53a,he53b,he53c,he53d⟩:=gS he53
      iterate 4 (refine wC rfl fun K q=>?_;simp [y,he53a,he53b,he53c,he53d];refine q _ ?_;clear q)
      obtain ⟨e54,he54,h42⟩:=bS h42
      obtain ⟨he54a,he54b,he54c,he54d⟩:=gS he54
      iterate 2 (refine wC rfl fun K q=>?_;simp [y,he53a,he53b,he53c,he53d,he54a,he54b,he54c,he54d];refine q _ ?_;clear q)
      obtain ⟨e55,he55,h42⟩:=bS h42
      obtain ⟨he55a,he55b,he55c,he55d⟩:=gS he55
      iterate 5 (refine wC rfl fun K q=>?_;simp [y,he53a,he53b,he53c,he53d,he54a,he54b,he54c,he54d,he55a,he55b,he55c,he55d];refine q _ ?_;clear q)
      refine wN (q _ ?_);clear q
      rcases aA h42 with ⟨hb56,h42⟩ | ⟨hb57,h42⟩
      ·refine SWp.cT' (b:=decide (IntKind.wrap .i64 (e55 + 1) > deep40)) (by simp) hb56 ?_
       refine SWp.reg rfl (u _ rfl) fun K q=>?_
       iterate 3 (refine wC rfl fun K q=>?_;simp [y];refine q _ ?_;clear q)
       obtain ⟨e58,he58,h42⟩:=bS h42
       obtain ⟨he58a,he58b,he58c,he58d⟩:=gS he58
       iterate 4 (refine wC rfl fun K q=>?_;simp [y,he58a,he58b,he58c,he58d];refine q _ ?_;clear q)
       obtain ⟨e59,he59,h42⟩:=bS h42
       obtain ⟨he59a,he59b,he59c,he59d⟩:=gS he59
       iterate 2 (refine wC rfl fun K q=>?_;simp [y,he58a,he58b,he58c,he58d,he59a,he59b,he59c,he59d];refine q _ ?_;clear q)
       obtain ⟨e60,he60,h42⟩:=bS h42
       obtain ⟨he60a,he60b,he60c,he60d⟩:=gS he60
       iterate 4 (refine wC rfl fun K q=>?_;simp [y,he58a,he58b,he58c,he58d,he59a,he59b,he59c,he59d,he60a,he60b,he60c,he60d];refine q _ ?_;clear q)
       refine wN (q _ ?_);clear q
       show SWp E C _ _ _
       refine SWp.reg rfl (u _ rfl) fun K q=>?_
       iterate 3 (refine wC rfl fun K q=>?_;simp [y];refine q _ ?_;clear q)
       refine wN (q _ ?_);clear q
       cases h42
       exact ⟨_,[],rfl,by simp [y]⟩
      ·refine SWp.cF' (b:=decide (IntKind.wrap .i64 (e55 + 1) > deep40)) (by simp) hb57 ?_
       refine SWp.skip ?_
       show SWp E C _ _ _
       refine SWp.reg rfl (u _ rfl) fun K q=>?_
       iterate 3 (refine wC rfl fun K q=>?_;simp [y];refine q _ ?_;clear q)
       refine wN (q _ ?_);clear q
       cases h42
       exact ⟨_,[],rfl,by simp [y]⟩
     ·refine SWp.cF' (b:=v50) (by simp) hb52 ?_
      refine SWp.exit ?_
      have h61:=congrArg some (ho43 _ (Option.some.inj h42).symm)
      cases h61
      exact hK38 _ () [] trivial (by simp [y])
    obtain ⟨deep68,hj63,hj18⟩:=bS hj18
    refine SWp.seqC [0,1,5,6,7] [] (fun _:Unit=>⟨[(0,.t (.sl false 4 (List.map (GNode.enc false) nodes1))),(1,.t (vi k2)),(5,.t (.sl true 1 (List.map vi out6))),(6,.t (vi i7)),(7,.t (vi deep68))],[]⟩) (fun _=>True) (fun _ _=>?_) fun K64 hK64=>?_
    rotate_left
    ·refine SWp.sR rfl (u _ rfl) fun K q=>?_
     iterate 2 (refine wC rfl fun K q=>?_;simp [y];refine q _ ?_;clear q)
     refine wN (q _ ?_);clear q
     rcases aA hj63 with ⟨hb66,hj63⟩ | ⟨hb67,hj63⟩
     ·refine SWp.cT' (b:=decide (deep62 > 10)) (by simp) hb66 ?_
      refine SWp.reg rfl (u _ rfl) fun K q=>?_
      refine wC rfl fun K q=>?_;simp [y];refine q _ ?_;clear q
      refine wN (q _ ?_);clear q
      cases hj63
      exact hK64 _ () [] trivial (by simp [y])
     ·refine SWp.cF' (b:=decide (deep62 > 10)) (by simp) hb67 ?_
      refine SWp.skip ?_
      cases hj63
      exact hK64 _ () [] trivial (by simp [y])
    refine SWp.reg rfl (u _ rfl) fun K q=>?_
    iterate 3 (refine wC rfl fun K q=>?_;simp [y];refine q _ ?_;clear q)
    obtain ⟨l69,hl69,hj18⟩:=bS hj18
    obtain ⟨hl69a,hl69b,hl69d⟩:=aS hl69
    have hl69f:List.map vi out6 ++ List.map vi [deep68]=List.map vi l69:=dV (f:=vi) hl69d
    simp [eSl] at hl69a hl69b hl69f
    iterate 2 (refine wC rfl fun K q=>?_;simp [y,hl69a,hl69b,hl69f];refine q _ ?_;clear q)
    refine wN (q _ ?_);clear q
    cases hj18
    exact hK19 _ () [] trivial (by simp [y])
   refine SWp.reg rfl (u _ rfl) fun K q=>?_
   iterate 3 (refine wC rfl fun K q=>?_;simp [y];refine q _ ?_;clear q)
   refine wN (q _ ?_);clear q
   cases h8
   exact ⟨_,[],rfl,by simp [y]⟩
  ·refine SWp.cF' (b:=v15) (by simp) hb17 ?_
   refine SWp.exit ?_
   have h71:=congrArg some (ho9 _ (Option.some.inj h8).symm)
   cases h71
   exact hK4 _ () [] trivial (by simp [y])
 refine SWp.sR rfl (u _ rfl) fun K q=>?_
 iterate 2 (refine wC rfl fun K q=>?_;simp [y];refine q _ ?_;clear q)
 refine wN (q _ ?_);clear q
 cases h
 refine SWp.ret ?_
 simp [aC,iB,res54]
theorem res55:Tryz.f55.results.toList=[.tmp 2]:=rfl
theorem ent55:aF E.P 55:=eO Tryz.func55 (by simp [Tryz.f55]) rfl
theorem spec_l04Used_ok (nodes1:List GNode) {r0:List Int} (h:iG nodes1=some r0):Ok E 55 [.val (.sl false 4 (List.map (GNode.enc false) nodes1))] [.sl true 1 (List.map vi r0)] []:=by
 refine oB (fn:=Tryz.f55) Tryz.func55 rfl (by simp [Tryz.f55]) fun C hN hP=>?_
 have u:∀ l,pinK [] l=true→pinB C.pin l=true:=pO (by rw [hP];rfl)
 have y:C.N=39:=hN
 clear hN
 unfold iG at h
 refine SWp.sR rfl (u _ rfl) fun K q=>?_
 refine wC rfl fun K q=>?_;simp [y];refine q _ ?_;clear q
 refine wN (q _ ?_);clear q
 refine SWp.sR rfl (u _ rfl) fun K q=>?_
 iterate 2 (refine wC rfl fun K q=>?_;simp [y];refine q _ ?_;clear q)
 obtain ⟨l2,hl2,h⟩:=bS h
 obtain ⟨hl2a,hl2b,hl2c,hl2d⟩:=mS hl2
 have hl2f:List.replicate (nodes1.length:Int).toNat (vi 0)=List.map vi l2:=nN (f:=vi) hl2d
 try simp only [Int.toNat_natCast] at hl2f
 iterate 2 (refine wC rfl fun K q=>?_;simp [y,hl2a,hl2b,hl2c,hl2f];refine q _ ?_;clear q)
 refine wN (q _ ?_);clear q
 obtain ⟨out31,hj3,h⟩:=bS h
 refine SWp.seqC [3] [] (fun _:Unit=>⟨[(3,.t (.sl true 1 (List.map vi out31)))],[]⟩) (fun _=>True) (fun _ _=>?_) fun K4 hK4=>?_
 rotate_left
 ·refine SWp.sR rfl (u _ rfl) fun K q=>?_
  refine wC rfl fun K q=>?_;simp [y];refine q _ ?_;clear q
  refine wN (q _ ?_);clear q
  refine SWp.block ?_
  refine SWp.loopO [] [0,3,4] [] (fun v:(List Int) × Int=>⟨[(0,.t (.sl false 4 (List.map (GNode.enc false) nodes1))),(3,.t (.sl true 1 (List.map vi v.1))),(4,.t (vi v.2))],[]⟩) (cZ nodes1) _ (l2,0) hj3 (by simp [y]) ?_
  intro g s10 h8 ho9
  obtain ⟨out6,i7⟩:=g
  simp only [cZ] at h8
  try dsimp only
  refine SWp.seq ?_
  refine SWp.sR rfl (u _ rfl) fun K q=>?_
  iterate 4 (refine wC rfl fun K q=>?_;simp [y];refine q _ ?_;clear q)
  refine wN (q _ ?_);clear q
  rcases aA h8 with ⟨hb11,h8⟩ | ⟨hb12,h8⟩
  ·refine SWp.cT' (b:=decide (i7 < (nodes1.length:Int))) (by simp) hb11 ?_
   refine SWp.skip ?_
   show SWp E C _ _ _
   obtain ⟨out29,hj13,h8⟩:=bS h8
   refine SWp.seqC [0,3,4] [] (fun _:Unit=>⟨[(0,.t (.sl false 4 (List.map (GNode.enc false) nodes1))),(3,.t (.sl true 1 (List.map vi out29))),(4,.t (vi i7))],[]⟩) (fun _=>True) (fun _ _=>?_) fun K14 hK14=>?_
   rotate_left
   ·refine SWp.block ?_
    refine SWp.sR rfl (u _ rfl) fun K q=>?_
    refine wC rfl fun K q=>?_;simp [y];refine q _ ?_;clear q
    refine wN (q _ ?_);clear q
    refine SWp.block ?_
    refine SWp.loopO [] [0,3,4,5] [] (fun v:(List Int) × Int=>⟨[(0,.t (.sl false 4 (List.map (GNode.enc false) nodes1))),(3,.t (.sl true 1 (List.map vi v.1))),(4,.t (vi i7)),(5,.t (vi v.2))],[]⟩) (cY nodes1 i7) _ (out6,0) hj13 (by simp [y]) ?_
    intro g s20 h18 ho19
    obtain ⟨out16,j17⟩:=g
    simp only [cY] at h18
    try dsimp only
    refine SWp.seq ?_
    refine SWp.sR rfl (u _ rfl) fun K q=>?_
    iterate 3 (refine wC rfl fun K q=>?_;simp [y];refine q _ ?_;clear q)
    obtain ⟨e21,he21,h18⟩:=bS h18
    obtain ⟨he21a,he21b,he21c,he21d⟩:=gS he21
    iterate 5 (refine wC rfl fun K q=>?_;simp [y,he21a,he21b,he21c,he21d];refine q _ ?_;clear q)
    refine wN (q _ ?_);clear q
    rcases aA h18 with ⟨hb22,h18⟩ | ⟨hb23,h18⟩
    ·refine SWp.cT' (b:=decide (j17 < (e21.Kids.length:Int))) (by simp) hb22 ?_
     refine SWp.skip ?_
     show SWp E C _ _ _
     refine SWp.seq ?_
     refine SWp.block ?_
     refine SWp.reg rfl (u _ rfl) fun K q=>?_
     iterate 3 (refine wC rfl fun K q=>?_;simp [y];refine q _ ?_;clear q)
     obtain ⟨e24,he24,h18⟩:=bS h18
     obtain ⟨he24a,he24b,he24c,he24d⟩:=gS he24
     iterate 4 (refine wC rfl fun K q=>?_;simp [y,he24a,he24b,he24c,he24d];refine q _ ?_;clear q)
     obtain ⟨e25,he25,h18⟩:=bS h18
     obtain ⟨he25a,he25b,he25c,he25d⟩:=gS he25
     iterate 2 (refine wC rfl fun K q=>?_;simp [y,he24a,he24b,he24c,he24d,he25a,he25b,he25c,he25d];refine q _ ?_;clear q)
     obtain ⟨e26,he26,h18⟩:=bS h18
     obtain ⟨he26a,he26b,he26c,he26d⟩:=gS he26
     iterate 4 (refine wC rfl fun K q=>?_;simp [y,he24a,he24b,he24c,he24d,he25a,he25b,he25c,he25d,he26a,he26b,he26c,he26d];refine q _ ?_;clear q)
     obtain ⟨l27,hl27,h18⟩:=bZ h18
     have hl27f:(List.map vi out16).set e25.toNat (vi (IntKind.wrap .i64 (e26 + 1)))=List.map vi l27:=jH (f:=vi) hl27
     try simp only [Int.toNat_natCast] at hl27f
     refine wC rfl fun K q=>?_;simp [y,he24a,he24b,he24c,he24d,he25a,he25b,he25c,he25d,he26a,he26b,he26c,he26d,hl27f];refine q _ ?_;clear q
     refine wN (q _ ?_);clear q
     show SWp E C _ _ _
     refine SWp.reg rfl (u _ rfl) fun K q=>?_
     iterate 3 (refine wC rfl fun K q=>?_;simp [y];refine q _ ?_;clear q)
     refine wN (q _ ?_);clear q
     cases h18
     exact ⟨_,[],rfl,by simp [y]⟩
    ·refine SWp.cF' (b:=decide (j17 < (e21.Kids.length:Int))) (by simp) hb23 ?_
     refine SWp.exit ?_
     have h28:=congrArg some (ho19 _ (Option.some.inj h18).symm)
     cases h28
     exact hK14 _ () [] trivial (by simp [y])
   refine SWp.reg rfl (u _ rfl) fun K q=>?_
   iterate 3 (refine wC rfl fun K q=>?_;simp [y];refine q _ ?_;clear q)
   refine wN (q _ ?_);clear q
   cases h8
   exact ⟨_,[],rfl,by simp [y]⟩
  ·refine SWp.cF' (b:=decide (i7 < (nodes1.length:Int))) (by simp) hb12 ?_
   refine SWp.exit ?_
   have h30:=congrArg some (ho9 _ (Option.some.inj h8).symm)
   cases h30
   exact hK4 _ () [] trivial (by simp [y])
 refine SWp.sR rfl (u _ rfl) fun K q=>?_
 iterate 2 (refine wC rfl fun K q=>?_;simp [y];refine q _ ?_;clear q)
 refine wN (q _ ?_);clear q
 cases h
 refine SWp.ret ?_
 simp [aC,iB,res55]
theorem res44:Tryz.f44.results.toList=[.tmp 4]:=rfl
theorem ent44:aF E.P 44:=eO Tryz.func44 (by simp [Tryz.f44]) rfl
theorem nK (p1:GProgram) (name2:ByteArray) {r0:Int} (h:lL p1 name2=some r0):Ok E 44 [.val (GProgram.enc false p1),.val (vs name2)] [vi r0] []:=by
 refine oB (fn:=Tryz.f44) Tryz.func44 rfl (by simp [Tryz.f44]) fun C hN hP=>?_
 have hPB:∀ l,pinK [] l=true→pinB C.pin l=true:=pO (by rw [hP];rfl)
 have hN':C.N=22:=hN
 clear hN
 unfold lL at h
 refine SWp.sR rfl (hPB _ rfl) fun K hK=>?_
 iterate 2 (refine wC rfl fun K hK=>?_;simp [hN'];refine hK _ ?_;clear hK)
 refine wN (hK _ ?_);clear hK
 obtain ⟨j5,hj3,h⟩:=bS h
 refine SWp.seqC [] [] (fun v:Unit=>⟨[],[]⟩) (fun v=>j5=Sum.inl v) (fun v hv=>?_) fun K4 hK4=>?_
 rotate_left
 ·refine SWp.sR rfl (hPB _ rfl) fun K hK=>?_
  refine wC rfl fun K hK=>?_;simp [hN'];refine hK _ ?_;clear hK
  refine wN (hK _ ?_);clear hK
  refine SWp.block ?_
  refine SWp.loopO [] [1,2,5] [2] (fun v:Int=>⟨[(1,.t (vs name2)),(2,.ref (.box 2) 0 []),(5,.t (vi v))],[(2,[.sl false 4 (List.map (GNode.enc false) p1.Nodes),.sl false 5 (List.map (GFn.enc false) p1.Fns)])]⟩) (nL p1 name2) _ 0 hj3 (by simp [hN']) ?_
  intro g s9 h7 ho8
  obtain ⟨i6,hg⟩:∃ y,y=g:=⟨_,rfl⟩
  subst hg
  simp only [nL] at h7
  try dsimp only
  refine SWp.seq ?_
  refine SWp.sR rfl (hPB _ rfl) fun K hK=>?_
  iterate 5 (refine wC rfl fun K hK=>?_;simp [hN'];refine hK _ ?_;clear hK)
  refine wN (hK _ ?_);clear hK
  rcases aA h7 with ⟨hb10,h7⟩ | ⟨hb11,h7⟩
  ·refine SWp.cT' (b:=decide (i6 < (p1.Fns.length:Int))) (by simp) hb10 ?_
   refine SWp.skip ?_
   show SWp E C _ _ _
   refine SWp.seq ?_
   refine SWp.block ?_
   refine SWp.sR rfl (hPB _ rfl) fun K hK=>?_
   iterate 3 (refine wC rfl fun K hK=>?_;simp [hN'];refine hK _ ?_;clear hK)
   obtain ⟨e12,he12,h7⟩:=bS h7
   obtain ⟨he12a,he12b,he12c,he12d⟩:=gS he12
   iterate 5 (refine wC rfl fun K hK=>?_;simp [hN',he12a,he12b,he12c,he12d];refine hK _ ?_;clear hK)
   refine wN (hK _ ?_);clear hK
   rcases aA h7 with ⟨hb13,h7⟩ | ⟨hb14,h7⟩
   ·refine SWp.cT' (b:=sEq e12.Name name2) (by simp) hb13 ?_
    refine SWp.sR rfl (hPB _ rfl) fun K hK=>?_
    iterate 2 (refine wC rfl fun K hK=>?_;simp [hN'];refine hK _ ?_;clear hK)
    refine wN (hK _ ?_);clear hK
    have h15:=congrArg some (ho8 _ (Option.some.inj h7).symm)
    cases h15
    try dsimp only at h
    cases h
    refine SWp.ret ?_
    simp [aC,iB,res44]
   ·refine SWp.cF' (b:=sEq e12.Name name2) (by simp) hb14 ?_
    refine SWp.skip ?_
    show SWp E C _ _ _
    refine SWp.reg rfl (hPB _ rfl) fun K hK=>?_
    iterate 3 (refine wC rfl fun K hK=>?_;simp [hN'];refine hK _ ?_;clear hK)
    refine wN (hK _ ?_);clear hK
    cases h7
    exact ⟨_,[],rfl,by simp [hN']⟩
  ·refine SWp.cF' (b:=decide (i6 < (p1.Fns.length:Int))) (by simp) hb11 ?_
   refine SWp.exit ?_
   have h16:=congrArg some (ho8 _ (Option.some.inj h7).symm)
   cases h16
   exact hK4 _ _ [] rfl (by simp [hN'])
 subst hv
 obtain ⟨⟩:=v
 try dsimp only at h ⊢
 refine SWp.sR rfl (hPB _ rfl) fun K hK=>?_
 refine wC rfl fun K hK=>?_;simp [hN'];refine hK _ ?_;clear hK
 refine wN (hK _ ?_);clear hK
 cases h
 refine SWp.ret ?_
 simp [aC,iB,res44]
theorem res56:Tryz.f56.results.toList=[.tmp 4]:=rfl
theorem ent56:aF E.P 56:=eO Tryz.func56 (by simp [Tryz.f56]) rfl
theorem spec_l04Fn_ok (p1:GProgram) (i2:Int) {r0:Bool} (h:lI p1 i2=some r0):Ok E 56 [.val (GProgram.enc false p1),.val (vi i2)] [vb r0] []:=by
 refine oB (fn:=Tryz.f56) Tryz.func56 rfl (by simp [Tryz.f56]) fun C hN hP=>?_
 have hPB:∀ l,pinK [] l=true→pinB C.pin l=true:=pO (by rw [hP];rfl)
 have hN':C.N=102:=hN
 clear hN
 unfold lI at h
 refine SWp.sR rfl (hPB _ rfl) fun K hK=>?_
 iterate 2 (refine wC rfl fun K hK=>?_;simp [hN'];refine hK _ ?_;clear hK)
 refine wN (hK _ ?_);clear hK
 refine SWp.sR rfl (hPB _ rfl) fun K hK=>?_
 iterate 3 (refine wC rfl fun K hK=>?_;simp [hN'];refine hK _ ?_;clear hK)
 obtain ⟨e3,he3,h⟩:=bS h
 obtain ⟨he3a,he3b,he3c,he3d⟩:=gS he3
 iterate 4 (refine wC rfl fun K hK=>?_;simp [hN',he3a,he3b,he3c,he3d];refine hK _ ?_;clear hK)
 refine wN (hK _ ?_);clear hK
 refine SWp.seq ?_
 obtain ⟨v18,hj4,h⟩:=bS h
 refine SWp.seqRC rfl (hPB _ rfl) [2,5,35] [2,5] (fun _:Unit=>⟨[(2,.ref (.box 2) 0 []),(5,.ref (.box 5) 0 []),(35,.t (vb v18))],[(2,[.sl false 4 (List.map (GNode.enc false) p1.Nodes),.sl false 5 (List.map (GFn.enc false) p1.Fns)]),(5,[vs e3.Name,.sl false 2 (List.map GParam.enc e3.Params),vi e3.Res,vi e3.Body,vi e3.Ret])]⟩) (fun _=>True) (fun _ _=>?_) fun K5 hK5=>?_
 rotate_left
 ·refine wC rfl fun K hK=>?_;simp [hN'];refine hK _ ?_;clear hK
  refine wC rfl fun K hK=>?_;simp [hN'];refine hK _ ?_;clear hK
  obtain ⟨r6,hc7,hj4⟩:=bS hj4
  refine wL [(.take,.tmp 13)] rfl rfl ent87 (kY _ hc7) fun K hK=>?_;simp [hN'];refine hK _ ?_;clear hK
  iterate 2 (refine wC rfl fun K hK=>?_;simp [hN'];refine hK _ ?_;clear hK)
  rcases aA hj4 with ⟨hb8,hj4⟩ | ⟨hb9,hj4⟩
  ·have hb8s:=hb8
   try simp at hb8s
   iterate 6 (refine wO fun K hK=>?_;simp [hN',hb8,hb8s];refine hK _ ?_;clear hK)
   iterate 2 (refine wC rfl fun K hK=>?_;simp [hN',hb8,hb8s];refine hK _ ?_;clear hK)
   iterate 4 (refine wO fun K hK=>?_;simp [hN',hb8,hb8s];refine hK _ ?_;clear hK)
   iterate 2 (refine wC rfl fun K hK=>?_;simp [hN',hb8,hb8s];refine hK _ ?_;clear hK)
   iterate 4 (refine wO fun K hK=>?_;simp [hN',hb8,hb8s];refine hK _ ?_;clear hK)
   refine wC rfl fun K hK=>?_;simp [hN',hb8,hb8s];refine hK _ ?_;clear hK
   refine wN ?_
   cases hj4
   exact hK5 _ () [] trivial (by simp [hN',hb8,hb8s])
  ·have hb9s:=hb9
   try simp at hb9s
   iterate 3 (refine wC rfl fun K hK=>?_;simp [hN',hb9,hb9s];refine hK _ ?_;clear hK)
   obtain ⟨r10,hc11,hj4⟩:=bS hj4
   refine wL [(.take,.tmp 17),(.take,.tmp 19)] rfl rfl ent44 (nK _ _ hc11) fun K hK=>?_;simp [hN',hb9,hb9s];refine hK _ ?_;clear hK
   iterate 4 (refine wC rfl fun K hK=>?_;simp [hN',hb9,hb9s];refine hK _ ?_;clear hK)
   rcases aA hj4 with ⟨hb12,hj4⟩ | ⟨hb13,hj4⟩
   ·have hb12s:=hb12
    try simp at hb12s
    iterate 4 (refine wO fun K hK=>?_;simp [hN',hb9,hb9s,hb12,hb12s];refine hK _ ?_;clear hK)
    iterate 2 (refine wC rfl fun K hK=>?_;simp [hN',hb9,hb9s,hb12,hb12s];refine hK _ ?_;clear hK)
    iterate 4 (refine wO fun K hK=>?_;simp [hN',hb9,hb9s,hb12,hb12s];refine hK _ ?_;clear hK)
    refine wC rfl fun K hK=>?_;simp [hN',hb9,hb9s,hb12,hb12s];refine hK _ ?_;clear hK
    refine wN ?_
    cases hj4
    exact hK5 _ () [] trivial (by simp [hN',hb9,hb9s,hb12,hb12s])
   ·have hb13s:=hb13
    try simp at hb13s
    iterate 6 (refine wC rfl fun K hK=>?_;simp [hN',hb9,hb9s,hb13,hb13s];refine hK _ ?_;clear hK)
    rcases aA hj4 with ⟨hb14,hj4⟩ | ⟨hb15,hj4⟩
    ·have hb14s:=hb14
     try simp at hb14s
     iterate 4 (refine wO fun K hK=>?_;simp [hN',hb9,hb9s,hb13,hb13s,hb14,hb14s];refine hK _ ?_;clear hK)
     refine wC rfl fun K hK=>?_;simp [hN',hb9,hb9s,hb13,hb13s,hb14,hb14s];refine hK _ ?_;clear hK
     refine wN ?_
     cases hj4
     exact hK5 _ () [] trivial (by simp [hN',hb9,hb9s,hb13,hb13s,hb14,hb14s])
    ·have hb15s:=hb15
     try simp at hb15s
     iterate 2 (refine wC rfl fun K hK=>?_;simp [hN',hb9,hb9s,hb13,hb13s,hb15,hb15s];refine hK _ ?_;clear hK)
     obtain ⟨r16,hc17,hj4⟩:=bS hj4
     refine wL [(.take,.tmp 32),(.take,.const (.int .i64 0)),(.take,.const (.int .i64 2))] rfl rfl nB (aM _ _ _ hc17) fun K hK=>?_;simp [hN',hb9,hb9s,hb13,hb13s,hb15,hb15s];refine hK _ ?_;clear hK
     iterate 2 (refine wC rfl fun K hK=>?_;simp [hN',hb9,hb9s,hb13,hb13s,hb15,hb15s];refine hK _ ?_;clear hK)
     refine wN ?_
     cases hj4
     exact hK5 _ () [] trivial (by simp [hN',hb9,hb9s,hb13,hb13s,hb15,hb15s])
 rcases aA h with ⟨hb19,h⟩ | ⟨hb20,h⟩
 ·refine SWp.cT' (b:=v18) (by simp) hb19 ?_
  refine SWp.sR rfl (hPB _ rfl) fun K hK=>?_
  refine wC rfl fun K hK=>?_;simp [hN'];refine hK _ ?_;clear hK
  refine wN (hK _ ?_);clear hK
  cases h
  refine SWp.ret ?_
  simp [aC,iB,res56]
 ·refine SWp.cF' (b:=v18) (by simp) hb20 ?_
  refine SWp.skip ?_
  show SWp E C _ _ _
  obtain ⟨j23,hj21,h⟩:=bS h
  refine SWp.seqC [2,5] [2,5] (fun v:Unit=>⟨[(2,.ref (.box 2) 0 []),(5,.ref (.box 5) 0 [])],[(2,[.sl false 4 (List.map (GNode.enc false) p1.Nodes),.sl false 5 (List.map (GFn.enc false) p1.Fns)]),(5,[vs e3.Name,.sl false 2 (List.map GParam.enc e3.Params),vi e3.Res,vi e3.Body,vi e3.Ret])]⟩) (fun v=>j23=Sum.inl v) (fun v hv=>?_) fun K22 hK22=>?_
  rotate_left
  ·refine SWp.sR rfl (hPB _ rfl) fun K hK=>?_
   refine wC rfl fun K hK=>?_;simp [hN'];refine hK _ ?_;clear hK
   refine wN (hK _ ?_);clear hK
   refine SWp.block ?_
   refine SWp.loopO [] [2,5,6] [2,5] (fun v:Int=>⟨[(2,.ref (.box 2) 0 []),(5,.ref (.box 5) 0 []),(6,.t (vi v))],[(2,[.sl false 4 (List.map (GNode.enc false) p1.Nodes),.sl false 5 (List.map (GFn.enc false) p1.Fns)]),(5,[vs e3.Name,.sl false 2 (List.map GParam.enc e3.Params),vi e3.Res,vi e3.Body,vi e3.Ret])]⟩) (fC e3) _ 0 hj21 (by simp [hN']) ?_
   intro g s27 h25 ho26
   obtain ⟨k24,hg⟩:∃ y,y=g:=⟨_,rfl⟩
   subst hg
   simp only [fC] at h25
   try dsimp only
   refine SWp.seq ?_
   refine SWp.sR rfl (hPB _ rfl) fun K hK=>?_
   iterate 5 (refine wC rfl fun K hK=>?_;simp [hN'];refine hK _ ?_;clear hK)
   refine wN (hK _ ?_);clear hK
   rcases aA h25 with ⟨hb28,h25⟩ | ⟨hb29,h25⟩
   ·refine SWp.cT' (b:=decide (k24 < (e3.Params.length:Int))) (by simp) hb28 ?_
    refine SWp.skip ?_
    show SWp E C _ _ _
    refine SWp.seq ?_
    refine SWp.block ?_
    obtain ⟨v39,hj30,h25⟩:=bS h25
    refine SWp.seqRC rfl (hPB _ rfl) [2,5,6,60] [2,5] (fun _:Unit=>⟨[(2,.ref (.box 2) 0 []),(5,.ref (.box 5) 0 []),(6,.t (vi k24)),(60,.t (vb v39))],[(2,[.sl false 4 (List.map (GNode.enc false) p1.Nodes),.sl false 5 (List.map (GFn.enc false) p1.Fns)]),(5,[vs e3.Name,.sl false 2 (List.map GParam.enc e3.Params),vi e3.Res,vi e3.Body,vi e3.Ret])]⟩) (fun _=>True) (fun _ _=>?_) fun K31 hK31=>?_
    rotate_left
    ·refine wC rfl fun K hK=>?_;simp [hN'];refine hK _ ?_;clear hK
     iterate 2 (refine wC rfl fun K hK=>?_;simp [hN'];refine hK _ ?_;clear hK)
     obtain ⟨e32,he32,hj30⟩:=bS hj30
     obtain ⟨he32a,he32b,he32c,he32d⟩:=gS he32
     iterate 3 (refine wC rfl fun K hK=>?_;simp [hN',he32a,he32b,he32c,he32d];refine hK _ ?_;clear hK)
     obtain ⟨r33,hc34,hj30⟩:=bS hj30
     refine wL [(.take,.tmp 48)] rfl rfl ent87 (kY _ hc34) fun K hK=>?_;simp [hN',he32a,he32b,he32c,he32d];refine hK _ ?_;clear hK
     iterate 2 (refine wC rfl fun K hK=>?_;simp [hN',he32a,he32b,he32c,he32d];refine hK _ ?_;clear hK)
     rcases aA hj30 with ⟨hb35,hj30⟩ | ⟨hb36,hj30⟩
     ·have hb35s:=hb35
      try simp at hb35s
      iterate 8 (refine wO fun K hK=>?_;simp [hN',he32a,he32b,he32c,he32d,hb35,hb35s];refine hK _ ?_;clear hK)
      refine wC rfl fun K hK=>?_;simp [hN',he32a,he32b,he32c,he32d,hb35,hb35s];refine hK _ ?_;clear hK
      refine wN ?_
      cases hj30
      exact hK31 _ () [] trivial (by simp [hN',he32a,he32b,he32c,he32d,hb35,hb35s])
     ·have hb36s:=hb36
      try simp at hb36s
      iterate 6 (refine wC rfl fun K hK=>?_;simp [hN',he32a,he32b,he32c,he32d,hb36,hb36s];refine hK _ ?_;clear hK)
      obtain ⟨r37,hc38,hj30⟩:=bS hj30
      refine wL [(.take,.tmp 57),(.take,.const (.int .i64 1)),(.take,.const (.int .i64 4))] rfl rfl nB (aM _ _ _ hc38) fun K hK=>?_;simp [hN',he32a,he32b,he32c,he32d,hb36,hb36s];refine hK _ ?_;clear hK
      iterate 2 (refine wC rfl fun K hK=>?_;simp [hN',he32a,he32b,he32c,he32d,hb36,hb36s];refine hK _ ?_;clear hK)
      refine wN ?_
      cases hj30
      exact hK31 _ () [] trivial (by simp [hN',he32a,he32b,he32c,he32d,hb36,hb36s])
    rcases aA h25 with ⟨hb40,h25⟩ | ⟨hb41,h25⟩
    ·refine SWp.cT' (b:=v39) (by simp) hb40 ?_
     refine SWp.sR rfl (hPB _ rfl) fun K hK=>?_
     refine wC rfl fun K hK=>?_;simp [hN'];refine hK _ ?_;clear hK
     refine wN (hK _ ?_);clear hK
     have h42:=congrArg some (ho26 _ (Option.some.inj h25).symm)
     cases h42
     try dsimp only at h
     cases h
     refine SWp.ret ?_
     simp [aC,iB,res56]
    ·refine SWp.cF' (b:=v39) (by simp) hb41 ?_
     refine SWp.skip ?_
     show SWp E C _ _ _
     refine SWp.reg rfl (hPB _ rfl) fun K hK=>?_
     iterate 3 (refine wC rfl fun K hK=>?_;simp [hN'];refine hK _ ?_;clear hK)
     refine wN (hK _ ?_);clear hK
     cases h25
     exact ⟨_,[],rfl,by simp [hN']⟩
   ·refine SWp.cF' (b:=decide (k24 < (e3.Params.length:Int))) (by simp) hb29 ?_
    refine SWp.exit ?_
    have h43:=congrArg some (ho26 _ (Option.some.inj h25).symm)
    cases h43
    exact hK22 _ _ [] rfl (by simp [hN'])
  subst hv
  obtain ⟨⟩:=v
  try dsimp only at h ⊢
  refine SWp.seq ?_
  obtain ⟨v51,hj44,h⟩:=bS h
  refine SWp.seqRC rfl (hPB _ rfl) [2,5,78] [2,5] (fun _:Unit=>⟨[(2,.ref (.box 2) 0 []),(5,.ref (.box 5) 0 []),(78,.t (vb v51))],[(2,[.sl false 4 (List.map (GNode.enc false) p1.Nodes),.sl false 5 (List.map (GFn.enc false) p1.Fns)]),(5,[vs e3.Name,.sl false 2 (List.map GParam.enc e3.Params),vi e3.Res,vi e3.Body,vi e3.Ret])]⟩) (fun _=>True) (fun _ _=>?_) fun K45 hK45=>?_
  rotate_left
  ·refine wC rfl fun K hK=>?_;simp [hN'];refine hK _ ?_;clear hK
   iterate 5 (refine wC rfl fun K hK=>?_;simp [hN'];refine hK _ ?_;clear hK)
   obtain ⟨r46,hc47,hj44⟩:=bS hj44
   refine wL [(.take,.tmp 62),(.take,.const (.int .i64 0)),(.take,.tmp 66)] rfl rfl nB (aM _ _ _ hc47) fun K hK=>?_;simp [hN'];refine hK _ ?_;clear hK
   iterate 2 (refine wC rfl fun K hK=>?_;simp [hN'];refine hK _ ?_;clear hK)
   rcases aA hj44 with ⟨hb48,hj44⟩ | ⟨hb49,hj44⟩
   ·have hb48s:=hb48
    try simp at hb48s
    iterate 8 (refine wO fun K hK=>?_;simp [hN',hb48,hb48s];refine hK _ ?_;clear hK)
    refine wC rfl fun K hK=>?_;simp [hN',hb48,hb48s];refine hK _ ?_;clear hK
    refine wN ?_
    cases hj44
    exact hK45 _ () [] trivial (by simp [hN',hb48,hb48s])
   ·have hb49s:=hb49
    try simp at hb49s
    iterate 4 (refine wC rfl fun K hK=>?_;simp [hN',hb49,hb49s];refine hK _ ?_;clear hK)
    obtain ⟨e50,he50,hj44⟩:=bS hj44
    obtain ⟨he50a,he50b,he50c,he50d⟩:=gS he50
    have he50j:=he50b;try simp at he50j
    try simp only [Int.toNat_natCast] at he50c he50d
    iterate 5 (refine wC rfl fun K hK=>?_;simp [hN',hb49,hb49s,he50a,he50b,he50c,he50d,he50j];refine hK _ ?_;clear hK)
    refine wN ?_
    cases hj44
    exact hK45 _ () [] trivial (by simp [hN',hb49,hb49s,he50a,he50b,he50c,he50d,he50j])
  rcases aA h with ⟨hb52,h⟩ | ⟨hb53,h⟩
  ·refine SWp.cT' (b:=v51) (by simp) hb52 ?_
   refine SWp.sR rfl (hPB _ rfl) fun K hK=>?_
   refine wC rfl fun K hK=>?_;simp [hN'];refine hK _ ?_;clear hK
   refine wN (hK _ ?_);clear hK
   cases h
   refine SWp.ret ?_
   simp [aC,iB,res56]
  ·refine SWp.cF' (b:=v51) (by simp) hb53 ?_
   refine SWp.skip ?_
   show SWp E C _ _ _
   refine SWp.seq ?_
   refine SWp.sR rfl (hPB _ rfl) fun K hK=>?_
   iterate 3 (refine wC rfl fun K hK=>?_;simp [hN'];refine hK _ ?_;clear hK)
   refine wN (hK _ ?_);clear hK
   rcases aA h with ⟨hb54,h⟩ | ⟨hb55,h⟩
   ·refine SWp.cT' (b:=e3.Res == 0) (by simp) hb54 ?_
    refine SWp.sR rfl (hPB _ rfl) fun K hK=>?_
    iterate 4 (refine wC rfl fun K hK=>?_;simp [hN'];refine hK _ ?_;clear hK)
    refine wN (hK _ ?_);clear hK
    cases h
    refine SWp.ret ?_
    simp [aC,iB,res56]
   ·refine SWp.cF' (b:=e3.Res == 0) (by simp) hb55 ?_
    refine SWp.skip ?_
    show SWp E C _ _ _
    obtain ⟨v65,hj56,h⟩:=bS h
    refine SWp.seqRC rfl (hPB _ rfl) [4] [] (fun _:Unit=>⟨[(4,.t (vb v65))],[]⟩) (fun _=>True) (fun _ _=>?_) fun K57 hK57=>?_
    rotate_left
    ·refine wC rfl fun K hK=>?_;simp [hN'];refine hK _ ?_;clear hK
     iterate 5 (refine wC rfl fun K hK=>?_;simp [hN'];refine hK _ ?_;clear hK)
     obtain ⟨r58,hc59,hj56⟩:=bS hj56
     refine wL [(.take,.tmp 86),(.take,.const (.int .i64 0)),(.take,.tmp 90)] rfl rfl nB (aM _ _ _ hc59) fun K hK=>?_;simp [hN'];refine hK _ ?_;clear hK
     refine wC rfl fun K hK=>?_;simp [hN'];refine hK _ ?_;clear hK
     rcases aA hj56 with ⟨hb60,hj56⟩ | ⟨hb61,hj56⟩
     ·have hb60s:=hb60
      try simp at hb60s
      iterate 4 (refine wC rfl fun K hK=>?_;simp [hN',hb60,hb60s];refine hK _ ?_;clear hK)
      obtain ⟨e62,he62,hj56⟩:=bS hj56
      obtain ⟨he62a,he62b,he62c,he62d⟩:=gS he62
      have he62j:=he62b;try simp at he62j
      try simp only [Int.toNat_natCast] at he62c he62d
      iterate 3 (refine wC rfl fun K hK=>?_;simp [hN',hb60,hb60s,he62a,he62b,he62c,he62d,he62j];refine hK _ ?_;clear hK)
      obtain ⟨r63,hc64,hj56⟩:=bS hj56
      refine wL [(.take,.tmp 99)] rfl rfl ent88 (jG _ hc64) fun K hK=>?_;simp [hN',hb60,hb60s,he62a,he62b,he62c,he62d,he62j];refine hK _ ?_;clear hK
      iterate 2 (refine wC rfl fun K hK=>?_;simp [hN',hb60,hb60s,he62a,he62b,he62c,he62d,he62j];refine hK _ ?_;clear hK)
      refine wN ?_
      cases hj56
      exact hK57 _ () [] trivial (by simp [hN',hb60,hb60s,he62a,he62b,he62c,he62d,he62j])
     ·have hb61s:=hb61
      try simp at hb61s
      iterate 8 (refine wO fun K hK=>?_;simp [hN',hb61,hb61s];refine hK _ ?_;clear hK)
      iterate 2 (refine wC rfl fun K hK=>?_;simp [hN',hb61,hb61s];refine hK _ ?_;clear hK)
      refine wN ?_
      cases hj56
      exact hK57 _ () [] trivial (by simp [hN',hb61,hb61s])
    cases h
    refine SWp.ret ?_
    simp [aC,iB,res56]
theorem res24:Tryz.f24.results.toList=[.tmp 2]:=rfl
theorem ent24:aF E.P 24:=eO Tryz.func24 (by simp [Tryz.f24]) rfl
theorem spec_ProgramOk_ok (p1:GProgram) {r0:Bool} (h:fS p1=some r0):Ok E 24 [.val (GProgram.enc false p1)] [vb r0] []:=by
 refine oB (fn:=Tryz.f24) Tryz.func24 rfl (by simp [Tryz.f24]) fun C hN hP=>?_
 have hPB:∀ l,pinK [] l=true→pinB C.pin l=true:=pO (by rw [hP];rfl)
 have hN':C.N=108:=hN
 clear hN
 unfold fS at h
 refine SWp.sR rfl (hPB _ rfl) fun K hK=>?_
 iterate 2 (refine wC rfl fun K hK=>?_;simp [hN'];refine hK _ ?_;clear hK)
 refine wN (hK _ ?_);clear hK
 refine SWp.seq ?_
 obtain ⟨v10,hj2,h⟩:=bS h
 refine SWp.seqRC rfl (hPB _ rfl) [1,18] [1] (fun _:Unit=>⟨[(1,.ref (.box 1) 0 []),(18,.t (vb v10))],[(1,[.sl false 4 (List.map (GNode.enc false) p1.Nodes),.sl false 5 (List.map (GFn.enc false) p1.Fns)])]⟩) (fun _=>True) (fun _ _=>?_) fun K3 hK3=>?_
 rotate_left
 ·refine wC rfl fun K hK=>?_;simp [hN'];refine hK _ ?_;clear hK
  iterate 2 (refine wC rfl fun K hK=>?_;simp [hN'];refine hK _ ?_;clear hK)
  obtain ⟨r4,hc5,hj2⟩:=bS hj2
  refine wL [(.take,.tmp 9),(.take,.const (.int .i64 1)),(.take,.const (.int .i64 300))] rfl rfl nB (aM _ _ _ hc5) fun K hK=>?_;simp [hN'];refine hK _ ?_;clear hK
  iterate 2 (refine wC rfl fun K hK=>?_;simp [hN'];refine hK _ ?_;clear hK)
  rcases aA hj2 with ⟨hb6,hj2⟩ | ⟨hb7,hj2⟩
  ·have hb6s:=hb6
   try simp at hb6s
   iterate 5 (refine wO fun K hK=>?_;simp [hN',hb6,hb6s];refine hK _ ?_;clear hK)
   refine wC rfl fun K hK=>?_;simp [hN',hb6,hb6s];refine hK _ ?_;clear hK
   refine wN ?_
   cases hj2
   exact hK3 _ () [] trivial (by simp [hN',hb6,hb6s])
  ·have hb7s:=hb7
   try simp at hb7s
   iterate 3 (refine wC rfl fun K hK=>?_;simp [hN',hb7,hb7s];refine hK _ ?_;clear hK)
   obtain ⟨r8,hc9,hj2⟩:=bS hj2
   refine wL [(.take,.tmp 15),(.take,.const (.int .i64 1)),(.take,.const (.int .i64 8))] rfl rfl nB (aM _ _ _ hc9) fun K hK=>?_;simp [hN',hb7,hb7s];refine hK _ ?_;clear hK
   iterate 2 (refine wC rfl fun K hK=>?_;simp [hN',hb7,hb7s];refine hK _ ?_;clear hK)
   refine wN ?_
   cases hj2
   exact hK3 _ () [] trivial (by simp [hN',hb7,hb7s])
 rcases aA h with ⟨hb11,h⟩ | ⟨hb12,h⟩
 ·refine SWp.cT' (b:=v10) (by simp) hb11 ?_
  refine SWp.sR rfl (hPB _ rfl) fun K hK=>?_
  refine wC rfl fun K hK=>?_;simp [hN'];refine hK _ ?_;clear hK
  refine wN (hK _ ?_);clear hK
  cases h
  refine SWp.ret ?_
  simp [aC,iB,res24]
 ·refine SWp.cF' (b:=v10) (by simp) hb12 ?_
  refine SWp.skip ?_
  show SWp E C _ _ _
  refine SWp.sR rfl (hPB _ rfl) fun K hK=>?_
  iterate 6 (refine wC rfl fun K hK=>?_;simp [hN'];refine hK _ ?_;clear hK)
  obtain ⟨r13,hc14,h⟩:=bS h
  refine wL [(.take,.tmp 20),(.take,.tmp 24)] rfl rfl ent54 (mQ _ _ hc14) fun K hK=>?_;simp [hN'];refine hK _ ?_;clear hK
  refine wC rfl fun K hK=>?_;simp [hN'];refine hK _ ?_;clear hK
  refine wN (hK _ ?_);clear hK
  refine SWp.seq ?_
  refine SWp.sR rfl (hPB _ rfl) fun K hK=>?_
  iterate 4 (refine wC rfl fun K hK=>?_;simp [hN'];refine hK _ ?_;clear hK)
  obtain ⟨e15,he15,h⟩:=bS h
  obtain ⟨he15a,he15b,he15c,he15d⟩:=gS he15
  have he15j:=he15b;try simp at he15j
  try simp only [Int.toNat_natCast] at he15c he15d
  iterate 3 (refine wC rfl fun K hK=>?_;simp [hN',he15a,he15b,he15c,he15d,he15j];refine hK _ ?_;clear hK)
  refine wN (hK _ ?_);clear hK
  rcases aA h with ⟨hb16,h⟩ | ⟨hb17,h⟩
  ·refine SWp.cT' (b:=e15 == 0) (by simp) hb16 ?_
   refine SWp.sR rfl (hPB _ rfl) fun K hK=>?_
   refine wC rfl fun K hK=>?_;simp [hN'];refine hK _ ?_;clear hK
   refine wN (hK _ ?_);clear hK
   cases h
   refine SWp.ret ?_
   simp [aC,iB,res24]
  ·refine SWp.cF' (b:=e15 == 0) (by simp) hb17 ?_
   refine SWp.skip ?_
   show SWp E C _ _ _
   refine SWp.sR rfl (hPB _ rfl) fun K hK=>?_
   iterate 2 (refine wC rfl fun K hK=>?_;simp [hN'];refine hK _ ?_;clear hK)
   obtain ⟨r18,hc19,h⟩:=bS h
   refine wL [(.take,.tmp 34)] rfl rfl ent55 (spec_l04Used_ok _ hc19) fun K hK=>?_;simp [hN'];refine hK _ ?_;clear hK
   refine wC rfl fun K hK=>?_;simp [hN'];refine hK _ ?_;clear hK
   refine wN (hK _ ?_);clear hK
   obtain ⟨j22,hj20,h⟩:=bS h
   refine SWp.seqC [4] [] (fun v:List Int=>⟨[(4,.t (.sl true 1 (List.map vi v)))],[]⟩) (fun v=>j22=Sum.inl v) (fun v hv=>?_) fun K21 hK21=>?_
   rotate_left
   ·refine SWp.sR rfl (hPB _ rfl) fun K hK=>?_
    refine wC rfl fun K hK=>?_;simp [hN'];refine hK _ ?_;clear hK
    refine wN (hK _ ?_);clear hK
    refine SWp.block ?_
    refine SWp.loopO [] [1,4,5] [1] (fun v:(List Int) × Int=>⟨[(1,.ref (.box 1) 0 []),(4,.t (.sl true 1 (List.map vi v.1))),(5,.t (vi v.2))],[(1,[.sl false 4 (List.map (GNode.enc false) p1.Nodes),.sl false 5 (List.map (GFn.enc false) p1.Fns)])]⟩) (bA p1) _ (r18,0) hj20 (by simp [hN']) ?_
    intro g s27 h25 ho26
    obtain ⟨used23,i24⟩:=g
    simp only [bA] at h25
    try dsimp only
    refine SWp.seq ?_
    refine SWp.sR rfl (hPB _ rfl) fun K hK=>?_
    iterate 5 (refine wC rfl fun K hK=>?_;simp [hN'];refine hK _ ?_;clear hK)
    refine wN (hK _ ?_);clear hK
    rcases aA h25 with ⟨hb28,h25⟩ | ⟨hb29,h25⟩
    ·refine SWp.cT' (b:=decide (i24 < (p1.Fns.length:Int))) (by simp) hb28 ?_
     refine SWp.skip ?_
     show SWp E C _ _ _
     refine SWp.seq ?_
     refine SWp.block ?_
     refine SWp.seq ?_
     refine SWp.sR rfl (hPB _ rfl) fun K hK=>?_
     iterate 2 (refine wC rfl fun K hK=>?_;simp [hN'];refine hK _ ?_;clear hK)
     obtain ⟨r30,hc31,h25⟩:=bS h25
     refine wL [(.take,.tmp 43),(.take,.tmp 44)] rfl rfl ent56 (spec_l04Fn_ok _ _ hc31) fun K hK=>?_;simp [hN'];refine hK _ ?_;clear hK
     refine wC rfl fun K hK=>?_;simp [hN'];refine hK _ ?_;clear hK
     refine wN (hK _ ?_);clear hK
     rcases aA h25 with ⟨hb32,h25⟩ | ⟨hb33,h25⟩
     ·refine SWp.cT' (b:=!r30) (by simp) hb32 ?_
      refine SWp.sR rfl (hPB _ rfl) fun K hK=>?_
      refine wC rfl fun K hK=>?_;simp [hN'];refine hK _ ?_;clear hK
      refine wN (hK _ ?_);clear hK
      have h34:=congrArg some (ho26 _ (Option.some.inj h25).symm)
      cases h34
      try dsimp only at h
      cases h
      refine SWp.ret ?_
      simp [aC,iB,res24]
     ·refine SWp.cF' (b:=!r30) (by simp) hb33 ?_
      refine SWp.skip ?_
      show SWp E C _ _ _
      refine SWp.seq ?_
      obtain ⟨e36,he36,h25⟩:=bS h25
      obtain ⟨he36a,he36b,he36c,he36d⟩:=gS he36
      obtain ⟨e37,he37,h25⟩:=bS h25
      obtain ⟨he37a,he37b,he37c,he37d⟩:=gS he37
      have he37j:=he37b;try simp at he37j
      try simp only [Int.toNat_natCast] at he37c he37d
      refine SWp.dT rfl (hPB _ rfl) [(47,.al (.slot 4) 0 [] none),(48,.ref (.box 1) 1 []),(49,.t (.sl false 5 (List.map (GFn.enc false) p1.Fns))),(50,.t (vi i24)),(51,.rop [vs e36.Name,.sl false 2 (List.map GParam.enc e36.Params),vi e36.Res,vi e36.Body,vi e36.Ret] 0),(52,.rop [vs e36.Name,.sl false 2 (List.map GParam.enc e36.Params),vi e36.Res,vi e36.Body,vi e36.Ret] 3),(53,.t (vi e36.Body)),(54,.al (.slot 4) 0 [] none),(55,.ref (.box 1) 1 []),(56,.t (.sl false 5 (List.map (GFn.enc false) p1.Fns))),(57,.t (vi i24)),(58,.rop [vs e36.Name,.sl false 2 (List.map GParam.enc e36.Params),vi e36.Res,vi e36.Body,vi e36.Ret] 0),(59,.rop [vs e36.Name,.sl false 2 (List.map GParam.enc e36.Params),vi e36.Res,vi e36.Body,vi e36.Ret] 3),(60,.t (vi e36.Body)),(61,.ref (.slot 4) 0 [(e36.Body.toNat,0)]),(62,.t (vi e37)),(63,.t (vi (IntKind.wrap .i64 (e37 + 1000))))] [[],[],[1],[],[1,2,3],[1,2,3,4],[1,2,3,4,5],[],[],[8],[],[8,9,10],[8,9,10,11],[8,9,10,11,12],[7,8,9,10,11,12,13],[7,8,9,10,11,12,13,14],[7,8,9,10,11,12,13,14,15],[0,1,2,3,4,5,6,7,8,9,10,11,12,13,14,15,16],[0,1,2,3,4,5,6,7,8,9,10,11,12,13,14,15,16,17]] (by simp) (by simp) (by simp [look]) rfl rfl rfl ?_ fun K hK=>?_
      ·refine ⟨?_,?_,?_,?_,?_,?_,?_,?_,?_,?_,?_,?_,?_,?_,?_,?_,?_,trivial⟩
       all_goals (intro τ hbx hb hd hf K hK;try simp [vsAt] at hd;simp [vsAt] at hf;first | (refine wC rfl fun K' hK'=>?_;simp [hN',hbx,hb,hd,hf,he36a,he36b,he36c,he36d,he37a,he37b,he37c,he37d,he37j];exact hK' _ (wN (hK _ (by simp [vsAt,hbx,he36a,he36b,he36c,he36d,he37a,he37b,he37c,he37d,he37j])))))
      refine wC rfl fun K hK=>?_;simp [hN',he36a,he36b,he36c,he36d,he37a,he37b,he37c,he37d,he37j];refine hK _ ?_;clear hK
      obtain ⟨l38,hl38,h25⟩:=bZ h25
      have hl38f:(List.map vi used23).set e36.Body.toNat (vi (IntKind.wrap .i64 (e37 + 1000)))=List.map vi l38:=jH (f:=vi) hl38
      try simp only [Int.toNat_natCast] at hl38f
      refine wC rfl fun K hK=>?_;simp [hN',he36a,he36b,he36c,he36d,he37a,he37b,he37c,he37d,he37j,hl38f];refine hK _ ?_;clear hK
      refine wN (hK _ ?_);clear hK
      show SWp E C _ _ _
      refine SWp.sR rfl (hPB _ rfl) fun K hK=>?_
      iterate 3 (refine wC rfl fun K hK=>?_;simp [hN'];refine hK _ ?_;clear hK)
      obtain ⟨e39,he39,h25⟩:=bS h25
      obtain ⟨he39a,he39b,he39c,he39d⟩:=gS he39
      iterate 4 (refine wC rfl fun K hK=>?_;simp [hN',he39a,he39b,he39c,he39d];refine hK _ ?_;clear hK)
      refine wN (hK _ ?_);clear hK
      rcases aA h25 with ⟨hb40,h25⟩ | ⟨hb41,h25⟩
      ·refine SWp.cT' (b:=decide (e39.Ret ≥ 0)) (by simp) hb40 ?_
       obtain ⟨e43,he43,h25⟩:=bS h25
       obtain ⟨he43a,he43b,he43c,he43d⟩:=gS he43
       obtain ⟨e44,he44,h25⟩:=bS h25
       obtain ⟨he44a,he44b,he44c,he44d⟩:=gS he44
       have he44j:=he44b;try simp at he44j
       try simp only [Int.toNat_natCast] at he44c he44d
       refine SWp.dT rfl (hPB _ rfl) [(72,.al (.slot 4) 0 [] none),(73,.ref (.box 1) 1 []),(74,.t (.sl false 5 (List.map (GFn.enc false) p1.Fns))),(75,.t (vi i24)),(76,.rop [vs e43.Name,.sl false 2 (List.map GParam.enc e43.Params),vi e43.Res,vi e43.Body,vi e43.Ret] 0),(77,.rop [vs e43.Name,.sl false 2 (List.map GParam.enc e43.Params),vi e43.Res,vi e43.Body,vi e43.Ret] 4),(78,.t (vi e43.Ret)),(79,.al (.slot 4) 0 [] none),(80,.ref (.box 1) 1 []),(81,.t (.sl false 5 (List.map (GFn.enc false) p1.Fns))),(82,.t (vi i24)),(83,.rop [vs e43.Name,.sl false 2 (List.map GParam.enc e43.Params),vi e43.Res,vi e43.Body,vi e43.Ret] 0),(84,.rop [vs e43.Name,.sl false 2 (List.map GParam.enc e43.Params),vi e43.Res,vi e43.Body,vi e43.Ret] 4),(85,.t (vi e43.Ret)),(86,.ref (.slot 4) 0 [(e43.Ret.toNat,0)]),(87,.t (vi e44)),(88,.t (vi (IntKind.wrap .i64 (e44 + 1000))))] [[],[],[1],[],[1,2,3],[1,2,3,4],[1,2,3,4,5],[],[],[8],[],[8,9,10],[8,9,10,11],[8,9,10,11,12],[7,8,9,10,11,12,13],[7,8,9,10,11,12,13,14],[7,8,9,10,11,12,13,14,15],[0,1,2,3,4,5,6,7,8,9,10,11,12,13,14,15,16],[0,1,2,3,4,5,6,7,8,9,10,11,12,13,14,15,16,17]] (by simp) (by simp) (by simp [look]) rfl rfl rfl ?_ fun K hK=>?_
       ·refine ⟨?_,?_,?_,?_,?_,?_,?_,?_,?_,?_,?_,?_,?_,?_,?_,?_,?_,trivial⟩
        all_goals (intro τ hbx hb hd hf K hK;try simp [vsAt] at hd;simp [vsAt] at hf;first | (refine wC rfl fun K' hK'=>?_;simp [hN',hbx,hb,hd,hf,he43a,he43b,he43c,he43d,he44a,he44b,he44c,he44d,he44j];exact hK' _ (wN (hK _ (by simp [vsAt,hbx,he43a,he43b,he43c,he43d,he44a,he44b,he44c,he44d,he44j])))))
       refine wC rfl fun K hK=>?_;simp [hN',he43a,he43b,he43c,he43d,he44a,he44b,he44c,he44d,he44j];refine hK _ ?_;clear hK
       obtain ⟨l45,hl45,h25⟩:=bZ h25
       have hl45f:(List.map vi l38).set e43.Ret.toNat (vi (IntKind.wrap .i64 (e44 + 1000)))=List.map vi l45:=jH (f:=vi) hl45
       try simp only [Int.toNat_natCast] at hl45f
       refine wC rfl fun K hK=>?_;simp [hN',he43a,he43b,he43c,he43d,he44a,he44b,he44c,he44d,he44j,hl45f];refine hK _ ?_;clear hK
       refine wN (hK _ ?_);clear hK
       show SWp E C _ _ _
       refine SWp.reg rfl (hPB _ rfl) fun K hK=>?_
       iterate 3 (refine wC rfl fun K hK=>?_;simp [hN'];refine hK _ ?_;clear hK)
       refine wN (hK _ ?_);clear hK
       cases h25
       exact ⟨_,[],rfl,by simp [hN']⟩
      ·refine SWp.cF' (b:=decide (e39.Ret ≥ 0)) (by simp) hb41 ?_
       refine SWp.skip ?_
       show SWp E C _ _ _
       refine SWp.reg rfl (hPB _ rfl) fun K hK=>?_
       iterate 3 (refine wC rfl fun K hK=>?_;simp [hN'];refine hK _ ?_;clear hK)
       refine wN (hK _ ?_);clear hK
       cases h25
       exact ⟨_,[],rfl,by simp [hN']⟩
    ·refine SWp.cF' (b:=decide (i24 < (p1.Fns.length:Int))) (by simp) hb29 ?_
     refine SWp.exit ?_
     have h46:=congrArg some (ho26 _ (Option.some.inj h25).symm)
     cases h46
     exact hK21 _ _ [] rfl (by simp [hN'])
   subst hv
   obtain ⟨used47,hv⟩:∃ y,y=v:=⟨_,rfl⟩
   subst hv
   try dsimp only at h ⊢
   obtain ⟨j50,hj48,h⟩:=bS h
   refine SWp.seqC [] [] (fun v:Unit=>⟨[],[]⟩) (fun v=>j50=Sum.inl v) (fun v hv=>?_) fun K49 hK49=>?_
   rotate_left
   ·refine SWp.sR rfl (hPB _ rfl) fun K hK=>?_
    refine wC rfl fun K hK=>?_;simp [hN'];refine hK _ ?_;clear hK
    refine wN (hK _ ?_);clear hK
    refine SWp.block ?_
    refine SWp.loopO [] [4,6] [] (fun v:Int=>⟨[(4,.t (.sl true 1 (List.map vi used47))),(6,.t (vi v))],[]⟩) (cC used47) _ 0 hj48 (by simp [hN']) ?_
    intro g s54 h52 ho53
    obtain ⟨i51,hg⟩:∃ y,y=g:=⟨_,rfl⟩
    subst hg
    simp only [cC] at h52
    try dsimp only
    refine SWp.seq ?_
    refine SWp.sR rfl (hPB _ rfl) fun K hK=>?_
    iterate 4 (refine wC rfl fun K hK=>?_;simp [hN'];refine hK _ ?_;clear hK)
    refine wN (hK _ ?_);clear hK
    rcases aA h52 with ⟨hb55,h52⟩ | ⟨hb56,h52⟩
    ·refine SWp.cT' (b:=decide (i51 < (used47.length:Int))) (by simp) hb55 ?_
     refine SWp.skip ?_
     show SWp E C _ _ _
     refine SWp.seq ?_
     refine SWp.block ?_
     obtain ⟨v62,hj57,h52⟩:=bS h52
     refine SWp.seqRC rfl (hPB _ rfl) [4,6,107] [] (fun _:Unit=>⟨[(4,.t (.sl true 1 (List.map vi used47))),(6,.t (vi i51)),(107,.t (vb v62))],[]⟩) (fun _=>True) (fun _ _=>?_) fun K58 hK58=>?_
     rotate_left
     ·refine wC rfl fun K hK=>?_;simp [hN'];refine hK _ ?_;clear hK
      refine wC rfl fun K hK=>?_;simp [hN'];refine hK _ ?_;clear hK
      obtain ⟨e59,he59,hj57⟩:=bS hj57
      obtain ⟨he59a,he59b,he59c,he59d⟩:=gS he59
      iterate 4 (refine wC rfl fun K hK=>?_;simp [hN',he59a,he59b,he59c,he59d];refine hK _ ?_;clear hK)
      rcases aA hj57 with ⟨hb60,hj57⟩ | ⟨hb61,hj57⟩
      ·have hb60s:=hb60
       try simp at hb60s
       iterate 6 (refine wC rfl fun K hK=>?_;simp [hN',he59a,he59b,he59c,he59d,hb60,hb60s];refine hK _ ?_;clear hK)
       refine wN ?_
       cases hj57
       exact hK58 _ () [] trivial (by simp [hN',he59a,he59b,he59c,he59d,hb60,hb60s])
      ·have hb61s:=hb61
       try simp at hb61s
       iterate 5 (refine wO fun K hK=>?_;simp [hN',he59a,he59b,he59c,he59d,hb61,hb61s];refine hK _ ?_;clear hK)
       refine wC rfl fun K hK=>?_;simp [hN',he59a,he59b,he59c,he59d,hb61,hb61s];refine hK _ ?_;clear hK
       refine wN ?_
       cases hj57
       exact hK58 _ () [] trivial (by simp [hN',he59a,he59b,he59c,he59d,hb61,hb61s])
     rcases aA h52 with ⟨hb63,h52⟩ | ⟨hb64,h52⟩
     ·refine SWp.cT' (b:=v62) (by simp) hb63 ?_
      refine SWp.sR rfl (hPB _ rfl) fun K hK=>?_
      refine wC rfl fun K hK=>?_;simp [hN'];refine hK _ ?_;clear hK
      refine wN (hK _ ?_);clear hK
      have h65:=congrArg some (ho53 _ (Option.some.inj h52).symm)
      cases h65
      try dsimp only at h
      cases h
      refine SWp.ret ?_
      simp [aC,iB,res24]
     ·refine SWp.cF' (b:=v62) (by simp) hb64 ?_
      refine SWp.skip ?_
      show SWp E C _ _ _
      refine SWp.reg rfl (hPB _ rfl) fun K hK=>?_
      iterate 3 (refine wC rfl fun K hK=>?_;simp [hN'];refine hK _ ?_;clear hK)
      refine wN (hK _ ?_);clear hK
      cases h52
      exact ⟨_,[],rfl,by simp [hN']⟩
    ·refine SWp.cF' (b:=decide (i51 < (used47.length:Int))) (by simp) hb56 ?_
     refine SWp.exit ?_
     have h66:=congrArg some (ho53 _ (Option.some.inj h52).symm)
     cases h66
     exact hK49 _ _ [] rfl (by simp [hN'])
   subst hv
   obtain ⟨⟩:=v
   try dsimp only at h ⊢
   refine SWp.sR rfl (hPB _ rfl) fun K hK=>?_
   refine wC rfl fun K hK=>?_;simp [hN'];refine hK _ ?_;clear hK
   refine wN (hK _ ?_);clear hK
   cases h
   refine SWp.ret ?_
   simp [aC,iB,res24]
theorem res95:Tryz.f95.results.toList=[.tmp 4]:=rfl
theorem ent95:aF E.P 95:=eO Tryz.func95 (by simp [Tryz.f95]) rfl
theorem spec_DeepOf_ok (nodes1:List GNode) (k2:Int) {r0:Int} (h:kA nodes1 k2=some r0):Ok E 95 [.val (.sl false 4 (List.map (GNode.enc false) nodes1)),.val (vi k2)] [vi r0] []:=by
 refine oB (fn:=Tryz.f95) Tryz.func95 rfl (by simp [Tryz.f95]) fun C hN hP=>?_
 have u:∀ l,pinK [] l=true→pinB C.pin l=true:=pO (by rw [hP];rfl)
 have y:C.N=17:=hN
 clear hN
 unfold kA at h
 refine SWp.sR rfl (u _ rfl) fun K q=>?_
 refine wC rfl fun K q=>?_;simp [y];refine q _ ?_;clear q
 refine wN (q _ ?_);clear q
 refine SWp.seq ?_
 refine SWp.sR rfl (u _ rfl) fun K q=>?_
 iterate 4 (refine wC rfl fun K q=>?_;simp [y];refine q _ ?_;clear q)
 obtain ⟨r3,hc4,h⟩:=bS h
 refine wL [(.take,.tmp 5),(.take,.const (.int .i64 0)),(.take,.tmp 8)] rfl rfl nB (aM _ _ _ hc4) fun K q=>?_;simp [y];refine q _ ?_;clear q
 refine wC rfl fun K q=>?_;simp [y];refine q _ ?_;clear q
 refine wN (q _ ?_);clear q
 rcases aA h with ⟨hb5,h⟩ | ⟨hb6,h⟩
 ·refine SWp.cT' (b:=!r3) (by simp) hb5 ?_
  refine SWp.sR rfl (u _ rfl) fun K q=>?_
  refine wC rfl fun K q=>?_;simp [y];refine q _ ?_;clear q
  refine wN (q _ ?_);clear q
  cases h
  refine SWp.ret ?_
  simp [aC,iB,res95]
 ·refine SWp.cF' (b:=!r3) (by simp) hb6 ?_
  refine SWp.skip ?_
  show SWp E C _ _ _
  refine SWp.sR rfl (u _ rfl) fun K q=>?_
  iterate 2 (refine wC rfl fun K q=>?_;simp [y];refine q _ ?_;clear q)
  obtain ⟨r7,hc8,h⟩:=bS h
  refine wL [(.take,.tmp 11),(.take,.tmp 12)] rfl rfl ent54 (mQ _ _ hc8) fun K q=>?_;simp [y];refine q _ ?_;clear q
  refine wC rfl fun K q=>?_;simp [y];refine q _ ?_;clear q
  obtain ⟨e9,he9,h⟩:=bS h
  obtain ⟨he9a,he9b,he9c,he9d⟩:=gS he9
  iterate 3 (refine wC rfl fun K q=>?_;simp [y,he9a,he9b,he9c,he9d];refine q _ ?_;clear q)
  refine wN (q _ ?_);clear q
  cases h
  refine SWp.ret ?_
  simp [aC,iB,res95]
theorem res96:Tryz.f96.results.toList=[]:=rfl
theorem ent96:aF E.P 96:=eO Tryz.func96 (by simp [Tryz.f96]) rfl
theorem spec_l04Mark_b_ok (rec_spec_l04Mark:(List GNode)→Int→(List Bool)→Option (List Bool)) (hrec_spec_l04Mark:∀ (a0:List GNode) (a1:Int) (a2:List Bool) {q2:List Bool},rec_spec_l04Mark a0 a1 a2=some q2→OkIO E 96 [.val (.sl false 4 (List.map (GNode.enc false) a0)),.val (vi a1),.val (.sl true 1 (List.map vb a2))] [] [] [(2,.sl true 1 (List.map vb q2))]) (nodes1:List GNode) (k2:Int) (seen3:List Bool) {q2:List Bool} (h:fQ rec_spec_l04Mark nodes1 k2 seen3=some q2):OkIO E 96 [.val (.sl false 4 (List.map (GNode.enc false) nodes1)),.val (vi k2),.val (.sl true 1 (List.map vb seen3))] [] [] [(2,.sl true 1 (List.map vb q2))]:=by
 refine okIO_of_body (fn:=Tryz.f96) [(2,.sl true 1 (List.map vb q2))] Tryz.func96 rfl (by simp [Tryz.f96]) rfl fun C hN hP=>?_
 have u:∀ l,pinK [2] l=true→pinB C.pin l=true:=pO (by rw [hP];rfl)
 have y:C.N=35:=hN
 clear hN
 unfold fQ at h
 refine SWp.seq ?_
 refine SWp.sR rfl (u _ rfl) fun K q=>?_
 iterate 2 (refine wC rfl fun K q=>?_;simp [y];refine q _ ?_;clear q)
 obtain ⟨e4,he4,h⟩:=bS h
 obtain ⟨he4a,he4b,he4c,he4d⟩:=gS he4
 iterate 2 (refine wC rfl fun K q=>?_;simp [y,he4a,he4b,he4c,he4d];refine q _ ?_;clear q)
 refine wN (q _ ?_);clear q
 rcases aA h with ⟨hb5,h⟩ | ⟨hb6,h⟩
 ·refine SWp.cT' (b:=e4) (by simp) hb5 ?_
  cases h
  refine SWp.ret ?_
  simp [aC,iB,res96]
 ·refine SWp.cF' (b:=e4) (by simp) hb6 ?_
  refine SWp.skip ?_
  show SWp E C _ _ _
  refine SWp.sR rfl (u _ rfl) fun K q=>?_
  iterate 2 (refine wC rfl fun K q=>?_;simp [y];refine q _ ?_;clear q)
  obtain ⟨e7,he7,h⟩:=bS h
  obtain ⟨he7a,he7b,he7c,he7d⟩:=gS he7
  refine wC rfl fun K q=>?_;simp [y,he7a,he7b,he7c,he7d];refine q _ ?_;clear q
  obtain ⟨l8,hl8,h⟩:=bZ h
  have hl8f:(List.map vb seen3).set k2.toNat (vb true)=List.map vb l8:=jH (f:=vb) hl8
  try simp only [Int.toNat_natCast] at hl8f
  refine wC rfl fun K q=>?_;simp [y,he7a,he7b,he7c,he7d,hl8f];refine q _ ?_;clear q
  refine wN (q _ ?_);clear q
  refine SWp.sR rfl (u _ rfl) fun K q=>?_
  refine wC rfl fun K q=>?_;simp [y];refine q _ ?_;clear q
  refine wN (q _ ?_);clear q
  refine SWp.block ?_
  refine SWp.loopO [] [0,1,2,6] [] (fun v:(List Bool) × Int=>⟨[(0,.t (.sl false 4 (List.map (GNode.enc false) nodes1))),(1,.t (vi k2)),(2,.t (.sl true 1 (List.map vb v.1))),(6,.t (vi v.2))],[]⟩) (dB rec_spec_l04Mark nodes1 k2) _ (l8,0) h (by simp [y]) ?_
  intro g s13 h11 ho12
  obtain ⟨seen9,i10⟩:=g
  simp only [dB] at h11
  try dsimp only
  refine SWp.seq ?_
  refine SWp.sR rfl (u _ rfl) fun K q=>?_
  iterate 3 (refine wC rfl fun K q=>?_;simp [y];refine q _ ?_;clear q)
  obtain ⟨e14,he14,h11⟩:=bS h11
  obtain ⟨he14a,he14b,he14c,he14d⟩:=gS he14
  iterate 5 (refine wC rfl fun K q=>?_;simp [y,he14a,he14b,he14c,he14d];refine q _ ?_;clear q)
  refine wN (q _ ?_);clear q
  rcases aA h11 with ⟨hb15,h11⟩ | ⟨hb16,h11⟩
  ·refine SWp.cT' (b:=decide (i10 < (e14.Kids.length:Int))) (by simp) hb15 ?_
   refine SWp.skip ?_
   show SWp E C _ _ _
   refine SWp.seq ?_
   refine SWp.block ?_
   refine SWp.reg rfl (u _ rfl) fun K q=>?_
   iterate 3 (refine wC rfl fun K q=>?_;simp [y];refine q _ ?_;clear q)
   obtain ⟨e17,he17,h11⟩:=bS h11
   obtain ⟨he17a,he17b,he17c,he17d⟩:=gS he17
   iterate 4 (refine wC rfl fun K q=>?_;simp [y,he17a,he17b,he17c,he17d];refine q _ ?_;clear q)
   obtain ⟨e18,he18,h11⟩:=bS h11
   obtain ⟨he18a,he18b,he18c,he18d⟩:=gS he18
   iterate 3 (refine wC rfl fun K q=>?_;simp [y,he17a,he17b,he17c,he17d,he18a,he18b,he18c,he18d];refine q _ ?_;clear q)
   obtain ⟨q19,hc20,h11⟩:=bS h11
   refine pP [.tmp 24,.tmp 32] rfl ent96 (hrec_spec_l04Mark _ _ _ hc20) fun K q=>?_;simp [y,he17a,he17b,he17c,he17d,he18a,he18b,he18c,he18d];refine q _ ?_;clear q
   refine wN (q _ ?_);clear q
   show SWp E C _ _ _
   refine SWp.reg rfl (u _ rfl) fun K q=>?_
   iterate 3 (refine wC rfl fun K q=>?_;simp [y];refine q _ ?_;clear q)
   refine wN (q _ ?_);clear q
   cases h11
   exact ⟨_,[],rfl,by simp [y]⟩
  ·refine SWp.cF' (b:=decide (i10 < (e14.Kids.length:Int))) (by simp) hb16 ?_
   refine SWp.exit ?_
   have h21:=congrArg some (ho12 _ (Option.some.inj h11).symm)
   cases h21
   simp [aC,iB,res96]
theorem jX:∀ n:Nat,(∀ (a0:List GNode) (a1:Int) (a2:List Bool) {q2:List Bool},(bQ n) a0 a1 a2=some q2→OkIO E 96 [.val (.sl false 4 (List.map (GNode.enc false) a0)),.val (vi a1),.val (.sl true 1 (List.map vb a2))] [] [] [(2,.sl true 1 (List.map vb q2))])
 | 0=>(by intros;rename_i h;cases h)
 | n + 1=>spec_l04Mark_b_ok (bQ n) (jX n)
theorem spec_l04Mark_ok:∀ (a0:List GNode) (a1:Int) (a2:List Bool) {q2:List Bool},nJ a0 a1 a2=some q2→OkIO E 96 [.val (.sl false 4 (List.map (GNode.enc false) a0)),.val (vi a1),.val (.sl true 1 (List.map vb a2))] [] [] [(2,.sl true 1 (List.map vb q2))]:=(jX dG)
theorem res74:Tryz.f74.results.toList=[.tmp 4]:=rfl
theorem ent74:aF E.P 74:=eO Tryz.func74 (by simp [Tryz.f74]) rfl
theorem mG (p1:GProgram) (k2:Int) {r0:List Int} (h:hJ p1 k2=some r0):Ok E 74 [.val (GProgram.enc false p1),.val (vi k2)] [.sl true 1 (List.map vi r0)] []:=by
 refine oB (fn:=Tryz.f74) Tryz.func74 rfl (by simp [Tryz.f74]) fun C hN hP=>?_
 have u:∀ l,pinK [] l=true→pinB C.pin l=true:=pO (by rw [hP];rfl)
 have y:C.N=39:=hN
 clear hN
 unfold hJ at h
 refine SWp.sR rfl (u _ rfl) fun K q=>?_
 iterate 2 (refine wC rfl fun K q=>?_;simp [y];refine q _ ?_;clear q)
 refine wN (q _ ?_);clear q
 refine SWp.sR rfl (u _ rfl) fun K q=>?_
 iterate 2 (refine wC rfl fun K q=>?_;simp [y];refine q _ ?_;clear q)
 refine wN (q _ ?_);clear q
 refine SWp.seq ?_
 refine SWp.sR rfl (u _ rfl) fun K q=>?_
 iterate 3 (refine wC rfl fun K q=>?_;simp [y];refine q _ ?_;clear q)
 obtain ⟨r3,hc4,h⟩:=bS h
 refine wL [(.take,.tmp 10),(.take,.tmp 11)] rfl rfl ent95 (spec_DeepOf_ok _ _ hc4) fun K q=>?_;simp [y];refine q _ ?_;clear q
 refine wC rfl fun K q=>?_;simp [y];refine q _ ?_;clear q
 refine wN (q _ ?_);clear q
 rcases aA h with ⟨hb5,h⟩ | ⟨hb6,h⟩
 ·refine SWp.cT' (b:=r3 == 0) (by simp) hb5 ?_
  refine SWp.sR rfl (u _ rfl) fun K q=>?_
  iterate 2 (refine wC rfl fun K q=>?_;simp [y];refine q _ ?_;clear q)
  refine wN (q _ ?_);clear q
  cases h
  refine SWp.ret ?_
  simp [aC,iB,res74]
 ·refine SWp.cF' (b:=r3 == 0) (by simp) hb6 ?_
  refine SWp.skip ?_
  show SWp E C _ _ _
  refine SWp.sR rfl (u _ rfl) fun K q=>?_
  iterate 3 (refine wC rfl fun K q=>?_;simp [y];refine q _ ?_;clear q)
  obtain ⟨l7,hl7,h⟩:=bS h
  obtain ⟨hl7a,hl7b,hl7c,hl7d⟩:=mS hl7
  have hl7f:List.replicate (p1.Nodes.length:Int).toNat (vb false)=List.map vb l7:=nN (f:=vb) hl7d
  try simp only [Int.toNat_natCast] at hl7f
  iterate 2 (refine wC rfl fun K q=>?_;simp [y,hl7a,hl7b,hl7c,hl7f];refine q _ ?_;clear q)
  refine wN (q _ ?_);clear q
  refine SWp.sR rfl (u _ rfl) fun K q=>?_
  iterate 4 (refine wC rfl fun K q=>?_;simp [y];refine q _ ?_;clear q)
  obtain ⟨q8,hc9,h⟩:=bS h
  refine pP [.tmp 20,.tmp 21] rfl ent96 (spec_l04Mark_ok _ _ _ hc9) fun K q=>?_;simp [y];refine q _ ?_;clear q
  refine wN (q _ ?_);clear q
  obtain ⟨out25,hj10,h⟩:=bS h
  refine SWp.seqC [5] [] (fun _:Unit=>⟨[(5,.t (.sl true 1 (List.map vi out25)))],[]⟩) (fun _=>True) (fun _ _=>?_) fun K11 hK11=>?_
  rotate_left
  ·refine SWp.sR rfl (u _ rfl) fun K q=>?_
   refine wC rfl fun K q=>?_;simp [y];refine q _ ?_;clear q
   refine wN (q _ ?_);clear q
   refine SWp.block ?_
   refine SWp.loopO [] [5,6,7] [] (fun v:(List Int) × Int=>⟨[(5,.t (.sl true 1 (List.map vi v.1))),(6,.t (.sl true 1 (List.map vb q8))),(7,.t (vi v.2))],[]⟩) (fE q8) _ ([],0) hj10 (by simp [y]) ?_
   intro g s17 h15 ho16
   obtain ⟨out13,i14⟩:=g
   simp only [fE] at h15
   try dsimp only
   refine SWp.seq ?_
   refine SWp.sR rfl (u _ rfl) fun K q=>?_
   iterate 4 (refine wC rfl fun K q=>?_;simp [y];refine q _ ?_;clear q)
   refine wN (q _ ?_);clear q
   rcases aA h15 with ⟨hb18,h15⟩ | ⟨hb19,h15⟩
   ·refine SWp.cT' (b:=decide (i14 < (q8.length:Int))) (by simp) hb18 ?_
    refine SWp.skip ?_
    show SWp E C _ _ _
    refine SWp.seq ?_
    refine SWp.block ?_
    refine SWp.sR rfl (u _ rfl) fun K q=>?_
    iterate 2 (refine wC rfl fun K q=>?_;simp [y];refine q _ ?_;clear q)
    obtain ⟨e20,he20,h15⟩:=bS h15
    obtain ⟨he20a,he20b,he20c,he20d⟩:=gS he20
    iterate 2 (refine wC rfl fun K q=>?_;simp [y,he20a,he20b,he20c,he20d];refine q _ ?_;clear q)
    refine wN (q _ ?_);clear q
    rcases aA h15 with ⟨hb21,h15⟩ | ⟨hb22,h15⟩
    ·refine SWp.cT' (b:=e20) (by simp) hb21 ?_
     refine SWp.reg rfl (u _ rfl) fun K q=>?_
     iterate 3 (refine wC rfl fun K q=>?_;simp [y];refine q _ ?_;clear q)
     obtain ⟨l23,hl23,h15⟩:=bS h15
     obtain ⟨hl23a,hl23b,hl23d⟩:=aS hl23
     have hl23f:List.map vi out13 ++ List.map vi [i14]=List.map vi l23:=dV (f:=vi) hl23d
     simp [eSl] at hl23a hl23b hl23f
     iterate 2 (refine wC rfl fun K q=>?_;simp [y,hl23a,hl23b,hl23f];refine q _ ?_;clear q)
     refine wN (q _ ?_);clear q
     show SWp E C _ _ _
     refine SWp.reg rfl (u _ rfl) fun K q=>?_
     iterate 3 (refine wC rfl fun K q=>?_;simp [y];refine q _ ?_;clear q)
     refine wN (q _ ?_);clear q
     cases h15
     exact ⟨_,[],rfl,by simp [y]⟩
    ·refine SWp.cF' (b:=e20) (by simp) hb22 ?_
     refine SWp.skip ?_
     show SWp E C _ _ _
     refine SWp.reg rfl (u _ rfl) fun K q=>?_
     iterate 3 (refine wC rfl fun K q=>?_;simp [y];refine q _ ?_;clear q)
     refine wN (q _ ?_);clear q
     cases h15
     exact ⟨_,[],rfl,by simp [y]⟩
   ·refine SWp.cF' (b:=decide (i14 < (q8.length:Int))) (by simp) hb19 ?_
    refine SWp.exit ?_
    have h24:=congrArg some (ho16 _ (Option.some.inj h15).symm)
    cases h24
    exact hK11 _ () [] trivial (by simp [y])
  refine SWp.sR rfl (u _ rfl) fun K q=>?_
  iterate 2 (refine wC rfl fun K q=>?_;simp [y];refine q _ ?_;clear q)
  refine wN (q _ ?_);clear q
  cases h
  refine SWp.ret ?_
  simp [aC,iB,res74]
theorem res39:Tryz.f39.results.toList=[.tmp 4]:=rfl
theorem ent39:aF E.P 39:=eO Tryz.func39 (by simp [Tryz.f39]) rfl
theorem spec_VarsOf_ok (p1:GProgram) (fn2:Int) {r0:List GVar} (h:jY p1 fn2=some r0):Ok E 39 [.val (GProgram.enc false p1),.val (vi fn2)] [.sl true 3 (List.map GVar.enc r0)] []:=by
 refine oB (fn:=Tryz.f39) Tryz.func39 rfl (by simp [Tryz.f39]) fun C hN hP=>?_
 have u:∀ l,pinK [] l=true→pinB C.pin l=true:=pO (by rw [hP];rfl)
 have y:C.N=85:=hN
 clear hN
 unfold jY at h
 refine SWp.sR rfl (u _ rfl) fun K q=>?_
 iterate 2 (refine wC rfl fun K q=>?_;simp [y];refine q _ ?_;clear q)
 refine wN (q _ ?_);clear q
 refine SWp.sR rfl (u _ rfl) fun K q=>?_
 iterate 2 (refine wC rfl fun K q=>?_;simp [y];refine q _ ?_;clear q)
 refine wN (q _ ?_);clear q
 refine SWp.seq ?_
 refine SWp.sR rfl (u _ rfl) fun K q=>?_
 iterate 5 (refine wC rfl fun K q=>?_;simp [y];refine q _ ?_;clear q)
 obtain ⟨r3,hc4,h⟩:=bS h
 refine wL [(.take,.tmp 11),(.take,.const (.int .i64 0)),(.take,.tmp 15)] rfl rfl nB (aM _ _ _ hc4) fun K q=>?_;simp [y];refine q _ ?_;clear q
 refine wC rfl fun K q=>?_;simp [y];refine q _ ?_;clear q
 refine wN (q _ ?_);clear q
 rcases aA h with ⟨hb5,h⟩ | ⟨hb6,h⟩
 ·refine SWp.cT' (b:=!r3) (by simp) hb5 ?_
  refine SWp.sR rfl (u _ rfl) fun K q=>?_
  iterate 2 (refine wC rfl fun K q=>?_;simp [y];refine q _ ?_;clear q)
  refine wN (q _ ?_);clear q
  cases h
  refine SWp.ret ?_
  simp [aC,iB,res39]
 ·refine SWp.cF' (b:=!r3) (by simp) hb6 ?_
  refine SWp.skip ?_
  show SWp E C _ _ _
  refine SWp.sR rfl (u _ rfl) fun K q=>?_
  iterate 3 (refine wC rfl fun K q=>?_;simp [y];refine q _ ?_;clear q)
  obtain ⟨e7,he7,h⟩:=bS h
  obtain ⟨he7a,he7b,he7c,he7d⟩:=gS he7
  iterate 4 (refine wC rfl fun K q=>?_;simp [y,he7a,he7b,he7c,he7d];refine q _ ?_;clear q)
  refine wN (q _ ?_);clear q
  obtain ⟨out22,hj8,h⟩:=bS h
  refine SWp.seqC [2,5,6] [2,6] (fun _:Unit=>⟨[(2,.ref (.box 2) 0 []),(5,.t (.sl true 3 (List.map GVar.enc out22))),(6,.ref (.box 6) 0 [])],[(2,[.sl false 4 (List.map (GNode.enc false) p1.Nodes),.sl false 5 (List.map (GFn.enc false) p1.Fns)]),(6,[vs e7.Name,.sl false 2 (List.map GParam.enc e7.Params),vi e7.Res,vi e7.Body,vi e7.Ret])]⟩) (fun _=>True) (fun _ _=>?_) fun K9 hK9=>?_
  rotate_left
  ·refine SWp.sR rfl (u _ rfl) fun K q=>?_
   refine wC rfl fun K q=>?_;simp [y];refine q _ ?_;clear q
   refine wN (q _ ?_);clear q
   refine SWp.block ?_
   refine SWp.loopO [] [2,5,6,7] [2,6] (fun v:(List GVar) × Int=>⟨[(2,.ref (.box 2) 0 []),(5,.t (.sl true 3 (List.map GVar.enc v.1))),(6,.ref (.box 6) 0 []),(7,.t (vi v.2))],[(2,[.sl false 4 (List.map (GNode.enc false) p1.Nodes),.sl false 5 (List.map (GFn.enc false) p1.Fns)]),(6,[vs e7.Name,.sl false 2 (List.map GParam.enc e7.Params),vi e7.Res,vi e7.Body,vi e7.Ret])]⟩) (eE e7) _ ([],0) hj8 (by simp [y]) ?_
   intro g s15 h13 ho14
   obtain ⟨out11,i12⟩:=g
   simp only [eE] at h13
   try dsimp only
   refine SWp.seq ?_
   refine SWp.sR rfl (u _ rfl) fun K q=>?_
   iterate 5 (refine wC rfl fun K q=>?_;simp [y];refine q _ ?_;clear q)
   refine wN (q _ ?_);clear q
   rcases aA h13 with ⟨hb16,h13⟩ | ⟨hb17,h13⟩
   ·refine SWp.cT' (b:=decide (i12 < (e7.Params.length:Int))) (by simp) hb16 ?_
    refine SWp.skip ?_
    show SWp E C _ _ _
    refine SWp.seq ?_
    refine SWp.block ?_
    obtain ⟨e19,he19,h13⟩:=bS h13
    obtain ⟨he19a,he19b,he19c,he19d⟩:=gS he19
    refine SWp.dT rfl (u _ rfl) [(31,.al (.slot 5) 0 [] none),(32,.ref (.box 6) 1 []),(33,.t (.sl false 2 (List.map GParam.enc e7.Params))),(34,.t (vi i12)),(35,.rop [vs e19.Name,vi e19.Typ] 0),(36,.rop [vs e19.Name,vi e19.Typ] 0),(37,.t (vs e19.Name)),(38,.ref (.box 6) 1 []),(39,.t (.sl false 2 (List.map GParam.enc e7.Params))),(40,.t (vi i12)),(41,.rop [vs e19.Name,vi e19.Typ] 0),(42,.rop [vs e19.Name,vi e19.Typ] 1),(43,.t (vi e19.Typ)),(44,.t (.agg [vs e19.Name,vi e19.Typ,vi (-1)])),(45,.t (.sl true 3 (List.map GVar.enc [(⟨e19.Name,e19.Typ,(-1)⟩:GVar)])))] [[],[],[1],[],[1,2,3],[1,2,3,4],[1,2,3,4,5],[],[7],[],[7,8,9],[7,8,9,10],[7,8,9,10,11],[1,2,3,4,5,6,7,8,9,10,11,12],[1,2,3,4,5,6,7,8,9,10,11,12,13],[0,1,2,3,4,5,6,7,8,9,10,11,12,13,14],[0,1,2,3,4,5,6,7,8,9,10,11,12,13,14,15]] (by simp) (by simp) (by simp [look]) rfl rfl rfl ?_ fun K q=>?_
    ·refine ⟨?_,?_,?_,?_,?_,?_,?_,?_,?_,?_,?_,?_,?_,?_,?_,trivial⟩
     all_goals (intro τ hbx hb hd hf K q;try simp [vsAt] at hd;simp [vsAt] at hf;first | (refine wC rfl fun K' q'=>?_;simp [y,hbx,hb,hd,hf,he19a,he19b,he19c,he19d];exact q' _ (wN (q _ (by simp [vsAt,hbx,he19a,he19b,he19c,he19d])))))
    obtain ⟨l20,hl20,h13⟩:=bS h13
    obtain ⟨hl20a,hl20b,hl20d⟩:=aS hl20
    have hl20f:List.map GVar.enc out11 ++ List.map GVar.enc [(⟨e19.Name,e19.Typ,(-1)⟩:GVar)]=List.map GVar.enc l20:=dV (f:=GVar.enc) hl20d
    simp [eSl,GVar.enc] at hl20a hl20b hl20f
    iterate 2 (refine wC rfl fun K q=>?_;simp [y,he19a,he19b,he19c,he19d,hl20a,hl20b,hl20f];refine q _ ?_;clear q)
    refine wN (q _ ?_);clear q
    show SWp E C _ _ _
    refine SWp.reg rfl (u _ rfl) fun K q=>?_
    iterate 3 (refine wC rfl fun K q=>?_;simp [y];refine q _ ?_;clear q)
    refine wN (q _ ?_);clear q
    cases h13
    exact ⟨_,[],rfl,by simp [y]⟩
   ·refine SWp.cF' (b:=decide (i12 < (e7.Params.length:Int))) (by simp) hb17 ?_
    refine SWp.exit ?_
    have h21:=congrArg some (ho14 _ (Option.some.inj h13).symm)
    cases h21
    exact hK9 _ () [] trivial (by simp [y])
  refine SWp.sR rfl (u _ rfl) fun K q=>?_
  iterate 3 (refine wC rfl fun K q=>?_;simp [y];refine q _ ?_;clear q)
  obtain ⟨r23,hc24,h⟩:=bS h
  refine wL [(.take,.tmp 47),(.take,.tmp 49)] rfl rfl ent74 (mG _ _ hc24) fun K q=>?_;simp [y];refine q _ ?_;clear q
  refine wC rfl fun K q=>?_;simp [y];refine q _ ?_;clear q
  refine wN (q _ ?_);clear q
  obtain ⟨out45,hj25,h⟩:=bS h
  refine SWp.seqC [5] [] (fun _:Unit=>⟨[(5,.t (.sl true 3 (List.map GVar.enc out45)))],[]⟩) (fun _=>True) (fun _ _=>?_) fun K26 hK26=>?_
  rotate_left
  ·refine SWp.sR rfl (u _ rfl) fun K q=>?_
   refine wC rfl fun K q=>?_;simp [y];refine q _ ?_;clear q
   refine wN (q _ ?_);clear q
   refine SWp.block ?_
   refine SWp.loopO [] [2,5,8,9] [2] (fun v:(List GVar) × Int=>⟨[(2,.ref (.box 2) 0 []),(5,.t (.sl true 3 (List.map GVar.enc v.1))),(8,.t (.sl true 1 (List.map vi r23))),(9,.t (vi v.2))],[(2,[.sl false 4 (List.map (GNode.enc false) p1.Nodes),.sl false 5 (List.map (GFn.enc false) p1.Fns)])]⟩) (eD p1 r23) _ (out22,0) hj25 (by simp [y]) ?_
   intro g s32 h30 ho31
   obtain ⟨out28,i29⟩:=g
   simp only [eD] at h30
   try dsimp only
   refine SWp.seq ?_
   refine SWp.sR rfl (u _ rfl) fun K q=>?_
   iterate 4 (refine wC rfl fun K q=>?_;simp [y];refine q _ ?_;clear q)
   refine wN (q _ ?_);clear q
   rcases aA h30 with ⟨hb33,h30⟩ | ⟨hb34,h30⟩
   ·refine SWp.cT' (b:=decide (i29 < (r23.length:Int))) (by simp) hb33 ?_
    refine SWp.skip ?_
    show SWp E C _ _ _
    refine SWp.seq ?_
    refine SWp.block ?_
    refine SWp.seq ?_
    obtain ⟨e36,he36,h30⟩:=bS h30
    obtain ⟨he36a,he36b,he36c,he36d⟩:=gS he36
    refine SWp.dT rfl (u _ rfl) [(57,.ref (.box 2) 0 []),(58,.t (.sl false 4 (List.map (GNode.enc false) p1.Nodes))),(59,.al (.slot 8) 0 [] none),(60,.t (vi i29)),(61,.ref (.slot 8) 0 [(i29.toNat,0)]),(62,.t (vi e36))] [[],[0],[],[],[2,3],[2,3,4],[0,1,2,3,4,5],[0,1,2,3,4,5,6],[0,1,2,3,4,5,6,7],[0,1,2,3,4,5,6,7,8]] (by simp) (by simp) (by simp [look]) rfl rfl rfl ?_ fun K q=>?_
    ·refine ⟨?_,?_,?_,?_,?_,?_,trivial⟩
     all_goals (intro τ hbx hb hd hf K q;try simp [vsAt] at hd;simp [vsAt] at hf;first | (refine wC rfl fun K' q'=>?_;simp [y,hbx,hb,hd,hf,he36a,he36b,he36c,he36d];exact q' _ (wN (q _ (by simp [vsAt,hbx,he36a,he36b,he36c,he36d])))))
    obtain ⟨e37,he37,h30⟩:=bS h30
    obtain ⟨he37a,he37b,he37c,he37d⟩:=gS he37
    iterate 4 (refine wC rfl fun K q=>?_;simp [y,he36a,he36b,he36c,he36d,he37a,he37b,he37c,he37d];refine q _ ?_;clear q)
    refine wN (q _ ?_);clear q
    show SWp E C _ _ _
    rcases aA h30 with ⟨hb38,h30⟩ | ⟨hb39,h30⟩
    ·refine SWp.cT' (b:=e37.Kind == 13) (by simp) hb38 ?_
     obtain ⟨e41,he41,h30⟩:=bS h30
     obtain ⟨he41a,he41b,he41c,he41d⟩:=gS he41
     obtain ⟨e42,he42,h30⟩:=bS h30
     obtain ⟨he42a,he42b,he42c,he42d⟩:=gS he42
     refine SWp.dT rfl (u _ rfl) [(67,.al (.slot 5) 0 [] none),(68,.ref (.box 2) 0 []),(69,.t (.sl false 4 (List.map (GNode.enc false) p1.Nodes))),(70,.al (.slot 8) 0 [] none),(71,.t (vi i29)),(72,.ref (.slot 8) 0 [(i29.toNat,0)]),(73,.t (vi e41)),(74,.rop [vi e42.Kind,vi e42.Num,vs e42.Name,.sl false 1 (List.map vi e42.Kids)] 0),(75,.rop [vi e42.Kind,vi e42.Num,vs e42.Name,.sl false 1 (List.map vi e42.Kids)] 2),(76,.t (vs e42.Name)),(77,.al (.slot 8) 0 [] none),(78,.t (vi i29)),(79,.ref (.slot 8) 0 [(i29.toNat,0)]),(80,.t (vi e41)),(81,.t (.agg [vs e42.Name,vi 0,vi e41])),(82,.t (.sl true 3 (List.map GVar.enc [(⟨e42.Name,0,e41⟩:GVar)])))] [[],[],[1],[],[],[3,4],[3,4,5],[1,2,3,4,5,6],[1,2,3,4,5,6,7],[1,2,3,4,5,6,7,8],[],[],[10,11],[10,11,12],[1,2,3,4,5,6,7,8,9,10,11,12,13],[1,2,3,4,5,6,7,8,9,10,11,12,13,14],[0,1,2,3,4,5,6,7,8,9,10,11,12,13,14,15],[0,1,2,3,4,5,6,7,8,9,10,11,12,13,14,15,16]] (by simp) (by simp) (by simp [look]) rfl rfl rfl ?_ fun K q=>?_
     ·refine ⟨?_,?_,?_,?_,?_,?_,?_,?_,?_,?_,?_,?_,?_,?_,?_,?_,trivial⟩
      all_goals (intro τ hbx hb hd hf K q;try simp [vsAt] at hd;simp [vsAt] at hf;first | (refine wC rfl fun K' q'=>?_;simp [y,hbx,hb,hd,hf,he41a,he41b,he41c,he41d,he42a,he42b,he42c,he42d];exact q' _ (wN (q _ (by simp [vsAt,hbx,he41a,he41b,he41c,he41d,he42a,he42b,he42c,he42d])))))
     obtain ⟨l43,hl43,h30⟩:=bS h30
     obtain ⟨hl43a,hl43b,hl43d⟩:=aS hl43
     have hl43f:List.map GVar.enc out28 ++ List.map GVar.enc [(⟨e42.Name,0,e41⟩:GVar)]=List.map GVar.enc l43:=dV (f:=GVar.enc) hl43d
     simp [eSl,GVar.enc] at hl43a hl43b hl43f
     iterate 2 (refine wC rfl fun K q=>?_;simp [y,he41a,he41b,he41c,he41d,he42a,he42b,he42c,he42d,hl43a,hl43b,hl43f];refine q _ ?_;clear q)
     refine wN (q _ ?_);clear q
     show SWp E C _ _ _
     refine SWp.reg rfl (u _ rfl) fun K q=>?_
     iterate 3 (refine wC rfl fun K q=>?_;simp [y];refine q _ ?_;clear q)
     refine wN (q _ ?_);clear q
     cases h30
     exact ⟨_,[],rfl,by simp [y]⟩
    ·refine SWp.cF' (b:=e37.Kind == 13) (by simp) hb39 ?_
     refine SWp.skip ?_
     show SWp E C _ _ _
     refine SWp.reg rfl (u _ rfl) fun K q=>?_
     iterate 3 (refine wC rfl fun K q=>?_;simp [y];refine q _ ?_;clear q)
     refine wN (q _ ?_);clear q
     cases h30
     exact ⟨_,[],rfl,by simp [y]⟩
   ·refine SWp.cF' (b:=decide (i29 < (r23.length:Int))) (by simp) hb34 ?_
    refine SWp.exit ?_
    have h44:=congrArg some (ho31 _ (Option.some.inj h30).symm)
    cases h44
    exact hK26 _ () [] trivial (by simp [y])
  refine SWp.sR rfl (u _ rfl) fun K q=>?_
  iterate 2 (refine wC rfl fun K q=>?_;simp [y];refine q _ ?_;clear q)
  refine wN (q _ ?_);clear q
  cases h
  refine SWp.ret ?_
  simp [aC,iB,res39]
end Go.Proofs.T
