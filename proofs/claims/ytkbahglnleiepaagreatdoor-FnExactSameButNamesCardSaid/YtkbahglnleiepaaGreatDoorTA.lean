import Derived.Test.YtkbahglnleiepaaGreatDoorOmC
import Derived.Lib.Split
import Derived.Lib.ItoaNum
import Derived.Test.YtkbahglnleiepaaGreatDoorProg
import Derived.KernelRfl
set_option linter.unusedVariables false
set_option linter.unusedSimpArgs false
set_option linter.unusedVariables false
noncomputable section
namespace Go.OM
def strconv_Itoa (n:Int):Option ByteArray:=if -9223372036854775808 ≤ n∧n ≤ 9223372036854775807 then some ⟨(Lib.itoa n).toArray⟩ else none
def strings_Split (s sep:ByteArray):Option (List ByteArray):=if s.size < 4294967281∧1 ≤ sep.size∧(Lib.splitB sep 0 (Lib.countB s sep) s).length=Lib.countB s sep + 1 then some (Lib.splitB sep 0 (Lib.countB s sep) s) else none
end Go.OM
end
namespace Go.OM
def sort_Ints (l:List Int):Option (List Int):=if l.length < 4611686018427387904 then some (l.mergeSort fun x y=>decide (x ≤ y)) else none
end Go.OM
set_option linter.unusedSimpArgs false
namespace Go.OM
def eK:Nat:=1048576
abbrev vi (n:Int):T:=.v (.int .i64 n)
abbrev vk (k:IntKind) (n:Int):T:=.v (.int k n)
abbrev vb (b:Bool):T:=.v (.bool b)
abbrev vs (z:ByteArray):T:=.v (.string z)
abbrev eSl {α:Type} (o:Bool) (s:Nat) (f:α→T) (l:List α):T:=.sl o s (l.map f)
@[simp] theorem own_vi (l:List Int):T.hasOwnL (l.map vi)=false:=cW vi (fun _=>rfl) l
@[simp] theorem own_vk (k:IntKind) (l:List Int):T.hasOwnL (l.map (vk k))=false:=cW _ (fun _=>rfl) l
@[simp] theorem own_vb (l:List Bool):T.hasOwnL (l.map vb)=false:=cW _ (fun _=>rfl) l
@[simp] theorem own_vs (l:List ByteArray):T.hasOwnL (l.map vs)=false:=cW _ (fun _=>rfl) l
@[simp] theorem ro_vi (l:List Int):T.roL (l.map vi)=l.map vi:=jO _ _ (fun _=>rfl) l
@[simp] theorem ro_vk (k:IntKind) (l:List Int):T.roL (l.map (vk k))=l.map (vk k):=jO _ _ (fun _=>rfl) l
@[simp] theorem ro_vb (l:List Bool):T.roL (l.map vb)=l.map vb:=jO _ _ (fun _=>rfl) l
@[simp] theorem ro_vs (l:List ByteArray):T.roL (l.map vs)=l.map vs:=jO _ _ (fun _=>rfl) l
@[simp] theorem noRo_vi (l:List Int):T.noRoL (l.map vi)=true:=fN _ (fun _=>rfl) l
@[simp] theorem noRo_vk (k:IntKind) (l:List Int):T.noRoL (l.map (vk k))=true:=fN _ (fun _=>rfl) l
@[simp] theorem noRo_vb (l:List Bool):T.noRoL (l.map vb)=true:=fN _ (fun _=>rfl) l
@[simp] theorem noRo_vs (l:List ByteArray):T.noRoL (l.map vs)=true:=fN _ (fun _=>rfl) l
@[simp] theorem own_eSl {α:Type} {s:Nat} {f:α→T} (h:∀ l:List α,T.hasOwnL (l.map f)=false) (l:List (List α)):T.hasOwnL (l.map (eSl false s f))=false:=cW _ (fun x=>by simp [h x]) l
@[simp] theorem ro_eSl {α:Type} {o:Bool} {s:Nat} {f:α→T} (h:∀ l:List α,T.roL (l.map f)=l.map f) (l:List (List α)):T.roL (l.map (eSl o s f))=l.map (eSl false s f):=jO _ _ (fun x=>by simp [h x]) l
@[simp] theorem noRo_eSl {α:Type} {s:Nat} {f:α→T} (h:∀ l:List α,T.noRoL (l.map f)=true) (l:List (List α)):T.noRoL (l.map (eSl true s f))=true:=fN _ (fun x=>by simp [h x]) l
theorem aA {α:Type} {c:Prop} [Decidable c] {a b:Option α} {r:α} (h:(if c then a else b)=some r):(c∧a=some r) ∨ (¬ c∧b=some r):=by
 by_cases hc:c
 ·rw [if_pos hc] at h;exact .inl ⟨hc,h⟩
 ·rw [if_neg hc] at h;exact .inr ⟨hc,h⟩
structure GNode where
 Kind:Int
 Num:Int
 Name:ByteArray
 Kids:List Int
 deriving DecidableEq
def GNode.enc (o:Bool) (x:GNode):T:=.agg [vi x.Kind,vi x.Num,vs x.Name,.sl o 1 (List.map vi x.Kids)]
@[simp] theorem GNode.own (x:GNode):(x.enc false).hasOwn=false:=by simp [GNode.enc]
@[simp] theorem GNode.ownT (x:GNode):(x.enc true).hasOwn=true:=by simp [GNode.enc]
@[simp] theorem GNode.ownL (l:List GNode):T.hasOwnL (l.map (GNode.enc false))=false:=cW _ (fun x=>by simp) l
@[simp] theorem GNode.ro1 (o:Bool) (x:GNode):(x.enc o).ro=x.enc false:=by cases o<;>simp [GNode.enc,T.roL_map,Function.comp_def]
@[simp] theorem GNode.roL (o:Bool) (l:List GNode):T.roL (l.map (GNode.enc o))=l.map (GNode.enc false):=jO _ _ (fun x=>by simp) l
@[simp] theorem GNode.noRo (x:GNode):(x.enc true).noRo=true:=by simp [GNode.enc]
@[simp] theorem GNode.noRoL (l:List GNode):T.noRoL (l.map (GNode.enc true))=true:=fN _ (fun x=>by simp) l
structure GParam where
 Name:ByteArray
 Typ:Int
 deriving DecidableEq
def GParam.enc (x:GParam):T:=.agg [vs x.Name,vi x.Typ]
@[simp] theorem GParam.own (x:GParam):x.enc.hasOwn=false:=by simp [GParam.enc]
@[simp] theorem GParam.ownL (l:List GParam):T.hasOwnL (l.map GParam.enc)=false:=cW _ (fun x=>by simp) l
@[simp] theorem GParam.ro1 (x:GParam):x.enc.ro=x.enc:=by simp [GParam.enc]
@[simp] theorem GParam.roL (l:List GParam):T.roL (l.map GParam.enc)=l.map GParam.enc:=jO _ _ (fun x=>by simp) l
@[simp] theorem GParam.noRo (x:GParam):x.enc.noRo=true:=by simp [GParam.enc]
@[simp] theorem GParam.noRoL (l:List GParam):T.noRoL (l.map GParam.enc)=true:=fN _ (fun x=>by simp) l
structure GFn where
 Name:ByteArray
 Params:List GParam
 Res:Int
 Body:Int
 Ret:Int
 deriving DecidableEq
def GFn.enc (o:Bool) (x:GFn):T:=.agg [vs x.Name,.sl o 2 (List.map GParam.enc x.Params),vi x.Res,vi x.Body,vi x.Ret]
@[simp] theorem GFn.own (x:GFn):(x.enc false).hasOwn=false:=by simp [GFn.enc]
@[simp] theorem GFn.ownT (x:GFn):(x.enc true).hasOwn=true:=by simp [GFn.enc]
@[simp] theorem GFn.ownL (l:List GFn):T.hasOwnL (l.map (GFn.enc false))=false:=cW _ (fun x=>by simp) l
@[simp] theorem GFn.ro1 (o:Bool) (x:GFn):(x.enc o).ro=x.enc false:=by cases o<;>simp [GFn.enc,T.roL_map,Function.comp_def]
@[simp] theorem GFn.roL (o:Bool) (l:List GFn):T.roL (l.map (GFn.enc o))=l.map (GFn.enc false):=jO _ _ (fun x=>by simp) l
@[simp] theorem GFn.noRo (x:GFn):(x.enc true).noRo=true:=by simp [GFn.enc]
@[simp] theorem GFn.noRoL (l:List GFn):T.noRoL (l.map (GFn.enc true))=true:=fN _ (fun x=>by simp) l
structure GProgram where
 Nodes:List GNode
 Fns:List GFn
 deriving DecidableEq
def GProgram.enc (o:Bool) (x:GProgram):T:=.agg [.sl o 4 (List.map (GNode.enc o) x.Nodes),.sl o 5 (List.map (GFn.enc o) x.Fns)]
@[simp] theorem GProgram.own (x:GProgram):(x.enc false).hasOwn=false:=by simp [GProgram.enc]
@[simp] theorem GProgram.ownT (x:GProgram):(x.enc true).hasOwn=true:=by simp [GProgram.enc]
@[simp] theorem GProgram.ownL (l:List GProgram):T.hasOwnL (l.map (GProgram.enc false))=false:=cW _ (fun x=>by simp) l
@[simp] theorem GProgram.ro1 (o:Bool) (x:GProgram):(x.enc o).ro=x.enc false:=by cases o<;>simp [GProgram.enc,T.roL_map,Function.comp_def]
@[simp] theorem GProgram.roL (o:Bool) (l:List GProgram):T.roL (l.map (GProgram.enc o))=l.map (GProgram.enc false):=jO _ _ (fun x=>by simp) l
@[simp] theorem GProgram.noRo (x:GProgram):(x.enc true).noRo=true:=by simp [GProgram.enc]
@[simp] theorem GProgram.noRoL (l:List GProgram):T.noRoL (l.map (GProgram.enc true))=true:=fN _ (fun x=>by simp) l
structure GVar where
 Name:ByteArray
 Typ:Int
 Node:Int
 deriving DecidableEq
def GVar.enc (x:GVar):T:=.agg [vs x.Name,vi x.Typ,vi x.Node]
@[simp] theorem GVar.own (x:GVar):x.enc.hasOwn=false:=by simp [GVar.enc]
@[simp] theorem GVar.ownL (l:List GVar):T.hasOwnL (l.map GVar.enc)=false:=cW _ (fun x=>by simp) l
@[simp] theorem GVar.ro1 (x:GVar):x.enc.ro=x.enc:=by simp [GVar.enc]
@[simp] theorem GVar.roL (l:List GVar):T.roL (l.map GVar.enc)=l.map GVar.enc:=jO _ _ (fun x=>by simp) l
@[simp] theorem GVar.noRo (x:GVar):x.enc.noRo=true:=by simp [GVar.enc]
@[simp] theorem GVar.noRoL (l:List GVar):T.noRoL (l.map GVar.enc)=true:=fN _ (fun x=>by simp) l
structure Gl07Seen where
 p:GProgram
 fn:Int
 there:List ByteArray
 bad:Bool
 deriving DecidableEq
def Gl07Seen.enc (o:Bool) (x:Gl07Seen):T:=.agg [.sl o 4 (List.map (GNode.enc o) x.p.Nodes),.sl o 5 (List.map (GFn.enc o) x.p.Fns),vi x.fn,.sl o 1 (List.map vs x.there),vb x.bad]
@[simp] theorem Gl07Seen.own (x:Gl07Seen):(x.enc false).hasOwn=false:=by simp [Gl07Seen.enc]
@[simp] theorem Gl07Seen.ownT (x:Gl07Seen):(x.enc true).hasOwn=true:=by simp [Gl07Seen.enc]
@[simp] theorem Gl07Seen.ownL (l:List Gl07Seen):T.hasOwnL (l.map (Gl07Seen.enc false))=false:=cW _ (fun x=>by simp) l
@[simp] theorem Gl07Seen.ro1 (o:Bool) (x:Gl07Seen):(x.enc o).ro=x.enc false:=by cases o<;>simp [Gl07Seen.enc,T.roL_map,Function.comp_def]
@[simp] theorem Gl07Seen.roL (o:Bool) (l:List Gl07Seen):T.roL (l.map (Gl07Seen.enc o))=l.map (Gl07Seen.enc false):=jO _ _ (fun x=>by simp) l
@[simp] theorem Gl07Seen.noRo (x:Gl07Seen):(x.enc true).noRo=true:=by simp [Gl07Seen.enc]
@[simp] theorem Gl07Seen.noRoL (l:List Gl07Seen):T.noRoL (l.map (Gl07Seen.enc true))=true:=fN _ (fun x=>by simp) l
attribute [simp] GNode.enc GParam.enc GFn.enc GProgram.enc GVar.enc Gl07Seen.enc
end Go.OM
noncomputable section
namespace Go.OM
def mT (a1:List Int) (a0:Int):Option (Int) :=
 if (decide (IntKind.wrap .i64 (a0 - (a1.length:Int)) < 0))=true then
  some (-1)
 else
  some (IntKind.wrap .i64 (a0 - (a1.length:Int)))
def mR (a1:GNode) (a0:Int):Option (Int) :=
 if (decide (IntKind.wrap .i64 (a0 - (a1.Name.size:Int)) < 0))=true then
  some (-1)
 else
  (mT a1.Kids (IntKind.wrap .i64 (a0 - (a1.Name.size:Int)))).bind fun r5 =>
  if (decide (r5 < 0))=true then
   some (-1)
  else
   some r5
def dR (a1:List GNode):(Int × Int)→Option ((Int × Int) ⊕ ((Int) ⊕ (Int))):=fun ⟨a0,i9⟩ =>
 if (decide (i9 < (a1.length:Int)))=true then
  (aM a1 i9).bind fun a3 =>
  (mR a3 a0).bind fun a2 =>
  if (decide (a2 < 0))=true then
   some (Sum.inr (Sum.inr (-1)))
  else
   some (Sum.inl (a2,IntKind.wrap .i64 (i9 + 1)))
 else
  some (Sum.inr (Sum.inl a0))
def lJ (a1:List GNode) (a0:Int):Option (Int) :=
 if (decide (IntKind.wrap .i64 (a0 - (a1.length:Int)) < 0))=true then
  some (-1)
 else
  Option.bind (
   aG (dR a1) (IntKind.wrap .i64 (a0 - (a1.length:Int)),0)) fun j7 =>
  match j7 with
  | Sum.inr z=>some z
  | Sum.inl a2 =>
   some a2
def lI (a1:GParam) (a0:Int):Option (Int) :=
 if (decide (IntKind.wrap .i64 (a0 - (a1.Name.size:Int)) < 0))=true then
  some (-1)
 else
  some (IntKind.wrap .i64 (a0 - (a1.Name.size:Int)))
def cU (a1:List GParam):(Int × Int)→Option ((Int × Int) ⊕ ((Int) ⊕ (Int))):=fun ⟨a0,i9⟩ =>
 if (decide (i9 < (a1.length:Int)))=true then
  (aM a1 i9).bind fun a3 =>
  (lI a3 a0).bind fun a2 =>
  if (decide (a2 < 0))=true then
   some (Sum.inr (Sum.inr (-1)))
  else
   some (Sum.inl (a2,IntKind.wrap .i64 (i9 + 1)))
 else
  some (Sum.inr (Sum.inl a0))
def jT (a1:List GParam) (a0:Int):Option (Int) :=
 if (decide (IntKind.wrap .i64 (a0 - (a1.length:Int)) < 0))=true then
  some (-1)
 else
  Option.bind (
   aG (cU a1) (IntKind.wrap .i64 (a0 - (a1.length:Int)),0)) fun j7 =>
  match j7 with
  | Sum.inr z=>some z
  | Sum.inl a2 =>
   some a2
def rF (a1:GFn) (a0:Int):Option (Int) :=
 if (decide (IntKind.wrap .i64 (a0 - (a1.Name.size:Int)) < 0))=true then
  some (-1)
 else
  (jT a1.Params (IntKind.wrap .i64 (a0 - (a1.Name.size:Int)))).bind fun r5 =>
  if (decide (r5 < 0))=true then
   some (-1)
  else
   some r5
def fI (a1:List GFn):(Int × Int)→Option ((Int × Int) ⊕ ((Int) ⊕ (Int))):=fun ⟨a0,i9⟩ =>
 if (decide (i9 < (a1.length:Int)))=true then
  (aM a1 i9).bind fun a3 =>
  (rF a3 a0).bind fun a2 =>
  if (decide (a2 < 0))=true then
   some (Sum.inr (Sum.inr (-1)))
  else
   some (Sum.inl (a2,IntKind.wrap .i64 (i9 + 1)))
 else
  some (Sum.inr (Sum.inl a0))
def oS (a1:List GFn) (a0:Int):Option (Int) :=
 if (decide (IntKind.wrap .i64 (a0 - (a1.length:Int)) < 0))=true then
  some (-1)
 else
  Option.bind (
   aG (fI a1) (IntKind.wrap .i64 (a0 - (a1.length:Int)),0)) fun j7 =>
  match j7 with
  | Sum.inr z=>some z
  | Sum.inl a2 =>
   some a2
def gB (a1:GProgram) (a0:Int):Option (Int) :=
 (lJ a1.Nodes a0).bind fun r3 =>
 if (decide (r3 < 0))=true then
  some (-1)
 else
  (oS a1.Fns r3).bind fun r7 =>
  if (decide (r7 < 0))=true then
   some (-1)
  else
   some r7
def aY (x1:Int) (a0:Int) (a1:Int):Option (Bool) :=
 Option.bind (
  if (decide (x1 ≥ a0))=true then
   some (decide (x1 ≤ a1))
  else
   some false) fun v8 =>
 some v8
def fT (b1:Int):Option (Bool) :=
 Option.bind (
  if (decide (b1 ≥ 97))=true then
   some (decide (b1 ≤ 122))
  else
   some false) fun v6 =>
 some v6
def nM:Option (List ByteArray) :=
 some [(⟨#[102,110]⟩:ByteArray),(⟨#[108,101,116]⟩:ByteArray),(⟨#[105,102]⟩:ByteArray),(⟨#[101,108,115,101]⟩:ByteArray),(⟨#[119,104,105,108,101]⟩:ByteArray),(⟨#[112,114,105,110,116]⟩:ByteArray),(⟨#[100,111]⟩:ByteArray),(⟨#[110,101,119]⟩:ByteArray),(⟨#[99,108,111,110,101]⟩:ByteArray),(⟨#[109,117,116]⟩:ByteArray),(⟨#[105,110,112,117,116]⟩:ByteArray),(⟨#[105,110,116]⟩:ByteArray),(⟨#[98,111,120]⟩:ByteArray),(⟨#[114,101,116]⟩:ByteArray)]
def gO (s1:ByteArray) (r2:List ByteArray):Int→Option ((Int) ⊕ ((Unit) ⊕ (Bool))):=fun i7 =>
 if (decide (i7 < (r2.length:Int)))=true then
  (aM r2 i7).bind fun a0 =>
  if (sEq a0 s1)=true then
   some (Sum.inr (Sum.inr true))
  else
   some (Sum.inl (IntKind.wrap .i64 (i7 + 1)))
 else
  some (Sum.inr (Sum.inl ()))
def kX (s1:ByteArray):Option (Bool) :=
 (nM ).bind fun r2 =>
 Option.bind (
  aG (gO s1 r2) 0) fun j6 =>
 match j6 with
 | Sum.inr z=>some z
 | Sum.inl () =>
  some false
def iL (b1:Int):Option (Bool) :=
 Option.bind (
  if (decide (b1 ≥ 48))=true then
   some (decide (b1 ≤ 57))
  else
   some false) fun v6 =>
 some v6
def fY (s1:ByteArray):Int→Option ((Int) ⊕ ((Unit) ⊕ (Bool))):=fun a0 =>
 if (decide (a0 < (s1.size:Int)))=true then
  Option.bind (
   (sAt s1 a0).bind fun a1 =>
   (fT a1).bind fun a2 =>
   if (!a2)=true then
    (iL a1).bind fun a3 =>
    some (!a3)
   else
    some false) fun a4 =>
  if a4=true then
   some (Sum.inr (Sum.inr false))
  else
   some (Sum.inl (IntKind.wrap .i64 (a0 + 1)))
 else
  some (Sum.inr (Sum.inl ()))
def iT (s1:ByteArray):Option (Bool) :=
 Option.bind (
  (aY (s1.size:Int) 1 8).bind fun r4 =>
  if (!r4)=true then
   some true
  else
   (sAt s1 0).bind fun c8 =>
   (fT c8).bind fun r9 =>
   if (!r9)=true then
    some true
   else
    (kX s1).bind fun a0 =>
    some a0) fun a1 =>
 if a1=true then
  some false
 else
  Option.bind (
   aG (fY s1) 0) fun a2 =>
  match a2 with
  | Sum.inr z=>some z
  | Sum.inl () =>
   some true
def kU (a0:Int):Option (Int × Int) :=
 Option.bind (
  if (a0 == 8)=true then
   some (a0 == 8)
  else
   if (a0 == 13)=true then
    some (a0 == 13)
   else
    if (a0 == 14)=true then
     some (a0 == 14)
    else
     if (a0 == 15)=true then
      some (a0 == 15)
     else
      if (a0 == 18)=true then
       some (a0 == 18)
      else
       some (a0 == 19)) fun a1 =>
 if a1=true then
  some (1,1)
 else
  Option.bind (
   if (a0 == 9)=true then
    some (a0 == 9)
   else
    if (a0 == 10)=true then
     some (a0 == 10)
    else
     if (a0 == 11)=true then
      some (a0 == 11)
     else
      some (a0 == 17)) fun a2 =>
  if a2=true then
   some (2,2)
  else
   if (a0 == 12)=true then
    some (0,3)
   else
    if (a0 == 16)=true then
     some (3,3)
    else
     if (a0 == 20)=true then
      some (0,12)
     else
      some (0,0)
def jM (a0:Int):Option (Bool) :=
 Option.bind (
  if (a0 == 2)=true then
   some (a0 == 2)
  else
   if (a0 == 3)=true then
    some (a0 == 3)
   else
    if (a0 == 4)=true then
     some (a0 == 4)
    else
     if (a0 == 5)=true then
      some (a0 == 5)
     else
      if (a0 == 6)=true then
       some (a0 == 6)
      else
       if (a0 == 12)=true then
        some (a0 == 12)
       else
        if (a0 == 13)=true then
         some (a0 == 13)
        else
         if (a0 == 14)=true then
          some (a0 == 14)
         else
          some (a0 == 15)) fun a1 =>
 if a1=true then
  some true
 else
  some false
def fG (a0:Int):Option (Bool) :=
 (aY a0 1 12).bind fun r2 =>
 some r2
def eR (a0:Int):Option (Bool) :=
 (aY a0 13 19).bind fun r2 =>
 some r2
def kV (a0:Int) (a2:Int) (a1:Int):Option (Bool) :=
 if (a0 == 20)=true then
  (eR a1).bind fun r6 =>
  some r6
 else
  Option.bind (
   if (a0 == 16)=true then
    some (a0 == 16)
   else
    some (a0 == 17)) fun a3 =>
  if a3=true then
   if (decide (a2 > 0))=true then
    some (a1 == 20)
   else
    (fG a1).bind fun a4 =>
    some a4
  else
   if (a0 == 19)=true then
    some (a1 == 12)
   else
    (fG a1).bind fun a5 =>
    some a5
def fW (a1:GNode) (a2:Int):Int→Option ((Int) ⊕ ((Unit) ⊕ ((Int) ⊕ ((Unit) ⊕ (Bool))))):=fun a0 =>
 if (decide (a0 < a2))=true then
  (aM a1.Kids a2).bind fun a3 =>
  (aM a1.Kids a0).bind fun a4 =>
  if (a3 == a4)=true then
   some (Sum.inr (Sum.inr (Sum.inr (Sum.inr false))))
  else
   some (Sum.inl (IntKind.wrap .i64 (a0 + 1)))
 else
  some (Sum.inr (Sum.inl ()))
def fX (a0:List GNode) (k2:Int) (a2:GNode):Int→Option ((Int) ⊕ ((Unit) ⊕ (Bool))):=fun a1 =>
 if (decide (a1 < (a2.Kids.length:Int)))=true then
  Option.bind (
   Option.bind (
    (aM a2.Kids a1).bind fun a3 =>
    (aY a3 0 (IntKind.wrap .i64 (k2 - 1))).bind fun a4 =>
    if (!a4)=true then
     some true
    else
     (aM a0 a3).bind fun a5 =>
     (kV a2.Kind a1 a5.Kind).bind fun a6 =>
     some (!a6)) fun a7 =>
   if a7=true then
    some (Sum.inr (Sum.inr (Sum.inr false)))
   else
    aG (fW a2 a1) 0) fun a8 =>
  match a8 with
  | Sum.inr z=>some z
  | Sum.inl () =>
   some (Sum.inl (IntKind.wrap .i64 (a1 + 1)))
 else
  some (Sum.inr (Sum.inl ()))
def mN (a0:List GNode) (k2:Int):Option (Bool) :=
 Option.bind (
  (aY k2 0 (IntKind.wrap .i64 ((a0.length:Int) - 1))).bind fun r5 =>
  if (!r5)=true then
   some true
  else
   (aM a0 k2).bind fun e9 =>
   (aY e9.Kind 1 20).bind fun a2 =>
   some (!a2)) fun a3 =>
 if a3=true then
  some false
 else
  (aM a0 k2).bind fun a1 =>
  (kU a1.Kind).bind fun ⟨a4,a5⟩ =>
  Option.bind (
   (aY (a1.Kids.length:Int) a4 a5).bind fun a6 =>
   if (!a6)=true then
    some true
   else
    (aY a1.Num 0 1000000000).bind fun a7 =>
    if (!a7)=true then
     some true
    else
     if (a1.Kind != 1)=true then
      some (a1.Num != 0)
     else
      some false) fun a8 =>
  if a8=true then
   some false
  else
   Option.bind (
    (jM a1.Kind).bind fun a9 =>
    if (!(a9 == (!(sEq a1.Name (⟨#[]⟩:ByteArray)))))=true then
     some true
    else
     if (!(sEq a1.Name (⟨#[]⟩:ByteArray)))=true then
      (iT a1.Name).bind fun b0 =>
      some (!b0)
     else
      some false) fun b1 =>
   if b1=true then
    some false
   else
    Option.bind (
     aG (fX a0 k2 a1) 0) fun b2 =>
    match b2 with
    | Sum.inr z=>some z
    | Sum.inl () =>
     some true
def bG (a1:List GNode) (a2:List Int) (i7:Int):(Int × Int)→Option ((Int × Int) ⊕ (Int)):=fun ⟨a0,a3⟩ =>
 Option.bind (
  if (decide (a0 > 0))=true then
   (aM a1 i7).bind fun a4 =>
   some (decide (a3 < (a4.Kids.length:Int)))
  else
   some false) fun a5 =>
 if a5=true then
  (aM a1 i7).bind fun a6 =>
  (aM a6.Kids a3).bind fun a7 =>
  (aM a2 a7).bind fun a8 =>
  if (decide (IntKind.wrap .i64 (a8 + 1) > a0))=true then
   (aM a1 i7).bind fun a9 =>
   (aM a9.Kids a3).bind fun b0 =>
   (aM a2 b0).bind fun b1 =>
   some (Sum.inl (IntKind.wrap .i64 (b1 + 1),IntKind.wrap .i64 (a3 + 1)))
  else
   some (Sum.inl (a0,IntKind.wrap .i64 (a3 + 1)))
 else
  some (Sum.inr a0)
def dY (a0:List GNode) (k2:Int):((List Int) × Int)→Option (((List Int) × Int) ⊕ (List Int)):=fun ⟨a2,i7⟩ =>
 Option.bind (
  if (decide (i7 ≤ k2))=true then
   some (decide (i7 < (a0.length:Int)))
  else
   some false) fun a6 =>
 if a6=true then
  Option.bind (
   Option.bind (
    Option.bind (
     (mN a0 i7).bind fun a7 =>
     if (!a7)=true then
      some true
     else
      if (decide (i7 > 0))=true then
       (aM a2 (IntKind.wrap .i64 (i7 - 1))).bind fun a8 =>
       some (a8 == 0)
      else
       some false) fun a9 =>
    if a9=true then
     some 0
    else
     some 1) fun a3 =>
   Option.bind (
    aG (bG a0 a2 i7) (a3,0)) fun a1 =>
   Option.bind (
    if (decide (a1 > 10))=true then
     some 0
    else
     some a1) fun a4 =>
   (mH 8 a2 [a4]).bind fun b0 =>
   some b0) fun a5 =>
  some (Sum.inl (a5,IntKind.wrap .i64 (i7 + 1)))
 else
  some (Sum.inr a2)
def gX (a0:List GNode) (k2:Int):Option (List Int) :=
 Option.bind (
  aG (dY a0 k2) ([],0)) fun a1 =>
 some a1
def eP (a0:List GNode) (i7:Int):((List Int) × Int)→Option (((List Int) × Int) ⊕ (List Int)):=fun ⟨a1,a2⟩ =>
 (aM a0 i7).bind fun a4 =>
 if (decide (a2 < (a4.Kids.length:Int)))=true then
  (aM a0 i7).bind fun a5 =>
  (aM a5.Kids a2).bind fun a3 =>
  (aM a1 a3).bind fun a6 =>
  oF (List.set a1 a3.toNat (IntKind.wrap .i64 (a6 + 1))) fun a7 =>
  some (Sum.inl (a7,IntKind.wrap .i64 (a2 + 1)))
 else
  some (Sum.inr a1)
def eQ (a0:List GNode):((List Int) × Int)→Option (((List Int) × Int) ⊕ (List Int)):=fun ⟨a1,i7⟩ =>
 if (decide (i7 < (a0.length:Int)))=true then
  Option.bind (
   aG (eP a0 i7) (a1,0)) fun a2 =>
  some (Sum.inl (a2,IntKind.wrap .i64 (i7 + 1)))
 else
  some (Sum.inr a1)
def kT (a0:List GNode):Option (List Int) :=
 (mkI 8 (a0.length:Int) 0).bind fun l2 =>
 Option.bind (
  aG (eQ a0) (l2,0)) fun a1 =>
 some a1
def qV (p1:GProgram) (a0:ByteArray):Int→Option ((Int) ⊕ ((Unit) ⊕ (Int))):=fun i6 =>
 if (decide (i6 < (p1.Fns.length:Int)))=true then
  (aM p1.Fns i6).bind fun a1 =>
  if (sEq a1.Name a0)=true then
   some (Sum.inr (Sum.inr i6))
  else
   some (Sum.inl (IntKind.wrap .i64 (i6 + 1)))
 else
  some (Sum.inr (Sum.inl ()))
def oM (p1:GProgram) (a0:ByteArray):Option (Int) :=
 Option.bind (
  aG (qV p1 a0) 0) fun j5 =>
 match j5 with
 | Sum.inr z=>some z
 | Sum.inl () =>
  some (-1)
def gW (e3:GFn):Int→Option ((Int) ⊕ ((Unit) ⊕ (Bool))):=fun a0 =>
 if (decide (a0 < (e3.Params.length:Int)))=true then
  Option.bind (
   (aM e3.Params a0).bind fun a1 =>
   (iT a1.Name).bind fun a2 =>
   if (!a2)=true then
    some true
   else
    (aY a1.Typ 1 4).bind fun a3 =>
    some (!a3)) fun a4 =>
  if a4=true then
   some (Sum.inr (Sum.inr false))
  else
   some (Sum.inl (IntKind.wrap .i64 (a0 + 1)))
 else
  some (Sum.inr (Sum.inl ()))
def oH (p1:GProgram) (i2:Int):Option (Bool) :=
 (aM p1.Fns i2).bind fun e3 =>
 Option.bind (
  (iT e3.Name).bind fun r6 =>
  if (!r6)=true then
   some true
  else
   (oM p1 e3.Name).bind fun a0 =>
   if (a0 != i2)=true then
    some true
   else
    if (decide ((e3.Params.length:Int) > 3))=true then
     some true
    else
     (aY e3.Res 0 2).bind fun a1 =>
     some (!a1)) fun a2 =>
 if a2=true then
  some false
 else
  Option.bind (
   aG (gW e3) 0) fun a3 =>
  match a3 with
  | Sum.inr z=>some z
  | Sum.inl () =>
   Option.bind (
    (aY e3.Body 0 (IntKind.wrap .i64 ((p1.Nodes.length:Int) - 1))).bind fun a4 =>
    if (!a4)=true then
     some true
    else
     (aM p1.Nodes e3.Body).bind fun a5 =>
     some (a5.Kind != 20)) fun a6 =>
   if a6=true then
    some false
   else
    if (e3.Res == 0)=true then
     some (e3.Ret == (-1))
    else
     Option.bind (
      (aY e3.Ret 0 (IntKind.wrap .i64 ((p1.Nodes.length:Int) - 1))).bind fun a7 =>
      if a7=true then
       (aM p1.Nodes e3.Ret).bind fun a8 =>
       (fG a8.Kind).bind fun a9 =>
       some a9
      else
       some false) fun b0 =>
     some b0
def bL (p1:GProgram):((List Int) × Int)→Option (((List Int) × Int) ⊕ ((List Int) ⊕ (Bool))):=fun ⟨a0,a1⟩ =>
 if (decide (a1 < (p1.Fns.length:Int)))=true then
  (oH p1 a1).bind fun a5 =>
  if (!a5)=true then
   some (Sum.inr (Sum.inr false))
  else
   (aM p1.Fns a1).bind fun a3 =>
   (aM a0 a3.Body).bind fun a6 =>
   oF (List.set a0 a3.Body.toNat (IntKind.wrap .i64 (a6 + 1000))) fun a2 =>
   (aM p1.Fns a1).bind fun a7 =>
   if (decide (a7.Ret ≥ 0))=true then
    (aM p1.Fns a1).bind fun a4 =>
    (aM a2 a4.Ret).bind fun a8 =>
    oF (List.set a2 a4.Ret.toNat (IntKind.wrap .i64 (a8 + 1000))) fun a9 =>
    some (Sum.inl (a9,IntKind.wrap .i64 (a1 + 1)))
   else
    some (Sum.inl (a2,IntKind.wrap .i64 (a1 + 1)))
 else
  some (Sum.inr (Sum.inl a0))
def dF (a0:List Int):Int→Option ((Int) ⊕ ((Unit) ⊕ (Bool))):=fun a1 =>
 if (decide (a1 < (a0.length:Int)))=true then
  Option.bind (
   (aM a0 a1).bind fun a2 =>
   if (a2 != 1)=true then
    some (a2 != 1000)
   else
    some false) fun a3 =>
  if a3=true then
   some (Sum.inr (Sum.inr false))
  else
   some (Sum.inl (IntKind.wrap .i64 (a1 + 1)))
 else
  some (Sum.inr (Sum.inl ()))
def iM (p1:GProgram):Option (Bool) :=
 Option.bind (
  (aY (p1.Nodes.length:Int) 1 300).bind fun r4 =>
  if (!r4)=true then
   some true
  else
   (aY (p1.Fns.length:Int) 1 8).bind fun r8 =>
   some (!r8)) fun a2 =>
 if a2=true then
  some false
 else
  (gX p1.Nodes (IntKind.wrap .i64 ((p1.Nodes.length:Int) - 1))).bind fun a1 =>
  (aM a1 (IntKind.wrap .i64 ((a1.length:Int) - 1))).bind fun a3 =>
  if (a3 == 0)=true then
   some false
  else
   (kT p1.Nodes).bind fun a4 =>
   Option.bind (
    aG (bL p1) (a4,0)) fun a5 =>
   match a5 with
   | Sum.inr z=>some z
   | Sum.inl a0 =>
    Option.bind (
     aG (dF a0) 0) fun a6 =>
    match a6 with
    | Sum.inr z=>some z
    | Sum.inl () =>
     some true
def iU (a0:List GNode) (k2:Int):Option (Int) :=
 (aY k2 0 (IntKind.wrap .i64 ((a0.length:Int) - 1))).bind fun r3 =>
 if (!r3)=true then
  some 0
 else
  (gX a0 k2).bind fun r7 =>
  (aM r7 k2).bind fun e9 =>
  some e9
def eS (a0:(List GNode)→Int→(List Bool)→Option (List Bool)) (a1:List GNode) (k2:Int):((List Bool) × Int)→Option (((List Bool) × Int) ⊕ (List Bool)):=fun ⟨a2,a3⟩ =>
 (aM a1 k2).bind fun a4 =>
 if (decide (a3 < (a4.Kids.length:Int)))=true then
  (aM a1 k2).bind fun a5 =>
  (aM a5.Kids a3).bind fun a6 =>
  (a0 a1 a6 a2).bind fun a7 =>
  some (Sum.inl (a7,IntKind.wrap .i64 (a3 + 1)))
 else
  some (Sum.inr a2)
def iK (a0:(List GNode)→Int→(List Bool)→Option (List Bool)) (a2:List GNode) (k2:Int) (a1:List Bool):Option (List Bool) :=
 (aM a1 k2).bind fun e4 =>
 if e4=true then
  some a1
 else
  (aM a1 k2).bind fun e7 =>
  oF (List.set a1 k2.toNat true) fun l8 =>
  aG (eS a0 a2 k2) (l8,0)
def cT:Nat→(List GNode)→Int→(List Bool)→Option (List Bool)
 | 0=>fun _ _ _=>none
 | n + 1=>iK (cT n)
def qT:(List GNode)→Int→(List Bool)→Option (List Bool):=(cT eK)
def gY (q8:List Bool):((List Int) × Int)→Option (((List Int) × Int) ⊕ (List Int)):=fun ⟨a0,a1⟩ =>
 if (decide (a1 < (q8.length:Int)))=true then
  (aM q8 a1).bind fun a2 =>
  if a2=true then
   (mH 8 a0 [a1]).bind fun a3 =>
   some (Sum.inl (a3,IntKind.wrap .i64 (a1 + 1)))
  else
   some (Sum.inl (a0,IntKind.wrap .i64 (a1 + 1)))
 else
  some (Sum.inr a0)
def kJ (p1:GProgram) (k2:Int):Option (List Int) :=
 (iU p1.Nodes k2).bind fun r3 =>
 if (r3 == 0)=true then
  some []
 else
  (mkI 1 (p1.Nodes.length:Int) false).bind fun l7 =>
  (qT p1.Nodes k2 l7).bind fun q8 =>
  Option.bind (
   aG (gY q8) ([],0)) fun a0 =>
  some a0
def fV (e7:GFn):((List GVar) × Int)→Option (((List GVar) × Int) ⊕ (List GVar)):=fun ⟨a0,a1⟩ =>
 if (decide (a1 < (e7.Params.length:Int)))=true then
  (aM e7.Params a1).bind fun a2 =>
  (mH 32 a0 [(⟨a2.Name,a2.Typ,(-1)⟩:GVar)]).bind fun a3 =>
  some (Sum.inl (a3,IntKind.wrap .i64 (a1 + 1)))
 else
  some (Sum.inr a0)
def fU (p1:GProgram) (a2:List Int):((List GVar) × Int)→Option (((List GVar) × Int) ⊕ (List GVar)):=fun ⟨a0,a1⟩ =>
 if (decide (a1 < (a2.length:Int)))=true then
  (aM a2 a1).bind fun a4 =>
  (aM p1.Nodes a4).bind fun a5 =>
  if (a5.Kind == 13)=true then
   (aM a2 a1).bind fun a3 =>
   (aM p1.Nodes a3).bind fun a6 =>
   (mH 32 a0 [(⟨a6.Name,0,a3⟩:GVar)]).bind fun a7 =>
   some (Sum.inl (a7,IntKind.wrap .i64 (a1 + 1)))
  else
   some (Sum.inl (a0,IntKind.wrap .i64 (a1 + 1)))
 else
  some (Sum.inr a0)
def kI (p1:GProgram) (a2:Int):Option (List GVar) :=
 (aY a2 0 (IntKind.wrap .i64 ((p1.Fns.length:Int) - 1))).bind fun r3 =>
 if (!r3)=true then
  some []
 else
  (aM p1.Fns a2).bind fun e7 =>
  Option.bind (
   aG (fV e7) ([],0)) fun a0 =>
  (kJ p1 e7.Body).bind fun a3 =>
  Option.bind (
   aG (fU p1 a3) (a0,0)) fun a1 =>
  some a1
def pH (a0:List GVar) (a1:ByteArray):Int→Option ((Int) ⊕ ((Unit) ⊕ (Int))):=fun i6 =>
 if (decide (i6 < (a0.length:Int)))=true then
  (aM a0 i6).bind fun a2 =>
  if (sEq a2.Name a1)=true then
   some (Sum.inr (Sum.inr i6))
  else
   some (Sum.inl (IntKind.wrap .i64 (i6 + 1)))
 else
  some (Sum.inr (Sum.inl ()))
def oK (a0:List GVar) (a1:ByteArray):Option (Int) :=
 Option.bind (
  aG (pH a0 a1) 0) fun j5 =>
 match j5 with
 | Sum.inr z=>some z
 | Sum.inl () =>
  some (-1)
def fS (a0:List ByteArray) (s2:ByteArray):Int→Option ((Int) ⊕ ((Unit) ⊕ (Bool))):=fun i6 =>
 if (decide (i6 < (a0.length:Int)))=true then
  (aM a0 i6).bind fun a1 =>
  if (sEq a1 s2)=true then
   some (Sum.inr (Sum.inr true))
  else
   some (Sum.inl (IntKind.wrap .i64 (i6 + 1)))
 else
  some (Sum.inr (Sum.inl ()))
def kH (a0:List ByteArray) (s2:ByteArray):Option (Bool) :=
 Option.bind (
  aG (fS a0 s2) 0) fun j5 =>
 match j5 with
 | Sum.inr z=>some z
 | Sum.inl () =>
  some false
def bC (a0:Gl07Seen→Int→Option (Gl07Seen)) (e3:GNode):(Int × Gl07Seen)→Option ((Int × Gl07Seen) ⊕ (Gl07Seen)):=fun ⟨i7,v8⟩ =>
 if (decide (i7 < (e3.Kids.length:Int)))=true then
  (aM e3.Kids i7).bind fun a2 =>
  (a0 v8 a2).bind fun a1 =>
  some (Sum.inl (IntKind.wrap .i64 (i7 + 1),(⟨a1.p,a1.fn,a1.there,a1.bad⟩:Gl07Seen)))
 else
  some (Sum.inr v8)
def cX (a0:Gl07Seen→Int→Option (Gl07Seen)) (s1:Gl07Seen) (k2:Int):Option (Gl07Seen) :=
 (aM s1.p.Nodes k2).bind fun e3 =>
 Option.bind (
  aG (bC a0 e3) (0,(⟨s1.p,s1.fn,s1.there,s1.bad⟩:Gl07Seen))) fun a1 =>
 Option.bind (
  if (e3.Kind == 2)=true then
   some (e3.Kind == 2)
  else
   if (e3.Kind == 3)=true then
    some (e3.Kind == 3)
   else
    if (e3.Kind == 4)=true then
     some (e3.Kind == 4)
    else
     if (e3.Kind == 5)=true then
      some (e3.Kind == 5)
     else
      some (e3.Kind == 6)) fun a3 =>
 if a3=true then
  if a1.bad=true then
   some (⟨a1.p,a1.fn,a1.there,true⟩:Gl07Seen)
  else
   (kH a1.there e3.Name).bind fun a4 =>
   some (⟨a1.p,a1.fn,a1.there,!a4⟩:Gl07Seen)
 else
  if (e3.Kind == 12)=true then
   (oM a1.p e3.Name).bind fun a2 =>
   if a1.bad=true then
    some (⟨a1.p,a1.fn,a1.there,true⟩:Gl07Seen)
   else
    if (decide (a2 < 0))=true then
     some (⟨a1.p,a1.fn,a1.there,true⟩:Gl07Seen)
    else
     if (decide (a2 ≥ a1.fn))=true then
      some (⟨a1.p,a1.fn,a1.there,true⟩:Gl07Seen)
     else
      (aM a1.p.Fns a2).bind fun a5 =>
      some (⟨a1.p,a1.fn,a1.there,(a5.Params.length:Int) != (e3.Kids.length:Int)⟩:Gl07Seen)
  else
   some a1
def aV:Nat→Gl07Seen→Int→Option (Gl07Seen)
 | 0=>fun _ _=>none
 | n + 1=>cX (aV n)
def eF:Gl07Seen→Int→Option (Gl07Seen):=(aV eK)
def bK (a0:Gl07Seen→Int→Option (Gl07Seen)) (k2:Int):(Int × Gl07Seen)→Option ((Int × Gl07Seen) ⊕ (Gl07Seen)):=fun ⟨i3,v4⟩ =>
 (aM v4.p.Nodes k2).bind fun e8 =>
 if (decide (i3 < (e8.Kids.length:Int)))=true then
  (aM v4.p.Nodes k2).bind fun a2 =>
  (aM a2.Kids i3).bind fun a3 =>
  (a0 v4 a3).bind fun a1 =>
  some (Sum.inl (IntKind.wrap .i64 (i3 + 1),(⟨a1.p,a1.fn,a1.there,a1.bad⟩:Gl07Seen)))
 else
  some (Sum.inr v4)
def cY (a1:Gl07Seen→Int→Option (Gl07Seen)) (a0:Gl07Seen→Int→Option (Gl07Seen)) (s1:Gl07Seen) (k2:Int):Option (Gl07Seen) :=
 aG (bK a0 k2) (0,(⟨s1.p,s1.fn,s1.there,s1.bad⟩:Gl07Seen))
def bW (a0:Gl07Seen→Int→Option (Gl07Seen)) (e3:GNode):(Int × Gl07Seen)→Option ((Int × Gl07Seen) ⊕ (Gl07Seen)):=fun ⟨a1,a2⟩ =>
 if (decide (a1 < (e3.Kids.length:Int)))=true then
  (aM e3.Kids a1).bind fun a4 =>
  (a0 a2 a4).bind fun a3 =>
  some (Sum.inl (IntKind.wrap .i64 (a1 + 1),(⟨a3.p,a3.fn,a2.there,a3.bad⟩:Gl07Seen)))
 else
  some (Sum.inr a2)
def dO (a0:Gl07Seen→Int→Option (Gl07Seen)) (a1:Gl07Seen→Int→Option (Gl07Seen)) (s1:Gl07Seen) (k2:Int):Option (Gl07Seen) :=
 (aM s1.p.Nodes k2).bind fun e3 =>
 (aM e3.Kids 0).bind fun e4 =>
 (eF (⟨s1.p,s1.fn,s1.there,s1.bad⟩:Gl07Seen) e4).bind fun q5 =>
 if (e3.Kind == 13)=true then
  (mH 16 [] q5.there).bind fun l9 =>
  (mH 16 q5.there [e3.Name]).bind fun a2 =>
  some (⟨q5.p,q5.fn,a2,q5.bad⟩:Gl07Seen)
 else
  Option.bind (
   if (e3.Kind == 14)=true then
    some (e3.Kind == 14)
   else
    some (e3.Kind == 15)) fun a3 =>
  if a3=true then
   if q5.bad=true then
    some (⟨q5.p,q5.fn,q5.there,true⟩:Gl07Seen)
   else
    (kH q5.there e3.Name).bind fun a4 =>
    some (⟨q5.p,q5.fn,q5.there,!a4⟩:Gl07Seen)
  else
   Option.bind (
    if (e3.Kind == 16)=true then
     some (e3.Kind == 16)
    else
     some (e3.Kind == 17)) fun a5 =>
   if a5=true then
    aG (bW a0 e3) (1,(⟨q5.p,q5.fn,q5.there,q5.bad⟩:Gl07Seen))
   else
    some (⟨q5.p,q5.fn,q5.there,q5.bad⟩:Gl07Seen)
def aF:Nat→(Gl07Seen→Int→Option (Gl07Seen)) × (Gl07Seen→Int→Option (Gl07Seen))
 | 0=>(fun _ _=>none,fun _ _=>none)
 | n + 1=>(cY ((aF n).1) ((aF n).2),dO ((aF n).1) ((aF n).2))
def jK:Gl07Seen→Int→Option (Gl07Seen):=(aF eK).1
def bP (a1:List GVar):Int→Option ((Int) ⊕ ((Unit) ⊕ ((Unit) ⊕ ((Int) ⊕ ((Unit) ⊕ (Bool)))))):=fun a0 =>
 if (decide (a0 < (a1.length:Int)))=true then
  (aM a1 a0).bind fun a2 =>
  (oK a1 a2.Name).bind fun a3 =>
  if (a3 != a0)=true then
   some (Sum.inr (Sum.inr (Sum.inr (Sum.inr (Sum.inr false)))))
  else
   some (Sum.inl (IntKind.wrap .i64 (a0 + 1)))
 else
  some (Sum.inr (Sum.inl ()))
def bO (p1:GProgram) (i9:Int):(Int × Gl07Seen)→Option ((Int × Gl07Seen) ⊕ (Gl07Seen)):=fun ⟨a1,a0⟩ =>
 (aM p1.Fns i9).bind fun a2 =>
 if (decide (a1 < (a2.Params.length:Int)))=true then
  (aM p1.Fns i9).bind fun a3 =>
  (aM a3.Params a1).bind fun a4 =>
  (mH 16 a0.there [a4.Name]).bind fun a5 =>
  some (Sum.inl (IntKind.wrap .i64 (a1 + 1),(⟨a0.p,a0.fn,a5,a0.bad⟩:Gl07Seen)))
 else
  some (Sum.inr (⟨a0.p,a0.fn,a0.there,a0.bad⟩:Gl07Seen))
def cP (p1:GProgram):Int→Option ((Int) ⊕ ((Unit) ⊕ (Bool))):=fun i9 =>
 if (decide (i9 < (p1.Fns.length:Int)))=true then
  Option.bind (
   (kI p1 i9).bind fun a3 =>
   Option.bind (
    aG (bP a3) 0) fun a4 =>
   match a4 with
   | Sum.inr z=>some z
   | Sum.inl () =>
    Option.bind (
     aG (bO p1 i9) (0,(⟨p1,i9,[],false⟩:Gl07Seen))) fun a1 =>
    (aM p1.Fns i9).bind fun a5 =>
    (jK (⟨a1.p,a1.fn,a1.there,a1.bad⟩:Gl07Seen) a5.Body).bind fun a0 =>
    Option.bind (
     (aM p1.Fns i9).bind fun a6 =>
     if (decide (a6.Ret ≥ 0))=true then
      (aM p1.Fns i9).bind fun a7 =>
      (eF (⟨a0.p,a0.fn,a0.there,a0.bad⟩:Gl07Seen) a7.Ret).bind fun a2 =>
      some (⟨a2.p,a2.fn,a2.there,a2.bad⟩:Gl07Seen)
     else
      some (⟨a0.p,a0.fn,a0.there,a0.bad⟩:Gl07Seen)) fun a8 =>
    if a8.bad=true then
     some (Sum.inr (Sum.inr (Sum.inr false)))
    else
     some (Sum.inl ())) fun a9 =>
  match a9 with
  | Sum.inr z=>some z
  | Sum.inl () =>
   some (Sum.inl (IntKind.wrap .i64 (i9 + 1)))
 else
  some (Sum.inr (Sum.inl ()))
def dP (p1:GProgram):Option (Bool) :=
 (iM p1).bind fun r2 =>
 if (!r2)=true then
  some false
 else
  Option.bind (
   aG (cP p1) 0) fun j8 =>
  match j8 with
  | Sum.inr z=>some z
  | Sum.inl () =>
   some true
def dX (a0:List GNode):((List GNode) × Int)→Option (((List GNode) × Int) ⊕ (List GNode)):=fun ⟨a1,i6⟩ =>
 if (decide (i6 < (a0.length:Int)))=true then
  (aM a0 i6).bind fun a2 =>
  (mH 8 [] a2.Kids).bind fun a4 =>
  (mH 56 a1 [(⟨a2.Kind,a2.Num,a2.Name,a2.Kids⟩:GNode)]).bind fun a3 =>
  some (Sum.inl (a3,IntKind.wrap .i64 (i6 + 1)))
 else
  some (Sum.inr a1)
def jL (a0:List GNode):Option (List GNode) :=
 Option.bind (
  aG (dX a0) ([],0)) fun a1 =>
 some a1
def eT (p1:GProgram):(Int × GProgram)→Option ((Int × GProgram) ⊕ (GProgram)):=fun ⟨i7,v8⟩ =>
 if (decide (i7 < (p1.Fns.length:Int)))=true then
  (aM p1.Fns i7).bind fun a0 =>
  (mH 24 [] a0.Params).bind fun a2 =>
  (mH 64 v8.Fns [(⟨a0.Name,a0.Params,a0.Res,a0.Body,a0.Ret⟩:GFn)]).bind fun a1 =>
  some (Sum.inl (IntKind.wrap .i64 (i7 + 1),(⟨v8.Nodes,a1⟩:GProgram)))
 else
  some (Sum.inr v8)
def kW (p1:GProgram):Option (GProgram) :=
 (jL p1.Nodes).bind fun r2 =>
 Option.bind (
  aG (eT p1) (0,(⟨r2,[]⟩:GProgram))) fun a0 =>
 some a0
def kN (x1:Int):Option (Int) :=
 if (decide (x1 < 10))=true then
  some (IntKind.wrap .u8 (IntKind.wrap .i64 (48 + x1)))
 else
  some (IntKind.wrap .u8 (IntKind.wrap .i64 ((IntKind.wrap .i64 (97 + x1)) - 10)))
def eW:(Int × ByteArray)→Option ((Int × ByteArray) ⊕ (ByteArray)):=fun ⟨n7,s8⟩ =>
 if (n7 != 0)=true then
  Option.bind (
   if (decide (Int.tmod n7 10 < 0))=true then
    some (IntKind.wrap .i64 (0 - (Int.tmod n7 10)))
   else
    some (Int.tmod n7 10)) fun a0 =>
  (kN a0).bind fun a1 =>
  (aJ9 (oE [a1]) s8).bind fun a2 =>
  some (Sum.inl (IntKind.wrap .i64 (Int.tdiv n7 10),a2))
 else
  some (Sum.inr s8)
def eG (n1:Int):Option (ByteArray) :=
 if (n1 == 0)=true then
  some (⟨#[48]⟩:ByteArray)
 else
  Option.bind (
   aG (eW) (n1,(⟨#[]⟩:ByteArray))) fun a0 =>
  if (decide (n1 < 0))=true then
   (aJ9 (⟨#[45]⟩:ByteArray) a0).bind fun a1 =>
   some a1
  else
   some a0
def bD (r9:List Int) (a3:List Int):((List Int) × Int × Int)→Option (((List Int) × Int × Int) ⊕ (List Int)):=fun ⟨a0,a1,a2⟩ =>
 Option.bind (
  if (decide (a1 < (r9.length:Int)))=true then
   some true
  else
   some (decide (a2 < (a3.length:Int)))) fun a4 =>
 if a4=true then
  Option.bind (
   if (decide (a2 ≥ (a3.length:Int)))=true then
    some true
   else
    if (decide (a1 < (r9.length:Int)))=true then
     (aM r9 a1).bind fun a5 =>
     (aM a3 a2).bind fun a6 =>
     some (decide (a5 < a6))
    else
     some false) fun a7 =>
  if a7=true then
   (aM r9 a1).bind fun a8 =>
   (mH 8 a0 [a8]).bind fun a9 =>
   some (Sum.inl (a9,IntKind.wrap .i64 (a1 + 1),a2))
  else
   Option.bind (
    Option.bind (
     if (decide (a1 < (r9.length:Int)))=true then
      (aM r9 a1).bind fun b0 =>
      (aM a3 a2).bind fun b1 =>
      some (b0 == b1)
     else
      some false) fun b2 =>
    if b2=true then
     some (IntKind.wrap .i64 (a1 + 1))
    else
     some a1) fun b3 =>
   (aM a3 a2).bind fun b4 =>
   (mH 8 a0 [b4]).bind fun b5 =>
   some (Sum.inl (b5,b3,IntKind.wrap .i64 (a2 + 1)))
 else
  some (Sum.inr a0)
def mK (p1:GProgram) (a1:Int):Option (List Int) :=
 (aY a1 0 (IntKind.wrap .i64 ((p1.Fns.length:Int) - 1))).bind fun r3 =>
 if (!r3)=true then
  some []
 else
  (aM p1.Fns a1).bind fun e8 =>
  (kJ p1 e8.Body).bind fun r9 =>
  (aM p1.Fns a1).bind fun a2 =>
  (kJ p1 a2.Ret).bind fun a3 =>
  Option.bind (
   aG (bD r9 a3) ([],0,0)) fun a0 =>
  some a0
def jA (a0:Int):Option (Bool) :=
 Option.bind (
  if (a0 == 2)=true then
   some (a0 == 2)
  else
   if (a0 == 3)=true then
    some (a0 == 3)
   else
    if (a0 == 4)=true then
     some (a0 == 4)
    else
     if (a0 == 5)=true then
      some (a0 == 5)
     else
      if (a0 == 6)=true then
       some (a0 == 6)
      else
       if (a0 == 14)=true then
        some (a0 == 14)
       else
        some (a0 == 15)) fun a1 =>
 if a1=true then
  some true
 else
  some false
def cL (r3:List GVar) (r5:List Int):(Int × GProgram)→Option ((Int × GProgram) ⊕ (GProgram)):=fun ⟨a1,a0⟩ =>
 if (decide (a1 < (r5.length:Int)))=true then
  (aM r5 a1).bind fun a6 =>
  (aM a0.Nodes a6).bind fun a2 =>
  Option.bind (
   (jA a2.Kind).bind fun a7 =>
   if a7=true then
    some true
   else
    some (a2.Kind == 13)) fun a8 =>
  if a8=true then
   (oK r3 a2.Name).bind fun a4 =>
   if (decide (a4 ≥ 0))=true then
    (aM r5 a1).bind fun a5 =>
    (eG a4).bind fun a9 =>
    (aJ9 (⟨#[118]⟩:ByteArray) a9).bind fun b0 =>
    (aM a0.Nodes a5).bind fun a3 =>
    oF (List.set a0.Nodes a5.toNat (⟨a3.Kind,a3.Num,b0,a3.Kids⟩:GNode)) fun b1 =>
    some (Sum.inl (IntKind.wrap .i64 (a1 + 1),(⟨b1,a0.Fns⟩:GProgram)))
   else
    some (Sum.inl (IntKind.wrap .i64 (a1 + 1),a0))
  else
   some (Sum.inl (IntKind.wrap .i64 (a1 + 1),a0))
 else
  some (Sum.inr a0)
def dN (a2:Int) (a3:GProgram):((List GParam) × Int)→Option (((List GParam) × Int) ⊕ (List GParam)):=fun ⟨a0,a1⟩ =>
 (aM a3.Fns a2).bind fun a4 =>
 if (decide (a1 < (a4.Params.length:Int)))=true then
  (eG a1).bind fun a5 =>
  (aJ9 (⟨#[118]⟩:ByteArray) a5).bind fun a6 =>
  (aM a3.Fns a2).bind fun a7 =>
  (aM a7.Params a1).bind fun a8 =>
  (mH 24 a0 [(⟨a6,a8.Typ⟩:GParam)]).bind fun a9 =>
  some (Sum.inl (a9,IntKind.wrap .i64 (a1 + 1)))
 else
  some (Sum.inr a0)
def iZ (p1:GProgram) (a1:Int):Option (GProgram) :=
 (kI p1 a1).bind fun r3 =>
 (mK p1 a1).bind fun r5 =>
 Option.bind (
  aG (cL r3 r5) (0,p1)) fun a2 =>
 Option.bind (
  aG (dN a1 a2) ([],0)) fun a0 =>
 (aM a2.Fns a1).bind fun a3 =>
 oF (List.set a2.Fns a1.toNat (⟨a3.Name,a0,a3.Res,a3.Body,a3.Ret⟩:GFn)) fun a4 =>
 some (⟨a2.Nodes,a4⟩:GProgram)
def cE (p1:GProgram):(Int × GProgram)→Option ((Int × GProgram) ⊕ (GProgram)):=fun ⟨a0,a1⟩ =>
 if (decide (a0 < (p1.Fns.length:Int)))=true then
  (iZ a1 a0).bind fun a2 =>
  some (Sum.inl (IntKind.wrap .i64 (a0 + 1),a2))
 else
  some (Sum.inr a1)
def cD (p1:GProgram):(Int × GProgram)→Option ((Int × GProgram) ⊕ (GProgram)):=fun ⟨a0,a1⟩ =>
 if (decide (a0 < (p1.Nodes.length:Int)))=true then
  (aM p1.Nodes a0).bind fun a3 =>
  if (a3.Kind == 12)=true then
   (aM p1.Nodes a0).bind fun a4 =>
   (oM p1 a4.Name).bind fun a5 =>
   (eG a5).bind fun a6 =>
   (aJ9 (⟨#[102]⟩:ByteArray) a6).bind fun a7 =>
   (aM a1.Nodes a0).bind fun a2 =>
   oF (List.set a1.Nodes a0.toNat (⟨a2.Kind,a2.Num,a7,a2.Kids⟩:GNode)) fun a8 =>
   some (Sum.inl (IntKind.wrap .i64 (a0 + 1),(⟨a8,a1.Fns⟩:GProgram)))
  else
   some (Sum.inl (IntKind.wrap .i64 (a0 + 1),a1))
 else
  some (Sum.inr a1)
def cC (p1:GProgram):(Int × GProgram)→Option ((Int × GProgram) ⊕ (GProgram)):=fun ⟨a0,a1⟩ =>
 if (decide (a0 < (p1.Fns.length:Int)))=true then
  (eG a0).bind fun a3 =>
  (aJ9 (⟨#[102]⟩:ByteArray) a3).bind fun a4 =>
  (aM a1.Fns a0).bind fun a2 =>
  oF (List.set a1.Fns a0.toNat (⟨a4,a2.Params,a2.Res,a2.Body,a2.Ret⟩:GFn)) fun a5 =>
  some (Sum.inl (IntKind.wrap .i64 (a0 + 1),(⟨a1.Nodes,a5⟩:GProgram)))
 else
  some (Sum.inr a1)
def dB (p1:GProgram):Option (GProgram) :=
 (kW p1).bind fun r2 =>
 (dP p1).bind fun r4 =>
 if (!r4)=true then
  some r2
 else
  Option.bind (
   aG (cE p1) (0,r2)) fun a0 =>
  Option.bind (
   aG (cD p1) (0,a0)) fun a1 =>
  Option.bind (
   aG (cC p1) (0,a1)) fun a2 =>
  some a2
def cM (a0:(List GNode)→Int→(List GNode)→Int→Option (Bool)) (p1:List GNode) (q3:List GNode) (e5:GNode) (e6:GNode):Int→Option ((Int) ⊕ ((Unit) ⊕ (Bool))):=fun a1 =>
 if (decide (a1 < (e5.Kids.length:Int)))=true then
  (aM e5.Kids a1).bind fun a2 =>
  (aM e6.Kids a1).bind fun a3 =>
  (a0 p1 a2 q3 a3).bind fun a4 =>
  if (!a4)=true then
   some (Sum.inr (Sum.inr false))
  else
   some (Sum.inl (IntKind.wrap .i64 (a1 + 1)))
 else
  some (Sum.inr (Sum.inl ()))
def eJ (a0:(List GNode)→Int→(List GNode)→Int→Option (Bool)) (p1:List GNode) (a2:Int) (q3:List GNode) (b4:Int):Option (Bool) :=
 (aM p1 a2).bind fun e5 =>
 (aM q3 b4).bind fun e6 =>
 Option.bind (
  if (e5.Kind != e6.Kind)=true then
   some true
  else
   if (e5.Num != e6.Num)=true then
    some true
   else
    if (!(sEq e5.Name e6.Name))=true then
     some true
    else
     some ((e5.Kids.length:Int) != (e6.Kids.length:Int))) fun a1 =>
 if a1=true then
  some false
 else
  Option.bind (
   aG (cM a0 p1 q3 e5 e6) 0) fun a3 =>
  match a3 with
  | Sum.inr z=>some z
  | Sum.inl () =>
   some true
def aX:Nat→(List GNode)→Int→(List GNode)→Int→Option (Bool)
 | 0=>fun _ _ _ _=>none
 | n + 1=>eJ (aX n)
def qS:(List GNode)→Int→(List GNode)→Int→Option (Bool):=(aX eK)
def gZ (p1:GProgram) (a2:Int) (q3:GProgram) (b4:Int):Option (Bool) :=
 Option.bind (
  (iU p1.Nodes a2).bind fun r7 =>
  if (decide (r7 > 0))=true then
   (iU q3.Nodes b4).bind fun a0 =>
   if (decide (a0 > 0))=true then
    (qS p1.Nodes a2 q3.Nodes b4).bind fun a1 =>
    some a1
   else
    some false
  else
   some false) fun a3 =>
 some a3
def cB (a1:GFn) (a4:GFn):Int→Option ((Int) ⊕ ((Unit) ⊕ ((Unit) ⊕ ((Int) ⊕ ((Unit) ⊕ (Bool)))))):=fun a0 =>
 if (decide (a0 < (a1.Params.length:Int)))=true then
  (aM a1.Params a0).bind fun a2 =>
  (aM a4.Params a0).bind fun a3 =>
  if ((!(sEq a2.Name a3.Name)) || (a2.Typ != a3.Typ))=true then
   some (Sum.inr (Sum.inr (Sum.inr (Sum.inr (Sum.inr false)))))
  else
   some (Sum.inl (IntKind.wrap .i64 (a0 + 1)))
 else
  some (Sum.inr (Sum.inl ()))
def bJ (p1:GProgram) (q2:GProgram):Int→Option ((Int) ⊕ ((Unit) ⊕ (Bool))):=fun i8 =>
 if (decide (i8 < (p1.Fns.length:Int)))=true then
  Option.bind (
   (aM p1.Fns i8).bind fun a0 =>
   (aM q2.Fns i8).bind fun a1 =>
   Option.bind (
    if (!(sEq a0.Name a1.Name))=true then
     some true
    else
     if (a0.Res != a1.Res)=true then
      some true
     else
      if ((a0.Params.length:Int) != (a1.Params.length:Int))=true then
       some true
      else
       some (!((decide (a0.Ret < 0)) == (decide (a1.Ret < 0))))) fun a2 =>
   if a2=true then
    some (Sum.inr (Sum.inr (Sum.inr false)))
   else
    Option.bind (
     aG (cB a0 a1) 0) fun a3 =>
    match a3 with
    | Sum.inr z=>some z
    | Sum.inl () =>
     Option.bind (
      (gZ p1 a0.Body q2 a1.Body).bind fun a4 =>
      if (!a4)=true then
       some true
      else
       if (decide (a0.Ret ≥ 0))=true then
        (gZ p1 a0.Ret q2 a1.Ret).bind fun a5 =>
        some (!a5)
       else
        some false) fun a6 =>
     if a6=true then
      some (Sum.inr (Sum.inr (Sum.inr false)))
     else
      some (Sum.inl ())) fun a7 =>
  match a7 with
  | Sum.inr z=>some z
  | Sum.inl () =>
   some (Sum.inl (IntKind.wrap .i64 (i8 + 1)))
 else
  some (Sum.inr (Sum.inl ()))
def fM (p1:GProgram) (q2:GProgram):Option (Bool) :=
 if ((p1.Fns.length:Int) != (q2.Fns.length:Int))=true then
  some false
 else
  Option.bind (
   aG (bJ p1 q2) 0) fun j7 =>
  match j7 with
  | Sum.inr z=>some z
  | Sum.inl () =>
   some true
def eV (p1:GProgram) (q2:GProgram):Option (Bool) :=
 Option.bind (
  (dP p1).bind fun r5 =>
  if r5=true then
   (dP q2).bind fun r9 =>
   if r9=true then
    (dB p1).bind fun a0 =>
    (dB q2).bind fun a1 =>
    (fM a0 a1).bind fun a2 =>
    some a2
   else
    some false
  else
   some false) fun a3 =>
 some a3
def gA (a1:List Int):((List Int) × Int)→Option (((List Int) × Int) ⊕ (List Int)):=fun ⟨a0,i7⟩ =>
 if (decide (i7 < (a1.length:Int)))=true then
  (aM a1 i7).bind fun a2 =>
  (aM a0 i7).bind fun a4 =>
  oF (List.set a0 i7.toNat a2) fun a3 =>
  some (Sum.inl (a3,IntKind.wrap .i64 (i7 + 1)))
 else
  some (Sum.inr a0)
def mQ (a1:List Int):Option (List Int) :=
 (mkI 8 (a1.length:Int) 0).bind fun l2 =>
 Option.bind (
  aG (gA a1) (l2,0)) fun a0 =>
 some a0
def mP (a1:GNode):Option (GNode) :=
 (mQ a1.Kids).bind fun r2 =>
 some (⟨a1.Kind,a1.Num,a1.Name,r2⟩:GNode)
def eY (a1:List GNode):((List GNode) × Int)→Option (((List GNode) × Int) ⊕ (List GNode)):=fun ⟨a0,i7⟩ =>
 if (decide (i7 < (a1.length:Int)))=true then
  (aM a1 i7).bind fun a2 =>
  (mP a2).bind fun a3 =>
  (aM a0 i7).bind fun a5 =>
  oF (List.set a0 i7.toNat a3) fun a4 =>
  some (Sum.inl (a4,IntKind.wrap .i64 (i7 + 1)))
 else
  some (Sum.inr a0)
def lH (a1:List GNode):Option (List GNode) :=
 (mkI 56 (a1.length:Int) (⟨0,0,ByteArray.empty,[]⟩:GNode)).bind fun l2 =>
 Option.bind (
  aG (eY a1) (l2,0)) fun a0 =>
 some a0
def lG (a1:GParam):Option (GParam) :=
 some (⟨a1.Name,a1.Typ⟩:GParam)
def eC (a1:List GParam):((List GParam) × Int)→Option (((List GParam) × Int) ⊕ (List GParam)):=fun ⟨a0,i7⟩ =>
 if (decide (i7 < (a1.length:Int)))=true then
  (aM a1 i7).bind fun a2 =>
  (lG a2).bind fun a3 =>
  (aM a0 i7).bind fun a5 =>
  oF (List.set a0 i7.toNat a3) fun a4 =>
  some (Sum.inl (a4,IntKind.wrap .i64 (i7 + 1)))
 else
  some (Sum.inr a0)
def jS (a1:List GParam):Option (List GParam) :=
 (mkI 24 (a1.length:Int) (⟨ByteArray.empty,0⟩:GParam)).bind fun l2 =>
 Option.bind (
  aG (eC a1) (l2,0)) fun a0 =>
 some a0
def rE (a1:GFn):Option (GFn) :=
 (jS a1.Params).bind fun r2 =>
 some (⟨a1.Name,r2,a1.Res,a1.Body,a1.Ret⟩:GFn)
def hJ (a1:List GFn):((List GFn) × Int)→Option (((List GFn) × Int) ⊕ (List GFn)):=fun ⟨a0,i7⟩ =>
 if (decide (i7 < (a1.length:Int)))=true then
  (aM a1 i7).bind fun a2 =>
  (rE a2).bind fun a3 =>
  (aM a0 i7).bind fun a5 =>
  oF (List.set a0 i7.toNat a3) fun a4 =>
  some (Sum.inl (a4,IntKind.wrap .i64 (i7 + 1)))
 else
  some (Sum.inr a0)
def oQ (a1:List GFn):Option (List GFn) :=
 (mkI 64 (a1.length:Int) (⟨ByteArray.empty,[],0,0,0⟩:GFn)).bind fun l2 =>
 Option.bind (
  aG (hJ a1) (l2,0)) fun a0 =>
 some a0
def bN (a1:GProgram):Option (GProgram) :=
 (lH a1.Nodes).bind fun r2 =>
 (oQ a1.Fns).bind fun r4 =>
 some (⟨r2,r4⟩:GProgram)
def cV (n1:Int) (a1:Int) (a0:Int):Option (Bool) :=
 Option.bind (
  if (decide (n1 ≥ a1))=true then
   some (decide (n1 ≤ a0))
  else
   some false) fun v8 =>
 some v8
def jG (p1:GProgram) (a0:ByteArray):Int→Option ((Int) ⊕ ((Unit) ⊕ (Int))):=fun v6 =>
 if (decide (v6 < (p1.Fns.length:Int)))=true then
  (aM p1.Fns v6).bind fun a1 =>
  if (sEq a1.Name a0)=true then
   some (Sum.inr (Sum.inr v6))
  else
   some (Sum.inl (IntKind.wrap .i64 (v6 + 1)))
 else
  some (Sum.inr (Sum.inl ()))
def lR (p1:GProgram) (a0:ByteArray):Option (Int) :=
 Option.bind (
  aG (jG p1 a0) 0) fun j5 =>
 match j5 with
 | Sum.inr z=>some z
 | Sum.inl () =>
  some (-1)
def fF (a0:Int):Option (Bool) :=
 Option.bind (
  (cV a0 2 6).bind fun r4 =>
  if r4=true then
   some true
  else
   (cV a0 12 15).bind fun r8 =>
   some r8) fun a1 =>
 some a1
def iE (b1:Int):Option (Bool) :=
 Option.bind (
  if (decide (b1 ≥ 97))=true then
   some (decide (b1 ≤ 122))
  else
   some false) fun v6 =>
 some v6
def jX (b1:Int):Option (Bool) :=
 Option.bind (
  if (decide (b1 ≥ 48))=true then
   some (decide (b1 ≤ 57))
  else
   some false) fun v6 =>
 some v6
def jW (s1:ByteArray) (r6:List ByteArray):Int→Option ((Int) ⊕ ((Unit) ⊕ (Bool))):=fun v8 =>
 if (decide (v8 < (r6.length:Int)))=true then
  (aM r6 v8).bind fun a0 =>
  if (sEq a0 s1)=true then
   some (Sum.inr (Sum.inr true))
  else
   some (Sum.inl (IntKind.wrap .i64 (v8 + 1)))
 else
  some (Sum.inr (Sum.inl ()))
def sC (s1:ByteArray) (a0:ByteArray):Option (Bool) :=
 Option.bind (
  (strings_Split a0 (⟨#[32]⟩:ByteArray)).bind fun r6 =>
  aG (jW s1 r6) 0) fun j5 =>
 match j5 with
 | Sum.inr z=>some z
 | Sum.inl () =>
  some false
def lQ (s1:ByteArray):Option (Bool) :=
 (sC s1 (⟨#[102,110,32,108,101,116,32,105,102,32,101,108,115,101,32,119,104,105,108,101,32,112,114,105,110,116,32,100,111,32,110,101,119,32,99,108,111,110,101,32,109,117,116,32,105,110,112,117,116,32,105,110,116,32,98,111,120,32,114,101,116]⟩:ByteArray)).bind fun r2 =>
 some r2
def gJ (s1:ByteArray):Int→Option ((Int) ⊕ ((Unit) ⊕ (Bool))):=fun a0 =>
 if (decide (a0 < (s1.size:Int)))=true then
  Option.bind (
   (sAt s1 a0).bind fun a1 =>
   (iE a1).bind fun a2 =>
   if (!a2)=true then
    (jX a1).bind fun a3 =>
    some (!a3)
   else
    some false) fun a4 =>
  if a4=true then
   some (Sum.inr (Sum.inr false))
  else
   some (Sum.inl (IntKind.wrap .i64 (a0 + 1)))
 else
  some (Sum.inr (Sum.inl ()))
def iW (s1:ByteArray):Option (Bool) :=
 Option.bind (
  (cV (s1.size:Int) 1 8).bind fun r4 =>
  if (!r4)=true then
   some true
  else
   (sAt s1 0).bind fun c8 =>
   (iE c8).bind fun r9 =>
   some (!r9)) fun a0 =>
 if a0=true then
  some false
 else
  Option.bind (
   aG (gJ s1) 0) fun a1 =>
  match a1 with
  | Sum.inr z=>some z
  | Sum.inl () =>
   (lQ s1).bind fun a2 =>
   some (!a2)
def gE (l1:List Int) (n2:Int):Int→Option ((Int) ⊕ ((Unit) ⊕ (Bool))):=fun v6 =>
 if (decide (v6 < (l1.length:Int)))=true then
  (aM l1 v6).bind fun a0 =>
  if (a0 == n2)=true then
   some (Sum.inr (Sum.inr true))
  else
   some (Sum.inl (IntKind.wrap .i64 (v6 + 1)))
 else
  some (Sum.inr (Sum.inl ()))
def iV (l1:List Int) (n2:Int):Option (Bool) :=
 Option.bind (
  aG (gE l1 n2) 0) fun j5 =>
 match j5 with
 | Sum.inr z=>some z
 | Sum.inl () =>
  some false
def oW (a0:Int):Option (Int × Int) :=
 Option.bind (
  if (a0 == 8)=true then
   some (a0 == 8)
  else
   if (a0 == 13)=true then
    some (a0 == 13)
   else
    if (a0 == 14)=true then
     some (a0 == 14)
    else
     if (a0 == 15)=true then
      some (a0 == 15)
     else
      if (a0 == 18)=true then
       some (a0 == 18)
      else
       some (a0 == 19)) fun a1 =>
 if a1=true then
  some (1,1)
 else
  Option.bind (
   if (a0 == 9)=true then
    some (a0 == 9)
   else
    if (a0 == 10)=true then
     some (a0 == 10)
    else
     if (a0 == 11)=true then
      some (a0 == 11)
     else
      some (a0 == 17)) fun a2 =>
  if a2=true then
   some (2,2)
  else
   if (a0 == 16)=true then
    some (3,3)
   else
    if (a0 == 12)=true then
     some (0,3)
    else
     if (a0 == 20)=true then
      some (0,12)
     else
      some (0,0)
def jE (a0:Int):Option (Bool) :=
 (cV a0 1 12).bind fun r2 =>
 some r2
def mZ (a0:Int):Option (Bool) :=
 (cV a0 13 19).bind fun r2 =>
 some r2
def lN (a0:Int) (i2:Int) (a1:Int):Option (Bool) :=
 if (a0 == 20)=true then
  (mZ a1).bind fun r6 =>
  some r6
 else
  Option.bind (
   if (a0 == 16)=true then
    some (decide (i2 > 0))
   else
    if (a0 == 17)=true then
     some (decide (i2 > 0))
    else
     some false) fun a2 =>
  if a2=true then
   some (a1 == 20)
  else
   if (a0 == 19)=true then
    some (a1 == 12)
   else
    (jE a1).bind fun a3 =>
    some a3
def gI (a0:List GNode) (k2:Int) (e7:GNode):Int→Option ((Int) ⊕ ((Unit) ⊕ (Bool))):=fun a1 =>
 if (decide (a1 < (e7.Kids.length:Int)))=true then
  (aM e7.Kids a1).bind fun a2 =>
  Option.bind (
   (cV a2 0 (IntKind.wrap .i64 (k2 - 1))).bind fun a3 =>
   if (!a3)=true then
    some true
   else
    (subI e7.Kids 0 a1).bind fun a4 =>
    (iV a4 a2).bind fun a5 =>
    if a5=true then
     some true
    else
     (aM a0 a2).bind fun a6 =>
     (lN e7.Kind a1 a6.Kind).bind fun a7 =>
     some (!a7)) fun a8 =>
  if a8=true then
   some (Sum.inr (Sum.inr false))
  else
   some (Sum.inl (IntKind.wrap .i64 (a1 + 1)))
 else
  some (Sum.inr (Sum.inl ()))
def nC (a0:List GNode) (k2:Int):Option (Bool) :=
 (cV k2 0 (IntKind.wrap .i64 ((a0.length:Int) - 1))).bind fun r3 =>
 if (!r3)=true then
  some false
 else
  (aM a0 k2).bind fun e7 =>
  (oW e7.Kind).bind fun ⟨r8,r9⟩ =>
  Option.bind (
   (cV e7.Kind 1 20).bind fun a1 =>
   if (!a1)=true then
    some true
   else
    (cV (e7.Kids.length:Int) r8 r9).bind fun a2 =>
    some (!a2)) fun a3 =>
  if a3=true then
   some false
  else
   Option.bind (
    aG (gI a0 k2 e7) 0) fun a4 =>
   match a4 with
   | Sum.inr z=>some z
   | Sum.inl () =>
    Option.bind (
     if (e7.Kind == 1)=true then
      (cV e7.Num 0 1000000000).bind fun a5 =>
      if (!a5)=true then
       some true
      else
       some false
     else
      some (e7.Num != 0)) fun a6 =>
    if a6=true then
     some false
    else
     (fF e7.Kind).bind fun a7 =>
     if a7=true then
      (iW e7.Name).bind fun a8 =>
      some a8
     else
      some (sEq e7.Name (⟨#[]⟩:ByteArray))
def eL (a0:List Int) (a3:GNode):(Int × Int)→Option ((Int × Int) ⊕ (Int)):=fun ⟨a1,a2⟩ =>
 if (decide (a2 < (a3.Kids.length:Int)))=true then
  (aM a3.Kids a2).bind fun a5 =>
  (aM a0 a5).bind fun a4 =>
  some (Sum.inl (if IntKind.wrap .i64 (a4 + 1) > a1 then IntKind.wrap .i64 (a4 + 1) else a1,IntKind.wrap .i64 (a2 + 1)))
 else
  some (Sum.inr a1)
def gF (a0:List GNode) (k2:Int):((List Int) × Int)→Option (((List Int) × Int) ⊕ ((List Int) ⊕ ((List Int) × Bool))):=fun ⟨a1,a3⟩ =>
 if (decide (a3 ≤ k2))=true then
  Option.bind (
   (nC a0 a3).bind fun a5 =>
   if (!a5)=true then
    some (Sum.inr (Sum.inr (Sum.inr ([],false))))
   else
    Option.bind (
     (aM a0 a3).bind fun a6 =>
     aG (eL a1 a6) (1,0)) fun a4 =>
    if (decide (a4 > 10))=true then
     some (Sum.inr (Sum.inr (Sum.inr ([],false))))
    else
     (mH 8 a1 [a4]).bind fun a7 =>
     some (Sum.inl a7)) fun a8 =>
  match a8 with
  | Sum.inr z=>some z
  | Sum.inl a2 =>
   some (Sum.inl (a2,IntKind.wrap .i64 (a3 + 1)))
 else
  some (Sum.inr (Sum.inl a1))
def nA (a0:List GNode) (k2:Int):Option ((List Int) × Bool) :=
 (cV k2 0 (IntKind.wrap .i64 ((a0.length:Int) - 1))).bind fun r3 =>
 if (!r3)=true then
  some ([],false)
 else
  Option.bind (
   aG (gF a0 k2) ([],0)) fun j9 =>
  match j9 with
  | Sum.inr z=>some z
  | Sum.inl a1 =>
   some (a1,true)
def gU (a0:List GNode) (k2:Int):Option (Int) :=
 (nA a0 k2).bind fun ⟨r3,r4⟩ =>
 if (!r4)=true then
  some 0
 else
  (aM r3 k2).bind fun e8 =>
  some e8
def jF (f2:GFn):Int→Option ((Int) ⊕ ((Unit) ⊕ (Bool))):=fun a0 =>
 if (decide (a0 < (f2.Params.length:Int)))=true then
  (aM f2.Params a0).bind fun a1 =>
  Option.bind (
   (iW a1.Name).bind fun a2 =>
   if (!a2)=true then
    some true
   else
    (cV a1.Typ 1 4).bind fun a3 =>
    some (!a3)) fun a4 =>
  if a4=true then
   some (Sum.inr (Sum.inr false))
  else
   some (Sum.inl (IntKind.wrap .i64 (a0 + 1)))
 else
  some (Sum.inr (Sum.inl ()))
def rM (p1:GProgram) (f2:GFn):Option (Bool) :=
 Option.bind (
  (iW f2.Name).bind fun r5 =>
  if (!r5)=true then
   some true
  else
   if (decide ((f2.Params.length:Int) > 3))=true then
    some true
   else
    if (f2.Res != 0)=true then
     if (f2.Res != 1)=true then
      some (f2.Res != 2)
     else
      some false
    else
     some false) fun a0 =>
 if a0=true then
  some false
 else
  Option.bind (
   aG (jF f2) 0) fun a1 =>
  match a1 with
  | Sum.inr z=>some z
  | Sum.inl () =>
   Option.bind (
    (cV f2.Body 0 (IntKind.wrap .i64 ((p1.Nodes.length:Int) - 1))).bind fun a2 =>
    if (!a2)=true then
     some true
    else
     (aM p1.Nodes f2.Body).bind fun a3 =>
     some (a3.Kind != 20)) fun a4 =>
   if a4=true then
    some false
   else
    if (f2.Res == 0)=true then
     some (f2.Ret == (-1))
    else
     Option.bind (
      (cV f2.Ret 0 (IntKind.wrap .i64 ((p1.Nodes.length:Int) - 1))).bind fun a5 =>
      if a5=true then
       (aM p1.Nodes f2.Ret).bind fun a6 =>
       (jE a6.Kind).bind fun a7 =>
       some a7
      else
       some false) fun a8 =>
     some a8
def dL (a2:GNode):((List Int) × Int)→Option (((List Int) × Int) ⊕ (List Int)):=fun ⟨a0,a1⟩ =>
 if (decide (a1 < (a2.Kids.length:Int)))=true then
  (aM a2.Kids a1).bind fun a3 =>
  (aM a0 a3).bind fun a4 =>
  oF (List.set a0 a3.toNat (IntKind.wrap .i64 (a4 + 1))) fun a5 =>
  some (Sum.inl (a5,IntKind.wrap .i64 (a1 + 1)))
 else
  some (Sum.inr a0)
def dM (p1:GProgram):((List Int) × Int)→Option (((List Int) × Int) ⊕ (List Int)):=fun ⟨a0,a2⟩ =>
 if (decide (a2 < (p1.Nodes.length:Int)))=true then
  Option.bind (
   (aM p1.Nodes a2).bind fun a3 =>
   aG (dL a3) (a0,0)) fun a1 =>
  some (Sum.inl (a1,IntKind.wrap .i64 (a2 + 1)))
 else
  some (Sum.inr a0)
def aI (a1:GFn):((List Int) × Int)→Option (((List Int) × Int) ⊕ ((List Int) ⊕ (((List Int) × Int) ⊕ ((List Int) ⊕ (Bool))))):=fun ⟨a0,a2⟩ =>
 if (decide (a2 < ([a1.Body,a1.Ret].length:Int)))=true then
  (aM [a1.Body,a1.Ret] a2).bind fun a3 =>
  if (decide (a3 < 0))=true then
   some (Sum.inl (a0,IntKind.wrap .i64 (a2 + 1)))
  else
   (aM a0 a3).bind fun a4 =>
   if (a4 != 0)=true then
    some (Sum.inr (Sum.inr (Sum.inr (Sum.inr false))))
   else
    (aM a0 a3).bind fun a6 =>
    oF (List.set a0 a3.toNat (-1)) fun a5 =>
    some (Sum.inl (a5,IntKind.wrap .i64 (a2 + 1)))
 else
  some (Sum.inr (Sum.inl a0))
def cI (p1:GProgram):((List Int) × Int)→Option (((List Int) × Int) ⊕ ((List Int) ⊕ (Bool))):=fun ⟨a0,a2⟩ =>
 if (decide (a2 < (p1.Fns.length:Int)))=true then
  Option.bind (
   (aM p1.Fns a2).bind fun a3 =>
   Option.bind (
    (rM p1 a3).bind fun a4 =>
    if (!a4)=true then
     some true
    else
     (lR p1 a3.Name).bind fun a5 =>
     some (a5 != a2)) fun a6 =>
   if a6=true then
    some (Sum.inr (Sum.inr (Sum.inr false)))
   else
    aG (aI a3) (a0,0)) fun a7 =>
  match a7 with
  | Sum.inr z=>some z
  | Sum.inl a1 =>
   some (Sum.inl (a1,IntKind.wrap .i64 (a2 + 1)))
 else
  some (Sum.inr (Sum.inl a0))
def dK (a0:List Int):Int→Option ((Int) ⊕ ((Unit) ⊕ (Bool))):=fun a2 =>
 if (decide (a2 < (a0.length:Int)))=true then
  (aM a0 a2).bind fun a1 =>
  Option.bind (
   if (a1 != 1)=true then
    some (a1 != (-1))
   else
    some false) fun a3 =>
  if a3=true then
   some (Sum.inr (Sum.inr false))
  else
   some (Sum.inl (IntKind.wrap .i64 (a2 + 1)))
 else
  some (Sum.inr (Sum.inl ()))
def iQ (p1:GProgram):Option (Bool) :=
 Option.bind (
  (cV (p1.Nodes.length:Int) 1 300).bind fun r4 =>
  if (!r4)=true then
   some true
  else
   (cV (p1.Fns.length:Int) 1 8).bind fun r8 =>
   if (!r8)=true then
    some true
   else
    (gU p1.Nodes (IntKind.wrap .i64 ((p1.Nodes.length:Int) - 1))).bind fun a2 =>
    some (a2 == 0)) fun a3 =>
 if a3=true then
  some false
 else
  (mkI 8 (p1.Nodes.length:Int) 0).bind fun a4 =>
  Option.bind (
   aG (dM p1) (a4,0)) fun a0 =>
  Option.bind (
   aG (cI p1) (a0,0)) fun a5 =>
  match a5 with
  | Sum.inr z=>some z
  | Sum.inl a1 =>
   Option.bind (
    aG (dK a1) 0) fun a6 =>
   match a6 with
   | Sum.inr z=>some z
   | Sum.inl () =>
    some true
def iA (a2:GNode):((List Int) × Int)→Option (((List Int) × Int) ⊕ (List Int)):=fun ⟨a0,a1⟩ =>
 if (decide (a1 < (a2.Kids.length:Int)))=true then
  (aM a2.Kids a1).bind fun a3 =>
  (iV a0 a3).bind fun a4 =>
  if (!a4)=true then
   (mH 8 a0 [a3]).bind fun a5 =>
   some (Sum.inl (a5,IntKind.wrap .i64 (a1 + 1)))
  else
   some (Sum.inl (a0,IntKind.wrap .i64 (a1 + 1)))
 else
  some (Sum.inr a0)
def iC (a1:List GNode):((List Int) × Int)→Option (((List Int) × Int) ⊕ (List Int)):=fun ⟨a0,i7⟩ =>
 if (decide (i7 < (a0.length:Int)))=true then
  Option.bind (
   (aM a0 i7).bind fun a3 =>
   (aM a1 a3).bind fun a4 =>
   aG (iA a4) (a0,0)) fun a2 =>
  some (Sum.inl (a2,IntKind.wrap .i64 (i7 + 1)))
 else
  some (Sum.inr a0)
def oV (a0:List GNode) (k2:Int):Option (List Int) :=
 Option.bind (
  aG (iC a0) ([k2],0)) fun a1 =>
 (sort_Ints a1).bind fun a2 =>
 some a2
def mF (p1:GProgram) (k2:Int):Option (List Int) :=
 (gU p1.Nodes k2).bind fun r3 =>
 if (r3 == 0)=true then
  some []
 else
  (oV p1.Nodes k2).bind fun r7 =>
  some r7
def gH (a2:GFn):((List GVar) × Int)→Option (((List GVar) × Int) ⊕ (List GVar)):=fun ⟨a0,a1⟩ =>
 if (decide (a1 < (a2.Params.length:Int)))=true then
  (aM a2.Params a1).bind fun a3 =>
  (mH 32 a0 [(⟨a3.Name,a3.Typ,(-1)⟩:GVar)]).bind fun a4 =>
  some (Sum.inl (a4,IntKind.wrap .i64 (a1 + 1)))
 else
  some (Sum.inr a0)
def gG (p1:GProgram) (a2:List Int):((List GVar) × Int)→Option (((List GVar) × Int) ⊕ (List GVar)):=fun ⟨a0,a1⟩ =>
 if (decide (a1 < (a2.length:Int)))=true then
  (aM a2 a1).bind fun a3 =>
  (aM p1.Nodes a3).bind fun a4 =>
  if (a4.Kind == 13)=true then
   (mH 32 a0 [(⟨a4.Name,0,a3⟩:GVar)]).bind fun a5 =>
   some (Sum.inl (a5,IntKind.wrap .i64 (a1 + 1)))
  else
   some (Sum.inl (a0,IntKind.wrap .i64 (a1 + 1)))
 else
  some (Sum.inr a0)
def kM (p1:GProgram) (a2:Int):Option (List GVar) :=
 (cV a2 0 (IntKind.wrap .i64 ((p1.Fns.length:Int) - 1))).bind fun r3 =>
 if (!r3)=true then
  some []
 else
  Option.bind (
   (aM p1.Fns a2).bind fun a3 =>
   aG (gH a3) ([],0)) fun a0 =>
  Option.bind (
   (aM p1.Fns a2).bind fun a4 =>
   (mF p1 a4.Body).bind fun a5 =>
   aG (gG p1 a5) (a0,0)) fun a1 =>
  some a1
def iF (a0:List GVar) (a1:ByteArray):Int→Option ((Int) ⊕ ((Unit) ⊕ (Int))):=fun v6 =>
 if (decide (v6 < (a0.length:Int)))=true then
  (aM a0 v6).bind fun a2 =>
  if (sEq a2.Name a1)=true then
   some (Sum.inr (Sum.inr v6))
  else
   some (Sum.inl (IntKind.wrap .i64 (v6 + 1)))
 else
  some (Sum.inr (Sum.inl ()))
def mE (a0:List GVar) (a1:ByteArray):Option (Int) :=
 Option.bind (
  aG (iF a0 a1) 0) fun j5 =>
 match j5 with
 | Sum.inr z=>some z
 | Sum.inl () =>
  some (-1)
def fA (r3:List GVar):Int→Option ((Int) ⊕ ((Unit) ⊕ (Bool))):=fun v8 =>
 if (decide (v8 < (r3.length:Int)))=true then
  (aM r3 v8).bind fun a0 =>
  (mE r3 a0.Name).bind fun a1 =>
  if (a1 != v8)=true then
   some (Sum.inr (Sum.inr false))
  else
   some (Sum.inl (IntKind.wrap .i64 (v8 + 1)))
 else
  some (Sum.inr (Sum.inl ()))
def lM (p1:GProgram) (a0:Int):Option (Bool) :=
 (kM p1 a0).bind fun r3 =>
 Option.bind (
  aG (fA r3) 0) fun j7 =>
 match j7 with
 | Sum.inr z=>some z
 | Sum.inl () =>
  some true
def rH (a0:Int):Option (Bool) :=
 Option.bind (
  (cV a0 2 6).bind fun r4 =>
  if r4=true then
   some true
  else
   if (a0 == 14)=true then
    some true
   else
    some (a0 == 15)) fun a1 =>
 some a1
def fB (l1:List ByteArray) (s2:ByteArray):Int→Option ((Int) ⊕ ((Unit) ⊕ (Bool))):=fun v6 =>
 if (decide (v6 < (l1.length:Int)))=true then
  (aM l1 v6).bind fun a0 =>
  if (sEq a0 s2)=true then
   some (Sum.inr (Sum.inr true))
  else
   some (Sum.inl (IntKind.wrap .i64 (v6 + 1)))
 else
  some (Sum.inr (Sum.inl ()))
def lO (l1:List ByteArray) (s2:ByteArray):Option (Bool) :=
 Option.bind (
  aG (fB l1 s2) 0) fun j5 =>
 match j5 with
 | Sum.inr z=>some z
 | Sum.inl () =>
  some false
def gQ (a0:GProgram→Int→Int→(List ByteArray)→Option (Bool)) (p1:GProgram) (a4:Int) (e5:GNode):((List ByteArray) × Int)→Option (((List ByteArray) × Int) ⊕ ((Unit) ⊕ (Bool))):=fun ⟨a1,a2⟩ =>
 if (decide (a2 < (e5.Kids.length:Int)))=true then
  (aM e5.Kids a2).bind fun a3 =>
  (a0 p1 a4 a3 a1).bind fun a5 =>
  if (!a5)=true then
   some (Sum.inr (Sum.inr false))
  else
   Option.bind (
    if (e5.Kind == 20)=true then
     (aM p1.Nodes a3).bind fun a6 =>
     some (a6.Kind == 13)
    else
     some false) fun a7 =>
   if a7=true then
    (aM p1.Nodes a3).bind fun a8 =>
    (mH 16 a1 [a8.Name]).bind fun a9 =>
    some (Sum.inl (a9,IntKind.wrap .i64 (a2 + 1)))
   else
    some (Sum.inl (a1,IntKind.wrap .i64 (a2 + 1)))
 else
  some (Sum.inr (Sum.inl ()))
def mY (a0:GProgram→Int→Int→(List ByteArray)→Option (Bool)) (p1:GProgram) (a2:Int) (k3:Int) (a1:List ByteArray):Option (Bool) :=
 (aM p1.Nodes k3).bind fun e5 =>
 Option.bind (
  (rH e5.Kind).bind fun r8 =>
  if r8=true then
   (lO a1 e5.Name).bind fun a4 =>
   some (!a4)
  else
   some false) fun a5 =>
 if a5=true then
  some false
 else
  Option.bind (
   if (e5.Kind == 12)=true then
    (lR p1 e5.Name).bind fun a3 =>
    Option.bind (
     (cV a3 0 (IntKind.wrap .i64 (a2 - 1))).bind fun a6 =>
     if (!a6)=true then
      some true
     else
      (aM p1.Fns a3).bind fun a7 =>
      some ((a7.Params.length:Int) != (e5.Kids.length:Int))) fun a8 =>
    if a8=true then
     some (Sum.inr false)
    else
     some (Sum.inl ())
   else
    some (Sum.inl ())) fun a9 =>
  match a9 with
  | Sum.inr z=>some z
  | Sum.inl () =>
   (mH 16 [] a1).bind fun b1 =>
   Option.bind (
    aG (gQ a0 p1 a2 e5) (a1,0)) fun b0 =>
   match b0 with
   | Sum.inr z=>some z
   | Sum.inl () =>
    some true
def eH:Nat→GProgram→Int→Int→(List ByteArray)→Option (Bool)
 | 0=>fun _ _ _ _=>none
 | n + 1=>mY (eH n)
def rI:GProgram→Int→Int→(List ByteArray)→Option (Bool):=(eH eK)
def bU (a2:GFn):((List ByteArray) × Int)→Option (((List ByteArray) × Int) ⊕ (List ByteArray)):=fun ⟨a0,a1⟩ =>
 if (decide (a1 < (a2.Params.length:Int)))=true then
  (aM a2.Params a1).bind fun a3 =>
  (mH 16 a0 [a3.Name]).bind fun a4 =>
  some (Sum.inl (a4,IntKind.wrap .i64 (a1 + 1)))
 else
  some (Sum.inr a0)
def bT (p1:GProgram) (a2:GNode):((List ByteArray) × Int)→Option (((List ByteArray) × Int) ⊕ (List ByteArray)):=fun ⟨a0,a1⟩ =>
 if (decide (a1 < (a2.Kids.length:Int)))=true then
  (aM a2.Kids a1).bind fun a3 =>
  (aM p1.Nodes a3).bind fun a4 =>
  if (a4.Kind == 13)=true then
   (aM p1.Nodes a3).bind fun a5 =>
   (mH 16 a0 [a5.Name]).bind fun a6 =>
   some (Sum.inl (a6,IntKind.wrap .i64 (a1 + 1)))
  else
   some (Sum.inl (a0,IntKind.wrap .i64 (a1 + 1)))
 else
  some (Sum.inr a0)
def cS (p1:GProgram):Int→Option ((Int) ⊕ ((Unit) ⊕ (Bool))):=fun v9 =>
 if (decide (v9 < (p1.Fns.length:Int)))=true then
  Option.bind (
   (aM p1.Fns v9).bind fun a2 =>
   (lM p1 v9).bind fun a3 =>
   if (!a3)=true then
    some (Sum.inr (Sum.inr (Sum.inr false)))
   else
    Option.bind (
     aG (bU a2) ([],0)) fun a0 =>
    (rI p1 v9 a2.Body a0).bind fun a4 =>
    if (!a4)=true then
     some (Sum.inr (Sum.inr (Sum.inr false)))
    else
     Option.bind (
      (aM p1.Nodes a2.Body).bind fun a5 =>
      aG (bT p1 a5) (a0,0)) fun a1 =>
     Option.bind (
      if (decide (a2.Ret ≥ 0))=true then
       (rI p1 v9 a2.Ret a1).bind fun a6 =>
       some (!a6)
      else
       some false) fun a7 =>
     if a7=true then
      some (Sum.inr (Sum.inr (Sum.inr false)))
     else
      some (Sum.inl ())) fun a8 =>
  match a8 with
  | Sum.inr z=>some z
  | Sum.inl () =>
   some (Sum.inl (IntKind.wrap .i64 (v9 + 1)))
 else
  some (Sum.inr (Sum.inl ()))
def dV (p1:GProgram):Option (Bool) :=
 (iQ p1).bind fun r2 =>
 if (!r2)=true then
  some false
 else
  Option.bind (
   aG (cS p1) 0) fun j8 =>
  match j8 with
  | Sum.inr z=>some z
  | Sum.inl () =>
   some true
def jY (l1:List Int):Option (List Int) :=
 (mH 8 [] l1).bind fun l2 =>
 some l1
def dJ (l1:List GNode):((List GNode) × Int)→Option (((List GNode) × Int) ⊕ (List GNode)):=fun ⟨a0,v6⟩ =>
 if (decide (v6 < (l1.length:Int)))=true then
  (aM l1 v6).bind fun a1 =>
  (jY a1.Kids).bind fun a2 =>
  (mH 56 a0 [(⟨a1.Kind,a1.Num,a1.Name,a2⟩:GNode)]).bind fun a3 =>
  some (Sum.inl (a3,IntKind.wrap .i64 (v6 + 1)))
 else
  some (Sum.inr a0)
def iP (l1:List GNode):Option (List GNode) :=
 Option.bind (
  aG (dJ l1) ([],0)) fun a0 =>
 some a0
def nB (f1:GFn):Option (GFn) :=
 (mH 24 [] f1.Params).bind fun l2 =>
 some (⟨f1.Name,f1.Params,f1.Res,f1.Body,f1.Ret⟩:GFn)
def cG (p1:GProgram):(Int × GProgram)→Option ((Int × GProgram) ⊕ (GProgram)):=fun ⟨v7,v8⟩ =>
 if (decide (v7 < (p1.Fns.length:Int)))=true then
  (aM p1.Fns v7).bind fun a0 =>
  (nB a0).bind fun a1 =>
  (mH 64 v8.Fns [a1]).bind fun a2 =>
  some (Sum.inl (IntKind.wrap .i64 (v7 + 1),(⟨v8.Nodes,a2⟩:GProgram)))
 else
  some (Sum.inr v8)
def bY (p1:GProgram):Option (GProgram) :=
 (iP p1.Nodes).bind fun r2 =>
 Option.bind (
  aG (cG p1) (0,(⟨r2,[]⟩:GProgram))) fun a0 =>
 some a0
def oX (p1:GProgram) (a0:Int):Option (List Int) :=
 (cV a0 0 (IntKind.wrap .i64 ((p1.Fns.length:Int) - 1))).bind fun r3 =>
 if (!r3)=true then
  some []
 else
  (aM p1.Fns a0).bind fun e7 =>
  (aM p1.Fns a0).bind fun e8 =>
  if (e8.Ret != (-1))=true then
   (aM p1.Fns a0).bind fun a1 =>
   (mH 8 [e7.Body] [a1.Ret]).bind fun a2 =>
   some a2
  else
   some [e7.Body]
def fC (a2:List Int):((List Int) × Int)→Option (((List Int) × Int) ⊕ (List Int)):=fun ⟨a0,a1⟩ =>
 if (decide (a1 < (a2.length:Int)))=true then
  (aM a2 a1).bind fun a3 =>
  (iV a0 a3).bind fun a4 =>
  if (!a4)=true then
   (mH 8 a0 [a3]).bind fun a5 =>
   some (Sum.inl (a5,IntKind.wrap .i64 (a1 + 1)))
  else
   some (Sum.inl (a0,IntKind.wrap .i64 (a1 + 1)))
 else
  some (Sum.inr a0)
def dU (p1:GProgram) (r6:List Int):((List Int) × Int)→Option (((List Int) × Int) ⊕ (List Int)):=fun ⟨a0,v9⟩ =>
 if (decide (v9 < (r6.length:Int)))=true then
  Option.bind (
   (aM r6 v9).bind fun a2 =>
   (mF p1 a2).bind fun a3 =>
   aG (fC a3) (a0,0)) fun a1 =>
  some (Sum.inl (a1,IntKind.wrap .i64 (v9 + 1)))
 else
  some (Sum.inr a0)
def lP (p1:GProgram) (a1:Int):Option (List Int) :=
 Option.bind (
  (oX p1 a1).bind fun r6 =>
  aG (dU p1 r6) ([],0)) fun a0 =>
 (sort_Ints a0).bind fun a2 =>
 some a2
def cN (a0:ByteArray→Option ByteArray) (r9:List Int):(Int × GProgram)→Option ((Int × GProgram) ⊕ (GProgram)):=fun ⟨a3,a2⟩ =>
 if (decide (a3 < (r9.length:Int)))=true then
  (aM r9 a3).bind fun a4 =>
  (aM a2.Nodes a4).bind fun a1 =>
  Option.bind (
   (fF a1.Kind).bind fun a5 =>
   if a5=true then
    some (a1.Kind != 12)
   else
    some false) fun a6 =>
  if a6=true then
   (a0 a1.Name).bind fun a7 =>
   oF (List.set a2.Nodes a4.toNat (⟨a1.Kind,a1.Num,a7,a1.Kids⟩:GNode)) fun a8 =>
   some (Sum.inl (IntKind.wrap .i64 (a3 + 1),(⟨a8,a2.Fns⟩:GProgram)))
  else
   some (Sum.inl (IntKind.wrap .i64 (a3 + 1),a2))
 else
  some (Sum.inr a2)
def dS (a4:Int) (a0:ByteArray→Option ByteArray) (a6:GFn):(Int × GProgram)→Option ((Int × GProgram) ⊕ (GProgram)):=fun ⟨a2,a3⟩ =>
 if (decide (a2 < (a6.Params.length:Int)))=true then
  (aM a3.Fns a4).bind fun a1 =>
  (aM a1.Params a2).bind fun a5 =>
  (a0 a5.Name).bind fun a7 =>
  oF (List.set a1.Params a2.toNat (⟨a7,a5.Typ⟩:GParam)) fun a8 =>
  oF (List.set a3.Fns a4.toNat (⟨a1.Name,a8,a1.Res,a1.Body,a1.Ret⟩:GFn)) fun a9 =>
  some (Sum.inl (IntKind.wrap .i64 (a2 + 1),(⟨a3.Nodes,a9⟩:GProgram)))
 else
  some (Sum.inr a3)
def nO (p1:GProgram) (a1:Int) (a0:ByteArray→Option ByteArray):Option (GProgram) :=
 (bY p1).bind fun r4 =>
 Option.bind (
  (lP p1 a1).bind fun r9 =>
  aG (cN a0 r9) (0,r4)) fun a2 =>
 Option.bind (
  (aM a2.Fns a1).bind fun a3 =>
  aG (dS a1 a0 a3) (0,a2)) fun a4 =>
 some a4
def jH (n1:Int):Option (ByteArray) :=
 (strconv_Itoa n1).bind fun r2 =>
 some r2
def bF (a0:ByteArray) (a2:List GVar):Option (ByteArray) :=
 (mE a2 a0).bind fun r3 =>
 if (decide (r3 < 0))=true then
  some a0
 else
  (jH r3).bind fun r7 =>
  (aJ9 (⟨#[118]⟩:ByteArray) r7).bind fun t9 =>
  some t9
def iD (p1:GProgram) (a1:Int):Option (GProgram) :=
 (kM p1 a1).bind fun r3 =>
 (nO p1 a1 (fun a0=>bF a0 r3)).bind fun r5 =>
 some r5
def bR (a0:ByteArray→Option ByteArray) (r3:GProgram):(Int × GProgram)→Option ((Int × GProgram) ⊕ (GProgram)):=fun ⟨v8,v9⟩ =>
 if (decide (v8 < (r3.Nodes.length:Int)))=true then
  (aM v9.Nodes v8).bind fun a1 =>
  if (a1.Kind == 12)=true then
   (a0 a1.Name).bind fun a2 =>
   oF (List.set v9.Nodes v8.toNat (⟨a1.Kind,a1.Num,a2,a1.Kids⟩:GNode)) fun a3 =>
   some (Sum.inl (IntKind.wrap .i64 (v8 + 1),(⟨a3,v9.Fns⟩:GProgram)))
  else
   some (Sum.inl (IntKind.wrap .i64 (v8 + 1),v9))
 else
  some (Sum.inr v9)
def bQ (a0:ByteArray→Option ByteArray) (a4:GProgram):(Int × GProgram)→Option ((Int × GProgram) ⊕ (GProgram)):=fun ⟨a2,a3⟩ =>
 if (decide (a2 < (a4.Fns.length:Int)))=true then
  (aM a3.Fns a2).bind fun a1 =>
  (a0 a1.Name).bind fun a5 =>
  oF (List.set a3.Fns a2.toNat (⟨a5,a1.Params,a1.Res,a1.Body,a1.Ret⟩:GFn)) fun a6 =>
  some (Sum.inl (IntKind.wrap .i64 (a2 + 1),(⟨a3.Nodes,a6⟩:GProgram)))
 else
  some (Sum.inr a3)
def jV (p1:GProgram) (a0:ByteArray→Option ByteArray):Option (GProgram) :=
 (bY p1).bind fun r3 =>
 Option.bind (
  aG (bR a0 r3) (0,r3)) fun a1 =>
 Option.bind (
  aG (bQ a0 a1) (0,a1)) fun a2 =>
 some a2
def bH (a0:ByteArray) (a2:GProgram):Option (ByteArray) :=
 (lR a2 a0).bind fun r3 =>
 if (decide (r3 < 0))=true then
  some a0
 else
  (jH r3).bind fun r7 =>
  (aJ9 (⟨#[102]⟩:ByteArray) r7).bind fun t9 =>
  some t9
def cJ (p1:GProgram):(Int × GProgram)→Option ((Int × GProgram) ⊕ (GProgram)):=fun ⟨a0,a1⟩ =>
 if (decide (a0 < (p1.Fns.length:Int)))=true then
  (iD a1 a0).bind fun a2 =>
  some (Sum.inl (IntKind.wrap .i64 (a0 + 1),a2))
 else
  some (Sum.inr a1)
def dD (p1:GProgram):Option (GProgram) :=
 (dV p1).bind fun r2 =>
 if (!r2)=true then
  (bY p1).bind fun r6 =>
  some r6
 else
  (bY p1).bind fun r8 =>
  Option.bind (
   aG (cJ p1) (0,r8)) fun a1 =>
  (jV a1 (fun a0=>bH a0 p1)).bind fun a2 =>
  some a2
def eE (f1:GFn) (g2:GFn):Int→Option ((Int) ⊕ ((Unit) ⊕ (Bool))):=fun a0 =>
 if (decide (a0 < (f1.Params.length:Int)))=true then
  (aM f1.Params a0).bind fun a1 =>
  (aM g2.Params a0).bind fun a2 =>
  if ((!(sEq a1.Name a2.Name)) || (a1.Typ != a2.Typ))=true then
   some (Sum.inr (Sum.inr false))
  else
   some (Sum.inl (IntKind.wrap .i64 (a0 + 1)))
 else
  some (Sum.inr (Sum.inl ()))
def mB (f1:GFn) (g2:GFn):Option (Bool) :=
 Option.bind (
  if (!(sEq f1.Name g2.Name))=true then
   some true
  else
   if (f1.Res != g2.Res)=true then
    some true
   else
    some ((f1.Params.length:Int) != (g2.Params.length:Int))) fun v9 =>
 if v9=true then
  some false
 else
  Option.bind (
   aG (eE f1 g2) 0) fun a0 =>
  match a0 with
  | Sum.inr z=>some z
  | Sum.inl () =>
   some true
def fO (a0:GProgram→Int→GProgram→Int→Option (Bool)) (p1:GProgram) (q3:GProgram) (e5:GNode) (e6:GNode):Int→Option ((Int) ⊕ ((Unit) ⊕ (Bool))):=fun a1 =>
 if (decide (a1 < (e5.Kids.length:Int)))=true then
  (aM e5.Kids a1).bind fun a2 =>
  (aM e6.Kids a1).bind fun a3 =>
  (a0 p1 a2 q3 a3).bind fun a4 =>
  if (!a4)=true then
   some (Sum.inr (Sum.inr false))
  else
   some (Sum.inl (IntKind.wrap .i64 (a1 + 1)))
 else
  some (Sum.inr (Sum.inl ()))
def gR (a0:GProgram→Int→GProgram→Int→Option (Bool)) (p1:GProgram) (a2:Int) (q3:GProgram) (b4:Int):Option (Bool) :=
 (aM p1.Nodes a2).bind fun e5 =>
 (aM q3.Nodes b4).bind fun e6 =>
 Option.bind (
  if (e5.Kind != e6.Kind)=true then
   some true
  else
   if (e5.Num != e6.Num)=true then
    some true
   else
    if (!(sEq e5.Name e6.Name))=true then
     some true
    else
     some ((e5.Kids.length:Int) != (e6.Kids.length:Int))) fun a1 =>
 if a1=true then
  some false
 else
  Option.bind (
   aG (fO a0 p1 q3 e5 e6) 0) fun a3 =>
  match a3 with
  | Sum.inr z=>some z
  | Sum.inl () =>
   some true
def bM:Nat→GProgram→Int→GProgram→Int→Option (Bool)
 | 0=>fun _ _ _ _=>none
 | n + 1=>gR (bM n)
def pP:GProgram→Int→GProgram→Int→Option (Bool):=(bM eK)
def iG (p1:GProgram) (a2:Int) (q3:GProgram) (b4:Int):Option (Bool) :=
 Option.bind (
  (gU p1.Nodes a2).bind fun r7 =>
  if (decide (r7 > 0))=true then
   (gU q3.Nodes b4).bind fun a0 =>
   if (decide (a0 > 0))=true then
    (pP p1 a2 q3 b4).bind fun a1 =>
    some a1
   else
    some false
  else
   some false) fun a3 =>
 some a3
def gT (p1:GProgram) (f2:GFn) (q3:GProgram) (g4:GFn):Option (Bool) :=
 Option.bind (
  (mB f2 g4).bind fun r7 =>
  if (!r7)=true then
   some true
  else
   (iG p1 f2.Body q3 g4.Body).bind fun a0 =>
   if (!a0)=true then
    some true
   else
    some (!((decide (f2.Ret < 0)) == (decide (g4.Ret < 0))))) fun a1 =>
 if a1=true then
  some false
 else
  Option.bind (
   if (decide (f2.Ret < 0))=true then
    some true
   else
    (iG p1 f2.Ret q3 g4.Ret).bind fun a2 =>
    some a2) fun a3 =>
  some a3
def cH (p1:GProgram) (q2:GProgram):Int→Option ((Int) ⊕ ((Unit) ⊕ (Bool))):=fun v8 =>
 if (decide (v8 < (p1.Fns.length:Int)))=true then
  (aM p1.Fns v8).bind fun a0 =>
  (aM q2.Fns v8).bind fun a1 =>
  (gT p1 a0 q2 a1).bind fun a2 =>
  if (!a2)=true then
   some (Sum.inr (Sum.inr false))
  else
   some (Sum.inl (IntKind.wrap .i64 (v8 + 1)))
 else
  some (Sum.inr (Sum.inl ()))
def fP (p1:GProgram) (q2:GProgram):Option (Bool) :=
 if ((p1.Fns.length:Int) != (q2.Fns.length:Int))=true then
  some false
 else
  Option.bind (
   aG (cH p1 q2) 0) fun j7 =>
  match j7 with
  | Sum.inr z=>some z
  | Sum.inl () =>
   some true
def fD (p1:GProgram) (q2:GProgram):Option (Bool) :=
 Option.bind (
  (dV p1).bind fun r5 =>
  if r5=true then
   (dV q2).bind fun r9 =>
   if r9=true then
    (dD p1).bind fun a0 =>
    (dD q2).bind fun a1 =>
    (fP a0 a1).bind fun a2 =>
    some a2
   else
    some false
  else
   some false) fun a3 =>
 some a3
def gD (a1:List Int) (b2:List Int):Int→Option ((Int) ⊕ ((Unit) ⊕ (Bool))):=fun i8 =>
 if (decide (i8 < (a1.length:Int)))=true then
  (aM a1 i8).bind fun a0 =>
  (aM b2 i8).bind fun a2 =>
  if (a0 != a2)=true then
   some (Sum.inr (Sum.inr false))
  else
   some (Sum.inl (IntKind.wrap .i64 (i8 + 1)))
 else
  some (Sum.inr (Sum.inl ()))
def mV (a1:List Int) (b2:List Int):Option (Bool) :=
 if ((a1.length:Int) != (b2.length:Int))=true then
  some false
 else
  Option.bind (
   aG (gD a1 b2) 0) fun j7 =>
  match j7 with
  | Sum.inr z=>some z
  | Sum.inl () =>
   some true
def mU (a1:GNode) (b2:GNode):Option (Bool) :=
 if (a1.Kind != b2.Kind)=true then
  some false
 else
  if (a1.Num != b2.Num)=true then
   some false
  else
   if (!(sEq a1.Name b2.Name))=true then
    some false
   else
    (mV a1.Kids b2.Kids).bind fun r9 =>
    if (!r9)=true then
     some false
    else
     some true
def eZ (a1:List GNode) (b2:List GNode):Int→Option ((Int) ⊕ ((Unit) ⊕ (Bool))):=fun i8 =>
 if (decide (i8 < (a1.length:Int)))=true then
  (aM a1 i8).bind fun a0 =>
  (aM b2 i8).bind fun a2 =>
  (mU a0 a2).bind fun a3 =>
  if (!a3)=true then
   some (Sum.inr (Sum.inr false))
  else
   some (Sum.inl (IntKind.wrap .i64 (i8 + 1)))
 else
  some (Sum.inr (Sum.inl ()))
def lL (a1:List GNode) (b2:List GNode):Option (Bool) :=
 if ((a1.length:Int) != (b2.length:Int))=true then
  some false
 else
  Option.bind (
   aG (eZ a1 b2) 0) fun j7 =>
  match j7 with
  | Sum.inr z=>some z
  | Sum.inl () =>
   some true
def lK (a1:GParam) (b2:GParam):Option (Bool) :=
 if (!(sEq a1.Name b2.Name))=true then
  some false
 else
  if (a1.Typ != b2.Typ)=true then
   some false
  else
   some true
def eD (a1:List GParam) (b2:List GParam):Int→Option ((Int) ⊕ ((Unit) ⊕ (Bool))):=fun i8 =>
 if (decide (i8 < (a1.length:Int)))=true then
  (aM a1 i8).bind fun a0 =>
  (aM b2 i8).bind fun a2 =>
  (lK a0 a2).bind fun a3 =>
  if (!a3)=true then
   some (Sum.inr (Sum.inr false))
  else
   some (Sum.inl (IntKind.wrap .i64 (i8 + 1)))
 else
  some (Sum.inr (Sum.inl ()))
def jU (a1:List GParam) (b2:List GParam):Option (Bool) :=
 if ((a1.length:Int) != (b2.length:Int))=true then
  some false
 else
  Option.bind (
   aG (eD a1 b2) 0) fun j7 =>
  match j7 with
  | Sum.inr z=>some z
  | Sum.inl () =>
   some true
def rG (a1:GFn) (b2:GFn):Option (Bool) :=
 if (!(sEq a1.Name b2.Name))=true then
  some false
 else
  (jU a1.Params b2.Params).bind fun r5 =>
  if (!r5)=true then
   some false
  else
   if (a1.Res != b2.Res)=true then
    some false
   else
    if (a1.Body != b2.Body)=true then
     some false
    else
     if (a1.Ret != b2.Ret)=true then
      some false
     else
      some true
def hO (a1:List GFn) (b2:List GFn):Int→Option ((Int) ⊕ ((Unit) ⊕ (Bool))):=fun i8 =>
 if (decide (i8 < (a1.length:Int)))=true then
  (aM a1 i8).bind fun a0 =>
  (aM b2 i8).bind fun a2 =>
  (rG a0 a2).bind fun a3 =>
  if (!a3)=true then
   some (Sum.inr (Sum.inr false))
  else
   some (Sum.inl (IntKind.wrap .i64 (i8 + 1)))
 else
  some (Sum.inr (Sum.inl ()))
def oU (a1:List GFn) (b2:List GFn):Option (Bool) :=
 if ((a1.length:Int) != (b2.length:Int))=true then
  some false
 else
  Option.bind (
   aG (hO a1 b2) 0) fun j7 =>
  match j7 with
  | Sum.inr z=>some z
  | Sum.inl () =>
   some true
def gC (a1:GProgram) (b2:GProgram):Option (Bool) :=
 (lL a1.Nodes b2.Nodes).bind fun r3 =>
 if (!r3)=true then
  some false
 else
  (oU a1.Fns b2.Fns).bind fun r7 =>
  if (!r7)=true then
   some false
  else
   some true
def cQ (a0:GProgram) (a1:GProgram):Option (Bool) :=
 (gB a0 1048576).bind fun r3 =>
 if (decide (r3 < 0))=true then
  some true
 else
  (gB a1 r3).bind fun r7 =>
  if (decide (r7 < 0))=true then
   some true
  else
   (bN a0).bind fun a4 =>
   (bN a1).bind fun a5 =>
   (eV a4 a5).bind fun a6 =>
   (bN a0).bind fun a2 =>
   (bN a1).bind fun a3 =>
   (fD a2 a3).bind fun a7 =>
   if (!(a7 == a6))=true then
    some false
   else
    (bN a0).bind fun a8 =>
    (gC a2 a8).bind fun a9 =>
    if (!a9)=true then
     some false
    else
     (bN a1).bind fun b0 =>
     (gC a3 b0).bind fun b1 =>
     if (!b1)=true then
      some false
     else
      some true
end Go.OM
end
set_option maxRecDepth 100000
set_option maxHeartbeats 8000000
namespace Go.Proofs.T
open Go.OM
noncomputable def ty:TypeId→Option TI
 | 2=>some ⟨1,8,.int .i64,[.v (.int .i64 0)]⟩
 | 3=>some ⟨1,8,.int .i64,[.v (.int .i64 0)]⟩
 | 4=>some ⟨1,1,.bool,[.v (.bool false)]⟩
 | 5=>some ⟨1,1,.int .u8,[.v (.int .u8 0)]⟩
 | 7=>some ⟨4,24,.struct [(0,1),(1,1),(2,1),(3,1)],[.v (.int .i64 0),.v (.int .i64 0),.v (.bool false),.v (.int .u8 0)]⟩
 | 9=>some ⟨1,16,.str,[.v (.string .empty)]⟩
 | 12=>some ⟨1,8,.int .u64,[.v (.int .u64 0)]⟩
 | 13=>some ⟨2,24,.struct [(0,1),(1,1)],[.v (.string .empty),.v (.int .u64 0)]⟩
 | 22=>some ⟨1,24,.slice 62,[.nl true 4 none]⟩
 | 23=>some ⟨1,24,.slice 66,[.nl true 5 none]⟩
 | 24=>some ⟨2,48,.struct [(0,1),(1,1)],[.nl true 4 none,.nl true 5 none]⟩
 | 25=>some ⟨2,48,.struct [(0,1),(1,1)],[.nl true 4 none,.nl true 5 none]⟩
 | 28=>some ⟨1,24,.slice 53,[.nl true 4 none]⟩
 | 29=>some ⟨1,24,.slice 58,[.nl true 5 none]⟩
 | 30=>some ⟨2,48,.struct [(0,1),(1,1)],[.nl true 4 none,.nl true 5 none]⟩
 | 31=>some ⟨2,48,.struct [(0,1),(1,1)],[.nl true 4 none,.nl true 5 none]⟩
 | 48=>some ⟨1,8,.ptr,[.v (.pointer none)]⟩
 | 51=>some ⟨1,24,.slice 3,[.nl true 1 none]⟩
 | 52=>some ⟨4,56,.struct [(0,1),(1,1),(2,1),(3,1)],[.v (.int .i64 0),.v (.int .i64 0),.v (.string .empty),.nl true 1 none]⟩
 | 53=>some ⟨4,56,.struct [(0,1),(1,1),(2,1),(3,1)],[.v (.int .i64 0),.v (.int .i64 0),.v (.string .empty),.nl true 1 none]⟩
 | 56=>some ⟨1,24,.slice 77,[.nl true 2 none]⟩
 | 57=>some ⟨5,64,.struct [(0,1),(1,1),(2,1),(3,1),(4,1)],[.v (.string .empty),.nl true 2 none,.v (.int .i64 0),.v (.int .i64 0),.v (.int .i64 0)]⟩
 | 58=>some ⟨5,64,.struct [(0,1),(1,1),(2,1),(3,1),(4,1)],[.v (.string .empty),.nl true 2 none,.v (.int .i64 0),.v (.int .i64 0),.v (.int .i64 0)]⟩
 | 60=>some ⟨1,8,.func,[.v .nilFunc]⟩
 | 62=>some ⟨4,56,.struct [(0,1),(1,1),(2,1),(3,1)],[.v (.int .i64 0),.v (.int .i64 0),.v (.string .empty),.nl true 1 none]⟩
 | 64=>some ⟨1,24,.slice 109,[.nl true 2 none]⟩
 | 65=>some ⟨5,64,.struct [(0,1),(1,1),(2,1),(3,1),(4,1)],[.v (.string .empty),.nl true 2 none,.v (.int .i64 0),.v (.int .i64 0),.v (.int .i64 0)]⟩
 | 66=>some ⟨5,64,.struct [(0,1),(1,1),(2,1),(3,1),(4,1)],[.v (.string .empty),.nl true 2 none,.v (.int .i64 0),.v (.int .i64 0),.v (.int .i64 0)]⟩
 | 67=>some ⟨1,24,.slice 71,[.nl true 3 none]⟩
 | 70=>some ⟨3,32,.struct [(0,1),(1,1),(2,1)],[.v (.string .empty),.v (.int .i64 0),.v (.int .i64 0)]⟩
 | 71=>some ⟨3,32,.struct [(0,1),(1,1),(2,1)],[.v (.string .empty),.v (.int .i64 0),.v (.int .i64 0)]⟩
 | 72=>some ⟨1,8,.ptr,[.v (.pointer none)]⟩
 | 73=>some ⟨1,24,.slice 9,[.nl true 1 none]⟩
 | 74=>some ⟨5,88,.struct [(0,2),(2,1),(3,1),(4,1)],[.nl true 4 none,.nl true 5 none,.v (.int .i64 0),.nl true 1 none,.v (.bool false)]⟩
 | 75=>some ⟨5,88,.struct [(0,2),(2,1),(3,1),(4,1)],[.nl true 4 none,.nl true 5 none,.v (.int .i64 0),.nl true 1 none,.v (.bool false)]⟩
 | 76=>some ⟨2,24,.struct [(0,1),(1,1)],[.v (.string .empty),.v (.int .i64 0)]⟩
 | 77=>some ⟨2,24,.struct [(0,1),(1,1)],[.v (.string .empty),.v (.int .i64 0)]⟩
 | 95=>some ⟨1,24,.slice 5,[.nl true 1 none]⟩
 | 96=>some ⟨1,8,.ptr,[.v (.pointer none)]⟩
 | 107=>some ⟨1,8,.ptr,[.v (.pointer none)]⟩
 | 109=>some ⟨2,24,.struct [(0,1),(1,1)],[.v (.string .empty),.v (.int .i64 0)]⟩
 | 112=>some ⟨1,24,.slice 4,[.nl true 1 none]⟩
 | _=>none
theorem ty_ok (t:TypeId) (ti:TI) (h:ty t=some ti):TIok Tryz.prog t ti:=by
 unfold ty at h
 split at h
 ·cases h;exact ⟨by kernel_rfl,Tryz.underlying2,rfl⟩
 ·cases h;exact ⟨by kernel_rfl,Tryz.underlying3,rfl⟩
 ·cases h;exact ⟨by kernel_rfl,Tryz.underlying4,rfl⟩
 ·cases h;exact ⟨by kernel_rfl,Tryz.underlying5,rfl⟩
 ·cases h;exact ⟨by kernel_rfl,(show aP Tryz.prog 7=some [(0,1),(1,1),(2,1),(3,1)] by kernel_rfl),rfl⟩
 ·cases h;exact ⟨by kernel_rfl,Tryz.underlying9,rfl⟩
 ·cases h;exact ⟨by kernel_rfl,Tryz.underlying12,rfl⟩
 ·cases h;exact ⟨by kernel_rfl,(show aP Tryz.prog 13=some [(0,1),(1,1)] by kernel_rfl),rfl⟩
 ·cases h;exact ⟨by kernel_rfl,Tryz.underlying22,rfl⟩
 ·cases h;exact ⟨by kernel_rfl,Tryz.underlying23,rfl⟩
 ·cases h;exact ⟨by kernel_rfl,(show aP Tryz.prog 24=some [(0,1),(1,1)] by kernel_rfl),rfl⟩
 ·cases h;exact ⟨by kernel_rfl,(show aP Tryz.prog 25=some [(0,1),(1,1)] by kernel_rfl),rfl⟩
 ·cases h;exact ⟨by kernel_rfl,Tryz.underlying28,rfl⟩
 ·cases h;exact ⟨by kernel_rfl,Tryz.underlying29,rfl⟩
 ·cases h;exact ⟨by kernel_rfl,(show aP Tryz.prog 30=some [(0,1),(1,1)] by kernel_rfl),rfl⟩
 ·cases h;exact ⟨by kernel_rfl,(show aP Tryz.prog 31=some [(0,1),(1,1)] by kernel_rfl),rfl⟩
 ·cases h;exact ⟨by kernel_rfl,⟨_,Tryz.underlying48⟩,rfl⟩
 ·cases h;exact ⟨by kernel_rfl,Tryz.underlying51,rfl⟩
 ·cases h;exact ⟨by kernel_rfl,(show aP Tryz.prog 52=some [(0,1),(1,1),(2,1),(3,1)] by kernel_rfl),rfl⟩
 ·cases h;exact ⟨by kernel_rfl,(show aP Tryz.prog 53=some [(0,1),(1,1),(2,1),(3,1)] by kernel_rfl),rfl⟩
 ·cases h;exact ⟨by kernel_rfl,Tryz.underlying56,rfl⟩
 ·cases h;exact ⟨by kernel_rfl,(show aP Tryz.prog 57=some [(0,1),(1,1),(2,1),(3,1),(4,1)] by kernel_rfl),rfl⟩
 ·cases h;exact ⟨by kernel_rfl,(show aP Tryz.prog 58=some [(0,1),(1,1),(2,1),(3,1),(4,1)] by kernel_rfl),rfl⟩
 ·cases h;exact ⟨by kernel_rfl,⟨_,_,_,Tryz.underlying60⟩,rfl⟩
 ·cases h;exact ⟨by kernel_rfl,(show aP Tryz.prog 62=some [(0,1),(1,1),(2,1),(3,1)] by kernel_rfl),rfl⟩
 ·cases h;exact ⟨by kernel_rfl,Tryz.underlying64,rfl⟩
 ·cases h;exact ⟨by kernel_rfl,(show aP Tryz.prog 65=some [(0,1),(1,1),(2,1),(3,1),(4,1)] by kernel_rfl),rfl⟩
 ·cases h;exact ⟨by kernel_rfl,(show aP Tryz.prog 66=some [(0,1),(1,1),(2,1),(3,1),(4,1)] by kernel_rfl),rfl⟩
 ·cases h;exact ⟨by kernel_rfl,Tryz.underlying67,rfl⟩
 ·cases h;exact ⟨by kernel_rfl,(show aP Tryz.prog 70=some [(0,1),(1,1),(2,1)] by kernel_rfl),rfl⟩
 ·cases h;exact ⟨by kernel_rfl,(show aP Tryz.prog 71=some [(0,1),(1,1),(2,1)] by kernel_rfl),rfl⟩
 ·cases h;exact ⟨by kernel_rfl,⟨_,Tryz.underlying72⟩,rfl⟩
 ·cases h;exact ⟨by kernel_rfl,Tryz.underlying73,rfl⟩
 ·cases h;exact ⟨by kernel_rfl,(show aP Tryz.prog 74=some [(0,2),(2,1),(3,1),(4,1)] by kernel_rfl),rfl⟩
 ·cases h;exact ⟨by kernel_rfl,(show aP Tryz.prog 75=some [(0,2),(2,1),(3,1),(4,1)] by kernel_rfl),rfl⟩
 ·cases h;exact ⟨by kernel_rfl,(show aP Tryz.prog 76=some [(0,1),(1,1)] by kernel_rfl),rfl⟩
 ·cases h;exact ⟨by kernel_rfl,(show aP Tryz.prog 77=some [(0,1),(1,1)] by kernel_rfl),rfl⟩
 ·cases h;exact ⟨by kernel_rfl,Tryz.underlying95,rfl⟩
 ·cases h;exact ⟨by kernel_rfl,⟨_,Tryz.underlying96⟩,rfl⟩
 ·cases h;exact ⟨by kernel_rfl,⟨_,Tryz.underlying107⟩,rfl⟩
 ·cases h;exact ⟨by kernel_rfl,(show aP Tryz.prog 109=some [(0,1),(1,1)] by kernel_rfl),rfl⟩
 ·cases h;exact ⟨by kernel_rfl,Tryz.underlying112,rfl⟩
 ·cases h
noncomputable def E:Env:=⟨Tryz.prog,ty,ty_ok,by kernel_rfl,[(3,fun cs=>∃ m,cs[0]? = some (.int .i64 m)),(0,fun cs=>cs=((Lib.pow10Tab.map fun z=>Value.int .u64 z).toArray))]⟩
@[simp] theorem E_ty2:E.ty 2=some ⟨1,8,.int .i64,[.v (.int .i64 0)]⟩:=rfl
@[simp] theorem aHi:E.ty 3=some ⟨1,8,.int .i64,[.v (.int .i64 0)]⟩:=rfl
@[simp] theorem E_ty4:E.ty 4=some ⟨1,1,.bool,[.v (.bool false)]⟩:=rfl
@[simp] theorem E_ty5:E.ty 5=some ⟨1,1,.int .u8,[.v (.int .u8 0)]⟩:=rfl
@[simp] theorem E_ty7:E.ty 7=some ⟨4,24,.struct [(0,1),(1,1),(2,1),(3,1)],[.v (.int .i64 0),.v (.int .i64 0),.v (.bool false),.v (.int .u8 0)]⟩:=rfl
@[simp] theorem aPv:E.ty 9=some ⟨1,16,.str,[.v (.string .empty)]⟩:=rfl
@[simp] theorem E_ty12:E.ty 12=some ⟨1,8,.int .u64,[.v (.int .u64 0)]⟩:=rfl
@[simp] theorem E_ty13:E.ty 13=some ⟨2,24,.struct [(0,1),(1,1)],[.v (.string .empty),.v (.int .u64 0)]⟩:=rfl
@[simp] theorem E_ty22:E.ty 22=some ⟨1,24,.slice 62,[.nl true 4 none]⟩:=rfl
@[simp] theorem E_ty23:E.ty 23=some ⟨1,24,.slice 66,[.nl true 5 none]⟩:=rfl
@[simp] theorem E_ty24:E.ty 24=some ⟨2,48,.struct [(0,1),(1,1)],[.nl true 4 none,.nl true 5 none]⟩:=rfl
@[simp] theorem aMa:E.ty 25=some ⟨2,48,.struct [(0,1),(1,1)],[.nl true 4 none,.nl true 5 none]⟩:=rfl
@[simp] theorem E_ty28:E.ty 28=some ⟨1,24,.slice 53,[.nl true 4 none]⟩:=rfl
@[simp] theorem E_ty29:E.ty 29=some ⟨1,24,.slice 58,[.nl true 5 none]⟩:=rfl
@[simp] theorem E_ty30:E.ty 30=some ⟨2,48,.struct [(0,1),(1,1)],[.nl true 4 none,.nl true 5 none]⟩:=rfl
@[simp] theorem E_ty31:E.ty 31=some ⟨2,48,.struct [(0,1),(1,1)],[.nl true 4 none,.nl true 5 none]⟩:=rfl
@[simp] theorem E_ty48:E.ty 48=some ⟨1,8,.ptr,[.v (.pointer none)]⟩:=rfl
@[simp] theorem E_ty51:E.ty 51=some ⟨1,24,.slice 3,[.nl true 1 none]⟩:=rfl
@[simp] theorem E_ty52:E.ty 52=some ⟨4,56,.struct [(0,1),(1,1),(2,1),(3,1)],[.v (.int .i64 0),.v (.int .i64 0),.v (.string .empty),.nl true 1 none]⟩:=rfl
@[simp] theorem E_ty53:E.ty 53=some ⟨4,56,.struct [(0,1),(1,1),(2,1),(3,1)],[.v (.int .i64 0),.v (.int .i64 0),.v (.string .empty),.nl true 1 none]⟩:=rfl
@[simp] theorem E_ty56:E.ty 56=some ⟨1,24,.slice 77,[.nl true 2 none]⟩:=rfl
@[simp] theorem E_ty57:E.ty 57=some ⟨5,64,.struct [(0,1),(1,1),(2,1),(3,1),(4,1)],[.v (.string .empty),.nl true 2 none,.v (.int .i64 0),.v (.int .i64 0),.v (.int .i64 0)]⟩:=rfl
@[simp] theorem E_ty58:E.ty 58=some ⟨5,64,.struct [(0,1),(1,1),(2,1),(3,1),(4,1)],[.v (.string .empty),.nl true 2 none,.v (.int .i64 0),.v (.int .i64 0),.v (.int .i64 0)]⟩:=rfl
@[simp] theorem E_ty60:E.ty 60=some ⟨1,8,.func,[.v .nilFunc]⟩:=rfl
@[simp] theorem aOn:E.ty 62=some ⟨4,56,.struct [(0,1),(1,1),(2,1),(3,1)],[.v (.int .i64 0),.v (.int .i64 0),.v (.string .empty),.nl true 1 none]⟩:=rfl
@[simp] theorem E_ty64:E.ty 64=some ⟨1,24,.slice 109,[.nl true 2 none]⟩:=rfl
@[simp] theorem E_ty65:E.ty 65=some ⟨5,64,.struct [(0,1),(1,1),(2,1),(3,1),(4,1)],[.v (.string .empty),.nl true 2 none,.v (.int .i64 0),.v (.int .i64 0),.v (.int .i64 0)]⟩:=rfl
@[simp] theorem aOm:E.ty 66=some ⟨5,64,.struct [(0,1),(1,1),(2,1),(3,1),(4,1)],[.v (.string .empty),.nl true 2 none,.v (.int .i64 0),.v (.int .i64 0),.v (.int .i64 0)]⟩:=rfl
@[simp] theorem E_ty67:E.ty 67=some ⟨1,24,.slice 71,[.nl true 3 none]⟩:=rfl
@[simp] theorem E_ty70:E.ty 70=some ⟨3,32,.struct [(0,1),(1,1),(2,1)],[.v (.string .empty),.v (.int .i64 0),.v (.int .i64 0)]⟩:=rfl
@[simp] theorem E_ty71:E.ty 71=some ⟨3,32,.struct [(0,1),(1,1),(2,1)],[.v (.string .empty),.v (.int .i64 0),.v (.int .i64 0)]⟩:=rfl
@[simp] theorem E_ty72:E.ty 72=some ⟨1,8,.ptr,[.v (.pointer none)]⟩:=rfl
@[simp] theorem E_ty73:E.ty 73=some ⟨1,24,.slice 9,[.nl true 1 none]⟩:=rfl
@[simp] theorem E_ty74:E.ty 74=some ⟨5,88,.struct [(0,2),(2,1),(3,1),(4,1)],[.nl true 4 none,.nl true 5 none,.v (.int .i64 0),.nl true 1 none,.v (.bool false)]⟩:=rfl
@[simp] theorem E_ty75:E.ty 75=some ⟨5,88,.struct [(0,2),(2,1),(3,1),(4,1)],[.nl true 4 none,.nl true 5 none,.v (.int .i64 0),.nl true 1 none,.v (.bool false)]⟩:=rfl
@[simp] theorem E_ty76:E.ty 76=some ⟨2,24,.struct [(0,1),(1,1)],[.v (.string .empty),.v (.int .i64 0)]⟩:=rfl
@[simp] theorem E_ty77:E.ty 77=some ⟨2,24,.struct [(0,1),(1,1)],[.v (.string .empty),.v (.int .i64 0)]⟩:=rfl
@[simp] theorem E_ty95:E.ty 95=some ⟨1,24,.slice 5,[.nl true 1 none]⟩:=rfl
@[simp] theorem E_ty96:E.ty 96=some ⟨1,8,.ptr,[.v (.pointer none)]⟩:=rfl
@[simp] theorem E_ty107:E.ty 107=some ⟨1,8,.ptr,[.v (.pointer none)]⟩:=rfl
@[simp] theorem aMb:E.ty 109=some ⟨2,24,.struct [(0,1),(1,1)],[.v (.string .empty),.v (.int .i64 0)]⟩:=rfl
@[simp] theorem E_ty112:E.ty 112=some ⟨1,24,.slice 4,[.nl true 1 none]⟩:=rfl
@[simp] theorem feq_77:aLp E 77=some [false,true]:=by kernel_rfl
theorem res75:Tryz.f75.results.toList=[.tmp 4]:=rfl
theorem ent75:aE E.P 75:=eO Tryz.func75 (by simp [Tryz.f75]) rfl
theorem aBf (a1:List Int) (a0:Int) {r0:Int} (h:mT a1 a0=some r0):Ok E 75 [.val (.sl false 1 (List.map vi a1)),.val (vi a0)] [vi r0] []:=by
 refine oB Tryz.func75 rfl (by simp [Tryz.f75]) fun C (q:C.N=12) hP=>?_
 have y:=aK hP
 unfold mT at h
 refine O.zR y fun K u=>?_
 refine wC rfl fun K v=>?_;simp [q];apply v
 apply wN;apply u
 refine O.zR y fun K u=>?_
 iterate 5 (refine wC rfl fun K v=>?_;simp [q];apply v)
 apply wN;apply u
 refine O.seq ?_
 refine O.zR y fun K u=>?_
 iterate 2 (refine wC rfl fun K v=>?_;simp [q];apply v)
 apply wN;apply u
 rcases aA h with ⟨a2,h⟩ | ⟨a3,h⟩
 ·refine O.cT' (by simp) a2 ?_
  refine O.zR y fun K u=>?_
  refine wC rfl fun K v=>?_;simp [q];apply v
  apply wN;apply u
  cases h
  refine O.ret ?_
  simp [aC,iB,res75]
 ·refine O.cF' (by simp) a3 ?_
  refine O.skip ?_
  refine O.zR y fun K u=>?_
  iterate 2 (refine wC rfl fun K v=>?_;simp [q];apply v)
  apply wN;apply u
  cases h
  refine O.ret ?_
  simp [aC,iB,res75]
theorem aOz:Tryz.f43.results.toList=[.tmp 4]:=rfl
theorem ent43:aE E.P 43:=eO Tryz.func43 (by simp [Tryz.f43]) rfl
theorem aBd (a1:GNode) (a0:Int) {r0:Int} (h:mR a1 a0=some r0):Ok E 43 [.val (GNode.enc false a1),.val (vi a0)] [vi r0] []:=by
 refine oB Tryz.func43 rfl (by simp [Tryz.f43]) fun C (q:C.N=19) hP=>?_
 have y:=aK hP
 unfold mR at h
 refine O.zR y fun K u=>?_
 iterate 2 (refine wC rfl fun K v=>?_;simp [q];apply v)
 apply wN;apply u
 refine O.zR y fun K u=>?_
 iterate 6 (refine wC rfl fun K v=>?_;simp [q];apply v)
 apply wN;apply u
 refine O.seq ?_
 refine O.zR y fun K u=>?_
 iterate 2 (refine wC rfl fun K v=>?_;simp [q];apply v)
 apply wN;apply u
 rcases aA h with ⟨a2,h⟩ | ⟨a3,h⟩
 ·refine O.cT' (by simp) a2 ?_
  refine O.zR y fun K u=>?_
  refine wC rfl fun K v=>?_;simp [q];apply v
  apply wN;apply u
  cases h
  refine O.ret ?_
  simp [aC,iB,aOz]
 ·refine O.cF' (by simp) a3 ?_
  refine O.skip ?_
  refine O.zR y fun K u=>?_
  iterate 3 (refine wC rfl fun K v=>?_;simp [q];apply v)
  obtain ⟨r5,a4,h⟩:=bS h
  refine wL [(.take,.tmp 13),(.take,.tmp 14)] rfl rfl ent75 (aBf _ _ a4) fun K v=>?_;simp [q];apply v
  refine wC rfl fun K v=>?_;simp [q];apply v
  apply wN;apply u
  refine O.seq ?_
  refine O.zR y fun K u=>?_
  iterate 2 (refine wC rfl fun K v=>?_;simp [q];apply v)
  apply wN;apply u
  rcases aA h with ⟨a5,h⟩ | ⟨a6,h⟩
  ·refine O.cT' (by simp) a5 ?_
   refine O.zR y fun K u=>?_
   refine wC rfl fun K v=>?_;simp [q];apply v
   apply wN;apply u
   cases h
   refine O.ret ?_
   simp [aC,iB,aOz]
  ·refine O.cF' (by simp) a6 ?_
   refine O.skip ?_
   refine O.zR y fun K u=>?_
   iterate 2 (refine wC rfl fun K v=>?_;simp [q];apply v)
   apply wN;apply u
   cases h
   refine O.ret ?_
   simp [aC,iB,aOz]
theorem aP6:Tryz.f17.results.toList=[.tmp 4]:=rfl
theorem ent17:aE E.P 17:=eO Tryz.func17 (by simp [Tryz.f17]) rfl
theorem aA3 (a1:List GNode) (a2:Int) {r0:Int} (h:lJ a1 a2=some r0):Ok E 17 [.val (.sl false 4 (List.map (GNode.enc false) a1)),.val (vi a2)] [vi r0] []:=by
 refine oB Tryz.func17 rfl (by simp [Tryz.f17]) fun C (q:C.N=27) hP=>?_
 have u:=aK hP
 unfold lJ at h
 refine O.zR u fun K w=>?_
 refine wC rfl fun K z=>?_;simp [q];apply z
 apply wN;apply w
 refine O.zR u fun K w=>?_
 iterate 5 (refine wC rfl fun K z=>?_;simp [q];apply z)
 apply wN;apply w
 refine O.seq ?_
 refine O.zR u fun K w=>?_
 iterate 2 (refine wC rfl fun K z=>?_;simp [q];apply z)
 apply wN;apply w
 rcases aA h with ⟨b6,h⟩ | ⟨b7,h⟩
 ·refine O.cT' (by simp) b6 ?_
  refine O.zR u fun K w=>?_
  refine wC rfl fun K z=>?_;simp [q];apply z
  apply wN;apply w
  cases h
  refine O.ret ?_
  simp [aC,iB,aP6]
 ·refine O.cF' (by simp) b7 ?_
  refine O.skip ?_
  obtain ⟨j7,b8,h⟩:=bS h
  refine O.seqC [1] [] (fun v:Int=>⟨[(1,.t (vi v))],[]⟩) (fun v=>j7=Sum.inl v) (fun v hv=>?_) fun K6 b9=>?_
  rotate_left
  ·refine O.zR u fun K w=>?_
   refine wC rfl fun K z=>?_;simp [q];apply z
   apply wN;apply w
   refine O.block ?_
   refine O.loopO [] [0,1,5] [] (fun v:Int × Int=>⟨[(0,.t (.sl false 4 (List.map (GNode.enc false) a1))),(1,.t (vi v.1)),(5,.t (vi v.2))],[]⟩) (dR a1) _ (IntKind.wrap .i64 (a2 - (a1.length:Int)),0) b8 (by simp [q]) ?_
   intro g c2 a0 a7
   obtain ⟨b5,i9⟩:=g
   simp only [dR] at a0
   try dsimp only
   refine O.seq ?_
   refine O.zR u fun K w=>?_
   iterate 4 (refine wC rfl fun K z=>?_;simp [q];apply z)
   apply wN;apply w
   rcases aA a0 with ⟨a8,a0⟩ | ⟨a9,a0⟩
   ·refine O.cT' (by simp) a8 ?_
    refine O.skip ?_
    refine O.seq ?_
    refine O.block ?_
    refine O.zR u fun K w=>?_
    iterate 2 (refine wC rfl fun K z=>?_;simp [q];apply z)
    obtain ⟨c3,b0,a0⟩:=bS a0
    obtain ⟨a3,a4,a5,a6⟩:=gS b0
    iterate 3 (refine wC rfl fun K z=>?_;simp [q,a3,a4,a5,a6];apply z)
    obtain ⟨c4,b1,a0⟩:=bS a0
    refine wL [(.take,.tmp 21),(.take,.tmp 22)] rfl rfl ent43 (aBd _ _ b1) fun K z=>?_;simp [q,a3,a4,a5,a6];apply z
    refine wC rfl fun K z=>?_;simp [q,a3,a4,a5,a6];apply z
    apply wN;apply w
    refine O.zR u fun K w=>?_
    iterate 2 (refine wC rfl fun K z=>?_;simp [q];apply z)
    apply wN;apply w
    rcases aA a0 with ⟨b2,a0⟩ | ⟨b3,a0⟩
    ·refine O.cT' (by simp) b2 ?_
     refine O.zR u fun K w=>?_
     refine wC rfl fun K z=>?_;simp [q];apply z
     apply wN;apply w
     have c0:=congrArg some (a7 _ (Option.some.inj a0).symm)
     cases c0
     try dsimp only at h
     cases h
     refine O.ret ?_
     simp [aC,iB,aP6]
    ·refine O.cF' (by simp) b3 ?_
     refine O.skip ?_
     refine O.zG u fun K w=>?_
     iterate 3 (refine wC rfl fun K z=>?_;simp [q];apply z)
     apply wN;apply w
     cases a0
     exact ⟨_,[],rfl,by simp [q]⟩
   ·refine O.cF' (by simp) a9 ?_
    refine O.exit ?_
    have c1:=congrArg some (a7 _ (Option.some.inj a0).symm)
    cases c1
    exact b9 _ _ [] rfl (by simp [q])
  subst hv
  obtain ⟨b4,hv⟩:∃ y,y=v:=⟨_,rfl⟩
  subst hv
  try dsimp only at h ⊢
  refine O.zR u fun K w=>?_
  iterate 2 (refine wC rfl fun K z=>?_;simp [q];apply z)
  apply wN;apply w
  cases h
  refine O.ret ?_
  simp [aC,iB,aP6]
theorem aOb:Tryz.f100.results.toList=[.tmp 4]:=rfl
theorem ent100:aE E.P 100:=eO Tryz.func100 (by simp [Tryz.f100]) rfl
theorem aA1 (a1:GParam) (a0:Int) {r0:Int} (h:lI a1 a0=some r0):Ok E 100 [.val (GParam.enc a1),.val (vi a0)] [vi r0] []:=by
 refine oB Tryz.func100 rfl (by simp [Tryz.f100]) fun C (q:C.N=13) hP=>?_
 have y:=aK hP
 unfold lI at h
 refine O.zR y fun K u=>?_
 iterate 2 (refine wC rfl fun K v=>?_;simp [q];apply v)
 apply wN;apply u
 refine O.zR y fun K u=>?_
 iterate 6 (refine wC rfl fun K v=>?_;simp [q];apply v)
 apply wN;apply u
 refine O.seq ?_
 refine O.zR y fun K u=>?_
 iterate 2 (refine wC rfl fun K v=>?_;simp [q];apply v)
 apply wN;apply u
 rcases aA h with ⟨a2,h⟩ | ⟨a3,h⟩
 ·refine O.cT' (by simp) a2 ?_
  refine O.zR y fun K u=>?_
  refine wC rfl fun K v=>?_;simp [q];apply v
  apply wN;apply u
  cases h
  refine O.ret ?_
  simp [aC,iB,aOb]
 ·refine O.cF' (by simp) a3 ?_
  refine O.skip ?_
  refine O.zR y fun K u=>?_
  iterate 2 (refine wC rfl fun K v=>?_;simp [q];apply v)
  apply wN;apply u
  cases h
  refine O.ret ?_
  simp [aC,iB,aOb]
theorem aOx:Tryz.f76.results.toList=[.tmp 4]:=rfl
theorem ent76:aE E.P 76:=eO Tryz.func76 (by simp [Tryz.f76]) rfl
theorem xI (a1:List GParam) (a2:Int) {r0:Int} (h:jT a1 a2=some r0):Ok E 76 [.val (.sl false 2 (List.map GParam.enc a1)),.val (vi a2)] [vi r0] []:=by
 refine oB Tryz.func76 rfl (by simp [Tryz.f76]) fun C (q:C.N=27) hP=>?_
 have u:=aK hP
 unfold jT at h
 refine O.zR u fun K w=>?_
 refine wC rfl fun K z=>?_;simp [q];apply z
 apply wN;apply w
 refine O.zR u fun K w=>?_
 iterate 5 (refine wC rfl fun K z=>?_;simp [q];apply z)
 apply wN;apply w
 refine O.seq ?_
 refine O.zR u fun K w=>?_
 iterate 2 (refine wC rfl fun K z=>?_;simp [q];apply z)
 apply wN;apply w
 rcases aA h with ⟨b6,h⟩ | ⟨b7,h⟩
 ·refine O.cT' (by simp) b6 ?_
  refine O.zR u fun K w=>?_
  refine wC rfl fun K z=>?_;simp [q];apply z
  apply wN;apply w
  cases h
  refine O.ret ?_
  simp [aC,iB,aOx]
 ·refine O.cF' (by simp) b7 ?_
  refine O.skip ?_
  obtain ⟨j7,b8,h⟩:=bS h
  refine O.seqC [1] [] (fun v:Int=>⟨[(1,.t (vi v))],[]⟩) (fun v=>j7=Sum.inl v) (fun v hv=>?_) fun K6 b9=>?_
  rotate_left
  ·refine O.zR u fun K w=>?_
   refine wC rfl fun K z=>?_;simp [q];apply z
   apply wN;apply w
   refine O.block ?_
   refine O.loopO [] [0,1,5] [] (fun v:Int × Int=>⟨[(0,.t (.sl false 2 (List.map GParam.enc a1))),(1,.t (vi v.1)),(5,.t (vi v.2))],[]⟩) (cU a1) _ (IntKind.wrap .i64 (a2 - (a1.length:Int)),0) b8 (by simp [q]) ?_
   intro g c2 a0 a7
   obtain ⟨b5,i9⟩:=g
   simp only [cU] at a0
   try dsimp only
   refine O.seq ?_
   refine O.zR u fun K w=>?_
   iterate 4 (refine wC rfl fun K z=>?_;simp [q];apply z)
   apply wN;apply w
   rcases aA a0 with ⟨a8,a0⟩ | ⟨a9,a0⟩
   ·refine O.cT' (by simp) a8 ?_
    refine O.skip ?_
    refine O.seq ?_
    refine O.block ?_
    refine O.zR u fun K w=>?_
    iterate 2 (refine wC rfl fun K z=>?_;simp [q];apply z)
    obtain ⟨c3,b0,a0⟩:=bS a0
    obtain ⟨a3,a4,a5,a6⟩:=gS b0
    iterate 3 (refine wC rfl fun K z=>?_;simp [q,a3,a4,a5,a6];apply z)
    obtain ⟨c4,b1,a0⟩:=bS a0
    refine wL [(.take,.tmp 21),(.take,.tmp 22)] rfl rfl ent100 (aA1 _ _ b1) fun K z=>?_;simp [q,a3,a4,a5,a6];apply z
    refine wC rfl fun K z=>?_;simp [q,a3,a4,a5,a6];apply z
    apply wN;apply w
    refine O.zR u fun K w=>?_
    iterate 2 (refine wC rfl fun K z=>?_;simp [q];apply z)
    apply wN;apply w
    rcases aA a0 with ⟨b2,a0⟩ | ⟨b3,a0⟩
    ·refine O.cT' (by simp) b2 ?_
     refine O.zR u fun K w=>?_
     refine wC rfl fun K z=>?_;simp [q];apply z
     apply wN;apply w
     have c0:=congrArg some (a7 _ (Option.some.inj a0).symm)
     cases c0
     try dsimp only at h
     cases h
     refine O.ret ?_
     simp [aC,iB,aOx]
    ·refine O.cF' (by simp) b3 ?_
     refine O.skip ?_
     refine O.zG u fun K w=>?_
     iterate 3 (refine wC rfl fun K z=>?_;simp [q];apply z)
     apply wN;apply w
     cases a0
     exact ⟨_,[],rfl,by simp [q]⟩
   ·refine O.cF' (by simp) a9 ?_
    refine O.exit ?_
    have c1:=congrArg some (a7 _ (Option.some.inj a0).symm)
    cases c1
    exact b9 _ _ [] rfl (by simp [q])
  subst hv
  obtain ⟨b4,hv⟩:∃ y,y=v:=⟨_,rfl⟩
  subst hv
  try dsimp only at h ⊢
  refine O.zR u fun K w=>?_
  iterate 2 (refine wC rfl fun K z=>?_;simp [q];apply z)
  apply wN;apply w
  cases h
  refine O.ret ?_
  simp [aC,iB,aOx]
theorem aOy:Tryz.f44.results.toList=[.tmp 4]:=rfl
theorem ent44:aE E.P 44:=eO Tryz.func44 (by simp [Tryz.f44]) rfl
theorem aFe (a1:GFn) (a0:Int) {r0:Int} (h:rF a1 a0=some r0):Ok E 44 [.val (GFn.enc false a1),.val (vi a0)] [vi r0] []:=by
 refine oB Tryz.func44 rfl (by simp [Tryz.f44]) fun C (q:C.N=19) hP=>?_
 have y:=aK hP
 unfold rF at h
 refine O.zR y fun K u=>?_
 iterate 2 (refine wC rfl fun K v=>?_;simp [q];apply v)
 apply wN;apply u
 refine O.zR y fun K u=>?_
 iterate 6 (refine wC rfl fun K v=>?_;simp [q];apply v)
 apply wN;apply u
 refine O.seq ?_
 refine O.zR y fun K u=>?_
 iterate 2 (refine wC rfl fun K v=>?_;simp [q];apply v)
 apply wN;apply u
 rcases aA h with ⟨a2,h⟩ | ⟨a3,h⟩
 ·refine O.cT' (by simp) a2 ?_
  refine O.zR y fun K u=>?_
  refine wC rfl fun K v=>?_;simp [q];apply v
  apply wN;apply u
  cases h
  refine O.ret ?_
  simp [aC,iB,aOy]
 ·refine O.cF' (by simp) a3 ?_
  refine O.skip ?_
  refine O.zR y fun K u=>?_
  iterate 3 (refine wC rfl fun K v=>?_;simp [q];apply v)
  obtain ⟨r5,a4,h⟩:=bS h
  refine wL [(.take,.tmp 13),(.take,.tmp 14)] rfl rfl ent76 (xI _ _ a4) fun K v=>?_;simp [q];apply v
  refine wC rfl fun K v=>?_;simp [q];apply v
  apply wN;apply u
  refine O.seq ?_
  refine O.zR y fun K u=>?_
  iterate 2 (refine wC rfl fun K v=>?_;simp [q];apply v)
  apply wN;apply u
  rcases aA h with ⟨a5,h⟩ | ⟨a6,h⟩
  ·refine O.cT' (by simp) a5 ?_
   refine O.zR y fun K u=>?_
   refine wC rfl fun K v=>?_;simp [q];apply v
   apply wN;apply u
   cases h
   refine O.ret ?_
   simp [aC,iB,aOy]
  ·refine O.cF' (by simp) a6 ?_
   refine O.skip ?_
   refine O.zR y fun K u=>?_
   iterate 2 (refine wC rfl fun K v=>?_;simp [q];apply v)
   apply wN;apply u
   cases h
   refine O.ret ?_
   simp [aC,iB,aOy]
theorem aP5:Tryz.f18.results.toList=[.tmp 4]:=rfl
theorem ent18:aE E.P 18:=eO Tryz.func18 (by simp [Tryz.f18]) rfl
theorem aDk (a1:List GFn) (a2:Int) {r0:Int} (h:oS a1 a2=some r0):Ok E 18 [.val (.sl false 5 (List.map (GFn.enc false) a1)),.val (vi a2)] [vi r0] []:=by
 refine oB Tryz.func18 rfl (by simp [Tryz.f18]) fun C (q:C.N=27) hP=>?_
 have u:=aK hP
 unfold oS at h
 refine O.zR u fun K w=>?_
 refine wC rfl fun K z=>?_;simp [q];apply z
 apply wN;apply w
 refine O.zR u fun K w=>?_
 iterate 5 (refine wC rfl fun K z=>?_;simp [q];apply z)
 apply wN;apply w
 refine O.seq ?_
 refine O.zR u fun K w=>?_
 iterate 2 (refine wC rfl fun K z=>?_;simp [q];apply z)
 apply wN;apply w
 rcases aA h with ⟨b6,h⟩ | ⟨b7,h⟩
 ·refine O.cT' (by simp) b6 ?_
  refine O.zR u fun K w=>?_
  refine wC rfl fun K z=>?_;simp [q];apply z
  apply wN;apply w
  cases h
  refine O.ret ?_
  simp [aC,iB,aP5]
 ·refine O.cF' (by simp) b7 ?_
  refine O.skip ?_
  obtain ⟨j7,b8,h⟩:=bS h
  refine O.seqC [1] [] (fun v:Int=>⟨[(1,.t (vi v))],[]⟩) (fun v=>j7=Sum.inl v) (fun v hv=>?_) fun K6 b9=>?_
  rotate_left
  ·refine O.zR u fun K w=>?_
   refine wC rfl fun K z=>?_;simp [q];apply z
   apply wN;apply w
   refine O.block ?_
   refine O.loopO [] [0,1,5] [] (fun v:Int × Int=>⟨[(0,.t (.sl false 5 (List.map (GFn.enc false) a1))),(1,.t (vi v.1)),(5,.t (vi v.2))],[]⟩) (fI a1) _ (IntKind.wrap .i64 (a2 - (a1.length:Int)),0) b8 (by simp [q]) ?_
   intro g c2 a0 a7
   obtain ⟨b5,i9⟩:=g
   simp only [fI] at a0
   try dsimp only
   refine O.seq ?_
   refine O.zR u fun K w=>?_
   iterate 4 (refine wC rfl fun K z=>?_;simp [q];apply z)
   apply wN;apply w
   rcases aA a0 with ⟨a8,a0⟩ | ⟨a9,a0⟩
   ·refine O.cT' (by simp) a8 ?_
    refine O.skip ?_
    refine O.seq ?_
    refine O.block ?_
    refine O.zR u fun K w=>?_
    iterate 2 (refine wC rfl fun K z=>?_;simp [q];apply z)
    obtain ⟨c3,b0,a0⟩:=bS a0
    obtain ⟨a3,a4,a5,a6⟩:=gS b0
    iterate 3 (refine wC rfl fun K z=>?_;simp [q,a3,a4,a5,a6];apply z)
    obtain ⟨c4,b1,a0⟩:=bS a0
    refine wL [(.take,.tmp 21),(.take,.tmp 22)] rfl rfl ent44 (aFe _ _ b1) fun K z=>?_;simp [q,a3,a4,a5,a6];apply z
    refine wC rfl fun K z=>?_;simp [q,a3,a4,a5,a6];apply z
    apply wN;apply w
    refine O.zR u fun K w=>?_
    iterate 2 (refine wC rfl fun K z=>?_;simp [q];apply z)
    apply wN;apply w
    rcases aA a0 with ⟨b2,a0⟩ | ⟨b3,a0⟩
    ·refine O.cT' (by simp) b2 ?_
     refine O.zR u fun K w=>?_
     refine wC rfl fun K z=>?_;simp [q];apply z
     apply wN;apply w
     have c0:=congrArg some (a7 _ (Option.some.inj a0).symm)
     cases c0
     try dsimp only at h
     cases h
     refine O.ret ?_
     simp [aC,iB,aP5]
    ·refine O.cF' (by simp) b3 ?_
     refine O.skip ?_
     refine O.zG u fun K w=>?_
     iterate 3 (refine wC rfl fun K z=>?_;simp [q];apply z)
     apply wN;apply w
     cases a0
     exact ⟨_,[],rfl,by simp [q]⟩
   ·refine O.cF' (by simp) a9 ?_
    refine O.exit ?_
    have c1:=congrArg some (a7 _ (Option.some.inj a0).symm)
    cases c1
    exact b9 _ _ [] rfl (by simp [q])
  subst hv
  obtain ⟨b4,hv⟩:∃ y,y=v:=⟨_,rfl⟩
  subst hv
  try dsimp only at h ⊢
  refine O.zR u fun K w=>?_
  iterate 2 (refine wC rfl fun K z=>?_;simp [q];apply z)
  apply wN;apply w
  cases h
  refine O.ret ?_
  simp [aC,iB,aP5]
theorem res6:Tryz.f6.results.toList=[.tmp 4]:=rfl
theorem ent6:aE E.P 6:=eO Tryz.func6 (by simp [Tryz.f6]) rfl
theorem oR (a1:GProgram) (a0:Int) {r0:Int} (h:gB a1 a0=some r0):Ok E 6 [.val (GProgram.enc false a1),.val (vi a0)] [vi r0] []:=by
 refine oB Tryz.func6 rfl (by simp [Tryz.f6]) fun C (q:C.N=18) hP=>?_
 have y:=aK hP
 unfold gB at h
 refine O.zR y fun K u=>?_
 iterate 2 (refine wC rfl fun K v=>?_;simp [q];apply v)
 apply wN;apply u
 refine O.zR y fun K u=>?_
 iterate 3 (refine wC rfl fun K v=>?_;simp [q];apply v)
 obtain ⟨r3,a3,h⟩:=bS h
 refine wL [(.take,.tmp 6),(.take,.tmp 7)] rfl rfl ent17 (aA3 _ _ a3) fun K v=>?_;simp [q];apply v
 refine wC rfl fun K v=>?_;simp [q];apply v
 apply wN;apply u
 refine O.seq ?_
 refine O.zR y fun K u=>?_
 iterate 2 (refine wC rfl fun K v=>?_;simp [q];apply v)
 apply wN;apply u
 rcases aA h with ⟨a4,h⟩ | ⟨a5,h⟩
 ·refine O.cT' (by simp) a4 ?_
  refine O.zR y fun K u=>?_
  refine wC rfl fun K v=>?_;simp [q];apply v
  apply wN;apply u
  cases h
  refine O.ret ?_
  simp [aC,iB,res6]
 ·refine O.cF' (by simp) a5 ?_
  refine O.skip ?_
  refine O.zR y fun K u=>?_
  iterate 3 (refine wC rfl fun K v=>?_;simp [q];apply v)
  obtain ⟨r7,a6,h⟩:=bS h
  refine wL [(.take,.tmp 12),(.take,.tmp 13)] rfl rfl ent18 (aDk _ _ a6) fun K v=>?_;simp [q];apply v
  refine wC rfl fun K v=>?_;simp [q];apply v
  apply wN;apply u
  refine O.seq ?_
  refine O.zR y fun K u=>?_
  iterate 2 (refine wC rfl fun K v=>?_;simp [q];apply v)
  apply wN;apply u
  rcases aA h with ⟨a7,h⟩ | ⟨a2,h⟩
  ·refine O.cT' (by simp) a7 ?_
   refine O.zR y fun K u=>?_
   refine wC rfl fun K v=>?_;simp [q];apply v
   apply wN;apply u
   cases h
   refine O.ret ?_
   simp [aC,iB,res6]
  ·refine O.cF' (by simp) a2 ?_
   refine O.skip ?_
   refine O.zR y fun K u=>?_
   iterate 2 (refine wC rfl fun K v=>?_;simp [q];apply v)
   apply wN;apply u
   cases h
   refine O.ret ?_
   simp [aC,iB,res6]
theorem res28:Tryz.f28.results.toList=[.tmp 6]:=rfl
theorem qJ:aE E.P 28:=eO Tryz.func28 (by simp [Tryz.f28]) rfl
theorem aQ (x1:Int) (a0:Int) (a2:Int) {r0:Bool} (h:aY x1 a0 a2=some r0):Ok E 28 [.val (vi x1),.val (vi a0),.val (vi a2)] [vb r0] []:=by
 refine oB Tryz.func28 rfl (by simp [Tryz.f28]) fun C (q:C.N=15) hP=>?_
 have y:=aK hP
 unfold aY at h
 refine O.zR y fun K u=>?_
 refine wC rfl fun K v=>?_;simp [q];apply v
 apply wN;apply u
 obtain ⟨v8,a4,h⟩:=bS h
 refine O.seqRC rfl (y _ rfl) [6] [] (fun _:Unit=>⟨[(6,.t (vb v8))],[]⟩) (fun _=>True) (fun _ _=>?_) fun K5 a7=>?_
 rotate_left
 ·refine wC rfl fun K v=>?_;simp [q];apply v
  iterate 3 (refine wC rfl fun K v=>?_;simp [q];apply v)
  rcases aA a4 with ⟨a6,a4⟩ | ⟨a5,a4⟩
  ·have a3:=a6
   try simp at a3
   iterate 5 (refine wC rfl fun K v=>?_;simp [q,a6,a3];apply v)
   refine wN ?_
   cases a4
   exact a7 _ () [] trivial (by simp [q,a6,a3])
  ·have a1:=a5
   try simp at a1
   iterate 3 (refine wO fun K v=>?_;simp [q,a5,a1];apply v)
   iterate 2 (refine wC rfl fun K v=>?_;simp [q,a5,a1];apply v)
   refine wN ?_
   cases a4
   exact a7 _ () [] trivial (by simp [q,a5,a1])
 cases h
 refine O.ret ?_
 simp [aC,iB,res28]
theorem res119:Tryz.f119.results.toList=[.tmp 2]:=rfl
theorem aOh:aE E.P 119:=eO Tryz.func119 (by simp [Tryz.f119]) rfl
theorem oI (b1:Int) {r0:Bool} (h:fT b1=some r0):Ok E 119 [.val (vk .u8 b1)] [vb r0] []:=by
 refine oB Tryz.func119 rfl (by simp [Tryz.f119]) fun C (q:C.N=9) hP=>?_
 have y:=aK hP
 unfold fT at h
 refine O.zR y fun K u=>?_
 refine wC rfl fun K v=>?_;simp [q];apply v
 apply wN;apply u
 obtain ⟨v6,a2,h⟩:=bS h
 refine O.seqRC rfl (y _ rfl) [2] [] (fun _:Unit=>⟨[(2,.t (vb v6))],[]⟩) (fun _=>True) (fun _ _=>?_) fun K3 a5=>?_
 rotate_left
 ·refine wC rfl fun K v=>?_;simp [q];apply v
  iterate 2 (refine wC rfl fun K v=>?_;simp [q];apply v)
  rcases aA a2 with ⟨a4,a2⟩ | ⟨a3,a2⟩
  ·have a1:=a4
   try simp at a1
   iterate 4 (refine wC rfl fun K v=>?_;simp [q,a4,a1];apply v)
   refine wN ?_
   cases a2
   exact a5 _ () [] trivial (by simp [q,a4,a1])
  ·have a0:=a3
   try simp at a0
   iterate 2 (refine wO fun K v=>?_;simp [q,a3,a0];apply v)
   iterate 2 (refine wC rfl fun K v=>?_;simp [q,a3,a0];apply v)
   refine wN ?_
   cases a2
   exact a5 _ () [] trivial (by simp [q,a3,a0])
 cases h
 refine O.ret ?_
 simp [aC,iB,res119]
theorem res132:Tryz.f132.results.toList=[.tmp 0]:=rfl
theorem ent132:aE E.P 132:=eO Tryz.func132 (by simp [Tryz.f132]) rfl
theorem zE {r0:List ByteArray} (h:nM=some r0):Ok E 132 [] [.sl true 1 (List.map vs r0)] []:=by
 refine oB Tryz.func132 rfl (by simp [Tryz.f132]) fun C (q:C.N=2) hP=>?_
 have y:=aK hP
 unfold nM at h
 refine O.zR y fun K u=>?_
 refine wC rfl fun K v=>?_;simp [q];apply v
 apply wN;apply u
 refine O.zR y fun K u=>?_
 iterate 2 (refine wC rfl fun K v=>?_;simp [q];apply v)
 apply wN;apply u
 cases h
 refine O.ret ?_
 simp [aC,iB,res132]
theorem aO7:Tryz.f120.results.toList=[.tmp 2]:=rfl
theorem ent120:aE E.P 120:=eO Tryz.func120 (by simp [Tryz.f120]) rfl
theorem zF (s1:ByteArray) {r0:Bool} (h:kX s1=some r0):Ok E 120 [.val (vs s1)] [vb r0] []:=by
 refine oB Tryz.func120 rfl (by simp [Tryz.f120]) fun C (q:C.N=18) hP=>?_
 have u:=aK hP
 unfold kX at h
 refine O.zR u fun K w=>?_
 refine wC rfl fun K z=>?_;simp [q];apply z
 apply wN;apply w
 refine O.zR u fun K w=>?_
 obtain ⟨r2,b0,h⟩:=bS h
 refine wL [] rfl rfl ent132 (zE b0) fun K z=>?_;simp [q];apply z
 refine wC rfl fun K z=>?_;simp [q];apply z
 apply wN;apply w
 obtain ⟨j6,b1,h⟩:=bS h
 refine O.seqC [] [] (fun v:Unit=>⟨[],[]⟩) (fun v=>j6=Sum.inl v) (fun v hv=>?_) fun K5 b2=>?_
 rotate_left
 ·refine O.zR u fun K w=>?_
  refine wC rfl fun K z=>?_;simp [q];apply z
  apply wN;apply w
  refine O.block ?_
  refine O.loopO [] [0,3,4] [] (fun v:Int=>⟨[(0,.t (vs s1)),(3,.t (.sl true 1 (List.map vs r2))),(4,.t (vi v))],[]⟩) (gO s1 r2) _ 0 b1 (by simp [q]) ?_
  intro g b5 h8 a9
  obtain ⟨i7,hg⟩:∃ y,y=g:=⟨_,rfl⟩
  subst hg
  simp only [gO] at h8
  try dsimp only
  refine O.seq ?_
  refine O.zR u fun K w=>?_
  iterate 4 (refine wC rfl fun K z=>?_;simp [q];apply z)
  apply wN;apply w
  rcases aA h8 with ⟨a4,h8⟩ | ⟨a5,h8⟩
  ·refine O.cT' (by simp) a4 ?_
   refine O.skip ?_
   refine O.seq ?_
   refine O.block ?_
   refine O.zR u fun K w=>?_
   iterate 2 (refine wC rfl fun K z=>?_;simp [q];apply z)
   obtain ⟨b6,a6,h8⟩:=bS h8
   obtain ⟨a0,a1,a2,a3⟩:=gS a6
   iterate 4 (refine wC rfl fun K z=>?_;simp [q,a0,a1,a2,a3];apply z)
   apply wN;apply w
   rcases aA h8 with ⟨a7,h8⟩ | ⟨a8,h8⟩
   ·refine O.cT' (by simp) a7 ?_
    refine O.zR u fun K w=>?_
    refine wC rfl fun K z=>?_;simp [q];apply z
    apply wN;apply w
    have b3:=congrArg some (a9 _ (Option.some.inj h8).symm)
    cases b3
    try dsimp only at h
    cases h
    refine O.ret ?_
    simp [aC,iB,aO7]
   ·refine O.cF' (by simp) a8 ?_
    refine O.skip ?_
    refine O.zG u fun K w=>?_
    iterate 3 (refine wC rfl fun K z=>?_;simp [q];apply z)
    apply wN;apply w
    cases h8
    exact ⟨_,[],rfl,by simp [q]⟩
  ·refine O.cF' (by simp) a5 ?_
   refine O.exit ?_
   have b4:=congrArg some (a9 _ (Option.some.inj h8).symm)
   cases b4
   exact b2 _ _ [] rfl (by simp [q])
 subst hv
 obtain ⟨⟩:=v
 try dsimp only at h ⊢
 refine O.zR u fun K w=>?_
 refine wC rfl fun K z=>?_;simp [q];apply z
 apply wN;apply w
 cases h
 refine O.ret ?_
 simp [aC,iB,aO7]
theorem res121:Tryz.f121.results.toList=[.tmp 2]:=rfl
theorem ent121:aE E.P 121:=eO Tryz.func121 (by simp [Tryz.f121]) rfl
theorem vK (b1:Int) {r0:Bool} (h:iL b1=some r0):Ok E 121 [.val (vk .u8 b1)] [vb r0] []:=by
 refine oB Tryz.func121 rfl (by simp [Tryz.f121]) fun C (q:C.N=9) hP=>?_
 have y:=aK hP
 unfold iL at h
 refine O.zR y fun K u=>?_
 refine wC rfl fun K v=>?_;simp [q];apply v
 apply wN;apply u
 obtain ⟨v6,a2,h⟩:=bS h
 refine O.seqRC rfl (y _ rfl) [2] [] (fun _:Unit=>⟨[(2,.t (vb v6))],[]⟩) (fun _=>True) (fun _ _=>?_) fun K3 a5=>?_
 rotate_left
 ·refine wC rfl fun K v=>?_;simp [q];apply v
  iterate 2 (refine wC rfl fun K v=>?_;simp [q];apply v)
  rcases aA a2 with ⟨a4,a2⟩ | ⟨a3,a2⟩
  ·have a1:=a4
   try simp at a1
   iterate 4 (refine wC rfl fun K v=>?_;simp [q,a4,a1];apply v)
   refine wN ?_
   cases a2
   exact a5 _ () [] trivial (by simp [q,a4,a1])
  ·have a0:=a3
   try simp at a0
   iterate 2 (refine wO fun K v=>?_;simp [q,a3,a0];apply v)
   iterate 2 (refine wC rfl fun K v=>?_;simp [q,a3,a0];apply v)
   refine wN ?_
   cases a2
   exact a5 _ () [] trivial (by simp [q,a3,a0])
 cases h
 refine O.ret ?_
 simp [aC,iB,res121]
theorem aL6:Tryz.f102.results.toList=[.tmp 2]:=rfl
theorem aLv:aE E.P 102:=eO Tryz.func102 (by simp [Tryz.f102]) rfl
theorem nS (s1:ByteArray) {r0:Bool} (h:iT s1=some r0):Ok E 102 [.val (vs s1)] [vb r0] []:=by
 refine oB Tryz.func102 rfl (by simp [Tryz.f102]) fun C (q:C.N=36) hP=>?_
 have u:=aK hP
 unfold iT at h
 refine O.zR u fun K w=>?_
 refine wC rfl fun K z=>?_;simp [q];apply z
 apply wN;apply w
 refine O.seq ?_
 obtain ⟨d9,a9,h⟩:=bS h
 refine O.seqRC rfl (u _ rfl) [0,17] [] (fun _:Unit=>⟨[(0,.t (vs s1)),(17,.t (vb d9))],[]⟩) (fun _=>True) (fun _ _=>?_) fun K3 c4=>?_
 rotate_left
 ·refine wC rfl fun K z=>?_;simp [q];apply z
  refine wC rfl fun K z=>?_;simp [q];apply z
  obtain ⟨r4,e0,a9⟩:=bS a9
  refine wL [(.take,.tmp 5),(.take,.const (.int .i64 1)),(.take,.const (.int .i64 8))] rfl rfl qJ (aQ _ _ _ e0) fun K z=>?_;simp [q];apply z
  iterate 2 (refine wC rfl fun K z=>?_;simp [q];apply z)
  rcases aA a9 with ⟨c1,a9⟩ | ⟨b5,a9⟩
  ·have b4:=c1
   try simp at b4
   iterate 4 (refine wO fun K z=>?_;simp [q,c1,b4];apply z)
   iterate 2 (refine wC rfl fun K z=>?_;simp [q,c1,b4];apply z)
   iterate 2 (refine wO fun K z=>?_;simp [q,c1,b4];apply z)
   refine wC rfl fun K z=>?_;simp [q,c1,b4];apply z
   refine wN ?_
   cases a9
   exact c4 _ () [] trivial (by simp [q,c1,b4])
  ·have a3:=b5
   try simp at a3
   refine wC rfl fun K z=>?_;simp [q,b5,a3];apply z
   obtain ⟨c8,e1,a9⟩:=bS a9
   obtain ⟨a5,a6,a7⟩:=xY e1
   have a8:0 < s1.size:=by omega
   refine wC rfl fun K z=>?_;simp [q,b5,a3,a5,a6,a7,a8];apply z
   obtain ⟨r9,c5,a9⟩:=bS a9
   refine wL [(.take,.tmp 10)] rfl rfl aOh (oI _ c5) fun K z=>?_;simp [q,b5,a3,a5,a6,a7,a8];apply z
   iterate 3 (refine wC rfl fun K z=>?_;simp [q,b5,a3,a5,a6,a7,a8];apply z)
   rcases aA a9 with ⟨b9,a9⟩ | ⟨b7,a9⟩
   ·have b2:=b9
    try simp at b2
    iterate 2 (refine wO fun K z=>?_;simp [q,b5,a3,a5,a6,a7,a8,b9,b2];apply z)
    refine wC rfl fun K z=>?_;simp [q,b5,a3,a5,a6,a7,a8,b9,b2];apply z
    refine wN ?_
    cases a9
    exact c4 _ () [] trivial (by simp [q,b5,a3,a5,a6,a7,a8,b9,b2])
   ·have b0:=b7
    try simp at b0
    refine wC rfl fun K z=>?_;simp [q,b5,a3,a5,a6,a7,a8,b7,b0];apply z
    obtain ⟨e7,c6,a9⟩:=bS a9
    refine wL [(.take,.tmp 15)] rfl rfl ent120 (zF _ c6) fun K z=>?_;simp [q,b5,a3,a5,a6,a7,a8,b7,b0];apply z
    refine wC rfl fun K z=>?_;simp [q,b5,a3,a5,a6,a7,a8,b7,b0];apply z
    refine wN ?_
    cases a9
    exact c4 _ () [] trivial (by simp [q,b5,a3,a5,a6,a7,a8,b7,b0])
 rcases aA h with ⟨c7,h⟩ | ⟨c9,h⟩
 ·refine O.cT' (by simp) c7 ?_
  refine O.zR u fun K w=>?_
  refine wC rfl fun K z=>?_;simp [q];apply z
  apply wN;apply w
  cases h
  refine O.ret ?_
  simp [aC,iB,aL6]
 ·refine O.cF' (by simp) c9 ?_
  refine O.skip ?_
  obtain ⟨e2,d0,h⟩:=bS h
  refine O.seqC [] [] (fun v:Unit=>⟨[],[]⟩) (fun v=>e2=Sum.inl v) (fun v hv=>?_) fun e8 d1=>?_
  rotate_left
  ·refine O.zR u fun K w=>?_
   refine wC rfl fun K z=>?_;simp [q];apply z
   apply wN;apply w
   refine O.block ?_
   refine O.loopO [] [0,3] [] (fun v:Int=>⟨[(0,.t (vs s1)),(3,.t (vi v))],[]⟩) (fY s1) _ 0 d0 (by simp [q]) ?_
   intro g e9 b6 c2
   obtain ⟨e3,hg⟩:∃ y,y=g:=⟨_,rfl⟩
   subst hg
   simp only [fY] at b6
   try dsimp only
   refine O.seq ?_
   refine O.zR u fun K w=>?_
   iterate 4 (refine wC rfl fun K z=>?_;simp [q];apply z)
   apply wN;apply w
   rcases aA b6 with ⟨d2,b6⟩ | ⟨d3,b6⟩
   ·refine O.cT' (by simp) d2 ?_
    refine O.skip ?_
    refine O.seq ?_
    refine O.block ?_
    obtain ⟨e4,a4,b6⟩:=bS b6
    refine O.seqRC rfl (u _ rfl) [0,3,35] [] (fun _:Unit=>⟨[(0,.t (vs s1)),(3,.t (vi e3)),(35,.t (vb e4))],[]⟩) (fun _=>True) (fun _ _=>?_) fun g0 c3=>?_
    rotate_left
    ·refine wC rfl fun K z=>?_;simp [q];apply z
     refine wC rfl fun K z=>?_;simp [q];apply z
     obtain ⟨g1,d4,a4⟩:=bS a4
     obtain ⟨a0,a1,a2⟩:=xY d4
     refine wC rfl fun K z=>?_;simp [q,a0,a1,a2];apply z
     obtain ⟨g2,d5,a4⟩:=bS a4
     refine wL [(.take,.tmp 26)] rfl rfl aOh (oI _ d5) fun K z=>?_;simp [q,a0,a1,a2];apply z
     iterate 2 (refine wC rfl fun K z=>?_;simp [q,a0,a1,a2];apply z)
     rcases aA a4 with ⟨b8,a4⟩ | ⟨c0,a4⟩
     ·have b1:=b8
      try simp at b1
      iterate 3 (refine wC rfl fun K z=>?_;simp [q,a0,a1,a2,b8,b1];apply z)
      obtain ⟨g3,d6,a4⟩:=bS a4
      refine wL [(.take,.tmp 32)] rfl rfl ent121 (vK _ d6) fun K z=>?_;simp [q,a0,a1,a2,b8,b1];apply z
      iterate 2 (refine wC rfl fun K z=>?_;simp [q,a0,a1,a2,b8,b1];apply z)
      refine wN ?_
      cases a4
      exact c3 _ () [] trivial (by simp [q,a0,a1,a2,b8,b1])
     ·have b3:=c0
      try simp at b3
      iterate 5 (refine wO fun K z=>?_;simp [q,a0,a1,a2,c0,b3];apply z)
      refine wC rfl fun K z=>?_;simp [q,a0,a1,a2,c0,b3];apply z
      refine wN ?_
      cases a4
      exact c3 _ () [] trivial (by simp [q,a0,a1,a2,c0,b3])
    rcases aA b6 with ⟨d7,b6⟩ | ⟨d8,b6⟩
    ·refine O.cT' (by simp) d7 ?_
     refine O.zR u fun K w=>?_
     refine wC rfl fun K z=>?_;simp [q];apply z
     apply wN;apply w
     have e5:=congrArg some (c2 _ (Option.some.inj b6).symm)
     cases e5
     try dsimp only at h
     cases h
     refine O.ret ?_
     simp [aC,iB,aL6]
    ·refine O.cF' (by simp) d8 ?_
     refine O.skip ?_
     refine O.zG u fun K w=>?_
     iterate 3 (refine wC rfl fun K z=>?_;simp [q];apply z)
     apply wN;apply w
     cases b6
     exact ⟨_,[],rfl,by simp [q]⟩
   ·refine O.cF' (by simp) d3 ?_
    refine O.exit ?_
    have e6:=congrArg some (c2 _ (Option.some.inj b6).symm)
    cases e6
    exact d1 _ _ [] rfl (by simp [q])
  subst hv
  obtain ⟨⟩:=v
  try dsimp only at h ⊢
  refine O.zR u fun K w=>?_
  refine wC rfl fun K z=>?_;simp [q];apply z
  apply wN;apply w
  cases h
  refine O.ret ?_
  simp [aC,iB,aL6]
theorem aC6:Tryz.f116.results.toList=[.tmp 2,.tmp 3]:=rfl
theorem ent116:aE E.P 116:=eO Tryz.func116 (by simp [Tryz.f116]) rfl
theorem yY (a2:Int) {r0:Int} {r1:Int} (h:kU a2=some (r0,r1)):Ok E 116 [.val (vi a2)] [vi r0,vi r1] []:=by
 refine oB Tryz.func116 rfl (by simp [Tryz.f116]) fun C (q:C.N=23) hP=>?_
 have y:=aK hP
 unfold kU at h
 refine O.zR y fun K u=>?_
 iterate 2 (refine wC rfl fun K v=>?_;simp [q];apply v)
 apply wN;apply u
 refine O.seq ?_
 refine O.zR y fun K u=>?_
 refine wC rfl fun K v=>?_;simp [q];apply v
 apply wN;apply u
 refine O.block ?_
 obtain ⟨c6,a1,h⟩:=bS h
 refine O.seqC [4,5] [] (fun _:Unit=>⟨[(4,.t (vi a2)),(5,.t (vb c6))],[]⟩) (fun _=>True) (fun _ _=>?_) fun K3 a4=>?_
 rotate_left
 ·refine O.zR y fun K u=>?_
  iterate 2 (refine wC rfl fun K v=>?_;simp [q];apply v)
  apply wN;apply u
  rcases aA a1 with ⟨c7,a1⟩ | ⟨c8,a1⟩
  ·refine O.cT' (by simp) c7 ?_
   refine O.skip ?_
   cases a1
   exact a4 _ () [] trivial (by simp [q])
  ·refine O.cF' (by simp) c8 ?_
   refine O.zR y fun K u=>?_
   iterate 2 (refine wC rfl fun K v=>?_;simp [q];apply v)
   apply wN;apply u
   rcases aA a1 with ⟨c9,a1⟩ | ⟨d0,a1⟩
   ·refine O.cT' (by simp) c9 ?_
    refine O.skip ?_
    cases a1
    exact a4 _ () [] trivial (by simp [q])
   ·refine O.cF' (by simp) d0 ?_
    refine O.zR y fun K u=>?_
    iterate 2 (refine wC rfl fun K v=>?_;simp [q];apply v)
    apply wN;apply u
    rcases aA a1 with ⟨d1,a1⟩ | ⟨a5,a1⟩
    ·refine O.cT' (by simp) d1 ?_
     refine O.skip ?_
     cases a1
     exact a4 _ () [] trivial (by simp [q])
    ·refine O.cF' (by simp) a5 ?_
     refine O.zR y fun K u=>?_
     iterate 2 (refine wC rfl fun K v=>?_;simp [q];apply v)
     apply wN;apply u
     rcases aA a1 with ⟨a6,a1⟩ | ⟨a7,a1⟩
     ·refine O.cT' (by simp) a6 ?_
      refine O.skip ?_
      cases a1
      exact a4 _ () [] trivial (by simp [q])
     ·refine O.cF' (by simp) a7 ?_
      refine O.zR y fun K u=>?_
      iterate 2 (refine wC rfl fun K v=>?_;simp [q];apply v)
      apply wN;apply u
      rcases aA a1 with ⟨a8,a1⟩ | ⟨a9,a1⟩
      ·refine O.cT' (by simp) a8 ?_
       refine O.skip ?_
       cases a1
       exact a4 _ () [] trivial (by simp [q])
      ·refine O.cF' (by simp) a9 ?_
       refine O.zG y fun K u=>?_
       iterate 2 (refine wC rfl fun K v=>?_;simp [q];apply v)
       apply wN;apply u
       cases a1
       exact a4 _ () [] trivial (by simp [q])
 rcases aA h with ⟨b0,h⟩ | ⟨b1,h⟩
 ·refine O.cT' (by simp) b0 ?_
  refine O.zR y fun K u=>?_
  iterate 2 (refine wC rfl fun K v=>?_;simp [q];apply v)
  apply wN;apply u
  cases h
  refine O.ret ?_
  simp [aC,iB,aC6]
 ·refine O.cF' (by simp) b1 ?_
  obtain ⟨d2,a0,h⟩:=bS h
  refine O.seqC [4,12] [] (fun _:Unit=>⟨[(4,.t (vi a2)),(12,.t (vb d2))],[]⟩) (fun _=>True) (fun _ _=>?_) fun d3 a3=>?_
  rotate_left
  ·refine O.zR y fun K u=>?_
   iterate 2 (refine wC rfl fun K v=>?_;simp [q];apply v)
   apply wN;apply u
   rcases aA a0 with ⟨b2,a0⟩ | ⟨b3,a0⟩
   ·refine O.cT' (by simp) b2 ?_
    refine O.skip ?_
    cases a0
    exact a3 _ () [] trivial (by simp [q])
   ·refine O.cF' (by simp) b3 ?_
    refine O.zR y fun K u=>?_
    iterate 2 (refine wC rfl fun K v=>?_;simp [q];apply v)
    apply wN;apply u
    rcases aA a0 with ⟨b4,a0⟩ | ⟨b5,a0⟩
    ·refine O.cT' (by simp) b4 ?_
     refine O.skip ?_
     cases a0
     exact a3 _ () [] trivial (by simp [q])
    ·refine O.cF' (by simp) b5 ?_
     refine O.zR y fun K u=>?_
     iterate 2 (refine wC rfl fun K v=>?_;simp [q];apply v)
     apply wN;apply u
     rcases aA a0 with ⟨b6,a0⟩ | ⟨b7,a0⟩
     ·refine O.cT' (by simp) b6 ?_
      refine O.skip ?_
      cases a0
      exact a3 _ () [] trivial (by simp [q])
     ·refine O.cF' (by simp) b7 ?_
      refine O.zG y fun K u=>?_
      iterate 2 (refine wC rfl fun K v=>?_;simp [q];apply v)
      apply wN;apply u
      cases a0
      exact a3 _ () [] trivial (by simp [q])
  rcases aA h with ⟨b8,h⟩ | ⟨b9,h⟩
  ·refine O.cT' (by simp) b8 ?_
   refine O.zR y fun K u=>?_
   iterate 2 (refine wC rfl fun K v=>?_;simp [q];apply v)
   apply wN;apply u
   cases h
   refine O.ret ?_
   simp [aC,iB,aC6]
  ·refine O.cF' (by simp) b9 ?_
   refine O.zR y fun K u=>?_
   iterate 2 (refine wC rfl fun K v=>?_;simp [q];apply v)
   apply wN;apply u
   rcases aA h with ⟨c0,h⟩ | ⟨c1,h⟩
   ·refine O.cT' (by simp) c0 ?_
    refine O.zR y fun K u=>?_
    iterate 2 (refine wC rfl fun K v=>?_;simp [q];apply v)
    apply wN;apply u
    cases h
    refine O.ret ?_
    simp [aC,iB,aC6]
   ·refine O.cF' (by simp) c1 ?_
    refine O.zR y fun K u=>?_
    iterate 2 (refine wC rfl fun K v=>?_;simp [q];apply v)
    apply wN;apply u
    rcases aA h with ⟨c2,h⟩ | ⟨c3,h⟩
    ·refine O.cT' (by simp) c2 ?_
     refine O.zR y fun K u=>?_
     iterate 2 (refine wC rfl fun K v=>?_;simp [q];apply v)
     apply wN;apply u
     cases h
     refine O.ret ?_
     simp [aC,iB,aC6]
    ·refine O.cF' (by simp) c3 ?_
     refine O.zR y fun K u=>?_
     iterate 2 (refine wC rfl fun K v=>?_;simp [q];apply v)
     apply wN;apply u
     rcases aA h with ⟨c4,h⟩ | ⟨c5,h⟩
     ·refine O.cT' (by simp) c4 ?_
      refine O.zR y fun K u=>?_
      iterate 2 (refine wC rfl fun K v=>?_;simp [q];apply v)
      apply wN;apply u
      cases h
      refine O.ret ?_
      simp [aC,iB,aC6]
     ·refine O.cF' (by simp) c5 ?_
      refine O.skip ?_
      refine O.zR y fun K u=>?_
      iterate 2 (refine wC rfl fun K v=>?_;simp [q];apply v)
      apply wN;apply u
      cases h
      refine O.ret ?_
      simp [aC,iB,aC6]
theorem aO8:Tryz.f117.results.toList=[.tmp 2]:=rfl
theorem ent117:aE E.P 117:=eO Tryz.func117 (by simp [Tryz.f117]) rfl
theorem xE (a2:Int) {r0:Bool} (h:jM a2=some r0):Ok E 117 [.val (vi a2)] [vb r0] []:=by
 refine oB Tryz.func117 rfl (by simp [Tryz.f117]) fun C (q:C.N=14) hP=>?_
 have y:=aK hP
 unfold jM at h
 refine O.zR y fun K u=>?_
 refine wC rfl fun K v=>?_;simp [q];apply v
 apply wN;apply u
 refine O.seq ?_
 refine O.zR y fun K u=>?_
 refine wC rfl fun K v=>?_;simp [q];apply v
 apply wN;apply u
 refine O.block ?_
 obtain ⟨b6,a0,h⟩:=bS h
 refine O.seqC [4] [] (fun _:Unit=>⟨[(4,.t (vb b6))],[]⟩) (fun _=>True) (fun _ _=>?_) fun K3 a1=>?_
 rotate_left
 ·refine O.zR y fun K u=>?_
  iterate 2 (refine wC rfl fun K v=>?_;simp [q];apply v)
  apply wN;apply u
  rcases aA a0 with ⟨b7,a0⟩ | ⟨b8,a0⟩
  ·refine O.cT' (by simp) b7 ?_
   refine O.skip ?_
   cases a0
   exact a1 _ () [] trivial (by simp [q])
  ·refine O.cF' (by simp) b8 ?_
   refine O.zR y fun K u=>?_
   iterate 2 (refine wC rfl fun K v=>?_;simp [q];apply v)
   apply wN;apply u
   rcases aA a0 with ⟨b9,a0⟩ | ⟨c0,a0⟩
   ·refine O.cT' (by simp) b9 ?_
    refine O.skip ?_
    cases a0
    exact a1 _ () [] trivial (by simp [q])
   ·refine O.cF' (by simp) c0 ?_
    refine O.zR y fun K u=>?_
    iterate 2 (refine wC rfl fun K v=>?_;simp [q];apply v)
    apply wN;apply u
    rcases aA a0 with ⟨c1,a0⟩ | ⟨a3,a0⟩
    ·refine O.cT' (by simp) c1 ?_
     refine O.skip ?_
     cases a0
     exact a1 _ () [] trivial (by simp [q])
    ·refine O.cF' (by simp) a3 ?_
     refine O.zR y fun K u=>?_
     iterate 2 (refine wC rfl fun K v=>?_;simp [q];apply v)
     apply wN;apply u
     rcases aA a0 with ⟨a4,a0⟩ | ⟨a5,a0⟩
     ·refine O.cT' (by simp) a4 ?_
      refine O.skip ?_
      cases a0
      exact a1 _ () [] trivial (by simp [q])
     ·refine O.cF' (by simp) a5 ?_
      refine O.zR y fun K u=>?_
      iterate 2 (refine wC rfl fun K v=>?_;simp [q];apply v)
      apply wN;apply u
      rcases aA a0 with ⟨a6,a0⟩ | ⟨a7,a0⟩
      ·refine O.cT' (by simp) a6 ?_
       refine O.skip ?_
       cases a0
       exact a1 _ () [] trivial (by simp [q])
      ·refine O.cF' (by simp) a7 ?_
       refine O.zR y fun K u=>?_
       iterate 2 (refine wC rfl fun K v=>?_;simp [q];apply v)
       apply wN;apply u
       rcases aA a0 with ⟨a8,a0⟩ | ⟨a9,a0⟩
       ·refine O.cT' (by simp) a8 ?_
        refine O.skip ?_
        cases a0
        exact a1 _ () [] trivial (by simp [q])
       ·refine O.cF' (by simp) a9 ?_
        refine O.zR y fun K u=>?_
        iterate 2 (refine wC rfl fun K v=>?_;simp [q];apply v)
        apply wN;apply u
        rcases aA a0 with ⟨b0,a0⟩ | ⟨b1,a0⟩
        ·refine O.cT' (by simp) b0 ?_
         refine O.skip ?_
         cases a0
         exact a1 _ () [] trivial (by simp [q])
        ·refine O.cF' (by simp) b1 ?_
         refine O.zR y fun K u=>?_
         iterate 2 (refine wC rfl fun K v=>?_;simp [q];apply v)
         apply wN;apply u
         rcases aA a0 with ⟨b2,a0⟩ | ⟨b3,a0⟩
         ·refine O.cT' (by simp) b2 ?_
          refine O.skip ?_
          cases a0
          exact a1 _ () [] trivial (by simp [q])
         ·refine O.cF' (by simp) b3 ?_
          refine O.zG y fun K u=>?_
          iterate 2 (refine wC rfl fun K v=>?_;simp [q];apply v)
          apply wN;apply u
          cases a0
          exact a1 _ () [] trivial (by simp [q])
 rcases aA h with ⟨b4,h⟩ | ⟨b5,h⟩
 ·refine O.cT' (by simp) b4 ?_
  refine O.zR y fun K u=>?_
  refine wC rfl fun K v=>?_;simp [q];apply v
  apply wN;apply u
  cases h
  refine O.ret ?_
  simp [aC,iB,aO8]
 ·refine O.cF' (by simp) b5 ?_
  refine O.skip ?_
  refine O.zR y fun K u=>?_
  refine wC rfl fun K v=>?_;simp [q];apply v
  apply wN;apply u
  cases h
  refine O.ret ?_
  simp [aC,iB,aO8]
theorem res103:Tryz.f103.results.toList=[.tmp 2]:=rfl
theorem aLu:aE E.P 103:=eO Tryz.func103 (by simp [Tryz.f103]) rfl
theorem lU (a0:Int) {r0:Bool} (h:fG a0=some r0):Ok E 103 [.val (vi a0)] [vb r0] []:=by
 refine oB Tryz.func103 rfl (by simp [Tryz.f103]) fun C (q:C.N=5) hP=>?_
 have y:=aK hP
 unfold fG at h
 refine O.zR y fun K u=>?_
 refine wC rfl fun K v=>?_;simp [q];apply v
 apply wN;apply u
 refine O.zR y fun K u=>?_
 refine wC rfl fun K v=>?_;simp [q];apply v
 obtain ⟨r2,a1,h⟩:=bS h
 refine wL [(.take,.tmp 3),(.take,.const (.int .i64 1)),(.take,.const (.int .i64 12))] rfl rfl qJ (aQ _ _ _ a1) fun K v=>?_;simp [q];apply v
 refine wC rfl fun K v=>?_;simp [q];apply v
 apply wN;apply u
 cases h
 refine O.ret ?_
 simp [aC,iB,res103]
theorem res131:Tryz.f131.results.toList=[.tmp 2]:=rfl
theorem ent131:aE E.P 131:=eO Tryz.func131 (by simp [Tryz.f131]) rfl
theorem sG (a0:Int) {r0:Bool} (h:eR a0=some r0):Ok E 131 [.val (vi a0)] [vb r0] []:=by
 refine oB Tryz.func131 rfl (by simp [Tryz.f131]) fun C (q:C.N=5) hP=>?_
 have y:=aK hP
 unfold eR at h
 refine O.zR y fun K u=>?_
 refine wC rfl fun K v=>?_;simp [q];apply v
 apply wN;apply u
 refine O.zR y fun K u=>?_
 refine wC rfl fun K v=>?_;simp [q];apply v
 obtain ⟨r2,a1,h⟩:=bS h
 refine wL [(.take,.tmp 3),(.take,.const (.int .i64 13)),(.take,.const (.int .i64 19))] rfl rfl qJ (aQ _ _ _ a1) fun K v=>?_;simp [q];apply v
 refine wC rfl fun K v=>?_;simp [q];apply v
 apply wN;apply u
 cases h
 refine O.ret ?_
 simp [aC,iB,res131]
theorem aEs:Tryz.f118.results.toList=[.tmp 6]:=rfl
theorem ent118:aE E.P 118:=eO Tryz.func118 (by simp [Tryz.f118]) rfl
theorem zB (a0:Int) (a3:Int) (a1:Int) {r0:Bool} (h:kV a0 a3 a1=some r0):Ok E 118 [.val (vi a0),.val (vi a3),.val (vi a1)] [vb r0] []:=by
 refine oB Tryz.func118 rfl (by simp [Tryz.f118]) fun C (q:C.N=25) hP=>?_
 have y:=aK hP
 unfold kV at h
 refine O.zR y fun K u=>?_
 refine wC rfl fun K v=>?_;simp [q];apply v
 apply wN;apply u
 refine O.seq ?_
 refine O.zR y fun K u=>?_
 refine wC rfl fun K v=>?_;simp [q];apply v
 apply wN;apply u
 refine O.block ?_
 refine O.zR y fun K u=>?_
 iterate 2 (refine wC rfl fun K v=>?_;simp [q];apply v)
 apply wN;apply u
 rcases aA h with ⟨b5,h⟩ | ⟨b6,h⟩
 ·refine O.cT' (by simp) b5 ?_
  refine O.zR y fun K u=>?_
  refine wC rfl fun K v=>?_;simp [q];apply v
  obtain ⟨r6,b7,h⟩:=bS h
  refine wL [(.take,.tmp 10)] rfl rfl ent131 (sG _ b7) fun K v=>?_;simp [q];apply v
  refine wC rfl fun K v=>?_;simp [q];apply v
  apply wN;apply u
  cases h
  refine O.ret ?_
  simp [aC,iB,aEs]
 ·refine O.cF' (by simp) b6 ?_
  obtain ⟨b8,a2,h⟩:=bS h
  refine O.seqC [1,2,7,12] [] (fun _:Unit=>⟨[(1,.t (vi a3)),(2,.t (vi a1)),(7,.t (vi a0)),(12,.t (vb b8))],[]⟩) (fun _=>True) (fun _ _=>?_) fun K9 b4=>?_
  rotate_left
  ·refine O.zR y fun K u=>?_
   iterate 2 (refine wC rfl fun K v=>?_;simp [q];apply v)
   apply wN;apply u
   rcases aA a2 with ⟨a4,a2⟩ | ⟨a5,a2⟩
   ·refine O.cT' (by simp) a4 ?_
    refine O.skip ?_
    cases a2
    exact b4 _ () [] trivial (by simp [q])
   ·refine O.cF' (by simp) a5 ?_
    refine O.zG y fun K u=>?_
    iterate 2 (refine wC rfl fun K v=>?_;simp [q];apply v)
    apply wN;apply u
    cases a2
    exact b4 _ () [] trivial (by simp [q])
  rcases aA h with ⟨a6,h⟩ | ⟨a7,h⟩
  ·refine O.cT' (by simp) a6 ?_
   refine O.zR y fun K u=>?_
   iterate 2 (refine wC rfl fun K v=>?_;simp [q];apply v)
   apply wN;apply u
   rcases aA h with ⟨a8,h⟩ | ⟨a9,h⟩
   ·refine O.cT' (by simp) a8 ?_
    refine O.zR y fun K u=>?_
    iterate 3 (refine wC rfl fun K v=>?_;simp [q];apply v)
    apply wN;apply u
    cases h
    refine O.ret ?_
    simp [aC,iB,aEs]
   ·refine O.cF' (by simp) a9 ?_
    refine O.skip ?_
    refine O.zR y fun K u=>?_
    refine wC rfl fun K v=>?_;simp [q];apply v
    obtain ⟨b9,b0,h⟩:=bS h
    refine wL [(.take,.tmp 23)] rfl rfl aLu (lU _ b0) fun K v=>?_;simp [q];apply v
    refine wC rfl fun K v=>?_;simp [q];apply v
    apply wN;apply u
    cases h
    refine O.ret ?_
    simp [aC,iB,aEs]
  ·refine O.cF' (by simp) a7 ?_
   refine O.zR y fun K u=>?_
   iterate 2 (refine wC rfl fun K v=>?_;simp [q];apply v)
   apply wN;apply u
   rcases aA h with ⟨b1,h⟩ | ⟨b2,h⟩
   ·refine O.cT' (by simp) b1 ?_
    refine O.zR y fun K u=>?_
    iterate 3 (refine wC rfl fun K v=>?_;simp [q];apply v)
    apply wN;apply u
    cases h
    refine O.ret ?_
    simp [aC,iB,aEs]
   ·refine O.cF' (by simp) b2 ?_
    refine O.skip ?_
    refine O.zR y fun K u=>?_
    refine wC rfl fun K v=>?_;simp [q];apply v
    obtain ⟨c0,b3,h⟩:=bS h
    refine wL [(.take,.tmp 23)] rfl rfl aLu (lU _ b3) fun K v=>?_;simp [q];apply v
    refine wC rfl fun K v=>?_;simp [q];apply v
    apply wN;apply u
    cases h
    refine O.ret ?_
    simp [aC,iB,aEs]
theorem aC7:Tryz.f101.results.toList=[.tmp 4]:=rfl
theorem ent101:aE E.P 101:=eO Tryz.func101 (by simp [Tryz.f101]) rfl
theorem aB3 (a4:List GNode) (k2:Int) {r0:Bool} (h:mN a4 k2=some r0):Ok E 101 [.val (.sl false 4 (List.map (GNode.enc false) a4)),.val (vi k2)] [vb r0] []:=by
 refine oB Tryz.func101 rfl (by simp [Tryz.f101]) fun C (q:C.N=124) hP=>?_
 have u:=aK hP
 unfold mN at h
 refine O.zR u fun K w=>?_
 refine wC rfl fun K r=>?_;simp [q];apply r
 apply wN;apply w
 refine O.seq ?_
 obtain ⟨l5,d4,h⟩:=bS h
 refine O.seqRC rfl (u _ rfl) [0,1,24] [] (fun _:Unit=>⟨[(0,.t (.sl false 4 (List.map (GNode.enc false) a4))),(1,.t (vi k2)),(24,.t (vb l5))],[]⟩) (fun _=>True) (fun _ _=>?_) fun K4 l2=>?_
 rotate_left
 ·refine wC rfl fun K r=>?_;simp [q];apply r
  iterate 3 (refine wC rfl fun K r=>?_;simp [q];apply r)
  obtain ⟨r5,l6,d4⟩:=bS d4
  refine wL [(.take,.tmp 10),(.take,.const (.int .i64 0)),(.take,.tmp 13)] rfl rfl qJ (aQ _ _ _ l6) fun K r=>?_;simp [q];apply r
  iterate 2 (refine wC rfl fun K r=>?_;simp [q];apply r)
  rcases aA d4 with ⟨i1,d4⟩ | ⟨h1,d4⟩
  ·have e5:=i1
   try simp at e5
   iterate 7 (refine wO fun K r=>?_;simp [q,i1,e5];apply r)
   refine wC rfl fun K r=>?_;simp [q,i1,e5];apply r
   refine wN ?_
   cases d4
   exact l2 _ () [] trivial (by simp [q,i1,e5])
  ·have d1:=h1
   try simp at d1
   iterate 2 (refine wC rfl fun K r=>?_;simp [q,h1,d1];apply r)
   obtain ⟨e9,l7,d4⟩:=bS d4
   obtain ⟨e6,e7,e8,g0⟩:=gS l7
   iterate 3 (refine wC rfl fun K r=>?_;simp [q,h1,d1,e6,e7,e8,g0];apply r)
   obtain ⟨n0,i2,d4⟩:=bS d4
   refine wL [(.take,.tmp 21),(.take,.const (.int .i64 1)),(.take,.const (.int .i64 20))] rfl rfl qJ (aQ _ _ _ i2) fun K r=>?_;simp [q,h1,d1,e6,e7,e8,g0];apply r
   iterate 2 (refine wC rfl fun K r=>?_;simp [q,h1,d1,e6,e7,e8,g0];apply r)
   refine wN ?_
   cases d4
   exact l2 _ () [] trivial (by simp [q,h1,d1,e6,e7,e8,g0])
 rcases aA h with ⟨i3,h⟩ | ⟨i4,h⟩
 ·refine O.cT' (by simp) i3 ?_
  refine O.zR u fun K w=>?_
  refine wC rfl fun K r=>?_;simp [q];apply r
  apply wN;apply w
  cases h
  refine O.ret ?_
  simp [aC,iB,aC7]
 ·refine O.cF' (by simp) i4 ?_
  refine O.skip ?_
  refine O.zR u fun K w=>?_
  iterate 2 (refine wC rfl fun K r=>?_;simp [q];apply r)
  obtain ⟨a6,i5,h⟩:=bS h
  obtain ⟨h4,h5,h6,h7⟩:=gS i5
  iterate 4 (refine wC rfl fun K r=>?_;simp [q,h4,h5,h6,h7];apply r)
  apply wN;apply w
  refine O.zR u fun K w=>?_
  iterate 2 (refine wC rfl fun K r=>?_;simp [q];apply r)
  obtain ⟨⟨n1,n2⟩,i6,h⟩:=bS h
  try dsimp only at h
  refine wL [(.take,.tmp 31)] rfl rfl ent116 (yY _ i6) fun K r=>?_;simp [q];apply r
  iterate 5 (refine wC rfl fun K r=>?_;simp [q];apply r)
  apply wN;apply w
  refine O.seq ?_
  obtain ⟨l8,a7,h⟩:=bS h
  refine O.seqRC rfl (u _ rfl) [0,1,5,57] [5] (fun _:Unit=>⟨[(0,.t (.sl false 4 (List.map (GNode.enc false) a4))),(1,.t (vi k2)),(5,.ref (.box 5) 0 []),(57,.t (vb l8))],[(5,[vi a6.Kind,vi a6.Num,vs a6.Name,.sl false 1 (List.map vi a6.Kids)])]⟩) (fun _=>True) (fun _ _=>?_) fun n3 g1=>?_
  rotate_left
  ·refine wC rfl fun K r=>?_;simp [q];apply r
   iterate 4 (refine wC rfl fun K r=>?_;simp [q];apply r)
   obtain ⟨n4,i7,a7⟩:=bS a7
   refine wL [(.take,.tmp 37),(.take,.tmp 38),(.take,.tmp 39)] rfl rfl qJ (aQ _ _ _ i7) fun K r=>?_;simp [q];apply r
   iterate 2 (refine wC rfl fun K r=>?_;simp [q];apply r)
   rcases aA a7 with ⟨d2,a7⟩ | ⟨b0,a7⟩
   ·have c0:=d2
    try simp at c0
    iterate 4 (refine wO fun K r=>?_;simp [q,d2,c0];apply r)
    iterate 2 (refine wC rfl fun K r=>?_;simp [q,d2,c0];apply r)
    iterate 8 (refine wO fun K r=>?_;simp [q,d2,c0];apply r)
    refine wC rfl fun K r=>?_;simp [q,d2,c0];apply r
    refine wN ?_
    cases a7
    exact g1 _ () [] trivial (by simp [q,d2,c0])
   ·have a5:=b0
    try simp at a5
    iterate 2 (refine wC rfl fun K r=>?_;simp [q,b0,a5];apply r)
    obtain ⟨n5,i8,a7⟩:=bS a7
    refine wL [(.take,.tmp 44),(.take,.const (.int .i64 0)),(.take,.const (.int .i64 1000000000))] rfl rfl qJ (aQ _ _ _ i8) fun K r=>?_;simp [q,b0,a5];apply r
    iterate 3 (refine wC rfl fun K r=>?_;simp [q,b0,a5];apply r)
    rcases aA a7 with ⟨g2,a7⟩ | ⟨c4,a7⟩
    ·have c6:=g2
     try simp at c6
     iterate 8 (refine wO fun K r=>?_;simp [q,b0,a5,g2,c6];apply r)
     refine wC rfl fun K r=>?_;simp [q,b0,a5,g2,c6];apply r
     refine wN ?_
     cases a7
     exact g1 _ () [] trivial (by simp [q,b0,a5,g2,c6])
    ·have b4:=c4
     try simp at b4
     iterate 4 (refine wC rfl fun K r=>?_;simp [q,b0,a5,c4,b4];apply r)
     rcases aA a7 with ⟨g8,a7⟩ | ⟨g3,a7⟩
     ·have d5:=g8
      try simp at d5
      iterate 5 (refine wC rfl fun K r=>?_;simp [q,b0,a5,c4,b4,g8,d5];apply r)
      refine wN ?_
      cases a7
      exact g1 _ () [] trivial (by simp [q,b0,a5,c4,b4,g8,d5])
     ·have c7:=g3
      try simp at c7
      iterate 3 (refine wO fun K r=>?_;simp [q,b0,a5,c4,b4,g3,c7];apply r)
      iterate 2 (refine wC rfl fun K r=>?_;simp [q,b0,a5,c4,b4,g3,c7];apply r)
      refine wN ?_
      cases a7
      exact g1 _ () [] trivial (by simp [q,b0,a5,c4,b4,g3,c7])
  rcases aA h with ⟨i9,h⟩ | ⟨j0,h⟩
  ·refine O.cT' (by simp) i9 ?_
   refine O.zR u fun K w=>?_
   refine wC rfl fun K r=>?_;simp [q];apply r
   apply wN;apply w
   cases h
   refine O.ret ?_
   simp [aC,iB,aC7]
  ·refine O.cF' (by simp) j0 ?_
   refine O.skip ?_
   refine O.seq ?_
   obtain ⟨l9,b1,h⟩:=bS h
   refine O.seqC [0,1,5,75] [5] (fun _:Unit=>⟨[(0,.t (.sl false 4 (List.map (GNode.enc false) a4))),(1,.t (vi k2)),(5,.ref (.box 5) 0 []),(75,.t (vb l9))],[(5,[vi a6.Kind,vi a6.Num,vs a6.Name,.sl false 1 (List.map vi a6.Kids)])]⟩) (fun _=>True) (fun _ _=>?_) fun n6 g9=>?_
   rotate_left
   ·obtain ⟨m0,j1,b1⟩:=bS b1
    refine O.dT rfl (u _ rfl) [(58,.ref (.box 5) 0 []),(59,.t (vi a6.Kind)),(60,.t (vb m0)),(61,.ref (.box 5) 2 []),(62,.t (vs a6.Name)),(63,.t (vb (!(sEq a6.Name (⟨#[]⟩:ByteArray)))))] [[],[0],[0,1],[],[3],[3,4],[0,1,2,3,4,5],[0,1,2,3,4,5,6],[0,1,2,3,4,5,6,7],[0,1,2,3,4,5,6,7,8],[0,1,2,3,4,5,6,7,8,9],[0,1,2,3,4,5,6,7,8,9,10],[0,1,2,3,4,5,6,7,8,9,10,11],[0,1,2,3,4,5,6,7,8,9,10,11,12],[0,1,2,3,4,5,6,7,8,9,10,11,12,13],[0,1,2,3,4,5,6,7,8,9,10,11,12,13,14],[0,1,2,3,4,5,6,7,8,9,10,11,12,13,14,15],[0,1,2,3,4,5,6,7,8,9,10,11,12,13,14,15,16]] (by simp) (by simp) (by simp [look]) rfl rfl rfl ?_ fun K w=>?_
    ·refine ⟨?_,?_,?_,?_,?_,?_,trivial⟩
     all_goals (intro τ hbx hb hd hf K w;try simp [aH] at hd;simp [aH] at hf;first | (refine wC rfl fun K' z=>?_;simp [q,hbx,hb,hd,hf];exact z _ (wN (w _ (by simp [aH,hbx])))) | (refine wL [(.take,.tmp 59)] rfl rfl ent117 (xE _ j1) fun K' z=>?_;simp [q,hbx,hb,hd,hf];exact z _ (wN (w _ (by simp [aH,hbx])))))
    iterate 2 (refine wC rfl fun K r=>?_;simp [q];apply r)
    rcases aA b1 with ⟨g4,b1⟩ | ⟨c1,b1⟩
    ·have c8:=g4
     try simp at c8
     iterate 9 (refine wO fun K r=>?_;simp [q,g4,c8];apply r)
     refine wC rfl fun K r=>?_;simp [q,g4,c8];apply r
     apply wN;apply w
     cases b1
     exact g9 _ () [] trivial (by simp [q,g4,c8])
    ·have a9:=c1
     try simp at a9
     iterate 4 (refine wC rfl fun K r=>?_;simp [q,c1,a9];apply r)
     rcases aA b1 with ⟨d6,b1⟩ | ⟨g5,b1⟩
     ·have c2:=d6
      try simp at c2
      iterate 2 (refine wC rfl fun K r=>?_;simp [q,c1,a9,d6,c2];apply r)
      obtain ⟨n7,j2,b1⟩:=bS b1
      refine wL [(.take,.tmp 71)] rfl rfl aLv (nS _ j2) fun K r=>?_;simp [q,c1,a9,d6,c2];apply r
      iterate 3 (refine wC rfl fun K r=>?_;simp [q,c1,a9,d6,c2];apply r)
      apply wN;apply w
      cases b1
      exact g9 _ () [] trivial (by simp [q,c1,a9,d6,c2])
     ·have c9:=g5
      try simp at c9
      iterate 4 (refine wO fun K r=>?_;simp [q,c1,a9,g5,c9];apply r)
      iterate 2 (refine wC rfl fun K r=>?_;simp [q,c1,a9,g5,c9];apply r)
      apply wN;apply w
      cases b1
      exact g9 _ () [] trivial (by simp [q,c1,a9,g5,c9])
   rcases aA h with ⟨j3,h⟩ | ⟨j4,h⟩
   ·refine O.cT' (by simp) j3 ?_
    refine O.zR u fun K w=>?_
    refine wC rfl fun K r=>?_;simp [q];apply r
    apply wN;apply w
    cases h
    refine O.ret ?_
    simp [aC,iB,aC7]
   ·refine O.cF' (by simp) j4 ?_
    refine O.skip ?_
    obtain ⟨m1,j5,h⟩:=bS h
    refine O.seqC [] [] (fun v:Unit=>⟨[],[]⟩) (fun v=>m1=Sum.inl v) (fun v hv=>?_) fun n8 j6=>?_
    rotate_left
    ·refine O.zR u fun K w=>?_
     refine wC rfl fun K r=>?_;simp [q];apply r
     apply wN;apply w
     refine O.block ?_
     refine O.loopO [] [0,1,5,8] [5] (fun v:Int=>⟨[(0,.t (.sl false 4 (List.map (GNode.enc false) a4))),(1,.t (vi k2)),(5,.ref (.box 5) 0 []),(8,.t (vi v))],[(5,[vi a6.Kind,vi a6.Num,vs a6.Name,.sl false 1 (List.map vi a6.Kids)])]⟩) (fX a4 k2 a6) _ 0 j5 (by simp [q]) ?_
     intro g n9 d3 h0
     obtain ⟨g6,hg⟩:∃ y,y=g:=⟨_,rfl⟩
     subst hg
     simp only [fX] at d3
     try dsimp only
     refine O.seq ?_
     refine O.zR u fun K w=>?_
     iterate 5 (refine wC rfl fun K r=>?_;simp [q];apply r)
     apply wN;apply w
     rcases aA d3 with ⟨j7,d3⟩ | ⟨j8,d3⟩
     ·refine O.cT' (by simp) j7 ?_
      refine O.skip ?_
      obtain ⟨m2,c5,d3⟩:=bS d3
      refine O.seqC [0,1,5,8] [5] (fun v:Unit=>⟨[(0,.t (.sl false 4 (List.map (GNode.enc false) a4))),(1,.t (vi k2)),(5,.ref (.box 5) 0 []),(8,.t (vi g6))],[(5,[vi a6.Kind,vi a6.Num,vs a6.Name,.sl false 1 (List.map vi a6.Kids)])]⟩) (fun v=>m2=Sum.inl v) (fun v hv=>?_) fun o0 j9=>?_
      rotate_left
      ·refine O.block ?_
       refine O.seq ?_
       obtain ⟨m3,b2,c5⟩:=bS c5
       refine O.seqC [0,1,5,8,107] [5] (fun _:Unit=>⟨[(0,.t (.sl false 4 (List.map (GNode.enc false) a4))),(1,.t (vi k2)),(5,.ref (.box 5) 0 []),(8,.t (vi g6)),(107,.t (vb m3))],[(5,[vi a6.Kind,vi a6.Num,vs a6.Name,.sl false 1 (List.map vi a6.Kids)])]⟩) (fun _=>True) (fun _ _=>?_) fun o1 h8=>?_
       rotate_left
       ·obtain ⟨h2,k0,b2⟩:=bS b2
        obtain ⟨a0,a1,a2,a3⟩:=gS k0
        obtain ⟨h3,h9,b2⟩:=bS b2
        rcases aA b2 with ⟨b9,b2⟩ | ⟨c3,b2⟩
        ·have a8:=b9
         try simp at a8
         refine O.dT rfl (u _ rfl) [(83,.ref (.box 5) 3 []),(84,.t (.sl false 1 (List.map vi a6.Kids))),(85,.t (vi g6)),(86,.rop [vi h2] 0),(87,.t (vi h2)),(88,.t (vi k2)),(89,.t (vi (IntKind.wrap .i64 (k2 - 1)))),(90,.t (vb h3)),(91,.t (vb (!h3))),(92,.t (vb (!h3))),(93,.tup []),(94,.tup []),(95,.tup []),(96,.tup []),(97,.tup []),(98,.tup []),(99,.tup []),(100,.tup []),(101,.tup []),(102,.tup []),(103,.tup []),(104,.tup [])] [[],[0],[],[0,1,2],[0,1,2,3],[],[5],[0,1,2,3,4,5,6],[0,1,2,3,4,5,6,7],[0,1,2,3,4,5,6,7,8],[0,1,2,3,4,5,6,7,8,9],[0,1,2,3,4,5,6,7,8,9,10],[0,1,2,3,4,5,6,7,8,9],[0,1,2,3,4,5,6,7,8,9],[0,1,2,3,4,5,6,7,8,9],[0,1,2,3,4,5,6,7,8,9,14],[0,1,2,3,4,5,6,7,8,9],[0,1,2,3,4,5,6,7,8,9,14,15,16],[0,1,2,3,4,5,6,7,8,9,14,15,16,17],[0,1,2,3,4,5,6,7,8,9,13,14,15,16,17,18],[0,1,2,3,4,5,6,7,8,9,13,14,15,16,17,18,19],[0,1,2,3,4,5,6,7,8,9,13,14,15,16,17,18,19,20],[0,1,2,3,4,5,6,7,8,9,10,11,12,13,14,15,16,17,18,19,20,21],[0,1,2,3,4,5,6,7,8,9,10,11,12,13,14,15,16,17,18,19,20,21,22],[0,1,2,3,4,5,6,7,8,9,10,11,12,13,14,15,16,17,18,19,20,21,22,23]] (by simp) (by simp) (by simp [look]) rfl rfl rfl ?_ fun K w=>?_
         ·refine ⟨?_,?_,?_,?_,?_,?_,?_,?_,?_,?_,?_,?_,?_,?_,?_,?_,?_,?_,?_,?_,?_,?_,trivial⟩
          all_goals (intro τ hbx hb hd hf K w;try simp [aH] at hd;simp [aH] at hf;first | (refine wC rfl fun K' z=>?_;simp [q,hbx,hb,hd,hf,a0,a1,a2,a3,b9,a8];exact z _ (wN (w _ (by simp [aH,hbx,a0,a1,a2,a3,b9,a8])))) | (refine wL [(.take,.tmp 87),(.take,.const (.int .i64 0)),(.take,.tmp 89)] rfl rfl qJ (aQ _ _ _ h9) fun K' z=>?_;simp [q,hbx,hb,hd,hf,a0,a1,a2,a3,b9,a8];exact z _ (wN (w _ (by simp [aH,hbx,a0,a1,a2,a3,b9,a8])))) | (refine wO fun K' z=>?_;simp [q,hbx,hb,hd,hf,a0,a1,a2,a3,b9,a8];exact z _ (wN (w _ (by simp [aH,hbx,a0,a1,a2,a3,b9,a8])))))
         iterate 2 (refine wO fun K r=>?_;simp [q,a0,a1,a2,a3,b9,a8];apply r)
         refine wC rfl fun K r=>?_;simp [q,a0,a1,a2,a3,b9,a8];apply r
         apply wN;apply w
         cases b2
         exact h8 _ () [] trivial (by simp [q,a0,a1,a2,a3,b9,a8])
        ·have b3:=c3
         try simp at b3
         obtain ⟨g7,k1,b2⟩:=bS b2
         obtain ⟨b5,b6,b7,b8⟩:=gS k1
         refine O.dT rfl (u _ rfl) [(83,.ref (.box 5) 3 []),(84,.t (.sl false 1 (List.map vi a6.Kids))),(85,.t (vi g6)),(86,.rop [vi h2] 0),(87,.t (vi h2)),(88,.t (vi k2)),(89,.t (vi (IntKind.wrap .i64 (k2 - 1)))),(90,.t (vb h3)),(91,.t (vb (!h3))),(92,.t (vb (!h3))),(93,.ref (.box 5) 0 []),(94,.t (vi a6.Kind)),(95,.t (vi g6)),(96,.t (.sl false 4 (List.map (GNode.enc false) a4))),(97,.ref (.box 5) 3 []),(98,.t (.sl false 1 (List.map vi a6.Kids))),(99,.t (vi g6)),(100,.rop [vi h2] 0),(101,.t (vi h2)),(102,.rop [vi g7.Kind,vi g7.Num,vs g7.Name,.sl false 1 (List.map vi g7.Kids)] 0),(103,.rop [vi g7.Kind,vi g7.Num,vs g7.Name,.sl false 1 (List.map vi g7.Kids)] 0),(104,.t (vi g7.Kind))] [[],[0],[],[0,1,2],[0,1,2,3],[],[5],[0,1,2,3,4,5,6],[0,1,2,3,4,5,6,7],[0,1,2,3,4,5,6,7,8],[0,1,2,3,4,5,6,7,8,9],[0,1,2,3,4,5,6,7,8,9,10],[0,1,2,3,4,5,6,7,8,9],[0,1,2,3,4,5,6,7,8,9],[0,1,2,3,4,5,6,7,8,9],[0,1,2,3,4,5,6,7,8,9,14],[0,1,2,3,4,5,6,7,8,9],[0,1,2,3,4,5,6,7,8,9,14,15,16],[0,1,2,3,4,5,6,7,8,9,14,15,16,17],[0,1,2,3,4,5,6,7,8,9,13,14,15,16,17,18],[0,1,2,3,4,5,6,7,8,9,13,14,15,16,17,18,19],[0,1,2,3,4,5,6,7,8,9,13,14,15,16,17,18,19,20],[0,1,2,3,4,5,6,7,8,9,10,11,12,13,14,15,16,17,18,19,20,21],[0,1,2,3,4,5,6,7,8,9,10,11,12,13,14,15,16,17,18,19,20,21,22],[0,1,2,3,4,5,6,7,8,9,10,11,12,13,14,15,16,17,18,19,20,21,22,23]] (by simp) (by simp) (by simp [look]) rfl rfl rfl ?_ fun K w=>?_
         ·refine ⟨?_,?_,?_,?_,?_,?_,?_,?_,?_,?_,?_,?_,?_,?_,?_,?_,?_,?_,?_,?_,?_,?_,trivial⟩
          all_goals (intro τ hbx hb hd hf K w;try simp [aH] at hd;simp [aH] at hf;first | (refine wC rfl fun K' z=>?_;simp [q,hbx,hb,hd,hf,a0,a1,a2,a3,c3,b3,b5,b6,b7,b8];exact z _ (wN (w _ (by simp [aH,hbx,a0,a1,a2,a3,c3,b3,b5,b6,b7,b8])))) | (refine wL [(.take,.tmp 87),(.take,.const (.int .i64 0)),(.take,.tmp 89)] rfl rfl qJ (aQ _ _ _ h9) fun K' z=>?_;simp [q,hbx,hb,hd,hf,a0,a1,a2,a3,c3,b3,b5,b6,b7,b8];exact z _ (wN (w _ (by simp [aH,hbx,a0,a1,a2,a3,c3,b3,b5,b6,b7,b8])))))
         obtain ⟨o2,k3,b2⟩:=bS b2
         refine wL [(.take,.tmp 94),(.take,.tmp 95),(.take,.tmp 104)] rfl rfl ent118 (zB _ _ _ k3) fun K r=>?_;simp [q,a0,a1,a2,a3,c3,b3,b5,b6,b7,b8];apply r
         iterate 2 (refine wC rfl fun K r=>?_;simp [q,a0,a1,a2,a3,c3,b3,b5,b6,b7,b8];apply r)
         apply wN;apply w
         cases b2
         exact h8 _ () [] trivial (by simp [q,a0,a1,a2,a3,c3,b3,b5,b6,b7,b8])
       rcases aA c5 with ⟨k4,c5⟩ | ⟨k5,c5⟩
       ·refine O.cT' (by simp) k4 ?_
        refine O.zR u fun K w=>?_
        refine wC rfl fun K r=>?_;simp [q];apply r
        apply wN;apply w
        cases c5
        try dsimp only at d3
        have m4:=congrArg some (h0 _ (Option.some.inj d3).symm)
        cases m4
        try dsimp only at h
        cases h
        refine O.ret ?_
        simp [aC,iB,aC7]
       ·refine O.cF' (by simp) k5 ?_
        refine O.skip ?_
        refine O.zR u fun K w=>?_
        refine wC rfl fun K r=>?_;simp [q];apply r
        apply wN;apply w
        refine O.block ?_
        refine O.loopO [] [0,1,5,8,9] [5] (fun v:Int=>⟨[(0,.t (.sl false 4 (List.map (GNode.enc false) a4))),(1,.t (vi k2)),(5,.ref (.box 5) 0 []),(8,.t (vi g6)),(9,.t (vi v))],[(5,[vi a6.Kind,vi a6.Num,vs a6.Name,.sl false 1 (List.map vi a6.Kids)])]⟩) (fW a6 g6) _ 0 c5 (by simp [q]) ?_
        intro g o3 d0 i0
        obtain ⟨m5,hg⟩:∃ y,y=g:=⟨_,rfl⟩
        subst hg
        simp only [fW] at d0
        try dsimp only
        refine O.seq ?_
        refine O.zR u fun K w=>?_
        iterate 3 (refine wC rfl fun K r=>?_;simp [q];apply r)
        apply wN;apply w
        rcases aA d0 with ⟨k6,d0⟩ | ⟨k7,d0⟩
        ·refine O.cT' (by simp) k6 ?_
         refine O.skip ?_
         refine O.seq ?_
         refine O.block ?_
         refine O.seq ?_
         obtain ⟨l3,k8,d0⟩:=bS d0
         obtain ⟨d7,d8,d9,e0⟩:=gS k8
         obtain ⟨l4,k9,d0⟩:=bS d0
         obtain ⟨e1,e2,e3,e4⟩:=gS k9
         refine O.dT rfl (u _ rfl) [(113,.ref (.box 5) 3 []),(114,.t (.sl false 1 (List.map vi a6.Kids))),(115,.t (vi g6)),(116,.rop [vi l3] 0),(117,.t (vi l3)),(118,.ref (.box 5) 3 []),(119,.t (.sl false 1 (List.map vi a6.Kids))),(120,.t (vi m5)),(121,.rop [vi l4] 0),(122,.t (vi l4))] [[],[0],[],[0,1,2],[0,1,2,3],[],[5],[],[5,6,7],[5,6,7,8],[0,1,2,3,4,5,6,7,8,9]] (by simp) (by simp) (by simp [look]) rfl rfl rfl ?_ fun K w=>?_
         ·refine ⟨?_,?_,?_,?_,?_,?_,?_,?_,?_,?_,trivial⟩
          all_goals (intro τ hbx hb hd hf K w;try simp [aH] at hd;simp [aH] at hf;first | (refine wC rfl fun K' z=>?_;simp [q,hbx,hb,hd,hf,d7,d8,d9,e0,e1,e2,e3,e4];exact z _ (wN (w _ (by simp [aH,hbx,d7,d8,d9,e0,e1,e2,e3,e4])))))
         refine wC rfl fun K r=>?_;simp [q,d7,d8,d9,e0,e1,e2,e3,e4];apply r
         apply wN;apply w
         rcases aA d0 with ⟨l0,d0⟩ | ⟨l1,d0⟩
         ·refine O.cT' (by simp) l0 ?_
          refine O.zR u fun K w=>?_
          refine wC rfl fun K r=>?_;simp [q];apply r
          apply wN;apply w
          have m6:=congrArg some (i0 _ (Option.some.inj d0).symm)
          cases m6
          try dsimp only at d3
          have m7:=congrArg some (h0 _ (Option.some.inj d3).symm)
          cases m7
          try dsimp only at h
          cases h
          refine O.ret ?_
          simp [aC,iB,aC7]
         ·refine O.cF' (by simp) l1 ?_
          refine O.skip ?_
          refine O.zG u fun K w=>?_
          iterate 3 (refine wC rfl fun K r=>?_;simp [q];apply r)
          apply wN;apply w
          cases d0
          exact ⟨_,[],rfl,by simp [q]⟩
        ·refine O.cF' (by simp) k7 ?_
         refine O.exit ?_
         have m8:=congrArg some (i0 _ (Option.some.inj d0).symm)
         cases m8
         exact j9 _ _ [] rfl (by simp [q])
      subst hv
      obtain ⟨⟩:=v
      try dsimp only at d3 ⊢
      refine O.zG u fun K w=>?_
      iterate 3 (refine wC rfl fun K r=>?_;simp [q];apply r)
      apply wN;apply w
      cases d3
      exact ⟨_,[],rfl,by simp [q]⟩
     ·refine O.cF' (by simp) j8 ?_
      refine O.exit ?_
      have m9:=congrArg some (h0 _ (Option.some.inj d3).symm)
      cases m9
      exact j6 _ _ [] rfl (by simp [q])
    subst hv
    obtain ⟨⟩:=v
    try dsimp only at h ⊢
    refine O.zR u fun K w=>?_
    refine wC rfl fun K r=>?_;simp [q];apply r
    apply wN;apply w
    cases h
    refine O.ret ?_
    simp [aC,iB,aC7]
theorem res77:Tryz.f77.results.toList=[.tmp 4]:=rfl
theorem ent77:aE E.P 77:=eO Tryz.func77 (by simp [Tryz.f77]) rfl
theorem pW (a0:List GNode) (k2:Int) {r0:List Int} (h:gX a0 k2=some r0):Ok E 77 [.val (.sl false 4 (List.map (GNode.enc false) a0)),.val (vi k2)] [.sl true 1 (List.map vi r0)] []:=by
 refine oB Tryz.func77 rfl (by simp [Tryz.f77]) fun C (q:C.N=84) hP=>?_
 have y:=aK hP
 unfold gX at h
 refine O.zR y fun K u=>?_
 refine wC rfl fun K w=>?_;simp [q];apply w
 apply wN;apply u
 refine O.zR y fun K u=>?_
 iterate 2 (refine wC rfl fun K w=>?_;simp [q];apply w)
 apply wN;apply u
 obtain ⟨g8,l0,h⟩:=bS h
 refine O.seqC [5] [] (fun _:Unit=>⟨[(5,.t (.sl true 1 (List.map vi g8)))],[]⟩) (fun _=>True) (fun _ _=>?_) fun K4 l1=>?_
 rotate_left
 ·refine O.zR y fun K u=>?_
  refine wC rfl fun K w=>?_;simp [q];apply w
  apply wN;apply u
  refine O.block ?_
  refine O.loopO [] [0,1,5,6] [] (fun v:(List Int) × Int=>⟨[(0,.t (.sl false 4 (List.map (GNode.enc false) a0))),(1,.t (vi k2)),(5,.t (.sl true 1 (List.map vi v.1))),(6,.t (vi v.2))],[]⟩) (dY a0 k2) _ ([],0) l0 (by simp [q]) ?_
  intro g m0 h8 l2
  obtain ⟨a4,i7⟩:=g
  simp only [dY] at h8
  try dsimp only
  refine O.seq ?_
  obtain ⟨l3,b5,h8⟩:=bS h8
  refine O.seqRC rfl (y _ rfl) [0,1,5,6,18] [] (fun _:Unit=>⟨[(0,.t (.sl false 4 (List.map (GNode.enc false) a0))),(1,.t (vi k2)),(5,.t (.sl true 1 (List.map vi a4))),(6,.t (vi i7)),(18,.t (vb l3))],[]⟩) (fun _=>True) (fun _ _=>?_) fun m1 g9=>?_
  rotate_left
  ·refine wC rfl fun K w=>?_;simp [q];apply w
   iterate 3 (refine wC rfl fun K w=>?_;simp [q];apply w)
   rcases aA b5 with ⟨g4,b5⟩ | ⟨d2,b5⟩
   ·have b6:=g4
    try simp at b6
    iterate 5 (refine wC rfl fun K w=>?_;simp [q,g4,b6];apply w)
    refine wN ?_
    cases b5
    exact g9 _ () [] trivial (by simp [q,g4,b6])
   ·have a9:=d2
    try simp at a9
    iterate 4 (refine wO fun K w=>?_;simp [q,d2,a9];apply w)
    refine wC rfl fun K w=>?_;simp [q,d2,a9];apply w
    refine wN ?_
    cases b5
    exact g9 _ () [] trivial (by simp [q,d2,a9])
  rcases aA h8 with ⟨i4,h8⟩ | ⟨i5,h8⟩
  ·refine O.cT' (by simp) i4 ?_
   refine O.skip ?_
   obtain ⟨h0,a5,h8⟩:=bS h8
   refine O.seqC [0,1,5,6] [] (fun _:Unit=>⟨[(0,.t (.sl false 4 (List.map (GNode.enc false) a0))),(1,.t (vi k2)),(5,.t (.sl true 1 (List.map vi h0))),(6,.t (vi i7))],[]⟩) (fun _=>True) (fun _ _=>?_) fun m2 i6=>?_
   rotate_left
   ·refine O.block ?_
    refine O.zR y fun K u=>?_
    refine wC rfl fun K w=>?_;simp [q];apply w
    apply wN;apply u
    obtain ⟨b7,a7,a5⟩:=bS a5
    refine O.seqC [0,1,5,6,7] [] (fun _:Unit=>⟨[(0,.t (.sl false 4 (List.map (GNode.enc false) a0))),(1,.t (vi k2)),(5,.t (.sl true 1 (List.map vi a4))),(6,.t (vi i7)),(7,.t (vi b7))],[]⟩) (fun _=>True) (fun _ _=>?_) fun m3 h1=>?_
    rotate_left
    ·obtain ⟨l4,a1,a7⟩:=bS a7
     refine O.seqRC rfl (y _ rfl) [0,1,5,6,7,36] [] (fun _:Unit=>⟨[(0,.t (.sl false 4 (List.map (GNode.enc false) a0))),(1,.t (vi k2)),(5,.t (.sl true 1 (List.map vi a4))),(6,.t (vi i7)),(7,.t (vi 1)),(36,.t (vb l4))],[]⟩) (fun _=>True) (fun _ _=>?_) fun m4 g5=>?_
     rotate_left
     ·refine wC rfl fun K w=>?_;simp [q];apply w
      refine wC rfl fun K w=>?_;simp [q];apply w
      obtain ⟨m5,i8,a1⟩:=bS a1
      refine wL [(.take,.tmp 21),(.take,.tmp 22)] rfl rfl ent101 (aB3 _ _ i8) fun K w=>?_;simp [q];apply w
      iterate 2 (refine wC rfl fun K w=>?_;simp [q];apply w)
      rcases aA a1 with ⟨d3,a1⟩ | ⟨a6,a1⟩
      ·have b0:=d3
       try simp at b0
       iterate 10 (refine wO fun K w=>?_;simp [q,d3,b0];apply w)
       refine wC rfl fun K w=>?_;simp [q,d3,b0];apply w
       refine wN ?_
       cases a1
       exact g5 _ () [] trivial (by simp [q,d3,b0])
      ·have a2:=a6
       try simp at a2
       iterate 3 (refine wC rfl fun K w=>?_;simp [q,a6,a2];apply w)
       rcases aA a1 with ⟨d4,a1⟩ | ⟨d5,a1⟩
       ·have b1:=d4
        try simp at b1
        iterate 3 (refine wC rfl fun K w=>?_;simp [q,a6,a2,d4,b1];apply w)
        obtain ⟨m6,i9,a1⟩:=bS a1
        obtain ⟨d8,b8,b9,c0⟩:=gS i9
        have c1:=b8;try simp at c1
        try simp only [Int.toNat_natCast] at b9 c0
        iterate 5 (refine wC rfl fun K w=>?_;simp [q,a6,a2,d4,b1,d8,b8,b9,c0,c1];apply w)
        refine wN ?_
        cases a1
        exact g5 _ () [] trivial (by simp [q,a6,a2,d4,b1,d8,b8,b9,c0,c1])
       ·have b2:=d5
        try simp at b2
        iterate 6 (refine wO fun K w=>?_;simp [q,a6,a2,d5,b2];apply w)
        iterate 2 (refine wC rfl fun K w=>?_;simp [q,a6,a2,d5,b2];apply w)
        refine wN ?_
        cases a1
        exact g5 _ () [] trivial (by simp [q,a6,a2,d5,b2])
     rcases aA a7 with ⟨j0,a7⟩ | ⟨j1,a7⟩
     ·refine O.cT' (by simp) j0 ?_
      refine O.zG y fun K u=>?_
      refine wC rfl fun K w=>?_;simp [q];apply w
      apply wN;apply u
      cases a7
      exact h1 _ () [] trivial (by simp [q])
     ·refine O.cF' (by simp) j1 ?_
      refine O.skip ?_
      cases a7
      exact h1 _ () [] trivial (by simp [q])
    obtain ⟨g6,j2,a5⟩:=bS a5
    refine O.seqC [0,1,5,6,7] [] (fun _:Unit=>⟨[(0,.t (.sl false 4 (List.map (GNode.enc false) a0))),(1,.t (vi k2)),(5,.t (.sl true 1 (List.map vi a4))),(6,.t (vi i7)),(7,.t (vi g6))],[]⟩) (fun _=>True) (fun _ _=>?_) fun m7 j3=>?_
    rotate_left
    ·refine O.zR y fun K u=>?_
     refine wC rfl fun K w=>?_;simp [q];apply w
     apply wN;apply u
     refine O.block ?_
     refine O.loopO [] [0,1,5,6,7,8] [] (fun v:Int × Int=>⟨[(0,.t (.sl false 4 (List.map (GNode.enc false) a0))),(1,.t (vi k2)),(5,.t (.sl true 1 (List.map vi a4))),(6,.t (vi i7)),(7,.t (vi v.1)),(8,.t (vi v.2))],[]⟩) (bG a0 a4 i7) _ (b7,0) j2 (by simp [q]) ?_
     intro g m8 a3 j4
     obtain ⟨g7,l5⟩:=g
     simp only [bG] at a3
     try dsimp only
     refine O.seq ?_
     obtain ⟨l6,a8,a3⟩:=bS a3
     refine O.seqRC rfl (y _ rfl) [0,1,5,6,7,8,48] [] (fun _:Unit=>⟨[(0,.t (.sl false 4 (List.map (GNode.enc false) a0))),(1,.t (vi k2)),(5,.t (.sl true 1 (List.map vi a4))),(6,.t (vi i7)),(7,.t (vi g7)),(8,.t (vi l5)),(48,.t (vb l6))],[]⟩) (fun _=>True) (fun _ _=>?_) fun m9 h2=>?_
     rotate_left
     ·refine wC rfl fun K w=>?_;simp [q];apply w
      iterate 2 (refine wC rfl fun K w=>?_;simp [q];apply w)
      rcases aA a8 with ⟨d6,a8⟩ | ⟨d7,a8⟩
      ·have b3:=d6
       try simp at b3
       iterate 3 (refine wC rfl fun K w=>?_;simp [q,d6,b3];apply w)
       obtain ⟨n0,j5,a8⟩:=bS a8
       obtain ⟨d9,e0,e1,e2⟩:=gS j5
       iterate 6 (refine wC rfl fun K w=>?_;simp [q,d6,b3,d9,e0,e1,e2];apply w)
       refine wN ?_
       cases a8
       exact h2 _ () [] trivial (by simp [q,d6,b3,d9,e0,e1,e2])
      ·have b4:=d7
       try simp at b4
       iterate 8 (refine wO fun K w=>?_;simp [q,d7,b4];apply w)
       refine wC rfl fun K w=>?_;simp [q,d7,b4];apply w
       refine wN ?_
       cases a8
       exact h2 _ () [] trivial (by simp [q,d7,b4])
     rcases aA a3 with ⟨j6,a3⟩ | ⟨j7,a3⟩
     ·refine O.cT' (by simp) j6 ?_
      refine O.skip ?_
      refine O.seq ?_
      refine O.block ?_
      refine O.zR y fun K u=>?_
      iterate 3 (refine wC rfl fun K w=>?_;simp [q];apply w)
      obtain ⟨n1,j8,a3⟩:=bS a3
      obtain ⟨c2,c3,c4,c5⟩:=gS j8
      iterate 4 (refine wC rfl fun K w=>?_;simp [q,c2,c3,c4,c5];apply w)
      obtain ⟨n2,j9,a3⟩:=bS a3
      obtain ⟨e3,e4,e5,e6⟩:=gS j9
      iterate 2 (refine wC rfl fun K w=>?_;simp [q,c2,c3,c4,c5,e3,e4,e5,e6];apply w)
      obtain ⟨n3,k0,a3⟩:=bS a3
      obtain ⟨h3,h4,h5,h6⟩:=gS k0
      iterate 5 (refine wC rfl fun K w=>?_;simp [q,c2,c3,c4,c5,e3,e4,e5,e6,h3,h4,h5,h6];apply w)
      apply wN;apply u
      rcases aA a3 with ⟨k1,a3⟩ | ⟨k3,a3⟩
      ·refine O.cT' (by simp) k1 ?_
       refine O.zG y fun K u=>?_
       iterate 3 (refine wC rfl fun K w=>?_;simp [q];apply w)
       obtain ⟨n4,k4,a3⟩:=bS a3
       obtain ⟨c6,c7,c8,c9⟩:=gS k4
       iterate 4 (refine wC rfl fun K w=>?_;simp [q,c6,c7,c8,c9];apply w)
       obtain ⟨n5,k5,a3⟩:=bS a3
       obtain ⟨e7,e8,e9,g0⟩:=gS k5
       iterate 2 (refine wC rfl fun K w=>?_;simp [q,c6,c7,c8,c9,e7,e8,e9,g0];apply w)
       obtain ⟨n6,k6,a3⟩:=bS a3
       obtain ⟨h7,h9,i0,i1⟩:=gS k6
       iterate 4 (refine wC rfl fun K w=>?_;simp [q,c6,c7,c8,c9,e7,e8,e9,g0,h7,h9,i0,i1];apply w)
       apply wN;apply u
       refine O.zG y fun K u=>?_
       iterate 3 (refine wC rfl fun K w=>?_;simp [q];apply w)
       apply wN;apply u
       cases a3
       exact ⟨_,[],rfl,by simp [q]⟩
      ·refine O.cF' (by simp) k3 ?_
       refine O.skip ?_
       refine O.zG y fun K u=>?_
       iterate 3 (refine wC rfl fun K w=>?_;simp [q];apply w)
       apply wN;apply u
       cases a3
       exact ⟨_,[],rfl,by simp [q]⟩
     ·refine O.cF' (by simp) j7 ?_
      refine O.exit ?_
      have l7:=congrArg some (j4 _ (Option.some.inj a3).symm)
      cases l7
      exact j3 _ () [] trivial (by simp [q])
    obtain ⟨d0,d1,a5⟩:=bS a5
    refine O.seqC [0,1,5,6,7] [] (fun _:Unit=>⟨[(0,.t (.sl false 4 (List.map (GNode.enc false) a0))),(1,.t (vi k2)),(5,.t (.sl true 1 (List.map vi a4))),(6,.t (vi i7)),(7,.t (vi d0))],[]⟩) (fun _=>True) (fun _ _=>?_) fun n7 i2=>?_
    rotate_left
    ·refine O.zR y fun K u=>?_
     iterate 2 (refine wC rfl fun K w=>?_;simp [q];apply w)
     apply wN;apply u
     rcases aA d1 with ⟨k7,d1⟩ | ⟨k8,d1⟩
     ·refine O.cT' (by simp) k7 ?_
      refine O.zG y fun K u=>?_
      refine wC rfl fun K w=>?_;simp [q];apply w
      apply wN;apply u
      cases d1
      exact i2 _ () [] trivial (by simp [q])
     ·refine O.cF' (by simp) k8 ?_
      refine O.skip ?_
      cases d1
      exact i2 _ () [] trivial (by simp [q])
    refine O.zG y fun K u=>?_
    iterate 3 (refine wC rfl fun K w=>?_;simp [q];apply w)
    obtain ⟨l8,k9,a5⟩:=bS a5
    obtain ⟨g1,g2,i3⟩:=aS k9
    have g3:List.map vi a4 ++ List.map vi [d0]=List.map vi l8:=dW (f:=vi) i3
    simp [eSl] at g1 g2 g3
    iterate 2 (refine wC rfl fun K w=>?_;simp [q,g1,g2,g3];apply w)
    apply wN;apply u
    cases a5
    exact i6 _ () [] trivial (by simp [q])
   refine O.zG y fun K u=>?_
   iterate 3 (refine wC rfl fun K w=>?_;simp [q];apply w)
   apply wN;apply u
   cases h8
   exact ⟨_,[],rfl,by simp [q]⟩
  ·refine O.cF' (by simp) i5 ?_
   refine O.exit ?_
   have l9:=congrArg some (l2 _ (Option.some.inj h8).symm)
   cases l9
   exact l1 _ () [] trivial (by simp [q])
 refine O.zR y fun K u=>?_
 iterate 2 (refine wC rfl fun K w=>?_;simp [q];apply w)
 apply wN;apply u
 cases h
 refine O.ret ?_
 simp [aC,iB,res77]
theorem res78:Tryz.f78.results.toList=[.tmp 2]:=rfl
theorem ent78:aE E.P 78:=eO Tryz.func78 (by simp [Tryz.f78]) rfl
theorem yW (a0:List GNode) {r0:List Int} (h:kT a0=some r0):Ok E 78 [.val (.sl false 4 (List.map (GNode.enc false) a0))] [.sl true 1 (List.map vi r0)] []:=by
 refine oB Tryz.func78 rfl (by simp [Tryz.f78]) fun C (q:C.N=39) hP=>?_
 have y:=aK hP
 unfold kT at h
 refine O.zR y fun K u=>?_
 refine wC rfl fun K w=>?_;simp [q];apply w
 apply wN;apply u
 refine O.zR y fun K u=>?_
 iterate 2 (refine wC rfl fun K w=>?_;simp [q];apply w)
 obtain ⟨l2,e0,h⟩:=bS h
 obtain ⟨c3,c4,c5,c6⟩:=mS e0
 have b5:List.replicate (a0.length:Int).toNat (vi 0)=List.map vi l2:=tH (f:=vi) c6
 try simp only [Int.toNat_natCast] at b5
 iterate 2 (refine wC rfl fun K w=>?_;simp [q,c3,c4,c5,b5];apply w)
 apply wN;apply u
 obtain ⟨b6,e1,h⟩:=bS h
 refine O.seqC [3] [] (fun _:Unit=>⟨[(3,.t (.sl true 1 (List.map vi b6)))],[]⟩) (fun _=>True) (fun _ _=>?_) fun K4 e2=>?_
 rotate_left
 ·refine O.zR y fun K u=>?_
  refine wC rfl fun K w=>?_;simp [q];apply w
  apply wN;apply u
  refine O.block ?_
  refine O.loopO [] [0,3,4] [] (fun v:(List Int) × Int=>⟨[(0,.t (.sl false 4 (List.map (GNode.enc false) a0))),(3,.t (.sl true 1 (List.map vi v.1))),(4,.t (vi v.2))],[]⟩) (eQ a0) _ (l2,0) e1 (by simp [q]) ?_
  intro g e9 h8 e3
  obtain ⟨c7,i7⟩:=g
  simp only [eQ] at h8
  try dsimp only
  refine O.seq ?_
  refine O.zR y fun K u=>?_
  iterate 4 (refine wC rfl fun K w=>?_;simp [q];apply w)
  apply wN;apply u
  rcases aA h8 with ⟨c8,h8⟩ | ⟨c9,h8⟩
  ·refine O.cT' (by simp) c8 ?_
   refine O.skip ?_
   obtain ⟨b7,d0,h8⟩:=bS h8
   refine O.seqC [0,3,4] [] (fun _:Unit=>⟨[(0,.t (.sl false 4 (List.map (GNode.enc false) a0))),(3,.t (.sl true 1 (List.map vi b7))),(4,.t (vi i7))],[]⟩) (fun _=>True) (fun _ _=>?_) fun g0 d1=>?_
   rotate_left
   ·refine O.block ?_
    refine O.zR y fun K u=>?_
    refine wC rfl fun K w=>?_;simp [q];apply w
    apply wN;apply u
    refine O.block ?_
    refine O.loopO [] [0,3,4,5] [] (fun v:(List Int) × Int=>⟨[(0,.t (.sl false 4 (List.map (GNode.enc false) a0))),(3,.t (.sl true 1 (List.map vi v.1))),(4,.t (vi i7)),(5,.t (vi v.2))],[]⟩) (eP a0 i7) _ (c7,0) d0 (by simp [q]) ?_
    intro g g1 a1 d2
    obtain ⟨b8,g2⟩:=g
    simp only [eP] at a1
    try dsimp only
    refine O.seq ?_
    refine O.zR y fun K u=>?_
    iterate 3 (refine wC rfl fun K w=>?_;simp [q];apply w)
    obtain ⟨g3,d3,a1⟩:=bS a1
    obtain ⟨b9,c0,c1,c2⟩:=gS d3
    iterate 5 (refine wC rfl fun K w=>?_;simp [q,b9,c0,c1,c2];apply w)
    apply wN;apply u
    rcases aA a1 with ⟨d4,a1⟩ | ⟨d5,a1⟩
    ·refine O.cT' (by simp) d4 ?_
     refine O.skip ?_
     refine O.seq ?_
     refine O.block ?_
     refine O.zG y fun K u=>?_
     iterate 3 (refine wC rfl fun K w=>?_;simp [q];apply w)
     obtain ⟨g4,d6,a1⟩:=bS a1
     obtain ⟨a2,a3,a4,a5⟩:=gS d6
     iterate 4 (refine wC rfl fun K w=>?_;simp [q,a2,a3,a4,a5];apply w)
     obtain ⟨e4,d7,a1⟩:=bS a1
     obtain ⟨a6,a7,a8,a9⟩:=gS d7
     iterate 2 (refine wC rfl fun K w=>?_;simp [q,a2,a3,a4,a5,a6,a7,a8,a9];apply w)
     obtain ⟨e5,d8,a1⟩:=bS a1
     obtain ⟨b0,b1,b2,b3⟩:=gS d8
     iterate 4 (refine wC rfl fun K w=>?_;simp [q,a2,a3,a4,a5,a6,a7,a8,a9,b0,b1,b2,b3];apply w)
     obtain ⟨e6,d9,a1⟩:=bZ a1
     have b4:(List.map vi b8).set e4.toNat (vi (IntKind.wrap .i64 (e5 + 1)))=List.map vi e6:=fH (f:=vi) d9
     try simp only [Int.toNat_natCast] at b4
     refine wC rfl fun K w=>?_;simp [q,a2,a3,a4,a5,a6,a7,a8,a9,b0,b1,b2,b3,b4];apply w
     apply wN;apply u
     refine O.zG y fun K u=>?_
     iterate 3 (refine wC rfl fun K w=>?_;simp [q];apply w)
     apply wN;apply u
     cases a1
     exact ⟨_,[],rfl,by simp [q]⟩
    ·refine O.cF' (by simp) d5 ?_
     refine O.exit ?_
     have e7:=congrArg some (d2 _ (Option.some.inj a1).symm)
     cases e7
     exact d1 _ () [] trivial (by simp [q])
   refine O.zG y fun K u=>?_
   iterate 3 (refine wC rfl fun K w=>?_;simp [q];apply w)
   apply wN;apply u
   cases h8
   exact ⟨_,[],rfl,by simp [q]⟩
  ·refine O.cF' (by simp) c9 ?_
   refine O.exit ?_
   have e8:=congrArg some (e3 _ (Option.some.inj h8).symm)
   cases e8
   exact e2 _ () [] trivial (by simp [q])
 refine O.zR y fun K u=>?_
 iterate 2 (refine wC rfl fun K w=>?_;simp [q];apply w)
 apply wN;apply u
 cases h
 refine O.ret ?_
 simp [aC,iB,res78]
theorem res38:Tryz.f38.results.toList=[.tmp 4]:=rfl
theorem aPp:aE E.P 38:=eO Tryz.func38 (by simp [Tryz.f38]) rfl
theorem qU (p1:GProgram) (a0:ByteArray) {r0:Int} (h:oM p1 a0=some r0):Ok E 38 [.val (GProgram.enc false p1),.val (vs a0)] [vi r0] []:=by
 refine oB Tryz.func38 rfl (by simp [Tryz.f38]) fun C (q:C.N=22) hP=>?_
 have u:=aK hP
 unfold oM at h
 refine O.zR u fun K w=>?_
 iterate 2 (refine wC rfl fun K z=>?_;simp [q];apply z)
 apply wN;apply w
 obtain ⟨j5,b1,h⟩:=bS h
 refine O.seqC [] [] (fun v:Unit=>⟨[],[]⟩) (fun v=>j5=Sum.inl v) (fun v hv=>?_) fun K4 b2=>?_
 rotate_left
 ·refine O.zR u fun K w=>?_
  refine wC rfl fun K z=>?_;simp [q];apply z
  apply wN;apply w
  refine O.block ?_
  refine O.loopO [] [1,2,5] [2] (fun v:Int=>⟨[(1,.t (vs a0)),(2,.ref (.box 2) 0 []),(5,.t (vi v))],[(2,[.sl false 4 (List.map (GNode.enc false) p1.Nodes),.sl false 5 (List.map (GFn.enc false) p1.Fns)])]⟩) (qV p1 a0) _ 0 b1 (by simp [q]) ?_
  intro g s9 h7 b0
  obtain ⟨i6,hg⟩:∃ y,y=g:=⟨_,rfl⟩
  subst hg
  simp only [qV] at h7
  try dsimp only
  refine O.seq ?_
  refine O.zR u fun K w=>?_
  iterate 5 (refine wC rfl fun K z=>?_;simp [q];apply z)
  apply wN;apply w
  rcases aA h7 with ⟨a5,h7⟩ | ⟨a6,h7⟩
  ·refine O.cT' (by simp) a5 ?_
   refine O.skip ?_
   refine O.seq ?_
   refine O.block ?_
   refine O.zR u fun K w=>?_
   iterate 3 (refine wC rfl fun K z=>?_;simp [q];apply z)
   obtain ⟨b5,a7,h7⟩:=bS h7
   obtain ⟨a1,a2,a3,a4⟩:=gS a7
   iterate 5 (refine wC rfl fun K z=>?_;simp [q,a1,a2,a3,a4];apply z)
   apply wN;apply w
   rcases aA h7 with ⟨a8,h7⟩ | ⟨a9,h7⟩
   ·refine O.cT' (by simp) a8 ?_
    refine O.zR u fun K w=>?_
    iterate 2 (refine wC rfl fun K z=>?_;simp [q];apply z)
    apply wN;apply w
    have b3:=congrArg some (b0 _ (Option.some.inj h7).symm)
    cases b3
    try dsimp only at h
    cases h
    refine O.ret ?_
    simp [aC,iB,res38]
   ·refine O.cF' (by simp) a9 ?_
    refine O.skip ?_
    refine O.zG u fun K w=>?_
    iterate 3 (refine wC rfl fun K z=>?_;simp [q];apply z)
    apply wN;apply w
    cases h7
    exact ⟨_,[],rfl,by simp [q]⟩
  ·refine O.cF' (by simp) a6 ?_
   refine O.exit ?_
   have b4:=congrArg some (b0 _ (Option.some.inj h7).symm)
   cases b4
   exact b2 _ _ [] rfl (by simp [q])
 subst hv
 obtain ⟨⟩:=v
 try dsimp only at h ⊢
 refine O.zR u fun K w=>?_
 refine wC rfl fun K z=>?_;simp [q];apply z
 apply wN;apply w
 cases h
 refine O.ret ?_
 simp [aC,iB,res38]
theorem aKw:Tryz.f79.results.toList=[.tmp 4]:=rfl
theorem ent79:aE E.P 79:=eO Tryz.func79 (by simp [Tryz.f79]) rfl
theorem aD3 (p1:GProgram) (i2:Int) {r0:Bool} (h:oH p1 i2=some r0):Ok E 79 [.val (GProgram.enc false p1),.val (vi i2)] [vb r0] []:=by
 refine oB Tryz.func79 rfl (by simp [Tryz.f79]) fun C (q:C.N=102) hP=>?_
 have u:=aK hP
 unfold oH at h
 refine O.zR u fun K w=>?_
 iterate 2 (refine wC rfl fun K z=>?_;simp [q];apply z)
 apply wN;apply w
 refine O.zR u fun K w=>?_
 iterate 3 (refine wC rfl fun K z=>?_;simp [q];apply z)
 obtain ⟨e3,i6,h⟩:=bS h
 obtain ⟨e9,g0,g1,g2⟩:=gS i6
 iterate 4 (refine wC rfl fun K z=>?_;simp [q,e9,g0,g1,g2];apply z)
 apply wN;apply w
 refine O.seq ?_
 obtain ⟨i7,b0,h⟩:=bS h
 refine O.seqRC rfl (u _ rfl) [2,5,35] [2,5] (fun _:Unit=>⟨[(2,.ref (.box 2) 0 []),(5,.ref (.box 5) 0 []),(35,.t (vb i7))],[(2,[.sl false 4 (List.map (GNode.enc false) p1.Nodes),.sl false 5 (List.map (GFn.enc false) p1.Fns)]),(5,[vs e3.Name,.sl false 2 (List.map GParam.enc e3.Params),vi e3.Res,vi e3.Body,vi e3.Ret])]⟩) (fun _=>True) (fun _ _=>?_) fun K5 e8=>?_
 rotate_left
 ·refine wC rfl fun K z=>?_;simp [q];apply z
  refine wC rfl fun K z=>?_;simp [q];apply z
  obtain ⟨r6,i8,b0⟩:=bS b0
  refine wL [(.take,.tmp 13)] rfl rfl aLv (nS _ i8) fun K z=>?_;simp [q];apply z
  iterate 2 (refine wC rfl fun K z=>?_;simp [q];apply z)
  rcases aA b0 with ⟨e1,b0⟩ | ⟨b3,b0⟩
  ·have b4:=e1
   try simp at b4
   iterate 6 (refine wO fun K z=>?_;simp [q,e1,b4];apply z)
   iterate 2 (refine wC rfl fun K z=>?_;simp [q,e1,b4];apply z)
   iterate 4 (refine wO fun K z=>?_;simp [q,e1,b4];apply z)
   iterate 2 (refine wC rfl fun K z=>?_;simp [q,e1,b4];apply z)
   iterate 4 (refine wO fun K z=>?_;simp [q,e1,b4];apply z)
   refine wC rfl fun K z=>?_;simp [q,e1,b4];apply z
   refine wN ?_
   cases b0
   exact e8 _ () [] trivial (by simp [q,e1,b4])
  ·have a0:=b3
   try simp at a0
   iterate 3 (refine wC rfl fun K z=>?_;simp [q,b3,a0];apply z)
   obtain ⟨j6,g3,b0⟩:=bS b0
   refine wL [(.take,.tmp 17),(.take,.tmp 19)] rfl rfl aPp (qU _ _ g3) fun K z=>?_;simp [q,b3,a0];apply z
   iterate 4 (refine wC rfl fun K z=>?_;simp [q,b3,a0];apply z)
   rcases aA b0 with ⟨c7,b0⟩ | ⟨b1,b0⟩
   ·have a8:=c7
    try simp at a8
    iterate 4 (refine wO fun K z=>?_;simp [q,b3,a0,c7,a8];apply z)
    iterate 2 (refine wC rfl fun K z=>?_;simp [q,b3,a0,c7,a8];apply z)
    iterate 4 (refine wO fun K z=>?_;simp [q,b3,a0,c7,a8];apply z)
    refine wC rfl fun K z=>?_;simp [q,b3,a0,c7,a8];apply z
    refine wN ?_
    cases b0
    exact e8 _ () [] trivial (by simp [q,b3,a0,c7,a8])
   ·have a5:=b1
    try simp at a5
    iterate 6 (refine wC rfl fun K z=>?_;simp [q,b3,a0,b1,a5];apply z)
    rcases aA b0 with ⟨d6,b0⟩ | ⟨d0,b0⟩
    ·have c1:=d6
     try simp at c1
     iterate 4 (refine wO fun K z=>?_;simp [q,b3,a0,b1,a5,d6,c1];apply z)
     refine wC rfl fun K z=>?_;simp [q,b3,a0,b1,a5,d6,c1];apply z
     refine wN ?_
     cases b0
     exact e8 _ () [] trivial (by simp [q,b3,a0,b1,a5,d6,c1])
    ·have b5:=d0
     try simp at b5
     iterate 2 (refine wC rfl fun K z=>?_;simp [q,b3,a0,b1,a5,d0,b5];apply z)
     obtain ⟨j7,g4,b0⟩:=bS b0
     refine wL [(.take,.tmp 32),(.take,.const (.int .i64 0)),(.take,.const (.int .i64 2))] rfl rfl qJ (aQ _ _ _ g4) fun K z=>?_;simp [q,b3,a0,b1,a5,d0,b5];apply z
     iterate 2 (refine wC rfl fun K z=>?_;simp [q,b3,a0,b1,a5,d0,b5];apply z)
     refine wN ?_
     cases b0
     exact e8 _ () [] trivial (by simp [q,b3,a0,b1,a5,d0,b5])
 rcases aA h with ⟨g5,h⟩ | ⟨g6,h⟩
 ·refine O.cT' (by simp) g5 ?_
  refine O.zR u fun K w=>?_
  refine wC rfl fun K z=>?_;simp [q];apply z
  apply wN;apply w
  cases h
  refine O.ret ?_
  simp [aC,iB,aKw]
 ·refine O.cF' (by simp) g6 ?_
  refine O.skip ?_
  obtain ⟨i9,g7,h⟩:=bS h
  refine O.seqC [2,5] [2,5] (fun v:Unit=>⟨[(2,.ref (.box 2) 0 []),(5,.ref (.box 5) 0 [])],[(2,[.sl false 4 (List.map (GNode.enc false) p1.Nodes),.sl false 5 (List.map (GFn.enc false) p1.Fns)]),(5,[vs e3.Name,.sl false 2 (List.map GParam.enc e3.Params),vi e3.Res,vi e3.Body,vi e3.Ret])]⟩) (fun v=>i9=Sum.inl v) (fun v hv=>?_) fun j8 g8=>?_
  rotate_left
  ·refine O.zR u fun K w=>?_
   refine wC rfl fun K z=>?_;simp [q];apply z
   apply wN;apply w
   refine O.block ?_
   refine O.loopO [] [2,5,6] [2,5] (fun v:Int=>⟨[(2,.ref (.box 2) 0 []),(5,.ref (.box 5) 0 []),(6,.t (vi v))],[(2,[.sl false 4 (List.map (GNode.enc false) p1.Nodes),.sl false 5 (List.map (GFn.enc false) p1.Fns)]),(5,[vs e3.Name,.sl false 2 (List.map GParam.enc e3.Params),vi e3.Res,vi e3.Body,vi e3.Ret])]⟩) (gW e3) _ 0 g7 (by simp [q]) ?_
   intro g j9 c9 e4
   obtain ⟨j0,hg⟩:∃ y,y=g:=⟨_,rfl⟩
   subst hg
   simp only [gW] at c9
   try dsimp only
   refine O.seq ?_
   refine O.zR u fun K w=>?_
   iterate 5 (refine wC rfl fun K z=>?_;simp [q];apply z)
   apply wN;apply w
   rcases aA c9 with ⟨g9,c9⟩ | ⟨h0,c9⟩
   ·refine O.cT' (by simp) g9 ?_
    refine O.skip ?_
    refine O.seq ?_
    refine O.block ?_
    obtain ⟨j1,a6,c9⟩:=bS c9
    refine O.seqRC rfl (u _ rfl) [2,5,6,60] [2,5] (fun _:Unit=>⟨[(2,.ref (.box 2) 0 []),(5,.ref (.box 5) 0 []),(6,.t (vi j0)),(60,.t (vb j1))],[(2,[.sl false 4 (List.map (GNode.enc false) p1.Nodes),.sl false 5 (List.map (GFn.enc false) p1.Fns)]),(5,[vs e3.Name,.sl false 2 (List.map GParam.enc e3.Params),vi e3.Res,vi e3.Body,vi e3.Ret])]⟩) (fun _=>True) (fun _ _=>?_) fun k0 e5=>?_
    rotate_left
    ·refine wC rfl fun K z=>?_;simp [q];apply z
     iterate 2 (refine wC rfl fun K z=>?_;simp [q];apply z)
     obtain ⟨k1,h1,a6⟩:=bS a6
     obtain ⟨a1,a2,a3,a4⟩:=gS h1
     iterate 3 (refine wC rfl fun K z=>?_;simp [q,a1,a2,a3,a4];apply z)
     obtain ⟨k2,h2,a6⟩:=bS a6
     refine wL [(.take,.tmp 48)] rfl rfl aLv (nS _ h2) fun K z=>?_;simp [q,a1,a2,a3,a4];apply z
     iterate 2 (refine wC rfl fun K z=>?_;simp [q,a1,a2,a3,a4];apply z)
     rcases aA a6 with ⟨d7,a6⟩ | ⟨d1,a6⟩
     ·have c2:=d7
      try simp at c2
      iterate 8 (refine wO fun K z=>?_;simp [q,a1,a2,a3,a4,d7,c2];apply z)
      refine wC rfl fun K z=>?_;simp [q,a1,a2,a3,a4,d7,c2];apply z
      refine wN ?_
      cases a6
      exact e5 _ () [] trivial (by simp [q,a1,a2,a3,a4,d7,c2])
     ·have b6:=d1
      try simp at b6
      iterate 6 (refine wC rfl fun K z=>?_;simp [q,a1,a2,a3,a4,d1,b6];apply z)
      obtain ⟨k3,h3,a6⟩:=bS a6
      refine wL [(.take,.tmp 57),(.take,.const (.int .i64 1)),(.take,.const (.int .i64 4))] rfl rfl qJ (aQ _ _ _ h3) fun K z=>?_;simp [q,a1,a2,a3,a4,d1,b6];apply z
      iterate 2 (refine wC rfl fun K z=>?_;simp [q,a1,a2,a3,a4,d1,b6];apply z)
      refine wN ?_
      cases a6
      exact e5 _ () [] trivial (by simp [q,a1,a2,a3,a4,d1,b6])
    rcases aA c9 with ⟨h4,c9⟩ | ⟨h5,c9⟩
    ·refine O.cT' (by simp) h4 ?_
     refine O.zR u fun K w=>?_
     refine wC rfl fun K z=>?_;simp [q];apply z
     apply wN;apply w
     have j2:=congrArg some (e4 _ (Option.some.inj c9).symm)
     cases j2
     try dsimp only at h
     cases h
     refine O.ret ?_
     simp [aC,iB,aKw]
    ·refine O.cF' (by simp) h5 ?_
     refine O.skip ?_
     refine O.zG u fun K w=>?_
     iterate 3 (refine wC rfl fun K z=>?_;simp [q];apply z)
     apply wN;apply w
     cases c9
     exact ⟨_,[],rfl,by simp [q]⟩
   ·refine O.cF' (by simp) h0 ?_
    refine O.exit ?_
    have j3:=congrArg some (e4 _ (Option.some.inj c9).symm)
    cases j3
    exact g8 _ _ [] rfl (by simp [q])
  subst hv
  obtain ⟨⟩:=v
  try dsimp only at h ⊢
  refine O.seq ?_
  obtain ⟨j4,b2,h⟩:=bS h
  refine O.seqRC rfl (u _ rfl) [2,5,78] [2,5] (fun _:Unit=>⟨[(2,.ref (.box 2) 0 []),(5,.ref (.box 5) 0 []),(78,.t (vb j4))],[(2,[.sl false 4 (List.map (GNode.enc false) p1.Nodes),.sl false 5 (List.map (GFn.enc false) p1.Fns)]),(5,[vs e3.Name,.sl false 2 (List.map GParam.enc e3.Params),vi e3.Res,vi e3.Body,vi e3.Ret])]⟩) (fun _=>True) (fun _ _=>?_) fun k4 e6=>?_
  rotate_left
  ·refine wC rfl fun K z=>?_;simp [q];apply z
   iterate 5 (refine wC rfl fun K z=>?_;simp [q];apply z)
   obtain ⟨k5,h6,b2⟩:=bS b2
   refine wL [(.take,.tmp 62),(.take,.const (.int .i64 0)),(.take,.tmp 66)] rfl rfl qJ (aQ _ _ _ h6) fun K z=>?_;simp [q];apply z
   iterate 2 (refine wC rfl fun K z=>?_;simp [q];apply z)
   rcases aA b2 with ⟨d8,b2⟩ | ⟨d9,b2⟩
   ·have c3:=d8
    try simp at c3
    iterate 8 (refine wO fun K z=>?_;simp [q,d8,c3];apply z)
    refine wC rfl fun K z=>?_;simp [q,d8,c3];apply z
    refine wN ?_
    cases b2
    exact e6 _ () [] trivial (by simp [q,d8,c3])
   ·have c4:=d9
    try simp at c4
    iterate 4 (refine wC rfl fun K z=>?_;simp [q,d9,c4];apply z)
    obtain ⟨k6,h7,b2⟩:=bS b2
    obtain ⟨e2,d2,d3,d4⟩:=gS h7
    have d5:=d2;try simp at d5
    try simp only [Int.toNat_natCast] at d3 d4
    iterate 5 (refine wC rfl fun K z=>?_;simp [q,d9,c4,e2,d2,d3,d4,d5];apply z)
    refine wN ?_
    cases b2
    exact e6 _ () [] trivial (by simp [q,d9,c4,e2,d2,d3,d4,d5])
  rcases aA h with ⟨h8,h⟩ | ⟨h9,h⟩
  ·refine O.cT' (by simp) h8 ?_
   refine O.zR u fun K w=>?_
   refine wC rfl fun K z=>?_;simp [q];apply z
   apply wN;apply w
   cases h
   refine O.ret ?_
   simp [aC,iB,aKw]
  ·refine O.cF' (by simp) h9 ?_
   refine O.skip ?_
   refine O.seq ?_
   refine O.zR u fun K w=>?_
   iterate 3 (refine wC rfl fun K z=>?_;simp [q];apply z)
   apply wN;apply w
   rcases aA h with ⟨i0,h⟩ | ⟨i1,h⟩
   ·refine O.cT' (by simp) i0 ?_
    refine O.zR u fun K w=>?_
    iterate 4 (refine wC rfl fun K z=>?_;simp [q];apply z)
    apply wN;apply w
    cases h
    refine O.ret ?_
    simp [aC,iB,aKw]
   ·refine O.cF' (by simp) i1 ?_
    refine O.skip ?_
    obtain ⟨j5,a7,h⟩:=bS h
    refine O.seqRC rfl (u _ rfl) [4] [] (fun _:Unit=>⟨[(4,.t (vb j5))],[]⟩) (fun _=>True) (fun _ _=>?_) fun k7 e7=>?_
    rotate_left
    ·refine wC rfl fun K z=>?_;simp [q];apply z
     iterate 5 (refine wC rfl fun K z=>?_;simp [q];apply z)
     obtain ⟨k8,i3,a7⟩:=bS a7
     refine wL [(.take,.tmp 86),(.take,.const (.int .i64 0)),(.take,.tmp 90)] rfl rfl qJ (aQ _ _ _ i3) fun K z=>?_;simp [q];apply z
     refine wC rfl fun K z=>?_;simp [q];apply z
     rcases aA a7 with ⟨c8,a7⟩ | ⟨e0,a7⟩
     ·have a9:=c8
      try simp at a9
      iterate 4 (refine wC rfl fun K z=>?_;simp [q,c8,a9];apply z)
      obtain ⟨k9,i4,a7⟩:=bS a7
      obtain ⟨c5,b7,b8,b9⟩:=gS i4
      have c0:=b7;try simp at c0
      try simp only [Int.toNat_natCast] at b8 b9
      iterate 3 (refine wC rfl fun K z=>?_;simp [q,c8,a9,c5,b7,b8,b9,c0];apply z)
      obtain ⟨l0,i5,a7⟩:=bS a7
      refine wL [(.take,.tmp 99)] rfl rfl aLu (lU _ i5) fun K z=>?_;simp [q,c8,a9,c5,b7,b8,b9,c0];apply z
      iterate 2 (refine wC rfl fun K z=>?_;simp [q,c8,a9,c5,b7,b8,b9,c0];apply z)
      refine wN ?_
      cases a7
      exact e7 _ () [] trivial (by simp [q,c8,a9,c5,b7,b8,b9,c0])
     ·have c6:=e0
      try simp at c6
      iterate 8 (refine wO fun K z=>?_;simp [q,e0,c6];apply z)
      iterate 2 (refine wC rfl fun K z=>?_;simp [q,e0,c6];apply z)
      refine wN ?_
      cases a7
      exact e7 _ () [] trivial (by simp [q,e0,c6])
    cases h
    refine O.ret ?_
    simp [aC,iB,aKw]
theorem aKz:Tryz.f45.results.toList=[.tmp 2]:=rfl
theorem ent45:aE E.P 45:=eO Tryz.func45 (by simp [Tryz.f45]) rfl
theorem vN (p1:GProgram) {r0:Bool} (h:iM p1=some r0):Ok E 45 [.val (GProgram.enc false p1)] [vb r0] []:=by
 refine oB Tryz.func45 rfl (by simp [Tryz.f45]) fun C (q:C.N=108) hP=>?_
 have u:=aK hP
 unfold iM at h
 refine O.zR u fun K w=>?_
 iterate 2 (refine wC rfl fun K r=>?_;simp [q];apply r)
 apply wN;apply w
 refine O.seq ?_
 obtain ⟨j7,d1,h⟩:=bS h
 refine O.seqRC rfl (u _ rfl) [1,18] [1] (fun _:Unit=>⟨[(1,.ref (.box 1) 0 []),(18,.t (vb j7))],[(1,[.sl false 4 (List.map (GNode.enc false) p1.Nodes),.sl false 5 (List.map (GFn.enc false) p1.Fns)])]⟩) (fun _=>True) (fun _ _=>?_) fun K3 j5=>?_
 rotate_left
 ·refine wC rfl fun K r=>?_;simp [q];apply r
  iterate 2 (refine wC rfl fun K r=>?_;simp [q];apply r)
  obtain ⟨r4,j8,d1⟩:=bS d1
  refine wL [(.take,.tmp 9),(.take,.const (.int .i64 1)),(.take,.const (.int .i64 300))] rfl rfl qJ (aQ _ _ _ j8) fun K r=>?_;simp [q];apply r
  iterate 2 (refine wC rfl fun K r=>?_;simp [q];apply r)
  rcases aA d1 with ⟨g1,d1⟩ | ⟨e2,d1⟩
  ·have d2:=g1
   try simp at d2
   iterate 5 (refine wO fun K r=>?_;simp [q,g1,d2];apply r)
   refine wC rfl fun K r=>?_;simp [q,g1,d2];apply r
   refine wN ?_
   cases d1
   exact j5 _ () [] trivial (by simp [q,g1,d2])
  ·have c9:=e2
   try simp at c9
   iterate 3 (refine wC rfl fun K r=>?_;simp [q,e2,c9];apply r)
   obtain ⟨r8,j9,d1⟩:=bS d1
   refine wL [(.take,.tmp 15),(.take,.const (.int .i64 1)),(.take,.const (.int .i64 8))] rfl rfl qJ (aQ _ _ _ j9) fun K r=>?_;simp [q,e2,c9];apply r
   iterate 2 (refine wC rfl fun K r=>?_;simp [q,e2,c9];apply r)
   refine wN ?_
   cases d1
   exact j5 _ () [] trivial (by simp [q,e2,c9])
 rcases aA h with ⟨g3,h⟩ | ⟨g4,h⟩
 ·refine O.cT' (by simp) g3 ?_
  refine O.zR u fun K w=>?_
  refine wC rfl fun K r=>?_;simp [q];apply r
  apply wN;apply w
  cases h
  refine O.ret ?_
  simp [aC,iB,aKz]
 ·refine O.cF' (by simp) g4 ?_
  refine O.skip ?_
  refine O.zR u fun K w=>?_
  iterate 6 (refine wC rfl fun K r=>?_;simp [q];apply r)
  obtain ⟨l0,g5,h⟩:=bS h
  refine wL [(.take,.tmp 20),(.take,.tmp 24)] rfl rfl ent77 (pW _ _ g5) fun K r=>?_;simp [q];apply r
  refine wC rfl fun K r=>?_;simp [q];apply r
  apply wN;apply w
  refine O.seq ?_
  refine O.zR u fun K w=>?_
  iterate 4 (refine wC rfl fun K r=>?_;simp [q];apply r)
  obtain ⟨l1,g6,h⟩:=bS h
  obtain ⟨e3,d4,d5,d6⟩:=gS g6
  have d7:=d4;try simp at d7
  try simp only [Int.toNat_natCast] at d5 d6
  iterate 3 (refine wC rfl fun K r=>?_;simp [q,e3,d4,d5,d6,d7];apply r)
  apply wN;apply w
  rcases aA h with ⟨g7,h⟩ | ⟨g8,h⟩
  ·refine O.cT' (by simp) g7 ?_
   refine O.zR u fun K w=>?_
   refine wC rfl fun K r=>?_;simp [q];apply r
   apply wN;apply w
   cases h
   refine O.ret ?_
   simp [aC,iB,aKz]
  ·refine O.cF' (by simp) g8 ?_
   refine O.skip ?_
   refine O.zR u fun K w=>?_
   iterate 2 (refine wC rfl fun K r=>?_;simp [q];apply r)
   obtain ⟨k0,g9,h⟩:=bS h
   refine wL [(.take,.tmp 34)] rfl rfl ent78 (yW _ g9) fun K r=>?_;simp [q];apply r
   refine wC rfl fun K r=>?_;simp [q];apply r
   apply wN;apply w
   obtain ⟨k1,h0,h⟩:=bS h
   refine O.seqC [4] [] (fun v:List Int=>⟨[(4,.t (.sl true 1 (List.map vi v)))],[]⟩) (fun v=>k1=Sum.inl v) (fun v hv=>?_) fun l2 h1=>?_
   rotate_left
   ·refine O.zR u fun K w=>?_
    refine wC rfl fun K r=>?_;simp [q];apply r
    apply wN;apply w
    refine O.block ?_
    refine O.loopO [] [1,4,5] [1] (fun v:(List Int) × Int=>⟨[(1,.ref (.box 1) 0 []),(4,.t (.sl true 1 (List.map vi v.1))),(5,.t (vi v.2))],[(1,[.sl false 4 (List.map (GNode.enc false) p1.Nodes),.sl false 5 (List.map (GFn.enc false) p1.Fns)])]⟩) (bL p1) _ (k0,0) h0 (by simp [q]) ?_
    intro g l3 a0 e4
    obtain ⟨e0,g2⟩:=g
    simp only [bL] at a0
    try dsimp only
    refine O.seq ?_
    refine O.zR u fun K w=>?_
    iterate 5 (refine wC rfl fun K r=>?_;simp [q];apply r)
    apply wN;apply w
    rcases aA a0 with ⟨h2,a0⟩ | ⟨h3,a0⟩
    ·refine O.cT' (by simp) h2 ?_
     refine O.skip ?_
     refine O.seq ?_
     refine O.block ?_
     refine O.seq ?_
     refine O.zR u fun K w=>?_
     iterate 2 (refine wC rfl fun K r=>?_;simp [q];apply r)
     obtain ⟨l4,h4,a0⟩:=bS a0
     refine wL [(.take,.tmp 43),(.take,.tmp 44)] rfl rfl ent79 (aD3 _ _ h4) fun K r=>?_;simp [q];apply r
     refine wC rfl fun K r=>?_;simp [q];apply r
     apply wN;apply w
     rcases aA a0 with ⟨h5,a0⟩ | ⟨h6,a0⟩
     ·refine O.cT' (by simp) h5 ?_
      refine O.zR u fun K w=>?_
      refine wC rfl fun K r=>?_;simp [q];apply r
      apply wN;apply w
      have k2:=congrArg some (e4 _ (Option.some.inj a0).symm)
      cases k2
      try dsimp only at h
      cases h
      refine O.ret ?_
      simp [aC,iB,aKz]
     ·refine O.cF' (by simp) h6 ?_
      refine O.skip ?_
      refine O.seq ?_
      obtain ⟨a1,h7,a0⟩:=bS a0
      obtain ⟨b7,b8,b9,c0⟩:=gS h7
      obtain ⟨h8,h9,a0⟩:=bS a0
      obtain ⟨c1,a7,a8,a9⟩:=gS h9
      have b0:=a7;try simp at b0
      try simp only [Int.toNat_natCast] at a8 a9
      refine O.dT rfl (u _ rfl) [(47,.al (.slot 4) 0 [] none),(48,.ref (.box 1) 1 []),(49,.t (.sl false 5 (List.map (GFn.enc false) p1.Fns))),(50,.t (vi g2)),(51,.rop [vs a1.Name,.sl false 2 (List.map GParam.enc a1.Params),vi a1.Res,vi a1.Body,vi a1.Ret] 0),(52,.rop [vs a1.Name,.sl false 2 (List.map GParam.enc a1.Params),vi a1.Res,vi a1.Body,vi a1.Ret] 3),(53,.t (vi a1.Body)),(54,.al (.slot 4) 0 [] none),(55,.ref (.box 1) 1 []),(56,.t (.sl false 5 (List.map (GFn.enc false) p1.Fns))),(57,.t (vi g2)),(58,.rop [vs a1.Name,.sl false 2 (List.map GParam.enc a1.Params),vi a1.Res,vi a1.Body,vi a1.Ret] 0),(59,.rop [vs a1.Name,.sl false 2 (List.map GParam.enc a1.Params),vi a1.Res,vi a1.Body,vi a1.Ret] 3),(60,.t (vi a1.Body)),(61,.ref (.slot 4) 0 [(a1.Body.toNat,0)]),(62,.t (vi h8)),(63,.t (vi (IntKind.wrap .i64 (h8 + 1000))))] [[],[],[1],[],[1,2,3],[1,2,3,4],[1,2,3,4,5],[],[],[8],[],[8,9,10],[8,9,10,11],[8,9,10,11,12],[7,8,9,10,11,12,13],[7,8,9,10,11,12,13,14],[7,8,9,10,11,12,13,14,15],[0,1,2,3,4,5,6,7,8,9,10,11,12,13,14,15,16],[0,1,2,3,4,5,6,7,8,9,10,11,12,13,14,15,16,17]] (by simp) (by simp) (by simp [look]) rfl rfl rfl ?_ fun K w=>?_
      ·refine ⟨?_,?_,?_,?_,?_,?_,?_,?_,?_,?_,?_,?_,?_,?_,?_,?_,?_,trivial⟩
       all_goals (intro τ hbx hb hd hf K w;try simp [aH] at hd;simp [aH] at hf;first | (refine wC rfl fun K' z=>?_;simp [q,hbx,hb,hd,hf,b7,b8,b9,c0,c1,a7,a8,a9,b0];exact z _ (wN (w _ (by simp [aH,hbx,b7,b8,b9,c0,c1,a7,a8,a9,b0])))))
      refine wC rfl fun K r=>?_;simp [q,b7,b8,b9,c0,c1,a7,a8,a9,b0];apply r
      obtain ⟨j6,i0,a0⟩:=bZ a0
      have d8:(List.map vi e0).set a1.Body.toNat (vi (IntKind.wrap .i64 (h8 + 1000)))=List.map vi j6:=fH (f:=vi) i0
      try simp only [Int.toNat_natCast] at d8
      refine wC rfl fun K r=>?_;simp [q,b7,b8,b9,c0,c1,a7,a8,a9,b0,d8];apply r
      apply wN;apply w
      refine O.zR u fun K w=>?_
      iterate 3 (refine wC rfl fun K r=>?_;simp [q];apply r)
      obtain ⟨l5,i1,a0⟩:=bS a0
      obtain ⟨e5,e6,e7,e8⟩:=gS i1
      iterate 4 (refine wC rfl fun K r=>?_;simp [q,e5,e6,e7,e8];apply r)
      apply wN;apply w
      rcases aA a0 with ⟨i2,a0⟩ | ⟨i3,a0⟩
      ·refine O.cT' (by simp) i2 ?_
       obtain ⟨a2,i4,a0⟩:=bS a0
       obtain ⟨c2,c3,c4,c5⟩:=gS i4
       obtain ⟨i5,i6,a0⟩:=bS a0
       obtain ⟨c6,b1,b2,b3⟩:=gS i6
       have b4:=b1;try simp at b4
       try simp only [Int.toNat_natCast] at b2 b3
       refine O.dT rfl (u _ rfl) [(72,.al (.slot 4) 0 [] none),(73,.ref (.box 1) 1 []),(74,.t (.sl false 5 (List.map (GFn.enc false) p1.Fns))),(75,.t (vi g2)),(76,.rop [vs a2.Name,.sl false 2 (List.map GParam.enc a2.Params),vi a2.Res,vi a2.Body,vi a2.Ret] 0),(77,.rop [vs a2.Name,.sl false 2 (List.map GParam.enc a2.Params),vi a2.Res,vi a2.Body,vi a2.Ret] 4),(78,.t (vi a2.Ret)),(79,.al (.slot 4) 0 [] none),(80,.ref (.box 1) 1 []),(81,.t (.sl false 5 (List.map (GFn.enc false) p1.Fns))),(82,.t (vi g2)),(83,.rop [vs a2.Name,.sl false 2 (List.map GParam.enc a2.Params),vi a2.Res,vi a2.Body,vi a2.Ret] 0),(84,.rop [vs a2.Name,.sl false 2 (List.map GParam.enc a2.Params),vi a2.Res,vi a2.Body,vi a2.Ret] 4),(85,.t (vi a2.Ret)),(86,.ref (.slot 4) 0 [(a2.Ret.toNat,0)]),(87,.t (vi i5)),(88,.t (vi (IntKind.wrap .i64 (i5 + 1000))))] [[],[],[1],[],[1,2,3],[1,2,3,4],[1,2,3,4,5],[],[],[8],[],[8,9,10],[8,9,10,11],[8,9,10,11,12],[7,8,9,10,11,12,13],[7,8,9,10,11,12,13,14],[7,8,9,10,11,12,13,14,15],[0,1,2,3,4,5,6,7,8,9,10,11,12,13,14,15,16],[0,1,2,3,4,5,6,7,8,9,10,11,12,13,14,15,16,17]] (by simp) (by simp) (by simp [look]) rfl rfl rfl ?_ fun K w=>?_
       ·refine ⟨?_,?_,?_,?_,?_,?_,?_,?_,?_,?_,?_,?_,?_,?_,?_,?_,?_,trivial⟩
        all_goals (intro τ hbx hb hd hf K w;try simp [aH] at hd;simp [aH] at hf;first | (refine wC rfl fun K' z=>?_;simp [q,hbx,hb,hd,hf,c2,c3,c4,c5,c6,b1,b2,b3,b4];exact z _ (wN (w _ (by simp [aH,hbx,c2,c3,c4,c5,c6,b1,b2,b3,b4])))))
       refine wC rfl fun K r=>?_;simp [q,c2,c3,c4,c5,c6,b1,b2,b3,b4];apply r
       obtain ⟨k3,i7,a0⟩:=bZ a0
       have d9:(List.map vi j6).set a2.Ret.toNat (vi (IntKind.wrap .i64 (i5 + 1000)))=List.map vi k3:=fH (f:=vi) i7
       try simp only [Int.toNat_natCast] at d9
       refine wC rfl fun K r=>?_;simp [q,c2,c3,c4,c5,c6,b1,b2,b3,b4,d9];apply r
       apply wN;apply w
       refine O.zG u fun K w=>?_
       iterate 3 (refine wC rfl fun K r=>?_;simp [q];apply r)
       apply wN;apply w
       cases a0
       exact ⟨_,[],rfl,by simp [q]⟩
      ·refine O.cF' (by simp) i3 ?_
       refine O.skip ?_
       refine O.zG u fun K w=>?_
       iterate 3 (refine wC rfl fun K r=>?_;simp [q];apply r)
       apply wN;apply w
       cases a0
       exact ⟨_,[],rfl,by simp [q]⟩
    ·refine O.cF' (by simp) h3 ?_
     refine O.exit ?_
     have k4:=congrArg some (e4 _ (Option.some.inj a0).symm)
     cases k4
     exact h1 _ _ [] rfl (by simp [q])
   subst hv
   obtain ⟨b5,hv⟩:∃ y,y=v:=⟨_,rfl⟩
   subst hv
   try dsimp only at h ⊢
   obtain ⟨k5,i8,h⟩:=bS h
   refine O.seqC [] [] (fun v:Unit=>⟨[],[]⟩) (fun v=>k5=Sum.inl v) (fun v hv=>?_) fun l6 i9=>?_
   rotate_left
   ·refine O.zR u fun K w=>?_
    refine wC rfl fun K r=>?_;simp [q];apply r
    apply wN;apply w
    refine O.block ?_
    refine O.loopO [] [4,6] [] (fun v:Int=>⟨[(4,.t (.sl true 1 (List.map vi b5))),(6,.t (vi v))],[]⟩) (dF b5) _ 0 i8 (by simp [q]) ?_
    intro g l7 c8 e9
    obtain ⟨k6,hg⟩:∃ y,y=g:=⟨_,rfl⟩
    subst hg
    simp only [dF] at c8
    try dsimp only
    refine O.seq ?_
    refine O.zR u fun K w=>?_
    iterate 4 (refine wC rfl fun K r=>?_;simp [q];apply r)
    apply wN;apply w
    rcases aA c8 with ⟨j0,c8⟩ | ⟨j1,c8⟩
    ·refine O.cT' (by simp) j0 ?_
     refine O.skip ?_
     refine O.seq ?_
     refine O.block ?_
     obtain ⟨k7,b6,c8⟩:=bS c8
     refine O.seqRC rfl (u _ rfl) [4,6,107] [] (fun _:Unit=>⟨[(4,.t (.sl true 1 (List.map vi b5))),(6,.t (vi k6)),(107,.t (vb k7))],[]⟩) (fun _=>True) (fun _ _=>?_) fun l8 g0=>?_
     rotate_left
     ·refine wC rfl fun K r=>?_;simp [q];apply r
      refine wC rfl fun K r=>?_;simp [q];apply r
      obtain ⟨l9,j2,b6⟩:=bS b6
      obtain ⟨a3,a4,a5,a6⟩:=gS j2
      iterate 4 (refine wC rfl fun K r=>?_;simp [q,a3,a4,a5,a6];apply r)
      rcases aA b6 with ⟨e1,b6⟩ | ⟨d3,b6⟩
      ·have d0:=e1
       try simp at d0
       iterate 6 (refine wC rfl fun K r=>?_;simp [q,a3,a4,a5,a6,e1,d0];apply r)
       refine wN ?_
       cases b6
       exact g0 _ () [] trivial (by simp [q,a3,a4,a5,a6,e1,d0])
      ·have c7:=d3
       try simp at c7
       iterate 5 (refine wO fun K r=>?_;simp [q,a3,a4,a5,a6,d3,c7];apply r)
       refine wC rfl fun K r=>?_;simp [q,a3,a4,a5,a6,d3,c7];apply r
       refine wN ?_
       cases b6
       exact g0 _ () [] trivial (by simp [q,a3,a4,a5,a6,d3,c7])
     rcases aA c8 with ⟨j3,c8⟩ | ⟨j4,c8⟩
     ·refine O.cT' (by simp) j3 ?_
      refine O.zR u fun K w=>?_
      refine wC rfl fun K r=>?_;simp [q];apply r
      apply wN;apply w
      have k8:=congrArg some (e9 _ (Option.some.inj c8).symm)
      cases k8
      try dsimp only at h
      cases h
      refine O.ret ?_
      simp [aC,iB,aKz]
     ·refine O.cF' (by simp) j4 ?_
      refine O.skip ?_
      refine O.zG u fun K w=>?_
      iterate 3 (refine wC rfl fun K r=>?_;simp [q];apply r)
      apply wN;apply w
      cases c8
      exact ⟨_,[],rfl,by simp [q]⟩
    ·refine O.cF' (by simp) j1 ?_
     refine O.exit ?_
     have k9:=congrArg some (e9 _ (Option.some.inj c8).symm)
     cases k9
     exact i9 _ _ [] rfl (by simp [q])
   subst hv
   obtain ⟨⟩:=v
   try dsimp only at h ⊢
   refine O.zR u fun K w=>?_
   refine wC rfl fun K r=>?_;simp [q];apply r
   apply wN;apply w
   cases h
   refine O.ret ?_
   simp [aC,iB,aKz]
theorem res83:Tryz.f83.results.toList=[.tmp 4]:=rfl
theorem aPk:aE E.P 83:=eO Tryz.func83 (by simp [Tryz.f83]) rfl
theorem nU (a0:List GNode) (k2:Int) {r0:Int} (h:iU a0 k2=some r0):Ok E 83 [.val (.sl false 4 (List.map (GNode.enc false) a0)),.val (vi k2)] [vi r0] []:=by
 refine oB Tryz.func83 rfl (by simp [Tryz.f83]) fun C (q:C.N=17) hP=>?_
 have y:=aK hP
 unfold iU at h
 refine O.zR y fun K u=>?_
 refine wC rfl fun K v=>?_;simp [q];apply v
 apply wN;apply u
 refine O.seq ?_
 refine O.zR y fun K u=>?_
 iterate 4 (refine wC rfl fun K v=>?_;simp [q];apply v)
 obtain ⟨r3,a5,h⟩:=bS h
 refine wL [(.take,.tmp 5),(.take,.const (.int .i64 0)),(.take,.tmp 8)] rfl rfl qJ (aQ _ _ _ a5) fun K v=>?_;simp [q];apply v
 refine wC rfl fun K v=>?_;simp [q];apply v
 apply wN;apply u
 rcases aA h with ⟨a6,h⟩ | ⟨a7,h⟩
 ·refine O.cT' (by simp) a6 ?_
  refine O.zR y fun K u=>?_
  refine wC rfl fun K v=>?_;simp [q];apply v
  apply wN;apply u
  cases h
  refine O.ret ?_
  simp [aC,iB,res83]
 ·refine O.cF' (by simp) a7 ?_
  refine O.skip ?_
  refine O.zR y fun K u=>?_
  iterate 2 (refine wC rfl fun K v=>?_;simp [q];apply v)
  obtain ⟨r7,a8,h⟩:=bS h
  refine wL [(.take,.tmp 11),(.take,.tmp 12)] rfl rfl ent77 (pW _ _ a8) fun K v=>?_;simp [q];apply v
  refine wC rfl fun K v=>?_;simp [q];apply v
  obtain ⟨e9,a9,h⟩:=bS h
  obtain ⟨a1,a2,a3,a4⟩:=gS a9
  iterate 3 (refine wC rfl fun K v=>?_;simp [q,a1,a2,a3,a4];apply v)
  apply wN;apply u
  cases h
  refine O.ret ?_
  simp [aC,iB,res83]
theorem aOa:Tryz.f104.results.toList=[]:=rfl
theorem aOl:aE E.P 104:=eO Tryz.func104 (by simp [Tryz.f104]) rfl
theorem vJ (a3:(List GNode)→Int→(List Bool)→Option (List Bool)) (a4:∀ (a0:List GNode) (a1:Int) (a2:List Bool) {q2:List Bool},a3 a0 a1 a2=some q2→OkIO E 104 [.val (.sl false 4 (List.map (GNode.enc false) a0)),.val (vi a1),.val (.sl true 1 (List.map vb a2))] [] [] [(2,.sl true 1 (List.map vb q2))]) (a5:List GNode) (k2:Int) (a7:List Bool) {q2:List Bool} (h:iK a3 a5 k2 a7=some q2):OkIO E 104 [.val (.sl false 4 (List.map (GNode.enc false) a5)),.val (vi k2),.val (.sl true 1 (List.map vb a7))] [] [] [(2,.sl true 1 (List.map vb q2))]:=by
 refine wU (fn:=Tryz.f104) [(2,.sl true 1 (List.map vb q2))] Tryz.func104 rfl (by simp [Tryz.f104]) rfl fun C hN hP=>?_
 have y:∀ l,aMc [2] l=true→qI C.pin l=true:=pO (by rw [hP];rfl)
 have q:C.N=35:=hN
 clear hN
 unfold iK at h
 refine O.seq ?_
 refine O.zR y fun K u=>?_
 iterate 2 (refine wC rfl fun K w=>?_;simp [q];apply w)
 obtain ⟨e4,d7,h⟩:=bS h
 obtain ⟨c5,c6,c7,c8⟩:=gS d7
 iterate 2 (refine wC rfl fun K w=>?_;simp [q,c5,c6,c7,c8];apply w)
 apply wN;apply u
 rcases aA h with ⟨d8,h⟩ | ⟨d9,h⟩
 ·refine O.cT' (by simp) d8 ?_
  cases h
  refine O.ret ?_
  simp [aC,iB,aOa]
 ·refine O.cF' (by simp) d9 ?_
  refine O.skip ?_
  refine O.zR y fun K u=>?_
  iterate 2 (refine wC rfl fun K w=>?_;simp [q];apply w)
  obtain ⟨e7,e0,h⟩:=bS h
  obtain ⟨b6,b7,b8,b9⟩:=gS e0
  refine wC rfl fun K w=>?_;simp [q,b6,b7,b8,b9];apply w
  obtain ⟨l8,e1,h⟩:=bZ h
  have c0:(List.map vb a7).set k2.toNat (vb true)=List.map vb l8:=fH (f:=vb) e1
  try simp only [Int.toNat_natCast] at c0
  refine wC rfl fun K w=>?_;simp [q,b6,b7,b8,b9,c0];apply w
  apply wN;apply u
  refine O.zR y fun K u=>?_
  refine wC rfl fun K w=>?_;simp [q];apply w
  apply wN;apply u
  refine O.block ?_
  refine O.loopO [] [0,1,2,6] [] (fun v:(List Bool) × Int=>⟨[(0,.t (.sl false 4 (List.map (GNode.enc false) a5))),(1,.t (vi k2)),(2,.t (.sl true 1 (List.map vb v.1))),(6,.t (vi v.2))],[]⟩) (eS a3 a5 k2) _ (l8,0) h (by simp [q]) ?_
  intro g e3 a6 c9
  obtain ⟨d6,e5⟩:=g
  simp only [eS] at a6
  try dsimp only
  refine O.seq ?_
  refine O.zR y fun K u=>?_
  iterate 3 (refine wC rfl fun K w=>?_;simp [q];apply w)
  obtain ⟨e6,d0,a6⟩:=bS a6
  obtain ⟨c1,c2,c3,c4⟩:=gS d0
  iterate 5 (refine wC rfl fun K w=>?_;simp [q,c1,c2,c3,c4];apply w)
  apply wN;apply u
  rcases aA a6 with ⟨d1,a6⟩ | ⟨d2,a6⟩
  ·refine O.cT' (by simp) d1 ?_
   refine O.skip ?_
   refine O.seq ?_
   refine O.block ?_
   refine O.zG y fun K u=>?_
   iterate 3 (refine wC rfl fun K w=>?_;simp [q];apply w)
   obtain ⟨e8,d3,a6⟩:=bS a6
   obtain ⟨a8,a9,b0,b1⟩:=gS d3
   iterate 4 (refine wC rfl fun K w=>?_;simp [q,a8,a9,b0,b1];apply w)
   obtain ⟨e9,d4,a6⟩:=bS a6
   obtain ⟨b2,b3,b4,b5⟩:=gS d4
   iterate 3 (refine wC rfl fun K w=>?_;simp [q,a8,a9,b0,b1,b2,b3,b4,b5];apply w)
   obtain ⟨g0,d5,a6⟩:=bS a6
   refine tD [.tmp 24,.tmp 32] rfl aOl (a4 _ _ _ d5) fun K w=>?_;simp [q,a8,a9,b0,b1,b2,b3,b4,b5];apply w
   apply wN;apply u
   refine O.zG y fun K u=>?_
   iterate 3 (refine wC rfl fun K w=>?_;simp [q];apply w)
   apply wN;apply u
   cases a6
   exact ⟨_,[],rfl,by simp [q]⟩
  ·refine O.cF' (by simp) d2 ?_
   refine O.exit ?_
   have e2:=congrArg some (c9 _ (Option.some.inj a6).symm)
   cases e2
   simp [aC,iB,aOa]
theorem mM:∀ n:Nat,(∀ (a0:List GNode) (a1:Int) (a2:List Bool) {q2:List Bool},(cT n) a0 a1 a2=some q2→OkIO E 104 [.val (.sl false 4 (List.map (GNode.enc false) a0)),.val (vi a1),.val (.sl true 1 (List.map vb a2))] [] [] [(2,.sl true 1 (List.map vb q2))])
 | 0=>(by intros;rename_i h;cases h)
 | n + 1=>vJ (cT n) (mM n)
theorem yX:∀ (a0:List GNode) (a1:Int) (a2:List Bool) {q2:List Bool},qT a0 a1 a2=some q2→OkIO E 104 [.val (.sl false 4 (List.map (GNode.enc false) a0)),.val (vi a1),.val (.sl true 1 (List.map vb a2))] [] [] [(2,.sl true 1 (List.map vb q2))]:=(mM eK)
theorem res80:Tryz.f80.results.toList=[.tmp 4]:=rfl
theorem aPl:aE E.P 80:=eO Tryz.func80 (by simp [Tryz.f80]) rfl
theorem pI (p1:GProgram) (k2:Int) {r0:List Int} (h:kJ p1 k2=some r0):Ok E 80 [.val (GProgram.enc false p1),.val (vi k2)] [.sl true 1 (List.map vi r0)] []:=by
 refine oB Tryz.func80 rfl (by simp [Tryz.f80]) fun C (q:C.N=39) hP=>?_
 have y:=aK hP
 unfold kJ at h
 refine O.zR y fun K u=>?_
 iterate 2 (refine wC rfl fun K w=>?_;simp [q];apply w)
 apply wN;apply u
 refine O.zR y fun K u=>?_
 iterate 2 (refine wC rfl fun K w=>?_;simp [q];apply w)
 apply wN;apply u
 refine O.seq ?_
 refine O.zR y fun K u=>?_
 iterate 3 (refine wC rfl fun K w=>?_;simp [q];apply w)
 obtain ⟨r3,c5,h⟩:=bS h
 refine wL [(.take,.tmp 10),(.take,.tmp 11)] rfl rfl aPk (nU _ _ c5) fun K w=>?_;simp [q];apply w
 refine wC rfl fun K w=>?_;simp [q];apply w
 apply wN;apply u
 rcases aA h with ⟨c6,h⟩ | ⟨c7,h⟩
 ·refine O.cT' (by simp) c6 ?_
  refine O.zR y fun K u=>?_
  iterate 2 (refine wC rfl fun K w=>?_;simp [q];apply w)
  apply wN;apply u
  cases h
  refine O.ret ?_
  simp [aC,iB,res80]
 ·refine O.cF' (by simp) c7 ?_
  refine O.skip ?_
  refine O.zR y fun K u=>?_
  iterate 3 (refine wC rfl fun K w=>?_;simp [q];apply w)
  obtain ⟨l7,c8,h⟩:=bS h
  obtain ⟨b2,b3,b4,b5⟩:=mS c8
  have a4:List.replicate (p1.Nodes.length:Int).toNat (vb false)=List.map vb l7:=tH (f:=vb) b5
  try simp only [Int.toNat_natCast] at a4
  iterate 2 (refine wC rfl fun K w=>?_;simp [q,b2,b3,b4,a4];apply w)
  apply wN;apply u
  refine O.zR y fun K u=>?_
  iterate 4 (refine wC rfl fun K w=>?_;simp [q];apply w)
  obtain ⟨q8,c9,h⟩:=bS h
  refine tD [.tmp 20,.tmp 21] rfl aOl (yX _ _ _ c9) fun K w=>?_;simp [q];apply w
  apply wN;apply u
  obtain ⟨a5,b6,h⟩:=bS h
  refine O.seqC [5] [] (fun _:Unit=>⟨[(5,.t (.sl true 1 (List.map vi a5)))],[]⟩) (fun _=>True) (fun _ _=>?_) fun d3 b7=>?_
  rotate_left
  ·refine O.zR y fun K u=>?_
   refine wC rfl fun K w=>?_;simp [q];apply w
   apply wN;apply u
   refine O.block ?_
   refine O.loopO [] [5,6,7] [] (fun v:(List Int) × Int=>⟨[(5,.t (.sl true 1 (List.map vi v.1))),(6,.t (.sl true 1 (List.map vb q8))),(7,.t (vi v.2))],[]⟩) (gY q8) _ ([],0) b6 (by simp [q]) ?_
   intro g d4 a0 b8
   obtain ⟨a6,d0⟩:=g
   simp only [gY] at a0
   try dsimp only
   refine O.seq ?_
   refine O.zR y fun K u=>?_
   iterate 4 (refine wC rfl fun K w=>?_;simp [q];apply w)
   apply wN;apply u
   rcases aA a0 with ⟨b9,a0⟩ | ⟨c0,a0⟩
   ·refine O.cT' (by simp) b9 ?_
    refine O.skip ?_
    refine O.seq ?_
    refine O.block ?_
    refine O.zR y fun K u=>?_
    iterate 2 (refine wC rfl fun K w=>?_;simp [q];apply w)
    obtain ⟨d5,c1,a0⟩:=bS a0
    obtain ⟨a7,a8,a9,b0⟩:=gS c1
    iterate 2 (refine wC rfl fun K w=>?_;simp [q,a7,a8,a9,b0];apply w)
    apply wN;apply u
    rcases aA a0 with ⟨c2,a0⟩ | ⟨c3,a0⟩
    ·refine O.cT' (by simp) c2 ?_
     refine O.zG y fun K u=>?_
     iterate 3 (refine wC rfl fun K w=>?_;simp [q];apply w)
     obtain ⟨d1,c4,a0⟩:=bS a0
     obtain ⟨a1,a2,b1⟩:=aS c4
     have a3:List.map vi a6 ++ List.map vi [d0]=List.map vi d1:=dW (f:=vi) b1
     simp [eSl] at a1 a2 a3
     iterate 2 (refine wC rfl fun K w=>?_;simp [q,a1,a2,a3];apply w)
     apply wN;apply u
     refine O.zG y fun K u=>?_
     iterate 3 (refine wC rfl fun K w=>?_;simp [q];apply w)
     apply wN;apply u
     cases a0
     exact ⟨_,[],rfl,by simp [q]⟩
    ·refine O.cF' (by simp) c3 ?_
     refine O.skip ?_
     refine O.zG y fun K u=>?_
     iterate 3 (refine wC rfl fun K w=>?_;simp [q];apply w)
     apply wN;apply u
     cases a0
     exact ⟨_,[],rfl,by simp [q]⟩
   ·refine O.cF' (by simp) c0 ?_
    refine O.exit ?_
    have d2:=congrArg some (b8 _ (Option.some.inj a0).symm)
    cases d2
    exact b7 _ () [] trivial (by simp [q])
  refine O.zR y fun K u=>?_
  iterate 2 (refine wC rfl fun K w=>?_;simp [q];apply w)
  apply wN;apply u
  cases h
  refine O.ret ?_
  simp [aC,iB,res80]
theorem res46:Tryz.f46.results.toList=[.tmp 4]:=rfl
theorem ent46:aE E.P 46:=eO Tryz.func46 (by simp [Tryz.f46]) rfl
theorem sO (p1:GProgram) (h1:Int) {r0:List GVar} (h:kI p1 h1=some r0):Ok E 46 [.val (GProgram.enc false p1),.val (vi h1)] [.sl true 3 (List.map GVar.enc r0)] []:=by
 refine oB Tryz.func46 rfl (by simp [Tryz.f46]) fun C (q:C.N=85) hP=>?_
 have y:=aK hP
 unfold kI at h
 refine O.zR y fun K u=>?_
 iterate 2 (refine wC rfl fun K z=>?_;simp [q];apply z)
 apply wN;apply u
 refine O.zR y fun K u=>?_
 iterate 2 (refine wC rfl fun K z=>?_;simp [q];apply z)
 apply wN;apply u
 refine O.seq ?_
 refine O.zR y fun K u=>?_
 iterate 5 (refine wC rfl fun K z=>?_;simp [q];apply z)
 obtain ⟨r3,h4,h⟩:=bS h
 refine wL [(.take,.tmp 11),(.take,.const (.int .i64 0)),(.take,.tmp 15)] rfl rfl qJ (aQ _ _ _ h4) fun K z=>?_;simp [q];apply z
 refine wC rfl fun K z=>?_;simp [q];apply z
 apply wN;apply u
 rcases aA h with ⟨h5,h⟩ | ⟨h6,h⟩
 ·refine O.cT' (by simp) h5 ?_
  refine O.zR y fun K u=>?_
  iterate 2 (refine wC rfl fun K z=>?_;simp [q];apply z)
  apply wN;apply u
  cases h
  refine O.ret ?_
  simp [aC,iB,res46]
 ·refine O.cF' (by simp) h6 ?_
  refine O.skip ?_
  refine O.zR y fun K u=>?_
  iterate 3 (refine wC rfl fun K z=>?_;simp [q];apply z)
  obtain ⟨e7,h7,h⟩:=bS h
  obtain ⟨d8,d9,e0,e1⟩:=gS h7
  iterate 4 (refine wC rfl fun K z=>?_;simp [q,d8,d9,e0,e1];apply z)
  apply wN;apply u
  obtain ⟨c0,h8,h⟩:=bS h
  refine O.seqC [2,5,6] [2,6] (fun _:Unit=>⟨[(2,.ref (.box 2) 0 []),(5,.t (.sl true 3 (List.map GVar.enc c0))),(6,.ref (.box 6) 0 [])],[(2,[.sl false 4 (List.map (GNode.enc false) p1.Nodes),.sl false 5 (List.map (GFn.enc false) p1.Fns)]),(6,[vs e7.Name,.sl false 2 (List.map GParam.enc e7.Params),vi e7.Res,vi e7.Body,vi e7.Ret])]⟩) (fun _=>True) (fun _ _=>?_) fun K9 h9=>?_
  rotate_left
  ·refine O.zR y fun K u=>?_
   refine wC rfl fun K z=>?_;simp [q];apply z
   apply wN;apply u
   refine O.block ?_
   refine O.loopO [] [2,5,6,7] [2,6] (fun v:(List GVar) × Int=>⟨[(2,.ref (.box 2) 0 []),(5,.t (.sl true 3 (List.map GVar.enc v.1))),(6,.ref (.box 6) 0 []),(7,.t (vi v.2))],[(2,[.sl false 4 (List.map (GNode.enc false) p1.Nodes),.sl false 5 (List.map (GFn.enc false) p1.Fns)]),(6,[vs e7.Name,.sl false 2 (List.map GParam.enc e7.Params),vi e7.Res,vi e7.Body,vi e7.Ret])]⟩) (fV e7) _ ([],0) h8 (by simp [q]) ?_
   intro g i5 b9 e2
   obtain ⟨c8,h2⟩:=g
   simp only [fV] at b9
   try dsimp only
   refine O.seq ?_
   refine O.zR y fun K u=>?_
   iterate 5 (refine wC rfl fun K z=>?_;simp [q];apply z)
   apply wN;apply u
   rcases aA b9 with ⟨e3,b9⟩ | ⟨e4,b9⟩
   ·refine O.cT' (by simp) e3 ?_
    refine O.skip ?_
    refine O.seq ?_
    refine O.block ?_
    obtain ⟨a1,e5,b9⟩:=bS b9
    obtain ⟨a3,a4,a5,a6⟩:=gS e5
    refine O.dT rfl (y _ rfl) [(31,.al (.slot 5) 0 [] none),(32,.ref (.box 6) 1 []),(33,.t (.sl false 2 (List.map GParam.enc e7.Params))),(34,.t (vi h2)),(35,.rop [vs a1.Name,vi a1.Typ] 0),(36,.rop [vs a1.Name,vi a1.Typ] 0),(37,.t (vs a1.Name)),(38,.ref (.box 6) 1 []),(39,.t (.sl false 2 (List.map GParam.enc e7.Params))),(40,.t (vi h2)),(41,.rop [vs a1.Name,vi a1.Typ] 0),(42,.rop [vs a1.Name,vi a1.Typ] 1),(43,.t (vi a1.Typ)),(44,.t (.agg [vs a1.Name,vi a1.Typ,vi (-1)])),(45,.t (.sl true 3 (List.map GVar.enc [(⟨a1.Name,a1.Typ,(-1)⟩:GVar)])))] [[],[],[1],[],[1,2,3],[1,2,3,4],[1,2,3,4,5],[],[7],[],[7,8,9],[7,8,9,10],[7,8,9,10,11],[1,2,3,4,5,6,7,8,9,10,11,12],[1,2,3,4,5,6,7,8,9,10,11,12,13],[0,1,2,3,4,5,6,7,8,9,10,11,12,13,14],[0,1,2,3,4,5,6,7,8,9,10,11,12,13,14,15]] (by simp) (by simp) (by simp [look]) rfl rfl rfl ?_ fun K u=>?_
    ·refine ⟨?_,?_,?_,?_,?_,?_,?_,?_,?_,?_,?_,?_,?_,?_,?_,trivial⟩
     all_goals (intro τ hbx hb hd hf K u;try simp [aH] at hd;simp [aH] at hf;first | (refine wC rfl fun K' w=>?_;simp [q,hbx,hb,hd,hf,a3,a4,a5,a6];exact w _ (wN (u _ (by simp [aH,hbx,a3,a4,a5,a6])))))
    obtain ⟨i0,e6,b9⟩:=bS b9
    obtain ⟨c1,c2,c9⟩:=aS e6
    have c3:List.map GVar.enc c8 ++ List.map GVar.enc [(⟨a1.Name,a1.Typ,(-1)⟩:GVar)]=List.map GVar.enc i0:=dW (f:=GVar.enc) c9
    simp [eSl,GVar.enc] at c1 c2 c3
    iterate 2 (refine wC rfl fun K z=>?_;simp [q,a3,a4,a5,a6,c1,c2,c3];apply z)
    apply wN;apply u
    refine O.zG y fun K u=>?_
    iterate 3 (refine wC rfl fun K z=>?_;simp [q];apply z)
    apply wN;apply u
    cases b9
    exact ⟨_,[],rfl,by simp [q]⟩
   ·refine O.cF' (by simp) e4 ?_
    refine O.exit ?_
    have i1:=congrArg some (e2 _ (Option.some.inj b9).symm)
    cases i1
    exact h9 _ () [] trivial (by simp [q])
  refine O.zR y fun K u=>?_
  iterate 3 (refine wC rfl fun K z=>?_;simp [q];apply z)
  obtain ⟨h3,e8,h⟩:=bS h
  refine wL [(.take,.tmp 47),(.take,.tmp 49)] rfl rfl aPl (pI _ _ e8) fun K z=>?_;simp [q];apply z
  refine wC rfl fun K z=>?_;simp [q];apply z
  apply wN;apply u
  obtain ⟨d0,e9,h⟩:=bS h
  refine O.seqC [5] [] (fun _:Unit=>⟨[(5,.t (.sl true 3 (List.map GVar.enc d0)))],[]⟩) (fun _=>True) (fun _ _=>?_) fun i6 g0=>?_
  rotate_left
  ·refine O.zR y fun K u=>?_
   refine wC rfl fun K z=>?_;simp [q];apply z
   apply wN;apply u
   refine O.block ?_
   refine O.loopO [] [2,5,8,9] [2] (fun v:(List GVar) × Int=>⟨[(2,.ref (.box 2) 0 []),(5,.t (.sl true 3 (List.map GVar.enc v.1))),(8,.t (.sl true 1 (List.map vi h3))),(9,.t (vi v.2))],[(2,[.sl false 4 (List.map (GNode.enc false) p1.Nodes),.sl false 5 (List.map (GFn.enc false) p1.Fns)])]⟩) (fU p1 h3) _ (c0,0) e9 (by simp [q]) ?_
   intro g i7 a0 g1
   obtain ⟨d1,c7⟩:=g
   simp only [fU] at a0
   try dsimp only
   refine O.seq ?_
   refine O.zR y fun K u=>?_
   iterate 4 (refine wC rfl fun K z=>?_;simp [q];apply z)
   apply wN;apply u
   rcases aA a0 with ⟨g2,a0⟩ | ⟨g3,a0⟩
   ·refine O.cT' (by simp) g2 ?_
    refine O.skip ?_
    refine O.seq ?_
    refine O.block ?_
    refine O.seq ?_
    obtain ⟨i2,g4,a0⟩:=bS a0
    obtain ⟨a7,a8,a9,b0⟩:=gS g4
    refine O.dT rfl (y _ rfl) [(57,.ref (.box 2) 0 []),(58,.t (.sl false 4 (List.map (GNode.enc false) p1.Nodes))),(59,.al (.slot 8) 0 [] none),(60,.t (vi c7)),(61,.ref (.slot 8) 0 [(c7.toNat,0)]),(62,.t (vi i2))] [[],[0],[],[],[2,3],[2,3,4],[0,1,2,3,4,5],[0,1,2,3,4,5,6],[0,1,2,3,4,5,6,7],[0,1,2,3,4,5,6,7,8]] (by simp) (by simp) (by simp [look]) rfl rfl rfl ?_ fun K u=>?_
    ·refine ⟨?_,?_,?_,?_,?_,?_,trivial⟩
     all_goals (intro τ hbx hb hd hf K u;try simp [aH] at hd;simp [aH] at hf;first | (refine wC rfl fun K' w=>?_;simp [q,hbx,hb,hd,hf,a7,a8,a9,b0];exact w _ (wN (u _ (by simp [aH,hbx,a7,a8,a9,b0])))))
    obtain ⟨i8,g5,a0⟩:=bS a0
    obtain ⟨d2,d3,d4,d5⟩:=gS g5
    iterate 4 (refine wC rfl fun K z=>?_;simp [q,a7,a8,a9,b0,d2,d3,d4,d5];apply z)
    apply wN;apply u
    rcases aA a0 with ⟨g6,a0⟩ | ⟨g7,a0⟩
    ·refine O.cT' (by simp) g6 ?_
     obtain ⟨d6,g8,a0⟩:=bS a0
     obtain ⟨b1,b2,b3,b4⟩:=gS g8
     obtain ⟨a2,g9,a0⟩:=bS a0
     obtain ⟨b5,b6,b7,b8⟩:=gS g9
     refine O.dT rfl (y _ rfl) [(67,.al (.slot 5) 0 [] none),(68,.ref (.box 2) 0 []),(69,.t (.sl false 4 (List.map (GNode.enc false) p1.Nodes))),(70,.al (.slot 8) 0 [] none),(71,.t (vi c7)),(72,.ref (.slot 8) 0 [(c7.toNat,0)]),(73,.t (vi d6)),(74,.rop [vi a2.Kind,vi a2.Num,vs a2.Name,.sl false 1 (List.map vi a2.Kids)] 0),(75,.rop [vi a2.Kind,vi a2.Num,vs a2.Name,.sl false 1 (List.map vi a2.Kids)] 2),(76,.t (vs a2.Name)),(77,.al (.slot 8) 0 [] none),(78,.t (vi c7)),(79,.ref (.slot 8) 0 [(c7.toNat,0)]),(80,.t (vi d6)),(81,.t (.agg [vs a2.Name,vi 0,vi d6])),(82,.t (.sl true 3 (List.map GVar.enc [(⟨a2.Name,0,d6⟩:GVar)])))] [[],[],[1],[],[],[3,4],[3,4,5],[1,2,3,4,5,6],[1,2,3,4,5,6,7],[1,2,3,4,5,6,7,8],[],[],[10,11],[10,11,12],[1,2,3,4,5,6,7,8,9,10,11,12,13],[1,2,3,4,5,6,7,8,9,10,11,12,13,14],[0,1,2,3,4,5,6,7,8,9,10,11,12,13,14,15],[0,1,2,3,4,5,6,7,8,9,10,11,12,13,14,15,16]] (by simp) (by simp) (by simp [look]) rfl rfl rfl ?_ fun K u=>?_
     ·refine ⟨?_,?_,?_,?_,?_,?_,?_,?_,?_,?_,?_,?_,?_,?_,?_,?_,trivial⟩
      all_goals (intro τ hbx hb hd hf K u;try simp [aH] at hd;simp [aH] at hf;first | (refine wC rfl fun K' w=>?_;simp [q,hbx,hb,hd,hf,b1,b2,b3,b4,b5,b6,b7,b8];exact w _ (wN (u _ (by simp [aH,hbx,b1,b2,b3,b4,b5,b6,b7,b8])))))
     obtain ⟨i3,h0,a0⟩:=bS a0
     obtain ⟨c4,c5,d7⟩:=aS h0
     have c6:List.map GVar.enc d1 ++ List.map GVar.enc [(⟨a2.Name,0,d6⟩:GVar)]=List.map GVar.enc i3:=dW (f:=GVar.enc) d7
     simp [eSl,GVar.enc] at c4 c5 c6
     iterate 2 (refine wC rfl fun K z=>?_;simp [q,b1,b2,b3,b4,b5,b6,b7,b8,c4,c5,c6];apply z)
     apply wN;apply u
     refine O.zG y fun K u=>?_
     iterate 3 (refine wC rfl fun K z=>?_;simp [q];apply z)
     apply wN;apply u
     cases a0
     exact ⟨_,[],rfl,by simp [q]⟩
    ·refine O.cF' (by simp) g7 ?_
     refine O.skip ?_
     refine O.zG y fun K u=>?_
     iterate 3 (refine wC rfl fun K z=>?_;simp [q];apply z)
     apply wN;apply u
     cases a0
     exact ⟨_,[],rfl,by simp [q]⟩
   ·refine O.cF' (by simp) g3 ?_
    refine O.exit ?_
    have i4:=congrArg some (g1 _ (Option.some.inj a0).symm)
    cases i4
    exact g0 _ () [] trivial (by simp [q])
  refine O.zR y fun K u=>?_
  iterate 2 (refine wC rfl fun K z=>?_;simp [q];apply z)
  apply wN;apply u
  cases h
  refine O.ret ?_
  simp [aC,iB,res46]
theorem res47:Tryz.f47.results.toList=[.tmp 4]:=rfl
theorem ent47:aE E.P 47:=eO Tryz.func47 (by simp [Tryz.f47]) rfl
theorem tW (a0:List GVar) (a1:ByteArray) {r0:Int} (h:oK a0 a1=some r0):Ok E 47 [.val (.sl false 3 (List.map GVar.enc a0)),.val (vs a1)] [vi r0] []:=by
 refine oB Tryz.func47 rfl (by simp [Tryz.f47]) fun C (q:C.N=20) hP=>?_
 have u:=aK hP
 unfold oK at h
 refine O.zR u fun K w=>?_
 refine wC rfl fun K z=>?_;simp [q];apply z
 apply wN;apply w
 obtain ⟨j5,b2,h⟩:=bS h
 refine O.seqC [] [] (fun v:Unit=>⟨[],[]⟩) (fun v=>j5=Sum.inl v) (fun v hv=>?_) fun K4 b3=>?_
 rotate_left
 ·refine O.zR u fun K w=>?_
  refine wC rfl fun K z=>?_;simp [q];apply z
  apply wN;apply w
  refine O.block ?_
  refine O.loopO [] [0,1,5] [] (fun v:Int=>⟨[(0,.t (.sl false 3 (List.map GVar.enc a0))),(1,.t (vs a1)),(5,.t (vi v))],[]⟩) (pH a0 a1) _ 0 b2 (by simp [q]) ?_
  intro g s9 h7 b1
  obtain ⟨i6,hg⟩:∃ y,y=g:=⟨_,rfl⟩
  subst hg
  simp only [pH] at h7
  try dsimp only
  refine O.seq ?_
  refine O.zR u fun K w=>?_
  iterate 4 (refine wC rfl fun K z=>?_;simp [q];apply z)
  apply wN;apply w
  rcases aA h7 with ⟨a6,h7⟩ | ⟨a7,h7⟩
  ·refine O.cT' (by simp) a6 ?_
   refine O.skip ?_
   refine O.seq ?_
   refine O.block ?_
   refine O.zR u fun K w=>?_
   iterate 2 (refine wC rfl fun K z=>?_;simp [q];apply z)
   obtain ⟨b6,a8,h7⟩:=bS h7
   obtain ⟨a2,a3,a4,a5⟩:=gS a8
   iterate 5 (refine wC rfl fun K z=>?_;simp [q,a2,a3,a4,a5];apply z)
   apply wN;apply w
   rcases aA h7 with ⟨a9,h7⟩ | ⟨b0,h7⟩
   ·refine O.cT' (by simp) a9 ?_
    refine O.zR u fun K w=>?_
    iterate 2 (refine wC rfl fun K z=>?_;simp [q];apply z)
    apply wN;apply w
    have b4:=congrArg some (b1 _ (Option.some.inj h7).symm)
    cases b4
    try dsimp only at h
    cases h
    refine O.ret ?_
    simp [aC,iB,res47]
   ·refine O.cF' (by simp) b0 ?_
    refine O.skip ?_
    refine O.zG u fun K w=>?_
    iterate 3 (refine wC rfl fun K z=>?_;simp [q];apply z)
    apply wN;apply w
    cases h7
    exact ⟨_,[],rfl,by simp [q]⟩
  ·refine O.cF' (by simp) a7 ?_
   refine O.exit ?_
   have b5:=congrArg some (b1 _ (Option.some.inj h7).symm)
   cases b5
   exact b3 _ _ [] rfl (by simp [q])
 subst hv
 obtain ⟨⟩:=v
 try dsimp only at h ⊢
 refine O.zR u fun K w=>?_
 refine wC rfl fun K z=>?_;simp [q];apply z
 apply wN;apply w
 cases h
 refine O.ret ?_
 simp [aC,iB,res47]
theorem res82:Tryz.f82.results.toList=[.tmp 4]:=rfl
theorem ent82:aE E.P 82:=eO Tryz.func82 (by simp [Tryz.f82]) rfl
theorem sM (a0:List ByteArray) (s2:ByteArray) {r0:Bool} (h:kH a0 s2=some r0):Ok E 82 [.val (.sl false 1 (List.map vs a0)),.val (vs s2)] [vb r0] []:=by
 refine oB Tryz.func82 rfl (by simp [Tryz.f82]) fun C (q:C.N=18) hP=>?_
 have u:=aK hP
 unfold kH at h
 refine O.zR u fun K w=>?_
 refine wC rfl fun K z=>?_;simp [q];apply z
 apply wN;apply w
 obtain ⟨j5,b1,h⟩:=bS h
 refine O.seqC [] [] (fun v:Unit=>⟨[],[]⟩) (fun v=>j5=Sum.inl v) (fun v hv=>?_) fun K4 b2=>?_
 rotate_left
 ·refine O.zR u fun K w=>?_
  refine wC rfl fun K z=>?_;simp [q];apply z
  apply wN;apply w
  refine O.block ?_
  refine O.loopO [] [0,1,5] [] (fun v:Int=>⟨[(0,.t (.sl false 1 (List.map vs a0))),(1,.t (vs s2)),(5,.t (vi v))],[]⟩) (fS a0 s2) _ 0 b1 (by simp [q]) ?_
  intro g s9 h7 b0
  obtain ⟨i6,hg⟩:∃ y,y=g:=⟨_,rfl⟩
  subst hg
  simp only [fS] at h7
  try dsimp only
  refine O.seq ?_
  refine O.zR u fun K w=>?_
  iterate 4 (refine wC rfl fun K z=>?_;simp [q];apply z)
  apply wN;apply w
  rcases aA h7 with ⟨a5,h7⟩ | ⟨a6,h7⟩
  ·refine O.cT' (by simp) a5 ?_
   refine O.skip ?_
   refine O.seq ?_
   refine O.block ?_
   refine O.zR u fun K w=>?_
   iterate 2 (refine wC rfl fun K z=>?_;simp [q];apply z)
   obtain ⟨b5,a7,h7⟩:=bS h7
   obtain ⟨a1,a2,a3,a4⟩:=gS a7
   iterate 4 (refine wC rfl fun K z=>?_;simp [q,a1,a2,a3,a4];apply z)
   apply wN;apply w
   rcases aA h7 with ⟨a8,h7⟩ | ⟨a9,h7⟩
   ·refine O.cT' (by simp) a8 ?_
    refine O.zR u fun K w=>?_
    refine wC rfl fun K z=>?_;simp [q];apply z
    apply wN;apply w
    have b3:=congrArg some (b0 _ (Option.some.inj h7).symm)
    cases b3
    try dsimp only at h
    cases h
    refine O.ret ?_
    simp [aC,iB,res82]
   ·refine O.cF' (by simp) a9 ?_
    refine O.skip ?_
    refine O.zG u fun K w=>?_
    iterate 3 (refine wC rfl fun K z=>?_;simp [q];apply z)
    apply wN;apply w
    cases h7
    exact ⟨_,[],rfl,by simp [q]⟩
  ·refine O.cF' (by simp) a6 ?_
   refine O.exit ?_
   have b4:=congrArg some (b0 _ (Option.some.inj h7).symm)
   cases b4
   exact b2 _ _ [] rfl (by simp [q])
 subst hv
 obtain ⟨⟩:=v
 try dsimp only at h ⊢
 refine O.zR u fun K w=>?_
 refine wC rfl fun K z=>?_;simp [q];apply z
 apply wN;apply w
 cases h
 refine O.ret ?_
 simp [aC,iB,res82]
theorem aGo:Tryz.f49.results.toList=[]:=rfl
theorem aPn:aE E.P 49:=eO Tryz.func49 (by simp [Tryz.f49]) rfl
theorem pF (a2:Gl07Seen→Int→Option (Gl07Seen)) (a4:∀ (a0:Gl07Seen) (a1:Int) {q0:Gl07Seen},a2 a0 a1=some q0→Ok E 49 [.ptr [.sl false 4 (List.map (GNode.enc false) a0.p.Nodes),.sl false 5 (List.map (GFn.enc false) a0.p.Fns),vi a0.fn,.sl false 1 (List.map vs a0.there),vb a0.bad],.val (vi a1)] [] [[.sl false 4 (List.map (GNode.enc false) q0.p.Nodes),.sl false 5 (List.map (GFn.enc false) q0.p.Fns),vi q0.fn,.sl false 1 (List.map vs q0.there),vb q0.bad]]) (s1:Gl07Seen) (k2:Int) {q0:Gl07Seen} (h:cX a2 s1 k2=some q0):Ok E 49 [.ptr [.sl false 4 (List.map (GNode.enc false) s1.p.Nodes),.sl false 5 (List.map (GFn.enc false) s1.p.Fns),vi s1.fn,.sl false 1 (List.map vs s1.there),vb s1.bad],.val (vi k2)] [] [[.sl false 4 (List.map (GNode.enc false) q0.p.Nodes),.sl false 5 (List.map (GFn.enc false) q0.p.Fns),vi q0.fn,.sl false 1 (List.map vs q0.there),vb q0.bad]]:=by
 refine oB Tryz.func49 rfl (by simp [Tryz.f49]) fun C (q:C.N=98) hP=>?_
 have y:=aK hP
 unfold cX at h
 refine O.zR y fun K u=>?_
 iterate 6 (refine wC rfl fun K z=>?_;simp [q];apply z)
 obtain ⟨e3,g9,h⟩:=bS h
 obtain ⟨d3,d4,d5,d6⟩:=gS g9
 iterate 4 (refine wC rfl fun K z=>?_;simp [q,d3,d4,d5,d6];apply z)
 apply wN;apply u
 obtain ⟨a6,h0,h⟩:=bS h
 refine O.seqC [0,4] [4,98] (fun _:Unit=>⟨[(0,.ref (.box 98) 0 []),(4,.ref (.box 4) 0 [])],[(4,[vi e3.Kind,vi e3.Num,vs e3.Name,.sl false 1 (List.map vi e3.Kids)]),(98,[.sl false 4 (List.map (GNode.enc false) a6.p.Nodes),.sl false 5 (List.map (GFn.enc false) a6.p.Fns),vi a6.fn,.sl false 1 (List.map vs a6.there),vb a6.bad])]⟩) (fun _=>True) (fun _ _=>?_) fun K5 h1=>?_
 rotate_left
 ·refine O.zR y fun K u=>?_
  refine wC rfl fun K z=>?_;simp [q];apply z
  apply wN;apply u
  refine O.block ?_
  refine O.loopO [] [0,4,5] [4,98] (fun v:Int × Gl07Seen=>⟨[(0,.ref (.box 98) 0 []),(4,.ref (.box 4) 0 []),(5,.t (vi v.1))],[(4,[vi e3.Kind,vi e3.Num,vs e3.Name,.sl false 1 (List.map vi e3.Kids)]),(98,[.sl false 4 (List.map (GNode.enc false) v.2.p.Nodes),.sl false 5 (List.map (GFn.enc false) v.2.p.Fns),vi v.2.fn,.sl false 1 (List.map vs v.2.there),vb v.2.bad])]⟩) (bC a2 e3) _ (0,(⟨s1.p,s1.fn,s1.there,s1.bad⟩:Gl07Seen)) h0 (by simp [q]) ?_
  intro g h4 h9 d7
  obtain ⟨i7,v8⟩:=g
  simp only [bC] at h9
  try dsimp only
  refine O.seq ?_
  refine O.zR y fun K u=>?_
  iterate 5 (refine wC rfl fun K z=>?_;simp [q];apply z)
  apply wN;apply u
  rcases aA h9 with ⟨d8,h9⟩ | ⟨d9,h9⟩
  ·refine O.cT' (by simp) d8 ?_
   refine O.skip ?_
   refine O.seq ?_
   refine O.block ?_
   refine O.zG y fun K u=>?_
   iterate 4 (refine wC rfl fun K z=>?_;simp [q];apply z)
   obtain ⟨h5,e0,h9⟩:=bS h9
   obtain ⟨c9,d0,d1,d2⟩:=gS e0
   iterate 2 (refine wC rfl fun K z=>?_;simp [q,c9,d0,d1,d2];apply z)
   obtain ⟨h6,e1,h9⟩:=bS h9
   refine wL [((.ptr 5),.tmp 22),(.take,.tmp 27)] rfl rfl aPn (a4 _ _ e1) fun K z=>?_;simp [q,c9,d0,d1,d2];apply z
   apply wN;apply u
   refine O.zG y fun K u=>?_
   iterate 3 (refine wC rfl fun K z=>?_;simp [q];apply z)
   apply wN;apply u
   cases h9
   exact ⟨_,[],rfl,by simp [q]⟩
  ·refine O.cF' (by simp) d9 ?_
   refine O.exit ?_
   have h2:=congrArg some (d7 _ (Option.some.inj h9).symm)
   cases h2
   exact h1 _ () [] trivial (by simp [q])
 refine O.zR y fun K u=>?_
 iterate 2 (refine wC rfl fun K z=>?_;simp [q];apply z)
 apply wN;apply u
 refine O.block ?_
 obtain ⟨h3,a5,h⟩:=bS h
 refine O.seqC [0,4,30,31] [4,98] (fun _:Unit=>⟨[(0,.ref (.box 98) 0 []),(4,.ref (.box 4) 0 []),(30,.t (vi e3.Kind)),(31,.t (vb h3))],[(4,[vi e3.Kind,vi e3.Num,vs e3.Name,.sl false 1 (List.map vi e3.Kids)]),(98,[.sl false 4 (List.map (GNode.enc false) a6.p.Nodes),.sl false 5 (List.map (GFn.enc false) a6.p.Fns),vi a6.fn,.sl false 1 (List.map vs a6.there),vb a6.bad])]⟩) (fun _=>True) (fun _ _=>?_) fun h7 c3=>?_
 rotate_left
 ·refine O.zR y fun K u=>?_
  iterate 2 (refine wC rfl fun K z=>?_;simp [q];apply z)
  apply wN;apply u
  rcases aA a5 with ⟨e2,a5⟩ | ⟨e4,a5⟩
  ·refine O.cT' (by simp) e2 ?_
   refine O.skip ?_
   cases a5
   exact c3 _ () [] trivial (by simp [q])
  ·refine O.cF' (by simp) e4 ?_
   refine O.zR y fun K u=>?_
   iterate 2 (refine wC rfl fun K z=>?_;simp [q];apply z)
   apply wN;apply u
   rcases aA a5 with ⟨e5,a5⟩ | ⟨e6,a5⟩
   ·refine O.cT' (by simp) e5 ?_
    refine O.skip ?_
    cases a5
    exact c3 _ () [] trivial (by simp [q])
   ·refine O.cF' (by simp) e6 ?_
    refine O.zR y fun K u=>?_
    iterate 2 (refine wC rfl fun K z=>?_;simp [q];apply z)
    apply wN;apply u
    rcases aA a5 with ⟨e7,a5⟩ | ⟨e8,a5⟩
    ·refine O.cT' (by simp) e7 ?_
     refine O.skip ?_
     cases a5
     exact c3 _ () [] trivial (by simp [q])
    ·refine O.cF' (by simp) e8 ?_
     refine O.zR y fun K u=>?_
     iterate 2 (refine wC rfl fun K z=>?_;simp [q];apply z)
     apply wN;apply u
     rcases aA a5 with ⟨e9,a5⟩ | ⟨g0,a5⟩
     ·refine O.cT' (by simp) e9 ?_
      refine O.skip ?_
      cases a5
      exact c3 _ () [] trivial (by simp [q])
     ·refine O.cF' (by simp) g0 ?_
      refine O.zG y fun K u=>?_
      iterate 2 (refine wC rfl fun K z=>?_;simp [q];apply z)
      apply wN;apply u
      cases a5
      exact c3 _ () [] trivial (by simp [q])
 rcases aA h with ⟨g1,h⟩ | ⟨g2,h⟩
 ·refine O.cT' (by simp) g1 ?_
  rcases aA h with ⟨b8,h⟩ | ⟨b9,h⟩
  ·have b0:=b8
   try simp at b0
   refine O.dT rfl (y _ rfl) [(37,.ref (.box 98) 0 []),(38,.ref (.box 98) 0 []),(39,.ref (.box 98) 0 []),(40,.ref (.box 98) 4 []),(41,.t (vb a6.bad)),(42,.t (vb a6.bad)),(43,.tup []),(44,.tup []),(45,.tup []),(46,.tup []),(47,.tup []),(48,.tup []),(49,.tup []),(50,.tup []),(51,.t (vb true))] [[],[],[1],[1,2],[1,2,3],[1,2,3,4],[1,2,3,4,5],[1,2,3,4,5,6],[1,2,3,4,5,6,7],[1,2,3,4,5,6,7,8],[1,2,3,4,5],[1,2,3,4,5,10],[1,2,3,4,5,6,7,8,9,10,11],[1,2,3,4,5,6,7,8,9,10,11,12],[1,2,3,4,5,6,7,8,9,10,11,12,13],[0,1,2,3,4,5,6,7,8,9,10,11,12,13,14],[0,1,2,3,4,5,6,7,8,9,10,11,12,13,14,15],[0,1,2,3,4,5,6,7,8,9,10,11,12,13,14,15,16]] (by simp) (by simp) (by simp [look]) rfl rfl rfl ?_ fun K u=>?_
   ·refine ⟨?_,?_,?_,?_,?_,?_,?_,?_,?_,?_,?_,?_,?_,?_,?_,trivial⟩
    all_goals (intro τ hbx hb hd hf K u;try simp [aH] at hd;simp [aH] at hf;first | (refine wC rfl fun K' w=>?_;simp [q,hbx,hb,hd,hf,b8,b0];exact w _ (wN (u _ (by simp [aH,hbx,b8,b0])))) | (refine wO fun K' w=>?_;simp [q,hbx,hb,hd,hf,b8,b0];exact w _ (wN (u _ (by simp [aH,hbx,b8,b0])))))
   iterate 3 (refine wC rfl fun K z=>?_;simp [q,b8,b0];apply z)
   apply wN;apply u
   cases h
   simp [aC,iB,aGo]
  ·have b1:=b9
   try simp at b1
   obtain ⟨g3,g4,h⟩:=bS h
   refine O.dT rfl (y _ rfl) [(37,.ref (.box 98) 0 []),(38,.ref (.box 98) 0 []),(39,.ref (.box 98) 0 []),(40,.ref (.box 98) 4 []),(41,.t (vb a6.bad)),(42,.t (vb a6.bad)),(43,.ref (.box 98) 0 []),(44,.ref (.box 98) 0 []),(45,.ref (.box 98) 3 []),(46,.t (.sl false 1 (List.map vs a6.there))),(47,.ref (.box 4) 2 []),(48,.t (vs e3.Name)),(49,.t (vb g3)),(50,.t (vb (!g3))),(51,.t (vb (!g3)))] [[],[],[1],[1,2],[1,2,3],[1,2,3,4],[1,2,3,4,5],[1,2,3,4,5,6],[1,2,3,4,5,6,7],[1,2,3,4,5,6,7,8],[1,2,3,4,5],[1,2,3,4,5,10],[1,2,3,4,5,6,7,8,9,10,11],[1,2,3,4,5,6,7,8,9,10,11,12],[1,2,3,4,5,6,7,8,9,10,11,12,13],[0,1,2,3,4,5,6,7,8,9,10,11,12,13,14],[0,1,2,3,4,5,6,7,8,9,10,11,12,13,14,15],[0,1,2,3,4,5,6,7,8,9,10,11,12,13,14,15,16]] (by simp) (by simp) (by simp [look]) rfl rfl rfl ?_ fun K u=>?_
   ·refine ⟨?_,?_,?_,?_,?_,?_,?_,?_,?_,?_,?_,?_,?_,?_,?_,trivial⟩
    all_goals (intro τ hbx hb hd hf K u;try simp [aH] at hd;simp [aH] at hf;first | (refine wC rfl fun K' w=>?_;simp [q,hbx,hb,hd,hf,b9,b1];exact w _ (wN (u _ (by simp [aH,hbx,b9,b1])))) | (refine wL [(.take,.tmp 46),(.take,.tmp 48)] rfl rfl ent82 (sM _ _ g4) fun K' w=>?_;simp [q,hbx,hb,hd,hf,b9,b1];exact w _ (wN (u _ (by simp [aH,hbx,b9,b1])))))
   iterate 3 (refine wC rfl fun K z=>?_;simp [q,b9,b1];apply z)
   apply wN;apply u
   cases h
   simp [aC,iB,aGo]
 ·refine O.cF' (by simp) g2 ?_
  refine O.zR y fun K u=>?_
  iterate 2 (refine wC rfl fun K z=>?_;simp [q];apply z)
  apply wN;apply u
  rcases aA h with ⟨g5,h⟩ | ⟨g6,h⟩
  ·refine O.cT' (by simp) g5 ?_
   refine O.seq ?_
   refine O.dT rfl (y _ rfl) [(56,.ref (.box 98) 0 []),(57,.ref (.box 98) 0 []),(58,.ref (.box 98) 0 []),(59,.t (GProgram.enc false a6.p)),(60,.ref (.box 4) 2 []),(61,.t (vs e3.Name))] [[],[0],[0,1],[0,1,2],[],[4],[0,1,2,3,4,5],[0,1,2,3,4,5,6]] (by simp) (by simp) (by simp [look]) rfl rfl rfl ?_ fun K u=>?_
   ·refine ⟨?_,?_,?_,?_,?_,?_,trivial⟩
    all_goals (intro τ hbx hb hd hf K u;try simp [aH] at hd;simp [aH] at hf;first | (refine wC rfl fun K' w=>?_;simp [q,hbx,hb,hd,hf];exact w _ (wN (u _ (by simp [aH,hbx])))))
   obtain ⟨a9,g7,h⟩:=bS h
   refine wL [(.take,.tmp 59),(.take,.tmp 61)] rfl rfl aPp (qU _ _ g7) fun K z=>?_;simp [q];apply z
   refine wC rfl fun K z=>?_;simp [q];apply z
   apply wN;apply u
   rcases aA h with ⟨c0,h⟩ | ⟨a7,h⟩
   ·have b2:=c0
    try simp at b2
    refine O.dT rfl (y _ rfl) [(63,.ref (.box 98) 0 []),(64,.ref (.box 98) 0 []),(65,.ref (.box 98) 0 []),(66,.ref (.box 98) 4 []),(67,.t (vb a6.bad)),(68,.t (vb a6.bad)),(69,.tup []),(70,.tup []),(71,.t (vb true)),(72,.t (vb true)),(73,.tup []),(74,.tup []),(75,.tup []),(76,.tup []),(77,.tup []),(78,.tup []),(79,.t (vb true)),(80,.t (vb true)),(81,.tup []),(82,.tup []),(83,.tup []),(84,.tup []),(85,.tup []),(86,.tup []),(87,.tup []),(88,.tup []),(89,.tup []),(90,.tup []),(91,.tup []),(92,.tup []),(93,.tup []),(94,.tup []),(95,.t (vb true))] [[],[],[1],[1,2],[1,2,3],[1,2,3,4],[1,2,3,4,5],[1,2,3,4,5,6],[1,2,3,4,5,6,7],[1,2,3,4,5,6,7,8],[1,2,3,4,5,6,7,8,9],[1,2,3,4,5,6,7,8,9],[1,2,3,4,5,6,7,8,9,11],[1,2,3,4,5,6,7,8,9,11,12],[1,2,3,4,5,6,7,8,9,11,12,13],[1,2,3,4,5,6,7,8,9,10,11,12,13,14],[1,2,3,4,5,6,7,8,9,10,11,12,13,14,15],[1,2,3,4,5,6,7,8,9,10,11,12,13,14,15,16],[1,2,3,4,5,6,7,8,9,10,11,12,13,14,15,16,17],[1,2,3,4,5,6,7,8,9,10,11,12,13,14,15,16,17,18],[1,2,3,4,5,6,7,8,9,10,11,12,13,14,15,16,17,18,19],[1,2,3,4,5,6,7,8,9,10,11,12,13,14,15,16,17,18,19,20],[1,2,3,4,5,6,7,8,9,10,11,12,13,14,15,16,17,18,19,20,21],[1,2,3,4,5,6,7,8,9,10,11,12,13,14,15,16,17],[1,2,3,4,5,6,7,8,9,10,11,12,13,14,15,16,17,18,19,20,21,22,23],[1,2,3,4,5,6,7,8,9,10,11,12,13,14,15,16,17,18,19,20,21,22,23,24],[1,2,3,4,5,6,7,8,9,10,11,12,13,14,15,16,17,18,19,20,21,22,23,24,25],[1,2,3,4,5,6,7,8,9,10,11,12,13,14,15,16,17,18,19,20,21,22,23,24,25,26],[1,2,3,4,5,6,7,8,9,10,11,12,13,14,15,16,17],[1,2,3,4,5,6,7,8,9,10,11,12,13,14,15,16,17,28],[1,2,3,4,5,6,7,8,9,10,11,12,13,14,15,16,17,28,29],[1,2,3,4,5,6,7,8,9,10,11,12,13,14,15,16,17,18,19,20,21,22,23,24,25,26,27,28,29,30],[1,2,3,4,5,6,7,8,9,10,11,12,13,14,15,16,17,18,19,20,21,22,23,24,25,26,27,28,29,30,31],[0,1,2,3,4,5,6,7,8,9,10,11,12,13,14,15,16,17,18,19,20,21,22,23,24,25,26,27,28,29,30,31,32],[0,1,2,3,4,5,6,7,8,9,10,11,12,13,14,15,16,17,18,19,20,21,22,23,24,25,26,27,28,29,30,31,32,33],[0,1,2,3,4,5,6,7,8,9,10,11,12,13,14,15,16,17,18,19,20,21,22,23,24,25,26,27,28,29,30,31,32,33,34]] (by simp) (by simp) (by simp [look]) rfl rfl rfl ?_ fun K u=>?_
    ·refine ⟨?_,?_,?_,?_,?_,?_,?_,?_,?_,?_,?_,?_,?_,?_,?_,?_,?_,?_,?_,?_,?_,?_,?_,?_,?_,?_,?_,?_,?_,?_,?_,?_,?_,trivial⟩
     all_goals (intro τ hbx hb hd hf K u;try simp [aH] at hd;simp [aH] at hf;first | (refine wC rfl fun K' w=>?_;simp [q,hbx,hb,hd,hf,c0,b2];exact w _ (wN (u _ (by simp [aH,hbx,c0,b2])))) | (refine wO fun K' w=>?_;simp [q,hbx,hb,hd,hf,c0,b2];exact w _ (wN (u _ (by simp [aH,hbx,c0,b2])))))
    iterate 3 (refine wC rfl fun K z=>?_;simp [q,c0,b2];apply z)
    apply wN;apply u
    cases h
    simp [aC,iB,aGo]
   ·have a3:=a7
    try simp at a3
    rcases aA h with ⟨c1,h⟩ | ⟨b5,h⟩
    ·have b3:=c1
     try simp at b3
     refine O.dT rfl (y _ rfl) [(63,.ref (.box 98) 0 []),(64,.ref (.box 98) 0 []),(65,.ref (.box 98) 0 []),(66,.ref (.box 98) 4 []),(67,.t (vb a6.bad)),(68,.t (vb a6.bad)),(69,.t (vi a9)),(70,.t (vb (decide (a9 < 0)))),(71,.t (vb (decide (a9 < 0)))),(72,.t (vb (decide (a9 < 0)))),(73,.tup []),(74,.tup []),(75,.tup []),(76,.tup []),(77,.tup []),(78,.tup []),(79,.t (vb true)),(80,.t (vb true)),(81,.tup []),(82,.tup []),(83,.tup []),(84,.tup []),(85,.tup []),(86,.tup []),(87,.tup []),(88,.tup []),(89,.tup []),(90,.tup []),(91,.tup []),(92,.tup []),(93,.tup []),(94,.tup []),(95,.t (vb true))] [[],[],[1],[1,2],[1,2,3],[1,2,3,4],[1,2,3,4,5],[1,2,3,4,5,6],[1,2,3,4,5,6,7],[1,2,3,4,5,6,7,8],[1,2,3,4,5,6,7,8,9],[1,2,3,4,5,6,7,8,9],[1,2,3,4,5,6,7,8,9,11],[1,2,3,4,5,6,7,8,9,11,12],[1,2,3,4,5,6,7,8,9,11,12,13],[1,2,3,4,5,6,7,8,9,10,11,12,13,14],[1,2,3,4,5,6,7,8,9,10,11,12,13,14,15],[1,2,3,4,5,6,7,8,9,10,11,12,13,14,15,16],[1,2,3,4,5,6,7,8,9,10,11,12,13,14,15,16,17],[1,2,3,4,5,6,7,8,9,10,11,12,13,14,15,16,17,18],[1,2,3,4,5,6,7,8,9,10,11,12,13,14,15,16,17,18,19],[1,2,3,4,5,6,7,8,9,10,11,12,13,14,15,16,17,18,19,20],[1,2,3,4,5,6,7,8,9,10,11,12,13,14,15,16,17,18,19,20,21],[1,2,3,4,5,6,7,8,9,10,11,12,13,14,15,16,17],[1,2,3,4,5,6,7,8,9,10,11,12,13,14,15,16,17,18,19,20,21,22,23],[1,2,3,4,5,6,7,8,9,10,11,12,13,14,15,16,17,18,19,20,21,22,23,24],[1,2,3,4,5,6,7,8,9,10,11,12,13,14,15,16,17,18,19,20,21,22,23,24,25],[1,2,3,4,5,6,7,8,9,10,11,12,13,14,15,16,17,18,19,20,21,22,23,24,25,26],[1,2,3,4,5,6,7,8,9,10,11,12,13,14,15,16,17],[1,2,3,4,5,6,7,8,9,10,11,12,13,14,15,16,17,28],[1,2,3,4,5,6,7,8,9,10,11,12,13,14,15,16,17,28,29],[1,2,3,4,5,6,7,8,9,10,11,12,13,14,15,16,17,18,19,20,21,22,23,24,25,26,27,28,29,30],[1,2,3,4,5,6,7,8,9,10,11,12,13,14,15,16,17,18,19,20,21,22,23,24,25,26,27,28,29,30,31],[0,1,2,3,4,5,6,7,8,9,10,11,12,13,14,15,16,17,18,19,20,21,22,23,24,25,26,27,28,29,30,31,32],[0,1,2,3,4,5,6,7,8,9,10,11,12,13,14,15,16,17,18,19,20,21,22,23,24,25,26,27,28,29,30,31,32,33],[0,1,2,3,4,5,6,7,8,9,10,11,12,13,14,15,16,17,18,19,20,21,22,23,24,25,26,27,28,29,30,31,32,33,34]] (by simp) (by simp) (by simp [look]) rfl rfl rfl ?_ fun K u=>?_
     ·refine ⟨?_,?_,?_,?_,?_,?_,?_,?_,?_,?_,?_,?_,?_,?_,?_,?_,?_,?_,?_,?_,?_,?_,?_,?_,?_,?_,?_,?_,?_,?_,?_,?_,?_,trivial⟩
      all_goals (intro τ hbx hb hd hf K u;try simp [aH] at hd;simp [aH] at hf;first | (refine wC rfl fun K' w=>?_;simp [q,hbx,hb,hd,hf,a7,a3,c1,b3];exact w _ (wN (u _ (by simp [aH,hbx,a7,a3,c1,b3])))) | (refine wO fun K' w=>?_;simp [q,hbx,hb,hd,hf,a7,a3,c1,b3];exact w _ (wN (u _ (by simp [aH,hbx,a7,a3,c1,b3])))))
     iterate 3 (refine wC rfl fun K z=>?_;simp [q,a7,a3,c1,b3];apply z)
     apply wN;apply u
     cases h
     simp [aC,iB,aGo]
    ·have a8:=b5
     try simp at a8
     rcases aA h with ⟨c2,h⟩ | ⟨c8,h⟩
     ·have b4:=c2
      try simp at b4
      refine O.dT rfl (y _ rfl) [(63,.ref (.box 98) 0 []),(64,.ref (.box 98) 0 []),(65,.ref (.box 98) 0 []),(66,.ref (.box 98) 4 []),(67,.t (vb a6.bad)),(68,.t (vb a6.bad)),(69,.t (vi a9)),(70,.t (vb (decide (a9 < 0)))),(71,.t (vb (decide (a9 < 0)))),(72,.t (vb (decide (a9 < 0)))),(73,.t (vi a9)),(74,.ref (.box 98) 0 []),(75,.ref (.box 98) 0 []),(76,.ref (.box 98) 2 []),(77,.t (vi a6.fn)),(78,.t (vb (decide (a9 ≥ a6.fn)))),(79,.t (vb (decide (a9 ≥ a6.fn)))),(80,.t (vb (decide (a9 ≥ a6.fn)))),(81,.tup []),(82,.tup []),(83,.tup []),(84,.tup []),(85,.tup []),(86,.tup []),(87,.tup []),(88,.tup []),(89,.tup []),(90,.tup []),(91,.tup []),(92,.tup []),(93,.tup []),(94,.tup []),(95,.t (vb true))] [[],[],[1],[1,2],[1,2,3],[1,2,3,4],[1,2,3,4,5],[1,2,3,4,5,6],[1,2,3,4,5,6,7],[1,2,3,4,5,6,7,8],[1,2,3,4,5,6,7,8,9],[1,2,3,4,5,6,7,8,9],[1,2,3,4,5,6,7,8,9,11],[1,2,3,4,5,6,7,8,9,11,12],[1,2,3,4,5,6,7,8,9,11,12,13],[1,2,3,4,5,6,7,8,9,10,11,12,13,14],[1,2,3,4,5,6,7,8,9,10,11,12,13,14,15],[1,2,3,4,5,6,7,8,9,10,11,12,13,14,15,16],[1,2,3,4,5,6,7,8,9,10,11,12,13,14,15,16,17],[1,2,3,4,5,6,7,8,9,10,11,12,13,14,15,16,17,18],[1,2,3,4,5,6,7,8,9,10,11,12,13,14,15,16,17,18,19],[1,2,3,4,5,6,7,8,9,10,11,12,13,14,15,16,17,18,19,20],[1,2,3,4,5,6,7,8,9,10,11,12,13,14,15,16,17,18,19,20,21],[1,2,3,4,5,6,7,8,9,10,11,12,13,14,15,16,17],[1,2,3,4,5,6,7,8,9,10,11,12,13,14,15,16,17,18,19,20,21,22,23],[1,2,3,4,5,6,7,8,9,10,11,12,13,14,15,16,17,18,19,20,21,22,23,24],[1,2,3,4,5,6,7,8,9,10,11,12,13,14,15,16,17,18,19,20,21,22,23,24,25],[1,2,3,4,5,6,7,8,9,10,11,12,13,14,15,16,17,18,19,20,21,22,23,24,25,26],[1,2,3,4,5,6,7,8,9,10,11,12,13,14,15,16,17],[1,2,3,4,5,6,7,8,9,10,11,12,13,14,15,16,17,28],[1,2,3,4,5,6,7,8,9,10,11,12,13,14,15,16,17,28,29],[1,2,3,4,5,6,7,8,9,10,11,12,13,14,15,16,17,18,19,20,21,22,23,24,25,26,27,28,29,30],[1,2,3,4,5,6,7,8,9,10,11,12,13,14,15,16,17,18,19,20,21,22,23,24,25,26,27,28,29,30,31],[0,1,2,3,4,5,6,7,8,9,10,11,12,13,14,15,16,17,18,19,20,21,22,23,24,25,26,27,28,29,30,31,32],[0,1,2,3,4,5,6,7,8,9,10,11,12,13,14,15,16,17,18,19,20,21,22,23,24,25,26,27,28,29,30,31,32,33],[0,1,2,3,4,5,6,7,8,9,10,11,12,13,14,15,16,17,18,19,20,21,22,23,24,25,26,27,28,29,30,31,32,33,34]] (by simp) (by simp) (by simp [look]) rfl rfl rfl ?_ fun K u=>?_
      ·refine ⟨?_,?_,?_,?_,?_,?_,?_,?_,?_,?_,?_,?_,?_,?_,?_,?_,?_,?_,?_,?_,?_,?_,?_,?_,?_,?_,?_,?_,?_,?_,?_,?_,?_,trivial⟩
       all_goals (intro τ hbx hb hd hf K u;try simp [aH] at hd;simp [aH] at hf;first | (refine wC rfl fun K' w=>?_;simp [q,hbx,hb,hd,hf,a7,a3,b5,a8,c2,b4];exact w _ (wN (u _ (by simp [aH,hbx,a7,a3,b5,a8,c2,b4])))) | (refine wO fun K' w=>?_;simp [q,hbx,hb,hd,hf,a7,a3,b5,a8,c2,b4];exact w _ (wN (u _ (by simp [aH,hbx,a7,a3,b5,a8,c2,b4])))))
      iterate 3 (refine wC rfl fun K z=>?_;simp [q,a7,a3,b5,a8,c2,b4];apply z)
      apply wN;apply u
      cases h
      simp [aC,iB,aGo]
     ·have b6:=c8
      try simp at b6
      obtain ⟨b7,g8,h⟩:=bS h
      obtain ⟨c4,c5,c6,c7⟩:=gS g8
      refine O.dT rfl (y _ rfl) [(63,.ref (.box 98) 0 []),(64,.ref (.box 98) 0 []),(65,.ref (.box 98) 0 []),(66,.ref (.box 98) 4 []),(67,.t (vb a6.bad)),(68,.t (vb a6.bad)),(69,.t (vi a9)),(70,.t (vb (decide (a9 < 0)))),(71,.t (vb (decide (a9 < 0)))),(72,.t (vb (decide (a9 < 0)))),(73,.t (vi a9)),(74,.ref (.box 98) 0 []),(75,.ref (.box 98) 0 []),(76,.ref (.box 98) 2 []),(77,.t (vi a6.fn)),(78,.t (vb (decide (a9 ≥ a6.fn)))),(79,.t (vb (decide (a9 ≥ a6.fn)))),(80,.t (vb (decide (a9 ≥ a6.fn)))),(81,.ref (.box 98) 0 []),(82,.ref (.box 98) 0 []),(83,.ref (.box 98) 0 []),(84,.ref (.box 98) 1 []),(85,.t (.sl false 5 (List.map (GFn.enc false) a6.p.Fns))),(86,.t (vi a9)),(87,.rop [vs b7.Name,.sl false 2 (List.map GParam.enc b7.Params),vi b7.Res,vi b7.Body,vi b7.Ret] 0),(88,.rop [vs b7.Name,.sl false 2 (List.map GParam.enc b7.Params),vi b7.Res,vi b7.Body,vi b7.Ret] 1),(89,.t (.sl false 2 (List.map GParam.enc b7.Params))),(90,.t (vi (b7.Params.length:Int))),(91,.ref (.box 4) 3 []),(92,.t (.sl false 1 (List.map vi e3.Kids))),(93,.t (vi (e3.Kids.length:Int))),(94,.t (vb ((b7.Params.length:Int) != (e3.Kids.length:Int)))),(95,.t (vb ((b7.Params.length:Int) != (e3.Kids.length:Int))))] [[],[],[1],[1,2],[1,2,3],[1,2,3,4],[1,2,3,4,5],[1,2,3,4,5,6],[1,2,3,4,5,6,7],[1,2,3,4,5,6,7,8],[1,2,3,4,5,6,7,8,9],[1,2,3,4,5,6,7,8,9],[1,2,3,4,5,6,7,8,9,11],[1,2,3,4,5,6,7,8,9,11,12],[1,2,3,4,5,6,7,8,9,11,12,13],[1,2,3,4,5,6,7,8,9,10,11,12,13,14],[1,2,3,4,5,6,7,8,9,10,11,12,13,14,15],[1,2,3,4,5,6,7,8,9,10,11,12,13,14,15,16],[1,2,3,4,5,6,7,8,9,10,11,12,13,14,15,16,17],[1,2,3,4,5,6,7,8,9,10,11,12,13,14,15,16,17,18],[1,2,3,4,5,6,7,8,9,10,11,12,13,14,15,16,17,18,19],[1,2,3,4,5,6,7,8,9,10,11,12,13,14,15,16,17,18,19,20],[1,2,3,4,5,6,7,8,9,10,11,12,13,14,15,16,17,18,19,20,21],[1,2,3,4,5,6,7,8,9,10,11,12,13,14,15,16,17],[1,2,3,4,5,6,7,8,9,10,11,12,13,14,15,16,17,18,19,20,21,22,23],[1,2,3,4,5,6,7,8,9,10,11,12,13,14,15,16,17,18,19,20,21,22,23,24],[1,2,3,4,5,6,7,8,9,10,11,12,13,14,15,16,17,18,19,20,21,22,23,24,25],[1,2,3,4,5,6,7,8,9,10,11,12,13,14,15,16,17,18,19,20,21,22,23,24,25,26],[1,2,3,4,5,6,7,8,9,10,11,12,13,14,15,16,17],[1,2,3,4,5,6,7,8,9,10,11,12,13,14,15,16,17,28],[1,2,3,4,5,6,7,8,9,10,11,12,13,14,15,16,17,28,29],[1,2,3,4,5,6,7,8,9,10,11,12,13,14,15,16,17,18,19,20,21,22,23,24,25,26,27,28,29,30],[1,2,3,4,5,6,7,8,9,10,11,12,13,14,15,16,17,18,19,20,21,22,23,24,25,26,27,28,29,30,31],[0,1,2,3,4,5,6,7,8,9,10,11,12,13,14,15,16,17,18,19,20,21,22,23,24,25,26,27,28,29,30,31,32],[0,1,2,3,4,5,6,7,8,9,10,11,12,13,14,15,16,17,18,19,20,21,22,23,24,25,26,27,28,29,30,31,32,33],[0,1,2,3,4,5,6,7,8,9,10,11,12,13,14,15,16,17,18,19,20,21,22,23,24,25,26,27,28,29,30,31,32,33,34]] (by simp) (by simp) (by simp [look]) rfl rfl rfl ?_ fun K u=>?_
      ·refine ⟨?_,?_,?_,?_,?_,?_,?_,?_,?_,?_,?_,?_,?_,?_,?_,?_,?_,?_,?_,?_,?_,?_,?_,?_,?_,?_,?_,?_,?_,?_,?_,?_,?_,trivial⟩
       all_goals (intro τ hbx hb hd hf K u;try simp [aH] at hd;simp [aH] at hf;first | (refine wC rfl fun K' w=>?_;simp [q,hbx,hb,hd,hf,a7,a3,b5,a8,c8,b6,c4,c5,c6,c7];exact w _ (wN (u _ (by simp [aH,hbx,a7,a3,b5,a8,c8,b6,c4,c5,c6,c7])))))
      iterate 3 (refine wC rfl fun K z=>?_;simp [q,a7,a3,b5,a8,c8,b6,c4,c5,c6,c7];apply z)
      apply wN;apply u
      cases h
      simp [aC,iB,aGo]
  ·refine O.cF' (by simp) g6 ?_
   refine O.skip ?_
   cases h
   simp [aC,iB,aGo]
theorem iJ:∀ n:Nat,(∀ (a0:Gl07Seen) (a1:Int) {q0:Gl07Seen},(aV n) a0 a1=some q0→Ok E 49 [.ptr [.sl false 4 (List.map (GNode.enc false) a0.p.Nodes),.sl false 5 (List.map (GFn.enc false) a0.p.Fns),vi a0.fn,.sl false 1 (List.map vs a0.there),vb a0.bad],.val (vi a1)] [] [[.sl false 4 (List.map (GNode.enc false) q0.p.Nodes),.sl false 5 (List.map (GFn.enc false) q0.p.Fns),vi q0.fn,.sl false 1 (List.map vs q0.there),vb q0.bad]])
 | 0=>(by intros;rename_i h;cases h)
 | n + 1=>pF (aV n) (iJ n)
theorem kS:∀ (a0:Gl07Seen) (a1:Int) {q0:Gl07Seen},eF a0 a1=some q0→Ok E 49 [.ptr [.sl false 4 (List.map (GNode.enc false) a0.p.Nodes),.sl false 5 (List.map (GFn.enc false) a0.p.Fns),vi a0.fn,.sl false 1 (List.map vs a0.there),vb a0.bad],.val (vi a1)] [] [[.sl false 4 (List.map (GNode.enc false) q0.p.Nodes),.sl false 5 (List.map (GFn.enc false) q0.p.Fns),vi q0.fn,.sl false 1 (List.map vs q0.there),vb q0.bad]]:=(iJ eK)
end Go.Proofs.T
