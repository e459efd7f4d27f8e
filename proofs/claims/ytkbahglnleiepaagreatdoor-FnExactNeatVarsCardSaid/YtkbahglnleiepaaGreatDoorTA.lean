import Derived.Test.YtkbahglnleiepaaGreatDoorOmC
import Derived.Lib.Split
import Derived.Lib.ItoaNum
import Derived.Test.YtkbahglnleiepaaGreatDoorProg
import Derived.KernelRfl
set_option linter.unusedVariables false
set_option linter.unusedSimpArgs false
set_option linter.unusedVariables false
noncomputable section
namespace Go.OM
def strconv_Itoa (n:Int):Option ByteArray:=if -9223372036854775808 ≤ n∧n ≤ 9223372036854775807 then some ⟨(Lib.itoa n).toArray⟩ else none
def strings_Split (s sep:ByteArray):Option (List ByteArray):=if s.size < 4294967281∧1 ≤ sep.size∧(Lib.splitB sep 0 (Lib.countB s sep) s).length=Lib.countB s sep + 1 then some (Lib.splitB sep 0 (Lib.countB s sep) s) else none
end Go.OM
end
namespace Go.OM
def sort_Ints (l:List Int):Option (List Int):=if l.length < 4611686018427387904 then some (l.mergeSort fun x y=>decide (x ≤ y)) else none
end Go.OM
set_option linter.unusedSimpArgs false
namespace Go.OM
def iA:Nat:=1048576
abbrev vi (n:Int):T:=.v (.int .i64 n)
abbrev vk (k:IntKind) (n:Int):T:=.v (.int k n)
abbrev vb (b:Bool):T:=.v (.bool b)
abbrev vs (z:ByteArray):T:=.v (.string z)
abbrev eSl {α:Type} (o:Bool) (s:Nat) (f:α→T) (l:List α):T:=.sl o s (l.map f)
@[simp] theorem own_vi (l:List Int):T.hasOwnL (l.map vi)=false:=cM vi (fun _=>rfl) l
@[simp] theorem own_vk (k:IntKind) (l:List Int):T.hasOwnL (l.map (vk k))=false:=cM _ (fun _=>rfl) l
@[simp] theorem own_vb (l:List Bool):T.hasOwnL (l.map vb)=false:=cM _ (fun _=>rfl) l
@[simp] theorem own_vs (l:List ByteArray):T.hasOwnL (l.map vs)=false:=cM _ (fun _=>rfl) l
@[simp] theorem ro_vi (l:List Int):T.roL (l.map vi)=l.map vi:=iU _ _ (fun _=>rfl) l
@[simp] theorem ro_vk (k:IntKind) (l:List Int):T.roL (l.map (vk k))=l.map (vk k):=iU _ _ (fun _=>rfl) l
@[simp] theorem ro_vb (l:List Bool):T.roL (l.map vb)=l.map vb:=iU _ _ (fun _=>rfl) l
@[simp] theorem ro_vs (l:List ByteArray):T.roL (l.map vs)=l.map vs:=iU _ _ (fun _=>rfl) l
@[simp] theorem noRo_vi (l:List Int):T.noRoL (l.map vi)=true:=eV _ (fun _=>rfl) l
@[simp] theorem noRo_vk (k:IntKind) (l:List Int):T.noRoL (l.map (vk k))=true:=eV _ (fun _=>rfl) l
@[simp] theorem noRo_vb (l:List Bool):T.noRoL (l.map vb)=true:=eV _ (fun _=>rfl) l
@[simp] theorem noRo_vs (l:List ByteArray):T.noRoL (l.map vs)=true:=eV _ (fun _=>rfl) l
@[simp] theorem own_eSl {α:Type} {s:Nat} {f:α→T} (h:∀ l:List α,T.hasOwnL (l.map f)=false) (l:List (List α)):T.hasOwnL (l.map (eSl false s f))=false:=cM _ (fun x=>by simp [h x]) l
@[simp] theorem ro_eSl {α:Type} {o:Bool} {s:Nat} {f:α→T} (h:∀ l:List α,T.roL (l.map f)=l.map f) (l:List (List α)):T.roL (l.map (eSl o s f))=l.map (eSl false s f):=iU _ _ (fun x=>by simp [h x]) l
@[simp] theorem noRo_eSl {α:Type} {s:Nat} {f:α→T} (h:∀ l:List α,T.noRoL (l.map f)=true) (l:List (List α)):T.noRoL (l.map (eSl true s f))=true:=eV _ (fun x=>by simp [h x]) l
theorem aA {α:Type} {c:Prop} [Decidable c] {a b:Option α} {r:α} (h:(if c then a else b)=some r):(c∧a=some r) ∨ (¬ c∧b=some r):=by
 by_cases hc:c
 ·rw [if_pos hc] at h;exact .inl ⟨hc,h⟩
 ·rw [if_neg hc] at h;exact .inr ⟨hc,h⟩
structure GNode where
 Kind:Int
 Num:Int
 Name:ByteArray
 Kids:List Int
 deriving DecidableEq
def GNode.enc (o:Bool) (x:GNode):T:=.agg [vi x.Kind,vi x.Num,vs x.Name,.sl o 1 (List.map vi x.Kids)]
@[simp] theorem GNode.own (x:GNode):(x.enc false).hasOwn=false:=by simp [GNode.enc]
@[simp] theorem GNode.ownT (x:GNode):(x.enc true).hasOwn=true:=by simp [GNode.enc]
@[simp] theorem GNode.ownL (l:List GNode):T.hasOwnL (l.map (GNode.enc false))=false:=cM _ (fun x=>by simp) l
@[simp] theorem GNode.ro1 (o:Bool) (x:GNode):(x.enc o).ro=x.enc false:=by cases o<;>simp [GNode.enc,T.roL_map,Function.comp_def]
@[simp] theorem GNode.roL (o:Bool) (l:List GNode):T.roL (l.map (GNode.enc o))=l.map (GNode.enc false):=iU _ _ (fun x=>by simp) l
@[simp] theorem GNode.noRo (x:GNode):(x.enc true).noRo=true:=by simp [GNode.enc]
@[simp] theorem GNode.noRoL (l:List GNode):T.noRoL (l.map (GNode.enc true))=true:=eV _ (fun x=>by simp) l
structure GParam where
 Name:ByteArray
 Typ:Int
 deriving DecidableEq
def GParam.enc (x:GParam):T:=.agg [vs x.Name,vi x.Typ]
@[simp] theorem GParam.own (x:GParam):x.enc.hasOwn=false:=by simp [GParam.enc]
@[simp] theorem GParam.ownL (l:List GParam):T.hasOwnL (l.map GParam.enc)=false:=cM _ (fun x=>by simp) l
@[simp] theorem GParam.ro1 (x:GParam):x.enc.ro=x.enc:=by simp [GParam.enc]
@[simp] theorem GParam.roL (l:List GParam):T.roL (l.map GParam.enc)=l.map GParam.enc:=iU _ _ (fun x=>by simp) l
@[simp] theorem GParam.noRo (x:GParam):x.enc.noRo=true:=by simp [GParam.enc]
@[simp] theorem GParam.noRoL (l:List GParam):T.noRoL (l.map GParam.enc)=true:=eV _ (fun x=>by simp) l
structure GFn where
 Name:ByteArray
 Params:List GParam
 Res:Int
 Body:Int
 Ret:Int
 deriving DecidableEq
def GFn.enc (o:Bool) (x:GFn):T:=.agg [vs x.Name,.sl o 2 (List.map GParam.enc x.Params),vi x.Res,vi x.Body,vi x.Ret]
@[simp] theorem GFn.own (x:GFn):(x.enc false).hasOwn=false:=by simp [GFn.enc]
@[simp] theorem GFn.ownT (x:GFn):(x.enc true).hasOwn=true:=by simp [GFn.enc]
@[simp] theorem GFn.ownL (l:List GFn):T.hasOwnL (l.map (GFn.enc false))=false:=cM _ (fun x=>by simp) l
@[simp] theorem GFn.ro1 (o:Bool) (x:GFn):(x.enc o).ro=x.enc false:=by cases o<;>simp [GFn.enc,T.roL_map,Function.comp_def]
@[simp] theorem GFn.roL (o:Bool) (l:List GFn):T.roL (l.map (GFn.enc o))=l.map (GFn.enc false):=iU _ _ (fun x=>by simp) l
@[simp] theorem GFn.noRo (x:GFn):(x.enc true).noRo=true:=by simp [GFn.enc]
@[simp] theorem GFn.noRoL (l:List GFn):T.noRoL (l.map (GFn.enc true))=true:=eV _ (fun x=>by simp) l
structure GProgram where
 Nodes:List GNode
 Fns:List GFn
 deriving DecidableEq
def GProgram.enc (o:Bool) (x:GProgram):T:=.agg [.sl o 4 (List.map (GNode.enc o) x.Nodes),.sl o 5 (List.map (GFn.enc o) x.Fns)]
@[simp] theorem GProgram.own (x:GProgram):(x.enc false).hasOwn=false:=by simp [GProgram.enc]
@[simp] theorem GProgram.ownT (x:GProgram):(x.enc true).hasOwn=true:=by simp [GProgram.enc]
@[simp] theorem GProgram.ownL (l:List GProgram):T.hasOwnL (l.map (GProgram.enc false))=false:=cM _ (fun x=>by simp) l
@[simp] theorem GProgram.ro1 (o:Bool) (x:GProgram):(x.enc o).ro=x.enc false:=by cases o<;>simp [GProgram.enc,T.roL_map,Function.comp_def]
@[simp] theorem GProgram.roL (o:Bool) (l:List GProgram):T.roL (l.map (GProgram.enc o))=l.map (GProgram.enc false):=iU _ _ (fun x=>by simp) l
@[simp] theorem GProgram.noRo (x:GProgram):(x.enc true).noRo=true:=by simp [GProgram.enc]
@[simp] theorem GProgram.noRoL (l:List GProgram):T.noRoL (l.map (GProgram.enc true))=true:=eV _ (fun x=>by simp) l
structure GVar where
 Name:ByteArray
 Typ:Int
 Node:Int
 deriving DecidableEq
def GVar.enc (x:GVar):T:=.agg [vs x.Name,vi x.Typ,vi x.Node]
@[simp] theorem GVar.own (x:GVar):x.enc.hasOwn=false:=by simp [GVar.enc]
@[simp] theorem GVar.ownL (l:List GVar):T.hasOwnL (l.map GVar.enc)=false:=cM _ (fun x=>by simp) l
@[simp] theorem GVar.ro1 (x:GVar):x.enc.ro=x.enc:=by simp [GVar.enc]
@[simp] theorem GVar.roL (l:List GVar):T.roL (l.map GVar.enc)=l.map GVar.enc:=iU _ _ (fun x=>by simp) l
@[simp] theorem GVar.noRo (x:GVar):x.enc.noRo=true:=by simp [GVar.enc]
@[simp] theorem GVar.noRoL (l:List GVar):T.noRoL (l.map GVar.enc)=true:=eV _ (fun x=>by simp) l
structure Gl07Seen where
 p:GProgram
 fn:Int
 there:List ByteArray
 bad:Bool
 deriving DecidableEq
def Gl07Seen.enc (o:Bool) (x:Gl07Seen):T:=.agg [.sl o 4 (List.map (GNode.enc o) x.p.Nodes),.sl o 5 (List.map (GFn.enc o) x.p.Fns),vi x.fn,.sl o 1 (List.map vs x.there),vb x.bad]
@[simp] theorem Gl07Seen.own (x:Gl07Seen):(x.enc false).hasOwn=false:=by simp [Gl07Seen.enc]
@[simp] theorem Gl07Seen.ownT (x:Gl07Seen):(x.enc true).hasOwn=true:=by simp [Gl07Seen.enc]
@[simp] theorem Gl07Seen.ownL (l:List Gl07Seen):T.hasOwnL (l.map (Gl07Seen.enc false))=false:=cM _ (fun x=>by simp) l
@[simp] theorem Gl07Seen.ro1 (o:Bool) (x:Gl07Seen):(x.enc o).ro=x.enc false:=by cases o<;>simp [Gl07Seen.enc,T.roL_map,Function.comp_def]
@[simp] theorem Gl07Seen.roL (o:Bool) (l:List Gl07Seen):T.roL (l.map (Gl07Seen.enc o))=l.map (Gl07Seen.enc false):=iU _ _ (fun x=>by simp) l
@[simp] theorem Gl07Seen.noRo (x:Gl07Seen):(x.enc true).noRo=true:=by simp [Gl07Seen.enc]
@[simp] theorem Gl07Seen.noRoL (l:List Gl07Seen):T.noRoL (l.map (Gl07Seen.enc true))=true:=eV _ (fun x=>by simp) l
attribute [simp] GNode.enc GParam.enc GFn.enc GProgram.enc GVar.enc Gl07Seen.enc
end Go.OM
noncomputable section
namespace Go.OM
def mA (a1:List Int) (a0:Int):Option (Int) :=
 if (decide (IntKind.wrap .i64 (a0 - (a1.length:Int)) < 0))=true then
  some (-1)
 else
  some (IntKind.wrap .i64 (a0 - (a1.length:Int)))
def lZ (a1:GNode) (a0:Int):Option (Int) :=
 if (decide (IntKind.wrap .i64 (a0 - (a1.Name.size:Int)) < 0))=true then
  some (-1)
 else
  (mA a1.Kids (IntKind.wrap .i64 (a0 - (a1.Name.size:Int)))).bind fun r5 =>
  if (decide (r5 < 0))=true then
   some (-1)
  else
   some r5
def dE (a1:List GNode):(Int × Int)→Option ((Int × Int) ⊕ ((Int) ⊕ (Int))):=fun ⟨a0,i9⟩ =>
 if (decide (i9 < (a1.length:Int)))=true then
  (aK a1 i9).bind fun a3 =>
  (lZ a3 a0).bind fun a2 =>
  if (decide (a2 < 0))=true then
   some (Sum.inr (Sum.inr (-1)))
  else
   some (Sum.inl (a2,IntKind.wrap .i64 (i9 + 1)))
 else
  some (Sum.inr (Sum.inl a0))
def kK (a1:List GNode) (a0:Int):Option (Int) :=
 if (decide (IntKind.wrap .i64 (a0 - (a1.length:Int)) < 0))=true then
  some (-1)
 else
  Option.bind (
   aG (dE a1) (IntKind.wrap .i64 (a0 - (a1.length:Int)),0)) fun j7 =>
  match j7 with
  | Sum.inr z=>some z
  | Sum.inl a2 =>
   some a2
def kJ (a1:GParam) (a0:Int):Option (Int) :=
 if (decide (IntKind.wrap .i64 (a0 - (a1.Name.size:Int)) < 0))=true then
  some (-1)
 else
  some (IntKind.wrap .i64 (a0 - (a1.Name.size:Int)))
def cJ (a1:List GParam):(Int × Int)→Option ((Int × Int) ⊕ ((Int) ⊕ (Int))):=fun ⟨a0,i9⟩ =>
 if (decide (i9 < (a1.length:Int)))=true then
  (aK a1 i9).bind fun a3 =>
  (kJ a3 a0).bind fun a2 =>
  if (decide (a2 < 0))=true then
   some (Sum.inr (Sum.inr (-1)))
  else
   some (Sum.inl (a2,IntKind.wrap .i64 (i9 + 1)))
 else
  some (Sum.inr (Sum.inl a0))
def iY (a1:List GParam) (a0:Int):Option (Int) :=
 if (decide (IntKind.wrap .i64 (a0 - (a1.length:Int)) < 0))=true then
  some (-1)
 else
  Option.bind (
   aG (cJ a1) (IntKind.wrap .i64 (a0 - (a1.length:Int)),0)) fun j7 =>
  match j7 with
  | Sum.inr z=>some z
  | Sum.inl a2 =>
   some a2
def qB (a1:GFn) (a0:Int):Option (Int) :=
 if (decide (IntKind.wrap .i64 (a0 - (a1.Name.size:Int)) < 0))=true then
  some (-1)
 else
  (iY a1.Params (IntKind.wrap .i64 (a0 - (a1.Name.size:Int)))).bind fun r5 =>
  if (decide (r5 < 0))=true then
   some (-1)
  else
   some r5
def eT (a1:List GFn):(Int × Int)→Option ((Int × Int) ⊕ ((Int) ⊕ (Int))):=fun ⟨a0,i9⟩ =>
 if (decide (i9 < (a1.length:Int)))=true then
  (aK a1 i9).bind fun a3 =>
  (qB a3 a0).bind fun a2 =>
  if (decide (a2 < 0))=true then
   some (Sum.inr (Sum.inr (-1)))
  else
   some (Sum.inl (a2,IntKind.wrap .i64 (i9 + 1)))
 else
  some (Sum.inr (Sum.inl a0))
def nU (a1:List GFn) (a0:Int):Option (Int) :=
 if (decide (IntKind.wrap .i64 (a0 - (a1.length:Int)) < 0))=true then
  some (-1)
 else
  Option.bind (
   aG (eT a1) (IntKind.wrap .i64 (a0 - (a1.length:Int)),0)) fun j7 =>
  match j7 with
  | Sum.inr z=>some z
  | Sum.inl a2 =>
   some a2
def gU (a1:GProgram) (a0:Int):Option (Int) :=
 (kK a1.Nodes a0).bind fun r3 =>
 if (decide (r3 < 0))=true then
  some (-1)
 else
  (nU a1.Fns r3).bind fun r7 =>
  if (decide (r7 < 0))=true then
   some (-1)
  else
   some r7
def aW (x1:Int) (a0:Int) (a1:Int):Option (Bool) :=
 Option.bind (
  if (decide (x1 ≥ a0))=true then
   some (decide (x1 ≤ a1))
  else
   some false) fun v8 =>
 some v8
def eY (b1:Int):Option (Bool) :=
 Option.bind (
  if (decide (b1 ≥ 97))=true then
   some (decide (b1 ≤ 122))
  else
   some false) fun v6 =>
 some v6
def mV:Option (List ByteArray) :=
 some [(⟨#[102,110]⟩:ByteArray),(⟨#[108,101,116]⟩:ByteArray),(⟨#[105,102]⟩:ByteArray),(⟨#[101,108,115,101]⟩:ByteArray),(⟨#[119,104,105,108,101]⟩:ByteArray),(⟨#[112,114,105,110,116]⟩:ByteArray),(⟨#[100,111]⟩:ByteArray),(⟨#[110,101,119]⟩:ByteArray),(⟨#[99,108,111,110,101]⟩:ByteArray),(⟨#[109,117,116]⟩:ByteArray),(⟨#[105,110,112,117,116]⟩:ByteArray),(⟨#[105,110,116]⟩:ByteArray),(⟨#[98,111,120]⟩:ByteArray),(⟨#[114,101,116]⟩:ByteArray)]
def fS (s1:ByteArray) (r2:List ByteArray):Int→Option ((Int) ⊕ ((Unit) ⊕ (Bool))):=fun i7 =>
 if (decide (i7 < (r2.length:Int)))=true then
  (aK r2 i7).bind fun a0 =>
  if (sEq a0 s1)=true then
   some (Sum.inr (Sum.inr true))
  else
   some (Sum.inl (IntKind.wrap .i64 (i7 + 1)))
 else
  some (Sum.inr (Sum.inl ()))
def kD (s1:ByteArray):Option (Bool) :=
 (mV ).bind fun r2 =>
 Option.bind (
  aG (fS s1 r2) 0) fun j6 =>
 match j6 with
 | Sum.inr z=>some z
 | Sum.inl () =>
  some false
def gP (b1:Int):Option (Bool) :=
 Option.bind (
  if (decide (b1 ≥ 48))=true then
   some (decide (b1 ≤ 57))
  else
   some false) fun v6 =>
 some v6
def fD (s1:ByteArray):Int→Option ((Int) ⊕ ((Unit) ⊕ (Bool))):=fun a0 =>
 if (decide (a0 < (s1.size:Int)))=true then
  Option.bind (
   (sAt s1 a0).bind fun a1 =>
   (eY a1).bind fun a2 =>
   if (!a2)=true then
    (gP a1).bind fun a3 =>
    some (!a3)
   else
    some false) fun a4 =>
  if a4=true then
   some (Sum.inr (Sum.inr false))
  else
   some (Sum.inl (IntKind.wrap .i64 (a0 + 1)))
 else
  some (Sum.inr (Sum.inl ()))
def hO (s1:ByteArray):Option (Bool) :=
 Option.bind (
  (aW (s1.size:Int) 1 8).bind fun r4 =>
  if (!r4)=true then
   some true
  else
   (sAt s1 0).bind fun c8 =>
   (eY c8).bind fun r9 =>
   if (!r9)=true then
    some true
   else
    (kD s1).bind fun a0 =>
    some a0) fun a1 =>
 if a1=true then
  some false
 else
  Option.bind (
   aG (fD s1) 0) fun a2 =>
  match a2 with
  | Sum.inr z=>some z
  | Sum.inl () =>
   some true
def kA (a0:Int):Option (Int × Int) :=
 Option.bind (
  if (a0 == 8)=true then
   some (a0 == 8)
  else
   if (a0 == 13)=true then
    some (a0 == 13)
   else
    if (a0 == 14)=true then
     some (a0 == 14)
    else
     if (a0 == 15)=true then
      some (a0 == 15)
     else
      if (a0 == 18)=true then
       some (a0 == 18)
      else
       some (a0 == 19)) fun a1 =>
 if a1=true then
  some (1,1)
 else
  Option.bind (
   if (a0 == 9)=true then
    some (a0 == 9)
   else
    if (a0 == 10)=true then
     some (a0 == 10)
    else
     if (a0 == 11)=true then
      some (a0 == 11)
     else
      some (a0 == 17)) fun a2 =>
  if a2=true then
   some (2,2)
  else
   if (a0 == 12)=true then
    some (0,3)
   else
    if (a0 == 16)=true then
     some (3,3)
    else
     if (a0 == 20)=true then
      some (0,12)
     else
      some (0,0)
def iS (a0:Int):Option (Bool) :=
 Option.bind (
  if (a0 == 2)=true then
   some (a0 == 2)
  else
   if (a0 == 3)=true then
    some (a0 == 3)
   else
    if (a0 == 4)=true then
     some (a0 == 4)
    else
     if (a0 == 5)=true then
      some (a0 == 5)
     else
      if (a0 == 6)=true then
       some (a0 == 6)
      else
       if (a0 == 12)=true then
        some (a0 == 12)
       else
        if (a0 == 13)=true then
         some (a0 == 13)
        else
         if (a0 == 14)=true then
          some (a0 == 14)
         else
          some (a0 == 15)) fun a1 =>
 if a1=true then
  some true
 else
  some false
def eS (a0:Int):Option (Bool) :=
 (aW a0 1 12).bind fun r2 =>
 some r2
def eH (a0:Int):Option (Bool) :=
 (aW a0 13 19).bind fun r2 =>
 some r2
def kB (a0:Int) (a2:Int) (a1:Int):Option (Bool) :=
 if (a0 == 20)=true then
  (eH a1).bind fun r6 =>
  some r6
 else
  Option.bind (
   if (a0 == 16)=true then
    some (a0 == 16)
   else
    some (a0 == 17)) fun a3 =>
  if a3=true then
   if (decide (a2 > 0))=true then
    some (a1 == 20)
   else
    (eS a1).bind fun a4 =>
    some a4
  else
   if (a0 == 19)=true then
    some (a1 == 12)
   else
    (eS a1).bind fun a5 =>
    some a5
def fB (a1:GNode) (a2:Int):Int→Option ((Int) ⊕ ((Unit) ⊕ ((Int) ⊕ ((Unit) ⊕ (Bool))))):=fun a0 =>
 if (decide (a0 < a2))=true then
  (aK a1.Kids a2).bind fun a3 =>
  (aK a1.Kids a0).bind fun a4 =>
  if (a3 == a4)=true then
   some (Sum.inr (Sum.inr (Sum.inr (Sum.inr false))))
  else
   some (Sum.inl (IntKind.wrap .i64 (a0 + 1)))
 else
  some (Sum.inr (Sum.inl ()))
def fC (a0:List GNode) (k2:Int) (a2:GNode):Int→Option ((Int) ⊕ ((Unit) ⊕ (Bool))):=fun a1 =>
 if (decide (a1 < (a2.Kids.length:Int)))=true then
  Option.bind (
   Option.bind (
    (aK a2.Kids a1).bind fun a3 =>
    (aW a3 0 (IntKind.wrap .i64 (k2 - 1))).bind fun a4 =>
    if (!a4)=true then
     some true
    else
     (aK a0 a3).bind fun a5 =>
     (kB a2.Kind a1 a5.Kind).bind fun a6 =>
     some (!a6)) fun a7 =>
   if a7=true then
    some (Sum.inr (Sum.inr (Sum.inr false)))
   else
    aG (fB a2 a1) 0) fun a8 =>
  match a8 with
  | Sum.inr z=>some z
  | Sum.inl () =>
   some (Sum.inl (IntKind.wrap .i64 (a1 + 1)))
 else
  some (Sum.inr (Sum.inl ()))
def lR (a0:List GNode) (k2:Int):Option (Bool) :=
 Option.bind (
  (aW k2 0 (IntKind.wrap .i64 ((a0.length:Int) - 1))).bind fun r5 =>
  if (!r5)=true then
   some true
  else
   (aK a0 k2).bind fun e9 =>
   (aW e9.Kind 1 20).bind fun a2 =>
   some (!a2)) fun a3 =>
 if a3=true then
  some false
 else
  (aK a0 k2).bind fun a1 =>
  (kA a1.Kind).bind fun ⟨a4,a5⟩ =>
  Option.bind (
   (aW (a1.Kids.length:Int) a4 a5).bind fun a6 =>
   if (!a6)=true then
    some true
   else
    (aW a1.Num 0 1000000000).bind fun a7 =>
    if (!a7)=true then
     some true
    else
     if (a1.Kind != 1)=true then
      some (a1.Num != 0)
     else
      some false) fun a8 =>
  if a8=true then
   some false
  else
   Option.bind (
    (iS a1.Kind).bind fun a9 =>
    if (!(a9 == (!(sEq a1.Name (⟨#[]⟩:ByteArray)))))=true then
     some true
    else
     if (!(sEq a1.Name (⟨#[]⟩:ByteArray)))=true then
      (hO a1.Name).bind fun b0 =>
      some (!b0)
     else
      some false) fun b1 =>
   if b1=true then
    some false
   else
    Option.bind (
     aG (fC a0 k2 a1) 0) fun b2 =>
    match b2 with
    | Sum.inr z=>some z
    | Sum.inl () =>
     some true
def bE (a1:List GNode) (a2:List Int) (i7:Int):(Int × Int)→Option ((Int × Int) ⊕ (Int)):=fun ⟨a0,a3⟩ =>
 Option.bind (
  if (decide (a0 > 0))=true then
   (aK a1 i7).bind fun a4 =>
   some (decide (a3 < (a4.Kids.length:Int)))
  else
   some false) fun a5 =>
 if a5=true then
  (aK a1 i7).bind fun a6 =>
  (aK a6.Kids a3).bind fun a7 =>
  (aK a2 a7).bind fun a8 =>
  if (decide (IntKind.wrap .i64 (a8 + 1) > a0))=true then
   (aK a1 i7).bind fun a9 =>
   (aK a9.Kids a3).bind fun b0 =>
   (aK a2 b0).bind fun b1 =>
   some (Sum.inl (IntKind.wrap .i64 (b1 + 1),IntKind.wrap .i64 (a3 + 1)))
  else
   some (Sum.inl (a0,IntKind.wrap .i64 (a3 + 1)))
 else
  some (Sum.inr a0)
def dL (a0:List GNode) (k2:Int):((List Int) × Int)→Option (((List Int) × Int) ⊕ (List Int)):=fun ⟨a2,i7⟩ =>
 Option.bind (
  if (decide (i7 ≤ k2))=true then
   some (decide (i7 < (a0.length:Int)))
  else
   some false) fun a6 =>
 if a6=true then
  Option.bind (
   Option.bind (
    Option.bind (
     (lR a0 i7).bind fun a7 =>
     if (!a7)=true then
      some true
     else
      if (decide (i7 > 0))=true then
       (aK a2 (IntKind.wrap .i64 (i7 - 1))).bind fun a8 =>
       some (a8 == 0)
      else
       some false) fun a9 =>
    if a9=true then
     some 0
    else
     some 1) fun a3 =>
   Option.bind (
    aG (bE a0 a2 i7) (a3,0)) fun a1 =>
   Option.bind (
    if (decide (a1 > 10))=true then
     some 0
    else
     some a1) fun a4 =>
   (lM 8 a2 [a4]).bind fun b0 =>
   some b0) fun a5 =>
  some (Sum.inl (a5,IntKind.wrap .i64 (i7 + 1)))
 else
  some (Sum.inr a2)
def fZ (a0:List GNode) (k2:Int):Option (List Int) :=
 Option.bind (
  aG (dL a0 k2) ([],0)) fun a1 =>
 some a1
def eF (a0:List GNode) (i7:Int):((List Int) × Int)→Option (((List Int) × Int) ⊕ (List Int)):=fun ⟨a1,a2⟩ =>
 (aK a0 i7).bind fun a4 =>
 if (decide (a2 < (a4.Kids.length:Int)))=true then
  (aK a0 i7).bind fun a5 =>
  (aK a5.Kids a2).bind fun a3 =>
  (aK a1 a3).bind fun a6 =>
  jJ (List.set a1 a3.toNat (IntKind.wrap .i64 (a6 + 1))) fun a7 =>
  some (Sum.inl (a7,IntKind.wrap .i64 (a2 + 1)))
 else
  some (Sum.inr a1)
def eG (a0:List GNode):((List Int) × Int)→Option (((List Int) × Int) ⊕ (List Int)):=fun ⟨a1,i7⟩ =>
 if (decide (i7 < (a0.length:Int)))=true then
  Option.bind (
   aG (eF a0 i7) (a1,0)) fun a2 =>
  some (Sum.inl (a2,IntKind.wrap .i64 (i7 + 1)))
 else
  some (Sum.inr a1)
def jZ (a0:List GNode):Option (List Int) :=
 (mkI 8 (a0.length:Int) 0).bind fun l2 =>
 Option.bind (
  aG (eG a0) (l2,0)) fun a1 =>
 some a1
def pS (p1:GProgram) (a0:ByteArray):Int→Option ((Int) ⊕ ((Unit) ⊕ (Int))):=fun i6 =>
 if (decide (i6 < (p1.Fns.length:Int)))=true then
  (aK p1.Fns i6).bind fun a1 =>
  if (sEq a1.Name a0)=true then
   some (Sum.inr (Sum.inr i6))
  else
   some (Sum.inl (IntKind.wrap .i64 (i6 + 1)))
 else
  some (Sum.inr (Sum.inl ()))
def pT (p1:GProgram) (a0:ByteArray):Option (Int) :=
 Option.bind (
  aG (pS p1 a0) 0) fun j5 =>
 match j5 with
 | Sum.inr z=>some z
 | Sum.inl () =>
  some (-1)
def fY (e3:GFn):Int→Option ((Int) ⊕ ((Unit) ⊕ (Bool))):=fun a0 =>
 if (decide (a0 < (e3.Params.length:Int)))=true then
  Option.bind (
   (aK e3.Params a0).bind fun a1 =>
   (hO a1.Name).bind fun a2 =>
   if (!a2)=true then
    some true
   else
    (aW a1.Typ 1 4).bind fun a3 =>
    some (!a3)) fun a4 =>
  if a4=true then
   some (Sum.inr (Sum.inr false))
  else
   some (Sum.inl (IntKind.wrap .i64 (a0 + 1)))
 else
  some (Sum.inr (Sum.inl ()))
def nJ (p1:GProgram) (i2:Int):Option (Bool) :=
 (aK p1.Fns i2).bind fun e3 =>
 Option.bind (
  (hO e3.Name).bind fun r6 =>
  if (!r6)=true then
   some true
  else
   (pT p1 e3.Name).bind fun a0 =>
   if (a0 != i2)=true then
    some true
   else
    if (decide ((e3.Params.length:Int) > 3))=true then
     some true
    else
     (aW e3.Res 0 2).bind fun a1 =>
     some (!a1)) fun a2 =>
 if a2=true then
  some false
 else
  Option.bind (
   aG (fY e3) 0) fun a3 =>
  match a3 with
  | Sum.inr z=>some z
  | Sum.inl () =>
   Option.bind (
    (aW e3.Body 0 (IntKind.wrap .i64 ((p1.Nodes.length:Int) - 1))).bind fun a4 =>
    if (!a4)=true then
     some true
    else
     (aK p1.Nodes e3.Body).bind fun a5 =>
     some (a5.Kind != 20)) fun a6 =>
   if a6=true then
    some false
   else
    if (e3.Res == 0)=true then
     some (e3.Ret == (-1))
    else
     Option.bind (
      (aW e3.Ret 0 (IntKind.wrap .i64 ((p1.Nodes.length:Int) - 1))).bind fun a7 =>
      if a7=true then
       (aK p1.Nodes e3.Ret).bind fun a8 =>
       (eS a8.Kind).bind fun a9 =>
       some a9
      else
       some false) fun b0 =>
     some b0
def bG (p1:GProgram):((List Int) × Int)→Option (((List Int) × Int) ⊕ ((List Int) ⊕ (Bool))):=fun ⟨a0,a1⟩ =>
 if (decide (a1 < (p1.Fns.length:Int)))=true then
  (nJ p1 a1).bind fun a5 =>
  if (!a5)=true then
   some (Sum.inr (Sum.inr false))
  else
   (aK p1.Fns a1).bind fun a3 =>
   (aK a0 a3.Body).bind fun a6 =>
   jJ (List.set a0 a3.Body.toNat (IntKind.wrap .i64 (a6 + 1000))) fun a2 =>
   (aK p1.Fns a1).bind fun a7 =>
   if (decide (a7.Ret ≥ 0))=true then
    (aK p1.Fns a1).bind fun a4 =>
    (aK a2 a4.Ret).bind fun a8 =>
    jJ (List.set a2 a4.Ret.toNat (IntKind.wrap .i64 (a8 + 1000))) fun a9 =>
    some (Sum.inl (a9,IntKind.wrap .i64 (a1 + 1)))
   else
    some (Sum.inl (a2,IntKind.wrap .i64 (a1 + 1)))
 else
  some (Sum.inr (Sum.inl a0))
def cV (a0:List Int):Int→Option ((Int) ⊕ ((Unit) ⊕ (Bool))):=fun a1 =>
 if (decide (a1 < (a0.length:Int)))=true then
  Option.bind (
   (aK a0 a1).bind fun a2 =>
   if (a2 != 1)=true then
    some (a2 != 1000)
   else
    some false) fun a3 =>
  if a3=true then
   some (Sum.inr (Sum.inr false))
  else
   some (Sum.inl (IntKind.wrap .i64 (a1 + 1)))
 else
  some (Sum.inr (Sum.inl ()))
def gQ (p1:GProgram):Option (Bool) :=
 Option.bind (
  (aW (p1.Nodes.length:Int) 1 300).bind fun r4 =>
  if (!r4)=true then
   some true
  else
   (aW (p1.Fns.length:Int) 1 8).bind fun r8 =>
   some (!r8)) fun a2 =>
 if a2=true then
  some false
 else
  (fZ p1.Nodes (IntKind.wrap .i64 ((p1.Nodes.length:Int) - 1))).bind fun a1 =>
  (aK a1 (IntKind.wrap .i64 ((a1.length:Int) - 1))).bind fun a3 =>
  if (a3 == 0)=true then
   some false
  else
   (jZ p1.Nodes).bind fun a4 =>
   Option.bind (
    aG (bG p1) (a4,0)) fun a5 =>
   match a5 with
   | Sum.inr z=>some z
   | Sum.inl a0 =>
    Option.bind (
     aG (cV a0) 0) fun a6 =>
    match a6 with
    | Sum.inr z=>some z
    | Sum.inl () =>
     some true
def lS (a0:List GNode) (k2:Int):Option (Int) :=
 (aW k2 0 (IntKind.wrap .i64 ((a0.length:Int) - 1))).bind fun r3 =>
 if (!r3)=true then
  some 0
 else
  (fZ a0 k2).bind fun r7 =>
  (aK r7 k2).bind fun e9 =>
  some e9
def eI (a0:(List GNode)→Int→(List Bool)→Option (List Bool)) (a1:List GNode) (k2:Int):((List Bool) × Int)→Option (((List Bool) × Int) ⊕ (List Bool)):=fun ⟨a2,a3⟩ =>
 (aK a1 k2).bind fun a4 =>
 if (decide (a3 < (a4.Kids.length:Int)))=true then
  (aK a1 k2).bind fun a5 =>
  (aK a5.Kids a3).bind fun a6 =>
  (a0 a1 a6 a2).bind fun a7 =>
  some (Sum.inl (a7,IntKind.wrap .i64 (a3 + 1)))
 else
  some (Sum.inr a2)
def gO (a0:(List GNode)→Int→(List Bool)→Option (List Bool)) (a2:List GNode) (k2:Int) (a1:List Bool):Option (List Bool) :=
 (aK a1 k2).bind fun e4 =>
 if e4=true then
  some a1
 else
  (aK a1 k2).bind fun e7 =>
  jJ (List.set a1 k2.toNat true) fun l8 =>
  aG (eI a0 a2 k2) (l8,0)
def cI:Nat→(List GNode)→Int→(List Bool)→Option (List Bool)
 | 0=>fun _ _ _=>none
 | n + 1=>gO (cI n)
def pR:(List GNode)→Int→(List Bool)→Option (List Bool):=(cI iA)
def gA (q8:List Bool):((List Int) × Int)→Option (((List Int) × Int) ⊕ (List Int)):=fun ⟨a0,a1⟩ =>
 if (decide (a1 < (q8.length:Int)))=true then
  (aK q8 a1).bind fun a2 =>
  if a2=true then
   (lM 8 a0 [a1]).bind fun a3 =>
   some (Sum.inl (a3,IntKind.wrap .i64 (a1 + 1)))
  else
   some (Sum.inl (a0,IntKind.wrap .i64 (a1 + 1)))
 else
  some (Sum.inr a0)
def jO (p1:GProgram) (k2:Int):Option (List Int) :=
 (lS p1.Nodes k2).bind fun r3 =>
 if (r3 == 0)=true then
  some []
 else
  (mkI 1 (p1.Nodes.length:Int) false).bind fun l7 =>
  (pR p1.Nodes k2 l7).bind fun q8 =>
  Option.bind (
   aG (gA q8) ([],0)) fun a0 =>
  some a0
def fA (e7:GFn):((List GVar) × Int)→Option (((List GVar) × Int) ⊕ (List GVar)):=fun ⟨a0,a1⟩ =>
 if (decide (a1 < (e7.Params.length:Int)))=true then
  (aK e7.Params a1).bind fun a2 =>
  (lM 32 a0 [(⟨a2.Name,a2.Typ,(-1)⟩:GVar)]).bind fun a3 =>
  some (Sum.inl (a3,IntKind.wrap .i64 (a1 + 1)))
 else
  some (Sum.inr a0)
def eZ (p1:GProgram) (a2:List Int):((List GVar) × Int)→Option (((List GVar) × Int) ⊕ (List GVar)):=fun ⟨a0,a1⟩ =>
 if (decide (a1 < (a2.length:Int)))=true then
  (aK a2 a1).bind fun a4 =>
  (aK p1.Nodes a4).bind fun a5 =>
  if (a5.Kind == 13)=true then
   (aK a2 a1).bind fun a3 =>
   (aK p1.Nodes a3).bind fun a6 =>
   (lM 32 a0 [(⟨a6.Name,0,a3⟩:GVar)]).bind fun a7 =>
   some (Sum.inl (a7,IntKind.wrap .i64 (a1 + 1)))
  else
   some (Sum.inl (a0,IntKind.wrap .i64 (a1 + 1)))
 else
  some (Sum.inr a0)
def jN (p1:GProgram) (a2:Int):Option (List GVar) :=
 (aW a2 0 (IntKind.wrap .i64 ((p1.Fns.length:Int) - 1))).bind fun r3 =>
 if (!r3)=true then
  some []
 else
  (aK p1.Fns a2).bind fun e7 =>
  Option.bind (
   aG (fA e7) ([],0)) fun a0 =>
  (jO p1 e7.Body).bind fun a3 =>
  Option.bind (
   aG (eZ p1 a3) (a0,0)) fun a1 =>
  some a1
def oI (a0:List GVar) (a1:ByteArray):Int→Option ((Int) ⊕ ((Unit) ⊕ (Int))):=fun i6 =>
 if (decide (i6 < (a0.length:Int)))=true then
  (aK a0 i6).bind fun a2 =>
  if (sEq a2.Name a1)=true then
   some (Sum.inr (Sum.inr i6))
  else
   some (Sum.inl (IntKind.wrap .i64 (i6 + 1)))
 else
  some (Sum.inr (Sum.inl ()))
def nM (a0:List GVar) (a1:ByteArray):Option (Int) :=
 Option.bind (
  aG (oI a0 a1) 0) fun j5 =>
 match j5 with
 | Sum.inr z=>some z
 | Sum.inl () =>
  some (-1)
def eX (a0:List ByteArray) (s2:ByteArray):Int→Option ((Int) ⊕ ((Unit) ⊕ (Bool))):=fun i6 =>
 if (decide (i6 < (a0.length:Int)))=true then
  (aK a0 i6).bind fun a1 =>
  if (sEq a1 s2)=true then
   some (Sum.inr (Sum.inr true))
  else
   some (Sum.inl (IntKind.wrap .i64 (i6 + 1)))
 else
  some (Sum.inr (Sum.inl ()))
def jM (a0:List ByteArray) (s2:ByteArray):Option (Bool) :=
 Option.bind (
  aG (eX a0 s2) 0) fun j5 =>
 match j5 with
 | Sum.inr z=>some z
 | Sum.inl () =>
  some false
def aZ (a0:Gl07Seen→Int→Option (Gl07Seen)) (e3:GNode):(Int × Gl07Seen)→Option ((Int × Gl07Seen) ⊕ (Gl07Seen)):=fun ⟨i7,v8⟩ =>
 if (decide (i7 < (e3.Kids.length:Int)))=true then
  (aK e3.Kids i7).bind fun a2 =>
  (a0 v8 a2).bind fun a1 =>
  some (Sum.inl (IntKind.wrap .i64 (i7 + 1),(⟨a1.p,a1.fn,a1.there,a1.bad⟩:Gl07Seen)))
 else
  some (Sum.inr v8)
def cO (a0:Gl07Seen→Int→Option (Gl07Seen)) (s1:Gl07Seen) (k2:Int):Option (Gl07Seen) :=
 (aK s1.p.Nodes k2).bind fun e3 =>
 Option.bind (
  aG (aZ a0 e3) (0,(⟨s1.p,s1.fn,s1.there,s1.bad⟩:Gl07Seen))) fun a1 =>
 Option.bind (
  if (e3.Kind == 2)=true then
   some (e3.Kind == 2)
  else
   if (e3.Kind == 3)=true then
    some (e3.Kind == 3)
   else
    if (e3.Kind == 4)=true then
     some (e3.Kind == 4)
    else
     if (e3.Kind == 5)=true then
      some (e3.Kind == 5)
     else
      some (e3.Kind == 6)) fun a3 =>
 if a3=true then
  if a1.bad=true then
   some (⟨a1.p,a1.fn,a1.there,true⟩:Gl07Seen)
  else
   (jM a1.there e3.Name).bind fun a4 =>
   some (⟨a1.p,a1.fn,a1.there,!a4⟩:Gl07Seen)
 else
  if (e3.Kind == 12)=true then
   (pT a1.p e3.Name).bind fun a2 =>
   if a1.bad=true then
    some (⟨a1.p,a1.fn,a1.there,true⟩:Gl07Seen)
   else
    if (decide (a2 < 0))=true then
     some (⟨a1.p,a1.fn,a1.there,true⟩:Gl07Seen)
    else
     if (decide (a2 ≥ a1.fn))=true then
      some (⟨a1.p,a1.fn,a1.there,true⟩:Gl07Seen)
     else
      (aK a1.p.Fns a2).bind fun a5 =>
      some (⟨a1.p,a1.fn,a1.there,(a5.Params.length:Int) != (e3.Kids.length:Int)⟩:Gl07Seen)
  else
   some a1
def aV:Nat→Gl07Seen→Int→Option (Gl07Seen)
 | 0=>fun _ _=>none
 | n + 1=>cO (aV n)
def dW:Gl07Seen→Int→Option (Gl07Seen):=(aV iA)
def bF (a0:Gl07Seen→Int→Option (Gl07Seen)) (k2:Int):(Int × Gl07Seen)→Option ((Int × Gl07Seen) ⊕ (Gl07Seen)):=fun ⟨i3,v4⟩ =>
 (aK v4.p.Nodes k2).bind fun e8 =>
 if (decide (i3 < (e8.Kids.length:Int)))=true then
  (aK v4.p.Nodes k2).bind fun a2 =>
  (aK a2.Kids i3).bind fun a3 =>
  (a0 v4 a3).bind fun a1 =>
  some (Sum.inl (IntKind.wrap .i64 (i3 + 1),(⟨a1.p,a1.fn,a1.there,a1.bad⟩:Gl07Seen)))
 else
  some (Sum.inr v4)
def cP (a1:Gl07Seen→Int→Option (Gl07Seen)) (a0:Gl07Seen→Int→Option (Gl07Seen)) (s1:Gl07Seen) (k2:Int):Option (Gl07Seen) :=
 aG (bF a0 k2) (0,(⟨s1.p,s1.fn,s1.there,s1.bad⟩:Gl07Seen))
def bP (a0:Gl07Seen→Int→Option (Gl07Seen)) (e3:GNode):(Int × Gl07Seen)→Option ((Int × Gl07Seen) ⊕ (Gl07Seen)):=fun ⟨a1,a2⟩ =>
 if (decide (a1 < (e3.Kids.length:Int)))=true then
  (aK e3.Kids a1).bind fun a4 =>
  (a0 a2 a4).bind fun a3 =>
  some (Sum.inl (IntKind.wrap .i64 (a1 + 1),(⟨a3.p,a3.fn,a2.there,a3.bad⟩:Gl07Seen)))
 else
  some (Sum.inr a2)
def dD (a0:Gl07Seen→Int→Option (Gl07Seen)) (a1:Gl07Seen→Int→Option (Gl07Seen)) (s1:Gl07Seen) (k2:Int):Option (Gl07Seen) :=
 (aK s1.p.Nodes k2).bind fun e3 =>
 (aK e3.Kids 0).bind fun e4 =>
 (dW (⟨s1.p,s1.fn,s1.there,s1.bad⟩:Gl07Seen) e4).bind fun q5 =>
 if (e3.Kind == 13)=true then
  (lM 16 [] q5.there).bind fun l9 =>
  (lM 16 q5.there [e3.Name]).bind fun a2 =>
  some (⟨q5.p,q5.fn,a2,q5.bad⟩:Gl07Seen)
 else
  Option.bind (
   if (e3.Kind == 14)=true then
    some (e3.Kind == 14)
   else
    some (e3.Kind == 15)) fun a3 =>
  if a3=true then
   if q5.bad=true then
    some (⟨q5.p,q5.fn,q5.there,true⟩:Gl07Seen)
   else
    (jM q5.there e3.Name).bind fun a4 =>
    some (⟨q5.p,q5.fn,q5.there,!a4⟩:Gl07Seen)
  else
   Option.bind (
    if (e3.Kind == 16)=true then
     some (e3.Kind == 16)
    else
     some (e3.Kind == 17)) fun a5 =>
   if a5=true then
    aG (bP a0 e3) (1,(⟨q5.p,q5.fn,q5.there,q5.bad⟩:Gl07Seen))
   else
    some (⟨q5.p,q5.fn,q5.there,q5.bad⟩:Gl07Seen)
def aE:Nat→(Gl07Seen→Int→Option (Gl07Seen)) × (Gl07Seen→Int→Option (Gl07Seen))
 | 0=>(fun _ _=>none,fun _ _=>none)
 | n + 1=>(cP ((aE n).1) ((aE n).2),dD ((aE n).1) ((aE n).2))
def iQ:Gl07Seen→Int→Option (Gl07Seen):=(aE iA).1
def bJ (a1:List GVar):Int→Option ((Int) ⊕ ((Unit) ⊕ ((Unit) ⊕ ((Int) ⊕ ((Unit) ⊕ (Bool)))))):=fun a0 =>
 if (decide (a0 < (a1.length:Int)))=true then
  (aK a1 a0).bind fun a2 =>
  (nM a1 a2.Name).bind fun a3 =>
  if (a3 != a0)=true then
   some (Sum.inr (Sum.inr (Sum.inr (Sum.inr (Sum.inr false)))))
  else
   some (Sum.inl (IntKind.wrap .i64 (a0 + 1)))
 else
  some (Sum.inr (Sum.inl ()))
def bH (p1:GProgram) (i9:Int):(Int × Gl07Seen)→Option ((Int × Gl07Seen) ⊕ (Gl07Seen)):=fun ⟨a1,a0⟩ =>
 (aK p1.Fns i9).bind fun a2 =>
 if (decide (a1 < (a2.Params.length:Int)))=true then
  (aK p1.Fns i9).bind fun a3 =>
  (aK a3.Params a1).bind fun a4 =>
  (lM 16 a0.there [a4.Name]).bind fun a5 =>
  some (Sum.inl (IntKind.wrap .i64 (a1 + 1),(⟨a0.p,a0.fn,a5,a0.bad⟩:Gl07Seen)))
 else
  some (Sum.inr (⟨a0.p,a0.fn,a0.there,a0.bad⟩:Gl07Seen))
def cG (p1:GProgram):Int→Option ((Int) ⊕ ((Unit) ⊕ (Bool))):=fun i9 =>
 if (decide (i9 < (p1.Fns.length:Int)))=true then
  Option.bind (
   (jN p1 i9).bind fun a3 =>
   Option.bind (
    aG (bJ a3) 0) fun a4 =>
   match a4 with
   | Sum.inr z=>some z
   | Sum.inl () =>
    Option.bind (
     aG (bH p1 i9) (0,(⟨p1,i9,[],false⟩:Gl07Seen))) fun a1 =>
    (aK p1.Fns i9).bind fun a5 =>
    (iQ (⟨a1.p,a1.fn,a1.there,a1.bad⟩:Gl07Seen) a5.Body).bind fun a0 =>
    Option.bind (
     (aK p1.Fns i9).bind fun a6 =>
     if (decide (a6.Ret ≥ 0))=true then
      (aK p1.Fns i9).bind fun a7 =>
      (dW (⟨a0.p,a0.fn,a0.there,a0.bad⟩:Gl07Seen) a7.Ret).bind fun a2 =>
      some (⟨a2.p,a2.fn,a2.there,a2.bad⟩:Gl07Seen)
     else
      some (⟨a0.p,a0.fn,a0.there,a0.bad⟩:Gl07Seen)) fun a8 =>
    if a8.bad=true then
     some (Sum.inr (Sum.inr (Sum.inr false)))
    else
     some (Sum.inl ())) fun a9 =>
  match a9 with
  | Sum.inr z=>some z
  | Sum.inl () =>
   some (Sum.inl (IntKind.wrap .i64 (i9 + 1)))
 else
  some (Sum.inr (Sum.inl ()))
def fR (p1:GProgram):Option (Bool) :=
 (gQ p1).bind fun r2 =>
 if (!r2)=true then
  some false
 else
  Option.bind (
   aG (cG p1) 0) fun j8 =>
  match j8 with
  | Sum.inr z=>some z
  | Sum.inl () =>
   some true
def dK (a0:List GNode):((List GNode) × Int)→Option (((List GNode) × Int) ⊕ (List GNode)):=fun ⟨a1,i6⟩ =>
 if (decide (i6 < (a0.length:Int)))=true then
  (aK a0 i6).bind fun a2 =>
  (lM 8 [] a2.Kids).bind fun a4 =>
  (lM 56 a1 [(⟨a2.Kind,a2.Num,a2.Name,a2.Kids⟩:GNode)]).bind fun a3 =>
  some (Sum.inl (a3,IntKind.wrap .i64 (i6 + 1)))
 else
  some (Sum.inr a1)
def iR (a0:List GNode):Option (List GNode) :=
 Option.bind (
  aG (dK a0) ([],0)) fun a1 =>
 some a1
def eJ (p1:GProgram):(Int × GProgram)→Option ((Int × GProgram) ⊕ (GProgram)):=fun ⟨i7,v8⟩ =>
 if (decide (i7 < (p1.Fns.length:Int)))=true then
  (aK p1.Fns i7).bind fun a0 =>
  (lM 24 [] a0.Params).bind fun a2 =>
  (lM 64 v8.Fns [(⟨a0.Name,a0.Params,a0.Res,a0.Body,a0.Ret⟩:GFn)]).bind fun a1 =>
  some (Sum.inl (IntKind.wrap .i64 (i7 + 1),(⟨v8.Nodes,a1⟩:GProgram)))
 else
  some (Sum.inr v8)
def kC (p1:GProgram):Option (GProgram) :=
 (iR p1.Nodes).bind fun r2 =>
 Option.bind (
  aG (eJ p1) (0,(⟨r2,[]⟩:GProgram))) fun a0 =>
 some a0
def jU (x1:Int):Option (Int) :=
 if (decide (x1 < 10))=true then
  some (IntKind.wrap .u8 (IntKind.wrap .i64 (48 + x1)))
 else
  some (IntKind.wrap .u8 (IntKind.wrap .i64 ((IntKind.wrap .i64 (97 + x1)) - 10)))
def eK:(Int × ByteArray)→Option ((Int × ByteArray) ⊕ (ByteArray)):=fun ⟨n7,s8⟩ =>
 if (n7 != 0)=true then
  Option.bind (
   if (decide (Int.tmod n7 10 < 0))=true then
    some (IntKind.wrap .i64 (0 - (Int.tmod n7 10)))
   else
    some (Int.tmod n7 10)) fun a0 =>
  (jU a0).bind fun a1 =>
  (aFs (gL [a1]) s8).bind fun a2 =>
  some (Sum.inl (IntKind.wrap .i64 (Int.tdiv n7 10),a2))
 else
  some (Sum.inr s8)
def fT (n1:Int):Option (ByteArray) :=
 if (n1 == 0)=true then
  some (⟨#[48]⟩:ByteArray)
 else
  Option.bind (
   aG (eK) (n1,(⟨#[]⟩:ByteArray))) fun a0 =>
  if (decide (n1 < 0))=true then
   (aFs (⟨#[45]⟩:ByteArray) a0).bind fun a1 =>
   some a1
  else
   some a0
def bA (r9:List Int) (a3:List Int):((List Int) × Int × Int)→Option (((List Int) × Int × Int) ⊕ (List Int)):=fun ⟨a0,a1,a2⟩ =>
 Option.bind (
  if (decide (a1 < (r9.length:Int)))=true then
   some true
  else
   some (decide (a2 < (a3.length:Int)))) fun a4 =>
 if a4=true then
  Option.bind (
   if (decide (a2 ≥ (a3.length:Int)))=true then
    some true
   else
    if (decide (a1 < (r9.length:Int)))=true then
     (aK r9 a1).bind fun a5 =>
     (aK a3 a2).bind fun a6 =>
     some (decide (a5 < a6))
    else
     some false) fun a7 =>
  if a7=true then
   (aK r9 a1).bind fun a8 =>
   (lM 8 a0 [a8]).bind fun a9 =>
   some (Sum.inl (a9,IntKind.wrap .i64 (a1 + 1),a2))
  else
   Option.bind (
    Option.bind (
     if (decide (a1 < (r9.length:Int)))=true then
      (aK r9 a1).bind fun b0 =>
      (aK a3 a2).bind fun b1 =>
      some (b0 == b1)
     else
      some false) fun b2 =>
    if b2=true then
     some (IntKind.wrap .i64 (a1 + 1))
    else
     some a1) fun b3 =>
   (aK a3 a2).bind fun b4 =>
   (lM 8 a0 [b4]).bind fun b5 =>
   some (Sum.inl (b5,b3,IntKind.wrap .i64 (a2 + 1)))
 else
  some (Sum.inr a0)
def lP (p1:GProgram) (a1:Int):Option (List Int) :=
 (aW a1 0 (IntKind.wrap .i64 ((p1.Fns.length:Int) - 1))).bind fun r3 =>
 if (!r3)=true then
  some []
 else
  (aK p1.Fns a1).bind fun e8 =>
  (jO p1 e8.Body).bind fun r9 =>
  (aK p1.Fns a1).bind fun a2 =>
  (jO p1 a2.Ret).bind fun a3 =>
  Option.bind (
   aG (bA r9 a3) ([],0,0)) fun a0 =>
  some a0
def iG (a0:Int):Option (Bool) :=
 Option.bind (
  if (a0 == 2)=true then
   some (a0 == 2)
  else
   if (a0 == 3)=true then
    some (a0 == 3)
   else
    if (a0 == 4)=true then
     some (a0 == 4)
    else
     if (a0 == 5)=true then
      some (a0 == 5)
     else
      if (a0 == 6)=true then
       some (a0 == 6)
      else
       if (a0 == 14)=true then
        some (a0 == 14)
       else
        some (a0 == 15)) fun a1 =>
 if a1=true then
  some true
 else
  some false
def cB (r3:List GVar) (r5:List Int):(Int × GProgram)→Option ((Int × GProgram) ⊕ (GProgram)):=fun ⟨a1,a0⟩ =>
 if (decide (a1 < (r5.length:Int)))=true then
  (aK r5 a1).bind fun a6 =>
  (aK a0.Nodes a6).bind fun a2 =>
  Option.bind (
   (iG a2.Kind).bind fun a7 =>
   if a7=true then
    some true
   else
    some (a2.Kind == 13)) fun a8 =>
  if a8=true then
   (nM r3 a2.Name).bind fun a4 =>
   if (decide (a4 ≥ 0))=true then
    (aK r5 a1).bind fun a5 =>
    (fT a4).bind fun a9 =>
    (aFs (⟨#[118]⟩:ByteArray) a9).bind fun b0 =>
    (aK a0.Nodes a5).bind fun a3 =>
    jJ (List.set a0.Nodes a5.toNat (⟨a3.Kind,a3.Num,b0,a3.Kids⟩:GNode)) fun b1 =>
    some (Sum.inl (IntKind.wrap .i64 (a1 + 1),(⟨b1,a0.Fns⟩:GProgram)))
   else
    some (Sum.inl (IntKind.wrap .i64 (a1 + 1),a0))
  else
   some (Sum.inl (IntKind.wrap .i64 (a1 + 1),a0))
 else
  some (Sum.inr a0)
def dC (a2:Int) (a3:GProgram):((List GParam) × Int)→Option (((List GParam) × Int) ⊕ (List GParam)):=fun ⟨a0,a1⟩ =>
 (aK a3.Fns a2).bind fun a4 =>
 if (decide (a1 < (a4.Params.length:Int)))=true then
  (fT a1).bind fun a5 =>
  (aFs (⟨#[118]⟩:ByteArray) a5).bind fun a6 =>
  (aK a3.Fns a2).bind fun a7 =>
  (aK a7.Params a1).bind fun a8 =>
  (lM 24 a0 [(⟨a6,a8.Typ⟩:GParam)]).bind fun a9 =>
  some (Sum.inl (a9,IntKind.wrap .i64 (a1 + 1)))
 else
  some (Sum.inr a0)
def jX (p1:GProgram) (a1:Int):Option (GProgram) :=
 (jN p1 a1).bind fun r3 =>
 (lP p1 a1).bind fun r5 =>
 Option.bind (
  aG (cB r3 r5) (0,p1)) fun a2 =>
 Option.bind (
  aG (dC a1 a2) ([],0)) fun a0 =>
 (aK a2.Fns a1).bind fun a3 =>
 jJ (List.set a2.Fns a1.toNat (⟨a3.Name,a0,a3.Res,a3.Body,a3.Ret⟩:GFn)) fun a4 =>
 some (⟨a2.Nodes,a4⟩:GProgram)
def fF (a1:List Int):((List Int) × Int)→Option (((List Int) × Int) ⊕ (List Int)):=fun ⟨a0,i7⟩ =>
 if (decide (i7 < (a1.length:Int)))=true then
  (aK a1 i7).bind fun a2 =>
  (aK a0 i7).bind fun a4 =>
  jJ (List.set a0 i7.toNat a2) fun a3 =>
  some (Sum.inl (a3,IntKind.wrap .i64 (i7 + 1)))
 else
  some (Sum.inr a0)
def lY (a1:List Int):Option (List Int) :=
 (mkI 8 (a1.length:Int) 0).bind fun l2 =>
 Option.bind (
  aG (fF a1) (l2,0)) fun a0 =>
 some a0
def lX (a1:GNode):Option (GNode) :=
 (lY a1.Kids).bind fun r2 =>
 some (⟨a1.Kind,a1.Num,a1.Name,r2⟩:GNode)
def eL (a1:List GNode):((List GNode) × Int)→Option (((List GNode) × Int) ⊕ (List GNode)):=fun ⟨a0,i7⟩ =>
 if (decide (i7 < (a1.length:Int)))=true then
  (aK a1 i7).bind fun a2 =>
  (lX a2).bind fun a3 =>
  (aK a0 i7).bind fun a5 =>
  jJ (List.set a0 i7.toNat a3) fun a4 =>
  some (Sum.inl (a4,IntKind.wrap .i64 (i7 + 1)))
 else
  some (Sum.inr a0)
def kI (a1:List GNode):Option (List GNode) :=
 (mkI 56 (a1.length:Int) (⟨0,0,ByteArray.empty,[]⟩:GNode)).bind fun l2 =>
 Option.bind (
  aG (eL a1) (l2,0)) fun a0 =>
 some a0
def kH (a1:GParam):Option (GParam) :=
 some (⟨a1.Name,a1.Typ⟩:GParam)
def dO (a1:List GParam):((List GParam) × Int)→Option (((List GParam) × Int) ⊕ (List GParam)):=fun ⟨a0,i7⟩ =>
 if (decide (i7 < (a1.length:Int)))=true then
  (aK a1 i7).bind fun a2 =>
  (kH a2).bind fun a3 =>
  (aK a0 i7).bind fun a5 =>
  jJ (List.set a0 i7.toNat a3) fun a4 =>
  some (Sum.inl (a4,IntKind.wrap .i64 (i7 + 1)))
 else
  some (Sum.inr a0)
def iX (a1:List GParam):Option (List GParam) :=
 (mkI 24 (a1.length:Int) (⟨ByteArray.empty,0⟩:GParam)).bind fun l2 =>
 Option.bind (
  aG (dO a1) (l2,0)) fun a0 =>
 some a0
def qA (a1:GFn):Option (GFn) :=
 (iX a1.Params).bind fun r2 =>
 some (⟨a1.Name,r2,a1.Res,a1.Body,a1.Ret⟩:GFn)
def gC (a1:List GFn):((List GFn) × Int)→Option (((List GFn) × Int) ⊕ (List GFn)):=fun ⟨a0,i7⟩ =>
 if (decide (i7 < (a1.length:Int)))=true then
  (aK a1 i7).bind fun a2 =>
  (qA a2).bind fun a3 =>
  (aK a0 i7).bind fun a5 =>
  jJ (List.set a0 i7.toNat a3) fun a4 =>
  some (Sum.inl (a4,IntKind.wrap .i64 (i7 + 1)))
 else
  some (Sum.inr a0)
def nT (a1:List GFn):Option (List GFn) :=
 (mkI 64 (a1.length:Int) (⟨ByteArray.empty,[],0,0,0⟩:GFn)).bind fun l2 =>
 Option.bind (
  aG (gC a1) (l2,0)) fun a0 =>
 some a0
def cS (a1:GProgram):Option (GProgram) :=
 (kI a1.Nodes).bind fun r2 =>
 (nT a1.Fns).bind fun r4 =>
 some (⟨r2,r4⟩:GProgram)
def cF (n1:Int) (a1:Int) (a0:Int):Option (Bool) :=
 Option.bind (
  if (decide (n1 ≥ a1))=true then
   some (decide (n1 ≤ a0))
  else
   some false) fun v8 =>
 some v8
def iN (p1:GProgram) (a0:ByteArray):Int→Option ((Int) ⊕ ((Unit) ⊕ (Int))):=fun v6 =>
 if (decide (v6 < (p1.Fns.length:Int)))=true then
  (aK p1.Fns v6).bind fun a1 =>
  if (sEq a1.Name a0)=true then
   some (Sum.inr (Sum.inr v6))
  else
   some (Sum.inl (IntKind.wrap .i64 (v6 + 1)))
 else
  some (Sum.inr (Sum.inl ()))
def mN (p1:GProgram) (a0:ByteArray):Option (Int) :=
 Option.bind (
  aG (iN p1 a0) 0) fun j5 =>
 match j5 with
 | Sum.inr z=>some z
 | Sum.inl () =>
  some (-1)
def eR (a0:Int):Option (Bool) :=
 Option.bind (
  (cF a0 2 6).bind fun r4 =>
  if r4=true then
   some true
  else
   (cF a0 12 15).bind fun r8 =>
   some r8) fun a1 =>
 some a1
def gH (b1:Int):Option (Bool) :=
 Option.bind (
  if (decide (b1 ≥ 97))=true then
   some (decide (b1 ≤ 122))
  else
   some false) fun v6 =>
 some v6
def jD (b1:Int):Option (Bool) :=
 Option.bind (
  if (decide (b1 ≥ 48))=true then
   some (decide (b1 ≤ 57))
  else
   some false) fun v6 =>
 some v6
def jB (s1:ByteArray) (r6:List ByteArray):Int→Option ((Int) ⊕ ((Unit) ⊕ (Bool))):=fun v8 =>
 if (decide (v8 < (r6.length:Int)))=true then
  (aK r6 v8).bind fun a0 =>
  if (sEq a0 s1)=true then
   some (Sum.inr (Sum.inr true))
  else
   some (Sum.inl (IntKind.wrap .i64 (v8 + 1)))
 else
  some (Sum.inr (Sum.inl ()))
def qW (s1:ByteArray) (a0:ByteArray):Option (Bool) :=
 Option.bind (
  (strings_Split a0 (⟨#[32]⟩:ByteArray)).bind fun r6 =>
  aG (jB s1 r6) 0) fun j5 =>
 match j5 with
 | Sum.inr z=>some z
 | Sum.inl () =>
  some false
def kT (s1:ByteArray):Option (Bool) :=
 (qW s1 (⟨#[102,110,32,108,101,116,32,105,102,32,101,108,115,101,32,119,104,105,108,101,32,112,114,105,110,116,32,100,111,32,110,101,119,32,99,108,111,110,101,32,109,117,116,32,105,110,112,117,116,32,105,110,116,32,98,111,120,32,114,101,116]⟩:ByteArray)).bind fun r2 =>
 some r2
def fM (s1:ByteArray):Int→Option ((Int) ⊕ ((Unit) ⊕ (Bool))):=fun a0 =>
 if (decide (a0 < (s1.size:Int)))=true then
  Option.bind (
   (sAt s1 a0).bind fun a1 =>
   (gH a1).bind fun a2 =>
   if (!a2)=true then
    (jD a1).bind fun a3 =>
    some (!a3)
   else
    some false) fun a4 =>
  if a4=true then
   some (Sum.inr (Sum.inr false))
  else
   some (Sum.inl (IntKind.wrap .i64 (a0 + 1)))
 else
  some (Sum.inr (Sum.inl ()))
def iD (s1:ByteArray):Option (Bool) :=
 Option.bind (
  (cF (s1.size:Int) 1 8).bind fun r4 =>
  if (!r4)=true then
   some true
  else
   (sAt s1 0).bind fun c8 =>
   (gH c8).bind fun r9 =>
   some (!r9)) fun a0 =>
 if a0=true then
  some false
 else
  Option.bind (
   aG (fM s1) 0) fun a1 =>
  match a1 with
  | Sum.inr z=>some z
  | Sum.inl () =>
   (kT s1).bind fun a2 =>
   some (!a2)
def fH (l1:List Int) (n2:Int):Int→Option ((Int) ⊕ ((Unit) ⊕ (Bool))):=fun v6 =>
 if (decide (v6 < (l1.length:Int)))=true then
  (aK l1 v6).bind fun a0 =>
  if (a0 == n2)=true then
   some (Sum.inr (Sum.inr true))
  else
   some (Sum.inl (IntKind.wrap .i64 (v6 + 1)))
 else
  some (Sum.inr (Sum.inl ()))
def iC (l1:List Int) (n2:Int):Option (Bool) :=
 Option.bind (
  aG (fH l1 n2) 0) fun j5 =>
 match j5 with
 | Sum.inr z=>some z
 | Sum.inl () =>
  some false
def nX (a0:Int):Option (Int × Int) :=
 Option.bind (
  if (a0 == 8)=true then
   some (a0 == 8)
  else
   if (a0 == 13)=true then
    some (a0 == 13)
   else
    if (a0 == 14)=true then
     some (a0 == 14)
    else
     if (a0 == 15)=true then
      some (a0 == 15)
     else
      if (a0 == 18)=true then
       some (a0 == 18)
      else
       some (a0 == 19)) fun a1 =>
 if a1=true then
  some (1,1)
 else
  Option.bind (
   if (a0 == 9)=true then
    some (a0 == 9)
   else
    if (a0 == 10)=true then
     some (a0 == 10)
    else
     if (a0 == 11)=true then
      some (a0 == 11)
     else
      some (a0 == 17)) fun a2 =>
  if a2=true then
   some (2,2)
  else
   if (a0 == 16)=true then
    some (3,3)
   else
    if (a0 == 12)=true then
     some (0,3)
    else
     if (a0 == 20)=true then
      some (0,12)
     else
      some (0,0)
def iL (a0:Int):Option (Bool) :=
 (cF a0 1 12).bind fun r2 =>
 some r2
def mI (a0:Int):Option (Bool) :=
 (cF a0 13 19).bind fun r2 =>
 some r2
def kQ (a0:Int) (i2:Int) (a1:Int):Option (Bool) :=
 if (a0 == 20)=true then
  (mI a1).bind fun r6 =>
  some r6
 else
  Option.bind (
   if (a0 == 16)=true then
    some (decide (i2 > 0))
   else
    if (a0 == 17)=true then
     some (decide (i2 > 0))
    else
     some false) fun a2 =>
  if a2=true then
   some (a1 == 20)
  else
   if (a0 == 19)=true then
    some (a1 == 12)
   else
    (iL a1).bind fun a3 =>
    some a3
def fL (a0:List GNode) (k2:Int) (e7:GNode):Int→Option ((Int) ⊕ ((Unit) ⊕ (Bool))):=fun a1 =>
 if (decide (a1 < (e7.Kids.length:Int)))=true then
  (aK e7.Kids a1).bind fun a2 =>
  Option.bind (
   (cF a2 0 (IntKind.wrap .i64 (k2 - 1))).bind fun a3 =>
   if (!a3)=true then
    some true
   else
    (subI e7.Kids 0 a1).bind fun a4 =>
    (iC a4 a2).bind fun a5 =>
    if a5=true then
     some true
    else
     (aK a0 a2).bind fun a6 =>
     (kQ e7.Kind a1 a6.Kind).bind fun a7 =>
     some (!a7)) fun a8 =>
  if a8=true then
   some (Sum.inr (Sum.inr false))
  else
   some (Sum.inl (IntKind.wrap .i64 (a1 + 1)))
 else
  some (Sum.inr (Sum.inl ()))
def mM (a0:List GNode) (k2:Int):Option (Bool) :=
 (cF k2 0 (IntKind.wrap .i64 ((a0.length:Int) - 1))).bind fun r3 =>
 if (!r3)=true then
  some false
 else
  (aK a0 k2).bind fun e7 =>
  (nX e7.Kind).bind fun ⟨r8,r9⟩ =>
  Option.bind (
   (cF e7.Kind 1 20).bind fun a1 =>
   if (!a1)=true then
    some true
   else
    (cF (e7.Kids.length:Int) r8 r9).bind fun a2 =>
    some (!a2)) fun a3 =>
  if a3=true then
   some false
  else
   Option.bind (
    aG (fL a0 k2 e7) 0) fun a4 =>
   match a4 with
   | Sum.inr z=>some z
   | Sum.inl () =>
    Option.bind (
     if (e7.Kind == 1)=true then
      (cF e7.Num 0 1000000000).bind fun a5 =>
      if (!a5)=true then
       some true
      else
       some false
     else
      some (e7.Num != 0)) fun a6 =>
    if a6=true then
     some false
    else
     (eR e7.Kind).bind fun a7 =>
     if a7=true then
      (iD e7.Name).bind fun a8 =>
      some a8
     else
      some (sEq e7.Name (⟨#[]⟩:ByteArray))
def eC (a0:List Int) (a3:GNode):(Int × Int)→Option ((Int × Int) ⊕ (Int)):=fun ⟨a1,a2⟩ =>
 if (decide (a2 < (a3.Kids.length:Int)))=true then
  (aK a3.Kids a2).bind fun a5 =>
  (aK a0 a5).bind fun a4 =>
  some (Sum.inl (if IntKind.wrap .i64 (a4 + 1) > a1 then IntKind.wrap .i64 (a4 + 1) else a1,IntKind.wrap .i64 (a2 + 1)))
 else
  some (Sum.inr a1)
def fI (a0:List GNode) (k2:Int):((List Int) × Int)→Option (((List Int) × Int) ⊕ ((List Int) ⊕ ((List Int) × Bool))):=fun ⟨a1,a3⟩ =>
 if (decide (a3 ≤ k2))=true then
  Option.bind (
   (mM a0 a3).bind fun a5 =>
   if (!a5)=true then
    some (Sum.inr (Sum.inr (Sum.inr ([],false))))
   else
    Option.bind (
     (aK a0 a3).bind fun a6 =>
     aG (eC a1 a6) (1,0)) fun a4 =>
    if (decide (a4 > 10))=true then
     some (Sum.inr (Sum.inr (Sum.inr ([],false))))
    else
     (lM 8 a1 [a4]).bind fun a7 =>
     some (Sum.inl a7)) fun a8 =>
  match a8 with
  | Sum.inr z=>some z
  | Sum.inl a2 =>
   some (Sum.inl (a2,IntKind.wrap .i64 (a3 + 1)))
 else
  some (Sum.inr (Sum.inl a1))
def mJ (a0:List GNode) (k2:Int):Option ((List Int) × Bool) :=
 (cF k2 0 (IntKind.wrap .i64 ((a0.length:Int) - 1))).bind fun r3 =>
 if (!r3)=true then
  some ([],false)
 else
  Option.bind (
   aG (fI a0 k2) ([],0)) fun j9 =>
  match j9 with
  | Sum.inr z=>some z
  | Sum.inl a1 =>
   some (a1,true)
def jS (a0:List GNode) (k2:Int):Option (Int) :=
 (mJ a0 k2).bind fun ⟨r3,r4⟩ =>
 if (!r4)=true then
  some 0
 else
  (aK r3 k2).bind fun e8 =>
  some e8
def iM (f2:GFn):Int→Option ((Int) ⊕ ((Unit) ⊕ (Bool))):=fun a0 =>
 if (decide (a0 < (f2.Params.length:Int)))=true then
  (aK f2.Params a0).bind fun a1 =>
  Option.bind (
   (iD a1.Name).bind fun a2 =>
   if (!a2)=true then
    some true
   else
    (cF a1.Typ 1 4).bind fun a3 =>
    some (!a3)) fun a4 =>
  if a4=true then
   some (Sum.inr (Sum.inr false))
  else
   some (Sum.inl (IntKind.wrap .i64 (a0 + 1)))
 else
  some (Sum.inr (Sum.inl ()))
def qJ (p1:GProgram) (f2:GFn):Option (Bool) :=
 Option.bind (
  (iD f2.Name).bind fun r5 =>
  if (!r5)=true then
   some true
  else
   if (decide ((f2.Params.length:Int) > 3))=true then
    some true
   else
    if (f2.Res != 0)=true then
     if (f2.Res != 1)=true then
      some (f2.Res != 2)
     else
      some false
    else
     some false) fun a0 =>
 if a0=true then
  some false
 else
  Option.bind (
   aG (iM f2) 0) fun a1 =>
  match a1 with
  | Sum.inr z=>some z
  | Sum.inl () =>
   Option.bind (
    (cF f2.Body 0 (IntKind.wrap .i64 ((p1.Nodes.length:Int) - 1))).bind fun a2 =>
    if (!a2)=true then
     some true
    else
     (aK p1.Nodes f2.Body).bind fun a3 =>
     some (a3.Kind != 20)) fun a4 =>
   if a4=true then
    some false
   else
    if (f2.Res == 0)=true then
     some (f2.Ret == (-1))
    else
     Option.bind (
      (cF f2.Ret 0 (IntKind.wrap .i64 ((p1.Nodes.length:Int) - 1))).bind fun a5 =>
      if a5=true then
       (aK p1.Nodes f2.Ret).bind fun a6 =>
       (iL a6.Kind).bind fun a7 =>
       some a7
      else
       some false) fun a8 =>
     some a8
def dA (a2:GNode):((List Int) × Int)→Option (((List Int) × Int) ⊕ (List Int)):=fun ⟨a0,a1⟩ =>
 if (decide (a1 < (a2.Kids.length:Int)))=true then
  (aK a2.Kids a1).bind fun a3 =>
  (aK a0 a3).bind fun a4 =>
  jJ (List.set a0 a3.toNat (IntKind.wrap .i64 (a4 + 1))) fun a5 =>
  some (Sum.inl (a5,IntKind.wrap .i64 (a1 + 1)))
 else
  some (Sum.inr a0)
def dB (p1:GProgram):((List Int) × Int)→Option (((List Int) × Int) ⊕ (List Int)):=fun ⟨a0,a2⟩ =>
 if (decide (a2 < (p1.Nodes.length:Int)))=true then
  Option.bind (
   (aK p1.Nodes a2).bind fun a3 =>
   aG (dA a3) (a0,0)) fun a1 =>
  some (Sum.inl (a1,IntKind.wrap .i64 (a2 + 1)))
 else
  some (Sum.inr a0)
def aH (a1:GFn):((List Int) × Int)→Option (((List Int) × Int) ⊕ ((List Int) ⊕ (((List Int) × Int) ⊕ ((List Int) ⊕ (Bool))))):=fun ⟨a0,a2⟩ =>
 if (decide (a2 < ([a1.Body,a1.Ret].length:Int)))=true then
  (aK [a1.Body,a1.Ret] a2).bind fun a3 =>
  if (decide (a3 < 0))=true then
   some (Sum.inl (a0,IntKind.wrap .i64 (a2 + 1)))
  else
   (aK a0 a3).bind fun a4 =>
   if (a4 != 0)=true then
    some (Sum.inr (Sum.inr (Sum.inr (Sum.inr false))))
   else
    (aK a0 a3).bind fun a6 =>
    jJ (List.set a0 a3.toNat (-1)) fun a5 =>
    some (Sum.inl (a5,IntKind.wrap .i64 (a2 + 1)))
 else
  some (Sum.inr (Sum.inl a0))
def bY (p1:GProgram):((List Int) × Int)→Option (((List Int) × Int) ⊕ ((List Int) ⊕ (Bool))):=fun ⟨a0,a2⟩ =>
 if (decide (a2 < (p1.Fns.length:Int)))=true then
  Option.bind (
   (aK p1.Fns a2).bind fun a3 =>
   Option.bind (
    (qJ p1 a3).bind fun a4 =>
    if (!a4)=true then
     some true
    else
     (mN p1 a3.Name).bind fun a5 =>
     some (a5 != a2)) fun a6 =>
   if a6=true then
    some (Sum.inr (Sum.inr (Sum.inr false)))
   else
    aG (aH a3) (a0,0)) fun a7 =>
  match a7 with
  | Sum.inr z=>some z
  | Sum.inl a1 =>
   some (Sum.inl (a1,IntKind.wrap .i64 (a2 + 1)))
 else
  some (Sum.inr (Sum.inl a0))
def cZ (a0:List Int):Int→Option ((Int) ⊕ ((Unit) ⊕ (Bool))):=fun a2 =>
 if (decide (a2 < (a0.length:Int)))=true then
  (aK a0 a2).bind fun a1 =>
  Option.bind (
   if (a1 != 1)=true then
    some (a1 != (-1))
   else
    some false) fun a3 =>
  if a3=true then
   some (Sum.inr (Sum.inr false))
  else
   some (Sum.inl (IntKind.wrap .i64 (a2 + 1)))
 else
  some (Sum.inr (Sum.inl ()))
def gY (p1:GProgram):Option (Bool) :=
 Option.bind (
  (cF (p1.Nodes.length:Int) 1 300).bind fun r4 =>
  if (!r4)=true then
   some true
  else
   (cF (p1.Fns.length:Int) 1 8).bind fun r8 =>
   if (!r8)=true then
    some true
   else
    (jS p1.Nodes (IntKind.wrap .i64 ((p1.Nodes.length:Int) - 1))).bind fun a2 =>
    some (a2 == 0)) fun a3 =>
 if a3=true then
  some false
 else
  (mkI 8 (p1.Nodes.length:Int) 0).bind fun a4 =>
  Option.bind (
   aG (dB p1) (a4,0)) fun a0 =>
  Option.bind (
   aG (bY p1) (a0,0)) fun a5 =>
  match a5 with
  | Sum.inr z=>some z
  | Sum.inl a1 =>
   Option.bind (
    aG (cZ a1) 0) fun a6 =>
   match a6 with
   | Sum.inr z=>some z
   | Sum.inl () =>
    some true
def gF (a2:GNode):((List Int) × Int)→Option (((List Int) × Int) ⊕ (List Int)):=fun ⟨a0,a1⟩ =>
 if (decide (a1 < (a2.Kids.length:Int)))=true then
  (aK a2.Kids a1).bind fun a3 =>
  (iC a0 a3).bind fun a4 =>
  if (!a4)=true then
   (lM 8 a0 [a3]).bind fun a5 =>
   some (Sum.inl (a5,IntKind.wrap .i64 (a1 + 1)))
  else
   some (Sum.inl (a0,IntKind.wrap .i64 (a1 + 1)))
 else
  some (Sum.inr a0)
def gG (a1:List GNode):((List Int) × Int)→Option (((List Int) × Int) ⊕ (List Int)):=fun ⟨a0,i7⟩ =>
 if (decide (i7 < (a0.length:Int)))=true then
  Option.bind (
   (aK a0 i7).bind fun a3 =>
   (aK a1 a3).bind fun a4 =>
   aG (gF a4) (a0,0)) fun a2 =>
  some (Sum.inl (a2,IntKind.wrap .i64 (i7 + 1)))
 else
  some (Sum.inr a0)
def nW (a0:List GNode) (k2:Int):Option (List Int) :=
 Option.bind (
  aG (gG a0) ([k2],0)) fun a1 =>
 (sort_Ints a1).bind fun a2 =>
 some a2
def lK (p1:GProgram) (k2:Int):Option (List Int) :=
 (jS p1.Nodes k2).bind fun r3 =>
 if (r3 == 0)=true then
  some []
 else
  (nW p1.Nodes k2).bind fun r7 =>
  some r7
def fK (a2:GFn):((List GVar) × Int)→Option (((List GVar) × Int) ⊕ (List GVar)):=fun ⟨a0,a1⟩ =>
 if (decide (a1 < (a2.Params.length:Int)))=true then
  (aK a2.Params a1).bind fun a3 =>
  (lM 32 a0 [(⟨a3.Name,a3.Typ,(-1)⟩:GVar)]).bind fun a4 =>
  some (Sum.inl (a4,IntKind.wrap .i64 (a1 + 1)))
 else
  some (Sum.inr a0)
def fJ (p1:GProgram) (a2:List Int):((List GVar) × Int)→Option (((List GVar) × Int) ⊕ (List GVar)):=fun ⟨a0,a1⟩ =>
 if (decide (a1 < (a2.length:Int)))=true then
  (aK a2 a1).bind fun a3 =>
  (aK p1.Nodes a3).bind fun a4 =>
  if (a4.Kind == 13)=true then
   (lM 32 a0 [(⟨a4.Name,0,a3⟩:GVar)]).bind fun a5 =>
   some (Sum.inl (a5,IntKind.wrap .i64 (a1 + 1)))
  else
   some (Sum.inl (a0,IntKind.wrap .i64 (a1 + 1)))
 else
  some (Sum.inr a0)
def jR (p1:GProgram) (a2:Int):Option (List GVar) :=
 (cF a2 0 (IntKind.wrap .i64 ((p1.Fns.length:Int) - 1))).bind fun r3 =>
 if (!r3)=true then
  some []
 else
  Option.bind (
   (aK p1.Fns a2).bind fun a3 =>
   aG (fK a3) ([],0)) fun a0 =>
  Option.bind (
   (aK p1.Fns a2).bind fun a4 =>
   (lK p1 a4.Body).bind fun a5 =>
   aG (fJ p1 a5) (a0,0)) fun a1 =>
  some a1
def gI (a0:List GVar) (a1:ByteArray):Int→Option ((Int) ⊕ ((Unit) ⊕ (Int))):=fun v6 =>
 if (decide (v6 < (a0.length:Int)))=true then
  (aK a0 v6).bind fun a2 =>
  if (sEq a2.Name a1)=true then
   some (Sum.inr (Sum.inr v6))
  else
   some (Sum.inl (IntKind.wrap .i64 (v6 + 1)))
 else
  some (Sum.inr (Sum.inl ()))
def lJ (a0:List GVar) (a1:ByteArray):Option (Int) :=
 Option.bind (
  aG (gI a0 a1) 0) fun j5 =>
 match j5 with
 | Sum.inr z=>some z
 | Sum.inl () =>
  some (-1)
def eN (r3:List GVar):Int→Option ((Int) ⊕ ((Unit) ⊕ (Bool))):=fun v8 =>
 if (decide (v8 < (r3.length:Int)))=true then
  (aK r3 v8).bind fun a0 =>
  (lJ r3 a0.Name).bind fun a1 =>
  if (a1 != v8)=true then
   some (Sum.inr (Sum.inr false))
  else
   some (Sum.inl (IntKind.wrap .i64 (v8 + 1)))
 else
  some (Sum.inr (Sum.inl ()))
def kP (p1:GProgram) (a0:Int):Option (Bool) :=
 (jR p1 a0).bind fun r3 =>
 Option.bind (
  aG (eN r3) 0) fun j7 =>
 match j7 with
 | Sum.inr z=>some z
 | Sum.inl () =>
  some true
def qE (a0:Int):Option (Bool) :=
 Option.bind (
  (cF a0 2 6).bind fun r4 =>
  if r4=true then
   some true
  else
   if (a0 == 14)=true then
    some true
   else
    some (a0 == 15)) fun a1 =>
 some a1
def eP (l1:List ByteArray) (s2:ByteArray):Int→Option ((Int) ⊕ ((Unit) ⊕ (Bool))):=fun v6 =>
 if (decide (v6 < (l1.length:Int)))=true then
  (aK l1 v6).bind fun a0 =>
  if (sEq a0 s2)=true then
   some (Sum.inr (Sum.inr true))
  else
   some (Sum.inl (IntKind.wrap .i64 (v6 + 1)))
 else
  some (Sum.inr (Sum.inl ()))
def kR (l1:List ByteArray) (s2:ByteArray):Option (Bool) :=
 Option.bind (
  aG (eP l1 s2) 0) fun j5 =>
 match j5 with
 | Sum.inr z=>some z
 | Sum.inl () =>
  some false
def fW (a0:GProgram→Int→Int→(List ByteArray)→Option (Bool)) (p1:GProgram) (a4:Int) (e5:GNode):((List ByteArray) × Int)→Option (((List ByteArray) × Int) ⊕ ((Unit) ⊕ (Bool))):=fun ⟨a1,a2⟩ =>
 if (decide (a2 < (e5.Kids.length:Int)))=true then
  (aK e5.Kids a2).bind fun a3 =>
  (a0 p1 a4 a3 a1).bind fun a5 =>
  if (!a5)=true then
   some (Sum.inr (Sum.inr false))
  else
   Option.bind (
    if (e5.Kind == 20)=true then
     (aK p1.Nodes a3).bind fun a6 =>
     some (a6.Kind == 13)
    else
     some false) fun a7 =>
   if a7=true then
    (aK p1.Nodes a3).bind fun a8 =>
    (lM 16 a1 [a8.Name]).bind fun a9 =>
    some (Sum.inl (a9,IntKind.wrap .i64 (a2 + 1)))
   else
    some (Sum.inl (a1,IntKind.wrap .i64 (a2 + 1)))
 else
  some (Sum.inr (Sum.inl ()))
def mH (a0:GProgram→Int→Int→(List ByteArray)→Option (Bool)) (p1:GProgram) (a2:Int) (k3:Int) (a1:List ByteArray):Option (Bool) :=
 (aK p1.Nodes k3).bind fun e5 =>
 Option.bind (
  (qE e5.Kind).bind fun r8 =>
  if r8=true then
   (kR a1 e5.Name).bind fun a4 =>
   some (!a4)
  else
   some false) fun a5 =>
 if a5=true then
  some false
 else
  Option.bind (
   if (e5.Kind == 12)=true then
    (mN p1 e5.Name).bind fun a3 =>
    Option.bind (
     (cF a3 0 (IntKind.wrap .i64 (a2 - 1))).bind fun a6 =>
     if (!a6)=true then
      some true
     else
      (aK p1.Fns a3).bind fun a7 =>
      some ((a7.Params.length:Int) != (e5.Kids.length:Int))) fun a8 =>
    if a8=true then
     some (Sum.inr false)
    else
     some (Sum.inl ())
   else
    some (Sum.inl ())) fun a9 =>
  match a9 with
  | Sum.inr z=>some z
  | Sum.inl () =>
   (lM 16 [] a1).bind fun b1 =>
   Option.bind (
    aG (fW a0 p1 a2 e5) (a1,0)) fun b0 =>
   match b0 with
   | Sum.inr z=>some z
   | Sum.inl () =>
    some true
def dZ:Nat→GProgram→Int→Int→(List ByteArray)→Option (Bool)
 | 0=>fun _ _ _ _=>none
 | n + 1=>mH (dZ n)
def qF:GProgram→Int→Int→(List ByteArray)→Option (Bool):=(dZ iA)
def bN (a2:GFn):((List ByteArray) × Int)→Option (((List ByteArray) × Int) ⊕ (List ByteArray)):=fun ⟨a0,a1⟩ =>
 if (decide (a1 < (a2.Params.length:Int)))=true then
  (aK a2.Params a1).bind fun a3 =>
  (lM 16 a0 [a3.Name]).bind fun a4 =>
  some (Sum.inl (a4,IntKind.wrap .i64 (a1 + 1)))
 else
  some (Sum.inr a0)
def bM (p1:GProgram) (a2:GNode):((List ByteArray) × Int)→Option (((List ByteArray) × Int) ⊕ (List ByteArray)):=fun ⟨a0,a1⟩ =>
 if (decide (a1 < (a2.Kids.length:Int)))=true then
  (aK a2.Kids a1).bind fun a3 =>
  (aK p1.Nodes a3).bind fun a4 =>
  if (a4.Kind == 13)=true then
   (aK p1.Nodes a3).bind fun a5 =>
   (lM 16 a0 [a5.Name]).bind fun a6 =>
   some (Sum.inl (a6,IntKind.wrap .i64 (a1 + 1)))
  else
   some (Sum.inl (a0,IntKind.wrap .i64 (a1 + 1)))
 else
  some (Sum.inr a0)
def cH (p1:GProgram):Int→Option ((Int) ⊕ ((Unit) ⊕ (Bool))):=fun v9 =>
 if (decide (v9 < (p1.Fns.length:Int)))=true then
  Option.bind (
   (aK p1.Fns v9).bind fun a2 =>
   (kP p1 v9).bind fun a3 =>
   if (!a3)=true then
    some (Sum.inr (Sum.inr (Sum.inr false)))
   else
    Option.bind (
     aG (bN a2) ([],0)) fun a0 =>
    (qF p1 v9 a2.Body a0).bind fun a4 =>
    if (!a4)=true then
     some (Sum.inr (Sum.inr (Sum.inr false)))
    else
     Option.bind (
      (aK p1.Nodes a2.Body).bind fun a5 =>
      aG (bM p1 a5) (a0,0)) fun a1 =>
     Option.bind (
      if (decide (a2.Ret ≥ 0))=true then
       (qF p1 v9 a2.Ret a1).bind fun a6 =>
       some (!a6)
      else
       some false) fun a7 =>
     if a7=true then
      some (Sum.inr (Sum.inr (Sum.inr false)))
     else
      some (Sum.inl ())) fun a8 =>
  match a8 with
  | Sum.inr z=>some z
  | Sum.inl () =>
   some (Sum.inl (IntKind.wrap .i64 (v9 + 1)))
 else
  some (Sum.inr (Sum.inl ()))
def fX (p1:GProgram):Option (Bool) :=
 (gY p1).bind fun r2 =>
 if (!r2)=true then
  some false
 else
  Option.bind (
   aG (cH p1) 0) fun j8 =>
  match j8 with
  | Sum.inr z=>some z
  | Sum.inl () =>
   some true
def jE (l1:List Int):Option (List Int) :=
 (lM 8 [] l1).bind fun l2 =>
 some l1
def cY (l1:List GNode):((List GNode) × Int)→Option (((List GNode) × Int) ⊕ (List GNode)):=fun ⟨a0,v6⟩ =>
 if (decide (v6 < (l1.length:Int)))=true then
  (aK l1 v6).bind fun a1 =>
  (jE a1.Kids).bind fun a2 =>
  (lM 56 a0 [(⟨a1.Kind,a1.Num,a1.Name,a2⟩:GNode)]).bind fun a3 =>
  some (Sum.inl (a3,IntKind.wrap .i64 (v6 + 1)))
 else
  some (Sum.inr a0)
def gX (l1:List GNode):Option (List GNode) :=
 Option.bind (
  aG (cY l1) ([],0)) fun a0 =>
 some a0
def mL (f1:GFn):Option (GFn) :=
 (lM 24 [] f1.Params).bind fun l2 =>
 some (⟨f1.Name,f1.Params,f1.Res,f1.Body,f1.Ret⟩:GFn)
def bX (p1:GProgram):(Int × GProgram)→Option ((Int × GProgram) ⊕ (GProgram)):=fun ⟨v7,v8⟩ =>
 if (decide (v7 < (p1.Fns.length:Int)))=true then
  (aK p1.Fns v7).bind fun a0 =>
  (mL a0).bind fun a1 =>
  (lM 64 v8.Fns [a1]).bind fun a2 =>
  some (Sum.inl (IntKind.wrap .i64 (v7 + 1),(⟨v8.Nodes,a2⟩:GProgram)))
 else
  some (Sum.inr v8)
def dV (p1:GProgram):Option (GProgram) :=
 (gX p1.Nodes).bind fun r2 =>
 Option.bind (
  aG (bX p1) (0,(⟨r2,[]⟩:GProgram))) fun a0 =>
 some a0
def nY (p1:GProgram) (a0:Int):Option (List Int) :=
 (cF a0 0 (IntKind.wrap .i64 ((p1.Fns.length:Int) - 1))).bind fun r3 =>
 if (!r3)=true then
  some []
 else
  (aK p1.Fns a0).bind fun e7 =>
  (aK p1.Fns a0).bind fun e8 =>
  if (e8.Ret != (-1))=true then
   (aK p1.Fns a0).bind fun a1 =>
   (lM 8 [e7.Body] [a1.Ret]).bind fun a2 =>
   some a2
  else
   some [e7.Body]
def eQ (a2:List Int):((List Int) × Int)→Option (((List Int) × Int) ⊕ (List Int)):=fun ⟨a0,a1⟩ =>
 if (decide (a1 < (a2.length:Int)))=true then
  (aK a2 a1).bind fun a3 =>
  (iC a0 a3).bind fun a4 =>
  if (!a4)=true then
   (lM 8 a0 [a3]).bind fun a5 =>
   some (Sum.inl (a5,IntKind.wrap .i64 (a1 + 1)))
  else
   some (Sum.inl (a0,IntKind.wrap .i64 (a1 + 1)))
 else
  some (Sum.inr a0)
def dI (p1:GProgram) (r6:List Int):((List Int) × Int)→Option (((List Int) × Int) ⊕ (List Int)):=fun ⟨a0,v9⟩ =>
 if (decide (v9 < (r6.length:Int)))=true then
  Option.bind (
   (aK r6 v9).bind fun a2 =>
   (lK p1 a2).bind fun a3 =>
   aG (eQ a3) (a0,0)) fun a1 =>
  some (Sum.inl (a1,IntKind.wrap .i64 (v9 + 1)))
 else
  some (Sum.inr a0)
def kS (p1:GProgram) (a1:Int):Option (List Int) :=
 Option.bind (
  (nY p1 a1).bind fun r6 =>
  aG (dI p1 r6) ([],0)) fun a0 =>
 (sort_Ints a0).bind fun a2 =>
 some a2
def cE (a0:ByteArray→Option ByteArray) (r9:List Int):(Int × GProgram)→Option ((Int × GProgram) ⊕ (GProgram)):=fun ⟨a3,a2⟩ =>
 if (decide (a3 < (r9.length:Int)))=true then
  (aK r9 a3).bind fun a4 =>
  (aK a2.Nodes a4).bind fun a1 =>
  Option.bind (
   (eR a1.Kind).bind fun a5 =>
   if a5=true then
    some (a1.Kind != 12)
   else
    some false) fun a6 =>
  if a6=true then
   (a0 a1.Name).bind fun a7 =>
   jJ (List.set a2.Nodes a4.toNat (⟨a1.Kind,a1.Num,a7,a1.Kids⟩:GNode)) fun a8 =>
   some (Sum.inl (IntKind.wrap .i64 (a3 + 1),(⟨a8,a2.Fns⟩:GProgram)))
  else
   some (Sum.inl (IntKind.wrap .i64 (a3 + 1),a2))
 else
  some (Sum.inr a2)
def dH (a4:Int) (a0:ByteArray→Option ByteArray) (a6:GFn):(Int × GProgram)→Option ((Int × GProgram) ⊕ (GProgram)):=fun ⟨a2,a3⟩ =>
 if (decide (a2 < (a6.Params.length:Int)))=true then
  (aK a3.Fns a4).bind fun a1 =>
  (aK a1.Params a2).bind fun a5 =>
  (a0 a5.Name).bind fun a7 =>
  jJ (List.set a1.Params a2.toNat (⟨a7,a5.Typ⟩:GParam)) fun a8 =>
  jJ (List.set a3.Fns a4.toNat (⟨a1.Name,a8,a1.Res,a1.Body,a1.Ret⟩:GFn)) fun a9 =>
  some (Sum.inl (IntKind.wrap .i64 (a2 + 1),(⟨a3.Nodes,a9⟩:GProgram)))
 else
  some (Sum.inr a3)
def mX (p1:GProgram) (a1:Int) (a0:ByteArray→Option ByteArray):Option (GProgram) :=
 (dV p1).bind fun r4 =>
 Option.bind (
  (kS p1 a1).bind fun r9 =>
  aG (cE a0 r9) (0,r4)) fun a2 =>
 Option.bind (
  (aK a2.Fns a1).bind fun a3 =>
  aG (dH a1 a0 a3) (0,a2)) fun a4 =>
 some a4
def kU (n1:Int):Option (ByteArray) :=
 (strconv_Itoa n1).bind fun r2 =>
 some r2
def bD (a0:ByteArray) (a2:List GVar):Option (ByteArray) :=
 (lJ a2 a0).bind fun r3 =>
 if (decide (r3 < 0))=true then
  some a0
 else
  (kU r3).bind fun r7 =>
  (aFs (⟨#[118]⟩:ByteArray) r7).bind fun t9 =>
  some t9
def jC (p1:GProgram) (a1:Int):Option (GProgram) :=
 (jR p1 a1).bind fun r3 =>
 (mX p1 a1 (fun a0=>bD a0 r3)).bind fun r5 =>
 some r5
def fG (a1:List Int) (b2:List Int):Int→Option ((Int) ⊕ ((Unit) ⊕ (Bool))):=fun i8 =>
 if (decide (i8 < (a1.length:Int)))=true then
  (aK a1 i8).bind fun a0 =>
  (aK b2 i8).bind fun a2 =>
  if (a0 != a2)=true then
   some (Sum.inr (Sum.inr false))
  else
   some (Sum.inl (IntKind.wrap .i64 (i8 + 1)))
 else
  some (Sum.inr (Sum.inl ()))
def mF (a1:List Int) (b2:List Int):Option (Bool) :=
 if ((a1.length:Int) != (b2.length:Int))=true then
  some false
 else
  Option.bind (
   aG (fG a1 b2) 0) fun j7 =>
  match j7 with
  | Sum.inr z=>some z
  | Sum.inl () =>
   some true
def mE (a1:GNode) (b2:GNode):Option (Bool) :=
 if (a1.Kind != b2.Kind)=true then
  some false
 else
  if (a1.Num != b2.Num)=true then
   some false
  else
   if (!(sEq a1.Name b2.Name))=true then
    some false
   else
    (mF a1.Kids b2.Kids).bind fun r9 =>
    if (!r9)=true then
     some false
    else
     some true
def eM (a1:List GNode) (b2:List GNode):Int→Option ((Int) ⊕ ((Unit) ⊕ (Bool))):=fun i8 =>
 if (decide (i8 < (a1.length:Int)))=true then
  (aK a1 i8).bind fun a0 =>
  (aK b2 i8).bind fun a2 =>
  (mE a0 a2).bind fun a3 =>
  if (!a3)=true then
   some (Sum.inr (Sum.inr false))
  else
   some (Sum.inl (IntKind.wrap .i64 (i8 + 1)))
 else
  some (Sum.inr (Sum.inl ()))
def kO (a1:List GNode) (b2:List GNode):Option (Bool) :=
 if ((a1.length:Int) != (b2.length:Int))=true then
  some false
 else
  Option.bind (
   aG (eM a1 b2) 0) fun j7 =>
  match j7 with
  | Sum.inr z=>some z
  | Sum.inl () =>
   some true
def kN (a1:GParam) (b2:GParam):Option (Bool) :=
 if (!(sEq a1.Name b2.Name))=true then
  some false
 else
  if (a1.Typ != b2.Typ)=true then
   some false
  else
   some true
def dU (a1:List GParam) (b2:List GParam):Int→Option ((Int) ⊕ ((Unit) ⊕ (Bool))):=fun i8 =>
 if (decide (i8 < (a1.length:Int)))=true then
  (aK a1 i8).bind fun a0 =>
  (aK b2 i8).bind fun a2 =>
  (kN a0 a2).bind fun a3 =>
  if (!a3)=true then
   some (Sum.inr (Sum.inr false))
  else
   some (Sum.inl (IntKind.wrap .i64 (i8 + 1)))
 else
  some (Sum.inr (Sum.inl ()))
def jA (a1:List GParam) (b2:List GParam):Option (Bool) :=
 if ((a1.length:Int) != (b2.length:Int))=true then
  some false
 else
  Option.bind (
   aG (dU a1 b2) 0) fun j7 =>
  match j7 with
  | Sum.inr z=>some z
  | Sum.inl () =>
   some true
def qC (a1:GFn) (b2:GFn):Option (Bool) :=
 if (!(sEq a1.Name b2.Name))=true then
  some false
 else
  (jA a1.Params b2.Params).bind fun r5 =>
  if (!r5)=true then
   some false
  else
   if (a1.Res != b2.Res)=true then
    some false
   else
    if (a1.Body != b2.Body)=true then
     some false
    else
     if (a1.Ret != b2.Ret)=true then
      some false
     else
      some true
def gE (a1:List GFn) (b2:List GFn):Int→Option ((Int) ⊕ ((Unit) ⊕ (Bool))):=fun i8 =>
 if (decide (i8 < (a1.length:Int)))=true then
  (aK a1 i8).bind fun a0 =>
  (aK b2 i8).bind fun a2 =>
  (qC a0 a2).bind fun a3 =>
  if (!a3)=true then
   some (Sum.inr (Sum.inr false))
  else
   some (Sum.inl (IntKind.wrap .i64 (i8 + 1)))
 else
  some (Sum.inr (Sum.inl ()))
def nV (a1:List GFn) (b2:List GFn):Option (Bool) :=
 if ((a1.length:Int) != (b2.length:Int))=true then
  some false
 else
  Option.bind (
   aG (gE a1 b2) 0) fun j7 =>
  match j7 with
  | Sum.inr z=>some z
  | Sum.inl () =>
   some true
def cT (a1:GProgram) (b2:GProgram):Option (Bool) :=
 (kO a1.Nodes b2.Nodes).bind fun r3 =>
 if (!r3)=true then
  some false
 else
  (nV a1.Fns b2.Fns).bind fun r7 =>
  if (!r7)=true then
   some false
  else
   some true
def iT (p1:GProgram) (a0:Int):Option (GProgram) :=
 (kC p1).bind fun r3 =>
 Option.bind (
  (fR p1).bind fun r7 =>
  if (!r7)=true then
   some true
  else
   (aW a0 0 (IntKind.wrap .i64 ((p1.Fns.length:Int) - 1))).bind fun a1 =>
   some (!a1)) fun a2 =>
 if a2=true then
  some r3
 else
  (jX r3 a0).bind fun a3 =>
  some a3
def gJ (p1:GProgram) (a0:Int):Option (GProgram) :=
 Option.bind (
  (fX p1).bind fun r5 =>
  if (!r5)=true then
   some true
  else
   (cF a0 0 (IntKind.wrap .i64 ((p1.Fns.length:Int) - 1))).bind fun r9 =>
   some (!r9)) fun a1 =>
 if a1=true then
  (dV p1).bind fun a2 =>
  some a2
 else
  (jC p1 a0).bind fun a3 =>
  some a3
def dQ:(Int × ByteArray)→Option ((Int × ByteArray) ⊕ (ByteArray)):=fun ⟨k7,a0⟩ =>
 if (decide (k7 > 0))=true then
  (aFs (gL [IntKind.wrap .u8 (IntKind.wrap .i64 (48 + (Int.tmod k7 10)))]) a0).bind fun a1 =>
  some (Sum.inl (IntKind.wrap .i64 (Int.tdiv k7 10),a1))
 else
  some (Sum.inr a0)
def aP (k1:Int):Option (ByteArray) :=
 if (decide (k1 ≤ 0))=true then
  some (⟨#[109,48]⟩:ByteArray)
 else
  Option.bind (
   aG (dQ) (k1,(⟨#[]⟩:ByteArray))) fun a0 =>
  (aFs (⟨#[109]⟩:ByteArray) a0).bind fun a1 =>
  some a1
def cK:((List Int) × Int × Int)→Option (((List Int) × Int × Int) ⊕ ((List Int) × Int)):=fun ⟨a6,k7,i8⟩ =>
 if (decide (i8 < (a6.length:Int)))=true then
  (aK a6 i8).bind fun a1 =>
  jJ (List.set a6 i8.toNat k7) fun a0 =>
  some (Sum.inl (a0,IntKind.wrap .i64 (k7 + 1),IntKind.wrap .i64 (i8 + 1)))
 else
  some (Sum.inr (a6,k7))
def iZ (a1:List Int) (k2:Int):Option (Int × (List Int)) :=
 Option.bind (
  aG (cK) (a1,k2,0)) fun ⟨a0,a2⟩ =>
 some (a2,a0)
def bV:((List GNode) × Int × Int)→Option (((List GNode) × Int × Int) ⊕ ((List GNode) × Int)):=fun ⟨a6,k7,i8⟩ =>
 if (decide (i8 < (a6.length:Int)))=true then
  (aK a6 i8).bind fun a1 =>
  jJ (List.set a6 i8.toNat (⟨k7,a1.Num,a1.Name,a1.Kids⟩:GNode)) fun a4 =>
  (aK a4 i8).bind fun a2 =>
  jJ (List.set a4 i8.toNat (⟨a2.Kind,IntKind.wrap .i64 (k7 + 1),a2.Name,a2.Kids⟩:GNode)) fun a5 =>
  (aP (IntKind.wrap .i64 ((IntKind.wrap .i64 (k7 + 1)) + 1))).bind fun a8 =>
  (aK a5 i8).bind fun a3 =>
  jJ (List.set a5 i8.toNat (⟨a3.Kind,a3.Num,a8,a3.Kids⟩:GNode)) fun a7 =>
  (aK a7 i8).bind fun a0 =>
  (iZ a0.Kids (IntKind.wrap .i64 ((IntKind.wrap .i64 ((IntKind.wrap .i64 (k7 + 1)) + 1)) + 1))).bind fun ⟨a9,b0⟩ =>
  jJ (List.set a7 i8.toNat (⟨a0.Kind,a0.Num,a0.Name,b0⟩:GNode)) fun b1 =>
  some (Sum.inl (b1,a9,IntKind.wrap .i64 (i8 + 1)))
 else
  some (Sum.inr (a6,k7))
def gV (a1:List GNode) (k2:Int):Option (Int × (List GNode)) :=
 Option.bind (
  aG (bV) (a1,k2,0)) fun ⟨a0,a2⟩ =>
 some (a2,a0)
def bK:((List GParam) × Int × Int)→Option (((List GParam) × Int × Int) ⊕ ((List GParam) × Int)):=fun ⟨a6,k7,i8⟩ =>
 if (decide (i8 < (a6.length:Int)))=true then
  (aP k7).bind fun a1 =>
  (aK a6 i8).bind fun a2 =>
  jJ (List.set a6 i8.toNat (⟨a1,a2.Typ⟩:GParam)) fun a0 =>
  (aK a0 i8).bind fun a3 =>
  jJ (List.set a0 i8.toNat (⟨a3.Name,IntKind.wrap .i64 (k7 + 1)⟩:GParam)) fun a4 =>
  some (Sum.inl (a4,IntKind.wrap .i64 ((IntKind.wrap .i64 (k7 + 1)) + 1),IntKind.wrap .i64 (i8 + 1)))
 else
  some (Sum.inr (a6,k7))
def fV (a1:List GParam) (k2:Int):Option (Int × (List GParam)) :=
 Option.bind (
  aG (bK) (a1,k2,0)) fun ⟨a0,a2⟩ =>
 some (a2,a0)
def dF:((List GFn) × Int × Int)→Option (((List GFn) × Int × Int) ⊕ ((List GFn) × Int)):=fun ⟨a6,k7,i8⟩ =>
 if (decide (i8 < (a6.length:Int)))=true then
  (aP k7).bind fun b1 =>
  (aK a6 i8).bind fun a1 =>
  jJ (List.set a6 i8.toNat (⟨b1,a1.Params,a1.Res,a1.Body,a1.Ret⟩:GFn)) fun a7 =>
  (aK a7 i8).bind fun a0 =>
  (fV a0.Params (IntKind.wrap .i64 (k7 + 1))).bind fun ⟨a2,b2⟩ =>
  jJ (List.set a7 i8.toNat (⟨a0.Name,b2,a0.Res,a0.Body,a0.Ret⟩:GFn)) fun a8 =>
  (aK a8 i8).bind fun a3 =>
  jJ (List.set a8 i8.toNat (⟨a3.Name,a3.Params,a2,a3.Body,a3.Ret⟩:GFn)) fun a9 =>
  (aK a9 i8).bind fun a4 =>
  jJ (List.set a9 i8.toNat (⟨a4.Name,a4.Params,a4.Res,IntKind.wrap .i64 (a2 + 1),a4.Ret⟩:GFn)) fun b0 =>
  (aK b0 i8).bind fun a5 =>
  jJ (List.set b0 i8.toNat (⟨a5.Name,a5.Params,a5.Res,a5.Body,IntKind.wrap .i64 ((IntKind.wrap .i64 (a2 + 1)) + 1)⟩:GFn)) fun b3 =>
  some (Sum.inl (b3,IntKind.wrap .i64 ((IntKind.wrap .i64 ((IntKind.wrap .i64 (a2 + 1)) + 1)) + 1),IntKind.wrap .i64 (i8 + 1)))
 else
  some (Sum.inr (a6,k7))
def kL (a1:List GFn) (k2:Int):Option (Int × (List GFn)) :=
 Option.bind (
  aG (dF) (a1,k2,0)) fun ⟨a0,a2⟩ =>
 some (a2,a0)
def dR (a1:GProgram) (k2:Int):Option (Int × GProgram) :=
 (gV a1.Nodes k2).bind fun ⟨r3,q4⟩ =>
 (kL a1.Fns r3).bind fun ⟨r6,q7⟩ =>
 some (r6,(⟨q4,q7⟩:GProgram))
def cL (a1:List Int):(Int × Int)→Option ((Int × Int) ⊕ ((Int) ⊕ (Int))):=fun ⟨k6,i7⟩ =>
 if (decide (i7 < (a1.length:Int)))=true then
  (aK a1 i7).bind fun a0 =>
  if (a0 != k6)=true then
   some (Sum.inr (Sum.inr (-1)))
  else
   some (Sum.inl (IntKind.wrap .i64 (k6 + 1),IntKind.wrap .i64 (i7 + 1)))
 else
  some (Sum.inr (Sum.inl k6))
def dY (a1:List Int) (k2:Int):Option (Int) :=
 Option.bind (
  aG (cL a1) (k2,0)) fun j5 =>
 match j5 with
 | Sum.inr z=>some z
 | Sum.inl a0 =>
  some a0
def bW (a1:List GNode):(Int × Int)→Option ((Int × Int) ⊕ ((Int) ⊕ (Int))):=fun ⟨k6,i7⟩ =>
 if (decide (i7 < (a1.length:Int)))=true then
  (aK a1 i7).bind fun a2 =>
  if (a2.Kind != k6)=true then
   some (Sum.inr (Sum.inr (-1)))
  else
   (aK a1 i7).bind fun a3 =>
   if (a3.Num != (IntKind.wrap .i64 (k6 + 1)))=true then
    some (Sum.inr (Sum.inr (-1)))
   else
    (aK a1 i7).bind fun a4 =>
    (aP (IntKind.wrap .i64 ((IntKind.wrap .i64 (k6 + 1)) + 1))).bind fun a5 =>
    if (!(sEq a4.Name a5))=true then
     some (Sum.inr (Sum.inr (-1)))
    else
     (aK a1 i7).bind fun a6 =>
     (dY a6.Kids (IntKind.wrap .i64 ((IntKind.wrap .i64 ((IntKind.wrap .i64 (k6 + 1)) + 1)) + 1))).bind fun a0 =>
     if (decide (a0 < 0))=true then
      some (Sum.inr (Sum.inr (-1)))
     else
      some (Sum.inl (a0,IntKind.wrap .i64 (i7 + 1)))
 else
  some (Sum.inr (Sum.inl k6))
def gW (a1:List GNode) (k2:Int):Option (Int) :=
 Option.bind (
  aG (bW a1) (k2,0)) fun j5 =>
 match j5 with
 | Sum.inr z=>some z
 | Sum.inl a0 =>
  some a0
def bL (a1:List GParam):(Int × Int)→Option ((Int × Int) ⊕ ((Int) ⊕ (Int))):=fun ⟨k6,i7⟩ =>
 if (decide (i7 < (a1.length:Int)))=true then
  (aK a1 i7).bind fun a0 =>
  (aP k6).bind fun a2 =>
  if (!(sEq a0.Name a2))=true then
   some (Sum.inr (Sum.inr (-1)))
  else
   (aK a1 i7).bind fun a3 =>
   if (a3.Typ != (IntKind.wrap .i64 (k6 + 1)))=true then
    some (Sum.inr (Sum.inr (-1)))
   else
    some (Sum.inl (IntKind.wrap .i64 ((IntKind.wrap .i64 (k6 + 1)) + 1),IntKind.wrap .i64 (i7 + 1)))
 else
  some (Sum.inr (Sum.inl k6))
def cD (a1:List GParam) (k2:Int):Option (Int) :=
 Option.bind (
  aG (bL a1) (k2,0)) fun j5 =>
 match j5 with
 | Sum.inr z=>some z
 | Sum.inl a0 =>
  some a0
def dG (a1:List GFn):(Int × Int)→Option ((Int × Int) ⊕ ((Int) ⊕ (Int))):=fun ⟨k6,i7⟩ =>
 if (decide (i7 < (a1.length:Int)))=true then
  (aK a1 i7).bind fun a2 =>
  (aP k6).bind fun a3 =>
  if (!(sEq a2.Name a3))=true then
   some (Sum.inr (Sum.inr (-1)))
  else
   (aK a1 i7).bind fun a4 =>
   (cD a4.Params (IntKind.wrap .i64 (k6 + 1))).bind fun a0 =>
   if (decide (a0 < 0))=true then
    some (Sum.inr (Sum.inr (-1)))
   else
    (aK a1 i7).bind fun a5 =>
    if (a5.Res != a0)=true then
     some (Sum.inr (Sum.inr (-1)))
    else
     (aK a1 i7).bind fun a6 =>
     if (a6.Body != (IntKind.wrap .i64 (a0 + 1)))=true then
      some (Sum.inr (Sum.inr (-1)))
     else
      (aK a1 i7).bind fun a7 =>
      if (a7.Ret != (IntKind.wrap .i64 ((IntKind.wrap .i64 (a0 + 1)) + 1)))=true then
       some (Sum.inr (Sum.inr (-1)))
      else
       some (Sum.inl (IntKind.wrap .i64 ((IntKind.wrap .i64 ((IntKind.wrap .i64 (a0 + 1)) + 1)) + 1),IntKind.wrap .i64 (i7 + 1)))
 else
  some (Sum.inr (Sum.inl k6))
def kM (a1:List GFn) (k2:Int):Option (Int) :=
 Option.bind (
  aG (dG a1) (k2,0)) fun j5 =>
 match j5 with
 | Sum.inr z=>some z
 | Sum.inl a0 =>
  some a0
def dS (a1:GProgram) (k2:Int):Option (Int) :=
 (gW a1.Nodes k2).bind fun r3 =>
 if (decide (r3 < 0))=true then
  some (-1)
 else
  (kM a1.Fns r3).bind fun r7 =>
  if (decide (r7 < 0))=true then
   some (-1)
  else
   some r7
def eE (a1:GProgram) (a0:Int):Option (Bool) :=
 (gU a1 1048576).bind fun r3 =>
 if (decide (r3 < 0))=true then
  some true
 else
  (cS a1).bind fun r7 =>
  (iT r7 a0).bind fun r9 =>
  (cS a1).bind fun a2 =>
  (gJ a2 a0).bind fun a3 =>
  (cT a3 r9).bind fun a8 =>
  if (!a8)=true then
   some false
  else
   (cS a1).bind fun a9 =>
   (cT a2 a9).bind fun b0 =>
   if (!b0)=true then
    some false
   else
    (dR a2 1).bind fun ⟨b1,b7⟩ =>
    Option.bind (
     if (decide (b1 < 0))=true then
      some true
     else
      (cT a3 r9).bind fun b2 =>
      some (!b2)) fun b3 =>
    if b3=true then
     some false
    else
     (dR a3 1).bind fun ⟨a4,a5⟩ =>
     (dS a5 1).bind fun a6 =>
     if (decide (a6 < 0))=true then
      some false
     else
      if (a6 != a4)=true then
       some false
      else
       (cS a1).bind fun b4 =>
       (gJ b4 a0).bind fun b5 =>
       (cT b5 r9).bind fun b6 =>
       if (!b6)=true then
        some false
       else
        (dS a5 1).bind fun a7 =>
        if (decide (a7 < 0))=true then
         some false
        else
         if (a7 != a4)=true then
          some false
         else
          some true
end Go.OM
end
set_option maxRecDepth 100000
set_option maxHeartbeats 8000000
namespace Go.Proofs.T
open Go.OM
noncomputable def ty:TypeId→Option TI
 | 2=>some ⟨1,8,.int .i64,[.v (.int .i64 0)]⟩
 | 3=>some ⟨1,8,.int .i64,[.v (.int .i64 0)]⟩
 | 4=>some ⟨1,1,.bool,[.v (.bool false)]⟩
 | 5=>some ⟨1,1,.int .u8,[.v (.int .u8 0)]⟩
 | 7=>some ⟨4,24,.struct [(0,1),(1,1),(2,1),(3,1)],[.v (.int .i64 0),.v (.int .i64 0),.v (.bool false),.v (.int .u8 0)]⟩
 | 9=>some ⟨1,16,.str,[.v (.string .empty)]⟩
 | 12=>some ⟨1,8,.int .u64,[.v (.int .u64 0)]⟩
 | 13=>some ⟨2,24,.struct [(0,1),(1,1)],[.v (.string .empty),.v (.int .u64 0)]⟩
 | 22=>some ⟨1,24,.slice 62,[.nl true 4 none]⟩
 | 23=>some ⟨1,24,.slice 66,[.nl true 5 none]⟩
 | 24=>some ⟨2,48,.struct [(0,1),(1,1)],[.nl true 4 none,.nl true 5 none]⟩
 | 25=>some ⟨2,48,.struct [(0,1),(1,1)],[.nl true 4 none,.nl true 5 none]⟩
 | 28=>some ⟨1,24,.slice 53,[.nl true 4 none]⟩
 | 29=>some ⟨1,24,.slice 58,[.nl true 5 none]⟩
 | 30=>some ⟨2,48,.struct [(0,1),(1,1)],[.nl true 4 none,.nl true 5 none]⟩
 | 31=>some ⟨2,48,.struct [(0,1),(1,1)],[.nl true 4 none,.nl true 5 none]⟩
 | 48=>some ⟨1,8,.ptr,[.v (.pointer none)]⟩
 | 51=>some ⟨1,24,.slice 3,[.nl true 1 none]⟩
 | 52=>some ⟨4,56,.struct [(0,1),(1,1),(2,1),(3,1)],[.v (.int .i64 0),.v (.int .i64 0),.v (.string .empty),.nl true 1 none]⟩
 | 53=>some ⟨4,56,.struct [(0,1),(1,1),(2,1),(3,1)],[.v (.int .i64 0),.v (.int .i64 0),.v (.string .empty),.nl true 1 none]⟩
 | 56=>some ⟨1,24,.slice 77,[.nl true 2 none]⟩
 | 57=>some ⟨5,64,.struct [(0,1),(1,1),(2,1),(3,1),(4,1)],[.v (.string .empty),.nl true 2 none,.v (.int .i64 0),.v (.int .i64 0),.v (.int .i64 0)]⟩
 | 58=>some ⟨5,64,.struct [(0,1),(1,1),(2,1),(3,1),(4,1)],[.v (.string .empty),.nl true 2 none,.v (.int .i64 0),.v (.int .i64 0),.v (.int .i64 0)]⟩
 | 60=>some ⟨1,8,.func,[.v .nilFunc]⟩
 | 62=>some ⟨4,56,.struct [(0,1),(1,1),(2,1),(3,1)],[.v (.int .i64 0),.v (.int .i64 0),.v (.string .empty),.nl true 1 none]⟩
 | 64=>some ⟨1,24,.slice 109,[.nl true 2 none]⟩
 | 65=>some ⟨5,64,.struct [(0,1),(1,1),(2,1),(3,1),(4,1)],[.v (.string .empty),.nl true 2 none,.v (.int .i64 0),.v (.int .i64 0),.v (.int .i64 0)]⟩
 | 66=>some ⟨5,64,.struct [(0,1),(1,1),(2,1),(3,1),(4,1)],[.v (.string .empty),.nl true 2 none,.v (.int .i64 0),.v (.int .i64 0),.v (.int .i64 0)]⟩
 | 67=>some ⟨1,24,.slice 71,[.nl true 3 none]⟩
 | 70=>some ⟨3,32,.struct [(0,1),(1,1),(2,1)],[.v (.string .empty),.v (.int .i64 0),.v (.int .i64 0)]⟩
 | 71=>some ⟨3,32,.struct [(0,1),(1,1),(2,1)],[.v (.string .empty),.v (.int .i64 0),.v (.int .i64 0)]⟩
 | 72=>some ⟨1,8,.ptr,[.v (.pointer none)]⟩
 | 73=>some ⟨1,24,.slice 9,[.nl true 1 none]⟩
 | 74=>some ⟨5,88,.struct [(0,2),(2,1),(3,1),(4,1)],[.nl true 4 none,.nl true 5 none,.v (.int .i64 0),.nl true 1 none,.v (.bool false)]⟩
 | 75=>some ⟨5,88,.struct [(0,2),(2,1),(3,1),(4,1)],[.nl true 4 none,.nl true 5 none,.v (.int .i64 0),.nl true 1 none,.v (.bool false)]⟩
 | 76=>some ⟨2,24,.struct [(0,1),(1,1)],[.v (.string .empty),.v (.int .i64 0)]⟩
 | 77=>some ⟨2,24,.struct [(0,1),(1,1)],[.v (.string .empty),.v (.int .i64 0)]⟩
 | 95=>some ⟨1,24,.slice 5,[.nl true 1 none]⟩
 | 96=>some ⟨1,8,.ptr,[.v (.pointer none)]⟩
 | 107=>some ⟨1,8,.ptr,[.v (.pointer none)]⟩
 | 109=>some ⟨2,24,.struct [(0,1),(1,1)],[.v (.string .empty),.v (.int .i64 0)]⟩
 | 112=>some ⟨1,24,.slice 4,[.nl true 1 none]⟩
 | _=>none
theorem ty_ok (t:TypeId) (ti:TI) (h:ty t=some ti):TIok Tryz.prog t ti:=by
 unfold ty at h
 split at h
 ·cases h;exact ⟨by kernel_rfl,Tryz.underlying2,rfl⟩
 ·cases h;exact ⟨by kernel_rfl,Tryz.underlying3,rfl⟩
 ·cases h;exact ⟨by kernel_rfl,Tryz.underlying4,rfl⟩
 ·cases h;exact ⟨by kernel_rfl,Tryz.underlying5,rfl⟩
 ·cases h;exact ⟨by kernel_rfl,(show aR Tryz.prog 7=some [(0,1),(1,1),(2,1),(3,1)] by kernel_rfl),rfl⟩
 ·cases h;exact ⟨by kernel_rfl,Tryz.underlying9,rfl⟩
 ·cases h;exact ⟨by kernel_rfl,Tryz.underlying12,rfl⟩
 ·cases h;exact ⟨by kernel_rfl,(show aR Tryz.prog 13=some [(0,1),(1,1)] by kernel_rfl),rfl⟩
 ·cases h;exact ⟨by kernel_rfl,Tryz.underlying22,rfl⟩
 ·cases h;exact ⟨by kernel_rfl,Tryz.underlying23,rfl⟩
 ·cases h;exact ⟨by kernel_rfl,(show aR Tryz.prog 24=some [(0,1),(1,1)] by kernel_rfl),rfl⟩
 ·cases h;exact ⟨by kernel_rfl,(show aR Tryz.prog 25=some [(0,1),(1,1)] by kernel_rfl),rfl⟩
 ·cases h;exact ⟨by kernel_rfl,Tryz.underlying28,rfl⟩
 ·cases h;exact ⟨by kernel_rfl,Tryz.underlying29,rfl⟩
 ·cases h;exact ⟨by kernel_rfl,(show aR Tryz.prog 30=some [(0,1),(1,1)] by kernel_rfl),rfl⟩
 ·cases h;exact ⟨by kernel_rfl,(show aR Tryz.prog 31=some [(0,1),(1,1)] by kernel_rfl),rfl⟩
 ·cases h;exact ⟨by kernel_rfl,⟨_,Tryz.underlying48⟩,rfl⟩
 ·cases h;exact ⟨by kernel_rfl,Tryz.underlying51,rfl⟩
 ·cases h;exact ⟨by kernel_rfl,(show aR Tryz.prog 52=some [(0,1),(1,1),(2,1),(3,1)] by kernel_rfl),rfl⟩
 ·cases h;exact ⟨by kernel_rfl,(show aR Tryz.prog 53=some [(0,1),(1,1),(2,1),(3,1)] by kernel_rfl),rfl⟩
 ·cases h;exact ⟨by kernel_rfl,Tryz.underlying56,rfl⟩
 ·cases h;exact ⟨by kernel_rfl,(show aR Tryz.prog 57=some [(0,1),(1,1),(2,1),(3,1),(4,1)] by kernel_rfl),rfl⟩
 ·cases h;exact ⟨by kernel_rfl,(show aR Tryz.prog 58=some [(0,1),(1,1),(2,1),(3,1),(4,1)] by kernel_rfl),rfl⟩
 ·cases h;exact ⟨by kernel_rfl,⟨_,_,_,Tryz.underlying60⟩,rfl⟩
 ·cases h;exact ⟨by kernel_rfl,(show aR Tryz.prog 62=some [(0,1),(1,1),(2,1),(3,1)] by kernel_rfl),rfl⟩
 ·cases h;exact ⟨by kernel_rfl,Tryz.underlying64,rfl⟩
 ·cases h;exact ⟨by kernel_rfl,(show aR Tryz.prog 65=some [(0,1),(1,1),(2,1),(3,1),(4,1)] by kernel_rfl),rfl⟩
 ·cases h;exact ⟨by kernel_rfl,(show aR Tryz.prog 66=some [(0,1),(1,1),(2,1),(3,1),(4,1)] by kernel_rfl),rfl⟩
 ·cases h;exact ⟨by kernel_rfl,Tryz.underlying67,rfl⟩
 ·cases h;exact ⟨by kernel_rfl,(show aR Tryz.prog 70=some [(0,1),(1,1),(2,1)] by kernel_rfl),rfl⟩
 ·cases h;exact ⟨by kernel_rfl,(show aR Tryz.prog 71=some [(0,1),(1,1),(2,1)] by kernel_rfl),rfl⟩
 ·cases h;exact ⟨by kernel_rfl,⟨_,Tryz.underlying72⟩,rfl⟩
 ·cases h;exact ⟨by kernel_rfl,Tryz.underlying73,rfl⟩
 ·cases h;exact ⟨by kernel_rfl,(show aR Tryz.prog 74=some [(0,2),(2,1),(3,1),(4,1)] by kernel_rfl),rfl⟩
 ·cases h;exact ⟨by kernel_rfl,(show aR Tryz.prog 75=some [(0,2),(2,1),(3,1),(4,1)] by kernel_rfl),rfl⟩
 ·cases h;exact ⟨by kernel_rfl,(show aR Tryz.prog 76=some [(0,1),(1,1)] by kernel_rfl),rfl⟩
 ·cases h;exact ⟨by kernel_rfl,(show aR Tryz.prog 77=some [(0,1),(1,1)] by kernel_rfl),rfl⟩
 ·cases h;exact ⟨by kernel_rfl,Tryz.underlying95,rfl⟩
 ·cases h;exact ⟨by kernel_rfl,⟨_,Tryz.underlying96⟩,rfl⟩
 ·cases h;exact ⟨by kernel_rfl,⟨_,Tryz.underlying107⟩,rfl⟩
 ·cases h;exact ⟨by kernel_rfl,(show aR Tryz.prog 109=some [(0,1),(1,1)] by kernel_rfl),rfl⟩
 ·cases h;exact ⟨by kernel_rfl,Tryz.underlying112,rfl⟩
 ·cases h
noncomputable def E:Env:=⟨Tryz.prog,ty,ty_ok,by kernel_rfl,[(3,fun cs=>∃ m,cs[0]? = some (.int .i64 m)),(0,fun cs=>cs=((Lib.pow10Tab.map fun z=>Value.int .u64 z).toArray))]⟩
@[simp] theorem E_ty2:E.ty 2=some ⟨1,8,.int .i64,[.v (.int .i64 0)]⟩:=rfl
@[simp] theorem aFl:E.ty 3=some ⟨1,8,.int .i64,[.v (.int .i64 0)]⟩:=rfl
@[simp] theorem E_ty4:E.ty 4=some ⟨1,1,.bool,[.v (.bool false)]⟩:=rfl
@[simp] theorem E_ty5:E.ty 5=some ⟨1,1,.int .u8,[.v (.int .u8 0)]⟩:=rfl
@[simp] theorem E_ty7:E.ty 7=some ⟨4,24,.struct [(0,1),(1,1),(2,1),(3,1)],[.v (.int .i64 0),.v (.int .i64 0),.v (.bool false),.v (.int .u8 0)]⟩:=rfl
@[simp] theorem aOu:E.ty 9=some ⟨1,16,.str,[.v (.string .empty)]⟩:=rfl
@[simp] theorem E_ty12:E.ty 12=some ⟨1,8,.int .u64,[.v (.int .u64 0)]⟩:=rfl
@[simp] theorem E_ty13:E.ty 13=some ⟨2,24,.struct [(0,1),(1,1)],[.v (.string .empty),.v (.int .u64 0)]⟩:=rfl
@[simp] theorem E_ty22:E.ty 22=some ⟨1,24,.slice 62,[.nl true 4 none]⟩:=rfl
@[simp] theorem E_ty23:E.ty 23=some ⟨1,24,.slice 66,[.nl true 5 none]⟩:=rfl
@[simp] theorem E_ty24:E.ty 24=some ⟨2,48,.struct [(0,1),(1,1)],[.nl true 4 none,.nl true 5 none]⟩:=rfl
@[simp] theorem aNs:E.ty 25=some ⟨2,48,.struct [(0,1),(1,1)],[.nl true 4 none,.nl true 5 none]⟩:=rfl
@[simp] theorem E_ty28:E.ty 28=some ⟨1,24,.slice 53,[.nl true 4 none]⟩:=rfl
@[simp] theorem E_ty29:E.ty 29=some ⟨1,24,.slice 58,[.nl true 5 none]⟩:=rfl
@[simp] theorem E_ty30:E.ty 30=some ⟨2,48,.struct [(0,1),(1,1)],[.nl true 4 none,.nl true 5 none]⟩:=rfl
@[simp] theorem E_ty31:E.ty 31=some ⟨2,48,.struct [(0,1),(1,1)],[.nl true 4 none,.nl true 5 none]⟩:=rfl
@[simp] theorem E_ty48:E.ty 48=some ⟨1,8,.ptr,[.v (.pointer none)]⟩:=rfl
@[simp] theorem E_ty51:E.ty 51=some ⟨1,24,.slice 3,[.nl true 1 none]⟩:=rfl
@[simp] theorem E_ty52:E.ty 52=some ⟨4,56,.struct [(0,1),(1,1),(2,1),(3,1)],[.v (.int .i64 0),.v (.int .i64 0),.v (.string .empty),.nl true 1 none]⟩:=rfl
@[simp] theorem E_ty53:E.ty 53=some ⟨4,56,.struct [(0,1),(1,1),(2,1),(3,1)],[.v (.int .i64 0),.v (.int .i64 0),.v (.string .empty),.nl true 1 none]⟩:=rfl
@[simp] theorem E_ty56:E.ty 56=some ⟨1,24,.slice 77,[.nl true 2 none]⟩:=rfl
@[simp] theorem E_ty57:E.ty 57=some ⟨5,64,.struct [(0,1),(1,1),(2,1),(3,1),(4,1)],[.v (.string .empty),.nl true 2 none,.v (.int .i64 0),.v (.int .i64 0),.v (.int .i64 0)]⟩:=rfl
@[simp] theorem E_ty58:E.ty 58=some ⟨5,64,.struct [(0,1),(1,1),(2,1),(3,1),(4,1)],[.v (.string .empty),.nl true 2 none,.v (.int .i64 0),.v (.int .i64 0),.v (.int .i64 0)]⟩:=rfl
@[simp] theorem E_ty60:E.ty 60=some ⟨1,8,.func,[.v .nilFunc]⟩:=rfl
@[simp] theorem aNr:E.ty 62=some ⟨4,56,.struct [(0,1),(1,1),(2,1),(3,1)],[.v (.int .i64 0),.v (.int .i64 0),.v (.string .empty),.nl true 1 none]⟩:=rfl
@[simp] theorem E_ty64:E.ty 64=some ⟨1,24,.slice 109,[.nl true 2 none]⟩:=rfl
@[simp] theorem E_ty65:E.ty 65=some ⟨5,64,.struct [(0,1),(1,1),(2,1),(3,1),(4,1)],[.v (.string .empty),.nl true 2 none,.v (.int .i64 0),.v (.int .i64 0),.v (.int .i64 0)]⟩:=rfl
@[simp] theorem aNq:E.ty 66=some ⟨5,64,.struct [(0,1),(1,1),(2,1),(3,1),(4,1)],[.v (.string .empty),.nl true 2 none,.v (.int .i64 0),.v (.int .i64 0),.v (.int .i64 0)]⟩:=rfl
@[simp] theorem E_ty67:E.ty 67=some ⟨1,24,.slice 71,[.nl true 3 none]⟩:=rfl
@[simp] theorem E_ty70:E.ty 70=some ⟨3,32,.struct [(0,1),(1,1),(2,1)],[.v (.string .empty),.v (.int .i64 0),.v (.int .i64 0)]⟩:=rfl
@[simp] theorem E_ty71:E.ty 71=some ⟨3,32,.struct [(0,1),(1,1),(2,1)],[.v (.string .empty),.v (.int .i64 0),.v (.int .i64 0)]⟩:=rfl
@[simp] theorem E_ty72:E.ty 72=some ⟨1,8,.ptr,[.v (.pointer none)]⟩:=rfl
@[simp] theorem E_ty73:E.ty 73=some ⟨1,24,.slice 9,[.nl true 1 none]⟩:=rfl
@[simp] theorem E_ty74:E.ty 74=some ⟨5,88,.struct [(0,2),(2,1),(3,1),(4,1)],[.nl true 4 none,.nl true 5 none,.v (.int .i64 0),.nl true 1 none,.v (.bool false)]⟩:=rfl
@[simp] theorem E_ty75:E.ty 75=some ⟨5,88,.struct [(0,2),(2,1),(3,1),(4,1)],[.nl true 4 none,.nl true 5 none,.v (.int .i64 0),.nl true 1 none,.v (.bool false)]⟩:=rfl
@[simp] theorem E_ty76:E.ty 76=some ⟨2,24,.struct [(0,1),(1,1)],[.v (.string .empty),.v (.int .i64 0)]⟩:=rfl
@[simp] theorem E_ty77:E.ty 77=some ⟨2,24,.struct [(0,1),(1,1)],[.v (.string .empty),.v (.int .i64 0)]⟩:=rfl
@[simp] theorem E_ty95:E.ty 95=some ⟨1,24,.slice 5,[.nl true 1 none]⟩:=rfl
@[simp] theorem E_ty96:E.ty 96=some ⟨1,8,.ptr,[.v (.pointer none)]⟩:=rfl
@[simp] theorem E_ty107:E.ty 107=some ⟨1,8,.ptr,[.v (.pointer none)]⟩:=rfl
@[simp] theorem aLh:E.ty 109=some ⟨2,24,.struct [(0,1),(1,1)],[.v (.string .empty),.v (.int .i64 0)]⟩:=rfl
@[simp] theorem E_ty112:E.ty 112=some ⟨1,24,.slice 4,[.nl true 1 none]⟩:=rfl
@[simp] theorem feq_77:aKv E 77=some [false,true]:=by kernel_rfl
theorem res75:Tryz.f75.results.toList=[.tmp 4]:=rfl
theorem ent75:aF E.P 75:=eO Tryz.func75 (by simp [Tryz.f75]) rfl
theorem aAp (a1:List Int) (a0:Int) {r0:Int} (h:mA a1 a0=some r0):Ok E 75 [.val (.sl false 1 (List.map vi a1)),.val (vi a0)] [vi r0] []:=by
 refine oB Tryz.func75 rfl (by simp [Tryz.f75]) fun C (q:C.N=12) hP=>?_
 have y:=aL hP
 unfold mA at h
 refine O.zR y fun K u=>?_
 refine wC rfl fun K v=>?_;simp [q];apply v
 apply wN;apply u
 refine O.zR y fun K u=>?_
 iterate 5 (refine wC rfl fun K v=>?_;simp [q];apply v)
 apply wN;apply u
 refine O.seq ?_
 refine O.zR y fun K u=>?_
 iterate 2 (refine wC rfl fun K v=>?_;simp [q];apply v)
 apply wN;apply u
 rcases aA h with ⟨a2,h⟩ | ⟨a3,h⟩
 ·refine O.cT' (by simp) a2 ?_
  refine O.zR y fun K u=>?_
  refine wC rfl fun K v=>?_;simp [q];apply v
  apply wN;apply u
  cases h
  refine O.ret ?_
  simp [aC,iB,res75]
 ·refine O.cF' (by simp) a3 ?_
  refine O.skip ?_
  refine O.zR y fun K u=>?_
  iterate 2 (refine wC rfl fun K v=>?_;simp [q];apply v)
  apply wN;apply u
  cases h
  refine O.ret ?_
  simp [aC,iB,res75]
theorem aO3:Tryz.f43.results.toList=[.tmp 4]:=rfl
theorem ent43:aF E.P 43:=eO Tryz.func43 (by simp [Tryz.f43]) rfl
theorem aAn (a1:GNode) (a0:Int) {r0:Int} (h:lZ a1 a0=some r0):Ok E 43 [.val (GNode.enc false a1),.val (vi a0)] [vi r0] []:=by
 refine oB Tryz.func43 rfl (by simp [Tryz.f43]) fun C (q:C.N=19) hP=>?_
 have y:=aL hP
 unfold lZ at h
 refine O.zR y fun K u=>?_
 iterate 2 (refine wC rfl fun K v=>?_;simp [q];apply v)
 apply wN;apply u
 refine O.zR y fun K u=>?_
 iterate 6 (refine wC rfl fun K v=>?_;simp [q];apply v)
 apply wN;apply u
 refine O.seq ?_
 refine O.zR y fun K u=>?_
 iterate 2 (refine wC rfl fun K v=>?_;simp [q];apply v)
 apply wN;apply u
 rcases aA h with ⟨a2,h⟩ | ⟨a3,h⟩
 ·refine O.cT' (by simp) a2 ?_
  refine O.zR y fun K u=>?_
  refine wC rfl fun K v=>?_;simp [q];apply v
  apply wN;apply u
  cases h
  refine O.ret ?_
  simp [aC,iB,aO3]
 ·refine O.cF' (by simp) a3 ?_
  refine O.skip ?_
  refine O.zR y fun K u=>?_
  iterate 3 (refine wC rfl fun K v=>?_;simp [q];apply v)
  obtain ⟨r5,a4,h⟩:=bS h
  refine wL [(.take,.tmp 13),(.take,.tmp 14)] rfl rfl ent75 (aAp _ _ a4) fun K v=>?_;simp [q];apply v
  refine wC rfl fun K v=>?_;simp [q];apply v
  apply wN;apply u
  refine O.seq ?_
  refine O.zR y fun K u=>?_
  iterate 2 (refine wC rfl fun K v=>?_;simp [q];apply v)
  apply wN;apply u
  rcases aA h with ⟨a5,h⟩ | ⟨a6,h⟩
  ·refine O.cT' (by simp) a5 ?_
   refine O.zR y fun K u=>?_
   refine wC rfl fun K v=>?_;simp [q];apply v
   apply wN;apply u
   cases h
   refine O.ret ?_
   simp [aC,iB,aO3]
  ·refine O.cF' (by simp) a6 ?_
   refine O.skip ?_
   refine O.zR y fun K u=>?_
   iterate 2 (refine wC rfl fun K v=>?_;simp [q];apply v)
   apply wN;apply u
   cases h
   refine O.ret ?_
   simp [aC,iB,aO3]
theorem aO9:Tryz.f17.results.toList=[.tmp 4]:=rfl
theorem ent17:aF E.P 17:=eO Tryz.func17 (by simp [Tryz.f17]) rfl
theorem yW (a1:List GNode) (a2:Int) {r0:Int} (h:kK a1 a2=some r0):Ok E 17 [.val (.sl false 4 (List.map (GNode.enc false) a1)),.val (vi a2)] [vi r0] []:=by
 refine oB Tryz.func17 rfl (by simp [Tryz.f17]) fun C (q:C.N=27) hP=>?_
 have u:=aL hP
 unfold kK at h
 refine O.zR u fun K w=>?_
 refine wC rfl fun K z=>?_;simp [q];apply z
 apply wN;apply w
 refine O.zR u fun K w=>?_
 iterate 5 (refine wC rfl fun K z=>?_;simp [q];apply z)
 apply wN;apply w
 refine O.seq ?_
 refine O.zR u fun K w=>?_
 iterate 2 (refine wC rfl fun K z=>?_;simp [q];apply z)
 apply wN;apply w
 rcases aA h with ⟨b6,h⟩ | ⟨b7,h⟩
 ·refine O.cT' (by simp) b6 ?_
  refine O.zR u fun K w=>?_
  refine wC rfl fun K z=>?_;simp [q];apply z
  apply wN;apply w
  cases h
  refine O.ret ?_
  simp [aC,iB,aO9]
 ·refine O.cF' (by simp) b7 ?_
  refine O.skip ?_
  obtain ⟨j7,b8,h⟩:=bS h
  refine O.seqC [1] [] (fun v:Int=>⟨[(1,.t (vi v))],[]⟩) (fun v=>j7=Sum.inl v) (fun v hv=>?_) fun K6 b9=>?_
  rotate_left
  ·refine O.zR u fun K w=>?_
   refine wC rfl fun K z=>?_;simp [q];apply z
   apply wN;apply w
   refine O.block ?_
   refine O.loopO [] [0,1,5] [] (fun v:Int × Int=>⟨[(0,.t (.sl false 4 (List.map (GNode.enc false) a1))),(1,.t (vi v.1)),(5,.t (vi v.2))],[]⟩) (dE a1) _ (IntKind.wrap .i64 (a2 - (a1.length:Int)),0) b8 (by simp [q]) ?_
   intro g c2 a0 a7
   obtain ⟨b5,i9⟩:=g
   simp only [dE] at a0
   try dsimp only
   refine O.seq ?_
   refine O.zR u fun K w=>?_
   iterate 4 (refine wC rfl fun K z=>?_;simp [q];apply z)
   apply wN;apply w
   rcases aA a0 with ⟨a8,a0⟩ | ⟨a9,a0⟩
   ·refine O.cT' (by simp) a8 ?_
    refine O.skip ?_
    refine O.seq ?_
    refine O.block ?_
    refine O.zR u fun K w=>?_
    iterate 2 (refine wC rfl fun K z=>?_;simp [q];apply z)
    obtain ⟨c3,b0,a0⟩:=bS a0
    obtain ⟨a3,a4,a5,a6⟩:=gS b0
    iterate 3 (refine wC rfl fun K z=>?_;simp [q,a3,a4,a5,a6];apply z)
    obtain ⟨c4,b1,a0⟩:=bS a0
    refine wL [(.take,.tmp 21),(.take,.tmp 22)] rfl rfl ent43 (aAn _ _ b1) fun K z=>?_;simp [q,a3,a4,a5,a6];apply z
    refine wC rfl fun K z=>?_;simp [q,a3,a4,a5,a6];apply z
    apply wN;apply w
    refine O.zR u fun K w=>?_
    iterate 2 (refine wC rfl fun K z=>?_;simp [q];apply z)
    apply wN;apply w
    rcases aA a0 with ⟨b2,a0⟩ | ⟨b3,a0⟩
    ·refine O.cT' (by simp) b2 ?_
     refine O.zR u fun K w=>?_
     refine wC rfl fun K z=>?_;simp [q];apply z
     apply wN;apply w
     have c0:=congrArg some (a7 _ (Option.some.inj a0).symm)
     cases c0
     try dsimp only at h
     cases h
     refine O.ret ?_
     simp [aC,iB,aO9]
    ·refine O.cF' (by simp) b3 ?_
     refine O.skip ?_
     refine O.zG u fun K w=>?_
     iterate 3 (refine wC rfl fun K z=>?_;simp [q];apply z)
     apply wN;apply w
     cases a0
     exact ⟨_,[],rfl,by simp [q]⟩
   ·refine O.cF' (by simp) a9 ?_
    refine O.exit ?_
    have c1:=congrArg some (a7 _ (Option.some.inj a0).symm)
    cases c1
    exact b9 _ _ [] rfl (by simp [q])
  subst hv
  obtain ⟨b4,hv⟩:∃ y,y=v:=⟨_,rfl⟩
  subst hv
  try dsimp only at h ⊢
  refine O.zR u fun K w=>?_
  iterate 2 (refine wC rfl fun K z=>?_;simp [q];apply z)
  apply wN;apply w
  cases h
  refine O.ret ?_
  simp [aC,iB,aO9]
theorem aNe:Tryz.f100.results.toList=[.tmp 4]:=rfl
theorem ent100:aF E.P 100:=eO Tryz.func100 (by simp [Tryz.f100]) rfl
theorem yU (a1:GParam) (a0:Int) {r0:Int} (h:kJ a1 a0=some r0):Ok E 100 [.val (GParam.enc a1),.val (vi a0)] [vi r0] []:=by
 refine oB Tryz.func100 rfl (by simp [Tryz.f100]) fun C (q:C.N=13) hP=>?_
 have y:=aL hP
 unfold kJ at h
 refine O.zR y fun K u=>?_
 iterate 2 (refine wC rfl fun K v=>?_;simp [q];apply v)
 apply wN;apply u
 refine O.zR y fun K u=>?_
 iterate 6 (refine wC rfl fun K v=>?_;simp [q];apply v)
 apply wN;apply u
 refine O.seq ?_
 refine O.zR y fun K u=>?_
 iterate 2 (refine wC rfl fun K v=>?_;simp [q];apply v)
 apply wN;apply u
 rcases aA h with ⟨a2,h⟩ | ⟨a3,h⟩
 ·refine O.cT' (by simp) a2 ?_
  refine O.zR y fun K u=>?_
  refine wC rfl fun K v=>?_;simp [q];apply v
  apply wN;apply u
  cases h
  refine O.ret ?_
  simp [aC,iB,aNe]
 ·refine O.cF' (by simp) a3 ?_
  refine O.skip ?_
  refine O.zR y fun K u=>?_
  iterate 2 (refine wC rfl fun K v=>?_;simp [q];apply v)
  apply wN;apply u
  cases h
  refine O.ret ?_
  simp [aC,iB,aNe]
theorem aO0:Tryz.f76.results.toList=[.tmp 4]:=rfl
theorem ent76:aF E.P 76:=eO Tryz.func76 (by simp [Tryz.f76]) rfl
theorem wB (a1:List GParam) (a2:Int) {r0:Int} (h:iY a1 a2=some r0):Ok E 76 [.val (.sl false 2 (List.map GParam.enc a1)),.val (vi a2)] [vi r0] []:=by
 refine oB Tryz.func76 rfl (by simp [Tryz.f76]) fun C (q:C.N=27) hP=>?_
 have u:=aL hP
 unfold iY at h
 refine O.zR u fun K w=>?_
 refine wC rfl fun K z=>?_;simp [q];apply z
 apply wN;apply w
 refine O.zR u fun K w=>?_
 iterate 5 (refine wC rfl fun K z=>?_;simp [q];apply z)
 apply wN;apply w
 refine O.seq ?_
 refine O.zR u fun K w=>?_
 iterate 2 (refine wC rfl fun K z=>?_;simp [q];apply z)
 apply wN;apply w
 rcases aA h with ⟨b6,h⟩ | ⟨b7,h⟩
 ·refine O.cT' (by simp) b6 ?_
  refine O.zR u fun K w=>?_
  refine wC rfl fun K z=>?_;simp [q];apply z
  apply wN;apply w
  cases h
  refine O.ret ?_
  simp [aC,iB,aO0]
 ·refine O.cF' (by simp) b7 ?_
  refine O.skip ?_
  obtain ⟨j7,b8,h⟩:=bS h
  refine O.seqC [1] [] (fun v:Int=>⟨[(1,.t (vi v))],[]⟩) (fun v=>j7=Sum.inl v) (fun v hv=>?_) fun K6 b9=>?_
  rotate_left
  ·refine O.zR u fun K w=>?_
   refine wC rfl fun K z=>?_;simp [q];apply z
   apply wN;apply w
   refine O.block ?_
   refine O.loopO [] [0,1,5] [] (fun v:Int × Int=>⟨[(0,.t (.sl false 2 (List.map GParam.enc a1))),(1,.t (vi v.1)),(5,.t (vi v.2))],[]⟩) (cJ a1) _ (IntKind.wrap .i64 (a2 - (a1.length:Int)),0) b8 (by simp [q]) ?_
   intro g c2 a0 a7
   obtain ⟨b5,i9⟩:=g
   simp only [cJ] at a0
   try dsimp only
   refine O.seq ?_
   refine O.zR u fun K w=>?_
   iterate 4 (refine wC rfl fun K z=>?_;simp [q];apply z)
   apply wN;apply w
   rcases aA a0 with ⟨a8,a0⟩ | ⟨a9,a0⟩
   ·refine O.cT' (by simp) a8 ?_
    refine O.skip ?_
    refine O.seq ?_
    refine O.block ?_
    refine O.zR u fun K w=>?_
    iterate 2 (refine wC rfl fun K z=>?_;simp [q];apply z)
    obtain ⟨c3,b0,a0⟩:=bS a0
    obtain ⟨a3,a4,a5,a6⟩:=gS b0
    iterate 3 (refine wC rfl fun K z=>?_;simp [q,a3,a4,a5,a6];apply z)
    obtain ⟨c4,b1,a0⟩:=bS a0
    refine wL [(.take,.tmp 21),(.take,.tmp 22)] rfl rfl ent100 (yU _ _ b1) fun K z=>?_;simp [q,a3,a4,a5,a6];apply z
    refine wC rfl fun K z=>?_;simp [q,a3,a4,a5,a6];apply z
    apply wN;apply w
    refine O.zR u fun K w=>?_
    iterate 2 (refine wC rfl fun K z=>?_;simp [q];apply z)
    apply wN;apply w
    rcases aA a0 with ⟨b2,a0⟩ | ⟨b3,a0⟩
    ·refine O.cT' (by simp) b2 ?_
     refine O.zR u fun K w=>?_
     refine wC rfl fun K z=>?_;simp [q];apply z
     apply wN;apply w
     have c0:=congrArg some (a7 _ (Option.some.inj a0).symm)
     cases c0
     try dsimp only at h
     cases h
     refine O.ret ?_
     simp [aC,iB,aO0]
    ·refine O.cF' (by simp) b3 ?_
     refine O.skip ?_
     refine O.zG u fun K w=>?_
     iterate 3 (refine wC rfl fun K z=>?_;simp [q];apply z)
     apply wN;apply w
     cases a0
     exact ⟨_,[],rfl,by simp [q]⟩
   ·refine O.cF' (by simp) a9 ?_
    refine O.exit ?_
    have c1:=congrArg some (a7 _ (Option.some.inj a0).symm)
    cases c1
    exact b9 _ _ [] rfl (by simp [q])
  subst hv
  obtain ⟨b4,hv⟩:∃ y,y=v:=⟨_,rfl⟩
  subst hv
  try dsimp only at h ⊢
  refine O.zR u fun K w=>?_
  iterate 2 (refine wC rfl fun K z=>?_;simp [q];apply z)
  apply wN;apply w
  cases h
  refine O.ret ?_
  simp [aC,iB,aO0]
theorem aO2:Tryz.f44.results.toList=[.tmp 4]:=rfl
theorem ent44:aF E.P 44:=eO Tryz.func44 (by simp [Tryz.f44]) rfl
theorem aEi (a1:GFn) (a0:Int) {r0:Int} (h:qB a1 a0=some r0):Ok E 44 [.val (GFn.enc false a1),.val (vi a0)] [vi r0] []:=by
 refine oB Tryz.func44 rfl (by simp [Tryz.f44]) fun C (q:C.N=19) hP=>?_
 have y:=aL hP
 unfold qB at h
 refine O.zR y fun K u=>?_
 iterate 2 (refine wC rfl fun K v=>?_;simp [q];apply v)
 apply wN;apply u
 refine O.zR y fun K u=>?_
 iterate 6 (refine wC rfl fun K v=>?_;simp [q];apply v)
 apply wN;apply u
 refine O.seq ?_
 refine O.zR y fun K u=>?_
 iterate 2 (refine wC rfl fun K v=>?_;simp [q];apply v)
 apply wN;apply u
 rcases aA h with ⟨a2,h⟩ | ⟨a3,h⟩
 ·refine O.cT' (by simp) a2 ?_
  refine O.zR y fun K u=>?_
  refine wC rfl fun K v=>?_;simp [q];apply v
  apply wN;apply u
  cases h
  refine O.ret ?_
  simp [aC,iB,aO2]
 ·refine O.cF' (by simp) a3 ?_
  refine O.skip ?_
  refine O.zR y fun K u=>?_
  iterate 3 (refine wC rfl fun K v=>?_;simp [q];apply v)
  obtain ⟨r5,a4,h⟩:=bS h
  refine wL [(.take,.tmp 13),(.take,.tmp 14)] rfl rfl ent76 (wB _ _ a4) fun K v=>?_;simp [q];apply v
  refine wC rfl fun K v=>?_;simp [q];apply v
  apply wN;apply u
  refine O.seq ?_
  refine O.zR y fun K u=>?_
  iterate 2 (refine wC rfl fun K v=>?_;simp [q];apply v)
  apply wN;apply u
  rcases aA h with ⟨a5,h⟩ | ⟨a6,h⟩
  ·refine O.cT' (by simp) a5 ?_
   refine O.zR y fun K u=>?_
   refine wC rfl fun K v=>?_;simp [q];apply v
   apply wN;apply u
   cases h
   refine O.ret ?_
   simp [aC,iB,aO2]
  ·refine O.cF' (by simp) a6 ?_
   refine O.skip ?_
   refine O.zR y fun K u=>?_
   iterate 2 (refine wC rfl fun K v=>?_;simp [q];apply v)
   apply wN;apply u
   cases h
   refine O.ret ?_
   simp [aC,iB,aO2]
theorem aO8:Tryz.f18.results.toList=[.tmp 4]:=rfl
theorem ent18:aF E.P 18:=eO Tryz.func18 (by simp [Tryz.f18]) rfl
theorem aCo (a1:List GFn) (a2:Int) {r0:Int} (h:nU a1 a2=some r0):Ok E 18 [.val (.sl false 5 (List.map (GFn.enc false) a1)),.val (vi a2)] [vi r0] []:=by
 refine oB Tryz.func18 rfl (by simp [Tryz.f18]) fun C (q:C.N=27) hP=>?_
 have u:=aL hP
 unfold nU at h
 refine O.zR u fun K w=>?_
 refine wC rfl fun K z=>?_;simp [q];apply z
 apply wN;apply w
 refine O.zR u fun K w=>?_
 iterate 5 (refine wC rfl fun K z=>?_;simp [q];apply z)
 apply wN;apply w
 refine O.seq ?_
 refine O.zR u fun K w=>?_
 iterate 2 (refine wC rfl fun K z=>?_;simp [q];apply z)
 apply wN;apply w
 rcases aA h with ⟨b6,h⟩ | ⟨b7,h⟩
 ·refine O.cT' (by simp) b6 ?_
  refine O.zR u fun K w=>?_
  refine wC rfl fun K z=>?_;simp [q];apply z
  apply wN;apply w
  cases h
  refine O.ret ?_
  simp [aC,iB,aO8]
 ·refine O.cF' (by simp) b7 ?_
  refine O.skip ?_
  obtain ⟨j7,b8,h⟩:=bS h
  refine O.seqC [1] [] (fun v:Int=>⟨[(1,.t (vi v))],[]⟩) (fun v=>j7=Sum.inl v) (fun v hv=>?_) fun K6 b9=>?_
  rotate_left
  ·refine O.zR u fun K w=>?_
   refine wC rfl fun K z=>?_;simp [q];apply z
   apply wN;apply w
   refine O.block ?_
   refine O.loopO [] [0,1,5] [] (fun v:Int × Int=>⟨[(0,.t (.sl false 5 (List.map (GFn.enc false) a1))),(1,.t (vi v.1)),(5,.t (vi v.2))],[]⟩) (eT a1) _ (IntKind.wrap .i64 (a2 - (a1.length:Int)),0) b8 (by simp [q]) ?_
   intro g c2 a0 a7
   obtain ⟨b5,i9⟩:=g
   simp only [eT] at a0
   try dsimp only
   refine O.seq ?_
   refine O.zR u fun K w=>?_
   iterate 4 (refine wC rfl fun K z=>?_;simp [q];apply z)
   apply wN;apply w
   rcases aA a0 with ⟨a8,a0⟩ | ⟨a9,a0⟩
   ·refine O.cT' (by simp) a8 ?_
    refine O.skip ?_
    refine O.seq ?_
    refine O.block ?_
    refine O.zR u fun K w=>?_
    iterate 2 (refine wC rfl fun K z=>?_;simp [q];apply z)
    obtain ⟨c3,b0,a0⟩:=bS a0
    obtain ⟨a3,a4,a5,a6⟩:=gS b0
    iterate 3 (refine wC rfl fun K z=>?_;simp [q,a3,a4,a5,a6];apply z)
    obtain ⟨c4,b1,a0⟩:=bS a0
    refine wL [(.take,.tmp 21),(.take,.tmp 22)] rfl rfl ent44 (aEi _ _ b1) fun K z=>?_;simp [q,a3,a4,a5,a6];apply z
    refine wC rfl fun K z=>?_;simp [q,a3,a4,a5,a6];apply z
    apply wN;apply w
    refine O.zR u fun K w=>?_
    iterate 2 (refine wC rfl fun K z=>?_;simp [q];apply z)
    apply wN;apply w
    rcases aA a0 with ⟨b2,a0⟩ | ⟨b3,a0⟩
    ·refine O.cT' (by simp) b2 ?_
     refine O.zR u fun K w=>?_
     refine wC rfl fun K z=>?_;simp [q];apply z
     apply wN;apply w
     have c0:=congrArg some (a7 _ (Option.some.inj a0).symm)
     cases c0
     try dsimp only at h
     cases h
     refine O.ret ?_
     simp [aC,iB,aO8]
    ·refine O.cF' (by simp) b3 ?_
     refine O.skip ?_
     refine O.zG u fun K w=>?_
     iterate 3 (refine wC rfl fun K z=>?_;simp [q];apply z)
     apply wN;apply w
     cases a0
     exact ⟨_,[],rfl,by simp [q]⟩
   ·refine O.cF' (by simp) a9 ?_
    refine O.exit ?_
    have c1:=congrArg some (a7 _ (Option.some.inj a0).symm)
    cases c1
    exact b9 _ _ [] rfl (by simp [q])
  subst hv
  obtain ⟨b4,hv⟩:∃ y,y=v:=⟨_,rfl⟩
  subst hv
  try dsimp only at h ⊢
  refine O.zR u fun K w=>?_
  iterate 2 (refine wC rfl fun K z=>?_;simp [q];apply z)
  apply wN;apply w
  cases h
  refine O.ret ?_
  simp [aC,iB,aO8]
theorem res6:Tryz.f6.results.toList=[.tmp 4]:=rfl
theorem ent6:aF E.P 6:=eO Tryz.func6 (by simp [Tryz.f6]) rfl
theorem uR (a1:GProgram) (a0:Int) {r0:Int} (h:gU a1 a0=some r0):Ok E 6 [.val (GProgram.enc false a1),.val (vi a0)] [vi r0] []:=by
 refine oB Tryz.func6 rfl (by simp [Tryz.f6]) fun C (q:C.N=18) hP=>?_
 have y:=aL hP
 unfold gU at h
 refine O.zR y fun K u=>?_
 iterate 2 (refine wC rfl fun K v=>?_;simp [q];apply v)
 apply wN;apply u
 refine O.zR y fun K u=>?_
 iterate 3 (refine wC rfl fun K v=>?_;simp [q];apply v)
 obtain ⟨r3,a3,h⟩:=bS h
 refine wL [(.take,.tmp 6),(.take,.tmp 7)] rfl rfl ent17 (yW _ _ a3) fun K v=>?_;simp [q];apply v
 refine wC rfl fun K v=>?_;simp [q];apply v
 apply wN;apply u
 refine O.seq ?_
 refine O.zR y fun K u=>?_
 iterate 2 (refine wC rfl fun K v=>?_;simp [q];apply v)
 apply wN;apply u
 rcases aA h with ⟨a4,h⟩ | ⟨a5,h⟩
 ·refine O.cT' (by simp) a4 ?_
  refine O.zR y fun K u=>?_
  refine wC rfl fun K v=>?_;simp [q];apply v
  apply wN;apply u
  cases h
  refine O.ret ?_
  simp [aC,iB,res6]
 ·refine O.cF' (by simp) a5 ?_
  refine O.skip ?_
  refine O.zR y fun K u=>?_
  iterate 3 (refine wC rfl fun K v=>?_;simp [q];apply v)
  obtain ⟨r7,a6,h⟩:=bS h
  refine wL [(.take,.tmp 12),(.take,.tmp 13)] rfl rfl ent18 (aCo _ _ a6) fun K v=>?_;simp [q];apply v
  refine wC rfl fun K v=>?_;simp [q];apply v
  apply wN;apply u
  refine O.seq ?_
  refine O.zR y fun K u=>?_
  iterate 2 (refine wC rfl fun K v=>?_;simp [q];apply v)
  apply wN;apply u
  rcases aA h with ⟨a7,h⟩ | ⟨a2,h⟩
  ·refine O.cT' (by simp) a7 ?_
   refine O.zR y fun K u=>?_
   refine wC rfl fun K v=>?_;simp [q];apply v
   apply wN;apply u
   cases h
   refine O.ret ?_
   simp [aC,iB,res6]
  ·refine O.cF' (by simp) a2 ?_
   refine O.skip ?_
   refine O.zR y fun K u=>?_
   iterate 2 (refine wC rfl fun K v=>?_;simp [q];apply v)
   apply wN;apply u
   cases h
   refine O.ret ?_
   simp [aC,iB,res6]
theorem res85:Tryz.f85.results.toList=[.tmp 2]:=rfl
theorem ent85:aF E.P 85:=eO Tryz.func85 (by simp [Tryz.f85]) rfl
theorem aAl (a1:List Int) {r0:List Int} (h:lY a1=some r0):Ok E 85 [.val (.sl false 1 (List.map vi a1))] [.sl true 1 (List.map vi r0)] []:=by
 refine oB Tryz.func85 rfl (by simp [Tryz.f85]) fun C (q:C.N=22) hP=>?_
 have y:=aL hP
 unfold lY at h
 refine O.zR y fun K u=>?_
 refine wC rfl fun K w=>?_;simp [q];apply w
 apply wN;apply u
 refine O.zR y fun K u=>?_
 iterate 2 (refine wC rfl fun K w=>?_;simp [q];apply w)
 obtain ⟨l2,c2,h⟩:=bS h
 obtain ⟨b2,b3,b4,b5⟩:=mS c2
 have b0:List.replicate (a1.length:Int).toNat (vi 0)=List.map vi l2:=rV (f:=vi) b5
 try simp only [Int.toNat_natCast] at b0
 iterate 2 (refine wC rfl fun K w=>?_;simp [q,b2,b3,b4,b0];apply w)
 apply wN;apply u
 obtain ⟨b1,c3,h⟩:=bS h
 refine O.seqC [3] [] (fun _:Unit=>⟨[(3,.t (.sl true 1 (List.map vi b1)))],[]⟩) (fun _=>True) (fun _ _=>?_) fun K4 c4=>?_
 rotate_left
 ·refine O.zR y fun K u=>?_
  refine wC rfl fun K w=>?_;simp [q];apply w
  apply wN;apply u
  refine O.block ?_
  refine O.loopO [] [0,3,4] [] (fun v:(List Int) × Int=>⟨[(0,.t (.sl false 1 (List.map vi a1))),(3,.t (.sl true 1 (List.map vi v.1))),(4,.t (vi v.2))],[]⟩) (fF a1) _ (l2,0) c3 (by simp [q]) ?_
  intro g c9 h8 c5
  obtain ⟨b6,i7⟩:=g
  simp only [fF] at h8
  try dsimp only
  refine O.seq ?_
  refine O.zR y fun K u=>?_
  iterate 4 (refine wC rfl fun K w=>?_;simp [q];apply w)
  apply wN;apply u
  rcases aA h8 with ⟨b7,h8⟩ | ⟨b8,h8⟩
  ·refine O.cT' (by simp) b7 ?_
   refine O.skip ?_
   refine O.seq ?_
   refine O.block ?_
   refine O.zG y fun K u=>?_
   iterate 4 (refine wC rfl fun K w=>?_;simp [q];apply w)
   obtain ⟨c6,b9,h8⟩:=bS h8
   obtain ⟨a0,a2,a3,a4⟩:=gS b9
   iterate 2 (refine wC rfl fun K w=>?_;simp [q,a0,a2,a3,a4];apply w)
   obtain ⟨d0,c0,h8⟩:=bS h8
   obtain ⟨a5,a6,a7,a8⟩:=gS c0
   refine wC rfl fun K w=>?_;simp [q,a0,a2,a3,a4,a5,a6,a7,a8];apply w
   obtain ⟨c7,c1,h8⟩:=bZ h8
   have a9:(List.map vi b6).set i7.toNat (vi c6)=List.map vi c7:=bU (f:=vi) c1
   try simp only [Int.toNat_natCast] at a9
   refine wC rfl fun K w=>?_;simp [q,a0,a2,a3,a4,a5,a6,a7,a8,a9];apply w
   apply wN;apply u
   refine O.zG y fun K u=>?_
   iterate 3 (refine wC rfl fun K w=>?_;simp [q];apply w)
   apply wN;apply u
   cases h8
   exact ⟨_,[],rfl,by simp [q]⟩
  ·refine O.cF' (by simp) b8 ?_
   refine O.exit ?_
   have c8:=congrArg some (c5 _ (Option.some.inj h8).symm)
   cases c8
   exact c4 _ () [] trivial (by simp [q])
 refine O.zR y fun K u=>?_
 iterate 2 (refine wC rfl fun K w=>?_;simp [q];apply w)
 apply wN;apply u
 cases h
 refine O.ret ?_
 simp [aC,iB,res85]
theorem res51:Tryz.f51.results.toList=[.cell 2 53]:=rfl
theorem ent51:aF E.P 51:=eO Tryz.func51 (by simp [Tryz.f51]) rfl
theorem aAj (a1:GNode) {r0:GNode} (h:lX a1=some r0):Ok E 51 [.val (GNode.enc false a1)] [GNode.enc true r0] []:=by
 refine oB Tryz.func51 rfl (by simp [Tryz.f51]) fun C (q:C.N=18) hP=>?_
 have y:=aL hP
 unfold lX at h
 refine O.zR y fun K u=>?_
 iterate 2 (refine wC rfl fun K v=>?_;simp [q];apply v)
 apply wN;apply u
 refine O.zR y fun K u=>?_
 refine wC rfl fun K v=>?_;simp [q];apply v
 apply wN;apply u
 refine O.zR y fun K u=>?_
 iterate 4 (refine wC rfl fun K v=>?_;simp [q];apply v)
 apply wN;apply u
 refine O.zR y fun K u=>?_
 iterate 4 (refine wC rfl fun K v=>?_;simp [q];apply v)
 apply wN;apply u
 refine O.zR y fun K u=>?_
 iterate 4 (refine wC rfl fun K v=>?_;simp [q];apply v)
 apply wN;apply u
 refine O.zR y fun K u=>?_
 iterate 2 (refine wC rfl fun K v=>?_;simp [q];apply v)
 obtain ⟨r2,a0,h⟩:=bS h
 refine wL [(.take,.tmp 14)] rfl rfl ent85 (aAl _ a0) fun K v=>?_;simp [q];apply v
 iterate 2 (refine wC rfl fun K v=>?_;simp [q];apply v)
 apply wN;apply u
 refine O.zR y fun K u=>?_
 iterate 2 (refine wC rfl fun K v=>?_;simp [q];apply v)
 apply wN;apply u
 cases h
 refine O.ret ?_
 simp [aC,iB,res51]
theorem res21:Tryz.f21.results.toList=[.tmp 2]:=rfl
theorem ent21:aF E.P 21:=eO Tryz.func21 (by simp [Tryz.f21]) rfl
theorem yT (a1:List GNode) {r0:List GNode} (h:kI a1=some r0):Ok E 21 [.val (.sl false 4 (List.map (GNode.enc false) a1))] [.sl true 4 (List.map (GNode.enc true) r0)] []:=by
 refine oB Tryz.func21 rfl (by simp [Tryz.f21]) fun C (q:C.N=23) hP=>?_
 have y:=aL hP
 unfold kI at h
 refine O.zR y fun K u=>?_
 refine wC rfl fun K w=>?_;simp [q];apply w
 apply wN;apply u
 refine O.zR y fun K u=>?_
 iterate 2 (refine wC rfl fun K w=>?_;simp [q];apply w)
 obtain ⟨l2,c4,h⟩:=bS h
 obtain ⟨b3,b4,b5,b6⟩:=mS c4
 have b0:List.replicate (a1.length:Int).toNat (.agg [vi 0,vi 0,vs ByteArray.empty,.sl true 1 []])=List.map (GNode.enc true) l2:=rV (f:=(GNode.enc true)) b6
 try simp only [Int.toNat_natCast] at b0
 iterate 2 (refine wC rfl fun K w=>?_;simp [q,b3,b4,b5,b0];apply w)
 apply wN;apply u
 obtain ⟨b1,c5,h⟩:=bS h
 refine O.seqC [3] [] (fun _:Unit=>⟨[(3,.t (.sl true 4 (List.map (GNode.enc true) b1)))],[]⟩) (fun _=>True) (fun _ _=>?_) fun K4 c6=>?_
 rotate_left
 ·refine O.zR y fun K u=>?_
  refine wC rfl fun K w=>?_;simp [q];apply w
  apply wN;apply u
  refine O.block ?_
  refine O.loopO [] [0,3,4] [] (fun v:(List GNode) × Int=>⟨[(0,.t (.sl false 4 (List.map (GNode.enc false) a1))),(3,.t (.sl true 4 (List.map (GNode.enc true) v.1))),(4,.t (vi v.2))],[]⟩) (eL a1) _ (l2,0) c5 (by simp [q]) ?_
  intro g d0 h8 c7
  obtain ⟨b7,i7⟩:=g
  simp only [eL] at h8
  try dsimp only
  refine O.seq ?_
  refine O.zR y fun K u=>?_
  iterate 4 (refine wC rfl fun K w=>?_;simp [q];apply w)
  apply wN;apply u
  rcases aA h8 with ⟨b8,h8⟩ | ⟨b9,h8⟩
  ·refine O.cT' (by simp) b8 ?_
   refine O.skip ?_
   refine O.seq ?_
   refine O.block ?_
   refine O.zG y fun K u=>?_
   iterate 4 (refine wC rfl fun K w=>?_;simp [q];apply w)
   obtain ⟨d1,c0,h8⟩:=bS h8
   obtain ⟨a0,a2,a3,a4⟩:=gS c0
   iterate 2 (refine wC rfl fun K w=>?_;simp [q,a0,a2,a3,a4];apply w)
   obtain ⟨b2,c1,h8⟩:=bS h8
   refine wL [(.take,.tmp 19)] rfl rfl ent51 (aAj _ c1) fun K w=>?_;simp [q,a0,a2,a3,a4];apply w
   obtain ⟨d2,c2,h8⟩:=bS h8
   obtain ⟨a5,a6,a7,a8⟩:=gS c2
   refine wC rfl fun K w=>?_;simp [q,a0,a2,a3,a4,a5,a6,a7,a8];apply w
   obtain ⟨c8,c3,h8⟩:=bZ h8
   have a9:(List.map (GNode.enc true) b7).set i7.toNat (.agg [vi b2.Kind,vi b2.Num,vs b2.Name,.sl true 1 (List.map vi b2.Kids)])=List.map (GNode.enc true) c8:=bU (f:=(GNode.enc true)) c3
   try simp only [Int.toNat_natCast] at a9
   refine wC rfl fun K w=>?_;simp [q,a0,a2,a3,a4,a5,a6,a7,a8,a9];apply w
   apply wN;apply u
   refine O.zG y fun K u=>?_
   iterate 3 (refine wC rfl fun K w=>?_;simp [q];apply w)
   apply wN;apply u
   cases h8
   exact ⟨_,[],rfl,by simp [q]⟩
  ·refine O.cF' (by simp) b9 ?_
   refine O.exit ?_
   have c9:=congrArg some (c7 _ (Option.some.inj h8).symm)
   cases c9
   exact c6 _ () [] trivial (by simp [q])
 refine O.zR y fun K u=>?_
 iterate 2 (refine wC rfl fun K w=>?_;simp [q];apply w)
 apply wN;apply u
 cases h
 refine O.ret ?_
 simp [aC,iB,res21]
theorem res105:Tryz.f105.results.toList=[.cell 2 77]:=rfl
theorem ent105:aF E.P 105:=eO Tryz.func105 (by simp [Tryz.f105]) rfl
theorem yR (a1:GParam) {r0:GParam} (h:kH a1=some r0):Ok E 105 [.val (GParam.enc a1)] [GParam.enc r0] []:=by
 refine oB Tryz.func105 rfl (by simp [Tryz.f105]) fun C (q:C.N=11) hP=>?_
 have y:=aL hP
 unfold kH at h
 refine O.zR y fun K u=>?_
 iterate 2 (refine wC rfl fun K v=>?_;simp [q];apply v)
 apply wN;apply u
 refine O.zR y fun K u=>?_
 refine wC rfl fun K v=>?_;simp [q];apply v
 apply wN;apply u
 refine O.zR y fun K u=>?_
 iterate 4 (refine wC rfl fun K v=>?_;simp [q];apply v)
 apply wN;apply u
 refine O.zR y fun K u=>?_
 iterate 4 (refine wC rfl fun K v=>?_;simp [q];apply v)
 apply wN;apply u
 refine O.zR y fun K u=>?_
 iterate 2 (refine wC rfl fun K v=>?_;simp [q];apply v)
 apply wN;apply u
 cases h
 refine O.ret ?_
 simp [aC,iB,res105]
theorem res86:Tryz.f86.results.toList=[.tmp 2]:=rfl
theorem ent86:aF E.P 86:=eO Tryz.func86 (by simp [Tryz.f86]) rfl
theorem vZ (a1:List GParam) {r0:List GParam} (h:iX a1=some r0):Ok E 86 [.val (.sl false 2 (List.map GParam.enc a1))] [.sl true 2 (List.map GParam.enc r0)] []:=by
 refine oB Tryz.func86 rfl (by simp [Tryz.f86]) fun C (q:C.N=23) hP=>?_
 have y:=aL hP
 unfold iX at h
 refine O.zR y fun K u=>?_
 refine wC rfl fun K w=>?_;simp [q];apply w
 apply wN;apply u
 refine O.zR y fun K u=>?_
 iterate 2 (refine wC rfl fun K w=>?_;simp [q];apply w)
 obtain ⟨l2,c4,h⟩:=bS h
 obtain ⟨b2,b3,b4,b5⟩:=mS c4
 have b0:List.replicate (a1.length:Int).toNat (.agg [vs ByteArray.empty,vi 0])=List.map GParam.enc l2:=rV (f:=GParam.enc) b5
 try simp only [Int.toNat_natCast] at b0
 iterate 2 (refine wC rfl fun K w=>?_;simp [q,b2,b3,b4,b0];apply w)
 apply wN;apply u
 obtain ⟨b1,c5,h⟩:=bS h
 refine O.seqC [3] [] (fun _:Unit=>⟨[(3,.t (.sl true 2 (List.map GParam.enc b1)))],[]⟩) (fun _=>True) (fun _ _=>?_) fun K4 c6=>?_
 rotate_left
 ·refine O.zR y fun K u=>?_
  refine wC rfl fun K w=>?_;simp [q];apply w
  apply wN;apply u
  refine O.block ?_
  refine O.loopO [] [0,3,4] [] (fun v:(List GParam) × Int=>⟨[(0,.t (.sl false 2 (List.map GParam.enc a1))),(3,.t (.sl true 2 (List.map GParam.enc v.1))),(4,.t (vi v.2))],[]⟩) (dO a1) _ (l2,0) c5 (by simp [q]) ?_
  intro g d0 h8 c7
  obtain ⟨b6,i7⟩:=g
  simp only [dO] at h8
  try dsimp only
  refine O.seq ?_
  refine O.zR y fun K u=>?_
  iterate 4 (refine wC rfl fun K w=>?_;simp [q];apply w)
  apply wN;apply u
  rcases aA h8 with ⟨b7,h8⟩ | ⟨b8,h8⟩
  ·refine O.cT' (by simp) b7 ?_
   refine O.skip ?_
   refine O.seq ?_
   refine O.block ?_
   refine O.zG y fun K u=>?_
   iterate 4 (refine wC rfl fun K w=>?_;simp [q];apply w)
   obtain ⟨d1,b9,h8⟩:=bS h8
   obtain ⟨a0,a2,a3,a4⟩:=gS b9
   iterate 2 (refine wC rfl fun K w=>?_;simp [q,a0,a2,a3,a4];apply w)
   obtain ⟨c3,c0,h8⟩:=bS h8
   refine wL [(.take,.tmp 19)] rfl rfl ent105 (yR _ c0) fun K w=>?_;simp [q,a0,a2,a3,a4];apply w
   obtain ⟨d2,c1,h8⟩:=bS h8
   obtain ⟨a5,a6,a7,a8⟩:=gS c1
   refine wC rfl fun K w=>?_;simp [q,a0,a2,a3,a4,a5,a6,a7,a8];apply w
   obtain ⟨c8,c2,h8⟩:=bZ h8
   have a9:(List.map GParam.enc b6).set i7.toNat (.agg [vs c3.Name,vi c3.Typ])=List.map GParam.enc c8:=bU (f:=GParam.enc) c2
   try simp only [Int.toNat_natCast] at a9
   refine wC rfl fun K w=>?_;simp [q,a0,a2,a3,a4,a5,a6,a7,a8,a9];apply w
   apply wN;apply u
   refine O.zG y fun K u=>?_
   iterate 3 (refine wC rfl fun K w=>?_;simp [q];apply w)
   apply wN;apply u
   cases h8
   exact ⟨_,[],rfl,by simp [q]⟩
  ·refine O.cF' (by simp) b8 ?_
   refine O.exit ?_
   have c9:=congrArg some (c7 _ (Option.some.inj h8).symm)
   cases c9
   exact c6 _ () [] trivial (by simp [q])
 refine O.zR y fun K u=>?_
 iterate 2 (refine wC rfl fun K w=>?_;simp [q];apply w)
 apply wN;apply u
 cases h
 refine O.ret ?_
 simp [aC,iB,res86]
theorem res52:Tryz.f52.results.toList=[.cell 2 58]:=rfl
theorem ent52:aF E.P 52:=eO Tryz.func52 (by simp [Tryz.f52]) rfl
theorem aEg (a1:GFn) {r0:GFn} (h:qA a1=some r0):Ok E 52 [.val (GFn.enc false a1)] [GFn.enc true r0] []:=by
 refine oB Tryz.func52 rfl (by simp [Tryz.f52]) fun C (q:C.N=21) hP=>?_
 have y:=aL hP
 unfold qA at h
 refine O.zR y fun K u=>?_
 iterate 2 (refine wC rfl fun K v=>?_;simp [q];apply v)
 apply wN;apply u
 refine O.zR y fun K u=>?_
 refine wC rfl fun K v=>?_;simp [q];apply v
 apply wN;apply u
 refine O.zR y fun K u=>?_
 iterate 4 (refine wC rfl fun K v=>?_;simp [q];apply v)
 apply wN;apply u
 refine O.zR y fun K u=>?_
 iterate 2 (refine wC rfl fun K v=>?_;simp [q];apply v)
 obtain ⟨r2,a0,h⟩:=bS h
 refine wL [(.take,.tmp 8)] rfl rfl ent86 (vZ _ a0) fun K v=>?_;simp [q];apply v
 iterate 2 (refine wC rfl fun K v=>?_;simp [q];apply v)
 apply wN;apply u
 refine O.zR y fun K u=>?_
 iterate 4 (refine wC rfl fun K v=>?_;simp [q];apply v)
 apply wN;apply u
 refine O.zR y fun K u=>?_
 iterate 4 (refine wC rfl fun K v=>?_;simp [q];apply v)
 apply wN;apply u
 refine O.zR y fun K u=>?_
 iterate 4 (refine wC rfl fun K v=>?_;simp [q];apply v)
 apply wN;apply u
 refine O.zR y fun K u=>?_
 iterate 2 (refine wC rfl fun K v=>?_;simp [q];apply v)
 apply wN;apply u
 cases h
 refine O.ret ?_
 simp [aC,iB,res52]
theorem res22:Tryz.f22.results.toList=[.tmp 2]:=rfl
theorem ent22:aF E.P 22:=eO Tryz.func22 (by simp [Tryz.f22]) rfl
theorem aCl (a1:List GFn) {r0:List GFn} (h:nT a1=some r0):Ok E 22 [.val (.sl false 5 (List.map (GFn.enc false) a1))] [.sl true 5 (List.map (GFn.enc true) r0)] []:=by
 refine oB Tryz.func22 rfl (by simp [Tryz.f22]) fun C (q:C.N=23) hP=>?_
 have y:=aL hP
 unfold nT at h
 refine O.zR y fun K u=>?_
 refine wC rfl fun K w=>?_;simp [q];apply w
 apply wN;apply u
 refine O.zR y fun K u=>?_
 iterate 2 (refine wC rfl fun K w=>?_;simp [q];apply w)
 obtain ⟨l2,c4,h⟩:=bS h
 obtain ⟨b3,b4,b5,b6⟩:=mS c4
 have b0:List.replicate (a1.length:Int).toNat (.agg [vs ByteArray.empty,.sl true 2 [],vi 0,vi 0,vi 0])=List.map (GFn.enc true) l2:=rV (f:=(GFn.enc true)) b6
 try simp only [Int.toNat_natCast] at b0
 iterate 2 (refine wC rfl fun K w=>?_;simp [q,b3,b4,b5,b0];apply w)
 apply wN;apply u
 obtain ⟨b1,c5,h⟩:=bS h
 refine O.seqC [3] [] (fun _:Unit=>⟨[(3,.t (.sl true 5 (List.map (GFn.enc true) b1)))],[]⟩) (fun _=>True) (fun _ _=>?_) fun K4 c6=>?_
 rotate_left
 ·refine O.zR y fun K u=>?_
  refine wC rfl fun K w=>?_;simp [q];apply w
  apply wN;apply u
  refine O.block ?_
  refine O.loopO [] [0,3,4] [] (fun v:(List GFn) × Int=>⟨[(0,.t (.sl false 5 (List.map (GFn.enc false) a1))),(3,.t (.sl true 5 (List.map (GFn.enc true) v.1))),(4,.t (vi v.2))],[]⟩) (gC a1) _ (l2,0) c5 (by simp [q]) ?_
  intro g d0 h8 c7
  obtain ⟨b7,i7⟩:=g
  simp only [gC] at h8
  try dsimp only
  refine O.seq ?_
  refine O.zR y fun K u=>?_
  iterate 4 (refine wC rfl fun K w=>?_;simp [q];apply w)
  apply wN;apply u
  rcases aA h8 with ⟨b8,h8⟩ | ⟨b9,h8⟩
  ·refine O.cT' (by simp) b8 ?_
   refine O.skip ?_
   refine O.seq ?_
   refine O.block ?_
   refine O.zG y fun K u=>?_
   iterate 4 (refine wC rfl fun K w=>?_;simp [q];apply w)
   obtain ⟨d1,c0,h8⟩:=bS h8
   obtain ⟨a0,a2,a3,a4⟩:=gS c0
   iterate 2 (refine wC rfl fun K w=>?_;simp [q,a0,a2,a3,a4];apply w)
   obtain ⟨b2,c1,h8⟩:=bS h8
   refine wL [(.take,.tmp 19)] rfl rfl ent52 (aEg _ c1) fun K w=>?_;simp [q,a0,a2,a3,a4];apply w
   obtain ⟨d2,c2,h8⟩:=bS h8
   obtain ⟨a5,a6,a7,a8⟩:=gS c2
   refine wC rfl fun K w=>?_;simp [q,a0,a2,a3,a4,a5,a6,a7,a8];apply w
   obtain ⟨c8,c3,h8⟩:=bZ h8
   have a9:(List.map (GFn.enc true) b7).set i7.toNat (.agg [vs b2.Name,.sl true 2 (List.map GParam.enc b2.Params),vi b2.Res,vi b2.Body,vi b2.Ret])=List.map (GFn.enc true) c8:=bU (f:=(GFn.enc true)) c3
   try simp only [Int.toNat_natCast] at a9
   refine wC rfl fun K w=>?_;simp [q,a0,a2,a3,a4,a5,a6,a7,a8,a9];apply w
   apply wN;apply u
   refine O.zG y fun K u=>?_
   iterate 3 (refine wC rfl fun K w=>?_;simp [q];apply w)
   apply wN;apply u
   cases h8
   exact ⟨_,[],rfl,by simp [q]⟩
  ·refine O.cF' (by simp) b9 ?_
   refine O.exit ?_
   have c9:=congrArg some (c7 _ (Option.some.inj h8).symm)
   cases c9
   exact c6 _ () [] trivial (by simp [q])
 refine O.zR y fun K u=>?_
 iterate 2 (refine wC rfl fun K w=>?_;simp [q];apply w)
 apply wN;apply u
 cases h
 refine O.ret ?_
 simp [aC,iB,res22]
theorem res8:Tryz.f8.results.toList=[.cell 2 31]:=rfl
theorem ent8:aF E.P 8:=eO Tryz.func8 (by simp [Tryz.f8]) rfl
theorem gB (a1:GProgram) {r0:GProgram} (h:cS a1=some r0):Ok E 8 [.val (GProgram.enc false a1)] [GProgram.enc true r0] []:=by
 refine oB Tryz.func8 rfl (by simp [Tryz.f8]) fun C (q:C.N=13) hP=>?_
 have y:=aL hP
 unfold cS at h
 refine O.zR y fun K u=>?_
 iterate 2 (refine wC rfl fun K v=>?_;simp [q];apply v)
 apply wN;apply u
 refine O.zR y fun K u=>?_
 refine wC rfl fun K v=>?_;simp [q];apply v
 apply wN;apply u
 refine O.zR y fun K u=>?_
 iterate 2 (refine wC rfl fun K v=>?_;simp [q];apply v)
 obtain ⟨r2,a0,h⟩:=bS h
 refine wL [(.take,.tmp 5)] rfl rfl ent21 (yT _ a0) fun K v=>?_;simp [q];apply v
 iterate 2 (refine wC rfl fun K v=>?_;simp [q];apply v)
 apply wN;apply u
 refine O.zR y fun K u=>?_
 iterate 2 (refine wC rfl fun K v=>?_;simp [q];apply v)
 obtain ⟨r4,a2,h⟩:=bS h
 refine wL [(.take,.tmp 9)] rfl rfl ent22 (aCl _ a2) fun K v=>?_;simp [q];apply v
 iterate 2 (refine wC rfl fun K v=>?_;simp [q];apply v)
 apply wN;apply u
 refine O.zR y fun K u=>?_
 iterate 2 (refine wC rfl fun K v=>?_;simp [q];apply v)
 apply wN;apply u
 cases h
 refine O.ret ?_
 simp [aC,iB,res8]
theorem aNz:Tryz.f93.results.toList=[.tmp 4]:=rfl
theorem ent93:aF E.P 93:=eO Tryz.func93 (by simp [Tryz.f93]) rfl
theorem aAu (a1:List Int) (b2:List Int) {r0:Bool} (h:mF a1 b2=some r0):Ok E 93 [.val (.sl false 1 (List.map vi a1)),.val (.sl false 1 (List.map vi b2))] [vb r0] []:=by
 refine oB Tryz.func93 rfl (by simp [Tryz.f93]) fun C (q:C.N=26) hP=>?_
 have u:=aL hP
 unfold mF at h
 refine O.zR u fun K w=>?_
 refine wC rfl fun K r=>?_;simp [q];apply r
 apply wN;apply w
 refine O.seq ?_
 refine O.zR u fun K w=>?_
 iterate 5 (refine wC rfl fun K r=>?_;simp [q];apply r)
 apply wN;apply w
 rcases aA h with ⟨b9,h⟩ | ⟨c0,h⟩
 ·refine O.cT' (by simp) b9 ?_
  refine O.zR u fun K w=>?_
  refine wC rfl fun K r=>?_;simp [q];apply r
  apply wN;apply w
  cases h
  refine O.ret ?_
  simp [aC,iB,aNz]
 ·refine O.cF' (by simp) c0 ?_
  refine O.skip ?_
  obtain ⟨j7,c1,h⟩:=bS h
  refine O.seqC [] [] (fun v:Unit=>⟨[],[]⟩) (fun v=>j7=Sum.inl v) (fun v hv=>?_) fun K6 c2=>?_
  rotate_left
  ·refine O.zR u fun K w=>?_
   refine wC rfl fun K r=>?_;simp [q];apply r
   apply wN;apply w
   refine O.block ?_
   refine O.loopO [] [0,1,5] [] (fun v:Int=>⟨[(0,.t (.sl false 1 (List.map vi a1))),(1,.t (.sl false 1 (List.map vi b2))),(5,.t (vi v))],[]⟩) (fG a1 b2) _ 0 c1 (by simp [q]) ?_
   intro g c5 h9 a9
   obtain ⟨i8,hg⟩:∃ y,y=g:=⟨_,rfl⟩
   subst hg
   simp only [fG] at h9
   try dsimp only
   refine O.seq ?_
   refine O.zR u fun K w=>?_
   iterate 4 (refine wC rfl fun K r=>?_;simp [q];apply r)
   apply wN;apply w
   rcases aA h9 with ⟨b0,h9⟩ | ⟨b1,h9⟩
   ·refine O.cT' (by simp) b0 ?_
    refine O.skip ?_
    refine O.seq ?_
    refine O.block ?_
    refine O.seq ?_
    obtain ⟨b7,b3,h9⟩:=bS h9
    obtain ⟨a0,a2,a3,a4⟩:=gS b3
    obtain ⟨b8,b4,h9⟩:=bS h9
    obtain ⟨a5,a6,a7,a8⟩:=gS b4
    refine O.dT rfl (u _ rfl) [(17,.t (.sl false 1 (List.map vi a1))),(18,.t (vi i8)),(19,.rop [vi b7] 0),(20,.t (vi b7)),(21,.t (.sl false 1 (List.map vi b2))),(22,.t (vi i8)),(23,.rop [vi b8] 0),(24,.t (vi b8))] [[],[],[0,1],[0,1,2],[],[],[4,5],[4,5,6],[0,1,2,3,4,5,6,7]] (by simp) (by simp) (by simp [look]) rfl rfl rfl ?_ fun K w=>?_
    ·refine ⟨?_,?_,?_,?_,?_,?_,?_,?_,trivial⟩
     all_goals (intro τ hbx hb hd hf K w;try simp [aJ] at hd;simp [aJ] at hf;first | (refine wC rfl fun K' z=>?_;simp [q,hbx,hb,hd,hf,a0,a2,a3,a4,a5,a6,a7,a8];exact z _ (wN (w _ (by simp [aJ,hbx,a0,a2,a3,a4,a5,a6,a7,a8])))))
    refine wC rfl fun K r=>?_;simp [q,a0,a2,a3,a4,a5,a6,a7,a8];apply r
    apply wN;apply w
    rcases aA h9 with ⟨b5,h9⟩ | ⟨b6,h9⟩
    ·refine O.cT' (by simp) b5 ?_
     refine O.zR u fun K w=>?_
     refine wC rfl fun K r=>?_;simp [q];apply r
     apply wN;apply w
     have c3:=congrArg some (a9 _ (Option.some.inj h9).symm)
     cases c3
     try dsimp only at h
     cases h
     refine O.ret ?_
     simp [aC,iB,aNz]
    ·refine O.cF' (by simp) b6 ?_
     refine O.skip ?_
     refine O.zG u fun K w=>?_
     iterate 3 (refine wC rfl fun K r=>?_;simp [q];apply r)
     apply wN;apply w
     cases h9
     exact ⟨_,[],rfl,by simp [q]⟩
   ·refine O.cF' (by simp) b1 ?_
    refine O.exit ?_
    have c4:=congrArg some (a9 _ (Option.some.inj h9).symm)
    cases c4
    exact c2 _ _ [] rfl (by simp [q])
  subst hv
  obtain ⟨⟩:=v
  try dsimp only at h ⊢
  refine O.zR u fun K w=>?_
  refine wC rfl fun K r=>?_;simp [q];apply r
  apply wN;apply w
  cases h
  refine O.ret ?_
  simp [aC,iB,aNz]
theorem aK3:Tryz.f57.results.toList=[.tmp 4]:=rfl
theorem ent57:aF E.P 57:=eO Tryz.func57 (by simp [Tryz.f57]) rfl
theorem aAs (a1:GNode) (b2:GNode) {r0:Bool} (h:mE a1 b2=some r0):Ok E 57 [.val (GNode.enc false a1),.val (GNode.enc false b2)] [vb r0] []:=by
 refine oB Tryz.func57 rfl (by simp [Tryz.f57]) fun C (q:C.N=26) hP=>?_
 have y:=aL hP
 unfold mE at h
 refine O.zR y fun K u=>?_
 iterate 3 (refine wC rfl fun K v=>?_;simp [q];apply v)
 apply wN;apply u
 refine O.seq ?_
 refine O.zR y fun K u=>?_
 iterate 5 (refine wC rfl fun K v=>?_;simp [q];apply v)
 apply wN;apply u
 rcases aA h with ⟨a4,h⟩ | ⟨a5,h⟩
 ·refine O.cT' (by simp) a4 ?_
  refine O.zR y fun K u=>?_
  refine wC rfl fun K v=>?_;simp [q];apply v
  apply wN;apply u
  cases h
  refine O.ret ?_
  simp [aC,iB,aK3]
 ·refine O.cF' (by simp) a5 ?_
  refine O.skip ?_
  refine O.seq ?_
  refine O.zR y fun K u=>?_
  iterate 5 (refine wC rfl fun K v=>?_;simp [q];apply v)
  apply wN;apply u
  rcases aA h with ⟨a6,h⟩ | ⟨a7,h⟩
  ·refine O.cT' (by simp) a6 ?_
   refine O.zR y fun K u=>?_
   refine wC rfl fun K v=>?_;simp [q];apply v
   apply wN;apply u
   cases h
   refine O.ret ?_
   simp [aC,iB,aK3]
  ·refine O.cF' (by simp) a7 ?_
   refine O.skip ?_
   refine O.seq ?_
   refine O.zR y fun K u=>?_
   iterate 5 (refine wC rfl fun K v=>?_;simp [q];apply v)
   apply wN;apply u
   rcases aA h with ⟨a8,h⟩ | ⟨a9,h⟩
   ·refine O.cT' (by simp) a8 ?_
    refine O.zR y fun K u=>?_
    refine wC rfl fun K v=>?_;simp [q];apply v
    apply wN;apply u
    cases h
    refine O.ret ?_
    simp [aC,iB,aK3]
   ·refine O.cF' (by simp) a9 ?_
    refine O.skip ?_
    refine O.seq ?_
    refine O.zR y fun K u=>?_
    iterate 4 (refine wC rfl fun K v=>?_;simp [q];apply v)
    obtain ⟨r9,a0,h⟩:=bS h
    refine wL [(.take,.tmp 21),(.take,.tmp 23)] rfl rfl ent93 (aAu _ _ a0) fun K v=>?_;simp [q];apply v
    refine wC rfl fun K v=>?_;simp [q];apply v
    apply wN;apply u
    rcases aA h with ⟨a2,h⟩ | ⟨a3,h⟩
    ·refine O.cT' (by simp) a2 ?_
     refine O.zR y fun K u=>?_
     refine wC rfl fun K v=>?_;simp [q];apply v
     apply wN;apply u
     cases h
     refine O.ret ?_
     simp [aC,iB,aK3]
    ·refine O.cF' (by simp) a3 ?_
     refine O.skip ?_
     refine O.zR y fun K u=>?_
     refine wC rfl fun K v=>?_;simp [q];apply v
     apply wN;apply u
     cases h
     refine O.ret ?_
     simp [aC,iB,aK3]
theorem aO6:Tryz.f25.results.toList=[.tmp 4]:=rfl
theorem ent25:aF E.P 25:=eO Tryz.func25 (by simp [Tryz.f25]) rfl
theorem zD (a1:List GNode) (b2:List GNode) {r0:Bool} (h:kO a1 b2=some r0):Ok E 25 [.val (.sl false 4 (List.map (GNode.enc false) a1)),.val (.sl false 4 (List.map (GNode.enc false) b2))] [vb r0] []:=by
 refine oB Tryz.func25 rfl (by simp [Tryz.f25]) fun C (q:C.N=27) hP=>?_
 have u:=aL hP
 unfold kO at h
 refine O.zR u fun K w=>?_
 refine wC rfl fun K r=>?_;simp [q];apply r
 apply wN;apply w
 refine O.seq ?_
 refine O.zR u fun K w=>?_
 iterate 5 (refine wC rfl fun K r=>?_;simp [q];apply r)
 apply wN;apply w
 rcases aA h with ⟨c0,h⟩ | ⟨c1,h⟩
 ·refine O.cT' (by simp) c0 ?_
  refine O.zR u fun K w=>?_
  refine wC rfl fun K r=>?_;simp [q];apply r
  apply wN;apply w
  cases h
  refine O.ret ?_
  simp [aC,iB,aO6]
 ·refine O.cF' (by simp) c1 ?_
  refine O.skip ?_
  obtain ⟨j7,c2,h⟩:=bS h
  refine O.seqC [] [] (fun v:Unit=>⟨[],[]⟩) (fun v=>j7=Sum.inl v) (fun v hv=>?_) fun K6 c3=>?_
  rotate_left
  ·refine O.zR u fun K w=>?_
   refine wC rfl fun K r=>?_;simp [q];apply r
   apply wN;apply w
   refine O.block ?_
   refine O.loopO [] [0,1,5] [] (fun v:Int=>⟨[(0,.t (.sl false 4 (List.map (GNode.enc false) a1))),(1,.t (.sl false 4 (List.map (GNode.enc false) b2))),(5,.t (vi v))],[]⟩) (eM a1 b2) _ 0 c2 (by simp [q]) ?_
   intro g c6 h9 a9
   obtain ⟨i8,hg⟩:∃ y,y=g:=⟨_,rfl⟩
   subst hg
   simp only [eM] at h9
   try dsimp only
   refine O.seq ?_
   refine O.zR u fun K w=>?_
   iterate 4 (refine wC rfl fun K r=>?_;simp [q];apply r)
   apply wN;apply w
   rcases aA h9 with ⟨b3,h9⟩ | ⟨b4,h9⟩
   ·refine O.cT' (by simp) b3 ?_
    refine O.skip ?_
    refine O.seq ?_
    refine O.block ?_
    refine O.seq ?_
    obtain ⟨b0,b5,h9⟩:=bS h9
    obtain ⟨a0,a2,a3,a4⟩:=gS b5
    obtain ⟨b1,b6,h9⟩:=bS h9
    obtain ⟨a5,a6,a7,a8⟩:=gS b6
    refine O.dT rfl (u _ rfl) [(17,.t (.sl false 4 (List.map (GNode.enc false) a1))),(18,.t (vi i8)),(19,.rop [vi b0.Kind,vi b0.Num,vs b0.Name,.sl false 1 (List.map vi b0.Kids)] 0),(20,.t (GNode.enc false b0)),(21,.t (.sl false 4 (List.map (GNode.enc false) b2))),(22,.t (vi i8)),(23,.rop [vi b1.Kind,vi b1.Num,vs b1.Name,.sl false 1 (List.map vi b1.Kids)] 0),(24,.t (GNode.enc false b1))] [[],[],[0,1],[0,1,2],[],[],[4,5],[4,5,6],[0,1,2,3,4,5,6,7],[0,1,2,3,4,5,6,7,8]] (by simp) (by simp) (by simp [look]) rfl rfl rfl ?_ fun K w=>?_
    ·refine ⟨?_,?_,?_,?_,?_,?_,?_,?_,trivial⟩
     all_goals (intro τ hbx hb hd hf K w;try simp [aJ] at hd;simp [aJ] at hf;first | (refine wC rfl fun K' z=>?_;simp [q,hbx,hb,hd,hf,a0,a2,a3,a4,a5,a6,a7,a8];exact z _ (wN (w _ (by simp [aJ,hbx,a0,a2,a3,a4,a5,a6,a7,a8])))))
    obtain ⟨c7,b7,h9⟩:=bS h9
    refine wL [(.take,.tmp 20),(.take,.tmp 24)] rfl rfl ent57 (aAs _ _ b7) fun K r=>?_;simp [q,a0,a2,a3,a4,a5,a6,a7,a8];apply r
    refine wC rfl fun K r=>?_;simp [q,a0,a2,a3,a4,a5,a6,a7,a8];apply r
    apply wN;apply w
    rcases aA h9 with ⟨b8,h9⟩ | ⟨b9,h9⟩
    ·refine O.cT' (by simp) b8 ?_
     refine O.zR u fun K w=>?_
     refine wC rfl fun K r=>?_;simp [q];apply r
     apply wN;apply w
     have c4:=congrArg some (a9 _ (Option.some.inj h9).symm)
     cases c4
     try dsimp only at h
     cases h
     refine O.ret ?_
     simp [aC,iB,aO6]
    ·refine O.cF' (by simp) b9 ?_
     refine O.skip ?_
     refine O.zG u fun K w=>?_
     iterate 3 (refine wC rfl fun K r=>?_;simp [q];apply r)
     apply wN;apply w
     cases h9
     exact ⟨_,[],rfl,by simp [q]⟩
   ·refine O.cF' (by simp) b4 ?_
    refine O.exit ?_
    have c5:=congrArg some (a9 _ (Option.some.inj h9).symm)
    cases c5
    exact c3 _ _ [] rfl (by simp [q])
  subst hv
  obtain ⟨⟩:=v
  try dsimp only at h ⊢
  refine O.zR u fun K w=>?_
  refine wC rfl fun K r=>?_;simp [q];apply r
  apply wN;apply w
  cases h
  refine O.ret ?_
  simp [aC,iB,aO6]
theorem aK9:Tryz.f110.results.toList=[.tmp 4]:=rfl
theorem ent110:aF E.P 110:=eO Tryz.func110 (by simp [Tryz.f110]) rfl
theorem zB (a1:GParam) (b2:GParam) {r0:Bool} (h:kN a1 b2=some r0):Ok E 110 [.val (GParam.enc a1),.val (GParam.enc b2)] [vb r0] []:=by
 refine oB Tryz.func110 rfl (by simp [Tryz.f110]) fun C (q:C.N=15) hP=>?_
 have y:=aL hP
 unfold kN at h
 refine O.zR y fun K u=>?_
 iterate 3 (refine wC rfl fun K v=>?_;simp [q];apply v)
 apply wN;apply u
 refine O.seq ?_
 refine O.zR y fun K u=>?_
 iterate 5 (refine wC rfl fun K v=>?_;simp [q];apply v)
 apply wN;apply u
 rcases aA h with ⟨a0,h⟩ | ⟨a2,h⟩
 ·refine O.cT' (by simp) a0 ?_
  refine O.zR y fun K u=>?_
  refine wC rfl fun K v=>?_;simp [q];apply v
  apply wN;apply u
  cases h
  refine O.ret ?_
  simp [aC,iB,aK9]
 ·refine O.cF' (by simp) a2 ?_
  refine O.skip ?_
  refine O.seq ?_
  refine O.zR y fun K u=>?_
  iterate 5 (refine wC rfl fun K v=>?_;simp [q];apply v)
  apply wN;apply u
  rcases aA h with ⟨a3,h⟩ | ⟨a4,h⟩
  ·refine O.cT' (by simp) a3 ?_
   refine O.zR y fun K u=>?_
   refine wC rfl fun K v=>?_;simp [q];apply v
   apply wN;apply u
   cases h
   refine O.ret ?_
   simp [aC,iB,aK9]
  ·refine O.cF' (by simp) a4 ?_
   refine O.skip ?_
   refine O.zR y fun K u=>?_
   refine wC rfl fun K v=>?_;simp [q];apply v
   apply wN;apply u
   cases h
   refine O.ret ?_
   simp [aC,iB,aK9]
theorem aNy:Tryz.f94.results.toList=[.tmp 4]:=rfl
theorem ent94:aF E.P 94:=eO Tryz.func94 (by simp [Tryz.f94]) rfl
theorem wG (a1:List GParam) (b2:List GParam) {r0:Bool} (h:jA a1 b2=some r0):Ok E 94 [.val (.sl false 2 (List.map GParam.enc a1)),.val (.sl false 2 (List.map GParam.enc b2))] [vb r0] []:=by
 refine oB Tryz.func94 rfl (by simp [Tryz.f94]) fun C (q:C.N=27) hP=>?_
 have u:=aL hP
 unfold jA at h
 refine O.zR u fun K w=>?_
 refine wC rfl fun K r=>?_;simp [q];apply r
 apply wN;apply w
 refine O.seq ?_
 refine O.zR u fun K w=>?_
 iterate 5 (refine wC rfl fun K r=>?_;simp [q];apply r)
 apply wN;apply w
 rcases aA h with ⟨c0,h⟩ | ⟨c1,h⟩
 ·refine O.cT' (by simp) c0 ?_
  refine O.zR u fun K w=>?_
  refine wC rfl fun K r=>?_;simp [q];apply r
  apply wN;apply w
  cases h
  refine O.ret ?_
  simp [aC,iB,aNy]
 ·refine O.cF' (by simp) c1 ?_
  refine O.skip ?_
  obtain ⟨j7,c2,h⟩:=bS h
  refine O.seqC [] [] (fun v:Unit=>⟨[],[]⟩) (fun v=>j7=Sum.inl v) (fun v hv=>?_) fun K6 c3=>?_
  rotate_left
  ·refine O.zR u fun K w=>?_
   refine wC rfl fun K r=>?_;simp [q];apply r
   apply wN;apply w
   refine O.block ?_
   refine O.loopO [] [0,1,5] [] (fun v:Int=>⟨[(0,.t (.sl false 2 (List.map GParam.enc a1))),(1,.t (.sl false 2 (List.map GParam.enc b2))),(5,.t (vi v))],[]⟩) (dU a1 b2) _ 0 c2 (by simp [q]) ?_
   intro g c6 h9 a9
   obtain ⟨i8,hg⟩:∃ y,y=g:=⟨_,rfl⟩
   subst hg
   simp only [dU] at h9
   try dsimp only
   refine O.seq ?_
   refine O.zR u fun K w=>?_
   iterate 4 (refine wC rfl fun K r=>?_;simp [q];apply r)
   apply wN;apply w
   rcases aA h9 with ⟨b0,h9⟩ | ⟨b1,h9⟩
   ·refine O.cT' (by simp) b0 ?_
    refine O.skip ?_
    refine O.seq ?_
    refine O.block ?_
    refine O.seq ?_
    obtain ⟨b3,b4,h9⟩:=bS h9
    obtain ⟨a0,a2,a3,a4⟩:=gS b4
    obtain ⟨b5,b6,h9⟩:=bS h9
    obtain ⟨a5,a6,a7,a8⟩:=gS b6
    refine O.dT rfl (u _ rfl) [(17,.t (.sl false 2 (List.map GParam.enc a1))),(18,.t (vi i8)),(19,.rop [vs b3.Name,vi b3.Typ] 0),(20,.t (GParam.enc b3)),(21,.t (.sl false 2 (List.map GParam.enc b2))),(22,.t (vi i8)),(23,.rop [vs b5.Name,vi b5.Typ] 0),(24,.t (GParam.enc b5))] [[],[],[0,1],[0,1,2],[],[],[4,5],[4,5,6],[0,1,2,3,4,5,6,7],[0,1,2,3,4,5,6,7,8]] (by simp) (by simp) (by simp [look]) rfl rfl rfl ?_ fun K w=>?_
    ·refine ⟨?_,?_,?_,?_,?_,?_,?_,?_,trivial⟩
     all_goals (intro τ hbx hb hd hf K w;try simp [aJ] at hd;simp [aJ] at hf;first | (refine wC rfl fun K' z=>?_;simp [q,hbx,hb,hd,hf,a0,a2,a3,a4,a5,a6,a7,a8];exact z _ (wN (w _ (by simp [aJ,hbx,a0,a2,a3,a4,a5,a6,a7,a8])))))
    obtain ⟨c7,b7,h9⟩:=bS h9
    refine wL [(.take,.tmp 20),(.take,.tmp 24)] rfl rfl ent110 (zB _ _ b7) fun K r=>?_;simp [q,a0,a2,a3,a4,a5,a6,a7,a8];apply r
    refine wC rfl fun K r=>?_;simp [q,a0,a2,a3,a4,a5,a6,a7,a8];apply r
    apply wN;apply w
    rcases aA h9 with ⟨b8,h9⟩ | ⟨b9,h9⟩
    ·refine O.cT' (by simp) b8 ?_
     refine O.zR u fun K w=>?_
     refine wC rfl fun K r=>?_;simp [q];apply r
     apply wN;apply w
     have c4:=congrArg some (a9 _ (Option.some.inj h9).symm)
     cases c4
     try dsimp only at h
     cases h
     refine O.ret ?_
     simp [aC,iB,aNy]
    ·refine O.cF' (by simp) b9 ?_
     refine O.skip ?_
     refine O.zG u fun K w=>?_
     iterate 3 (refine wC rfl fun K r=>?_;simp [q];apply r)
     apply wN;apply w
     cases h9
     exact ⟨_,[],rfl,by simp [q]⟩
   ·refine O.cF' (by simp) b1 ?_
    refine O.exit ?_
    have c5:=congrArg some (a9 _ (Option.some.inj h9).symm)
    cases c5
    exact c3 _ _ [] rfl (by simp [q])
  subst hv
  obtain ⟨⟩:=v
  try dsimp only at h ⊢
  refine O.zR u fun K w=>?_
  refine wC rfl fun K r=>?_;simp [q];apply r
  apply wN;apply w
  cases h
  refine O.ret ?_
  simp [aC,iB,aNy]
theorem aIh:Tryz.f58.results.toList=[.tmp 4]:=rfl
theorem ent58:aF E.P 58:=eO Tryz.func58 (by simp [Tryz.f58]) rfl
theorem aEk (a1:GFn) (b2:GFn) {r0:Bool} (h:qC a1 b2=some r0):Ok E 58 [.val (GFn.enc false a1),.val (GFn.enc false b2)] [vb r0] []:=by
 refine oB Tryz.func58 rfl (by simp [Tryz.f58]) fun C (q:C.N=31) hP=>?_
 have y:=aL hP
 unfold qC at h
 refine O.zR y fun K u=>?_
 iterate 3 (refine wC rfl fun K v=>?_;simp [q];apply v)
 apply wN;apply u
 refine O.seq ?_
 refine O.zR y fun K u=>?_
 iterate 5 (refine wC rfl fun K v=>?_;simp [q];apply v)
 apply wN;apply u
 rcases aA h with ⟨a6,h⟩ | ⟨a7,h⟩
 ·refine O.cT' (by simp) a6 ?_
  refine O.zR y fun K u=>?_
  refine wC rfl fun K v=>?_;simp [q];apply v
  apply wN;apply u
  cases h
  refine O.ret ?_
  simp [aC,iB,aIh]
 ·refine O.cF' (by simp) a7 ?_
  refine O.skip ?_
  refine O.seq ?_
  refine O.zR y fun K u=>?_
  iterate 4 (refine wC rfl fun K v=>?_;simp [q];apply v)
  obtain ⟨r5,a8,h⟩:=bS h
  refine wL [(.take,.tmp 11),(.take,.tmp 13)] rfl rfl ent94 (wG _ _ a8) fun K v=>?_;simp [q];apply v
  refine wC rfl fun K v=>?_;simp [q];apply v
  apply wN;apply u
  rcases aA h with ⟨a9,h⟩ | ⟨b0,h⟩
  ·refine O.cT' (by simp) a9 ?_
   refine O.zR y fun K u=>?_
   refine wC rfl fun K v=>?_;simp [q];apply v
   apply wN;apply u
   cases h
   refine O.ret ?_
   simp [aC,iB,aIh]
  ·refine O.cF' (by simp) b0 ?_
   refine O.skip ?_
   refine O.seq ?_
   refine O.zR y fun K u=>?_
   iterate 5 (refine wC rfl fun K v=>?_;simp [q];apply v)
   apply wN;apply u
   rcases aA h with ⟨b1,h⟩ | ⟨a0,h⟩
   ·refine O.cT' (by simp) b1 ?_
    refine O.zR y fun K u=>?_
    refine wC rfl fun K v=>?_;simp [q];apply v
    apply wN;apply u
    cases h
    refine O.ret ?_
    simp [aC,iB,aIh]
   ·refine O.cF' (by simp) a0 ?_
    refine O.skip ?_
    refine O.seq ?_
    refine O.zR y fun K u=>?_
    iterate 5 (refine wC rfl fun K v=>?_;simp [q];apply v)
    apply wN;apply u
    rcases aA h with ⟨a2,h⟩ | ⟨a3,h⟩
    ·refine O.cT' (by simp) a2 ?_
     refine O.zR y fun K u=>?_
     refine wC rfl fun K v=>?_;simp [q];apply v
     apply wN;apply u
     cases h
     refine O.ret ?_
     simp [aC,iB,aIh]
    ·refine O.cF' (by simp) a3 ?_
     refine O.skip ?_
     refine O.seq ?_
     refine O.zR y fun K u=>?_
     iterate 5 (refine wC rfl fun K v=>?_;simp [q];apply v)
     apply wN;apply u
     rcases aA h with ⟨a4,h⟩ | ⟨a5,h⟩
     ·refine O.cT' (by simp) a4 ?_
      refine O.zR y fun K u=>?_
      refine wC rfl fun K v=>?_;simp [q];apply v
      apply wN;apply u
      cases h
      refine O.ret ?_
      simp [aC,iB,aIh]
     ·refine O.cF' (by simp) a5 ?_
      refine O.skip ?_
      refine O.zR y fun K u=>?_
      refine wC rfl fun K v=>?_;simp [q];apply v
      apply wN;apply u
      cases h
      refine O.ret ?_
      simp [aC,iB,aIh]
theorem aO5:Tryz.f26.results.toList=[.tmp 4]:=rfl
theorem ent26:aF E.P 26:=eO Tryz.func26 (by simp [Tryz.f26]) rfl
theorem aCr (a1:List GFn) (b2:List GFn) {r0:Bool} (h:nV a1 b2=some r0):Ok E 26 [.val (.sl false 5 (List.map (GFn.enc false) a1)),.val (.sl false 5 (List.map (GFn.enc false) b2))] [vb r0] []:=by
 refine oB Tryz.func26 rfl (by simp [Tryz.f26]) fun C (q:C.N=27) hP=>?_
 have u:=aL hP
 unfold nV at h
 refine O.zR u fun K w=>?_
 refine wC rfl fun K r=>?_;simp [q];apply r
 apply wN;apply w
 refine O.seq ?_
 refine O.zR u fun K w=>?_
 iterate 5 (refine wC rfl fun K r=>?_;simp [q];apply r)
 apply wN;apply w
 rcases aA h with ⟨c0,h⟩ | ⟨c1,h⟩
 ·refine O.cT' (by simp) c0 ?_
  refine O.zR u fun K w=>?_
  refine wC rfl fun K r=>?_;simp [q];apply r
  apply wN;apply w
  cases h
  refine O.ret ?_
  simp [aC,iB,aO5]
 ·refine O.cF' (by simp) c1 ?_
  refine O.skip ?_
  obtain ⟨j7,c2,h⟩:=bS h
  refine O.seqC [] [] (fun v:Unit=>⟨[],[]⟩) (fun v=>j7=Sum.inl v) (fun v hv=>?_) fun K6 c3=>?_
  rotate_left
  ·refine O.zR u fun K w=>?_
   refine wC rfl fun K r=>?_;simp [q];apply r
   apply wN;apply w
   refine O.block ?_
   refine O.loopO [] [0,1,5] [] (fun v:Int=>⟨[(0,.t (.sl false 5 (List.map (GFn.enc false) a1))),(1,.t (.sl false 5 (List.map (GFn.enc false) b2))),(5,.t (vi v))],[]⟩) (gE a1 b2) _ 0 c2 (by simp [q]) ?_
   intro g c6 h9 b1
   obtain ⟨i8,hg⟩:∃ y,y=g:=⟨_,rfl⟩
   subst hg
   simp only [gE] at h9
   try dsimp only
   refine O.seq ?_
   refine O.zR u fun K w=>?_
   iterate 4 (refine wC rfl fun K r=>?_;simp [q];apply r)
   apply wN;apply w
   rcases aA h9 with ⟨b3,h9⟩ | ⟨b4,h9⟩
   ·refine O.cT' (by simp) b3 ?_
    refine O.skip ?_
    refine O.seq ?_
    refine O.block ?_
    refine O.seq ?_
    obtain ⟨a9,b5,h9⟩:=bS h9
    obtain ⟨a0,a2,a3,a4⟩:=gS b5
    obtain ⟨b0,b6,h9⟩:=bS h9
    obtain ⟨a5,a6,a7,a8⟩:=gS b6
    refine O.dT rfl (u _ rfl) [(17,.t (.sl false 5 (List.map (GFn.enc false) a1))),(18,.t (vi i8)),(19,.rop [vs a9.Name,.sl false 2 (List.map GParam.enc a9.Params),vi a9.Res,vi a9.Body,vi a9.Ret] 0),(20,.t (GFn.enc false a9)),(21,.t (.sl false 5 (List.map (GFn.enc false) b2))),(22,.t (vi i8)),(23,.rop [vs b0.Name,.sl false 2 (List.map GParam.enc b0.Params),vi b0.Res,vi b0.Body,vi b0.Ret] 0),(24,.t (GFn.enc false b0))] [[],[],[0,1],[0,1,2],[],[],[4,5],[4,5,6],[0,1,2,3,4,5,6,7],[0,1,2,3,4,5,6,7,8]] (by simp) (by simp) (by simp [look]) rfl rfl rfl ?_ fun K w=>?_
    ·refine ⟨?_,?_,?_,?_,?_,?_,?_,?_,trivial⟩
     all_goals (intro τ hbx hb hd hf K w;try simp [aJ] at hd;simp [aJ] at hf;first | (refine wC rfl fun K' z=>?_;simp [q,hbx,hb,hd,hf,a0,a2,a3,a4,a5,a6,a7,a8];exact z _ (wN (w _ (by simp [aJ,hbx,a0,a2,a3,a4,a5,a6,a7,a8])))))
    obtain ⟨c7,b7,h9⟩:=bS h9
    refine wL [(.take,.tmp 20),(.take,.tmp 24)] rfl rfl ent58 (aEk _ _ b7) fun K r=>?_;simp [q,a0,a2,a3,a4,a5,a6,a7,a8];apply r
    refine wC rfl fun K r=>?_;simp [q,a0,a2,a3,a4,a5,a6,a7,a8];apply r
    apply wN;apply w
    rcases aA h9 with ⟨b8,h9⟩ | ⟨b9,h9⟩
    ·refine O.cT' (by simp) b8 ?_
     refine O.zR u fun K w=>?_
     refine wC rfl fun K r=>?_;simp [q];apply r
     apply wN;apply w
     have c4:=congrArg some (b1 _ (Option.some.inj h9).symm)
     cases c4
     try dsimp only at h
     cases h
     refine O.ret ?_
     simp [aC,iB,aO5]
    ·refine O.cF' (by simp) b9 ?_
     refine O.skip ?_
     refine O.zG u fun K w=>?_
     iterate 3 (refine wC rfl fun K r=>?_;simp [q];apply r)
     apply wN;apply w
     cases h9
     exact ⟨_,[],rfl,by simp [q]⟩
   ·refine O.cF' (by simp) b4 ?_
    refine O.exit ?_
    have c5:=congrArg some (b1 _ (Option.some.inj h9).symm)
    cases c5
    exact c3 _ _ [] rfl (by simp [q])
  subst hv
  obtain ⟨⟩:=v
  try dsimp only at h ⊢
  refine O.zR u fun K w=>?_
  refine wC rfl fun K r=>?_;simp [q];apply r
  apply wN;apply w
  cases h
  refine O.ret ?_
  simp [aC,iB,aO5]
theorem aOb:Tryz.f10.results.toList=[.tmp 4]:=rfl
theorem aMz:aF E.P 10:=eO Tryz.func10 (by simp [Tryz.f10]) rfl
theorem gD (a1:GProgram) (b2:GProgram) {r0:Bool} (h:cT a1 b2=some r0):Ok E 10 [.val (GProgram.enc false a1),.val (GProgram.enc false b2)] [vb r0] []:=by
 refine oB Tryz.func10 rfl (by simp [Tryz.f10]) fun C (q:C.N=17) hP=>?_
 have y:=aL hP
 unfold cT at h
 refine O.zR y fun K u=>?_
 iterate 3 (refine wC rfl fun K v=>?_;simp [q];apply v)
 apply wN;apply u
 refine O.seq ?_
 refine O.zR y fun K u=>?_
 iterate 4 (refine wC rfl fun K v=>?_;simp [q];apply v)
 obtain ⟨r3,a2,h⟩:=bS h
 refine wL [(.take,.tmp 6),(.take,.tmp 8)] rfl rfl ent25 (zD _ _ a2) fun K v=>?_;simp [q];apply v
 refine wC rfl fun K v=>?_;simp [q];apply v
 apply wN;apply u
 rcases aA h with ⟨a3,h⟩ | ⟨a4,h⟩
 ·refine O.cT' (by simp) a3 ?_
  refine O.zR y fun K u=>?_
  refine wC rfl fun K v=>?_;simp [q];apply v
  apply wN;apply u
  cases h
  refine O.ret ?_
  simp [aC,iB,aOb]
 ·refine O.cF' (by simp) a4 ?_
  refine O.skip ?_
  refine O.seq ?_
  refine O.zR y fun K u=>?_
  iterate 4 (refine wC rfl fun K v=>?_;simp [q];apply v)
  obtain ⟨r7,a5,h⟩:=bS h
  refine wL [(.take,.tmp 12),(.take,.tmp 14)] rfl rfl ent26 (aCr _ _ a5) fun K v=>?_;simp [q];apply v
  refine wC rfl fun K v=>?_;simp [q];apply v
  apply wN;apply u
  rcases aA h with ⟨a6,h⟩ | ⟨a0,h⟩
  ·refine O.cT' (by simp) a6 ?_
   refine O.zR y fun K u=>?_
   refine wC rfl fun K v=>?_;simp [q];apply v
   apply wN;apply u
   cases h
   refine O.ret ?_
   simp [aC,iB,aOb]
  ·refine O.cF' (by simp) a0 ?_
   refine O.skip ?_
   refine O.zR y fun K u=>?_
   refine wC rfl fun K v=>?_;simp [q];apply v
   apply wN;apply u
   cases h
   refine O.ret ?_
   simp [aC,iB,aOb]
theorem res28:Tryz.f28.results.toList=[.tmp 6]:=rfl
theorem oW:aF E.P 28:=eO Tryz.func28 (by simp [Tryz.f28]) rfl
theorem aM (x1:Int) (a0:Int) (a2:Int) {r0:Bool} (h:aW x1 a0 a2=some r0):Ok E 28 [.val (vi x1),.val (vi a0),.val (vi a2)] [vb r0] []:=by
 refine oB Tryz.func28 rfl (by simp [Tryz.f28]) fun C (q:C.N=15) hP=>?_
 have y:=aL hP
 unfold aW at h
 refine O.zR y fun K u=>?_
 refine wC rfl fun K v=>?_;simp [q];apply v
 apply wN;apply u
 obtain ⟨v8,a4,h⟩:=bS h
 refine O.seqRC rfl (y _ rfl) [6] [] (fun _:Unit=>⟨[(6,.t (vb v8))],[]⟩) (fun _=>True) (fun _ _=>?_) fun K5 a7=>?_
 rotate_left
 ·refine wC rfl fun K v=>?_;simp [q];apply v
  iterate 3 (refine wC rfl fun K v=>?_;simp [q];apply v)
  rcases aA a4 with ⟨a6,a4⟩ | ⟨a5,a4⟩
  ·have a3:=a6
   try simp at a3
   iterate 5 (refine wC rfl fun K v=>?_;simp [q,a6,a3];apply v)
   refine wN ?_
   cases a4
   exact a7 _ () [] trivial (by simp [q,a6,a3])
  ·have a1:=a5
   try simp at a1
   iterate 3 (refine wO fun K v=>?_;simp [q,a5,a1];apply v)
   iterate 2 (refine wC rfl fun K v=>?_;simp [q,a5,a1];apply v)
   refine wN ?_
   cases a4
   exact a7 _ () [] trivial (by simp [q,a5,a1])
 cases h
 refine O.ret ?_
 simp [aC,iB,res28]
theorem res119:Tryz.f119.results.toList=[.tmp 2]:=rfl
theorem aNl:aF E.P 119:=eO Tryz.func119 (by simp [Tryz.f119]) rfl
theorem nK (b1:Int) {r0:Bool} (h:eY b1=some r0):Ok E 119 [.val (vk .u8 b1)] [vb r0] []:=by
 refine oB Tryz.func119 rfl (by simp [Tryz.f119]) fun C (q:C.N=9) hP=>?_
 have y:=aL hP
 unfold eY at h
 refine O.zR y fun K u=>?_
 refine wC rfl fun K v=>?_;simp [q];apply v
 apply wN;apply u
 obtain ⟨v6,a2,h⟩:=bS h
 refine O.seqRC rfl (y _ rfl) [2] [] (fun _:Unit=>⟨[(2,.t (vb v6))],[]⟩) (fun _=>True) (fun _ _=>?_) fun K3 a5=>?_
 rotate_left
 ·refine wC rfl fun K v=>?_;simp [q];apply v
  iterate 2 (refine wC rfl fun K v=>?_;simp [q];apply v)
  rcases aA a2 with ⟨a4,a2⟩ | ⟨a3,a2⟩
  ·have a1:=a4
   try simp at a1
   iterate 4 (refine wC rfl fun K v=>?_;simp [q,a4,a1];apply v)
   refine wN ?_
   cases a2
   exact a5 _ () [] trivial (by simp [q,a4,a1])
  ·have a0:=a3
   try simp at a0
   iterate 2 (refine wO fun K v=>?_;simp [q,a3,a0];apply v)
   iterate 2 (refine wC rfl fun K v=>?_;simp [q,a3,a0];apply v)
   refine wN ?_
   cases a2
   exact a5 _ () [] trivial (by simp [q,a3,a0])
 cases h
 refine O.ret ?_
 simp [aC,iB,res119]
theorem res132:Tryz.f132.results.toList=[.tmp 0]:=rfl
theorem ent132:aF E.P 132:=eO Tryz.func132 (by simp [Tryz.f132]) rfl
theorem yD {r0:List ByteArray} (h:mV=some r0):Ok E 132 [] [.sl true 1 (List.map vs r0)] []:=by
 refine oB Tryz.func132 rfl (by simp [Tryz.f132]) fun C (q:C.N=2) hP=>?_
 have y:=aL hP
 unfold mV at h
 refine O.zR y fun K u=>?_
 refine wC rfl fun K v=>?_;simp [q];apply v
 apply wN;apply u
 refine O.zR y fun K u=>?_
 iterate 2 (refine wC rfl fun K v=>?_;simp [q];apply v)
 apply wN;apply u
 cases h
 refine O.ret ?_
 simp [aC,iB,res132]
theorem aNa:Tryz.f120.results.toList=[.tmp 2]:=rfl
theorem ent120:aF E.P 120:=eO Tryz.func120 (by simp [Tryz.f120]) rfl
theorem yE (s1:ByteArray) {r0:Bool} (h:kD s1=some r0):Ok E 120 [.val (vs s1)] [vb r0] []:=by
 refine oB Tryz.func120 rfl (by simp [Tryz.f120]) fun C (q:C.N=18) hP=>?_
 have u:=aL hP
 unfold kD at h
 refine O.zR u fun K w=>?_
 refine wC rfl fun K z=>?_;simp [q];apply z
 apply wN;apply w
 refine O.zR u fun K w=>?_
 obtain ⟨r2,b0,h⟩:=bS h
 refine wL [] rfl rfl ent132 (yD b0) fun K z=>?_;simp [q];apply z
 refine wC rfl fun K z=>?_;simp [q];apply z
 apply wN;apply w
 obtain ⟨j6,b1,h⟩:=bS h
 refine O.seqC [] [] (fun v:Unit=>⟨[],[]⟩) (fun v=>j6=Sum.inl v) (fun v hv=>?_) fun K5 b2=>?_
 rotate_left
 ·refine O.zR u fun K w=>?_
  refine wC rfl fun K z=>?_;simp [q];apply z
  apply wN;apply w
  refine O.block ?_
  refine O.loopO [] [0,3,4] [] (fun v:Int=>⟨[(0,.t (vs s1)),(3,.t (.sl true 1 (List.map vs r2))),(4,.t (vi v))],[]⟩) (fS s1 r2) _ 0 b1 (by simp [q]) ?_
  intro g b5 h8 a9
  obtain ⟨i7,hg⟩:∃ y,y=g:=⟨_,rfl⟩
  subst hg
  simp only [fS] at h8
  try dsimp only
  refine O.seq ?_
  refine O.zR u fun K w=>?_
  iterate 4 (refine wC rfl fun K z=>?_;simp [q];apply z)
  apply wN;apply w
  rcases aA h8 with ⟨a4,h8⟩ | ⟨a5,h8⟩
  ·refine O.cT' (by simp) a4 ?_
   refine O.skip ?_
   refine O.seq ?_
   refine O.block ?_
   refine O.zR u fun K w=>?_
   iterate 2 (refine wC rfl fun K z=>?_;simp [q];apply z)
   obtain ⟨b6,a6,h8⟩:=bS h8
   obtain ⟨a0,a1,a2,a3⟩:=gS a6
   iterate 4 (refine wC rfl fun K z=>?_;simp [q,a0,a1,a2,a3];apply z)
   apply wN;apply w
   rcases aA h8 with ⟨a7,h8⟩ | ⟨a8,h8⟩
   ·refine O.cT' (by simp) a7 ?_
    refine O.zR u fun K w=>?_
    refine wC rfl fun K z=>?_;simp [q];apply z
    apply wN;apply w
    have b3:=congrArg some (a9 _ (Option.some.inj h8).symm)
    cases b3
    try dsimp only at h
    cases h
    refine O.ret ?_
    simp [aC,iB,aNa]
   ·refine O.cF' (by simp) a8 ?_
    refine O.skip ?_
    refine O.zG u fun K w=>?_
    iterate 3 (refine wC rfl fun K z=>?_;simp [q];apply z)
    apply wN;apply w
    cases h8
    exact ⟨_,[],rfl,by simp [q]⟩
  ·refine O.cF' (by simp) a5 ?_
   refine O.exit ?_
   have b4:=congrArg some (a9 _ (Option.some.inj h8).symm)
   cases b4
   exact b2 _ _ [] rfl (by simp [q])
 subst hv
 obtain ⟨⟩:=v
 try dsimp only at h ⊢
 refine O.zR u fun K w=>?_
 refine wC rfl fun K z=>?_;simp [q];apply z
 apply wN;apply w
 cases h
 refine O.ret ?_
 simp [aC,iB,aNa]
theorem res121:Tryz.f121.results.toList=[.tmp 2]:=rfl
theorem ent121:aF E.P 121:=eO Tryz.func121 (by simp [Tryz.f121]) rfl
theorem uB (b1:Int) {r0:Bool} (h:gP b1=some r0):Ok E 121 [.val (vk .u8 b1)] [vb r0] []:=by
 refine oB Tryz.func121 rfl (by simp [Tryz.f121]) fun C (q:C.N=9) hP=>?_
 have y:=aL hP
 unfold gP at h
 refine O.zR y fun K u=>?_
 refine wC rfl fun K v=>?_;simp [q];apply v
 apply wN;apply u
 obtain ⟨v6,a2,h⟩:=bS h
 refine O.seqRC rfl (y _ rfl) [2] [] (fun _:Unit=>⟨[(2,.t (vb v6))],[]⟩) (fun _=>True) (fun _ _=>?_) fun K3 a5=>?_
 rotate_left
 ·refine wC rfl fun K v=>?_;simp [q];apply v
  iterate 2 (refine wC rfl fun K v=>?_;simp [q];apply v)
  rcases aA a2 with ⟨a4,a2⟩ | ⟨a3,a2⟩
  ·have a1:=a4
   try simp at a1
   iterate 4 (refine wC rfl fun K v=>?_;simp [q,a4,a1];apply v)
   refine wN ?_
   cases a2
   exact a5 _ () [] trivial (by simp [q,a4,a1])
  ·have a0:=a3
   try simp at a0
   iterate 2 (refine wO fun K v=>?_;simp [q,a3,a0];apply v)
   iterate 2 (refine wC rfl fun K v=>?_;simp [q,a3,a0];apply v)
   refine wN ?_
   cases a2
   exact a5 _ () [] trivial (by simp [q,a3,a0])
 cases h
 refine O.ret ?_
 simp [aC,iB,res121]
theorem aKb:Tryz.f102.results.toList=[.tmp 2]:=rfl
theorem aL1:aF E.P 102:=eO Tryz.func102 (by simp [Tryz.f102]) rfl
theorem nA (s1:ByteArray) {r0:Bool} (h:hO s1=some r0):Ok E 102 [.val (vs s1)] [vb r0] []:=by
 refine oB Tryz.func102 rfl (by simp [Tryz.f102]) fun C (q:C.N=36) hP=>?_
 have u:=aL hP
 unfold hO at h
 refine O.zR u fun K w=>?_
 refine wC rfl fun K z=>?_;simp [q];apply z
 apply wN;apply w
 refine O.seq ?_
 obtain ⟨d9,a9,h⟩:=bS h
 refine O.seqRC rfl (u _ rfl) [0,17] [] (fun _:Unit=>⟨[(0,.t (vs s1)),(17,.t (vb d9))],[]⟩) (fun _=>True) (fun _ _=>?_) fun K3 c4=>?_
 rotate_left
 ·refine wC rfl fun K z=>?_;simp [q];apply z
  refine wC rfl fun K z=>?_;simp [q];apply z
  obtain ⟨r4,e0,a9⟩:=bS a9
  refine wL [(.take,.tmp 5),(.take,.const (.int .i64 1)),(.take,.const (.int .i64 8))] rfl rfl oW (aM _ _ _ e0) fun K z=>?_;simp [q];apply z
  iterate 2 (refine wC rfl fun K z=>?_;simp [q];apply z)
  rcases aA a9 with ⟨c1,a9⟩ | ⟨b5,a9⟩
  ·have b4:=c1
   try simp at b4
   iterate 4 (refine wO fun K z=>?_;simp [q,c1,b4];apply z)
   iterate 2 (refine wC rfl fun K z=>?_;simp [q,c1,b4];apply z)
   iterate 2 (refine wO fun K z=>?_;simp [q,c1,b4];apply z)
   refine wC rfl fun K z=>?_;simp [q,c1,b4];apply z
   refine wN ?_
   cases a9
   exact c4 _ () [] trivial (by simp [q,c1,b4])
  ·have a3:=b5
   try simp at a3
   refine wC rfl fun K z=>?_;simp [q,b5,a3];apply z
   obtain ⟨c8,e1,a9⟩:=bS a9
   obtain ⟨a5,a6,a7⟩:=wT e1
   have a8:0 < s1.size:=by omega
   refine wC rfl fun K z=>?_;simp [q,b5,a3,a5,a6,a7,a8];apply z
   obtain ⟨r9,c5,a9⟩:=bS a9
   refine wL [(.take,.tmp 10)] rfl rfl aNl (nK _ c5) fun K z=>?_;simp [q,b5,a3,a5,a6,a7,a8];apply z
   iterate 3 (refine wC rfl fun K z=>?_;simp [q,b5,a3,a5,a6,a7,a8];apply z)
   rcases aA a9 with ⟨b9,a9⟩ | ⟨b7,a9⟩
   ·have b2:=b9
    try simp at b2
    iterate 2 (refine wO fun K z=>?_;simp [q,b5,a3,a5,a6,a7,a8,b9,b2];apply z)
    refine wC rfl fun K z=>?_;simp [q,b5,a3,a5,a6,a7,a8,b9,b2];apply z
    refine wN ?_
    cases a9
    exact c4 _ () [] trivial (by simp [q,b5,a3,a5,a6,a7,a8,b9,b2])
   ·have b0:=b7
    try simp at b0
    refine wC rfl fun K z=>?_;simp [q,b5,a3,a5,a6,a7,a8,b7,b0];apply z
    obtain ⟨e7,c6,a9⟩:=bS a9
    refine wL [(.take,.tmp 15)] rfl rfl ent120 (yE _ c6) fun K z=>?_;simp [q,b5,a3,a5,a6,a7,a8,b7,b0];apply z
    refine wC rfl fun K z=>?_;simp [q,b5,a3,a5,a6,a7,a8,b7,b0];apply z
    refine wN ?_
    cases a9
    exact c4 _ () [] trivial (by simp [q,b5,a3,a5,a6,a7,a8,b7,b0])
 rcases aA h with ⟨c7,h⟩ | ⟨c9,h⟩
 ·refine O.cT' (by simp) c7 ?_
  refine O.zR u fun K w=>?_
  refine wC rfl fun K z=>?_;simp [q];apply z
  apply wN;apply w
  cases h
  refine O.ret ?_
  simp [aC,iB,aKb]
 ·refine O.cF' (by simp) c9 ?_
  refine O.skip ?_
  obtain ⟨e2,d0,h⟩:=bS h
  refine O.seqC [] [] (fun v:Unit=>⟨[],[]⟩) (fun v=>e2=Sum.inl v) (fun v hv=>?_) fun e8 d1=>?_
  rotate_left
  ·refine O.zR u fun K w=>?_
   refine wC rfl fun K z=>?_;simp [q];apply z
   apply wN;apply w
   refine O.block ?_
   refine O.loopO [] [0,3] [] (fun v:Int=>⟨[(0,.t (vs s1)),(3,.t (vi v))],[]⟩) (fD s1) _ 0 d0 (by simp [q]) ?_
   intro g e9 b6 c2
   obtain ⟨e3,hg⟩:∃ y,y=g:=⟨_,rfl⟩
   subst hg
   simp only [fD] at b6
   try dsimp only
   refine O.seq ?_
   refine O.zR u fun K w=>?_
   iterate 4 (refine wC rfl fun K z=>?_;simp [q];apply z)
   apply wN;apply w
   rcases aA b6 with ⟨d2,b6⟩ | ⟨d3,b6⟩
   ·refine O.cT' (by simp) d2 ?_
    refine O.skip ?_
    refine O.seq ?_
    refine O.block ?_
    obtain ⟨e4,a4,b6⟩:=bS b6
    refine O.seqRC rfl (u _ rfl) [0,3,35] [] (fun _:Unit=>⟨[(0,.t (vs s1)),(3,.t (vi e3)),(35,.t (vb e4))],[]⟩) (fun _=>True) (fun _ _=>?_) fun g0 c3=>?_
    rotate_left
    ·refine wC rfl fun K z=>?_;simp [q];apply z
     refine wC rfl fun K z=>?_;simp [q];apply z
     obtain ⟨g1,d4,a4⟩:=bS a4
     obtain ⟨a0,a1,a2⟩:=wT d4
     refine wC rfl fun K z=>?_;simp [q,a0,a1,a2];apply z
     obtain ⟨g2,d5,a4⟩:=bS a4
     refine wL [(.take,.tmp 26)] rfl rfl aNl (nK _ d5) fun K z=>?_;simp [q,a0,a1,a2];apply z
     iterate 2 (refine wC rfl fun K z=>?_;simp [q,a0,a1,a2];apply z)
     rcases aA a4 with ⟨b8,a4⟩ | ⟨c0,a4⟩
     ·have b1:=b8
      try simp at b1
      iterate 3 (refine wC rfl fun K z=>?_;simp [q,a0,a1,a2,b8,b1];apply z)
      obtain ⟨g3,d6,a4⟩:=bS a4
      refine wL [(.take,.tmp 32)] rfl rfl ent121 (uB _ d6) fun K z=>?_;simp [q,a0,a1,a2,b8,b1];apply z
      iterate 2 (refine wC rfl fun K z=>?_;simp [q,a0,a1,a2,b8,b1];apply z)
      refine wN ?_
      cases a4
      exact c3 _ () [] trivial (by simp [q,a0,a1,a2,b8,b1])
     ·have b3:=c0
      try simp at b3
      iterate 5 (refine wO fun K z=>?_;simp [q,a0,a1,a2,c0,b3];apply z)
      refine wC rfl fun K z=>?_;simp [q,a0,a1,a2,c0,b3];apply z
      refine wN ?_
      cases a4
      exact c3 _ () [] trivial (by simp [q,a0,a1,a2,c0,b3])
    rcases aA b6 with ⟨d7,b6⟩ | ⟨d8,b6⟩
    ·refine O.cT' (by simp) d7 ?_
     refine O.zR u fun K w=>?_
     refine wC rfl fun K z=>?_;simp [q];apply z
     apply wN;apply w
     have e5:=congrArg some (c2 _ (Option.some.inj b6).symm)
     cases e5
     try dsimp only at h
     cases h
     refine O.ret ?_
     simp [aC,iB,aKb]
    ·refine O.cF' (by simp) d8 ?_
     refine O.skip ?_
     refine O.zG u fun K w=>?_
     iterate 3 (refine wC rfl fun K z=>?_;simp [q];apply z)
     apply wN;apply w
     cases b6
     exact ⟨_,[],rfl,by simp [q]⟩
   ·refine O.cF' (by simp) d3 ?_
    refine O.exit ?_
    have e6:=congrArg some (c2 _ (Option.some.inj b6).symm)
    cases e6
    exact d1 _ _ [] rfl (by simp [q])
  subst hv
  obtain ⟨⟩:=v
  try dsimp only at h ⊢
  refine O.zR u fun K w=>?_
  refine wC rfl fun K z=>?_;simp [q];apply z
  apply wN;apply w
  cases h
  refine O.ret ?_
  simp [aC,iB,aKb]
theorem aBe:Tryz.f116.results.toList=[.tmp 2,.tmp 3]:=rfl
theorem ent116:aF E.P 116:=eO Tryz.func116 (by simp [Tryz.f116]) rfl
theorem xX (a2:Int) {r0:Int} {r1:Int} (h:kA a2=some (r0,r1)):Ok E 116 [.val (vi a2)] [vi r0,vi r1] []:=by
 refine oB Tryz.func116 rfl (by simp [Tryz.f116]) fun C (q:C.N=23) hP=>?_
 have y:=aL hP
 unfold kA at h
 refine O.zR y fun K u=>?_
 iterate 2 (refine wC rfl fun K v=>?_;simp [q];apply v)
 apply wN;apply u
 refine O.seq ?_
 refine O.zR y fun K u=>?_
 refine wC rfl fun K v=>?_;simp [q];apply v
 apply wN;apply u
 refine O.block ?_
 obtain ⟨c6,a1,h⟩:=bS h
 refine O.seqC [4,5] [] (fun _:Unit=>⟨[(4,.t (vi a2)),(5,.t (vb c6))],[]⟩) (fun _=>True) (fun _ _=>?_) fun K3 a4=>?_
 rotate_left
 ·refine O.zR y fun K u=>?_
  iterate 2 (refine wC rfl fun K v=>?_;simp [q];apply v)
  apply wN;apply u
  rcases aA a1 with ⟨c7,a1⟩ | ⟨c8,a1⟩
  ·refine O.cT' (by simp) c7 ?_
   refine O.skip ?_
   cases a1
   exact a4 _ () [] trivial (by simp [q])
  ·refine O.cF' (by simp) c8 ?_
   refine O.zR y fun K u=>?_
   iterate 2 (refine wC rfl fun K v=>?_;simp [q];apply v)
   apply wN;apply u
   rcases aA a1 with ⟨c9,a1⟩ | ⟨d0,a1⟩
   ·refine O.cT' (by simp) c9 ?_
    refine O.skip ?_
    cases a1
    exact a4 _ () [] trivial (by simp [q])
   ·refine O.cF' (by simp) d0 ?_
    refine O.zR y fun K u=>?_
    iterate 2 (refine wC rfl fun K v=>?_;simp [q];apply v)
    apply wN;apply u
    rcases aA a1 with ⟨d1,a1⟩ | ⟨a5,a1⟩
    ·refine O.cT' (by simp) d1 ?_
     refine O.skip ?_
     cases a1
     exact a4 _ () [] trivial (by simp [q])
    ·refine O.cF' (by simp) a5 ?_
     refine O.zR y fun K u=>?_
     iterate 2 (refine wC rfl fun K v=>?_;simp [q];apply v)
     apply wN;apply u
     rcases aA a1 with ⟨a6,a1⟩ | ⟨a7,a1⟩
     ·refine O.cT' (by simp) a6 ?_
      refine O.skip ?_
      cases a1
      exact a4 _ () [] trivial (by simp [q])
     ·refine O.cF' (by simp) a7 ?_
      refine O.zR y fun K u=>?_
      iterate 2 (refine wC rfl fun K v=>?_;simp [q];apply v)
      apply wN;apply u
      rcases aA a1 with ⟨a8,a1⟩ | ⟨a9,a1⟩
      ·refine O.cT' (by simp) a8 ?_
       refine O.skip ?_
       cases a1
       exact a4 _ () [] trivial (by simp [q])
      ·refine O.cF' (by simp) a9 ?_
       refine O.zG y fun K u=>?_
       iterate 2 (refine wC rfl fun K v=>?_;simp [q];apply v)
       apply wN;apply u
       cases a1
       exact a4 _ () [] trivial (by simp [q])
 rcases aA h with ⟨b0,h⟩ | ⟨b1,h⟩
 ·refine O.cT' (by simp) b0 ?_
  refine O.zR y fun K u=>?_
  iterate 2 (refine wC rfl fun K v=>?_;simp [q];apply v)
  apply wN;apply u
  cases h
  refine O.ret ?_
  simp [aC,iB,aBe]
 ·refine O.cF' (by simp) b1 ?_
  obtain ⟨d2,a0,h⟩:=bS h
  refine O.seqC [4,12] [] (fun _:Unit=>⟨[(4,.t (vi a2)),(12,.t (vb d2))],[]⟩) (fun _=>True) (fun _ _=>?_) fun d3 a3=>?_
  rotate_left
  ·refine O.zR y fun K u=>?_
   iterate 2 (refine wC rfl fun K v=>?_;simp [q];apply v)
   apply wN;apply u
   rcases aA a0 with ⟨b2,a0⟩ | ⟨b3,a0⟩
   ·refine O.cT' (by simp) b2 ?_
    refine O.skip ?_
    cases a0
    exact a3 _ () [] trivial (by simp [q])
   ·refine O.cF' (by simp) b3 ?_
    refine O.zR y fun K u=>?_
    iterate 2 (refine wC rfl fun K v=>?_;simp [q];apply v)
    apply wN;apply u
    rcases aA a0 with ⟨b4,a0⟩ | ⟨b5,a0⟩
    ·refine O.cT' (by simp) b4 ?_
     refine O.skip ?_
     cases a0
     exact a3 _ () [] trivial (by simp [q])
    ·refine O.cF' (by simp) b5 ?_
     refine O.zR y fun K u=>?_
     iterate 2 (refine wC rfl fun K v=>?_;simp [q];apply v)
     apply wN;apply u
     rcases aA a0 with ⟨b6,a0⟩ | ⟨b7,a0⟩
     ·refine O.cT' (by simp) b6 ?_
      refine O.skip ?_
      cases a0
      exact a3 _ () [] trivial (by simp [q])
     ·refine O.cF' (by simp) b7 ?_
      refine O.zG y fun K u=>?_
      iterate 2 (refine wC rfl fun K v=>?_;simp [q];apply v)
      apply wN;apply u
      cases a0
      exact a3 _ () [] trivial (by simp [q])
  rcases aA h with ⟨b8,h⟩ | ⟨b9,h⟩
  ·refine O.cT' (by simp) b8 ?_
   refine O.zR y fun K u=>?_
   iterate 2 (refine wC rfl fun K v=>?_;simp [q];apply v)
   apply wN;apply u
   cases h
   refine O.ret ?_
   simp [aC,iB,aBe]
  ·refine O.cF' (by simp) b9 ?_
   refine O.zR y fun K u=>?_
   iterate 2 (refine wC rfl fun K v=>?_;simp [q];apply v)
   apply wN;apply u
   rcases aA h with ⟨c0,h⟩ | ⟨c1,h⟩
   ·refine O.cT' (by simp) c0 ?_
    refine O.zR y fun K u=>?_
    iterate 2 (refine wC rfl fun K v=>?_;simp [q];apply v)
    apply wN;apply u
    cases h
    refine O.ret ?_
    simp [aC,iB,aBe]
   ·refine O.cF' (by simp) c1 ?_
    refine O.zR y fun K u=>?_
    iterate 2 (refine wC rfl fun K v=>?_;simp [q];apply v)
    apply wN;apply u
    rcases aA h with ⟨c2,h⟩ | ⟨c3,h⟩
    ·refine O.cT' (by simp) c2 ?_
     refine O.zR y fun K u=>?_
     iterate 2 (refine wC rfl fun K v=>?_;simp [q];apply v)
     apply wN;apply u
     cases h
     refine O.ret ?_
     simp [aC,iB,aBe]
    ·refine O.cF' (by simp) c3 ?_
     refine O.zR y fun K u=>?_
     iterate 2 (refine wC rfl fun K v=>?_;simp [q];apply v)
     apply wN;apply u
     rcases aA h with ⟨c4,h⟩ | ⟨c5,h⟩
     ·refine O.cT' (by simp) c4 ?_
      refine O.zR y fun K u=>?_
      iterate 2 (refine wC rfl fun K v=>?_;simp [q];apply v)
      apply wN;apply u
      cases h
      refine O.ret ?_
      simp [aC,iB,aBe]
     ·refine O.cF' (by simp) c5 ?_
      refine O.skip ?_
      refine O.zR y fun K u=>?_
      iterate 2 (refine wC rfl fun K v=>?_;simp [q];apply v)
      apply wN;apply u
      cases h
      refine O.ret ?_
      simp [aC,iB,aBe]
theorem aNb:Tryz.f117.results.toList=[.tmp 2]:=rfl
theorem ent117:aF E.P 117:=eO Tryz.func117 (by simp [Tryz.f117]) rfl
theorem vU (a2:Int) {r0:Bool} (h:iS a2=some r0):Ok E 117 [.val (vi a2)] [vb r0] []:=by
 refine oB Tryz.func117 rfl (by simp [Tryz.f117]) fun C (q:C.N=14) hP=>?_
 have y:=aL hP
 unfold iS at h
 refine O.zR y fun K u=>?_
 refine wC rfl fun K v=>?_;simp [q];apply v
 apply wN;apply u
 refine O.seq ?_
 refine O.zR y fun K u=>?_
 refine wC rfl fun K v=>?_;simp [q];apply v
 apply wN;apply u
 refine O.block ?_
 obtain ⟨b6,a0,h⟩:=bS h
 refine O.seqC [4] [] (fun _:Unit=>⟨[(4,.t (vb b6))],[]⟩) (fun _=>True) (fun _ _=>?_) fun K3 a1=>?_
 rotate_left
 ·refine O.zR y fun K u=>?_
  iterate 2 (refine wC rfl fun K v=>?_;simp [q];apply v)
  apply wN;apply u
  rcases aA a0 with ⟨b7,a0⟩ | ⟨b8,a0⟩
  ·refine O.cT' (by simp) b7 ?_
   refine O.skip ?_
   cases a0
   exact a1 _ () [] trivial (by simp [q])
  ·refine O.cF' (by simp) b8 ?_
   refine O.zR y fun K u=>?_
   iterate 2 (refine wC rfl fun K v=>?_;simp [q];apply v)
   apply wN;apply u
   rcases aA a0 with ⟨b9,a0⟩ | ⟨c0,a0⟩
   ·refine O.cT' (by simp) b9 ?_
    refine O.skip ?_
    cases a0
    exact a1 _ () [] trivial (by simp [q])
   ·refine O.cF' (by simp) c0 ?_
    refine O.zR y fun K u=>?_
    iterate 2 (refine wC rfl fun K v=>?_;simp [q];apply v)
    apply wN;apply u
    rcases aA a0 with ⟨c1,a0⟩ | ⟨a3,a0⟩
    ·refine O.cT' (by simp) c1 ?_
     refine O.skip ?_
     cases a0
     exact a1 _ () [] trivial (by simp [q])
    ·refine O.cF' (by simp) a3 ?_
     refine O.zR y fun K u=>?_
     iterate 2 (refine wC rfl fun K v=>?_;simp [q];apply v)
     apply wN;apply u
     rcases aA a0 with ⟨a4,a0⟩ | ⟨a5,a0⟩
     ·refine O.cT' (by simp) a4 ?_
      refine O.skip ?_
      cases a0
      exact a1 _ () [] trivial (by simp [q])
     ·refine O.cF' (by simp) a5 ?_
      refine O.zR y fun K u=>?_
      iterate 2 (refine wC rfl fun K v=>?_;simp [q];apply v)
      apply wN;apply u
      rcases aA a0 with ⟨a6,a0⟩ | ⟨a7,a0⟩
      ·refine O.cT' (by simp) a6 ?_
       refine O.skip ?_
       cases a0
       exact a1 _ () [] trivial (by simp [q])
      ·refine O.cF' (by simp) a7 ?_
       refine O.zR y fun K u=>?_
       iterate 2 (refine wC rfl fun K v=>?_;simp [q];apply v)
       apply wN;apply u
       rcases aA a0 with ⟨a8,a0⟩ | ⟨a9,a0⟩
       ·refine O.cT' (by simp) a8 ?_
        refine O.skip ?_
        cases a0
        exact a1 _ () [] trivial (by simp [q])
       ·refine O.cF' (by simp) a9 ?_
        refine O.zR y fun K u=>?_
        iterate 2 (refine wC rfl fun K v=>?_;simp [q];apply v)
        apply wN;apply u
        rcases aA a0 with ⟨b0,a0⟩ | ⟨b1,a0⟩
        ·refine O.cT' (by simp) b0 ?_
         refine O.skip ?_
         cases a0
         exact a1 _ () [] trivial (by simp [q])
        ·refine O.cF' (by simp) b1 ?_
         refine O.zR y fun K u=>?_
         iterate 2 (refine wC rfl fun K v=>?_;simp [q];apply v)
         apply wN;apply u
         rcases aA a0 with ⟨b2,a0⟩ | ⟨b3,a0⟩
         ·refine O.cT' (by simp) b2 ?_
          refine O.skip ?_
          cases a0
          exact a1 _ () [] trivial (by simp [q])
         ·refine O.cF' (by simp) b3 ?_
          refine O.zG y fun K u=>?_
          iterate 2 (refine wC rfl fun K v=>?_;simp [q];apply v)
          apply wN;apply u
          cases a0
          exact a1 _ () [] trivial (by simp [q])
 rcases aA h with ⟨b4,h⟩ | ⟨b5,h⟩
 ·refine O.cT' (by simp) b4 ?_
  refine O.zR y fun K u=>?_
  refine wC rfl fun K v=>?_;simp [q];apply v
  apply wN;apply u
  cases h
  refine O.ret ?_
  simp [aC,iB,aNb]
 ·refine O.cF' (by simp) b5 ?_
  refine O.skip ?_
  refine O.zR y fun K u=>?_
  refine wC rfl fun K v=>?_;simp [q];apply v
  apply wN;apply u
  cases h
  refine O.ret ?_
  simp [aC,iB,aNb]
theorem res103:Tryz.f103.results.toList=[.tmp 2]:=rfl
theorem aL0:aF E.P 103:=eO Tryz.func103 (by simp [Tryz.f103]) rfl
theorem kW (a0:Int) {r0:Bool} (h:eS a0=some r0):Ok E 103 [.val (vi a0)] [vb r0] []:=by
 refine oB Tryz.func103 rfl (by simp [Tryz.f103]) fun C (q:C.N=5) hP=>?_
 have y:=aL hP
 unfold eS at h
 refine O.zR y fun K u=>?_
 refine wC rfl fun K v=>?_;simp [q];apply v
 apply wN;apply u
 refine O.zR y fun K u=>?_
 refine wC rfl fun K v=>?_;simp [q];apply v
 obtain ⟨r2,a1,h⟩:=bS h
 refine wL [(.take,.tmp 3),(.take,.const (.int .i64 1)),(.take,.const (.int .i64 12))] rfl rfl oW (aM _ _ _ a1) fun K v=>?_;simp [q];apply v
 refine wC rfl fun K v=>?_;simp [q];apply v
 apply wN;apply u
 cases h
 refine O.ret ?_
 simp [aC,iB,res103]
theorem res131:Tryz.f131.results.toList=[.tmp 2]:=rfl
theorem ent131:aF E.P 131:=eO Tryz.func131 (by simp [Tryz.f131]) rfl
theorem qY (a0:Int) {r0:Bool} (h:eH a0=some r0):Ok E 131 [.val (vi a0)] [vb r0] []:=by
 refine oB Tryz.func131 rfl (by simp [Tryz.f131]) fun C (q:C.N=5) hP=>?_
 have y:=aL hP
 unfold eH at h
 refine O.zR y fun K u=>?_
 refine wC rfl fun K v=>?_;simp [q];apply v
 apply wN;apply u
 refine O.zR y fun K u=>?_
 refine wC rfl fun K v=>?_;simp [q];apply v
 obtain ⟨r2,a1,h⟩:=bS h
 refine wL [(.take,.tmp 3),(.take,.const (.int .i64 13)),(.take,.const (.int .i64 19))] rfl rfl oW (aM _ _ _ a1) fun K v=>?_;simp [q];apply v
 refine wC rfl fun K v=>?_;simp [q];apply v
 apply wN;apply u
 cases h
 refine O.ret ?_
 simp [aC,iB,res131]
theorem aDy:Tryz.f118.results.toList=[.tmp 6]:=rfl
theorem ent118:aF E.P 118:=eO Tryz.func118 (by simp [Tryz.f118]) rfl
theorem xZ (a0:Int) (a3:Int) (a1:Int) {r0:Bool} (h:kB a0 a3 a1=some r0):Ok E 118 [.val (vi a0),.val (vi a3),.val (vi a1)] [vb r0] []:=by
 refine oB Tryz.func118 rfl (by simp [Tryz.f118]) fun C (q:C.N=25) hP=>?_
 have y:=aL hP
 unfold kB at h
 refine O.zR y fun K u=>?_
 refine wC rfl fun K v=>?_;simp [q];apply v
 apply wN;apply u
 refine O.seq ?_
 refine O.zR y fun K u=>?_
 refine wC rfl fun K v=>?_;simp [q];apply v
 apply wN;apply u
 refine O.block ?_
 refine O.zR y fun K u=>?_
 iterate 2 (refine wC rfl fun K v=>?_;simp [q];apply v)
 apply wN;apply u
 rcases aA h with ⟨b5,h⟩ | ⟨b6,h⟩
 ·refine O.cT' (by simp) b5 ?_
  refine O.zR y fun K u=>?_
  refine wC rfl fun K v=>?_;simp [q];apply v
  obtain ⟨r6,b7,h⟩:=bS h
  refine wL [(.take,.tmp 10)] rfl rfl ent131 (qY _ b7) fun K v=>?_;simp [q];apply v
  refine wC rfl fun K v=>?_;simp [q];apply v
  apply wN;apply u
  cases h
  refine O.ret ?_
  simp [aC,iB,aDy]
 ·refine O.cF' (by simp) b6 ?_
  obtain ⟨b8,a2,h⟩:=bS h
  refine O.seqC [1,2,7,12] [] (fun _:Unit=>⟨[(1,.t (vi a3)),(2,.t (vi a1)),(7,.t (vi a0)),(12,.t (vb b8))],[]⟩) (fun _=>True) (fun _ _=>?_) fun K9 b4=>?_
  rotate_left
  ·refine O.zR y fun K u=>?_
   iterate 2 (refine wC rfl fun K v=>?_;simp [q];apply v)
   apply wN;apply u
   rcases aA a2 with ⟨a4,a2⟩ | ⟨a5,a2⟩
   ·refine O.cT' (by simp) a4 ?_
    refine O.skip ?_
    cases a2
    exact b4 _ () [] trivial (by simp [q])
   ·refine O.cF' (by simp) a5 ?_
    refine O.zG y fun K u=>?_
    iterate 2 (refine wC rfl fun K v=>?_;simp [q];apply v)
    apply wN;apply u
    cases a2
    exact b4 _ () [] trivial (by simp [q])
  rcases aA h with ⟨a6,h⟩ | ⟨a7,h⟩
  ·refine O.cT' (by simp) a6 ?_
   refine O.zR y fun K u=>?_
   iterate 2 (refine wC rfl fun K v=>?_;simp [q];apply v)
   apply wN;apply u
   rcases aA h with ⟨a8,h⟩ | ⟨a9,h⟩
   ·refine O.cT' (by simp) a8 ?_
    refine O.zR y fun K u=>?_
    iterate 3 (refine wC rfl fun K v=>?_;simp [q];apply v)
    apply wN;apply u
    cases h
    refine O.ret ?_
    simp [aC,iB,aDy]
   ·refine O.cF' (by simp) a9 ?_
    refine O.skip ?_
    refine O.zR y fun K u=>?_
    refine wC rfl fun K v=>?_;simp [q];apply v
    obtain ⟨b9,b0,h⟩:=bS h
    refine wL [(.take,.tmp 23)] rfl rfl aL0 (kW _ b0) fun K v=>?_;simp [q];apply v
    refine wC rfl fun K v=>?_;simp [q];apply v
    apply wN;apply u
    cases h
    refine O.ret ?_
    simp [aC,iB,aDy]
  ·refine O.cF' (by simp) a7 ?_
   refine O.zR y fun K u=>?_
   iterate 2 (refine wC rfl fun K v=>?_;simp [q];apply v)
   apply wN;apply u
   rcases aA h with ⟨b1,h⟩ | ⟨b2,h⟩
   ·refine O.cT' (by simp) b1 ?_
    refine O.zR y fun K u=>?_
    iterate 3 (refine wC rfl fun K v=>?_;simp [q];apply v)
    apply wN;apply u
    cases h
    refine O.ret ?_
    simp [aC,iB,aDy]
   ·refine O.cF' (by simp) b2 ?_
    refine O.skip ?_
    refine O.zR y fun K u=>?_
    refine wC rfl fun K v=>?_;simp [q];apply v
    obtain ⟨c0,b3,h⟩:=bS h
    refine wL [(.take,.tmp 23)] rfl rfl aL0 (kW _ b3) fun K v=>?_;simp [q];apply v
    refine wC rfl fun K v=>?_;simp [q];apply v
    apply wN;apply u
    cases h
    refine O.ret ?_
    simp [aC,iB,aDy]
theorem aBf:Tryz.f101.results.toList=[.tmp 4]:=rfl
theorem ent101:aF E.P 101:=eO Tryz.func101 (by simp [Tryz.f101]) rfl
theorem aAd (a4:List GNode) (k2:Int) {r0:Bool} (h:lR a4 k2=some r0):Ok E 101 [.val (.sl false 4 (List.map (GNode.enc false) a4)),.val (vi k2)] [vb r0] []:=by
 refine oB Tryz.func101 rfl (by simp [Tryz.f101]) fun C (q:C.N=124) hP=>?_
 have u:=aL hP
 unfold lR at h
 refine O.zR u fun K w=>?_
 refine wC rfl fun K r=>?_;simp [q];apply r
 apply wN;apply w
 refine O.seq ?_
 obtain ⟨l5,d4,h⟩:=bS h
 refine O.seqRC rfl (u _ rfl) [0,1,24] [] (fun _:Unit=>⟨[(0,.t (.sl false 4 (List.map (GNode.enc false) a4))),(1,.t (vi k2)),(24,.t (vb l5))],[]⟩) (fun _=>True) (fun _ _=>?_) fun K4 l2=>?_
 rotate_left
 ·refine wC rfl fun K r=>?_;simp [q];apply r
  iterate 3 (refine wC rfl fun K r=>?_;simp [q];apply r)
  obtain ⟨r5,l6,d4⟩:=bS d4
  refine wL [(.take,.tmp 10),(.take,.const (.int .i64 0)),(.take,.tmp 13)] rfl rfl oW (aM _ _ _ l6) fun K r=>?_;simp [q];apply r
  iterate 2 (refine wC rfl fun K r=>?_;simp [q];apply r)
  rcases aA d4 with ⟨i1,d4⟩ | ⟨h1,d4⟩
  ·have e5:=i1
   try simp at e5
   iterate 7 (refine wO fun K r=>?_;simp [q,i1,e5];apply r)
   refine wC rfl fun K r=>?_;simp [q,i1,e5];apply r
   refine wN ?_
   cases d4
   exact l2 _ () [] trivial (by simp [q,i1,e5])
  ·have d1:=h1
   try simp at d1
   iterate 2 (refine wC rfl fun K r=>?_;simp [q,h1,d1];apply r)
   obtain ⟨e9,l7,d4⟩:=bS d4
   obtain ⟨e6,e7,e8,g0⟩:=gS l7
   iterate 3 (refine wC rfl fun K r=>?_;simp [q,h1,d1,e6,e7,e8,g0];apply r)
   obtain ⟨n0,i2,d4⟩:=bS d4
   refine wL [(.take,.tmp 21),(.take,.const (.int .i64 1)),(.take,.const (.int .i64 20))] rfl rfl oW (aM _ _ _ i2) fun K r=>?_;simp [q,h1,d1,e6,e7,e8,g0];apply r
   iterate 2 (refine wC rfl fun K r=>?_;simp [q,h1,d1,e6,e7,e8,g0];apply r)
   refine wN ?_
   cases d4
   exact l2 _ () [] trivial (by simp [q,h1,d1,e6,e7,e8,g0])
 rcases aA h with ⟨i3,h⟩ | ⟨i4,h⟩
 ·refine O.cT' (by simp) i3 ?_
  refine O.zR u fun K w=>?_
  refine wC rfl fun K r=>?_;simp [q];apply r
  apply wN;apply w
  cases h
  refine O.ret ?_
  simp [aC,iB,aBf]
 ·refine O.cF' (by simp) i4 ?_
  refine O.skip ?_
  refine O.zR u fun K w=>?_
  iterate 2 (refine wC rfl fun K r=>?_;simp [q];apply r)
  obtain ⟨a6,i5,h⟩:=bS h
  obtain ⟨h4,h5,h6,h7⟩:=gS i5
  iterate 4 (refine wC rfl fun K r=>?_;simp [q,h4,h5,h6,h7];apply r)
  apply wN;apply w
  refine O.zR u fun K w=>?_
  iterate 2 (refine wC rfl fun K r=>?_;simp [q];apply r)
  obtain ⟨⟨n1,n2⟩,i6,h⟩:=bS h
  try dsimp only at h
  refine wL [(.take,.tmp 31)] rfl rfl ent116 (xX _ i6) fun K r=>?_;simp [q];apply r
  iterate 5 (refine wC rfl fun K r=>?_;simp [q];apply r)
  apply wN;apply w
  refine O.seq ?_
  obtain ⟨l8,a7,h⟩:=bS h
  refine O.seqRC rfl (u _ rfl) [0,1,5,57] [5] (fun _:Unit=>⟨[(0,.t (.sl false 4 (List.map (GNode.enc false) a4))),(1,.t (vi k2)),(5,.ref (.box 5) 0 []),(57,.t (vb l8))],[(5,[vi a6.Kind,vi a6.Num,vs a6.Name,.sl false 1 (List.map vi a6.Kids)])]⟩) (fun _=>True) (fun _ _=>?_) fun n3 g1=>?_
  rotate_left
  ·refine wC rfl fun K r=>?_;simp [q];apply r
   iterate 4 (refine wC rfl fun K r=>?_;simp [q];apply r)
   obtain ⟨n4,i7,a7⟩:=bS a7
   refine wL [(.take,.tmp 37),(.take,.tmp 38),(.take,.tmp 39)] rfl rfl oW (aM _ _ _ i7) fun K r=>?_;simp [q];apply r
   iterate 2 (refine wC rfl fun K r=>?_;simp [q];apply r)
   rcases aA a7 with ⟨d2,a7⟩ | ⟨b0,a7⟩
   ·have c0:=d2
    try simp at c0
    iterate 4 (refine wO fun K r=>?_;simp [q,d2,c0];apply r)
    iterate 2 (refine wC rfl fun K r=>?_;simp [q,d2,c0];apply r)
    iterate 8 (refine wO fun K r=>?_;simp [q,d2,c0];apply r)
    refine wC rfl fun K r=>?_;simp [q,d2,c0];apply r
    refine wN ?_
    cases a7
    exact g1 _ () [] trivial (by simp [q,d2,c0])
   ·have a5:=b0
    try simp at a5
    iterate 2 (refine wC rfl fun K r=>?_;simp [q,b0,a5];apply r)
    obtain ⟨n5,i8,a7⟩:=bS a7
    refine wL [(.take,.tmp 44),(.take,.const (.int .i64 0)),(.take,.const (.int .i64 1000000000))] rfl rfl oW (aM _ _ _ i8) fun K r=>?_;simp [q,b0,a5];apply r
    iterate 3 (refine wC rfl fun K r=>?_;simp [q,b0,a5];apply r)
    rcases aA a7 with ⟨g2,a7⟩ | ⟨c4,a7⟩
    ·have c6:=g2
     try simp at c6
     iterate 8 (refine wO fun K r=>?_;simp [q,b0,a5,g2,c6];apply r)
     refine wC rfl fun K r=>?_;simp [q,b0,a5,g2,c6];apply r
     refine wN ?_
     cases a7
     exact g1 _ () [] trivial (by simp [q,b0,a5,g2,c6])
    ·have b4:=c4
     try simp at b4
     iterate 4 (refine wC rfl fun K r=>?_;simp [q,b0,a5,c4,b4];apply r)
     rcases aA a7 with ⟨g8,a7⟩ | ⟨g3,a7⟩
     ·have d5:=g8
      try simp at d5
      iterate 5 (refine wC rfl fun K r=>?_;simp [q,b0,a5,c4,b4,g8,d5];apply r)
      refine wN ?_
      cases a7
      exact g1 _ () [] trivial (by simp [q,b0,a5,c4,b4,g8,d5])
     ·have c7:=g3
      try simp at c7
      iterate 3 (refine wO fun K r=>?_;simp [q,b0,a5,c4,b4,g3,c7];apply r)
      iterate 2 (refine wC rfl fun K r=>?_;simp [q,b0,a5,c4,b4,g3,c7];apply r)
      refine wN ?_
      cases a7
      exact g1 _ () [] trivial (by simp [q,b0,a5,c4,b4,g3,c7])
  rcases aA h with ⟨i9,h⟩ | ⟨j0,h⟩
  ·refine O.cT' (by simp) i9 ?_
   refine O.zR u fun K w=>?_
   refine wC rfl fun K r=>?_;simp [q];apply r
   apply wN;apply w
   cases h
   refine O.ret ?_
   simp [aC,iB,aBf]
  ·refine O.cF' (by simp) j0 ?_
   refine O.skip ?_
   refine O.seq ?_
   obtain ⟨l9,b1,h⟩:=bS h
   refine O.seqC [0,1,5,75] [5] (fun _:Unit=>⟨[(0,.t (.sl false 4 (List.map (GNode.enc false) a4))),(1,.t (vi k2)),(5,.ref (.box 5) 0 []),(75,.t (vb l9))],[(5,[vi a6.Kind,vi a6.Num,vs a6.Name,.sl false 1 (List.map vi a6.Kids)])]⟩) (fun _=>True) (fun _ _=>?_) fun n6 g9=>?_
   rotate_left
   ·obtain ⟨m0,j1,b1⟩:=bS b1
    refine O.dT rfl (u _ rfl) [(58,.ref (.box 5) 0 []),(59,.t (vi a6.Kind)),(60,.t (vb m0)),(61,.ref (.box 5) 2 []),(62,.t (vs a6.Name)),(63,.t (vb (!(sEq a6.Name (⟨#[]⟩:ByteArray)))))] [[],[0],[0,1],[],[3],[3,4],[0,1,2,3,4,5],[0,1,2,3,4,5,6],[0,1,2,3,4,5,6,7],[0,1,2,3,4,5,6,7,8],[0,1,2,3,4,5,6,7,8,9],[0,1,2,3,4,5,6,7,8,9,10],[0,1,2,3,4,5,6,7,8,9,10,11],[0,1,2,3,4,5,6,7,8,9,10,11,12],[0,1,2,3,4,5,6,7,8,9,10,11,12,13],[0,1,2,3,4,5,6,7,8,9,10,11,12,13,14],[0,1,2,3,4,5,6,7,8,9,10,11,12,13,14,15],[0,1,2,3,4,5,6,7,8,9,10,11,12,13,14,15,16]] (by simp) (by simp) (by simp [look]) rfl rfl rfl ?_ fun K w=>?_
    ·refine ⟨?_,?_,?_,?_,?_,?_,trivial⟩
     all_goals (intro τ hbx hb hd hf K w;try simp [aJ] at hd;simp [aJ] at hf;first | (refine wC rfl fun K' z=>?_;simp [q,hbx,hb,hd,hf];exact z _ (wN (w _ (by simp [aJ,hbx])))) | (refine wL [(.take,.tmp 59)] rfl rfl ent117 (vU _ j1) fun K' z=>?_;simp [q,hbx,hb,hd,hf];exact z _ (wN (w _ (by simp [aJ,hbx])))))
    iterate 2 (refine wC rfl fun K r=>?_;simp [q];apply r)
    rcases aA b1 with ⟨g4,b1⟩ | ⟨c1,b1⟩
    ·have c8:=g4
     try simp at c8
     iterate 9 (refine wO fun K r=>?_;simp [q,g4,c8];apply r)
     refine wC rfl fun K r=>?_;simp [q,g4,c8];apply r
     apply wN;apply w
     cases b1
     exact g9 _ () [] trivial (by simp [q,g4,c8])
    ·have a9:=c1
     try simp at a9
     iterate 4 (refine wC rfl fun K r=>?_;simp [q,c1,a9];apply r)
     rcases aA b1 with ⟨d6,b1⟩ | ⟨g5,b1⟩
     ·have c2:=d6
      try simp at c2
      iterate 2 (refine wC rfl fun K r=>?_;simp [q,c1,a9,d6,c2];apply r)
      obtain ⟨n7,j2,b1⟩:=bS b1
      refine wL [(.take,.tmp 71)] rfl rfl aL1 (nA _ j2) fun K r=>?_;simp [q,c1,a9,d6,c2];apply r
      iterate 3 (refine wC rfl fun K r=>?_;simp [q,c1,a9,d6,c2];apply r)
      apply wN;apply w
      cases b1
      exact g9 _ () [] trivial (by simp [q,c1,a9,d6,c2])
     ·have c9:=g5
      try simp at c9
      iterate 4 (refine wO fun K r=>?_;simp [q,c1,a9,g5,c9];apply r)
      iterate 2 (refine wC rfl fun K r=>?_;simp [q,c1,a9,g5,c9];apply r)
      apply wN;apply w
      cases b1
      exact g9 _ () [] trivial (by simp [q,c1,a9,g5,c9])
   rcases aA h with ⟨j3,h⟩ | ⟨j4,h⟩
   ·refine O.cT' (by simp) j3 ?_
    refine O.zR u fun K w=>?_
    refine wC rfl fun K r=>?_;simp [q];apply r
    apply wN;apply w
    cases h
    refine O.ret ?_
    simp [aC,iB,aBf]
   ·refine O.cF' (by simp) j4 ?_
    refine O.skip ?_
    obtain ⟨m1,j5,h⟩:=bS h
    refine O.seqC [] [] (fun v:Unit=>⟨[],[]⟩) (fun v=>m1=Sum.inl v) (fun v hv=>?_) fun n8 j6=>?_
    rotate_left
    ·refine O.zR u fun K w=>?_
     refine wC rfl fun K r=>?_;simp [q];apply r
     apply wN;apply w
     refine O.block ?_
     refine O.loopO [] [0,1,5,8] [5] (fun v:Int=>⟨[(0,.t (.sl false 4 (List.map (GNode.enc false) a4))),(1,.t (vi k2)),(5,.ref (.box 5) 0 []),(8,.t (vi v))],[(5,[vi a6.Kind,vi a6.Num,vs a6.Name,.sl false 1 (List.map vi a6.Kids)])]⟩) (fC a4 k2 a6) _ 0 j5 (by simp [q]) ?_
     intro g n9 d3 h0
     obtain ⟨g6,hg⟩:∃ y,y=g:=⟨_,rfl⟩
     subst hg
     simp only [fC] at d3
     try dsimp only
     refine O.seq ?_
     refine O.zR u fun K w=>?_
     iterate 5 (refine wC rfl fun K r=>?_;simp [q];apply r)
     apply wN;apply w
     rcases aA d3 with ⟨j7,d3⟩ | ⟨j8,d3⟩
     ·refine O.cT' (by simp) j7 ?_
      refine O.skip ?_
      obtain ⟨m2,c5,d3⟩:=bS d3
      refine O.seqC [0,1,5,8] [5] (fun v:Unit=>⟨[(0,.t (.sl false 4 (List.map (GNode.enc false) a4))),(1,.t (vi k2)),(5,.ref (.box 5) 0 []),(8,.t (vi g6))],[(5,[vi a6.Kind,vi a6.Num,vs a6.Name,.sl false 1 (List.map vi a6.Kids)])]⟩) (fun v=>m2=Sum.inl v) (fun v hv=>?_) fun o0 j9=>?_
      rotate_left
      ·refine O.block ?_
       refine O.seq ?_
       obtain ⟨m3,b2,c5⟩:=bS c5
       refine O.seqC [0,1,5,8,107] [5] (fun _:Unit=>⟨[(0,.t (.sl false 4 (List.map (GNode.enc false) a4))),(1,.t (vi k2)),(5,.ref (.box 5) 0 []),(8,.t (vi g6)),(107,.t (vb m3))],[(5,[vi a6.Kind,vi a6.Num,vs a6.Name,.sl false 1 (List.map vi a6.Kids)])]⟩) (fun _=>True) (fun _ _=>?_) fun o1 h8=>?_
       rotate_left
       ·obtain ⟨h2,k0,b2⟩:=bS b2
        obtain ⟨a0,a1,a2,a3⟩:=gS k0
        obtain ⟨h3,h9,b2⟩:=bS b2
        rcases aA b2 with ⟨b9,b2⟩ | ⟨c3,b2⟩
        ·have a8:=b9
         try simp at a8
         refine O.dT rfl (u _ rfl) [(83,.ref (.box 5) 3 []),(84,.t (.sl false 1 (List.map vi a6.Kids))),(85,.t (vi g6)),(86,.rop [vi h2] 0),(87,.t (vi h2)),(88,.t (vi k2)),(89,.t (vi (IntKind.wrap .i64 (k2 - 1)))),(90,.t (vb h3)),(91,.t (vb (!h3))),(92,.t (vb (!h3))),(93,.tup []),(94,.tup []),(95,.tup []),(96,.tup []),(97,.tup []),(98,.tup []),(99,.tup []),(100,.tup []),(101,.tup []),(102,.tup []),(103,.tup []),(104,.tup [])] [[],[0],[],[0,1,2],[0,1,2,3],[],[5],[0,1,2,3,4,5,6],[0,1,2,3,4,5,6,7],[0,1,2,3,4,5,6,7,8],[0,1,2,3,4,5,6,7,8,9],[0,1,2,3,4,5,6,7,8,9,10],[0,1,2,3,4,5,6,7,8,9],[0,1,2,3,4,5,6,7,8,9],[0,1,2,3,4,5,6,7,8,9],[0,1,2,3,4,5,6,7,8,9,14],[0,1,2,3,4,5,6,7,8,9],[0,1,2,3,4,5,6,7,8,9,14,15,16],[0,1,2,3,4,5,6,7,8,9,14,15,16,17],[0,1,2,3,4,5,6,7,8,9,13,14,15,16,17,18],[0,1,2,3,4,5,6,7,8,9,13,14,15,16,17,18,19],[0,1,2,3,4,5,6,7,8,9,13,14,15,16,17,18,19,20],[0,1,2,3,4,5,6,7,8,9,10,11,12,13,14,15,16,17,18,19,20,21],[0,1,2,3,4,5,6,7,8,9,10,11,12,13,14,15,16,17,18,19,20,21,22],[0,1,2,3,4,5,6,7,8,9,10,11,12,13,14,15,16,17,18,19,20,21,22,23]] (by simp) (by simp) (by simp [look]) rfl rfl rfl ?_ fun K w=>?_
         ·refine ⟨?_,?_,?_,?_,?_,?_,?_,?_,?_,?_,?_,?_,?_,?_,?_,?_,?_,?_,?_,?_,?_,?_,trivial⟩
          all_goals (intro τ hbx hb hd hf K w;try simp [aJ] at hd;simp [aJ] at hf;first | (refine wC rfl fun K' z=>?_;simp [q,hbx,hb,hd,hf,a0,a1,a2,a3,b9,a8];exact z _ (wN (w _ (by simp [aJ,hbx,a0,a1,a2,a3,b9,a8])))) | (refine wL [(.take,.tmp 87),(.take,.const (.int .i64 0)),(.take,.tmp 89)] rfl rfl oW (aM _ _ _ h9) fun K' z=>?_;simp [q,hbx,hb,hd,hf,a0,a1,a2,a3,b9,a8];exact z _ (wN (w _ (by simp [aJ,hbx,a0,a1,a2,a3,b9,a8])))) | (refine wO fun K' z=>?_;simp [q,hbx,hb,hd,hf,a0,a1,a2,a3,b9,a8];exact z _ (wN (w _ (by simp [aJ,hbx,a0,a1,a2,a3,b9,a8])))))
         iterate 2 (refine wO fun K r=>?_;simp [q,a0,a1,a2,a3,b9,a8];apply r)
         refine wC rfl fun K r=>?_;simp [q,a0,a1,a2,a3,b9,a8];apply r
         apply wN;apply w
         cases b2
         exact h8 _ () [] trivial (by simp [q,a0,a1,a2,a3,b9,a8])
        ·have b3:=c3
         try simp at b3
         obtain ⟨g7,k1,b2⟩:=bS b2
         obtain ⟨b5,b6,b7,b8⟩:=gS k1
         refine O.dT rfl (u _ rfl) [(83,.ref (.box 5) 3 []),(84,.t (.sl false 1 (List.map vi a6.Kids))),(85,.t (vi g6)),(86,.rop [vi h2] 0),(87,.t (vi h2)),(88,.t (vi k2)),(89,.t (vi (IntKind.wrap .i64 (k2 - 1)))),(90,.t (vb h3)),(91,.t (vb (!h3))),(92,.t (vb (!h3))),(93,.ref (.box 5) 0 []),(94,.t (vi a6.Kind)),(95,.t (vi g6)),(96,.t (.sl false 4 (List.map (GNode.enc false) a4))),(97,.ref (.box 5) 3 []),(98,.t (.sl false 1 (List.map vi a6.Kids))),(99,.t (vi g6)),(100,.rop [vi h2] 0),(101,.t (vi h2)),(102,.rop [vi g7.Kind,vi g7.Num,vs g7.Name,.sl false 1 (List.map vi g7.Kids)] 0),(103,.rop [vi g7.Kind,vi g7.Num,vs g7.Name,.sl false 1 (List.map vi g7.Kids)] 0),(104,.t (vi g7.Kind))] [[],[0],[],[0,1,2],[0,1,2,3],[],[5],[0,1,2,3,4,5,6],[0,1,2,3,4,5,6,7],[0,1,2,3,4,5,6,7,8],[0,1,2,3,4,5,6,7,8,9],[0,1,2,3,4,5,6,7,8,9,10],[0,1,2,3,4,5,6,7,8,9],[0,1,2,3,4,5,6,7,8,9],[0,1,2,3,4,5,6,7,8,9],[0,1,2,3,4,5,6,7,8,9,14],[0,1,2,3,4,5,6,7,8,9],[0,1,2,3,4,5,6,7,8,9,14,15,16],[0,1,2,3,4,5,6,7,8,9,14,15,16,17],[0,1,2,3,4,5,6,7,8,9,13,14,15,16,17,18],[0,1,2,3,4,5,6,7,8,9,13,14,15,16,17,18,19],[0,1,2,3,4,5,6,7,8,9,13,14,15,16,17,18,19,20],[0,1,2,3,4,5,6,7,8,9,10,11,12,13,14,15,16,17,18,19,20,21],[0,1,2,3,4,5,6,7,8,9,10,11,12,13,14,15,16,17,18,19,20,21,22],[0,1,2,3,4,5,6,7,8,9,10,11,12,13,14,15,16,17,18,19,20,21,22,23]] (by simp) (by simp) (by simp [look]) rfl rfl rfl ?_ fun K w=>?_
         ·refine ⟨?_,?_,?_,?_,?_,?_,?_,?_,?_,?_,?_,?_,?_,?_,?_,?_,?_,?_,?_,?_,?_,?_,trivial⟩
          all_goals (intro τ hbx hb hd hf K w;try simp [aJ] at hd;simp [aJ] at hf;first | (refine wC rfl fun K' z=>?_;simp [q,hbx,hb,hd,hf,a0,a1,a2,a3,c3,b3,b5,b6,b7,b8];exact z _ (wN (w _ (by simp [aJ,hbx,a0,a1,a2,a3,c3,b3,b5,b6,b7,b8])))) | (refine wL [(.take,.tmp 87),(.take,.const (.int .i64 0)),(.take,.tmp 89)] rfl rfl oW (aM _ _ _ h9) fun K' z=>?_;simp [q,hbx,hb,hd,hf,a0,a1,a2,a3,c3,b3,b5,b6,b7,b8];exact z _ (wN (w _ (by simp [aJ,hbx,a0,a1,a2,a3,c3,b3,b5,b6,b7,b8])))))
         obtain ⟨o2,k3,b2⟩:=bS b2
         refine wL [(.take,.tmp 94),(.take,.tmp 95),(.take,.tmp 104)] rfl rfl ent118 (xZ _ _ _ k3) fun K r=>?_;simp [q,a0,a1,a2,a3,c3,b3,b5,b6,b7,b8];apply r
         iterate 2 (refine wC rfl fun K r=>?_;simp [q,a0,a1,a2,a3,c3,b3,b5,b6,b7,b8];apply r)
         apply wN;apply w
         cases b2
         exact h8 _ () [] trivial (by simp [q,a0,a1,a2,a3,c3,b3,b5,b6,b7,b8])
       rcases aA c5 with ⟨k4,c5⟩ | ⟨k5,c5⟩
       ·refine O.cT' (by simp) k4 ?_
        refine O.zR u fun K w=>?_
        refine wC rfl fun K r=>?_;simp [q];apply r
        apply wN;apply w
        cases c5
        try dsimp only at d3
        have m4:=congrArg some (h0 _ (Option.some.inj d3).symm)
        cases m4
        try dsimp only at h
        cases h
        refine O.ret ?_
        simp [aC,iB,aBf]
       ·refine O.cF' (by simp) k5 ?_
        refine O.skip ?_
        refine O.zR u fun K w=>?_
        refine wC rfl fun K r=>?_;simp [q];apply r
        apply wN;apply w
        refine O.block ?_
        refine O.loopO [] [0,1,5,8,9] [5] (fun v:Int=>⟨[(0,.t (.sl false 4 (List.map (GNode.enc false) a4))),(1,.t (vi k2)),(5,.ref (.box 5) 0 []),(8,.t (vi g6)),(9,.t (vi v))],[(5,[vi a6.Kind,vi a6.Num,vs a6.Name,.sl false 1 (List.map vi a6.Kids)])]⟩) (fB a6 g6) _ 0 c5 (by simp [q]) ?_
        intro g o3 d0 i0
        obtain ⟨m5,hg⟩:∃ y,y=g:=⟨_,rfl⟩
        subst hg
        simp only [fB] at d0
        try dsimp only
        refine O.seq ?_
        refine O.zR u fun K w=>?_
        iterate 3 (refine wC rfl fun K r=>?_;simp [q];apply r)
        apply wN;apply w
        rcases aA d0 with ⟨k6,d0⟩ | ⟨k7,d0⟩
        ·refine O.cT' (by simp) k6 ?_
         refine O.skip ?_
         refine O.seq ?_
         refine O.block ?_
         refine O.seq ?_
         obtain ⟨l3,k8,d0⟩:=bS d0
         obtain ⟨d7,d8,d9,e0⟩:=gS k8
         obtain ⟨l4,k9,d0⟩:=bS d0
         obtain ⟨e1,e2,e3,e4⟩:=gS k9
         refine O.dT rfl (u _ rfl) [(113,.ref (.box 5) 3 []),(114,.t (.sl false 1 (List.map vi a6.Kids))),(115,.t (vi g6)),(116,.rop [vi l3] 0),(117,.t (vi l3)),(118,.ref (.box 5) 3 []),(119,.t (.sl false 1 (List.map vi a6.Kids))),(120,.t (vi m5)),(121,.rop [vi l4] 0),(122,.t (vi l4))] [[],[0],[],[0,1,2],[0,1,2,3],[],[5],[],[5,6,7],[5,6,7,8],[0,1,2,3,4,5,6,7,8,9]] (by simp) (by simp) (by simp [look]) rfl rfl rfl ?_ fun K w=>?_
         ·refine ⟨?_,?_,?_,?_,?_,?_,?_,?_,?_,?_,trivial⟩
          all_goals (intro τ hbx hb hd hf K w;try simp [aJ] at hd;simp [aJ] at hf;first | (refine wC rfl fun K' z=>?_;simp [q,hbx,hb,hd,hf,d7,d8,d9,e0,e1,e2,e3,e4];exact z _ (wN (w _ (by simp [aJ,hbx,d7,d8,d9,e0,e1,e2,e3,e4])))))
         refine wC rfl fun K r=>?_;simp [q,d7,d8,d9,e0,e1,e2,e3,e4];apply r
         apply wN;apply w
         rcases aA d0 with ⟨l0,d0⟩ | ⟨l1,d0⟩
         ·refine O.cT' (by simp) l0 ?_
          refine O.zR u fun K w=>?_
          refine wC rfl fun K r=>?_;simp [q];apply r
          apply wN;apply w
          have m6:=congrArg some (i0 _ (Option.some.inj d0).symm)
          cases m6
          try dsimp only at d3
          have m7:=congrArg some (h0 _ (Option.some.inj d3).symm)
          cases m7
          try dsimp only at h
          cases h
          refine O.ret ?_
          simp [aC,iB,aBf]
         ·refine O.cF' (by simp) l1 ?_
          refine O.skip ?_
          refine O.zG u fun K w=>?_
          iterate 3 (refine wC rfl fun K r=>?_;simp [q];apply r)
          apply wN;apply w
          cases d0
          exact ⟨_,[],rfl,by simp [q]⟩
        ·refine O.cF' (by simp) k7 ?_
         refine O.exit ?_
         have m8:=congrArg some (i0 _ (Option.some.inj d0).symm)
         cases m8
         exact j9 _ _ [] rfl (by simp [q])
      subst hv
      obtain ⟨⟩:=v
      try dsimp only at d3 ⊢
      refine O.zG u fun K w=>?_
      iterate 3 (refine wC rfl fun K r=>?_;simp [q];apply r)
      apply wN;apply w
      cases d3
      exact ⟨_,[],rfl,by simp [q]⟩
     ·refine O.cF' (by simp) j8 ?_
      refine O.exit ?_
      have m9:=congrArg some (h0 _ (Option.some.inj d3).symm)
      cases m9
      exact j6 _ _ [] rfl (by simp [q])
    subst hv
    obtain ⟨⟩:=v
    try dsimp only at h ⊢
    refine O.zR u fun K w=>?_
    refine wC rfl fun K r=>?_;simp [q];apply r
    apply wN;apply w
    cases h
    refine O.ret ?_
    simp [aC,iB,aBf]
theorem res77:Tryz.f77.results.toList=[.tmp 4]:=rfl
theorem ent77:aF E.P 77:=eO Tryz.func77 (by simp [Tryz.f77]) rfl
theorem oY (a0:List GNode) (k2:Int) {r0:List Int} (h:fZ a0 k2=some r0):Ok E 77 [.val (.sl false 4 (List.map (GNode.enc false) a0)),.val (vi k2)] [.sl true 1 (List.map vi r0)] []:=by
 refine oB Tryz.func77 rfl (by simp [Tryz.f77]) fun C (q:C.N=84) hP=>?_
 have y:=aL hP
 unfold fZ at h
 refine O.zR y fun K u=>?_
 refine wC rfl fun K w=>?_;simp [q];apply w
 apply wN;apply u
 refine O.zR y fun K u=>?_
 iterate 2 (refine wC rfl fun K w=>?_;simp [q];apply w)
 apply wN;apply u
 obtain ⟨g8,l0,h⟩:=bS h
 refine O.seqC [5] [] (fun _:Unit=>⟨[(5,.t (.sl true 1 (List.map vi g8)))],[]⟩) (fun _=>True) (fun _ _=>?_) fun K4 l1=>?_
 rotate_left
 ·refine O.zR y fun K u=>?_
  refine wC rfl fun K w=>?_;simp [q];apply w
  apply wN;apply u
  refine O.block ?_
  refine O.loopO [] [0,1,5,6] [] (fun v:(List Int) × Int=>⟨[(0,.t (.sl false 4 (List.map (GNode.enc false) a0))),(1,.t (vi k2)),(5,.t (.sl true 1 (List.map vi v.1))),(6,.t (vi v.2))],[]⟩) (dL a0 k2) _ ([],0) l0 (by simp [q]) ?_
  intro g m0 h8 l2
  obtain ⟨a4,i7⟩:=g
  simp only [dL] at h8
  try dsimp only
  refine O.seq ?_
  obtain ⟨l3,b5,h8⟩:=bS h8
  refine O.seqRC rfl (y _ rfl) [0,1,5,6,18] [] (fun _:Unit=>⟨[(0,.t (.sl false 4 (List.map (GNode.enc false) a0))),(1,.t (vi k2)),(5,.t (.sl true 1 (List.map vi a4))),(6,.t (vi i7)),(18,.t (vb l3))],[]⟩) (fun _=>True) (fun _ _=>?_) fun m1 g9=>?_
  rotate_left
  ·refine wC rfl fun K w=>?_;simp [q];apply w
   iterate 3 (refine wC rfl fun K w=>?_;simp [q];apply w)
   rcases aA b5 with ⟨g4,b5⟩ | ⟨d2,b5⟩
   ·have b6:=g4
    try simp at b6
    iterate 5 (refine wC rfl fun K w=>?_;simp [q,g4,b6];apply w)
    refine wN ?_
    cases b5
    exact g9 _ () [] trivial (by simp [q,g4,b6])
   ·have a9:=d2
    try simp at a9
    iterate 4 (refine wO fun K w=>?_;simp [q,d2,a9];apply w)
    refine wC rfl fun K w=>?_;simp [q,d2,a9];apply w
    refine wN ?_
    cases b5
    exact g9 _ () [] trivial (by simp [q,d2,a9])
  rcases aA h8 with ⟨i4,h8⟩ | ⟨i5,h8⟩
  ·refine O.cT' (by simp) i4 ?_
   refine O.skip ?_
   obtain ⟨h0,a5,h8⟩:=bS h8
   refine O.seqC [0,1,5,6] [] (fun _:Unit=>⟨[(0,.t (.sl false 4 (List.map (GNode.enc false) a0))),(1,.t (vi k2)),(5,.t (.sl true 1 (List.map vi h0))),(6,.t (vi i7))],[]⟩) (fun _=>True) (fun _ _=>?_) fun m2 i6=>?_
   rotate_left
   ·refine O.block ?_
    refine O.zR y fun K u=>?_
    refine wC rfl fun K w=>?_;simp [q];apply w
    apply wN;apply u
    obtain ⟨b7,a7,a5⟩:=bS a5
    refine O.seqC [0,1,5,6,7] [] (fun _:Unit=>⟨[(0,.t (.sl false 4 (List.map (GNode.enc false) a0))),(1,.t (vi k2)),(5,.t (.sl true 1 (List.map vi a4))),(6,.t (vi i7)),(7,.t (vi b7))],[]⟩) (fun _=>True) (fun _ _=>?_) fun m3 h1=>?_
    rotate_left
    ·obtain ⟨l4,a1,a7⟩:=bS a7
     refine O.seqRC rfl (y _ rfl) [0,1,5,6,7,36] [] (fun _:Unit=>⟨[(0,.t (.sl false 4 (List.map (GNode.enc false) a0))),(1,.t (vi k2)),(5,.t (.sl true 1 (List.map vi a4))),(6,.t (vi i7)),(7,.t (vi 1)),(36,.t (vb l4))],[]⟩) (fun _=>True) (fun _ _=>?_) fun m4 g5=>?_
     rotate_left
     ·refine wC rfl fun K w=>?_;simp [q];apply w
      refine wC rfl fun K w=>?_;simp [q];apply w
      obtain ⟨m5,i8,a1⟩:=bS a1
      refine wL [(.take,.tmp 21),(.take,.tmp 22)] rfl rfl ent101 (aAd _ _ i8) fun K w=>?_;simp [q];apply w
      iterate 2 (refine wC rfl fun K w=>?_;simp [q];apply w)
      rcases aA a1 with ⟨d3,a1⟩ | ⟨a6,a1⟩
      ·have b0:=d3
       try simp at b0
       iterate 10 (refine wO fun K w=>?_;simp [q,d3,b0];apply w)
       refine wC rfl fun K w=>?_;simp [q,d3,b0];apply w
       refine wN ?_
       cases a1
       exact g5 _ () [] trivial (by simp [q,d3,b0])
      ·have a2:=a6
       try simp at a2
       iterate 3 (refine wC rfl fun K w=>?_;simp [q,a6,a2];apply w)
       rcases aA a1 with ⟨d4,a1⟩ | ⟨d5,a1⟩
       ·have b1:=d4
        try simp at b1
        iterate 3 (refine wC rfl fun K w=>?_;simp [q,a6,a2,d4,b1];apply w)
        obtain ⟨m6,i9,a1⟩:=bS a1
        obtain ⟨d8,b8,b9,c0⟩:=gS i9
        have c1:=b8;try simp at c1
        try simp only [Int.toNat_natCast] at b9 c0
        iterate 5 (refine wC rfl fun K w=>?_;simp [q,a6,a2,d4,b1,d8,b8,b9,c0,c1];apply w)
        refine wN ?_
        cases a1
        exact g5 _ () [] trivial (by simp [q,a6,a2,d4,b1,d8,b8,b9,c0,c1])
       ·have b2:=d5
        try simp at b2
        iterate 6 (refine wO fun K w=>?_;simp [q,a6,a2,d5,b2];apply w)
        iterate 2 (refine wC rfl fun K w=>?_;simp [q,a6,a2,d5,b2];apply w)
        refine wN ?_
        cases a1
        exact g5 _ () [] trivial (by simp [q,a6,a2,d5,b2])
     rcases aA a7 with ⟨j0,a7⟩ | ⟨j1,a7⟩
     ·refine O.cT' (by simp) j0 ?_
      refine O.zG y fun K u=>?_
      refine wC rfl fun K w=>?_;simp [q];apply w
      apply wN;apply u
      cases a7
      exact h1 _ () [] trivial (by simp [q])
     ·refine O.cF' (by simp) j1 ?_
      refine O.skip ?_
      cases a7
      exact h1 _ () [] trivial (by simp [q])
    obtain ⟨g6,j2,a5⟩:=bS a5
    refine O.seqC [0,1,5,6,7] [] (fun _:Unit=>⟨[(0,.t (.sl false 4 (List.map (GNode.enc false) a0))),(1,.t (vi k2)),(5,.t (.sl true 1 (List.map vi a4))),(6,.t (vi i7)),(7,.t (vi g6))],[]⟩) (fun _=>True) (fun _ _=>?_) fun m7 j3=>?_
    rotate_left
    ·refine O.zR y fun K u=>?_
     refine wC rfl fun K w=>?_;simp [q];apply w
     apply wN;apply u
     refine O.block ?_
     refine O.loopO [] [0,1,5,6,7,8] [] (fun v:Int × Int=>⟨[(0,.t (.sl false 4 (List.map (GNode.enc false) a0))),(1,.t (vi k2)),(5,.t (.sl true 1 (List.map vi a4))),(6,.t (vi i7)),(7,.t (vi v.1)),(8,.t (vi v.2))],[]⟩) (bE a0 a4 i7) _ (b7,0) j2 (by simp [q]) ?_
     intro g m8 a3 j4
     obtain ⟨g7,l5⟩:=g
     simp only [bE] at a3
     try dsimp only
     refine O.seq ?_
     obtain ⟨l6,a8,a3⟩:=bS a3
     refine O.seqRC rfl (y _ rfl) [0,1,5,6,7,8,48] [] (fun _:Unit=>⟨[(0,.t (.sl false 4 (List.map (GNode.enc false) a0))),(1,.t (vi k2)),(5,.t (.sl true 1 (List.map vi a4))),(6,.t (vi i7)),(7,.t (vi g7)),(8,.t (vi l5)),(48,.t (vb l6))],[]⟩) (fun _=>True) (fun _ _=>?_) fun m9 h2=>?_
     rotate_left
     ·refine wC rfl fun K w=>?_;simp [q];apply w
      iterate 2 (refine wC rfl fun K w=>?_;simp [q];apply w)
      rcases aA a8 with ⟨d6,a8⟩ | ⟨d7,a8⟩
      ·have b3:=d6
       try simp at b3
       iterate 3 (refine wC rfl fun K w=>?_;simp [q,d6,b3];apply w)
       obtain ⟨n0,j5,a8⟩:=bS a8
       obtain ⟨d9,e0,e1,e2⟩:=gS j5
       iterate 6 (refine wC rfl fun K w=>?_;simp [q,d6,b3,d9,e0,e1,e2];apply w)
       refine wN ?_
       cases a8
       exact h2 _ () [] trivial (by simp [q,d6,b3,d9,e0,e1,e2])
      ·have b4:=d7
       try simp at b4
       iterate 8 (refine wO fun K w=>?_;simp [q,d7,b4];apply w)
       refine wC rfl fun K w=>?_;simp [q,d7,b4];apply w
       refine wN ?_
       cases a8
       exact h2 _ () [] trivial (by simp [q,d7,b4])
     rcases aA a3 with ⟨j6,a3⟩ | ⟨j7,a3⟩
     ·refine O.cT' (by simp) j6 ?_
      refine O.skip ?_
      refine O.seq ?_
      refine O.block ?_
      refine O.zR y fun K u=>?_
      iterate 3 (refine wC rfl fun K w=>?_;simp [q];apply w)
      obtain ⟨n1,j8,a3⟩:=bS a3
      obtain ⟨c2,c3,c4,c5⟩:=gS j8
      iterate 4 (refine wC rfl fun K w=>?_;simp [q,c2,c3,c4,c5];apply w)
      obtain ⟨n2,j9,a3⟩:=bS a3
      obtain ⟨e3,e4,e5,e6⟩:=gS j9
      iterate 2 (refine wC rfl fun K w=>?_;simp [q,c2,c3,c4,c5,e3,e4,e5,e6];apply w)
      obtain ⟨n3,k0,a3⟩:=bS a3
      obtain ⟨h3,h4,h5,h6⟩:=gS k0
      iterate 5 (refine wC rfl fun K w=>?_;simp [q,c2,c3,c4,c5,e3,e4,e5,e6,h3,h4,h5,h6];apply w)
      apply wN;apply u
      rcases aA a3 with ⟨k1,a3⟩ | ⟨k3,a3⟩
      ·refine O.cT' (by simp) k1 ?_
       refine O.zG y fun K u=>?_
       iterate 3 (refine wC rfl fun K w=>?_;simp [q];apply w)
       obtain ⟨n4,k4,a3⟩:=bS a3
       obtain ⟨c6,c7,c8,c9⟩:=gS k4
       iterate 4 (refine wC rfl fun K w=>?_;simp [q,c6,c7,c8,c9];apply w)
       obtain ⟨n5,k5,a3⟩:=bS a3
       obtain ⟨e7,e8,e9,g0⟩:=gS k5
       iterate 2 (refine wC rfl fun K w=>?_;simp [q,c6,c7,c8,c9,e7,e8,e9,g0];apply w)
       obtain ⟨n6,k6,a3⟩:=bS a3
       obtain ⟨h7,h9,i0,i1⟩:=gS k6
       iterate 4 (refine wC rfl fun K w=>?_;simp [q,c6,c7,c8,c9,e7,e8,e9,g0,h7,h9,i0,i1];apply w)
       apply wN;apply u
       refine O.zG y fun K u=>?_
       iterate 3 (refine wC rfl fun K w=>?_;simp [q];apply w)
       apply wN;apply u
       cases a3
       exact ⟨_,[],rfl,by simp [q]⟩
      ·refine O.cF' (by simp) k3 ?_
       refine O.skip ?_
       refine O.zG y fun K u=>?_
       iterate 3 (refine wC rfl fun K w=>?_;simp [q];apply w)
       apply wN;apply u
       cases a3
       exact ⟨_,[],rfl,by simp [q]⟩
     ·refine O.cF' (by simp) j7 ?_
      refine O.exit ?_
      have l7:=congrArg some (j4 _ (Option.some.inj a3).symm)
      cases l7
      exact j3 _ () [] trivial (by simp [q])
    obtain ⟨d0,d1,a5⟩:=bS a5
    refine O.seqC [0,1,5,6,7] [] (fun _:Unit=>⟨[(0,.t (.sl false 4 (List.map (GNode.enc false) a0))),(1,.t (vi k2)),(5,.t (.sl true 1 (List.map vi a4))),(6,.t (vi i7)),(7,.t (vi d0))],[]⟩) (fun _=>True) (fun _ _=>?_) fun n7 i2=>?_
    rotate_left
    ·refine O.zR y fun K u=>?_
     iterate 2 (refine wC rfl fun K w=>?_;simp [q];apply w)
     apply wN;apply u
     rcases aA d1 with ⟨k7,d1⟩ | ⟨k8,d1⟩
     ·refine O.cT' (by simp) k7 ?_
      refine O.zG y fun K u=>?_
      refine wC rfl fun K w=>?_;simp [q];apply w
      apply wN;apply u
      cases d1
      exact i2 _ () [] trivial (by simp [q])
     ·refine O.cF' (by simp) k8 ?_
      refine O.skip ?_
      cases d1
      exact i2 _ () [] trivial (by simp [q])
    refine O.zG y fun K u=>?_
    iterate 3 (refine wC rfl fun K w=>?_;simp [q];apply w)
    obtain ⟨l8,k9,a5⟩:=bS a5
    obtain ⟨g1,g2,i3⟩:=aS k9
    have g3:List.map vi a4 ++ List.map vi [d0]=List.map vi l8:=dJ (f:=vi) i3
    simp [eSl] at g1 g2 g3
    iterate 2 (refine wC rfl fun K w=>?_;simp [q,g1,g2,g3];apply w)
    apply wN;apply u
    cases a5
    exact i6 _ () [] trivial (by simp [q])
   refine O.zG y fun K u=>?_
   iterate 3 (refine wC rfl fun K w=>?_;simp [q];apply w)
   apply wN;apply u
   cases h8
   exact ⟨_,[],rfl,by simp [q]⟩
  ·refine O.cF' (by simp) i5 ?_
   refine O.exit ?_
   have l9:=congrArg some (l2 _ (Option.some.inj h8).symm)
   cases l9
   exact l1 _ () [] trivial (by simp [q])
 refine O.zR y fun K u=>?_
 iterate 2 (refine wC rfl fun K w=>?_;simp [q];apply w)
 apply wN;apply u
 cases h
 refine O.ret ?_
 simp [aC,iB,res77]
theorem res78:Tryz.f78.results.toList=[.tmp 2]:=rfl
theorem ent78:aF E.P 78:=eO Tryz.func78 (by simp [Tryz.f78]) rfl
theorem xV (a0:List GNode) {r0:List Int} (h:jZ a0=some r0):Ok E 78 [.val (.sl false 4 (List.map (GNode.enc false) a0))] [.sl true 1 (List.map vi r0)] []:=by
 refine oB Tryz.func78 rfl (by simp [Tryz.f78]) fun C (q:C.N=39) hP=>?_
 have y:=aL hP
 unfold jZ at h
 refine O.zR y fun K u=>?_
 refine wC rfl fun K w=>?_;simp [q];apply w
 apply wN;apply u
 refine O.zR y fun K u=>?_
 iterate 2 (refine wC rfl fun K w=>?_;simp [q];apply w)
 obtain ⟨l2,e0,h⟩:=bS h
 obtain ⟨c3,c4,c5,c6⟩:=mS e0
 have b5:List.replicate (a0.length:Int).toNat (vi 0)=List.map vi l2:=rV (f:=vi) c6
 try simp only [Int.toNat_natCast] at b5
 iterate 2 (refine wC rfl fun K w=>?_;simp [q,c3,c4,c5,b5];apply w)
 apply wN;apply u
 obtain ⟨b6,e1,h⟩:=bS h
 refine O.seqC [3] [] (fun _:Unit=>⟨[(3,.t (.sl true 1 (List.map vi b6)))],[]⟩) (fun _=>True) (fun _ _=>?_) fun K4 e2=>?_
 rotate_left
 ·refine O.zR y fun K u=>?_
  refine wC rfl fun K w=>?_;simp [q];apply w
  apply wN;apply u
  refine O.block ?_
  refine O.loopO [] [0,3,4] [] (fun v:(List Int) × Int=>⟨[(0,.t (.sl false 4 (List.map (GNode.enc false) a0))),(3,.t (.sl true 1 (List.map vi v.1))),(4,.t (vi v.2))],[]⟩) (eG a0) _ (l2,0) e1 (by simp [q]) ?_
  intro g e9 h8 e3
  obtain ⟨c7,i7⟩:=g
  simp only [eG] at h8
  try dsimp only
  refine O.seq ?_
  refine O.zR y fun K u=>?_
  iterate 4 (refine wC rfl fun K w=>?_;simp [q];apply w)
  apply wN;apply u
  rcases aA h8 with ⟨c8,h8⟩ | ⟨c9,h8⟩
  ·refine O.cT' (by simp) c8 ?_
   refine O.skip ?_
   obtain ⟨b7,d0,h8⟩:=bS h8
   refine O.seqC [0,3,4] [] (fun _:Unit=>⟨[(0,.t (.sl false 4 (List.map (GNode.enc false) a0))),(3,.t (.sl true 1 (List.map vi b7))),(4,.t (vi i7))],[]⟩) (fun _=>True) (fun _ _=>?_) fun g0 d1=>?_
   rotate_left
   ·refine O.block ?_
    refine O.zR y fun K u=>?_
    refine wC rfl fun K w=>?_;simp [q];apply w
    apply wN;apply u
    refine O.block ?_
    refine O.loopO [] [0,3,4,5] [] (fun v:(List Int) × Int=>⟨[(0,.t (.sl false 4 (List.map (GNode.enc false) a0))),(3,.t (.sl true 1 (List.map vi v.1))),(4,.t (vi i7)),(5,.t (vi v.2))],[]⟩) (eF a0 i7) _ (c7,0) d0 (by simp [q]) ?_
    intro g g1 a1 d2
    obtain ⟨b8,g2⟩:=g
    simp only [eF] at a1
    try dsimp only
    refine O.seq ?_
    refine O.zR y fun K u=>?_
    iterate 3 (refine wC rfl fun K w=>?_;simp [q];apply w)
    obtain ⟨g3,d3,a1⟩:=bS a1
    obtain ⟨b9,c0,c1,c2⟩:=gS d3
    iterate 5 (refine wC rfl fun K w=>?_;simp [q,b9,c0,c1,c2];apply w)
    apply wN;apply u
    rcases aA a1 with ⟨d4,a1⟩ | ⟨d5,a1⟩
    ·refine O.cT' (by simp) d4 ?_
     refine O.skip ?_
     refine O.seq ?_
     refine O.block ?_
     refine O.zG y fun K u=>?_
     iterate 3 (refine wC rfl fun K w=>?_;simp [q];apply w)
     obtain ⟨g4,d6,a1⟩:=bS a1
     obtain ⟨a2,a3,a4,a5⟩:=gS d6
     iterate 4 (refine wC rfl fun K w=>?_;simp [q,a2,a3,a4,a5];apply w)
     obtain ⟨e4,d7,a1⟩:=bS a1
     obtain ⟨a6,a7,a8,a9⟩:=gS d7
     iterate 2 (refine wC rfl fun K w=>?_;simp [q,a2,a3,a4,a5,a6,a7,a8,a9];apply w)
     obtain ⟨e5,d8,a1⟩:=bS a1
     obtain ⟨b0,b1,b2,b3⟩:=gS d8
     iterate 4 (refine wC rfl fun K w=>?_;simp [q,a2,a3,a4,a5,a6,a7,a8,a9,b0,b1,b2,b3];apply w)
     obtain ⟨e6,d9,a1⟩:=bZ a1
     have b4:(List.map vi b8).set e4.toNat (vi (IntKind.wrap .i64 (e5 + 1)))=List.map vi e6:=bU (f:=vi) d9
     try simp only [Int.toNat_natCast] at b4
     refine wC rfl fun K w=>?_;simp [q,a2,a3,a4,a5,a6,a7,a8,a9,b0,b1,b2,b3,b4];apply w
     apply wN;apply u
     refine O.zG y fun K u=>?_
     iterate 3 (refine wC rfl fun K w=>?_;simp [q];apply w)
     apply wN;apply u
     cases a1
     exact ⟨_,[],rfl,by simp [q]⟩
    ·refine O.cF' (by simp) d5 ?_
     refine O.exit ?_
     have e7:=congrArg some (d2 _ (Option.some.inj a1).symm)
     cases e7
     exact d1 _ () [] trivial (by simp [q])
   refine O.zG y fun K u=>?_
   iterate 3 (refine wC rfl fun K w=>?_;simp [q];apply w)
   apply wN;apply u
   cases h8
   exact ⟨_,[],rfl,by simp [q]⟩
  ·refine O.cF' (by simp) c9 ?_
   refine O.exit ?_
   have e8:=congrArg some (e3 _ (Option.some.inj h8).symm)
   cases e8
   exact e2 _ () [] trivial (by simp [q])
 refine O.zR y fun K u=>?_
 iterate 2 (refine wC rfl fun K w=>?_;simp [q];apply w)
 apply wN;apply u
 cases h
 refine O.ret ?_
 simp [aC,iB,res78]
theorem res38:Tryz.f38.results.toList=[.tmp 4]:=rfl
theorem ent38:aF E.P 38:=eO Tryz.func38 (by simp [Tryz.f38]) rfl
theorem vJ (p1:GProgram) (a0:ByteArray) {r0:Int} (h:pT p1 a0=some r0):Ok E 38 [.val (GProgram.enc false p1),.val (vs a0)] [vi r0] []:=by
 refine oB Tryz.func38 rfl (by simp [Tryz.f38]) fun C (q:C.N=22) hP=>?_
 have u:=aL hP
 unfold pT at h
 refine O.zR u fun K w=>?_
 iterate 2 (refine wC rfl fun K z=>?_;simp [q];apply z)
 apply wN;apply w
 obtain ⟨j5,b1,h⟩:=bS h
 refine O.seqC [] [] (fun v:Unit=>⟨[],[]⟩) (fun v=>j5=Sum.inl v) (fun v hv=>?_) fun K4 b2=>?_
 rotate_left
 ·refine O.zR u fun K w=>?_
  refine wC rfl fun K z=>?_;simp [q];apply z
  apply wN;apply w
  refine O.block ?_
  refine O.loopO [] [1,2,5] [2] (fun v:Int=>⟨[(1,.t (vs a0)),(2,.ref (.box 2) 0 []),(5,.t (vi v))],[(2,[.sl false 4 (List.map (GNode.enc false) p1.Nodes),.sl false 5 (List.map (GFn.enc false) p1.Fns)])]⟩) (pS p1 a0) _ 0 b1 (by simp [q]) ?_
  intro g s9 h7 b0
  obtain ⟨i6,hg⟩:∃ y,y=g:=⟨_,rfl⟩
  subst hg
  simp only [pS] at h7
  try dsimp only
  refine O.seq ?_
  refine O.zR u fun K w=>?_
  iterate 5 (refine wC rfl fun K z=>?_;simp [q];apply z)
  apply wN;apply w
  rcases aA h7 with ⟨a5,h7⟩ | ⟨a6,h7⟩
  ·refine O.cT' (by simp) a5 ?_
   refine O.skip ?_
   refine O.seq ?_
   refine O.block ?_
   refine O.zR u fun K w=>?_
   iterate 3 (refine wC rfl fun K z=>?_;simp [q];apply z)
   obtain ⟨b5,a7,h7⟩:=bS h7
   obtain ⟨a1,a2,a3,a4⟩:=gS a7
   iterate 5 (refine wC rfl fun K z=>?_;simp [q,a1,a2,a3,a4];apply z)
   apply wN;apply w
   rcases aA h7 with ⟨a8,h7⟩ | ⟨a9,h7⟩
   ·refine O.cT' (by simp) a8 ?_
    refine O.zR u fun K w=>?_
    iterate 2 (refine wC rfl fun K z=>?_;simp [q];apply z)
    apply wN;apply w
    have b3:=congrArg some (b0 _ (Option.some.inj h7).symm)
    cases b3
    try dsimp only at h
    cases h
    refine O.ret ?_
    simp [aC,iB,res38]
   ·refine O.cF' (by simp) a9 ?_
    refine O.skip ?_
    refine O.zG u fun K w=>?_
    iterate 3 (refine wC rfl fun K z=>?_;simp [q];apply z)
    apply wN;apply w
    cases h7
    exact ⟨_,[],rfl,by simp [q]⟩
  ·refine O.cF' (by simp) a6 ?_
   refine O.exit ?_
   have b4:=congrArg some (b0 _ (Option.some.inj h7).symm)
   cases b4
   exact b2 _ _ [] rfl (by simp [q])
 subst hv
 obtain ⟨⟩:=v
 try dsimp only at h ⊢
 refine O.zR u fun K w=>?_
 refine wC rfl fun K z=>?_;simp [q];apply z
 apply wN;apply w
 cases h
 refine O.ret ?_
 simp [aC,iB,res38]
theorem aK2:Tryz.f79.results.toList=[.tmp 4]:=rfl
theorem ent79:aF E.P 79:=eO Tryz.func79 (by simp [Tryz.f79]) rfl
theorem aC9 (p1:GProgram) (i2:Int) {r0:Bool} (h:nJ p1 i2=some r0):Ok E 79 [.val (GProgram.enc false p1),.val (vi i2)] [vb r0] []:=by
 refine oB Tryz.func79 rfl (by simp [Tryz.f79]) fun C (q:C.N=102) hP=>?_
 have u:=aL hP
 unfold nJ at h
 refine O.zR u fun K w=>?_
 iterate 2 (refine wC rfl fun K z=>?_;simp [q];apply z)
 apply wN;apply w
 refine O.zR u fun K w=>?_
 iterate 3 (refine wC rfl fun K z=>?_;simp [q];apply z)
 obtain ⟨e3,i6,h⟩:=bS h
 obtain ⟨e9,g0,g1,g2⟩:=gS i6
 iterate 4 (refine wC rfl fun K z=>?_;simp [q,e9,g0,g1,g2];apply z)
 apply wN;apply w
 refine O.seq ?_
 obtain ⟨i7,b0,h⟩:=bS h
 refine O.seqRC rfl (u _ rfl) [2,5,35] [2,5] (fun _:Unit=>⟨[(2,.ref (.box 2) 0 []),(5,.ref (.box 5) 0 []),(35,.t (vb i7))],[(2,[.sl false 4 (List.map (GNode.enc false) p1.Nodes),.sl false 5 (List.map (GFn.enc false) p1.Fns)]),(5,[vs e3.Name,.sl false 2 (List.map GParam.enc e3.Params),vi e3.Res,vi e3.Body,vi e3.Ret])]⟩) (fun _=>True) (fun _ _=>?_) fun K5 e8=>?_
 rotate_left
 ·refine wC rfl fun K z=>?_;simp [q];apply z
  refine wC rfl fun K z=>?_;simp [q];apply z
  obtain ⟨r6,i8,b0⟩:=bS b0
  refine wL [(.take,.tmp 13)] rfl rfl aL1 (nA _ i8) fun K z=>?_;simp [q];apply z
  iterate 2 (refine wC rfl fun K z=>?_;simp [q];apply z)
  rcases aA b0 with ⟨e1,b0⟩ | ⟨b3,b0⟩
  ·have b4:=e1
   try simp at b4
   iterate 6 (refine wO fun K z=>?_;simp [q,e1,b4];apply z)
   iterate 2 (refine wC rfl fun K z=>?_;simp [q,e1,b4];apply z)
   iterate 4 (refine wO fun K z=>?_;simp [q,e1,b4];apply z)
   iterate 2 (refine wC rfl fun K z=>?_;simp [q,e1,b4];apply z)
   iterate 4 (refine wO fun K z=>?_;simp [q,e1,b4];apply z)
   refine wC rfl fun K z=>?_;simp [q,e1,b4];apply z
   refine wN ?_
   cases b0
   exact e8 _ () [] trivial (by simp [q,e1,b4])
  ·have a0:=b3
   try simp at a0
   iterate 3 (refine wC rfl fun K z=>?_;simp [q,b3,a0];apply z)
   obtain ⟨j6,g3,b0⟩:=bS b0
   refine wL [(.take,.tmp 17),(.take,.tmp 19)] rfl rfl ent38 (vJ _ _ g3) fun K z=>?_;simp [q,b3,a0];apply z
   iterate 4 (refine wC rfl fun K z=>?_;simp [q,b3,a0];apply z)
   rcases aA b0 with ⟨c7,b0⟩ | ⟨b1,b0⟩
   ·have a8:=c7
    try simp at a8
    iterate 4 (refine wO fun K z=>?_;simp [q,b3,a0,c7,a8];apply z)
    iterate 2 (refine wC rfl fun K z=>?_;simp [q,b3,a0,c7,a8];apply z)
    iterate 4 (refine wO fun K z=>?_;simp [q,b3,a0,c7,a8];apply z)
    refine wC rfl fun K z=>?_;simp [q,b3,a0,c7,a8];apply z
    refine wN ?_
    cases b0
    exact e8 _ () [] trivial (by simp [q,b3,a0,c7,a8])
   ·have a5:=b1
    try simp at a5
    iterate 6 (refine wC rfl fun K z=>?_;simp [q,b3,a0,b1,a5];apply z)
    rcases aA b0 with ⟨d6,b0⟩ | ⟨d0,b0⟩
    ·have c1:=d6
     try simp at c1
     iterate 4 (refine wO fun K z=>?_;simp [q,b3,a0,b1,a5,d6,c1];apply z)
     refine wC rfl fun K z=>?_;simp [q,b3,a0,b1,a5,d6,c1];apply z
     refine wN ?_
     cases b0
     exact e8 _ () [] trivial (by simp [q,b3,a0,b1,a5,d6,c1])
    ·have b5:=d0
     try simp at b5
     iterate 2 (refine wC rfl fun K z=>?_;simp [q,b3,a0,b1,a5,d0,b5];apply z)
     obtain ⟨j7,g4,b0⟩:=bS b0
     refine wL [(.take,.tmp 32),(.take,.const (.int .i64 0)),(.take,.const (.int .i64 2))] rfl rfl oW (aM _ _ _ g4) fun K z=>?_;simp [q,b3,a0,b1,a5,d0,b5];apply z
     iterate 2 (refine wC rfl fun K z=>?_;simp [q,b3,a0,b1,a5,d0,b5];apply z)
     refine wN ?_
     cases b0
     exact e8 _ () [] trivial (by simp [q,b3,a0,b1,a5,d0,b5])
 rcases aA h with ⟨g5,h⟩ | ⟨g6,h⟩
 ·refine O.cT' (by simp) g5 ?_
  refine O.zR u fun K w=>?_
  refine wC rfl fun K z=>?_;simp [q];apply z
  apply wN;apply w
  cases h
  refine O.ret ?_
  simp [aC,iB,aK2]
 ·refine O.cF' (by simp) g6 ?_
  refine O.skip ?_
  obtain ⟨i9,g7,h⟩:=bS h
  refine O.seqC [2,5] [2,5] (fun v:Unit=>⟨[(2,.ref (.box 2) 0 []),(5,.ref (.box 5) 0 [])],[(2,[.sl false 4 (List.map (GNode.enc false) p1.Nodes),.sl false 5 (List.map (GFn.enc false) p1.Fns)]),(5,[vs e3.Name,.sl false 2 (List.map GParam.enc e3.Params),vi e3.Res,vi e3.Body,vi e3.Ret])]⟩) (fun v=>i9=Sum.inl v) (fun v hv=>?_) fun j8 g8=>?_
  rotate_left
  ·refine O.zR u fun K w=>?_
   refine wC rfl fun K z=>?_;simp [q];apply z
   apply wN;apply w
   refine O.block ?_
   refine O.loopO [] [2,5,6] [2,5] (fun v:Int=>⟨[(2,.ref (.box 2) 0 []),(5,.ref (.box 5) 0 []),(6,.t (vi v))],[(2,[.sl false 4 (List.map (GNode.enc false) p1.Nodes),.sl false 5 (List.map (GFn.enc false) p1.Fns)]),(5,[vs e3.Name,.sl false 2 (List.map GParam.enc e3.Params),vi e3.Res,vi e3.Body,vi e3.Ret])]⟩) (fY e3) _ 0 g7 (by simp [q]) ?_
   intro g j9 c9 e4
   obtain ⟨j0,hg⟩:∃ y,y=g:=⟨_,rfl⟩
   subst hg
   simp only [fY] at c9
   try dsimp only
   refine O.seq ?_
   refine O.zR u fun K w=>?_
   iterate 5 (refine wC rfl fun K z=>?_;simp [q];apply z)
   apply wN;apply w
   rcases aA c9 with ⟨g9,c9⟩ | ⟨h0,c9⟩
   ·refine O.cT' (by simp) g9 ?_
    refine O.skip ?_
    refine O.seq ?_
    refine O.block ?_
    obtain ⟨j1,a6,c9⟩:=bS c9
    refine O.seqRC rfl (u _ rfl) [2,5,6,60] [2,5] (fun _:Unit=>⟨[(2,.ref (.box 2) 0 []),(5,.ref (.box 5) 0 []),(6,.t (vi j0)),(60,.t (vb j1))],[(2,[.sl false 4 (List.map (GNode.enc false) p1.Nodes),.sl false 5 (List.map (GFn.enc false) p1.Fns)]),(5,[vs e3.Name,.sl false 2 (List.map GParam.enc e3.Params),vi e3.Res,vi e3.Body,vi e3.Ret])]⟩) (fun _=>True) (fun _ _=>?_) fun k0 e5=>?_
    rotate_left
    ·refine wC rfl fun K z=>?_;simp [q];apply z
     iterate 2 (refine wC rfl fun K z=>?_;simp [q];apply z)
     obtain ⟨k1,h1,a6⟩:=bS a6
     obtain ⟨a1,a2,a3,a4⟩:=gS h1
     iterate 3 (refine wC rfl fun K z=>?_;simp [q,a1,a2,a3,a4];apply z)
     obtain ⟨k2,h2,a6⟩:=bS a6
     refine wL [(.take,.tmp 48)] rfl rfl aL1 (nA _ h2) fun K z=>?_;simp [q,a1,a2,a3,a4];apply z
     iterate 2 (refine wC rfl fun K z=>?_;simp [q,a1,a2,a3,a4];apply z)
     rcases aA a6 with ⟨d7,a6⟩ | ⟨d1,a6⟩
     ·have c2:=d7
      try simp at c2
      iterate 8 (refine wO fun K z=>?_;simp [q,a1,a2,a3,a4,d7,c2];apply z)
      refine wC rfl fun K z=>?_;simp [q,a1,a2,a3,a4,d7,c2];apply z
      refine wN ?_
      cases a6
      exact e5 _ () [] trivial (by simp [q,a1,a2,a3,a4,d7,c2])
     ·have b6:=d1
      try simp at b6
      iterate 6 (refine wC rfl fun K z=>?_;simp [q,a1,a2,a3,a4,d1,b6];apply z)
      obtain ⟨k3,h3,a6⟩:=bS a6
      refine wL [(.take,.tmp 57),(.take,.const (.int .i64 1)),(.take,.const (.int .i64 4))] rfl rfl oW (aM _ _ _ h3) fun K z=>?_;simp [q,a1,a2,a3,a4,d1,b6];apply z
      iterate 2 (refine wC rfl fun K z=>?_;simp [q,a1,a2,a3,a4,d1,b6];apply z)
      refine wN ?_
      cases a6
      exact e5 _ () [] trivial (by simp [q,a1,a2,a3,a4,d1,b6])
    rcases aA c9 with ⟨h4,c9⟩ | ⟨h5,c9⟩
    ·refine O.cT' (by simp) h4 ?_
     refine O.zR u fun K w=>?_
     refine wC rfl fun K z=>?_;simp [q];apply z
     apply wN;apply w
     have j2:=congrArg some (e4 _ (Option.some.inj c9).symm)
     cases j2
     try dsimp only at h
     cases h
     refine O.ret ?_
     simp [aC,iB,aK2]
    ·refine O.cF' (by simp) h5 ?_
     refine O.skip ?_
     refine O.zG u fun K w=>?_
     iterate 3 (refine wC rfl fun K z=>?_;simp [q];apply z)
     apply wN;apply w
     cases c9
     exact ⟨_,[],rfl,by simp [q]⟩
   ·refine O.cF' (by simp) h0 ?_
    refine O.exit ?_
    have j3:=congrArg some (e4 _ (Option.some.inj c9).symm)
    cases j3
    exact g8 _ _ [] rfl (by simp [q])
  subst hv
  obtain ⟨⟩:=v
  try dsimp only at h ⊢
  refine O.seq ?_
  obtain ⟨j4,b2,h⟩:=bS h
  refine O.seqRC rfl (u _ rfl) [2,5,78] [2,5] (fun _:Unit=>⟨[(2,.ref (.box 2) 0 []),(5,.ref (.box 5) 0 []),(78,.t (vb j4))],[(2,[.sl false 4 (List.map (GNode.enc false) p1.Nodes),.sl false 5 (List.map (GFn.enc false) p1.Fns)]),(5,[vs e3.Name,.sl false 2 (List.map GParam.enc e3.Params),vi e3.Res,vi e3.Body,vi e3.Ret])]⟩) (fun _=>True) (fun _ _=>?_) fun k4 e6=>?_
  rotate_left
  ·refine wC rfl fun K z=>?_;simp [q];apply z
   iterate 5 (refine wC rfl fun K z=>?_;simp [q];apply z)
   obtain ⟨k5,h6,b2⟩:=bS b2
   refine wL [(.take,.tmp 62),(.take,.const (.int .i64 0)),(.take,.tmp 66)] rfl rfl oW (aM _ _ _ h6) fun K z=>?_;simp [q];apply z
   iterate 2 (refine wC rfl fun K z=>?_;simp [q];apply z)
   rcases aA b2 with ⟨d8,b2⟩ | ⟨d9,b2⟩
   ·have c3:=d8
    try simp at c3
    iterate 8 (refine wO fun K z=>?_;simp [q,d8,c3];apply z)
    refine wC rfl fun K z=>?_;simp [q,d8,c3];apply z
    refine wN ?_
    cases b2
    exact e6 _ () [] trivial (by simp [q,d8,c3])
   ·have c4:=d9
    try simp at c4
    iterate 4 (refine wC rfl fun K z=>?_;simp [q,d9,c4];apply z)
    obtain ⟨k6,h7,b2⟩:=bS b2
    obtain ⟨e2,d2,d3,d4⟩:=gS h7
    have d5:=d2;try simp at d5
    try simp only [Int.toNat_natCast] at d3 d4
    iterate 5 (refine wC rfl fun K z=>?_;simp [q,d9,c4,e2,d2,d3,d4,d5];apply z)
    refine wN ?_
    cases b2
    exact e6 _ () [] trivial (by simp [q,d9,c4,e2,d2,d3,d4,d5])
  rcases aA h with ⟨h8,h⟩ | ⟨h9,h⟩
  ·refine O.cT' (by simp) h8 ?_
   refine O.zR u fun K w=>?_
   refine wC rfl fun K z=>?_;simp [q];apply z
   apply wN;apply w
   cases h
   refine O.ret ?_
   simp [aC,iB,aK2]
  ·refine O.cF' (by simp) h9 ?_
   refine O.skip ?_
   refine O.seq ?_
   refine O.zR u fun K w=>?_
   iterate 3 (refine wC rfl fun K z=>?_;simp [q];apply z)
   apply wN;apply w
   rcases aA h with ⟨i0,h⟩ | ⟨i1,h⟩
   ·refine O.cT' (by simp) i0 ?_
    refine O.zR u fun K w=>?_
    iterate 4 (refine wC rfl fun K z=>?_;simp [q];apply z)
    apply wN;apply w
    cases h
    refine O.ret ?_
    simp [aC,iB,aK2]
   ·refine O.cF' (by simp) i1 ?_
    refine O.skip ?_
    obtain ⟨j5,a7,h⟩:=bS h
    refine O.seqRC rfl (u _ rfl) [4] [] (fun _:Unit=>⟨[(4,.t (vb j5))],[]⟩) (fun _=>True) (fun _ _=>?_) fun k7 e7=>?_
    rotate_left
    ·refine wC rfl fun K z=>?_;simp [q];apply z
     iterate 5 (refine wC rfl fun K z=>?_;simp [q];apply z)
     obtain ⟨k8,i3,a7⟩:=bS a7
     refine wL [(.take,.tmp 86),(.take,.const (.int .i64 0)),(.take,.tmp 90)] rfl rfl oW (aM _ _ _ i3) fun K z=>?_;simp [q];apply z
     refine wC rfl fun K z=>?_;simp [q];apply z
     rcases aA a7 with ⟨c8,a7⟩ | ⟨e0,a7⟩
     ·have a9:=c8
      try simp at a9
      iterate 4 (refine wC rfl fun K z=>?_;simp [q,c8,a9];apply z)
      obtain ⟨k9,i4,a7⟩:=bS a7
      obtain ⟨c5,b7,b8,b9⟩:=gS i4
      have c0:=b7;try simp at c0
      try simp only [Int.toNat_natCast] at b8 b9
      iterate 3 (refine wC rfl fun K z=>?_;simp [q,c8,a9,c5,b7,b8,b9,c0];apply z)
      obtain ⟨l0,i5,a7⟩:=bS a7
      refine wL [(.take,.tmp 99)] rfl rfl aL0 (kW _ i5) fun K z=>?_;simp [q,c8,a9,c5,b7,b8,b9,c0];apply z
      iterate 2 (refine wC rfl fun K z=>?_;simp [q,c8,a9,c5,b7,b8,b9,c0];apply z)
      refine wN ?_
      cases a7
      exact e7 _ () [] trivial (by simp [q,c8,a9,c5,b7,b8,b9,c0])
     ·have c6:=e0
      try simp at c6
      iterate 8 (refine wO fun K z=>?_;simp [q,e0,c6];apply z)
      iterate 2 (refine wC rfl fun K z=>?_;simp [q,e0,c6];apply z)
      refine wN ?_
      cases a7
      exact e7 _ () [] trivial (by simp [q,e0,c6])
    cases h
    refine O.ret ?_
    simp [aC,iB,aK2]
theorem aK5:Tryz.f45.results.toList=[.tmp 2]:=rfl
theorem ent45:aF E.P 45:=eO Tryz.func45 (by simp [Tryz.f45]) rfl
theorem uE (p1:GProgram) {r0:Bool} (h:gQ p1=some r0):Ok E 45 [.val (GProgram.enc false p1)] [vb r0] []:=by
 refine oB Tryz.func45 rfl (by simp [Tryz.f45]) fun C (q:C.N=108) hP=>?_
 have u:=aL hP
 unfold gQ at h
 refine O.zR u fun K w=>?_
 iterate 2 (refine wC rfl fun K r=>?_;simp [q];apply r)
 apply wN;apply w
 refine O.seq ?_
 obtain ⟨j7,d1,h⟩:=bS h
 refine O.seqRC rfl (u _ rfl) [1,18] [1] (fun _:Unit=>⟨[(1,.ref (.box 1) 0 []),(18,.t (vb j7))],[(1,[.sl false 4 (List.map (GNode.enc false) p1.Nodes),.sl false 5 (List.map (GFn.enc false) p1.Fns)])]⟩) (fun _=>True) (fun _ _=>?_) fun K3 j5=>?_
 rotate_left
 ·refine wC rfl fun K r=>?_;simp [q];apply r
  iterate 2 (refine wC rfl fun K r=>?_;simp [q];apply r)
  obtain ⟨r4,j8,d1⟩:=bS d1
  refine wL [(.take,.tmp 9),(.take,.const (.int .i64 1)),(.take,.const (.int .i64 300))] rfl rfl oW (aM _ _ _ j8) fun K r=>?_;simp [q];apply r
  iterate 2 (refine wC rfl fun K r=>?_;simp [q];apply r)
  rcases aA d1 with ⟨g1,d1⟩ | ⟨e2,d1⟩
  ·have d2:=g1
   try simp at d2
   iterate 5 (refine wO fun K r=>?_;simp [q,g1,d2];apply r)
   refine wC rfl fun K r=>?_;simp [q,g1,d2];apply r
   refine wN ?_
   cases d1
   exact j5 _ () [] trivial (by simp [q,g1,d2])
  ·have c9:=e2
   try simp at c9
   iterate 3 (refine wC rfl fun K r=>?_;simp [q,e2,c9];apply r)
   obtain ⟨r8,j9,d1⟩:=bS d1
   refine wL [(.take,.tmp 15),(.take,.const (.int .i64 1)),(.take,.const (.int .i64 8))] rfl rfl oW (aM _ _ _ j9) fun K r=>?_;simp [q,e2,c9];apply r
   iterate 2 (refine wC rfl fun K r=>?_;simp [q,e2,c9];apply r)
   refine wN ?_
   cases d1
   exact j5 _ () [] trivial (by simp [q,e2,c9])
 rcases aA h with ⟨g3,h⟩ | ⟨g4,h⟩
 ·refine O.cT' (by simp) g3 ?_
  refine O.zR u fun K w=>?_
  refine wC rfl fun K r=>?_;simp [q];apply r
  apply wN;apply w
  cases h
  refine O.ret ?_
  simp [aC,iB,aK5]
 ·refine O.cF' (by simp) g4 ?_
  refine O.skip ?_
  refine O.zR u fun K w=>?_
  iterate 6 (refine wC rfl fun K r=>?_;simp [q];apply r)
  obtain ⟨l0,g5,h⟩:=bS h
  refine wL [(.take,.tmp 20),(.take,.tmp 24)] rfl rfl ent77 (oY _ _ g5) fun K r=>?_;simp [q];apply r
  refine wC rfl fun K r=>?_;simp [q];apply r
  apply wN;apply w
  refine O.seq ?_
  refine O.zR u fun K w=>?_
  iterate 4 (refine wC rfl fun K r=>?_;simp [q];apply r)
  obtain ⟨l1,g6,h⟩:=bS h
  obtain ⟨e3,d4,d5,d6⟩:=gS g6
  have d7:=d4;try simp at d7
  try simp only [Int.toNat_natCast] at d5 d6
  iterate 3 (refine wC rfl fun K r=>?_;simp [q,e3,d4,d5,d6,d7];apply r)
  apply wN;apply w
  rcases aA h with ⟨g7,h⟩ | ⟨g8,h⟩
  ·refine O.cT' (by simp) g7 ?_
   refine O.zR u fun K w=>?_
   refine wC rfl fun K r=>?_;simp [q];apply r
   apply wN;apply w
   cases h
   refine O.ret ?_
   simp [aC,iB,aK5]
  ·refine O.cF' (by simp) g8 ?_
   refine O.skip ?_
   refine O.zR u fun K w=>?_
   iterate 2 (refine wC rfl fun K r=>?_;simp [q];apply r)
   obtain ⟨k0,g9,h⟩:=bS h
   refine wL [(.take,.tmp 34)] rfl rfl ent78 (xV _ g9) fun K r=>?_;simp [q];apply r
   refine wC rfl fun K r=>?_;simp [q];apply r
   apply wN;apply w
   obtain ⟨k1,h0,h⟩:=bS h
   refine O.seqC [4] [] (fun v:List Int=>⟨[(4,.t (.sl true 1 (List.map vi v)))],[]⟩) (fun v=>k1=Sum.inl v) (fun v hv=>?_) fun l2 h1=>?_
   rotate_left
   ·refine O.zR u fun K w=>?_
    refine wC rfl fun K r=>?_;simp [q];apply r
    apply wN;apply w
    refine O.block ?_
    refine O.loopO [] [1,4,5] [1] (fun v:(List Int) × Int=>⟨[(1,.ref (.box 1) 0 []),(4,.t (.sl true 1 (List.map vi v.1))),(5,.t (vi v.2))],[(1,[.sl false 4 (List.map (GNode.enc false) p1.Nodes),.sl false 5 (List.map (GFn.enc false) p1.Fns)])]⟩) (bG p1) _ (k0,0) h0 (by simp [q]) ?_
    intro g l3 a0 e4
    obtain ⟨e0,g2⟩:=g
    simp only [bG] at a0
    try dsimp only
    refine O.seq ?_
    refine O.zR u fun K w=>?_
    iterate 5 (refine wC rfl fun K r=>?_;simp [q];apply r)
    apply wN;apply w
    rcases aA a0 with ⟨h2,a0⟩ | ⟨h3,a0⟩
    ·refine O.cT' (by simp) h2 ?_
     refine O.skip ?_
     refine O.seq ?_
     refine O.block ?_
     refine O.seq ?_
     refine O.zR u fun K w=>?_
     iterate 2 (refine wC rfl fun K r=>?_;simp [q];apply r)
     obtain ⟨l4,h4,a0⟩:=bS a0
     refine wL [(.take,.tmp 43),(.take,.tmp 44)] rfl rfl ent79 (aC9 _ _ h4) fun K r=>?_;simp [q];apply r
     refine wC rfl fun K r=>?_;simp [q];apply r
     apply wN;apply w
     rcases aA a0 with ⟨h5,a0⟩ | ⟨h6,a0⟩
     ·refine O.cT' (by simp) h5 ?_
      refine O.zR u fun K w=>?_
      refine wC rfl fun K r=>?_;simp [q];apply r
      apply wN;apply w
      have k2:=congrArg some (e4 _ (Option.some.inj a0).symm)
      cases k2
      try dsimp only at h
      cases h
      refine O.ret ?_
      simp [aC,iB,aK5]
     ·refine O.cF' (by simp) h6 ?_
      refine O.skip ?_
      refine O.seq ?_
      obtain ⟨a1,h7,a0⟩:=bS a0
      obtain ⟨b7,b8,b9,c0⟩:=gS h7
      obtain ⟨h8,h9,a0⟩:=bS a0
      obtain ⟨c1,a7,a8,a9⟩:=gS h9
      have b0:=a7;try simp at b0
      try simp only [Int.toNat_natCast] at a8 a9
      refine O.dT rfl (u _ rfl) [(47,.al (.slot 4) 0 [] none),(48,.ref (.box 1) 1 []),(49,.t (.sl false 5 (List.map (GFn.enc false) p1.Fns))),(50,.t (vi g2)),(51,.rop [vs a1.Name,.sl false 2 (List.map GParam.enc a1.Params),vi a1.Res,vi a1.Body,vi a1.Ret] 0),(52,.rop [vs a1.Name,.sl false 2 (List.map GParam.enc a1.Params),vi a1.Res,vi a1.Body,vi a1.Ret] 3),(53,.t (vi a1.Body)),(54,.al (.slot 4) 0 [] none),(55,.ref (.box 1) 1 []),(56,.t (.sl false 5 (List.map (GFn.enc false) p1.Fns))),(57,.t (vi g2)),(58,.rop [vs a1.Name,.sl false 2 (List.map GParam.enc a1.Params),vi a1.Res,vi a1.Body,vi a1.Ret] 0),(59,.rop [vs a1.Name,.sl false 2 (List.map GParam.enc a1.Params),vi a1.Res,vi a1.Body,vi a1.Ret] 3),(60,.t (vi a1.Body)),(61,.ref (.slot 4) 0 [(a1.Body.toNat,0)]),(62,.t (vi h8)),(63,.t (vi (IntKind.wrap .i64 (h8 + 1000))))] [[],[],[1],[],[1,2,3],[1,2,3,4],[1,2,3,4,5],[],[],[8],[],[8,9,10],[8,9,10,11],[8,9,10,11,12],[7,8,9,10,11,12,13],[7,8,9,10,11,12,13,14],[7,8,9,10,11,12,13,14,15],[0,1,2,3,4,5,6,7,8,9,10,11,12,13,14,15,16],[0,1,2,3,4,5,6,7,8,9,10,11,12,13,14,15,16,17]] (by simp) (by simp) (by simp [look]) rfl rfl rfl ?_ fun K w=>?_
      ·refine ⟨?_,?_,?_,?_,?_,?_,?_,?_,?_,?_,?_,?_,?_,?_,?_,?_,?_,trivial⟩
       all_goals (intro τ hbx hb hd hf K w;try simp [aJ] at hd;simp [aJ] at hf;first | (refine wC rfl fun K' z=>?_;simp [q,hbx,hb,hd,hf,b7,b8,b9,c0,c1,a7,a8,a9,b0];exact z _ (wN (w _ (by simp [aJ,hbx,b7,b8,b9,c0,c1,a7,a8,a9,b0])))))
      refine wC rfl fun K r=>?_;simp [q,b7,b8,b9,c0,c1,a7,a8,a9,b0];apply r
      obtain ⟨j6,i0,a0⟩:=bZ a0
      have d8:(List.map vi e0).set a1.Body.toNat (vi (IntKind.wrap .i64 (h8 + 1000)))=List.map vi j6:=bU (f:=vi) i0
      try simp only [Int.toNat_natCast] at d8
      refine wC rfl fun K r=>?_;simp [q,b7,b8,b9,c0,c1,a7,a8,a9,b0,d8];apply r
      apply wN;apply w
      refine O.zR u fun K w=>?_
      iterate 3 (refine wC rfl fun K r=>?_;simp [q];apply r)
      obtain ⟨l5,i1,a0⟩:=bS a0
      obtain ⟨e5,e6,e7,e8⟩:=gS i1
      iterate 4 (refine wC rfl fun K r=>?_;simp [q,e5,e6,e7,e8];apply r)
      apply wN;apply w
      rcases aA a0 with ⟨i2,a0⟩ | ⟨i3,a0⟩
      ·refine O.cT' (by simp) i2 ?_
       obtain ⟨a2,i4,a0⟩:=bS a0
       obtain ⟨c2,c3,c4,c5⟩:=gS i4
       obtain ⟨i5,i6,a0⟩:=bS a0
       obtain ⟨c6,b1,b2,b3⟩:=gS i6
       have b4:=b1;try simp at b4
       try simp only [Int.toNat_natCast] at b2 b3
       refine O.dT rfl (u _ rfl) [(72,.al (.slot 4) 0 [] none),(73,.ref (.box 1) 1 []),(74,.t (.sl false 5 (List.map (GFn.enc false) p1.Fns))),(75,.t (vi g2)),(76,.rop [vs a2.Name,.sl false 2 (List.map GParam.enc a2.Params),vi a2.Res,vi a2.Body,vi a2.Ret] 0),(77,.rop [vs a2.Name,.sl false 2 (List.map GParam.enc a2.Params),vi a2.Res,vi a2.Body,vi a2.Ret] 4),(78,.t (vi a2.Ret)),(79,.al (.slot 4) 0 [] none),(80,.ref (.box 1) 1 []),(81,.t (.sl false 5 (List.map (GFn.enc false) p1.Fns))),(82,.t (vi g2)),(83,.rop [vs a2.Name,.sl false 2 (List.map GParam.enc a2.Params),vi a2.Res,vi a2.Body,vi a2.Ret] 0),(84,.rop [vs a2.Name,.sl false 2 (List.map GParam.enc a2.Params),vi a2.Res,vi a2.Body,vi a2.Ret] 4),(85,.t (vi a2.Ret)),(86,.ref (.slot 4) 0 [(a2.Ret.toNat,0)]),(87,.t (vi i5)),(88,.t (vi (IntKind.wrap .i64 (i5 + 1000))))] [[],[],[1],[],[1,2,3],[1,2,3,4],[1,2,3,4,5],[],[],[8],[],[8,9,10],[8,9,10,11],[8,9,10,11,12],[7,8,9,10,11,12,13],[7,8,9,10,11,12,13,14],[7,8,9,10,11,12,13,14,15],[0,1,2,3,4,5,6,7,8,9,10,11,12,13,14,15,16],[0,1,2,3,4,5,6,7,8,9,10,11,12,13,14,15,16,17]] (by simp) (by simp) (by simp [look]) rfl rfl rfl ?_ fun K w=>?_
       ·refine ⟨?_,?_,?_,?_,?_,?_,?_,?_,?_,?_,?_,?_,?_,?_,?_,?_,?_,trivial⟩
        all_goals (intro τ hbx hb hd hf K w;try simp [aJ] at hd;simp [aJ] at hf;first | (refine wC rfl fun K' z=>?_;simp [q,hbx,hb,hd,hf,c2,c3,c4,c5,c6,b1,b2,b3,b4];exact z _ (wN (w _ (by simp [aJ,hbx,c2,c3,c4,c5,c6,b1,b2,b3,b4])))))
       refine wC rfl fun K r=>?_;simp [q,c2,c3,c4,c5,c6,b1,b2,b3,b4];apply r
       obtain ⟨k3,i7,a0⟩:=bZ a0
       have d9:(List.map vi j6).set a2.Ret.toNat (vi (IntKind.wrap .i64 (i5 + 1000)))=List.map vi k3:=bU (f:=vi) i7
       try simp only [Int.toNat_natCast] at d9
       refine wC rfl fun K r=>?_;simp [q,c2,c3,c4,c5,c6,b1,b2,b3,b4,d9];apply r
       apply wN;apply w
       refine O.zG u fun K w=>?_
       iterate 3 (refine wC rfl fun K r=>?_;simp [q];apply r)
       apply wN;apply w
       cases a0
       exact ⟨_,[],rfl,by simp [q]⟩
      ·refine O.cF' (by simp) i3 ?_
       refine O.skip ?_
       refine O.zG u fun K w=>?_
       iterate 3 (refine wC rfl fun K r=>?_;simp [q];apply r)
       apply wN;apply w
       cases a0
       exact ⟨_,[],rfl,by simp [q]⟩
    ·refine O.cF' (by simp) h3 ?_
     refine O.exit ?_
     have k4:=congrArg some (e4 _ (Option.some.inj a0).symm)
     cases k4
     exact h1 _ _ [] rfl (by simp [q])
   subst hv
   obtain ⟨b5,hv⟩:∃ y,y=v:=⟨_,rfl⟩
   subst hv
   try dsimp only at h ⊢
   obtain ⟨k5,i8,h⟩:=bS h
   refine O.seqC [] [] (fun v:Unit=>⟨[],[]⟩) (fun v=>k5=Sum.inl v) (fun v hv=>?_) fun l6 i9=>?_
   rotate_left
   ·refine O.zR u fun K w=>?_
    refine wC rfl fun K r=>?_;simp [q];apply r
    apply wN;apply w
    refine O.block ?_
    refine O.loopO [] [4,6] [] (fun v:Int=>⟨[(4,.t (.sl true 1 (List.map vi b5))),(6,.t (vi v))],[]⟩) (cV b5) _ 0 i8 (by simp [q]) ?_
    intro g l7 c8 e9
    obtain ⟨k6,hg⟩:∃ y,y=g:=⟨_,rfl⟩
    subst hg
    simp only [cV] at c8
    try dsimp only
    refine O.seq ?_
    refine O.zR u fun K w=>?_
    iterate 4 (refine wC rfl fun K r=>?_;simp [q];apply r)
    apply wN;apply w
    rcases aA c8 with ⟨j0,c8⟩ | ⟨j1,c8⟩
    ·refine O.cT' (by simp) j0 ?_
     refine O.skip ?_
     refine O.seq ?_
     refine O.block ?_
     obtain ⟨k7,b6,c8⟩:=bS c8
     refine O.seqRC rfl (u _ rfl) [4,6,107] [] (fun _:Unit=>⟨[(4,.t (.sl true 1 (List.map vi b5))),(6,.t (vi k6)),(107,.t (vb k7))],[]⟩) (fun _=>True) (fun _ _=>?_) fun l8 g0=>?_
     rotate_left
     ·refine wC rfl fun K r=>?_;simp [q];apply r
      refine wC rfl fun K r=>?_;simp [q];apply r
      obtain ⟨l9,j2,b6⟩:=bS b6
      obtain ⟨a3,a4,a5,a6⟩:=gS j2
      iterate 4 (refine wC rfl fun K r=>?_;simp [q,a3,a4,a5,a6];apply r)
      rcases aA b6 with ⟨e1,b6⟩ | ⟨d3,b6⟩
      ·have d0:=e1
       try simp at d0
       iterate 6 (refine wC rfl fun K r=>?_;simp [q,a3,a4,a5,a6,e1,d0];apply r)
       refine wN ?_
       cases b6
       exact g0 _ () [] trivial (by simp [q,a3,a4,a5,a6,e1,d0])
      ·have c7:=d3
       try simp at c7
       iterate 5 (refine wO fun K r=>?_;simp [q,a3,a4,a5,a6,d3,c7];apply r)
       refine wC rfl fun K r=>?_;simp [q,a3,a4,a5,a6,d3,c7];apply r
       refine wN ?_
       cases b6
       exact g0 _ () [] trivial (by simp [q,a3,a4,a5,a6,d3,c7])
     rcases aA c8 with ⟨j3,c8⟩ | ⟨j4,c8⟩
     ·refine O.cT' (by simp) j3 ?_
      refine O.zR u fun K w=>?_
      refine wC rfl fun K r=>?_;simp [q];apply r
      apply wN;apply w
      have k8:=congrArg some (e9 _ (Option.some.inj c8).symm)
      cases k8
      try dsimp only at h
      cases h
      refine O.ret ?_
      simp [aC,iB,aK5]
     ·refine O.cF' (by simp) j4 ?_
      refine O.skip ?_
      refine O.zG u fun K w=>?_
      iterate 3 (refine wC rfl fun K r=>?_;simp [q];apply r)
      apply wN;apply w
      cases c8
      exact ⟨_,[],rfl,by simp [q]⟩
    ·refine O.cF' (by simp) j1 ?_
     refine O.exit ?_
     have k9:=congrArg some (e9 _ (Option.some.inj c8).symm)
     cases k9
     exact i9 _ _ [] rfl (by simp [q])
   subst hv
   obtain ⟨⟩:=v
   try dsimp only at h ⊢
   refine O.zR u fun K w=>?_
   refine wC rfl fun K r=>?_;simp [q];apply r
   apply wN;apply w
   cases h
   refine O.ret ?_
   simp [aC,iB,aK5]
theorem res83:Tryz.f83.results.toList=[.tmp 4]:=rfl
theorem ent83:aF E.P 83:=eO Tryz.func83 (by simp [Tryz.f83]) rfl
theorem aAf (a0:List GNode) (k2:Int) {r0:Int} (h:lS a0 k2=some r0):Ok E 83 [.val (.sl false 4 (List.map (GNode.enc false) a0)),.val (vi k2)] [vi r0] []:=by
 refine oB Tryz.func83 rfl (by simp [Tryz.f83]) fun C (q:C.N=17) hP=>?_
 have y:=aL hP
 unfold lS at h
 refine O.zR y fun K u=>?_
 refine wC rfl fun K v=>?_;simp [q];apply v
 apply wN;apply u
 refine O.seq ?_
 refine O.zR y fun K u=>?_
 iterate 4 (refine wC rfl fun K v=>?_;simp [q];apply v)
 obtain ⟨r3,a5,h⟩:=bS h
 refine wL [(.take,.tmp 5),(.take,.const (.int .i64 0)),(.take,.tmp 8)] rfl rfl oW (aM _ _ _ a5) fun K v=>?_;simp [q];apply v
 refine wC rfl fun K v=>?_;simp [q];apply v
 apply wN;apply u
 rcases aA h with ⟨a6,h⟩ | ⟨a7,h⟩
 ·refine O.cT' (by simp) a6 ?_
  refine O.zR y fun K u=>?_
  refine wC rfl fun K v=>?_;simp [q];apply v
  apply wN;apply u
  cases h
  refine O.ret ?_
  simp [aC,iB,res83]
 ·refine O.cF' (by simp) a7 ?_
  refine O.skip ?_
  refine O.zR y fun K u=>?_
  iterate 2 (refine wC rfl fun K v=>?_;simp [q];apply v)
  obtain ⟨r7,a8,h⟩:=bS h
  refine wL [(.take,.tmp 11),(.take,.tmp 12)] rfl rfl ent77 (oY _ _ a8) fun K v=>?_;simp [q];apply v
  refine wC rfl fun K v=>?_;simp [q];apply v
  obtain ⟨e9,a9,h⟩:=bS h
  obtain ⟨a1,a2,a3,a4⟩:=gS a9
  iterate 3 (refine wC rfl fun K v=>?_;simp [q,a1,a2,a3,a4];apply v)
  apply wN;apply u
  cases h
  refine O.ret ?_
  simp [aC,iB,res83]
theorem aNd:Tryz.f104.results.toList=[]:=rfl
theorem aNo:aF E.P 104:=eO Tryz.func104 (by simp [Tryz.f104]) rfl
theorem uA (a3:(List GNode)→Int→(List Bool)→Option (List Bool)) (a4:∀ (a0:List GNode) (a1:Int) (a2:List Bool) {q2:List Bool},a3 a0 a1 a2=some q2→OkIO E 104 [.val (.sl false 4 (List.map (GNode.enc false) a0)),.val (vi a1),.val (.sl true 1 (List.map vb a2))] [] [] [(2,.sl true 1 (List.map vb q2))]) (a5:List GNode) (k2:Int) (a7:List Bool) {q2:List Bool} (h:gO a3 a5 k2 a7=some q2):OkIO E 104 [.val (.sl false 4 (List.map (GNode.enc false) a5)),.val (vi k2),.val (.sl true 1 (List.map vb a7))] [] [] [(2,.sl true 1 (List.map vb q2))]:=by
 refine fU (fn:=Tryz.f104) [(2,.sl true 1 (List.map vb q2))] Tryz.func104 rfl (by simp [Tryz.f104]) rfl fun C hN hP=>?_
 have y:∀ l,aH9 [2] l=true→nQ C.pin l=true:=pO (by rw [hP];rfl)
 have q:C.N=35:=hN
 clear hN
 unfold gO at h
 refine O.seq ?_
 refine O.zR y fun K u=>?_
 iterate 2 (refine wC rfl fun K w=>?_;simp [q];apply w)
 obtain ⟨e4,d7,h⟩:=bS h
 obtain ⟨c5,c6,c7,c8⟩:=gS d7
 iterate 2 (refine wC rfl fun K w=>?_;simp [q,c5,c6,c7,c8];apply w)
 apply wN;apply u
 rcases aA h with ⟨d8,h⟩ | ⟨d9,h⟩
 ·refine O.cT' (by simp) d8 ?_
  cases h
  refine O.ret ?_
  simp [aC,iB,aNd]
 ·refine O.cF' (by simp) d9 ?_
  refine O.skip ?_
  refine O.zR y fun K u=>?_
  iterate 2 (refine wC rfl fun K w=>?_;simp [q];apply w)
  obtain ⟨e7,e0,h⟩:=bS h
  obtain ⟨b6,b7,b8,b9⟩:=gS e0
  refine wC rfl fun K w=>?_;simp [q,b6,b7,b8,b9];apply w
  obtain ⟨l8,e1,h⟩:=bZ h
  have c0:(List.map vb a7).set k2.toNat (vb true)=List.map vb l8:=bU (f:=vb) e1
  try simp only [Int.toNat_natCast] at c0
  refine wC rfl fun K w=>?_;simp [q,b6,b7,b8,b9,c0];apply w
  apply wN;apply u
  refine O.zR y fun K u=>?_
  refine wC rfl fun K w=>?_;simp [q];apply w
  apply wN;apply u
  refine O.block ?_
  refine O.loopO [] [0,1,2,6] [] (fun v:(List Bool) × Int=>⟨[(0,.t (.sl false 4 (List.map (GNode.enc false) a5))),(1,.t (vi k2)),(2,.t (.sl true 1 (List.map vb v.1))),(6,.t (vi v.2))],[]⟩) (eI a3 a5 k2) _ (l8,0) h (by simp [q]) ?_
  intro g e3 a6 c9
  obtain ⟨d6,e5⟩:=g
  simp only [eI] at a6
  try dsimp only
  refine O.seq ?_
  refine O.zR y fun K u=>?_
  iterate 3 (refine wC rfl fun K w=>?_;simp [q];apply w)
  obtain ⟨e6,d0,a6⟩:=bS a6
  obtain ⟨c1,c2,c3,c4⟩:=gS d0
  iterate 5 (refine wC rfl fun K w=>?_;simp [q,c1,c2,c3,c4];apply w)
  apply wN;apply u
  rcases aA a6 with ⟨d1,a6⟩ | ⟨d2,a6⟩
  ·refine O.cT' (by simp) d1 ?_
   refine O.skip ?_
   refine O.seq ?_
   refine O.block ?_
   refine O.zG y fun K u=>?_
   iterate 3 (refine wC rfl fun K w=>?_;simp [q];apply w)
   obtain ⟨e8,d3,a6⟩:=bS a6
   obtain ⟨a8,a9,b0,b1⟩:=gS d3
   iterate 4 (refine wC rfl fun K w=>?_;simp [q,a8,a9,b0,b1];apply w)
   obtain ⟨e9,d4,a6⟩:=bS a6
   obtain ⟨b2,b3,b4,b5⟩:=gS d4
   iterate 3 (refine wC rfl fun K w=>?_;simp [q,a8,a9,b0,b1,b2,b3,b4,b5];apply w)
   obtain ⟨g0,d5,a6⟩:=bS a6
   refine rS [.tmp 24,.tmp 32] rfl aNo (a4 _ _ _ d5) fun K w=>?_;simp [q,a8,a9,b0,b1,b2,b3,b4,b5];apply w
   apply wN;apply u
   refine O.zG y fun K u=>?_
   iterate 3 (refine wC rfl fun K w=>?_;simp [q];apply w)
   apply wN;apply u
   cases a6
   exact ⟨_,[],rfl,by simp [q]⟩
  ·refine O.cF' (by simp) d2 ?_
   refine O.exit ?_
   have e2:=congrArg some (c9 _ (Option.some.inj a6).symm)
   cases e2
   simp [aC,iB,aNd]
theorem lQ:∀ n:Nat,(∀ (a0:List GNode) (a1:Int) (a2:List Bool) {q2:List Bool},(cI n) a0 a1 a2=some q2→OkIO E 104 [.val (.sl false 4 (List.map (GNode.enc false) a0)),.val (vi a1),.val (.sl true 1 (List.map vb a2))] [] [] [(2,.sl true 1 (List.map vb q2))])
 | 0=>(by intros;rename_i h;cases h)
 | n + 1=>uA (cI n) (lQ n)
theorem xW:∀ (a0:List GNode) (a1:Int) (a2:List Bool) {q2:List Bool},pR a0 a1 a2=some q2→OkIO E 104 [.val (.sl false 4 (List.map (GNode.enc false) a0)),.val (vi a1),.val (.sl true 1 (List.map vb a2))] [] [] [(2,.sl true 1 (List.map vb q2))]:=(lQ iA)
theorem res80:Tryz.f80.results.toList=[.tmp 4]:=rfl
theorem aOm:aF E.P 80:=eO Tryz.func80 (by simp [Tryz.f80]) rfl
theorem oJ (p1:GProgram) (k2:Int) {r0:List Int} (h:jO p1 k2=some r0):Ok E 80 [.val (GProgram.enc false p1),.val (vi k2)] [.sl true 1 (List.map vi r0)] []:=by
 refine oB Tryz.func80 rfl (by simp [Tryz.f80]) fun C (q:C.N=39) hP=>?_
 have y:=aL hP
 unfold jO at h
 refine O.zR y fun K u=>?_
 iterate 2 (refine wC rfl fun K w=>?_;simp [q];apply w)
 apply wN;apply u
 refine O.zR y fun K u=>?_
 iterate 2 (refine wC rfl fun K w=>?_;simp [q];apply w)
 apply wN;apply u
 refine O.seq ?_
 refine O.zR y fun K u=>?_
 iterate 3 (refine wC rfl fun K w=>?_;simp [q];apply w)
 obtain ⟨r3,c5,h⟩:=bS h
 refine wL [(.take,.tmp 10),(.take,.tmp 11)] rfl rfl ent83 (aAf _ _ c5) fun K w=>?_;simp [q];apply w
 refine wC rfl fun K w=>?_;simp [q];apply w
 apply wN;apply u
 rcases aA h with ⟨c6,h⟩ | ⟨c7,h⟩
 ·refine O.cT' (by simp) c6 ?_
  refine O.zR y fun K u=>?_
  iterate 2 (refine wC rfl fun K w=>?_;simp [q];apply w)
  apply wN;apply u
  cases h
  refine O.ret ?_
  simp [aC,iB,res80]
 ·refine O.cF' (by simp) c7 ?_
  refine O.skip ?_
  refine O.zR y fun K u=>?_
  iterate 3 (refine wC rfl fun K w=>?_;simp [q];apply w)
  obtain ⟨l7,c8,h⟩:=bS h
  obtain ⟨b2,b3,b4,b5⟩:=mS c8
  have a4:List.replicate (p1.Nodes.length:Int).toNat (vb false)=List.map vb l7:=rV (f:=vb) b5
  try simp only [Int.toNat_natCast] at a4
  iterate 2 (refine wC rfl fun K w=>?_;simp [q,b2,b3,b4,a4];apply w)
  apply wN;apply u
  refine O.zR y fun K u=>?_
  iterate 4 (refine wC rfl fun K w=>?_;simp [q];apply w)
  obtain ⟨q8,c9,h⟩:=bS h
  refine rS [.tmp 20,.tmp 21] rfl aNo (xW _ _ _ c9) fun K w=>?_;simp [q];apply w
  apply wN;apply u
  obtain ⟨a5,b6,h⟩:=bS h
  refine O.seqC [5] [] (fun _:Unit=>⟨[(5,.t (.sl true 1 (List.map vi a5)))],[]⟩) (fun _=>True) (fun _ _=>?_) fun d3 b7=>?_
  rotate_left
  ·refine O.zR y fun K u=>?_
   refine wC rfl fun K w=>?_;simp [q];apply w
   apply wN;apply u
   refine O.block ?_
   refine O.loopO [] [5,6,7] [] (fun v:(List Int) × Int=>⟨[(5,.t (.sl true 1 (List.map vi v.1))),(6,.t (.sl true 1 (List.map vb q8))),(7,.t (vi v.2))],[]⟩) (gA q8) _ ([],0) b6 (by simp [q]) ?_
   intro g d4 a0 b8
   obtain ⟨a6,d0⟩:=g
   simp only [gA] at a0
   try dsimp only
   refine O.seq ?_
   refine O.zR y fun K u=>?_
   iterate 4 (refine wC rfl fun K w=>?_;simp [q];apply w)
   apply wN;apply u
   rcases aA a0 with ⟨b9,a0⟩ | ⟨c0,a0⟩
   ·refine O.cT' (by simp) b9 ?_
    refine O.skip ?_
    refine O.seq ?_
    refine O.block ?_
    refine O.zR y fun K u=>?_
    iterate 2 (refine wC rfl fun K w=>?_;simp [q];apply w)
    obtain ⟨d5,c1,a0⟩:=bS a0
    obtain ⟨a7,a8,a9,b0⟩:=gS c1
    iterate 2 (refine wC rfl fun K w=>?_;simp [q,a7,a8,a9,b0];apply w)
    apply wN;apply u
    rcases aA a0 with ⟨c2,a0⟩ | ⟨c3,a0⟩
    ·refine O.cT' (by simp) c2 ?_
     refine O.zG y fun K u=>?_
     iterate 3 (refine wC rfl fun K w=>?_;simp [q];apply w)
     obtain ⟨d1,c4,a0⟩:=bS a0
     obtain ⟨a1,a2,b1⟩:=aS c4
     have a3:List.map vi a6 ++ List.map vi [d0]=List.map vi d1:=dJ (f:=vi) b1
     simp [eSl] at a1 a2 a3
     iterate 2 (refine wC rfl fun K w=>?_;simp [q,a1,a2,a3];apply w)
     apply wN;apply u
     refine O.zG y fun K u=>?_
     iterate 3 (refine wC rfl fun K w=>?_;simp [q];apply w)
     apply wN;apply u
     cases a0
     exact ⟨_,[],rfl,by simp [q]⟩
    ·refine O.cF' (by simp) c3 ?_
     refine O.skip ?_
     refine O.zG y fun K u=>?_
     iterate 3 (refine wC rfl fun K w=>?_;simp [q];apply w)
     apply wN;apply u
     cases a0
     exact ⟨_,[],rfl,by simp [q]⟩
   ·refine O.cF' (by simp) c0 ?_
    refine O.exit ?_
    have d2:=congrArg some (b8 _ (Option.some.inj a0).symm)
    cases d2
    exact b7 _ () [] trivial (by simp [q])
  refine O.zR y fun K u=>?_
  iterate 2 (refine wC rfl fun K w=>?_;simp [q];apply w)
  apply wN;apply u
  cases h
  refine O.ret ?_
  simp [aC,iB,res80]
theorem res46:Tryz.f46.results.toList=[.tmp 4]:=rfl
theorem ent46:aF E.P 46:=eO Tryz.func46 (by simp [Tryz.f46]) rfl
theorem rD (p1:GProgram) (h1:Int) {r0:List GVar} (h:jN p1 h1=some r0):Ok E 46 [.val (GProgram.enc false p1),.val (vi h1)] [.sl true 3 (List.map GVar.enc r0)] []:=by
 refine oB Tryz.func46 rfl (by simp [Tryz.f46]) fun C (q:C.N=85) hP=>?_
 have y:=aL hP
 unfold jN at h
 refine O.zR y fun K u=>?_
 iterate 2 (refine wC rfl fun K z=>?_;simp [q];apply z)
 apply wN;apply u
 refine O.zR y fun K u=>?_
 iterate 2 (refine wC rfl fun K z=>?_;simp [q];apply z)
 apply wN;apply u
 refine O.seq ?_
 refine O.zR y fun K u=>?_
 iterate 5 (refine wC rfl fun K z=>?_;simp [q];apply z)
 obtain ⟨r3,h4,h⟩:=bS h
 refine wL [(.take,.tmp 11),(.take,.const (.int .i64 0)),(.take,.tmp 15)] rfl rfl oW (aM _ _ _ h4) fun K z=>?_;simp [q];apply z
 refine wC rfl fun K z=>?_;simp [q];apply z
 apply wN;apply u
 rcases aA h with ⟨h5,h⟩ | ⟨h6,h⟩
 ·refine O.cT' (by simp) h5 ?_
  refine O.zR y fun K u=>?_
  iterate 2 (refine wC rfl fun K z=>?_;simp [q];apply z)
  apply wN;apply u
  cases h
  refine O.ret ?_
  simp [aC,iB,res46]
 ·refine O.cF' (by simp) h6 ?_
  refine O.skip ?_
  refine O.zR y fun K u=>?_
  iterate 3 (refine wC rfl fun K z=>?_;simp [q];apply z)
  obtain ⟨e7,h7,h⟩:=bS h
  obtain ⟨d8,d9,e0,e1⟩:=gS h7
  iterate 4 (refine wC rfl fun K z=>?_;simp [q,d8,d9,e0,e1];apply z)
  apply wN;apply u
  obtain ⟨c0,h8,h⟩:=bS h
  refine O.seqC [2,5,6] [2,6] (fun _:Unit=>⟨[(2,.ref (.box 2) 0 []),(5,.t (.sl true 3 (List.map GVar.enc c0))),(6,.ref (.box 6) 0 [])],[(2,[.sl false 4 (List.map (GNode.enc false) p1.Nodes),.sl false 5 (List.map (GFn.enc false) p1.Fns)]),(6,[vs e7.Name,.sl false 2 (List.map GParam.enc e7.Params),vi e7.Res,vi e7.Body,vi e7.Ret])]⟩) (fun _=>True) (fun _ _=>?_) fun K9 h9=>?_
  rotate_left
  ·refine O.zR y fun K u=>?_
   refine wC rfl fun K z=>?_;simp [q];apply z
   apply wN;apply u
   refine O.block ?_
   refine O.loopO [] [2,5,6,7] [2,6] (fun v:(List GVar) × Int=>⟨[(2,.ref (.box 2) 0 []),(5,.t (.sl true 3 (List.map GVar.enc v.1))),(6,.ref (.box 6) 0 []),(7,.t (vi v.2))],[(2,[.sl false 4 (List.map (GNode.enc false) p1.Nodes),.sl false 5 (List.map (GFn.enc false) p1.Fns)]),(6,[vs e7.Name,.sl false 2 (List.map GParam.enc e7.Params),vi e7.Res,vi e7.Body,vi e7.Ret])]⟩) (fA e7) _ ([],0) h8 (by simp [q]) ?_
   intro g i5 b9 e2
   obtain ⟨c8,h2⟩:=g
   simp only [fA] at b9
   try dsimp only
   refine O.seq ?_
   refine O.zR y fun K u=>?_
   iterate 5 (refine wC rfl fun K z=>?_;simp [q];apply z)
   apply wN;apply u
   rcases aA b9 with ⟨e3,b9⟩ | ⟨e4,b9⟩
   ·refine O.cT' (by simp) e3 ?_
    refine O.skip ?_
    refine O.seq ?_
    refine O.block ?_
    obtain ⟨a1,e5,b9⟩:=bS b9
    obtain ⟨a3,a4,a5,a6⟩:=gS e5
    refine O.dT rfl (y _ rfl) [(31,.al (.slot 5) 0 [] none),(32,.ref (.box 6) 1 []),(33,.t (.sl false 2 (List.map GParam.enc e7.Params))),(34,.t (vi h2)),(35,.rop [vs a1.Name,vi a1.Typ] 0),(36,.rop [vs a1.Name,vi a1.Typ] 0),(37,.t (vs a1.Name)),(38,.ref (.box 6) 1 []),(39,.t (.sl false 2 (List.map GParam.enc e7.Params))),(40,.t (vi h2)),(41,.rop [vs a1.Name,vi a1.Typ] 0),(42,.rop [vs a1.Name,vi a1.Typ] 1),(43,.t (vi a1.Typ)),(44,.t (.agg [vs a1.Name,vi a1.Typ,vi (-1)])),(45,.t (.sl true 3 (List.map GVar.enc [(⟨a1.Name,a1.Typ,(-1)⟩:GVar)])))] [[],[],[1],[],[1,2,3],[1,2,3,4],[1,2,3,4,5],[],[7],[],[7,8,9],[7,8,9,10],[7,8,9,10,11],[1,2,3,4,5,6,7,8,9,10,11,12],[1,2,3,4,5,6,7,8,9,10,11,12,13],[0,1,2,3,4,5,6,7,8,9,10,11,12,13,14],[0,1,2,3,4,5,6,7,8,9,10,11,12,13,14,15]] (by simp) (by simp) (by simp [look]) rfl rfl rfl ?_ fun K u=>?_
    ·refine ⟨?_,?_,?_,?_,?_,?_,?_,?_,?_,?_,?_,?_,?_,?_,?_,trivial⟩
     all_goals (intro τ hbx hb hd hf K u;try simp [aJ] at hd;simp [aJ] at hf;first | (refine wC rfl fun K' w=>?_;simp [q,hbx,hb,hd,hf,a3,a4,a5,a6];exact w _ (wN (u _ (by simp [aJ,hbx,a3,a4,a5,a6])))))
    obtain ⟨i0,e6,b9⟩:=bS b9
    obtain ⟨c1,c2,c9⟩:=aS e6
    have c3:List.map GVar.enc c8 ++ List.map GVar.enc [(⟨a1.Name,a1.Typ,(-1)⟩:GVar)]=List.map GVar.enc i0:=dJ (f:=GVar.enc) c9
    simp [eSl,GVar.enc] at c1 c2 c3
    iterate 2 (refine wC rfl fun K z=>?_;simp [q,a3,a4,a5,a6,c1,c2,c3];apply z)
    apply wN;apply u
    refine O.zG y fun K u=>?_
    iterate 3 (refine wC rfl fun K z=>?_;simp [q];apply z)
    apply wN;apply u
    cases b9
    exact ⟨_,[],rfl,by simp [q]⟩
   ·refine O.cF' (by simp) e4 ?_
    refine O.exit ?_
    have i1:=congrArg some (e2 _ (Option.some.inj b9).symm)
    cases i1
    exact h9 _ () [] trivial (by simp [q])
  refine O.zR y fun K u=>?_
  iterate 3 (refine wC rfl fun K z=>?_;simp [q];apply z)
  obtain ⟨h3,e8,h⟩:=bS h
  refine wL [(.take,.tmp 47),(.take,.tmp 49)] rfl rfl aOm (oJ _ _ e8) fun K z=>?_;simp [q];apply z
  refine wC rfl fun K z=>?_;simp [q];apply z
  apply wN;apply u
  obtain ⟨d0,e9,h⟩:=bS h
  refine O.seqC [5] [] (fun _:Unit=>⟨[(5,.t (.sl true 3 (List.map GVar.enc d0)))],[]⟩) (fun _=>True) (fun _ _=>?_) fun i6 g0=>?_
  rotate_left
  ·refine O.zR y fun K u=>?_
   refine wC rfl fun K z=>?_;simp [q];apply z
   apply wN;apply u
   refine O.block ?_
   refine O.loopO [] [2,5,8,9] [2] (fun v:(List GVar) × Int=>⟨[(2,.ref (.box 2) 0 []),(5,.t (.sl true 3 (List.map GVar.enc v.1))),(8,.t (.sl true 1 (List.map vi h3))),(9,.t (vi v.2))],[(2,[.sl false 4 (List.map (GNode.enc false) p1.Nodes),.sl false 5 (List.map (GFn.enc false) p1.Fns)])]⟩) (eZ p1 h3) _ (c0,0) e9 (by simp [q]) ?_
   intro g i7 a0 g1
   obtain ⟨d1,c7⟩:=g
   simp only [eZ] at a0
   try dsimp only
   refine O.seq ?_
   refine O.zR y fun K u=>?_
   iterate 4 (refine wC rfl fun K z=>?_;simp [q];apply z)
   apply wN;apply u
   rcases aA a0 with ⟨g2,a0⟩ | ⟨g3,a0⟩
   ·refine O.cT' (by simp) g2 ?_
    refine O.skip ?_
    refine O.seq ?_
    refine O.block ?_
    refine O.seq ?_
    obtain ⟨i2,g4,a0⟩:=bS a0
    obtain ⟨a7,a8,a9,b0⟩:=gS g4
    refine O.dT rfl (y _ rfl) [(57,.ref (.box 2) 0 []),(58,.t (.sl false 4 (List.map (GNode.enc false) p1.Nodes))),(59,.al (.slot 8) 0 [] none),(60,.t (vi c7)),(61,.ref (.slot 8) 0 [(c7.toNat,0)]),(62,.t (vi i2))] [[],[0],[],[],[2,3],[2,3,4],[0,1,2,3,4,5],[0,1,2,3,4,5,6],[0,1,2,3,4,5,6,7],[0,1,2,3,4,5,6,7,8]] (by simp) (by simp) (by simp [look]) rfl rfl rfl ?_ fun K u=>?_
    ·refine ⟨?_,?_,?_,?_,?_,?_,trivial⟩
     all_goals (intro τ hbx hb hd hf K u;try simp [aJ] at hd;simp [aJ] at hf;first | (refine wC rfl fun K' w=>?_;simp [q,hbx,hb,hd,hf,a7,a8,a9,b0];exact w _ (wN (u _ (by simp [aJ,hbx,a7,a8,a9,b0])))))
    obtain ⟨i8,g5,a0⟩:=bS a0
    obtain ⟨d2,d3,d4,d5⟩:=gS g5
    iterate 4 (refine wC rfl fun K z=>?_;simp [q,a7,a8,a9,b0,d2,d3,d4,d5];apply z)
    apply wN;apply u
    rcases aA a0 with ⟨g6,a0⟩ | ⟨g7,a0⟩
    ·refine O.cT' (by simp) g6 ?_
     obtain ⟨d6,g8,a0⟩:=bS a0
     obtain ⟨b1,b2,b3,b4⟩:=gS g8
     obtain ⟨a2,g9,a0⟩:=bS a0
     obtain ⟨b5,b6,b7,b8⟩:=gS g9
     refine O.dT rfl (y _ rfl) [(67,.al (.slot 5) 0 [] none),(68,.ref (.box 2) 0 []),(69,.t (.sl false 4 (List.map (GNode.enc false) p1.Nodes))),(70,.al (.slot 8) 0 [] none),(71,.t (vi c7)),(72,.ref (.slot 8) 0 [(c7.toNat,0)]),(73,.t (vi d6)),(74,.rop [vi a2.Kind,vi a2.Num,vs a2.Name,.sl false 1 (List.map vi a2.Kids)] 0),(75,.rop [vi a2.Kind,vi a2.Num,vs a2.Name,.sl false 1 (List.map vi a2.Kids)] 2),(76,.t (vs a2.Name)),(77,.al (.slot 8) 0 [] none),(78,.t (vi c7)),(79,.ref (.slot 8) 0 [(c7.toNat,0)]),(80,.t (vi d6)),(81,.t (.agg [vs a2.Name,vi 0,vi d6])),(82,.t (.sl true 3 (List.map GVar.enc [(⟨a2.Name,0,d6⟩:GVar)])))] [[],[],[1],[],[],[3,4],[3,4,5],[1,2,3,4,5,6],[1,2,3,4,5,6,7],[1,2,3,4,5,6,7,8],[],[],[10,11],[10,11,12],[1,2,3,4,5,6,7,8,9,10,11,12,13],[1,2,3,4,5,6,7,8,9,10,11,12,13,14],[0,1,2,3,4,5,6,7,8,9,10,11,12,13,14,15],[0,1,2,3,4,5,6,7,8,9,10,11,12,13,14,15,16]] (by simp) (by simp) (by simp [look]) rfl rfl rfl ?_ fun K u=>?_
     ·refine ⟨?_,?_,?_,?_,?_,?_,?_,?_,?_,?_,?_,?_,?_,?_,?_,?_,trivial⟩
      all_goals (intro τ hbx hb hd hf K u;try simp [aJ] at hd;simp [aJ] at hf;first | (refine wC rfl fun K' w=>?_;simp [q,hbx,hb,hd,hf,b1,b2,b3,b4,b5,b6,b7,b8];exact w _ (wN (u _ (by simp [aJ,hbx,b1,b2,b3,b4,b5,b6,b7,b8])))))
     obtain ⟨i3,h0,a0⟩:=bS a0
     obtain ⟨c4,c5,d7⟩:=aS h0
     have c6:List.map GVar.enc d1 ++ List.map GVar.enc [(⟨a2.Name,0,d6⟩:GVar)]=List.map GVar.enc i3:=dJ (f:=GVar.enc) d7
     simp [eSl,GVar.enc] at c4 c5 c6
     iterate 2 (refine wC rfl fun K z=>?_;simp [q,b1,b2,b3,b4,b5,b6,b7,b8,c4,c5,c6];apply z)
     apply wN;apply u
     refine O.zG y fun K u=>?_
     iterate 3 (refine wC rfl fun K z=>?_;simp [q];apply z)
     apply wN;apply u
     cases a0
     exact ⟨_,[],rfl,by simp [q]⟩
    ·refine O.cF' (by simp) g7 ?_
     refine O.skip ?_
     refine O.zG y fun K u=>?_
     iterate 3 (refine wC rfl fun K z=>?_;simp [q];apply z)
     apply wN;apply u
     cases a0
     exact ⟨_,[],rfl,by simp [q]⟩
   ·refine O.cF' (by simp) g3 ?_
    refine O.exit ?_
    have i4:=congrArg some (g1 _ (Option.some.inj a0).symm)
    cases i4
    exact g0 _ () [] trivial (by simp [q])
  refine O.zR y fun K u=>?_
  iterate 2 (refine wC rfl fun K z=>?_;simp [q];apply z)
  apply wN;apply u
  cases h
  refine O.ret ?_
  simp [aC,iB,res46]
theorem res47:Tryz.f47.results.toList=[.tmp 4]:=rfl
theorem ent47:aF E.P 47:=eO Tryz.func47 (by simp [Tryz.f47]) rfl
theorem sF (a0:List GVar) (a1:ByteArray) {r0:Int} (h:nM a0 a1=some r0):Ok E 47 [.val (.sl false 3 (List.map GVar.enc a0)),.val (vs a1)] [vi r0] []:=by
 refine oB Tryz.func47 rfl (by simp [Tryz.f47]) fun C (q:C.N=20) hP=>?_
 have u:=aL hP
 unfold nM at h
 refine O.zR u fun K w=>?_
 refine wC rfl fun K z=>?_;simp [q];apply z
 apply wN;apply w
 obtain ⟨j5,b2,h⟩:=bS h
 refine O.seqC [] [] (fun v:Unit=>⟨[],[]⟩) (fun v=>j5=Sum.inl v) (fun v hv=>?_) fun K4 b3=>?_
 rotate_left
 ·refine O.zR u fun K w=>?_
  refine wC rfl fun K z=>?_;simp [q];apply z
  apply wN;apply w
  refine O.block ?_
  refine O.loopO [] [0,1,5] [] (fun v:Int=>⟨[(0,.t (.sl false 3 (List.map GVar.enc a0))),(1,.t (vs a1)),(5,.t (vi v))],[]⟩) (oI a0 a1) _ 0 b2 (by simp [q]) ?_
  intro g s9 h7 b1
  obtain ⟨i6,hg⟩:∃ y,y=g:=⟨_,rfl⟩
  subst hg
  simp only [oI] at h7
  try dsimp only
  refine O.seq ?_
  refine O.zR u fun K w=>?_
  iterate 4 (refine wC rfl fun K z=>?_;simp [q];apply z)
  apply wN;apply w
  rcases aA h7 with ⟨a6,h7⟩ | ⟨a7,h7⟩
  ·refine O.cT' (by simp) a6 ?_
   refine O.skip ?_
   refine O.seq ?_
   refine O.block ?_
   refine O.zR u fun K w=>?_
   iterate 2 (refine wC rfl fun K z=>?_;simp [q];apply z)
   obtain ⟨b6,a8,h7⟩:=bS h7
   obtain ⟨a2,a3,a4,a5⟩:=gS a8
   iterate 5 (refine wC rfl fun K z=>?_;simp [q,a2,a3,a4,a5];apply z)
   apply wN;apply w
   rcases aA h7 with ⟨a9,h7⟩ | ⟨b0,h7⟩
   ·refine O.cT' (by simp) a9 ?_
    refine O.zR u fun K w=>?_
    iterate 2 (refine wC rfl fun K z=>?_;simp [q];apply z)
    apply wN;apply w
    have b4:=congrArg some (b1 _ (Option.some.inj h7).symm)
    cases b4
    try dsimp only at h
    cases h
    refine O.ret ?_
    simp [aC,iB,res47]
   ·refine O.cF' (by simp) b0 ?_
    refine O.skip ?_
    refine O.zG u fun K w=>?_
    iterate 3 (refine wC rfl fun K z=>?_;simp [q];apply z)
    apply wN;apply w
    cases h7
    exact ⟨_,[],rfl,by simp [q]⟩
  ·refine O.cF' (by simp) a7 ?_
   refine O.exit ?_
   have b5:=congrArg some (b1 _ (Option.some.inj h7).symm)
   cases b5
   exact b3 _ _ [] rfl (by simp [q])
 subst hv
 obtain ⟨⟩:=v
 try dsimp only at h ⊢
 refine O.zR u fun K w=>?_
 refine wC rfl fun K z=>?_;simp [q];apply z
 apply wN;apply w
 cases h
 refine O.ret ?_
 simp [aC,iB,res47]
theorem res82:Tryz.f82.results.toList=[.tmp 4]:=rfl
theorem ent82:aF E.P 82:=eO Tryz.func82 (by simp [Tryz.f82]) rfl
theorem rB (a0:List ByteArray) (s2:ByteArray) {r0:Bool} (h:jM a0 s2=some r0):Ok E 82 [.val (.sl false 1 (List.map vs a0)),.val (vs s2)] [vb r0] []:=by
 refine oB Tryz.func82 rfl (by simp [Tryz.f82]) fun C (q:C.N=18) hP=>?_
 have u:=aL hP
 unfold jM at h
 refine O.zR u fun K w=>?_
 refine wC rfl fun K z=>?_;simp [q];apply z
 apply wN;apply w
 obtain ⟨j5,b1,h⟩:=bS h
 refine O.seqC [] [] (fun v:Unit=>⟨[],[]⟩) (fun v=>j5=Sum.inl v) (fun v hv=>?_) fun K4 b2=>?_
 rotate_left
 ·refine O.zR u fun K w=>?_
  refine wC rfl fun K z=>?_;simp [q];apply z
  apply wN;apply w
  refine O.block ?_
  refine O.loopO [] [0,1,5] [] (fun v:Int=>⟨[(0,.t (.sl false 1 (List.map vs a0))),(1,.t (vs s2)),(5,.t (vi v))],[]⟩) (eX a0 s2) _ 0 b1 (by simp [q]) ?_
  intro g s9 h7 b0
  obtain ⟨i6,hg⟩:∃ y,y=g:=⟨_,rfl⟩
  subst hg
  simp only [eX] at h7
  try dsimp only
  refine O.seq ?_
  refine O.zR u fun K w=>?_
  iterate 4 (refine wC rfl fun K z=>?_;simp [q];apply z)
  apply wN;apply w
  rcases aA h7 with ⟨a5,h7⟩ | ⟨a6,h7⟩
  ·refine O.cT' (by simp) a5 ?_
   refine O.skip ?_
   refine O.seq ?_
   refine O.block ?_
   refine O.zR u fun K w=>?_
   iterate 2 (refine wC rfl fun K z=>?_;simp [q];apply z)
   obtain ⟨b5,a7,h7⟩:=bS h7
   obtain ⟨a1,a2,a3,a4⟩:=gS a7
   iterate 4 (refine wC rfl fun K z=>?_;simp [q,a1,a2,a3,a4];apply z)
   apply wN;apply w
   rcases aA h7 with ⟨a8,h7⟩ | ⟨a9,h7⟩
   ·refine O.cT' (by simp) a8 ?_
    refine O.zR u fun K w=>?_
    refine wC rfl fun K z=>?_;simp [q];apply z
    apply wN;apply w
    have b3:=congrArg some (b0 _ (Option.some.inj h7).symm)
    cases b3
    try dsimp only at h
    cases h
    refine O.ret ?_
    simp [aC,iB,res82]
   ·refine O.cF' (by simp) a9 ?_
    refine O.skip ?_
    refine O.zG u fun K w=>?_
    iterate 3 (refine wC rfl fun K z=>?_;simp [q];apply z)
    apply wN;apply w
    cases h7
    exact ⟨_,[],rfl,by simp [q]⟩
  ·refine O.cF' (by simp) a6 ?_
   refine O.exit ?_
   have b4:=congrArg some (b0 _ (Option.some.inj h7).symm)
   cases b4
   exact b2 _ _ [] rfl (by simp [q])
 subst hv
 obtain ⟨⟩:=v
 try dsimp only at h ⊢
 refine O.zR u fun K w=>?_
 refine wC rfl fun K z=>?_;simp [q];apply z
 apply wN;apply w
 cases h
 refine O.ret ?_
 simp [aC,iB,res82]
end Go.Proofs.T
