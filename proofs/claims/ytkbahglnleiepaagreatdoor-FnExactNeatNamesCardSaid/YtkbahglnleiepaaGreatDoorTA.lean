import Derived.Test.YtkbahglnleiepaaGreatDoorOmC
import Derived.Lib.Split
import Derived.Lib.ItoaNum
import Derived.Test.YtkbahglnleiepaaGreatDoorProg
import Derived.KernelRfl
set_option linter.unusedVariables false
set_option linter.unusedSimpArgs false
set_option linter.unusedVariables false
noncomputable section
namespace Go.OM
def strconv_Itoa (n:Int):Option ByteArray:=if -9223372036854775808 ≤ n∧n ≤ 9223372036854775807 then some ⟨(Lib.itoa n).toArray⟩ else none
def strings_Split (s sep:ByteArray):Option (List ByteArray):=if s.size < 4294967281∧1 ≤ sep.size∧(Lib.splitB sep 0 (Lib.countB s sep) s).length=Lib.countB s sep + 1 then some (Lib.splitB sep 0 (Lib.countB s sep) s) else none
end Go.OM
end
namespace Go.OM
def sort_Ints (l:List Int):Option (List Int):=if l.length < 4611686018427387904 then some (l.mergeSort fun x y=>decide (x ≤ y)) else none
end Go.OM
set_option linter.unusedSimpArgs false
namespace Go.OM
def iR:Nat:=1048576
abbrev vi (n:Int):T:=.v (.int .i64 n)
abbrev vk (k:IntKind) (n:Int):T:=.v (.int k n)
abbrev vb (b:Bool):T:=.v (.bool b)
abbrev vs (z:ByteArray):T:=.v (.string z)
abbrev eSl {α:Type} (o:Bool) (s:Nat) (f:α→T) (l:List α):T:=.sl o s (l.map f)
@[simp] theorem own_vi (l:List Int):T.hasOwnL (l.map vi)=false:=cV vi (fun _=>rfl) l
@[simp] theorem own_vk (k:IntKind) (l:List Int):T.hasOwnL (l.map (vk k))=false:=cV _ (fun _=>rfl) l
@[simp] theorem own_vb (l:List Bool):T.hasOwnL (l.map vb)=false:=cV _ (fun _=>rfl) l
@[simp] theorem own_vs (l:List ByteArray):T.hasOwnL (l.map vs)=false:=cV _ (fun _=>rfl) l
@[simp] theorem ro_vi (l:List Int):T.roL (l.map vi)=l.map vi:=jM _ _ (fun _=>rfl) l
@[simp] theorem ro_vk (k:IntKind) (l:List Int):T.roL (l.map (vk k))=l.map (vk k):=jM _ _ (fun _=>rfl) l
@[simp] theorem ro_vb (l:List Bool):T.roL (l.map vb)=l.map vb:=jM _ _ (fun _=>rfl) l
@[simp] theorem ro_vs (l:List ByteArray):T.roL (l.map vs)=l.map vs:=jM _ _ (fun _=>rfl) l
@[simp] theorem noRo_vi (l:List Int):T.noRoL (l.map vi)=true:=fJ _ (fun _=>rfl) l
@[simp] theorem noRo_vk (k:IntKind) (l:List Int):T.noRoL (l.map (vk k))=true:=fJ _ (fun _=>rfl) l
@[simp] theorem noRo_vb (l:List Bool):T.noRoL (l.map vb)=true:=fJ _ (fun _=>rfl) l
@[simp] theorem noRo_vs (l:List ByteArray):T.noRoL (l.map vs)=true:=fJ _ (fun _=>rfl) l
@[simp] theorem own_eSl {α:Type} {s:Nat} {f:α→T} (h:∀ l:List α,T.hasOwnL (l.map f)=false) (l:List (List α)):T.hasOwnL (l.map (eSl false s f))=false:=cV _ (fun x=>by simp [h x]) l
@[simp] theorem ro_eSl {α:Type} {o:Bool} {s:Nat} {f:α→T} (h:∀ l:List α,T.roL (l.map f)=l.map f) (l:List (List α)):T.roL (l.map (eSl o s f))=l.map (eSl false s f):=jM _ _ (fun x=>by simp [h x]) l
@[simp] theorem noRo_eSl {α:Type} {s:Nat} {f:α→T} (h:∀ l:List α,T.noRoL (l.map f)=true) (l:List (List α)):T.noRoL (l.map (eSl true s f))=true:=fJ _ (fun x=>by simp [h x]) l
theorem aA {α:Type} {c:Prop} [Decidable c] {a b:Option α} {r:α} (h:(if c then a else b)=some r):(c∧a=some r) ∨ (¬ c∧b=some r):=by
 by_cases hc:c
 ·rw [if_pos hc] at h;exact .inl ⟨hc,h⟩
 ·rw [if_neg hc] at h;exact .inr ⟨hc,h⟩
structure GNode where
 Kind:Int
 Num:Int
 Name:ByteArray
 Kids:List Int
 deriving DecidableEq
def GNode.enc (o:Bool) (x:GNode):T:=.agg [vi x.Kind,vi x.Num,vs x.Name,.sl o 1 (List.map vi x.Kids)]
@[simp] theorem GNode.own (x:GNode):(x.enc false).hasOwn=false:=by simp [GNode.enc]
@[simp] theorem GNode.ownT (x:GNode):(x.enc true).hasOwn=true:=by simp [GNode.enc]
@[simp] theorem GNode.ownL (l:List GNode):T.hasOwnL (l.map (GNode.enc false))=false:=cV _ (fun x=>by simp) l
@[simp] theorem GNode.ro1 (o:Bool) (x:GNode):(x.enc o).ro=x.enc false:=by cases o<;>simp [GNode.enc,T.roL_map,Function.comp_def]
@[simp] theorem GNode.roL (o:Bool) (l:List GNode):T.roL (l.map (GNode.enc o))=l.map (GNode.enc false):=jM _ _ (fun x=>by simp) l
@[simp] theorem GNode.noRo (x:GNode):(x.enc true).noRo=true:=by simp [GNode.enc]
@[simp] theorem GNode.noRoL (l:List GNode):T.noRoL (l.map (GNode.enc true))=true:=fJ _ (fun x=>by simp) l
structure GParam where
 Name:ByteArray
 Typ:Int
 deriving DecidableEq
def GParam.enc (x:GParam):T:=.agg [vs x.Name,vi x.Typ]
@[simp] theorem GParam.own (x:GParam):x.enc.hasOwn=false:=by simp [GParam.enc]
@[simp] theorem GParam.ownL (l:List GParam):T.hasOwnL (l.map GParam.enc)=false:=cV _ (fun x=>by simp) l
@[simp] theorem GParam.ro1 (x:GParam):x.enc.ro=x.enc:=by simp [GParam.enc]
@[simp] theorem GParam.roL (l:List GParam):T.roL (l.map GParam.enc)=l.map GParam.enc:=jM _ _ (fun x=>by simp) l
@[simp] theorem GParam.noRo (x:GParam):x.enc.noRo=true:=by simp [GParam.enc]
@[simp] theorem GParam.noRoL (l:List GParam):T.noRoL (l.map GParam.enc)=true:=fJ _ (fun x=>by simp) l
structure GFn where
 Name:ByteArray
 Params:List GParam
 Res:Int
 Body:Int
 Ret:Int
 deriving DecidableEq
def GFn.enc (o:Bool) (x:GFn):T:=.agg [vs x.Name,.sl o 2 (List.map GParam.enc x.Params),vi x.Res,vi x.Body,vi x.Ret]
@[simp] theorem GFn.own (x:GFn):(x.enc false).hasOwn=false:=by simp [GFn.enc]
@[simp] theorem GFn.ownT (x:GFn):(x.enc true).hasOwn=true:=by simp [GFn.enc]
@[simp] theorem GFn.ownL (l:List GFn):T.hasOwnL (l.map (GFn.enc false))=false:=cV _ (fun x=>by simp) l
@[simp] theorem GFn.ro1 (o:Bool) (x:GFn):(x.enc o).ro=x.enc false:=by cases o<;>simp [GFn.enc,T.roL_map,Function.comp_def]
@[simp] theorem GFn.roL (o:Bool) (l:List GFn):T.roL (l.map (GFn.enc o))=l.map (GFn.enc false):=jM _ _ (fun x=>by simp) l
@[simp] theorem GFn.noRo (x:GFn):(x.enc true).noRo=true:=by simp [GFn.enc]
@[simp] theorem GFn.noRoL (l:List GFn):T.noRoL (l.map (GFn.enc true))=true:=fJ _ (fun x=>by simp) l
structure GProgram where
 Nodes:List GNode
 Fns:List GFn
 deriving DecidableEq
def GProgram.enc (o:Bool) (x:GProgram):T:=.agg [.sl o 4 (List.map (GNode.enc o) x.Nodes),.sl o 5 (List.map (GFn.enc o) x.Fns)]
@[simp] theorem GProgram.own (x:GProgram):(x.enc false).hasOwn=false:=by simp [GProgram.enc]
@[simp] theorem GProgram.ownT (x:GProgram):(x.enc true).hasOwn=true:=by simp [GProgram.enc]
@[simp] theorem GProgram.ownL (l:List GProgram):T.hasOwnL (l.map (GProgram.enc false))=false:=cV _ (fun x=>by simp) l
@[simp] theorem GProgram.ro1 (o:Bool) (x:GProgram):(x.enc o).ro=x.enc false:=by cases o<;>simp [GProgram.enc,T.roL_map,Function.comp_def]
@[simp] theorem GProgram.roL (o:Bool) (l:List GProgram):T.roL (l.map (GProgram.enc o))=l.map (GProgram.enc false):=jM _ _ (fun x=>by simp) l
@[simp] theorem GProgram.noRo (x:GProgram):(x.enc true).noRo=true:=by simp [GProgram.enc]
@[simp] theorem GProgram.noRoL (l:List GProgram):T.noRoL (l.map (GProgram.enc true))=true:=fJ _ (fun x=>by simp) l
structure GVar where
 Name:ByteArray
 Typ:Int
 Node:Int
 deriving DecidableEq
def GVar.enc (x:GVar):T:=.agg [vs x.Name,vi x.Typ,vi x.Node]
@[simp] theorem GVar.own (x:GVar):x.enc.hasOwn=false:=by simp [GVar.enc]
@[simp] theorem GVar.ownL (l:List GVar):T.hasOwnL (l.map GVar.enc)=false:=cV _ (fun x=>by simp) l
@[simp] theorem GVar.ro1 (x:GVar):x.enc.ro=x.enc:=by simp [GVar.enc]
@[simp] theorem GVar.roL (l:List GVar):T.roL (l.map GVar.enc)=l.map GVar.enc:=jM _ _ (fun x=>by simp) l
@[simp] theorem GVar.noRo (x:GVar):x.enc.noRo=true:=by simp [GVar.enc]
@[simp] theorem GVar.noRoL (l:List GVar):T.noRoL (l.map GVar.enc)=true:=fJ _ (fun x=>by simp) l
structure Gl07Seen where
 p:GProgram
 fn:Int
 there:List ByteArray
 bad:Bool
 deriving DecidableEq
def Gl07Seen.enc (o:Bool) (x:Gl07Seen):T:=.agg [.sl o 4 (List.map (GNode.enc o) x.p.Nodes),.sl o 5 (List.map (GFn.enc o) x.p.Fns),vi x.fn,.sl o 1 (List.map vs x.there),vb x.bad]
@[simp] theorem Gl07Seen.own (x:Gl07Seen):(x.enc false).hasOwn=false:=by simp [Gl07Seen.enc]
@[simp] theorem Gl07Seen.ownT (x:Gl07Seen):(x.enc true).hasOwn=true:=by simp [Gl07Seen.enc]
@[simp] theorem Gl07Seen.ownL (l:List Gl07Seen):T.hasOwnL (l.map (Gl07Seen.enc false))=false:=cV _ (fun x=>by simp) l
@[simp] theorem Gl07Seen.ro1 (o:Bool) (x:Gl07Seen):(x.enc o).ro=x.enc false:=by cases o<;>simp [Gl07Seen.enc,T.roL_map,Function.comp_def]
@[simp] theorem Gl07Seen.roL (o:Bool) (l:List Gl07Seen):T.roL (l.map (Gl07Seen.enc o))=l.map (Gl07Seen.enc false):=jM _ _ (fun x=>by simp) l
@[simp] theorem Gl07Seen.noRo (x:Gl07Seen):(x.enc true).noRo=true:=by simp [Gl07Seen.enc]
@[simp] theorem Gl07Seen.noRoL (l:List Gl07Seen):T.noRoL (l.map (Gl07Seen.enc true))=true:=fJ _ (fun x=>by simp) l
attribute [simp] GNode.enc GParam.enc GFn.enc GProgram.enc GVar.enc Gl07Seen.enc
end Go.OM
noncomputable section
namespace Go.OM
def mQ (a1:List Int) (a0:Int):Option (Int) :=
 if (decide (IntKind.wrap .i64 (a0 - (a1.length:Int)) < 0))=true then
  some (-1)
 else
  some (IntKind.wrap .i64 (a0 - (a1.length:Int)))
def mP (a1:GNode) (a0:Int):Option (Int) :=
 if (decide (IntKind.wrap .i64 (a0 - (a1.Name.size:Int)) < 0))=true then
  some (-1)
 else
  (mQ a1.Kids (IntKind.wrap .i64 (a0 - (a1.Name.size:Int)))).bind fun r5 =>
  if (decide (r5 < 0))=true then
   some (-1)
  else
   some r5
def dO (a1:List GNode):(Int × Int)→Option ((Int × Int) ⊕ ((Int) ⊕ (Int))):=fun ⟨a0,i9⟩ =>
 if (decide (i9 < (a1.length:Int)))=true then
  (aJ a1 i9).bind fun a3 =>
  (mP a3 a0).bind fun a2 =>
  if (decide (a2 < 0))=true then
   some (Sum.inr (Sum.inr (-1)))
  else
   some (Sum.inl (a2,IntKind.wrap .i64 (i9 + 1)))
 else
  some (Sum.inr (Sum.inl a0))
def lF (a1:List GNode) (a0:Int):Option (Int) :=
 if (decide (IntKind.wrap .i64 (a0 - (a1.length:Int)) < 0))=true then
  some (-1)
 else
  Option.bind (
   aG (dO a1) (IntKind.wrap .i64 (a0 - (a1.length:Int)),0)) fun j7 =>
  match j7 with
  | Sum.inr z=>some z
  | Sum.inl a2 =>
   some a2
def lE (a1:GParam) (a0:Int):Option (Int) :=
 if (decide (IntKind.wrap .i64 (a0 - (a1.Name.size:Int)) < 0))=true then
  some (-1)
 else
  some (IntKind.wrap .i64 (a0 - (a1.Name.size:Int)))
def cR (a1:List GParam):(Int × Int)→Option ((Int × Int) ⊕ ((Int) ⊕ (Int))):=fun ⟨a0,i9⟩ =>
 if (decide (i9 < (a1.length:Int)))=true then
  (aJ a1 i9).bind fun a3 =>
  (lE a3 a0).bind fun a2 =>
  if (decide (a2 < 0))=true then
   some (Sum.inr (Sum.inr (-1)))
  else
   some (Sum.inl (a2,IntKind.wrap .i64 (i9 + 1)))
 else
  some (Sum.inr (Sum.inl a0))
def jQ (a1:List GParam) (a0:Int):Option (Int) :=
 if (decide (IntKind.wrap .i64 (a0 - (a1.length:Int)) < 0))=true then
  some (-1)
 else
  Option.bind (
   aG (cR a1) (IntKind.wrap .i64 (a0 - (a1.length:Int)),0)) fun j7 =>
  match j7 with
  | Sum.inr z=>some z
  | Sum.inl a2 =>
   some a2
def qX (a1:GFn) (a0:Int):Option (Int) :=
 if (decide (IntKind.wrap .i64 (a0 - (a1.Name.size:Int)) < 0))=true then
  some (-1)
 else
  (jQ a1.Params (IntKind.wrap .i64 (a0 - (a1.Name.size:Int)))).bind fun r5 =>
  if (decide (r5 < 0))=true then
   some (-1)
  else
   some r5
def fG (a1:List GFn):(Int × Int)→Option ((Int × Int) ⊕ ((Int) ⊕ (Int))):=fun ⟨a0,i9⟩ =>
 if (decide (i9 < (a1.length:Int)))=true then
  (aJ a1 i9).bind fun a3 =>
  (qX a3 a0).bind fun a2 =>
  if (decide (a2 < 0))=true then
   some (Sum.inr (Sum.inr (-1)))
  else
   some (Sum.inl (a2,IntKind.wrap .i64 (i9 + 1)))
 else
  some (Sum.inr (Sum.inl a0))
def oR (a1:List GFn) (a0:Int):Option (Int) :=
 if (decide (IntKind.wrap .i64 (a0 - (a1.length:Int)) < 0))=true then
  some (-1)
 else
  Option.bind (
   aG (fG a1) (IntKind.wrap .i64 (a0 - (a1.length:Int)),0)) fun j7 =>
  match j7 with
  | Sum.inr z=>some z
  | Sum.inl a2 =>
   some a2
def iI (a1:GProgram) (a0:Int):Option (Int) :=
 (lF a1.Nodes a0).bind fun r3 =>
 if (decide (r3 < 0))=true then
  some (-1)
 else
  (oR a1.Fns r3).bind fun r7 =>
  if (decide (r7 < 0))=true then
   some (-1)
  else
   some r7
def aY (x1:Int) (a0:Int) (a1:Int):Option (Bool) :=
 Option.bind (
  if (decide (x1 ≥ a0))=true then
   some (decide (x1 ≤ a1))
  else
   some false) fun v8 =>
 some v8
def fM (b1:Int):Option (Bool) :=
 Option.bind (
  if (decide (b1 ≥ 97))=true then
   some (decide (b1 ≤ 122))
  else
   some false) fun v6 =>
 some v6
def nL:Option (List ByteArray) :=
 some [(⟨#[102,110]⟩:ByteArray),(⟨#[108,101,116]⟩:ByteArray),(⟨#[105,102]⟩:ByteArray),(⟨#[101,108,115,101]⟩:ByteArray),(⟨#[119,104,105,108,101]⟩:ByteArray),(⟨#[112,114,105,110,116]⟩:ByteArray),(⟨#[100,111]⟩:ByteArray),(⟨#[110,101,119]⟩:ByteArray),(⟨#[99,108,111,110,101]⟩:ByteArray),(⟨#[109,117,116]⟩:ByteArray),(⟨#[105,110,112,117,116]⟩:ByteArray),(⟨#[105,110,116]⟩:ByteArray),(⟨#[98,111,120]⟩:ByteArray),(⟨#[114,101,116]⟩:ByteArray)]
def gH (s1:ByteArray) (r2:List ByteArray):Int→Option ((Int) ⊕ ((Unit) ⊕ (Bool))):=fun i7 =>
 if (decide (i7 < (r2.length:Int)))=true then
  (aJ r2 i7).bind fun a0 =>
  if (sEq a0 s1)=true then
   some (Sum.inr (Sum.inr true))
  else
   some (Sum.inl (IntKind.wrap .i64 (i7 + 1)))
 else
  some (Sum.inr (Sum.inl ()))
def kV (s1:ByteArray):Option (Bool) :=
 (nL ).bind fun r2 =>
 Option.bind (
  aG (gH s1 r2) 0) fun j6 =>
 match j6 with
 | Sum.inr z=>some z
 | Sum.inl () =>
  some false
def iD (b1:Int):Option (Bool) :=
 Option.bind (
  if (decide (b1 ≥ 48))=true then
   some (decide (b1 ≤ 57))
  else
   some false) fun v6 =>
 some v6
def fR (s1:ByteArray):Int→Option ((Int) ⊕ ((Unit) ⊕ (Bool))):=fun a0 =>
 if (decide (a0 < (s1.size:Int)))=true then
  Option.bind (
   (sAt s1 a0).bind fun a1 =>
   (fM a1).bind fun a2 =>
   if (!a2)=true then
    (iD a1).bind fun a3 =>
    some (!a3)
   else
    some false) fun a4 =>
  if a4=true then
   some (Sum.inr (Sum.inr false))
  else
   some (Sum.inl (IntKind.wrap .i64 (a0 + 1)))
 else
  some (Sum.inr (Sum.inl ()))
def iQ (s1:ByteArray):Option (Bool) :=
 Option.bind (
  (aY (s1.size:Int) 1 8).bind fun r4 =>
  if (!r4)=true then
   some true
  else
   (sAt s1 0).bind fun c8 =>
   (fM c8).bind fun r9 =>
   if (!r9)=true then
    some true
   else
    (kV s1).bind fun a0 =>
    some a0) fun a1 =>
 if a1=true then
  some false
 else
  Option.bind (
   aG (fR s1) 0) fun a2 =>
  match a2 with
  | Sum.inr z=>some z
  | Sum.inl () =>
   some true
def kS (a0:Int):Option (Int × Int) :=
 Option.bind (
  if (a0 == 8)=true then
   some (a0 == 8)
  else
   if (a0 == 13)=true then
    some (a0 == 13)
   else
    if (a0 == 14)=true then
     some (a0 == 14)
    else
     if (a0 == 15)=true then
      some (a0 == 15)
     else
      if (a0 == 18)=true then
       some (a0 == 18)
      else
       some (a0 == 19)) fun a1 =>
 if a1=true then
  some (1,1)
 else
  Option.bind (
   if (a0 == 9)=true then
    some (a0 == 9)
   else
    if (a0 == 10)=true then
     some (a0 == 10)
    else
     if (a0 == 11)=true then
      some (a0 == 11)
     else
      some (a0 == 17)) fun a2 =>
  if a2=true then
   some (2,2)
  else
   if (a0 == 12)=true then
    some (0,3)
   else
    if (a0 == 16)=true then
     some (3,3)
    else
     if (a0 == 20)=true then
      some (0,12)
     else
      some (0,0)
def jK (a0:Int):Option (Bool) :=
 Option.bind (
  if (a0 == 2)=true then
   some (a0 == 2)
  else
   if (a0 == 3)=true then
    some (a0 == 3)
   else
    if (a0 == 4)=true then
     some (a0 == 4)
    else
     if (a0 == 5)=true then
      some (a0 == 5)
     else
      if (a0 == 6)=true then
       some (a0 == 6)
      else
       if (a0 == 12)=true then
        some (a0 == 12)
       else
        if (a0 == 13)=true then
         some (a0 == 13)
        else
         if (a0 == 14)=true then
          some (a0 == 14)
         else
          some (a0 == 15)) fun a1 =>
 if a1=true then
  some true
 else
  some false
def fF (a0:Int):Option (Bool) :=
 (aY a0 1 12).bind fun r2 =>
 some r2
def eS (a0:Int):Option (Bool) :=
 (aY a0 13 19).bind fun r2 =>
 some r2
def kT (a0:Int) (a2:Int) (a1:Int):Option (Bool) :=
 if (a0 == 20)=true then
  (eS a1).bind fun r6 =>
  some r6
 else
  Option.bind (
   if (a0 == 16)=true then
    some (a0 == 16)
   else
    some (a0 == 17)) fun a3 =>
  if a3=true then
   if (decide (a2 > 0))=true then
    some (a1 == 20)
   else
    (fF a1).bind fun a4 =>
    some a4
  else
   if (a0 == 19)=true then
    some (a1 == 12)
   else
    (fF a1).bind fun a5 =>
    some a5
def fP (a1:GNode) (a2:Int):Int→Option ((Int) ⊕ ((Unit) ⊕ ((Int) ⊕ ((Unit) ⊕ (Bool))))):=fun a0 =>
 if (decide (a0 < a2))=true then
  (aJ a1.Kids a2).bind fun a3 =>
  (aJ a1.Kids a0).bind fun a4 =>
  if (a3 == a4)=true then
   some (Sum.inr (Sum.inr (Sum.inr (Sum.inr false))))
  else
   some (Sum.inl (IntKind.wrap .i64 (a0 + 1)))
 else
  some (Sum.inr (Sum.inl ()))
def fQ (a0:List GNode) (k2:Int) (a2:GNode):Int→Option ((Int) ⊕ ((Unit) ⊕ (Bool))):=fun a1 =>
 if (decide (a1 < (a2.Kids.length:Int)))=true then
  Option.bind (
   Option.bind (
    (aJ a2.Kids a1).bind fun a3 =>
    (aY a3 0 (IntKind.wrap .i64 (k2 - 1))).bind fun a4 =>
    if (!a4)=true then
     some true
    else
     (aJ a0 a3).bind fun a5 =>
     (kT a2.Kind a1 a5.Kind).bind fun a6 =>
     some (!a6)) fun a7 =>
   if a7=true then
    some (Sum.inr (Sum.inr (Sum.inr false)))
   else
    aG (fP a2 a1) 0) fun a8 =>
  match a8 with
  | Sum.inr z=>some z
  | Sum.inl () =>
   some (Sum.inl (IntKind.wrap .i64 (a1 + 1)))
 else
  some (Sum.inr (Sum.inl ()))
def mK (a0:List GNode) (k2:Int):Option (Bool) :=
 Option.bind (
  (aY k2 0 (IntKind.wrap .i64 ((a0.length:Int) - 1))).bind fun r5 =>
  if (!r5)=true then
   some true
  else
   (aJ a0 k2).bind fun e9 =>
   (aY e9.Kind 1 20).bind fun a2 =>
   some (!a2)) fun a3 =>
 if a3=true then
  some false
 else
  (aJ a0 k2).bind fun a1 =>
  (kS a1.Kind).bind fun ⟨a4,a5⟩ =>
  Option.bind (
   (aY (a1.Kids.length:Int) a4 a5).bind fun a6 =>
   if (!a6)=true then
    some true
   else
    (aY a1.Num 0 1000000000).bind fun a7 =>
    if (!a7)=true then
     some true
    else
     if (a1.Kind != 1)=true then
      some (a1.Num != 0)
     else
      some false) fun a8 =>
  if a8=true then
   some false
  else
   Option.bind (
    (jK a1.Kind).bind fun a9 =>
    if (!(a9 == (!(sEq a1.Name (⟨#[]⟩:ByteArray)))))=true then
     some true
    else
     if (!(sEq a1.Name (⟨#[]⟩:ByteArray)))=true then
      (iQ a1.Name).bind fun b0 =>
      some (!b0)
     else
      some false) fun b1 =>
   if b1=true then
    some false
   else
    Option.bind (
     aG (fQ a0 k2 a1) 0) fun b2 =>
    match b2 with
    | Sum.inr z=>some z
    | Sum.inl () =>
     some true
def bH (a1:List GNode) (a2:List Int) (i7:Int):(Int × Int)→Option ((Int × Int) ⊕ (Int)):=fun ⟨a0,a3⟩ =>
 Option.bind (
  if (decide (a0 > 0))=true then
   (aJ a1 i7).bind fun a4 =>
   some (decide (a3 < (a4.Kids.length:Int)))
  else
   some false) fun a5 =>
 if a5=true then
  (aJ a1 i7).bind fun a6 =>
  (aJ a6.Kids a3).bind fun a7 =>
  (aJ a2 a7).bind fun a8 =>
  if (decide (IntKind.wrap .i64 (a8 + 1) > a0))=true then
   (aJ a1 i7).bind fun a9 =>
   (aJ a9.Kids a3).bind fun b0 =>
   (aJ a2 b0).bind fun b1 =>
   some (Sum.inl (IntKind.wrap .i64 (b1 + 1),IntKind.wrap .i64 (a3 + 1)))
  else
   some (Sum.inl (a0,IntKind.wrap .i64 (a3 + 1)))
 else
  some (Sum.inr a0)
def dW (a0:List GNode) (k2:Int):((List Int) × Int)→Option (((List Int) × Int) ⊕ (List Int)):=fun ⟨a2,i7⟩ =>
 Option.bind (
  if (decide (i7 ≤ k2))=true then
   some (decide (i7 < (a0.length:Int)))
  else
   some false) fun a6 =>
 if a6=true then
  Option.bind (
   Option.bind (
    Option.bind (
     (mK a0 i7).bind fun a7 =>
     if (!a7)=true then
      some true
     else
      if (decide (i7 > 0))=true then
       (aJ a2 (IntKind.wrap .i64 (i7 - 1))).bind fun a8 =>
       some (a8 == 0)
      else
       some false) fun a9 =>
    if a9=true then
     some 0
    else
     some 1) fun a3 =>
   Option.bind (
    aG (bH a0 a2 i7) (a3,0)) fun a1 =>
   Option.bind (
    if (decide (a1 > 10))=true then
     some 0
    else
     some a1) fun a4 =>
   (mF 8 a2 [a4]).bind fun b0 =>
   some b0) fun a5 =>
  some (Sum.inl (a5,IntKind.wrap .i64 (i7 + 1)))
 else
  some (Sum.inr a2)
def gO (a0:List GNode) (k2:Int):Option (List Int) :=
 Option.bind (
  aG (dW a0 k2) ([],0)) fun a1 =>
 some a1
def eQ (a0:List GNode) (i7:Int):((List Int) × Int)→Option (((List Int) × Int) ⊕ (List Int)):=fun ⟨a1,a2⟩ =>
 (aJ a0 i7).bind fun a4 =>
 if (decide (a2 < (a4.Kids.length:Int)))=true then
  (aJ a0 i7).bind fun a5 =>
  (aJ a5.Kids a2).bind fun a3 =>
  (aJ a1 a3).bind fun a6 =>
  hO (List.set a1 a3.toNat (IntKind.wrap .i64 (a6 + 1))) fun a7 =>
  some (Sum.inl (a7,IntKind.wrap .i64 (a2 + 1)))
 else
  some (Sum.inr a1)
def eR (a0:List GNode):((List Int) × Int)→Option (((List Int) × Int) ⊕ (List Int)):=fun ⟨a1,i7⟩ =>
 if (decide (i7 < (a0.length:Int)))=true then
  Option.bind (
   aG (eQ a0 i7) (a1,0)) fun a2 =>
  some (Sum.inl (a2,IntKind.wrap .i64 (i7 + 1)))
 else
  some (Sum.inr a1)
def kR (a0:List GNode):Option (List Int) :=
 (mkI 8 (a0.length:Int) 0).bind fun l2 =>
 Option.bind (
  aG (eR a0) (l2,0)) fun a1 =>
 some a1
def qP (p1:GProgram) (a0:ByteArray):Int→Option ((Int) ⊕ ((Unit) ⊕ (Int))):=fun i6 =>
 if (decide (i6 < (p1.Fns.length:Int)))=true then
  (aJ p1.Fns i6).bind fun a1 =>
  if (sEq a1.Name a0)=true then
   some (Sum.inr (Sum.inr i6))
  else
   some (Sum.inl (IntKind.wrap .i64 (i6 + 1)))
 else
  some (Sum.inr (Sum.inl ()))
def oK (p1:GProgram) (a0:ByteArray):Option (Int) :=
 Option.bind (
  aG (qP p1 a0) 0) fun j5 =>
 match j5 with
 | Sum.inr z=>some z
 | Sum.inl () =>
  some (-1)
def gN (e3:GFn):Int→Option ((Int) ⊕ ((Unit) ⊕ (Bool))):=fun a0 =>
 if (decide (a0 < (e3.Params.length:Int)))=true then
  Option.bind (
   (aJ e3.Params a0).bind fun a1 =>
   (iQ a1.Name).bind fun a2 =>
   if (!a2)=true then
    some true
   else
    (aY a1.Typ 1 4).bind fun a3 =>
    some (!a3)) fun a4 =>
  if a4=true then
   some (Sum.inr (Sum.inr false))
  else
   some (Sum.inl (IntKind.wrap .i64 (a0 + 1)))
 else
  some (Sum.inr (Sum.inl ()))
def oG (p1:GProgram) (i2:Int):Option (Bool) :=
 (aJ p1.Fns i2).bind fun e3 =>
 Option.bind (
  (iQ e3.Name).bind fun r6 =>
  if (!r6)=true then
   some true
  else
   (oK p1 e3.Name).bind fun a0 =>
   if (a0 != i2)=true then
    some true
   else
    if (decide ((e3.Params.length:Int) > 3))=true then
     some true
    else
     (aY e3.Res 0 2).bind fun a1 =>
     some (!a1)) fun a2 =>
 if a2=true then
  some false
 else
  Option.bind (
   aG (gN e3) 0) fun a3 =>
  match a3 with
  | Sum.inr z=>some z
  | Sum.inl () =>
   Option.bind (
    (aY e3.Body 0 (IntKind.wrap .i64 ((p1.Nodes.length:Int) - 1))).bind fun a4 =>
    if (!a4)=true then
     some true
    else
     (aJ p1.Nodes e3.Body).bind fun a5 =>
     some (a5.Kind != 20)) fun a6 =>
   if a6=true then
    some false
   else
    if (e3.Res == 0)=true then
     some (e3.Ret == (-1))
    else
     Option.bind (
      (aY e3.Ret 0 (IntKind.wrap .i64 ((p1.Nodes.length:Int) - 1))).bind fun a7 =>
      if a7=true then
       (aJ p1.Nodes e3.Ret).bind fun a8 =>
       (fF a8.Kind).bind fun a9 =>
       some a9
      else
       some false) fun b0 =>
     some b0
def bM (p1:GProgram):((List Int) × Int)→Option (((List Int) × Int) ⊕ ((List Int) ⊕ (Bool))):=fun ⟨a0,a1⟩ =>
 if (decide (a1 < (p1.Fns.length:Int)))=true then
  (oG p1 a1).bind fun a5 =>
  if (!a5)=true then
   some (Sum.inr (Sum.inr false))
  else
   (aJ p1.Fns a1).bind fun a3 =>
   (aJ a0 a3.Body).bind fun a6 =>
   hO (List.set a0 a3.Body.toNat (IntKind.wrap .i64 (a6 + 1000))) fun a2 =>
   (aJ p1.Fns a1).bind fun a7 =>
   if (decide (a7.Ret ≥ 0))=true then
    (aJ p1.Fns a1).bind fun a4 =>
    (aJ a2 a4.Ret).bind fun a8 =>
    hO (List.set a2 a4.Ret.toNat (IntKind.wrap .i64 (a8 + 1000))) fun a9 =>
    some (Sum.inl (a9,IntKind.wrap .i64 (a1 + 1)))
   else
    some (Sum.inl (a2,IntKind.wrap .i64 (a1 + 1)))
 else
  some (Sum.inr (Sum.inl a0))
def dF (a0:List Int):Int→Option ((Int) ⊕ ((Unit) ⊕ (Bool))):=fun a1 =>
 if (decide (a1 < (a0.length:Int)))=true then
  Option.bind (
   (aJ a0 a1).bind fun a2 =>
   if (a2 != 1)=true then
    some (a2 != 1000)
   else
    some false) fun a3 =>
  if a3=true then
   some (Sum.inr (Sum.inr false))
  else
   some (Sum.inl (IntKind.wrap .i64 (a1 + 1)))
 else
  some (Sum.inr (Sum.inl ()))
def iE (p1:GProgram):Option (Bool) :=
 Option.bind (
  (aY (p1.Nodes.length:Int) 1 300).bind fun r4 =>
  if (!r4)=true then
   some true
  else
   (aY (p1.Fns.length:Int) 1 8).bind fun r8 =>
   some (!r8)) fun a2 =>
 if a2=true then
  some false
 else
  (gO p1.Nodes (IntKind.wrap .i64 ((p1.Nodes.length:Int) - 1))).bind fun a1 =>
  (aJ a1 (IntKind.wrap .i64 ((a1.length:Int) - 1))).bind fun a3 =>
  if (a3 == 0)=true then
   some false
  else
   (kR p1.Nodes).bind fun a4 =>
   Option.bind (
    aG (bM p1) (a4,0)) fun a5 =>
   match a5 with
   | Sum.inr z=>some z
   | Sum.inl a0 =>
    Option.bind (
     aG (dF a0) 0) fun a6 =>
    match a6 with
    | Sum.inr z=>some z
    | Sum.inl () =>
     some true
def mL (a0:List GNode) (k2:Int):Option (Int) :=
 (aY k2 0 (IntKind.wrap .i64 ((a0.length:Int) - 1))).bind fun r3 =>
 if (!r3)=true then
  some 0
 else
  (gO a0 k2).bind fun r7 =>
  (aJ r7 k2).bind fun e9 =>
  some e9
def eT (a0:(List GNode)→Int→(List Bool)→Option (List Bool)) (a1:List GNode) (k2:Int):((List Bool) × Int)→Option (((List Bool) × Int) ⊕ (List Bool)):=fun ⟨a2,a3⟩ =>
 (aJ a1 k2).bind fun a4 =>
 if (decide (a3 < (a4.Kids.length:Int)))=true then
  (aJ a1 k2).bind fun a5 =>
  (aJ a5.Kids a3).bind fun a6 =>
  (a0 a1 a6 a2).bind fun a7 =>
  some (Sum.inl (a7,IntKind.wrap .i64 (a3 + 1)))
 else
  some (Sum.inr a2)
def iC (a0:(List GNode)→Int→(List Bool)→Option (List Bool)) (a2:List GNode) (k2:Int) (a1:List Bool):Option (List Bool) :=
 (aJ a1 k2).bind fun e4 =>
 if e4=true then
  some a1
 else
  (aJ a1 k2).bind fun e7 =>
  hO (List.set a1 k2.toNat true) fun l8 =>
  aG (eT a0 a2 k2) (l8,0)
def cQ:Nat→(List GNode)→Int→(List Bool)→Option (List Bool)
 | 0=>fun _ _ _=>none
 | n + 1=>iC (cQ n)
def qN:(List GNode)→Int→(List Bool)→Option (List Bool):=(cQ iR)
def gP (q8:List Bool):((List Int) × Int)→Option (((List Int) × Int) ⊕ (List Int)):=fun ⟨a0,a1⟩ =>
 if (decide (a1 < (q8.length:Int)))=true then
  (aJ q8 a1).bind fun a2 =>
  if a2=true then
   (mF 8 a0 [a1]).bind fun a3 =>
   some (Sum.inl (a3,IntKind.wrap .i64 (a1 + 1)))
  else
   some (Sum.inl (a0,IntKind.wrap .i64 (a1 + 1)))
 else
  some (Sum.inr a0)
def kG (p1:GProgram) (k2:Int):Option (List Int) :=
 (mL p1.Nodes k2).bind fun r3 =>
 if (r3 == 0)=true then
  some []
 else
  (mkI 1 (p1.Nodes.length:Int) false).bind fun l7 =>
  (qN p1.Nodes k2 l7).bind fun q8 =>
  Option.bind (
   aG (gP q8) ([],0)) fun a0 =>
  some a0
def fO (e7:GFn):((List GVar) × Int)→Option (((List GVar) × Int) ⊕ (List GVar)):=fun ⟨a0,a1⟩ =>
 if (decide (a1 < (e7.Params.length:Int)))=true then
  (aJ e7.Params a1).bind fun a2 =>
  (mF 32 a0 [(⟨a2.Name,a2.Typ,(-1)⟩:GVar)]).bind fun a3 =>
  some (Sum.inl (a3,IntKind.wrap .i64 (a1 + 1)))
 else
  some (Sum.inr a0)
def fN (p1:GProgram) (a2:List Int):((List GVar) × Int)→Option (((List GVar) × Int) ⊕ (List GVar)):=fun ⟨a0,a1⟩ =>
 if (decide (a1 < (a2.length:Int)))=true then
  (aJ a2 a1).bind fun a4 =>
  (aJ p1.Nodes a4).bind fun a5 =>
  if (a5.Kind == 13)=true then
   (aJ a2 a1).bind fun a3 =>
   (aJ p1.Nodes a3).bind fun a6 =>
   (mF 32 a0 [(⟨a6.Name,0,a3⟩:GVar)]).bind fun a7 =>
   some (Sum.inl (a7,IntKind.wrap .i64 (a1 + 1)))
  else
   some (Sum.inl (a0,IntKind.wrap .i64 (a1 + 1)))
 else
  some (Sum.inr a0)
def kF (p1:GProgram) (a2:Int):Option (List GVar) :=
 (aY a2 0 (IntKind.wrap .i64 ((p1.Fns.length:Int) - 1))).bind fun r3 =>
 if (!r3)=true then
  some []
 else
  (aJ p1.Fns a2).bind fun e7 =>
  Option.bind (
   aG (fO e7) ([],0)) fun a0 =>
  (kG p1 e7.Body).bind fun a3 =>
  Option.bind (
   aG (fN p1 a3) (a0,0)) fun a1 =>
  some a1
def pG (a0:List GVar) (a1:ByteArray):Int→Option ((Int) ⊕ ((Unit) ⊕ (Int))):=fun i6 =>
 if (decide (i6 < (a0.length:Int)))=true then
  (aJ a0 i6).bind fun a2 =>
  if (sEq a2.Name a1)=true then
   some (Sum.inr (Sum.inr i6))
  else
   some (Sum.inl (IntKind.wrap .i64 (i6 + 1)))
 else
  some (Sum.inr (Sum.inl ()))
def oJ (a0:List GVar) (a1:ByteArray):Option (Int) :=
 Option.bind (
  aG (pG a0 a1) 0) fun j5 =>
 match j5 with
 | Sum.inr z=>some z
 | Sum.inl () =>
  some (-1)
def fL (a0:List ByteArray) (s2:ByteArray):Int→Option ((Int) ⊕ ((Unit) ⊕ (Bool))):=fun i6 =>
 if (decide (i6 < (a0.length:Int)))=true then
  (aJ a0 i6).bind fun a1 =>
  if (sEq a1 s2)=true then
   some (Sum.inr (Sum.inr true))
  else
   some (Sum.inl (IntKind.wrap .i64 (i6 + 1)))
 else
  some (Sum.inr (Sum.inl ()))
def kE (a0:List ByteArray) (s2:ByteArray):Option (Bool) :=
 Option.bind (
  aG (fL a0 s2) 0) fun j5 =>
 match j5 with
 | Sum.inr z=>some z
 | Sum.inl () =>
  some false
def bC (a0:Gl07Seen→Int→Option (Gl07Seen)) (e3:GNode):(Int × Gl07Seen)→Option ((Int × Gl07Seen) ⊕ (Gl07Seen)):=fun ⟨i7,v8⟩ =>
 if (decide (i7 < (e3.Kids.length:Int)))=true then
  (aJ e3.Kids i7).bind fun a2 =>
  (a0 v8 a2).bind fun a1 =>
  some (Sum.inl (IntKind.wrap .i64 (i7 + 1),(⟨a1.p,a1.fn,a1.there,a1.bad⟩:Gl07Seen)))
 else
  some (Sum.inr v8)
def cX (a0:Gl07Seen→Int→Option (Gl07Seen)) (s1:Gl07Seen) (k2:Int):Option (Gl07Seen) :=
 (aJ s1.p.Nodes k2).bind fun e3 =>
 Option.bind (
  aG (bC a0 e3) (0,(⟨s1.p,s1.fn,s1.there,s1.bad⟩:Gl07Seen))) fun a1 =>
 Option.bind (
  if (e3.Kind == 2)=true then
   some (e3.Kind == 2)
  else
   if (e3.Kind == 3)=true then
    some (e3.Kind == 3)
   else
    if (e3.Kind == 4)=true then
     some (e3.Kind == 4)
    else
     if (e3.Kind == 5)=true then
      some (e3.Kind == 5)
     else
      some (e3.Kind == 6)) fun a3 =>
 if a3=true then
  if a1.bad=true then
   some (⟨a1.p,a1.fn,a1.there,true⟩:Gl07Seen)
  else
   (kE a1.there e3.Name).bind fun a4 =>
   some (⟨a1.p,a1.fn,a1.there,!a4⟩:Gl07Seen)
 else
  if (e3.Kind == 12)=true then
   (oK a1.p e3.Name).bind fun a2 =>
   if a1.bad=true then
    some (⟨a1.p,a1.fn,a1.there,true⟩:Gl07Seen)
   else
    if (decide (a2 < 0))=true then
     some (⟨a1.p,a1.fn,a1.there,true⟩:Gl07Seen)
    else
     if (decide (a2 ≥ a1.fn))=true then
      some (⟨a1.p,a1.fn,a1.there,true⟩:Gl07Seen)
     else
      (aJ a1.p.Fns a2).bind fun a5 =>
      some (⟨a1.p,a1.fn,a1.there,(a5.Params.length:Int) != (e3.Kids.length:Int)⟩:Gl07Seen)
  else
   some a1
def aW:Nat→Gl07Seen→Int→Option (Gl07Seen)
 | 0=>fun _ _=>none
 | n + 1=>cX (aW n)
def eF:Gl07Seen→Int→Option (Gl07Seen):=(aW iR)
def bL (a0:Gl07Seen→Int→Option (Gl07Seen)) (k2:Int):(Int × Gl07Seen)→Option ((Int × Gl07Seen) ⊕ (Gl07Seen)):=fun ⟨i3,v4⟩ =>
 (aJ v4.p.Nodes k2).bind fun e8 =>
 if (decide (i3 < (e8.Kids.length:Int)))=true then
  (aJ v4.p.Nodes k2).bind fun a2 =>
  (aJ a2.Kids i3).bind fun a3 =>
  (a0 v4 a3).bind fun a1 =>
  some (Sum.inl (IntKind.wrap .i64 (i3 + 1),(⟨a1.p,a1.fn,a1.there,a1.bad⟩:Gl07Seen)))
 else
  some (Sum.inr v4)
def cY (a1:Gl07Seen→Int→Option (Gl07Seen)) (a0:Gl07Seen→Int→Option (Gl07Seen)) (s1:Gl07Seen) (k2:Int):Option (Gl07Seen) :=
 aG (bL a0 k2) (0,(⟨s1.p,s1.fn,s1.there,s1.bad⟩:Gl07Seen))
def bW (a0:Gl07Seen→Int→Option (Gl07Seen)) (e3:GNode):(Int × Gl07Seen)→Option ((Int × Gl07Seen) ⊕ (Gl07Seen)):=fun ⟨a1,a2⟩ =>
 if (decide (a1 < (e3.Kids.length:Int)))=true then
  (aJ e3.Kids a1).bind fun a4 =>
  (a0 a2 a4).bind fun a3 =>
  some (Sum.inl (IntKind.wrap .i64 (a1 + 1),(⟨a3.p,a3.fn,a2.there,a3.bad⟩:Gl07Seen)))
 else
  some (Sum.inr a2)
def dN (a0:Gl07Seen→Int→Option (Gl07Seen)) (a1:Gl07Seen→Int→Option (Gl07Seen)) (s1:Gl07Seen) (k2:Int):Option (Gl07Seen) :=
 (aJ s1.p.Nodes k2).bind fun e3 =>
 (aJ e3.Kids 0).bind fun e4 =>
 (eF (⟨s1.p,s1.fn,s1.there,s1.bad⟩:Gl07Seen) e4).bind fun q5 =>
 if (e3.Kind == 13)=true then
  (mF 16 [] q5.there).bind fun l9 =>
  (mF 16 q5.there [e3.Name]).bind fun a2 =>
  some (⟨q5.p,q5.fn,a2,q5.bad⟩:Gl07Seen)
 else
  Option.bind (
   if (e3.Kind == 14)=true then
    some (e3.Kind == 14)
   else
    some (e3.Kind == 15)) fun a3 =>
  if a3=true then
   if q5.bad=true then
    some (⟨q5.p,q5.fn,q5.there,true⟩:Gl07Seen)
   else
    (kE q5.there e3.Name).bind fun a4 =>
    some (⟨q5.p,q5.fn,q5.there,!a4⟩:Gl07Seen)
  else
   Option.bind (
    if (e3.Kind == 16)=true then
     some (e3.Kind == 16)
    else
     some (e3.Kind == 17)) fun a5 =>
   if a5=true then
    aG (bW a0 e3) (1,(⟨q5.p,q5.fn,q5.there,q5.bad⟩:Gl07Seen))
   else
    some (⟨q5.p,q5.fn,q5.there,q5.bad⟩:Gl07Seen)
def aF:Nat→(Gl07Seen→Int→Option (Gl07Seen)) × (Gl07Seen→Int→Option (Gl07Seen))
 | 0=>(fun _ _=>none,fun _ _=>none)
 | n + 1=>(cY ((aF n).1) ((aF n).2),dN ((aF n).1) ((aF n).2))
def jI:Gl07Seen→Int→Option (Gl07Seen):=(aF iR).1
def bO (a1:List GVar):Int→Option ((Int) ⊕ ((Unit) ⊕ ((Unit) ⊕ ((Int) ⊕ ((Unit) ⊕ (Bool)))))):=fun a0 =>
 if (decide (a0 < (a1.length:Int)))=true then
  (aJ a1 a0).bind fun a2 =>
  (oJ a1 a2.Name).bind fun a3 =>
  if (a3 != a0)=true then
   some (Sum.inr (Sum.inr (Sum.inr (Sum.inr (Sum.inr false)))))
  else
   some (Sum.inl (IntKind.wrap .i64 (a0 + 1)))
 else
  some (Sum.inr (Sum.inl ()))
def bN (p1:GProgram) (i9:Int):(Int × Gl07Seen)→Option ((Int × Gl07Seen) ⊕ (Gl07Seen)):=fun ⟨a1,a0⟩ =>
 (aJ p1.Fns i9).bind fun a2 =>
 if (decide (a1 < (a2.Params.length:Int)))=true then
  (aJ p1.Fns i9).bind fun a3 =>
  (aJ a3.Params a1).bind fun a4 =>
  (mF 16 a0.there [a4.Name]).bind fun a5 =>
  some (Sum.inl (IntKind.wrap .i64 (a1 + 1),(⟨a0.p,a0.fn,a5,a0.bad⟩:Gl07Seen)))
 else
  some (Sum.inr (⟨a0.p,a0.fn,a0.there,a0.bad⟩:Gl07Seen))
def cO (p1:GProgram):Int→Option ((Int) ⊕ ((Unit) ⊕ (Bool))):=fun i9 =>
 if (decide (i9 < (p1.Fns.length:Int)))=true then
  Option.bind (
   (kF p1 i9).bind fun a3 =>
   Option.bind (
    aG (bO a3) 0) fun a4 =>
   match a4 with
   | Sum.inr z=>some z
   | Sum.inl () =>
    Option.bind (
     aG (bN p1 i9) (0,(⟨p1,i9,[],false⟩:Gl07Seen))) fun a1 =>
    (aJ p1.Fns i9).bind fun a5 =>
    (jI (⟨a1.p,a1.fn,a1.there,a1.bad⟩:Gl07Seen) a5.Body).bind fun a0 =>
    Option.bind (
     (aJ p1.Fns i9).bind fun a6 =>
     if (decide (a6.Ret ≥ 0))=true then
      (aJ p1.Fns i9).bind fun a7 =>
      (eF (⟨a0.p,a0.fn,a0.there,a0.bad⟩:Gl07Seen) a7.Ret).bind fun a2 =>
      some (⟨a2.p,a2.fn,a2.there,a2.bad⟩:Gl07Seen)
     else
      some (⟨a0.p,a0.fn,a0.there,a0.bad⟩:Gl07Seen)) fun a8 =>
    if a8.bad=true then
     some (Sum.inr (Sum.inr (Sum.inr false)))
    else
     some (Sum.inl ())) fun a9 =>
  match a9 with
  | Sum.inr z=>some z
  | Sum.inl () =>
   some (Sum.inl (IntKind.wrap .i64 (i9 + 1)))
 else
  some (Sum.inr (Sum.inl ()))
def gG (p1:GProgram):Option (Bool) :=
 (iE p1).bind fun r2 =>
 if (!r2)=true then
  some false
 else
  Option.bind (
   aG (cO p1) 0) fun j8 =>
  match j8 with
  | Sum.inr z=>some z
  | Sum.inl () =>
   some true
def dV (a0:List GNode):((List GNode) × Int)→Option (((List GNode) × Int) ⊕ (List GNode)):=fun ⟨a1,i6⟩ =>
 if (decide (i6 < (a0.length:Int)))=true then
  (aJ a0 i6).bind fun a2 =>
  (mF 8 [] a2.Kids).bind fun a4 =>
  (mF 56 a1 [(⟨a2.Kind,a2.Num,a2.Name,a2.Kids⟩:GNode)]).bind fun a3 =>
  some (Sum.inl (a3,IntKind.wrap .i64 (i6 + 1)))
 else
  some (Sum.inr a1)
def jJ (a0:List GNode):Option (List GNode) :=
 Option.bind (
  aG (dV a0) ([],0)) fun a1 =>
 some a1
def eU (p1:GProgram):(Int × GProgram)→Option ((Int × GProgram) ⊕ (GProgram)):=fun ⟨i7,v8⟩ =>
 if (decide (i7 < (p1.Fns.length:Int)))=true then
  (aJ p1.Fns i7).bind fun a0 =>
  (mF 24 [] a0.Params).bind fun a2 =>
  (mF 64 v8.Fns [(⟨a0.Name,a0.Params,a0.Res,a0.Body,a0.Ret⟩:GFn)]).bind fun a1 =>
  some (Sum.inl (IntKind.wrap .i64 (i7 + 1),(⟨v8.Nodes,a1⟩:GProgram)))
 else
  some (Sum.inr v8)
def kU (p1:GProgram):Option (GProgram) :=
 (jJ p1.Nodes).bind fun r2 =>
 Option.bind (
  aG (eU p1) (0,(⟨r2,[]⟩:GProgram))) fun a0 =>
 some a0
def kN (x1:Int):Option (Int) :=
 if (decide (x1 < 10))=true then
  some (IntKind.wrap .u8 (IntKind.wrap .i64 (48 + x1)))
 else
  some (IntKind.wrap .u8 (IntKind.wrap .i64 ((IntKind.wrap .i64 (97 + x1)) - 10)))
def eW:(Int × ByteArray)→Option ((Int × ByteArray) ⊕ (ByteArray)):=fun ⟨n7,s8⟩ =>
 if (n7 != 0)=true then
  Option.bind (
   if (decide (Int.tmod n7 10 < 0))=true then
    some (IntKind.wrap .i64 (0 - (Int.tmod n7 10)))
   else
    some (Int.tmod n7 10)) fun a0 =>
  (kN a0).bind fun a1 =>
  (aEd (hJ [a1]) s8).bind fun a2 =>
  some (Sum.inl (IntKind.wrap .i64 (Int.tdiv n7 10),a2))
 else
  some (Sum.inr s8)
def eG (n1:Int):Option (ByteArray) :=
 if (n1 == 0)=true then
  some (⟨#[48]⟩:ByteArray)
 else
  Option.bind (
   aG (eW) (n1,(⟨#[]⟩:ByteArray))) fun a0 =>
  if (decide (n1 < 0))=true then
   (aEd (⟨#[45]⟩:ByteArray) a0).bind fun a1 =>
   some a1
  else
   some a0
def bE (r9:List Int) (a3:List Int):((List Int) × Int × Int)→Option (((List Int) × Int × Int) ⊕ (List Int)):=fun ⟨a0,a1,a2⟩ =>
 Option.bind (
  if (decide (a1 < (r9.length:Int)))=true then
   some true
  else
   some (decide (a2 < (a3.length:Int)))) fun a4 =>
 if a4=true then
  Option.bind (
   if (decide (a2 ≥ (a3.length:Int)))=true then
    some true
   else
    if (decide (a1 < (r9.length:Int)))=true then
     (aJ r9 a1).bind fun a5 =>
     (aJ a3 a2).bind fun a6 =>
     some (decide (a5 < a6))
    else
     some false) fun a7 =>
  if a7=true then
   (aJ r9 a1).bind fun a8 =>
   (mF 8 a0 [a8]).bind fun a9 =>
   some (Sum.inl (a9,IntKind.wrap .i64 (a1 + 1),a2))
  else
   Option.bind (
    Option.bind (
     if (decide (a1 < (r9.length:Int)))=true then
      (aJ r9 a1).bind fun b0 =>
      (aJ a3 a2).bind fun b1 =>
      some (b0 == b1)
     else
      some false) fun b2 =>
    if b2=true then
     some (IntKind.wrap .i64 (a1 + 1))
    else
     some a1) fun b3 =>
   (aJ a3 a2).bind fun b4 =>
   (mF 8 a0 [b4]).bind fun b5 =>
   some (Sum.inl (b5,b3,IntKind.wrap .i64 (a2 + 1)))
 else
  some (Sum.inr a0)
def mI (p1:GProgram) (a1:Int):Option (List Int) :=
 (aY a1 0 (IntKind.wrap .i64 ((p1.Fns.length:Int) - 1))).bind fun r3 =>
 if (!r3)=true then
  some []
 else
  (aJ p1.Fns a1).bind fun e8 =>
  (kG p1 e8.Body).bind fun r9 =>
  (aJ p1.Fns a1).bind fun a2 =>
  (kG p1 a2.Ret).bind fun a3 =>
  Option.bind (
   aG (bE r9 a3) ([],0,0)) fun a0 =>
  some a0
def iX (a0:Int):Option (Bool) :=
 Option.bind (
  if (a0 == 2)=true then
   some (a0 == 2)
  else
   if (a0 == 3)=true then
    some (a0 == 3)
   else
    if (a0 == 4)=true then
     some (a0 == 4)
    else
     if (a0 == 5)=true then
      some (a0 == 5)
     else
      if (a0 == 6)=true then
       some (a0 == 6)
      else
       if (a0 == 14)=true then
        some (a0 == 14)
       else
        some (a0 == 15)) fun a1 =>
 if a1=true then
  some true
 else
  some false
def cK (r3:List GVar) (r5:List Int):(Int × GProgram)→Option ((Int × GProgram) ⊕ (GProgram)):=fun ⟨a1,a0⟩ =>
 if (decide (a1 < (r5.length:Int)))=true then
  (aJ r5 a1).bind fun a6 =>
  (aJ a0.Nodes a6).bind fun a2 =>
  Option.bind (
   (iX a2.Kind).bind fun a7 =>
   if a7=true then
    some true
   else
    some (a2.Kind == 13)) fun a8 =>
  if a8=true then
   (oJ r3 a2.Name).bind fun a4 =>
   if (decide (a4 ≥ 0))=true then
    (aJ r5 a1).bind fun a5 =>
    (eG a4).bind fun a9 =>
    (aEd (⟨#[118]⟩:ByteArray) a9).bind fun b0 =>
    (aJ a0.Nodes a5).bind fun a3 =>
    hO (List.set a0.Nodes a5.toNat (⟨a3.Kind,a3.Num,b0,a3.Kids⟩:GNode)) fun b1 =>
    some (Sum.inl (IntKind.wrap .i64 (a1 + 1),(⟨b1,a0.Fns⟩:GProgram)))
   else
    some (Sum.inl (IntKind.wrap .i64 (a1 + 1),a0))
  else
   some (Sum.inl (IntKind.wrap .i64 (a1 + 1),a0))
 else
  some (Sum.inr a0)
def dM (a2:Int) (a3:GProgram):((List GParam) × Int)→Option (((List GParam) × Int) ⊕ (List GParam)):=fun ⟨a0,a1⟩ =>
 (aJ a3.Fns a2).bind fun a4 =>
 if (decide (a1 < (a4.Params.length:Int)))=true then
  (eG a1).bind fun a5 =>
  (aEd (⟨#[118]⟩:ByteArray) a5).bind fun a6 =>
  (aJ a3.Fns a2).bind fun a7 =>
  (aJ a7.Params a1).bind fun a8 =>
  (mF 24 a0 [(⟨a6,a8.Typ⟩:GParam)]).bind fun a9 =>
  some (Sum.inl (a9,IntKind.wrap .i64 (a1 + 1)))
 else
  some (Sum.inr a0)
def iW (p1:GProgram) (a1:Int):Option (GProgram) :=
 (kF p1 a1).bind fun r3 =>
 (mI p1 a1).bind fun r5 =>
 Option.bind (
  aG (cK r3 r5) (0,p1)) fun a2 =>
 Option.bind (
  aG (dM a1 a2) ([],0)) fun a0 =>
 (aJ a2.Fns a1).bind fun a3 =>
 hO (List.set a2.Fns a1.toNat (⟨a3.Name,a0,a3.Res,a3.Body,a3.Ret⟩:GFn)) fun a4 =>
 some (⟨a2.Nodes,a4⟩:GProgram)
def cD (p1:GProgram):(Int × GProgram)→Option ((Int × GProgram) ⊕ (GProgram)):=fun ⟨a0,a1⟩ =>
 if (decide (a0 < (p1.Fns.length:Int)))=true then
  (iW a1 a0).bind fun a2 =>
  some (Sum.inl (IntKind.wrap .i64 (a0 + 1),a2))
 else
  some (Sum.inr a1)
def cC (p1:GProgram):(Int × GProgram)→Option ((Int × GProgram) ⊕ (GProgram)):=fun ⟨a0,a1⟩ =>
 if (decide (a0 < (p1.Nodes.length:Int)))=true then
  (aJ p1.Nodes a0).bind fun a3 =>
  if (a3.Kind == 12)=true then
   (aJ p1.Nodes a0).bind fun a4 =>
   (oK p1 a4.Name).bind fun a5 =>
   (eG a5).bind fun a6 =>
   (aEd (⟨#[102]⟩:ByteArray) a6).bind fun a7 =>
   (aJ a1.Nodes a0).bind fun a2 =>
   hO (List.set a1.Nodes a0.toNat (⟨a2.Kind,a2.Num,a7,a2.Kids⟩:GNode)) fun a8 =>
   some (Sum.inl (IntKind.wrap .i64 (a0 + 1),(⟨a8,a1.Fns⟩:GProgram)))
  else
   some (Sum.inl (IntKind.wrap .i64 (a0 + 1),a1))
 else
  some (Sum.inr a1)
def cB (p1:GProgram):(Int × GProgram)→Option ((Int × GProgram) ⊕ (GProgram)):=fun ⟨a0,a1⟩ =>
 if (decide (a0 < (p1.Fns.length:Int)))=true then
  (eG a0).bind fun a3 =>
  (aEd (⟨#[102]⟩:ByteArray) a3).bind fun a4 =>
  (aJ a1.Fns a0).bind fun a2 =>
  hO (List.set a1.Fns a0.toNat (⟨a4,a2.Params,a2.Res,a2.Body,a2.Ret⟩:GFn)) fun a5 =>
  some (Sum.inl (IntKind.wrap .i64 (a0 + 1),(⟨a1.Nodes,a5⟩:GProgram)))
 else
  some (Sum.inr a1)
def eM (p1:GProgram):Option (GProgram) :=
 (kU p1).bind fun r2 =>
 (gG p1).bind fun r4 =>
 if (!r4)=true then
  some r2
 else
  Option.bind (
   aG (cD p1) (0,r2)) fun a0 =>
  Option.bind (
   aG (cC p1) (0,a0)) fun a1 =>
  Option.bind (
   aG (cB p1) (0,a1)) fun a2 =>
  some a2
def fU (a1:List Int):((List Int) × Int)→Option (((List Int) × Int) ⊕ (List Int)):=fun ⟨a0,i7⟩ =>
 if (decide (i7 < (a1.length:Int)))=true then
  (aJ a1 i7).bind fun a2 =>
  (aJ a0 i7).bind fun a4 =>
  hO (List.set a0 i7.toNat a2) fun a3 =>
  some (Sum.inl (a3,IntKind.wrap .i64 (i7 + 1)))
 else
  some (Sum.inr a0)
def mO (a1:List Int):Option (List Int) :=
 (mkI 8 (a1.length:Int) 0).bind fun l2 =>
 Option.bind (
  aG (fU a1) (l2,0)) fun a0 =>
 some a0
def mN (a1:GNode):Option (GNode) :=
 (mO a1.Kids).bind fun r2 =>
 some (⟨a1.Kind,a1.Num,a1.Name,r2⟩:GNode)
def eY (a1:List GNode):((List GNode) × Int)→Option (((List GNode) × Int) ⊕ (List GNode)):=fun ⟨a0,i7⟩ =>
 if (decide (i7 < (a1.length:Int)))=true then
  (aJ a1 i7).bind fun a2 =>
  (mN a2).bind fun a3 =>
  (aJ a0 i7).bind fun a5 =>
  hO (List.set a0 i7.toNat a3) fun a4 =>
  some (Sum.inl (a4,IntKind.wrap .i64 (i7 + 1)))
 else
  some (Sum.inr a0)
def lD (a1:List GNode):Option (List GNode) :=
 (mkI 56 (a1.length:Int) (⟨0,0,ByteArray.empty,[]⟩:GNode)).bind fun l2 =>
 Option.bind (
  aG (eY a1) (l2,0)) fun a0 =>
 some a0
def lC (a1:GParam):Option (GParam) :=
 some (⟨a1.Name,a1.Typ⟩:GParam)
def dY (a1:List GParam):((List GParam) × Int)→Option (((List GParam) × Int) ⊕ (List GParam)):=fun ⟨a0,i7⟩ =>
 if (decide (i7 < (a1.length:Int)))=true then
  (aJ a1 i7).bind fun a2 =>
  (lC a2).bind fun a3 =>
  (aJ a0 i7).bind fun a5 =>
  hO (List.set a0 i7.toNat a3) fun a4 =>
  some (Sum.inl (a4,IntKind.wrap .i64 (i7 + 1)))
 else
  some (Sum.inr a0)
def jP (a1:List GParam):Option (List GParam) :=
 (mkI 24 (a1.length:Int) (⟨ByteArray.empty,0⟩:GParam)).bind fun l2 =>
 Option.bind (
  aG (dY a1) (l2,0)) fun a0 =>
 some a0
def qW (a1:GFn):Option (GFn) :=
 (jP a1.Params).bind fun r2 =>
 some (⟨a1.Name,r2,a1.Res,a1.Body,a1.Ret⟩:GFn)
def gR (a1:List GFn):((List GFn) × Int)→Option (((List GFn) × Int) ⊕ (List GFn)):=fun ⟨a0,i7⟩ =>
 if (decide (i7 < (a1.length:Int)))=true then
  (aJ a1 i7).bind fun a2 =>
  (qW a2).bind fun a3 =>
  (aJ a0 i7).bind fun a5 =>
  hO (List.set a0 i7.toNat a3) fun a4 =>
  some (Sum.inl (a4,IntKind.wrap .i64 (i7 + 1)))
 else
  some (Sum.inr a0)
def oQ (a1:List GFn):Option (List GFn) :=
 (mkI 64 (a1.length:Int) (⟨ByteArray.empty,[],0,0,0⟩:GFn)).bind fun l2 =>
 Option.bind (
  aG (gR a1) (l2,0)) fun a0 =>
 some a0
def dB (a1:GProgram):Option (GProgram) :=
 (lD a1.Nodes).bind fun r2 =>
 (oQ a1.Fns).bind fun r4 =>
 some (⟨r2,r4⟩:GProgram)
def cU (n1:Int) (a1:Int) (a0:Int):Option (Bool) :=
 Option.bind (
  if (decide (n1 ≥ a1))=true then
   some (decide (n1 ≤ a0))
  else
   some false) fun v8 =>
 some v8
def jE (p1:GProgram) (a0:ByteArray):Int→Option ((Int) ⊕ ((Unit) ⊕ (Int))):=fun v6 =>
 if (decide (v6 < (p1.Fns.length:Int)))=true then
  (aJ p1.Fns v6).bind fun a1 =>
  if (sEq a1.Name a0)=true then
   some (Sum.inr (Sum.inr v6))
  else
   some (Sum.inl (IntKind.wrap .i64 (v6 + 1)))
 else
  some (Sum.inr (Sum.inl ()))
def lP (p1:GProgram) (a0:ByteArray):Option (Int) :=
 Option.bind (
  aG (jE p1 a0) 0) fun j5 =>
 match j5 with
 | Sum.inr z=>some z
 | Sum.inl () =>
  some (-1)
def fE (a0:Int):Option (Bool) :=
 Option.bind (
  (cU a0 2 6).bind fun r4 =>
  if r4=true then
   some true
  else
   (cU a0 12 15).bind fun r8 =>
   some r8) fun a1 =>
 some a1
def gY (b1:Int):Option (Bool) :=
 Option.bind (
  if (decide (b1 ≥ 97))=true then
   some (decide (b1 ≤ 122))
  else
   some false) fun v6 =>
 some v6
def jV (b1:Int):Option (Bool) :=
 Option.bind (
  if (decide (b1 ≥ 48))=true then
   some (decide (b1 ≤ 57))
  else
   some false) fun v6 =>
 some v6
def jU (s1:ByteArray) (r6:List ByteArray):Int→Option ((Int) ⊕ ((Unit) ⊕ (Bool))):=fun v8 =>
 if (decide (v8 < (r6.length:Int)))=true then
  (aJ r6 v8).bind fun a0 =>
  if (sEq a0 s1)=true then
   some (Sum.inr (Sum.inr true))
  else
   some (Sum.inl (IntKind.wrap .i64 (v8 + 1)))
 else
  some (Sum.inr (Sum.inl ()))
def rT (s1:ByteArray) (a0:ByteArray):Option (Bool) :=
 Option.bind (
  (strings_Split a0 (⟨#[32]⟩:ByteArray)).bind fun r6 =>
  aG (jU s1 r6) 0) fun j5 =>
 match j5 with
 | Sum.inr z=>some z
 | Sum.inl () =>
  some false
def lO (s1:ByteArray):Option (Bool) :=
 (rT s1 (⟨#[102,110,32,108,101,116,32,105,102,32,101,108,115,101,32,119,104,105,108,101,32,112,114,105,110,116,32,100,111,32,110,101,119,32,99,108,111,110,101,32,109,117,116,32,105,110,112,117,116,32,105,110,116,32,98,111,120,32,114,101,116]⟩:ByteArray)).bind fun r2 =>
 some r2
def gB (s1:ByteArray):Int→Option ((Int) ⊕ ((Unit) ⊕ (Bool))):=fun a0 =>
 if (decide (a0 < (s1.size:Int)))=true then
  Option.bind (
   (sAt s1 a0).bind fun a1 =>
   (gY a1).bind fun a2 =>
   if (!a2)=true then
    (jV a1).bind fun a3 =>
    some (!a3)
   else
    some false) fun a4 =>
  if a4=true then
   some (Sum.inr (Sum.inr false))
  else
   some (Sum.inl (IntKind.wrap .i64 (a0 + 1)))
 else
  some (Sum.inr (Sum.inl ()))
def iT (s1:ByteArray):Option (Bool) :=
 Option.bind (
  (cU (s1.size:Int) 1 8).bind fun r4 =>
  if (!r4)=true then
   some true
  else
   (sAt s1 0).bind fun c8 =>
   (gY c8).bind fun r9 =>
   some (!r9)) fun a0 =>
 if a0=true then
  some false
 else
  Option.bind (
   aG (gB s1) 0) fun a1 =>
  match a1 with
  | Sum.inr z=>some z
  | Sum.inl () =>
   (lO s1).bind fun a2 =>
   some (!a2)
def fW (l1:List Int) (n2:Int):Int→Option ((Int) ⊕ ((Unit) ⊕ (Bool))):=fun v6 =>
 if (decide (v6 < (l1.length:Int)))=true then
  (aJ l1 v6).bind fun a0 =>
  if (a0 == n2)=true then
   some (Sum.inr (Sum.inr true))
  else
   some (Sum.inl (IntKind.wrap .i64 (v6 + 1)))
 else
  some (Sum.inr (Sum.inl ()))
def iS (l1:List Int) (n2:Int):Option (Bool) :=
 Option.bind (
  aG (fW l1 n2) 0) fun j5 =>
 match j5 with
 | Sum.inr z=>some z
 | Sum.inl () =>
  some false
def oV (a0:Int):Option (Int × Int) :=
 Option.bind (
  if (a0 == 8)=true then
   some (a0 == 8)
  else
   if (a0 == 13)=true then
    some (a0 == 13)
   else
    if (a0 == 14)=true then
     some (a0 == 14)
    else
     if (a0 == 15)=true then
      some (a0 == 15)
     else
      if (a0 == 18)=true then
       some (a0 == 18)
      else
       some (a0 == 19)) fun a1 =>
 if a1=true then
  some (1,1)
 else
  Option.bind (
   if (a0 == 9)=true then
    some (a0 == 9)
   else
    if (a0 == 10)=true then
     some (a0 == 10)
    else
     if (a0 == 11)=true then
      some (a0 == 11)
     else
      some (a0 == 17)) fun a2 =>
  if a2=true then
   some (2,2)
  else
   if (a0 == 16)=true then
    some (3,3)
   else
    if (a0 == 12)=true then
     some (0,3)
    else
     if (a0 == 20)=true then
      some (0,12)
     else
      some (0,0)
def jC (a0:Int):Option (Bool) :=
 (cU a0 1 12).bind fun r2 =>
 some r2
def mZ (a0:Int):Option (Bool) :=
 (cU a0 13 19).bind fun r2 =>
 some r2
def lL (a0:Int) (i2:Int) (a1:Int):Option (Bool) :=
 if (a0 == 20)=true then
  (mZ a1).bind fun r6 =>
  some r6
 else
  Option.bind (
   if (a0 == 16)=true then
    some (decide (i2 > 0))
   else
    if (a0 == 17)=true then
     some (decide (i2 > 0))
    else
     some false) fun a2 =>
  if a2=true then
   some (a1 == 20)
  else
   if (a0 == 19)=true then
    some (a1 == 12)
   else
    (jC a1).bind fun a3 =>
    some a3
def gA (a0:List GNode) (k2:Int) (e7:GNode):Int→Option ((Int) ⊕ ((Unit) ⊕ (Bool))):=fun a1 =>
 if (decide (a1 < (e7.Kids.length:Int)))=true then
  (aJ e7.Kids a1).bind fun a2 =>
  Option.bind (
   (cU a2 0 (IntKind.wrap .i64 (k2 - 1))).bind fun a3 =>
   if (!a3)=true then
    some true
   else
    (subI e7.Kids 0 a1).bind fun a4 =>
    (iS a4 a2).bind fun a5 =>
    if a5=true then
     some true
    else
     (aJ a0 a2).bind fun a6 =>
     (lL e7.Kind a1 a6.Kind).bind fun a7 =>
     some (!a7)) fun a8 =>
  if a8=true then
   some (Sum.inr (Sum.inr false))
  else
   some (Sum.inl (IntKind.wrap .i64 (a1 + 1)))
 else
  some (Sum.inr (Sum.inl ()))
def nC (a0:List GNode) (k2:Int):Option (Bool) :=
 (cU k2 0 (IntKind.wrap .i64 ((a0.length:Int) - 1))).bind fun r3 =>
 if (!r3)=true then
  some false
 else
  (aJ a0 k2).bind fun e7 =>
  (oV e7.Kind).bind fun ⟨r8,r9⟩ =>
  Option.bind (
   (cU e7.Kind 1 20).bind fun a1 =>
   if (!a1)=true then
    some true
   else
    (cU (e7.Kids.length:Int) r8 r9).bind fun a2 =>
    some (!a2)) fun a3 =>
  if a3=true then
   some false
  else
   Option.bind (
    aG (gA a0 k2 e7) 0) fun a4 =>
   match a4 with
   | Sum.inr z=>some z
   | Sum.inl () =>
    Option.bind (
     if (e7.Kind == 1)=true then
      (cU e7.Num 0 1000000000).bind fun a5 =>
      if (!a5)=true then
       some true
      else
       some false
     else
      some (e7.Num != 0)) fun a6 =>
    if a6=true then
     some false
    else
     (fE e7.Kind).bind fun a7 =>
     if a7=true then
      (iT e7.Name).bind fun a8 =>
      some a8
     else
      some (sEq e7.Name (⟨#[]⟩:ByteArray))
def eN (a0:List Int) (a3:GNode):(Int × Int)→Option ((Int × Int) ⊕ (Int)):=fun ⟨a1,a2⟩ =>
 if (decide (a2 < (a3.Kids.length:Int)))=true then
  (aJ a3.Kids a2).bind fun a5 =>
  (aJ a0 a5).bind fun a4 =>
  some (Sum.inl (if IntKind.wrap .i64 (a4 + 1) > a1 then IntKind.wrap .i64 (a4 + 1) else a1,IntKind.wrap .i64 (a2 + 1)))
 else
  some (Sum.inr a1)
def fX (a0:List GNode) (k2:Int):((List Int) × Int)→Option (((List Int) × Int) ⊕ ((List Int) ⊕ ((List Int) × Bool))):=fun ⟨a1,a3⟩ =>
 if (decide (a3 ≤ k2))=true then
  Option.bind (
   (nC a0 a3).bind fun a5 =>
   if (!a5)=true then
    some (Sum.inr (Sum.inr (Sum.inr ([],false))))
   else
    Option.bind (
     (aJ a0 a3).bind fun a6 =>
     aG (eN a1 a6) (1,0)) fun a4 =>
    if (decide (a4 > 10))=true then
     some (Sum.inr (Sum.inr (Sum.inr ([],false))))
    else
     (mF 8 a1 [a4]).bind fun a7 =>
     some (Sum.inl a7)) fun a8 =>
  match a8 with
  | Sum.inr z=>some z
  | Sum.inl a2 =>
   some (Sum.inl (a2,IntKind.wrap .i64 (a3 + 1)))
 else
  some (Sum.inr (Sum.inl a1))
def nA (a0:List GNode) (k2:Int):Option ((List Int) × Bool) :=
 (cU k2 0 (IntKind.wrap .i64 ((a0.length:Int) - 1))).bind fun r3 =>
 if (!r3)=true then
  some ([],false)
 else
  Option.bind (
   aG (fX a0 k2) ([],0)) fun j9 =>
  match j9 with
  | Sum.inr z=>some z
  | Sum.inl a1 =>
   some (a1,true)
def kL (a0:List GNode) (k2:Int):Option (Int) :=
 (nA a0 k2).bind fun ⟨r3,r4⟩ =>
 if (!r4)=true then
  some 0
 else
  (aJ r3 k2).bind fun e8 =>
  some e8
def jD (f2:GFn):Int→Option ((Int) ⊕ ((Unit) ⊕ (Bool))):=fun a0 =>
 if (decide (a0 < (f2.Params.length:Int)))=true then
  (aJ f2.Params a0).bind fun a1 =>
  Option.bind (
   (iT a1.Name).bind fun a2 =>
   if (!a2)=true then
    some true
   else
    (cU a1.Typ 1 4).bind fun a3 =>
    some (!a3)) fun a4 =>
  if a4=true then
   some (Sum.inr (Sum.inr false))
  else
   some (Sum.inl (IntKind.wrap .i64 (a0 + 1)))
 else
  some (Sum.inr (Sum.inl ()))
def rE (p1:GProgram) (f2:GFn):Option (Bool) :=
 Option.bind (
  (iT f2.Name).bind fun r5 =>
  if (!r5)=true then
   some true
  else
   if (decide ((f2.Params.length:Int) > 3))=true then
    some true
   else
    if (f2.Res != 0)=true then
     if (f2.Res != 1)=true then
      some (f2.Res != 2)
     else
      some false
    else
     some false) fun a0 =>
 if a0=true then
  some false
 else
  Option.bind (
   aG (jD f2) 0) fun a1 =>
  match a1 with
  | Sum.inr z=>some z
  | Sum.inl () =>
   Option.bind (
    (cU f2.Body 0 (IntKind.wrap .i64 ((p1.Nodes.length:Int) - 1))).bind fun a2 =>
    if (!a2)=true then
     some true
    else
     (aJ p1.Nodes f2.Body).bind fun a3 =>
     some (a3.Kind != 20)) fun a4 =>
   if a4=true then
    some false
   else
    if (f2.Res == 0)=true then
     some (f2.Ret == (-1))
    else
     Option.bind (
      (cU f2.Ret 0 (IntKind.wrap .i64 ((p1.Nodes.length:Int) - 1))).bind fun a5 =>
      if a5=true then
       (aJ p1.Nodes f2.Ret).bind fun a6 =>
       (jC a6.Kind).bind fun a7 =>
       some a7
      else
       some false) fun a8 =>
     some a8
def dK (a2:GNode):((List Int) × Int)→Option (((List Int) × Int) ⊕ (List Int)):=fun ⟨a0,a1⟩ =>
 if (decide (a1 < (a2.Kids.length:Int)))=true then
  (aJ a2.Kids a1).bind fun a3 =>
  (aJ a0 a3).bind fun a4 =>
  hO (List.set a0 a3.toNat (IntKind.wrap .i64 (a4 + 1))) fun a5 =>
  some (Sum.inl (a5,IntKind.wrap .i64 (a1 + 1)))
 else
  some (Sum.inr a0)
def dL (p1:GProgram):((List Int) × Int)→Option (((List Int) × Int) ⊕ (List Int)):=fun ⟨a0,a2⟩ =>
 if (decide (a2 < (p1.Nodes.length:Int)))=true then
  Option.bind (
   (aJ p1.Nodes a2).bind fun a3 =>
   aG (dK a3) (a0,0)) fun a1 =>
  some (Sum.inl (a1,IntKind.wrap .i64 (a2 + 1)))
 else
  some (Sum.inr a0)
def aH (a1:GFn):((List Int) × Int)→Option (((List Int) × Int) ⊕ ((List Int) ⊕ (((List Int) × Int) ⊕ ((List Int) ⊕ (Bool))))):=fun ⟨a0,a2⟩ =>
 if (decide (a2 < ([a1.Body,a1.Ret].length:Int)))=true then
  (aJ [a1.Body,a1.Ret] a2).bind fun a3 =>
  if (decide (a3 < 0))=true then
   some (Sum.inl (a0,IntKind.wrap .i64 (a2 + 1)))
  else
   (aJ a0 a3).bind fun a4 =>
   if (a4 != 0)=true then
    some (Sum.inr (Sum.inr (Sum.inr (Sum.inr false))))
   else
    (aJ a0 a3).bind fun a6 =>
    hO (List.set a0 a3.toNat (-1)) fun a5 =>
    some (Sum.inl (a5,IntKind.wrap .i64 (a2 + 1)))
 else
  some (Sum.inr (Sum.inl a0))
def cI (p1:GProgram):((List Int) × Int)→Option (((List Int) × Int) ⊕ ((List Int) ⊕ (Bool))):=fun ⟨a0,a2⟩ =>
 if (decide (a2 < (p1.Fns.length:Int)))=true then
  Option.bind (
   (aJ p1.Fns a2).bind fun a3 =>
   Option.bind (
    (rE p1 a3).bind fun a4 =>
    if (!a4)=true then
     some true
    else
     (lP p1 a3.Name).bind fun a5 =>
     some (a5 != a2)) fun a6 =>
   if a6=true then
    some (Sum.inr (Sum.inr (Sum.inr false)))
   else
    aG (aH a3) (a0,0)) fun a7 =>
  match a7 with
  | Sum.inr z=>some z
  | Sum.inl a1 =>
   some (Sum.inl (a1,IntKind.wrap .i64 (a2 + 1)))
 else
  some (Sum.inr (Sum.inl a0))
def dJ (a0:List Int):Int→Option ((Int) ⊕ ((Unit) ⊕ (Bool))):=fun a2 =>
 if (decide (a2 < (a0.length:Int)))=true then
  (aJ a0 a2).bind fun a1 =>
  Option.bind (
   if (a1 != 1)=true then
    some (a1 != (-1))
   else
    some false) fun a3 =>
  if a3=true then
   some (Sum.inr (Sum.inr false))
  else
   some (Sum.inl (IntKind.wrap .i64 (a2 + 1)))
 else
  some (Sum.inr (Sum.inl ()))
def iM (p1:GProgram):Option (Bool) :=
 Option.bind (
  (cU (p1.Nodes.length:Int) 1 300).bind fun r4 =>
  if (!r4)=true then
   some true
  else
   (cU (p1.Fns.length:Int) 1 8).bind fun r8 =>
   if (!r8)=true then
    some true
   else
    (kL p1.Nodes (IntKind.wrap .i64 ((p1.Nodes.length:Int) - 1))).bind fun a2 =>
    some (a2 == 0)) fun a3 =>
 if a3=true then
  some false
 else
  (mkI 8 (p1.Nodes.length:Int) 0).bind fun a4 =>
  Option.bind (
   aG (dL p1) (a4,0)) fun a0 =>
  Option.bind (
   aG (cI p1) (a0,0)) fun a5 =>
  match a5 with
  | Sum.inr z=>some z
  | Sum.inl a1 =>
   Option.bind (
    aG (dJ a1) 0) fun a6 =>
   match a6 with
   | Sum.inr z=>some z
   | Sum.inl () =>
    some true
def gV (a2:GNode):((List Int) × Int)→Option (((List Int) × Int) ⊕ (List Int)):=fun ⟨a0,a1⟩ =>
 if (decide (a1 < (a2.Kids.length:Int)))=true then
  (aJ a2.Kids a1).bind fun a3 =>
  (iS a0 a3).bind fun a4 =>
  if (!a4)=true then
   (mF 8 a0 [a3]).bind fun a5 =>
   some (Sum.inl (a5,IntKind.wrap .i64 (a1 + 1)))
  else
   some (Sum.inl (a0,IntKind.wrap .i64 (a1 + 1)))
 else
  some (Sum.inr a0)
def gW (a1:List GNode):((List Int) × Int)→Option (((List Int) × Int) ⊕ (List Int)):=fun ⟨a0,i7⟩ =>
 if (decide (i7 < (a0.length:Int)))=true then
  Option.bind (
   (aJ a0 i7).bind fun a3 =>
   (aJ a1 a3).bind fun a4 =>
   aG (gV a4) (a0,0)) fun a2 =>
  some (Sum.inl (a2,IntKind.wrap .i64 (i7 + 1)))
 else
  some (Sum.inr a0)
def oU (a0:List GNode) (k2:Int):Option (List Int) :=
 Option.bind (
  aG (gW a0) ([k2],0)) fun a1 =>
 (sort_Ints a1).bind fun a2 =>
 some a2
def mD (p1:GProgram) (k2:Int):Option (List Int) :=
 (kL p1.Nodes k2).bind fun r3 =>
 if (r3 == 0)=true then
  some []
 else
  (oU p1.Nodes k2).bind fun r7 =>
  some r7
def fZ (a2:GFn):((List GVar) × Int)→Option (((List GVar) × Int) ⊕ (List GVar)):=fun ⟨a0,a1⟩ =>
 if (decide (a1 < (a2.Params.length:Int)))=true then
  (aJ a2.Params a1).bind fun a3 =>
  (mF 32 a0 [(⟨a3.Name,a3.Typ,(-1)⟩:GVar)]).bind fun a4 =>
  some (Sum.inl (a4,IntKind.wrap .i64 (a1 + 1)))
 else
  some (Sum.inr a0)
def fY (p1:GProgram) (a2:List Int):((List GVar) × Int)→Option (((List GVar) × Int) ⊕ (List GVar)):=fun ⟨a0,a1⟩ =>
 if (decide (a1 < (a2.length:Int)))=true then
  (aJ a2 a1).bind fun a3 =>
  (aJ p1.Nodes a3).bind fun a4 =>
  if (a4.Kind == 13)=true then
   (mF 32 a0 [(⟨a4.Name,0,a3⟩:GVar)]).bind fun a5 =>
   some (Sum.inl (a5,IntKind.wrap .i64 (a1 + 1)))
  else
   some (Sum.inl (a0,IntKind.wrap .i64 (a1 + 1)))
 else
  some (Sum.inr a0)
def kK (p1:GProgram) (a2:Int):Option (List GVar) :=
 (cU a2 0 (IntKind.wrap .i64 ((p1.Fns.length:Int) - 1))).bind fun r3 =>
 if (!r3)=true then
  some []
 else
  Option.bind (
   (aJ p1.Fns a2).bind fun a3 =>
   aG (fZ a3) ([],0)) fun a0 =>
  Option.bind (
   (aJ p1.Fns a2).bind fun a4 =>
   (mD p1 a4.Body).bind fun a5 =>
   aG (fY p1 a5) (a0,0)) fun a1 =>
  some a1
def gZ (a0:List GVar) (a1:ByteArray):Int→Option ((Int) ⊕ ((Unit) ⊕ (Int))):=fun v6 =>
 if (decide (v6 < (a0.length:Int)))=true then
  (aJ a0 v6).bind fun a2 =>
  if (sEq a2.Name a1)=true then
   some (Sum.inr (Sum.inr v6))
  else
   some (Sum.inl (IntKind.wrap .i64 (v6 + 1)))
 else
  some (Sum.inr (Sum.inl ()))
def mC (a0:List GVar) (a1:ByteArray):Option (Int) :=
 Option.bind (
  aG (gZ a0 a1) 0) fun j5 =>
 match j5 with
 | Sum.inr z=>some z
 | Sum.inl () =>
  some (-1)
def fA (r3:List GVar):Int→Option ((Int) ⊕ ((Unit) ⊕ (Bool))):=fun v8 =>
 if (decide (v8 < (r3.length:Int)))=true then
  (aJ r3 v8).bind fun a0 =>
  (mC r3 a0.Name).bind fun a1 =>
  if (a1 != v8)=true then
   some (Sum.inr (Sum.inr false))
  else
   some (Sum.inl (IntKind.wrap .i64 (v8 + 1)))
 else
  some (Sum.inr (Sum.inl ()))
def lK (p1:GProgram) (a0:Int):Option (Bool) :=
 (kK p1 a0).bind fun r3 =>
 Option.bind (
  aG (fA r3) 0) fun j7 =>
 match j7 with
 | Sum.inr z=>some z
 | Sum.inl () =>
  some true
def qZ (a0:Int):Option (Bool) :=
 Option.bind (
  (cU a0 2 6).bind fun r4 =>
  if r4=true then
   some true
  else
   if (a0 == 14)=true then
    some true
   else
    some (a0 == 15)) fun a1 =>
 some a1
def fB (l1:List ByteArray) (s2:ByteArray):Int→Option ((Int) ⊕ ((Unit) ⊕ (Bool))):=fun v6 =>
 if (decide (v6 < (l1.length:Int)))=true then
  (aJ l1 v6).bind fun a0 =>
  if (sEq a0 s2)=true then
   some (Sum.inr (Sum.inr true))
  else
   some (Sum.inl (IntKind.wrap .i64 (v6 + 1)))
 else
  some (Sum.inr (Sum.inl ()))
def lM (l1:List ByteArray) (s2:ByteArray):Option (Bool) :=
 Option.bind (
  aG (fB l1 s2) 0) fun j5 =>
 match j5 with
 | Sum.inr z=>some z
 | Sum.inl () =>
  some false
def gK (a0:GProgram→Int→Int→(List ByteArray)→Option (Bool)) (p1:GProgram) (a4:Int) (e5:GNode):((List ByteArray) × Int)→Option (((List ByteArray) × Int) ⊕ ((Unit) ⊕ (Bool))):=fun ⟨a1,a2⟩ =>
 if (decide (a2 < (e5.Kids.length:Int)))=true then
  (aJ e5.Kids a2).bind fun a3 =>
  (a0 p1 a4 a3 a1).bind fun a5 =>
  if (!a5)=true then
   some (Sum.inr (Sum.inr false))
  else
   Option.bind (
    if (e5.Kind == 20)=true then
     (aJ p1.Nodes a3).bind fun a6 =>
     some (a6.Kind == 13)
    else
     some false) fun a7 =>
   if a7=true then
    (aJ p1.Nodes a3).bind fun a8 =>
    (mF 16 a1 [a8.Name]).bind fun a9 =>
    some (Sum.inl (a9,IntKind.wrap .i64 (a2 + 1)))
   else
    some (Sum.inl (a1,IntKind.wrap .i64 (a2 + 1)))
 else
  some (Sum.inr (Sum.inl ()))
def mY (a0:GProgram→Int→Int→(List ByteArray)→Option (Bool)) (p1:GProgram) (a2:Int) (k3:Int) (a1:List ByteArray):Option (Bool) :=
 (aJ p1.Nodes k3).bind fun e5 =>
 Option.bind (
  (qZ e5.Kind).bind fun r8 =>
  if r8=true then
   (lM a1 e5.Name).bind fun a4 =>
   some (!a4)
  else
   some false) fun a5 =>
 if a5=true then
  some false
 else
  Option.bind (
   if (e5.Kind == 12)=true then
    (lP p1 e5.Name).bind fun a3 =>
    Option.bind (
     (cU a3 0 (IntKind.wrap .i64 (a2 - 1))).bind fun a6 =>
     if (!a6)=true then
      some true
     else
      (aJ p1.Fns a3).bind fun a7 =>
      some ((a7.Params.length:Int) != (e5.Kids.length:Int))) fun a8 =>
    if a8=true then
     some (Sum.inr false)
    else
     some (Sum.inl ())
   else
    some (Sum.inl ())) fun a9 =>
  match a9 with
  | Sum.inr z=>some z
  | Sum.inl () =>
   (mF 16 [] a1).bind fun b1 =>
   Option.bind (
    aG (gK a0 p1 a2 e5) (a1,0)) fun b0 =>
   match b0 with
   | Sum.inr z=>some z
   | Sum.inl () =>
    some true
def eK:Nat→GProgram→Int→Int→(List ByteArray)→Option (Bool)
 | 0=>fun _ _ _ _=>none
 | n + 1=>mY (eK n)
def rA:GProgram→Int→Int→(List ByteArray)→Option (Bool):=(eK iR)
def bV (a2:GFn):((List ByteArray) × Int)→Option (((List ByteArray) × Int) ⊕ (List ByteArray)):=fun ⟨a0,a1⟩ =>
 if (decide (a1 < (a2.Params.length:Int)))=true then
  (aJ a2.Params a1).bind fun a3 =>
  (mF 16 a0 [a3.Name]).bind fun a4 =>
  some (Sum.inl (a4,IntKind.wrap .i64 (a1 + 1)))
 else
  some (Sum.inr a0)
def bU (p1:GProgram) (a2:GNode):((List ByteArray) × Int)→Option (((List ByteArray) × Int) ⊕ (List ByteArray)):=fun ⟨a0,a1⟩ =>
 if (decide (a1 < (a2.Kids.length:Int)))=true then
  (aJ a2.Kids a1).bind fun a3 =>
  (aJ p1.Nodes a3).bind fun a4 =>
  if (a4.Kind == 13)=true then
   (aJ p1.Nodes a3).bind fun a5 =>
   (mF 16 a0 [a5.Name]).bind fun a6 =>
   some (Sum.inl (a6,IntKind.wrap .i64 (a1 + 1)))
  else
   some (Sum.inl (a0,IntKind.wrap .i64 (a1 + 1)))
 else
  some (Sum.inr a0)
def cP (p1:GProgram):Int→Option ((Int) ⊕ ((Unit) ⊕ (Bool))):=fun v9 =>
 if (decide (v9 < (p1.Fns.length:Int)))=true then
  Option.bind (
   (aJ p1.Fns v9).bind fun a2 =>
   (lK p1 v9).bind fun a3 =>
   if (!a3)=true then
    some (Sum.inr (Sum.inr (Sum.inr false)))
   else
    Option.bind (
     aG (bV a2) ([],0)) fun a0 =>
    (rA p1 v9 a2.Body a0).bind fun a4 =>
    if (!a4)=true then
     some (Sum.inr (Sum.inr (Sum.inr false)))
    else
     Option.bind (
      (aJ p1.Nodes a2.Body).bind fun a5 =>
      aG (bU p1 a5) (a0,0)) fun a1 =>
     Option.bind (
      if (decide (a2.Ret ≥ 0))=true then
       (rA p1 v9 a2.Ret a1).bind fun a6 =>
       some (!a6)
      else
       some false) fun a7 =>
     if a7=true then
      some (Sum.inr (Sum.inr (Sum.inr false)))
     else
      some (Sum.inl ())) fun a8 =>
  match a8 with
  | Sum.inr z=>some z
  | Sum.inl () =>
   some (Sum.inl (IntKind.wrap .i64 (v9 + 1)))
 else
  some (Sum.inr (Sum.inl ()))
def gL (p1:GProgram):Option (Bool) :=
 (iM p1).bind fun r2 =>
 if (!r2)=true then
  some false
 else
  Option.bind (
   aG (cP p1) 0) fun j8 =>
  match j8 with
  | Sum.inr z=>some z
  | Sum.inl () =>
   some true
def jW (l1:List Int):Option (List Int) :=
 (mF 8 [] l1).bind fun l2 =>
 some l1
def dI (l1:List GNode):((List GNode) × Int)→Option (((List GNode) × Int) ⊕ (List GNode)):=fun ⟨a0,v6⟩ =>
 if (decide (v6 < (l1.length:Int)))=true then
  (aJ l1 v6).bind fun a1 =>
  (jW a1.Kids).bind fun a2 =>
  (mF 56 a0 [(⟨a1.Kind,a1.Num,a1.Name,a2⟩:GNode)]).bind fun a3 =>
  some (Sum.inl (a3,IntKind.wrap .i64 (v6 + 1)))
 else
  some (Sum.inr a0)
def iL (l1:List GNode):Option (List GNode) :=
 Option.bind (
  aG (dI l1) ([],0)) fun a0 =>
 some a0
def nB (f1:GFn):Option (GFn) :=
 (mF 24 [] f1.Params).bind fun l2 =>
 some (⟨f1.Name,f1.Params,f1.Res,f1.Body,f1.Ret⟩:GFn)
def cH (p1:GProgram):(Int × GProgram)→Option ((Int × GProgram) ⊕ (GProgram)):=fun ⟨v7,v8⟩ =>
 if (decide (v7 < (p1.Fns.length:Int)))=true then
  (aJ p1.Fns v7).bind fun a0 =>
  (nB a0).bind fun a1 =>
  (mF 64 v8.Fns [a1]).bind fun a2 =>
  some (Sum.inl (IntKind.wrap .i64 (v7 + 1),(⟨v8.Nodes,a2⟩:GProgram)))
 else
  some (Sum.inr v8)
def bY (p1:GProgram):Option (GProgram) :=
 (iL p1.Nodes).bind fun r2 =>
 Option.bind (
  aG (cH p1) (0,(⟨r2,[]⟩:GProgram))) fun a0 =>
 some a0
def oW (p1:GProgram) (a0:Int):Option (List Int) :=
 (cU a0 0 (IntKind.wrap .i64 ((p1.Fns.length:Int) - 1))).bind fun r3 =>
 if (!r3)=true then
  some []
 else
  (aJ p1.Fns a0).bind fun e7 =>
  (aJ p1.Fns a0).bind fun e8 =>
  if (e8.Ret != (-1))=true then
   (aJ p1.Fns a0).bind fun a1 =>
   (mF 8 [e7.Body] [a1.Ret]).bind fun a2 =>
   some a2
  else
   some [e7.Body]
def fC (a2:List Int):((List Int) × Int)→Option (((List Int) × Int) ⊕ (List Int)):=fun ⟨a0,a1⟩ =>
 if (decide (a1 < (a2.length:Int)))=true then
  (aJ a2 a1).bind fun a3 =>
  (iS a0 a3).bind fun a4 =>
  if (!a4)=true then
   (mF 8 a0 [a3]).bind fun a5 =>
   some (Sum.inl (a5,IntKind.wrap .i64 (a1 + 1)))
  else
   some (Sum.inl (a0,IntKind.wrap .i64 (a1 + 1)))
 else
  some (Sum.inr a0)
def dS (p1:GProgram) (r6:List Int):((List Int) × Int)→Option (((List Int) × Int) ⊕ (List Int)):=fun ⟨a0,v9⟩ =>
 if (decide (v9 < (r6.length:Int)))=true then
  Option.bind (
   (aJ r6 v9).bind fun a2 =>
   (mD p1 a2).bind fun a3 =>
   aG (fC a3) (a0,0)) fun a1 =>
  some (Sum.inl (a1,IntKind.wrap .i64 (v9 + 1)))
 else
  some (Sum.inr a0)
def lN (p1:GProgram) (a1:Int):Option (List Int) :=
 Option.bind (
  (oW p1 a1).bind fun r6 =>
  aG (dS p1 r6) ([],0)) fun a0 =>
 (sort_Ints a0).bind fun a2 =>
 some a2
def cN (a0:ByteArray→Option ByteArray) (r9:List Int):(Int × GProgram)→Option ((Int × GProgram) ⊕ (GProgram)):=fun ⟨a3,a2⟩ =>
 if (decide (a3 < (r9.length:Int)))=true then
  (aJ r9 a3).bind fun a4 =>
  (aJ a2.Nodes a4).bind fun a1 =>
  Option.bind (
   (fE a1.Kind).bind fun a5 =>
   if a5=true then
    some (a1.Kind != 12)
   else
    some false) fun a6 =>
  if a6=true then
   (a0 a1.Name).bind fun a7 =>
   hO (List.set a2.Nodes a4.toNat (⟨a1.Kind,a1.Num,a7,a1.Kids⟩:GNode)) fun a8 =>
   some (Sum.inl (IntKind.wrap .i64 (a3 + 1),(⟨a8,a2.Fns⟩:GProgram)))
  else
   some (Sum.inl (IntKind.wrap .i64 (a3 + 1),a2))
 else
  some (Sum.inr a2)
def dR (a4:Int) (a0:ByteArray→Option ByteArray) (a6:GFn):(Int × GProgram)→Option ((Int × GProgram) ⊕ (GProgram)):=fun ⟨a2,a3⟩ =>
 if (decide (a2 < (a6.Params.length:Int)))=true then
  (aJ a3.Fns a4).bind fun a1 =>
  (aJ a1.Params a2).bind fun a5 =>
  (a0 a5.Name).bind fun a7 =>
  hO (List.set a1.Params a2.toNat (⟨a7,a5.Typ⟩:GParam)) fun a8 =>
  hO (List.set a3.Fns a4.toNat (⟨a1.Name,a8,a1.Res,a1.Body,a1.Ret⟩:GFn)) fun a9 =>
  some (Sum.inl (IntKind.wrap .i64 (a2 + 1),(⟨a3.Nodes,a9⟩:GProgram)))
 else
  some (Sum.inr a3)
def nP (p1:GProgram) (a1:Int) (a0:ByteArray→Option ByteArray):Option (GProgram) :=
 (bY p1).bind fun r4 =>
 Option.bind (
  (lN p1 a1).bind fun r9 =>
  aG (cN a0 r9) (0,r4)) fun a2 =>
 Option.bind (
  (aJ a2.Fns a1).bind fun a3 =>
  aG (dR a1 a0 a3) (0,a2)) fun a4 =>
 some a4
def jF (n1:Int):Option (ByteArray) :=
 (strconv_Itoa n1).bind fun r2 =>
 some r2
def bG (a0:ByteArray) (a2:List GVar):Option (ByteArray) :=
 (mC a2 a0).bind fun r3 =>
 if (decide (r3 < 0))=true then
  some a0
 else
  (jF r3).bind fun r7 =>
  (aEd (⟨#[118]⟩:ByteArray) r7).bind fun t9 =>
  some t9
def gX (p1:GProgram) (a1:Int):Option (GProgram) :=
 (kK p1 a1).bind fun r3 =>
 (nP p1 a1 (fun a0=>bG a0 r3)).bind fun r5 =>
 some r5
def bT (a0:ByteArray→Option ByteArray) (r3:GProgram):(Int × GProgram)→Option ((Int × GProgram) ⊕ (GProgram)):=fun ⟨v8,v9⟩ =>
 if (decide (v8 < (r3.Nodes.length:Int)))=true then
  (aJ v9.Nodes v8).bind fun a1 =>
  if (a1.Kind == 12)=true then
   (a0 a1.Name).bind fun a2 =>
   hO (List.set v9.Nodes v8.toNat (⟨a1.Kind,a1.Num,a2,a1.Kids⟩:GNode)) fun a3 =>
   some (Sum.inl (IntKind.wrap .i64 (v8 + 1),(⟨a3,v9.Fns⟩:GProgram)))
  else
   some (Sum.inl (IntKind.wrap .i64 (v8 + 1),v9))
 else
  some (Sum.inr v9)
def bR (a0:ByteArray→Option ByteArray) (a4:GProgram):(Int × GProgram)→Option ((Int × GProgram) ⊕ (GProgram)):=fun ⟨a2,a3⟩ =>
 if (decide (a2 < (a4.Fns.length:Int)))=true then
  (aJ a3.Fns a2).bind fun a1 =>
  (a0 a1.Name).bind fun a5 =>
  hO (List.set a3.Fns a2.toNat (⟨a5,a1.Params,a1.Res,a1.Body,a1.Ret⟩:GFn)) fun a6 =>
  some (Sum.inl (IntKind.wrap .i64 (a2 + 1),(⟨a3.Nodes,a6⟩:GProgram)))
 else
  some (Sum.inr a3)
def jT (p1:GProgram) (a0:ByteArray→Option ByteArray):Option (GProgram) :=
 (bY p1).bind fun r3 =>
 Option.bind (
  aG (bT a0 r3) (0,r3)) fun a1 =>
 Option.bind (
  aG (bR a0 a1) (0,a1)) fun a2 =>
 some a2
def bJ (a0:ByteArray) (a2:GProgram):Option (ByteArray) :=
 (lP a2 a0).bind fun r3 =>
 if (decide (r3 < 0))=true then
  some a0
 else
  (jF r3).bind fun r7 =>
  (aEd (⟨#[102]⟩:ByteArray) r7).bind fun t9 =>
  some t9
def cJ (p1:GProgram):(Int × GProgram)→Option ((Int × GProgram) ⊕ (GProgram)):=fun ⟨a0,a1⟩ =>
 if (decide (a0 < (p1.Fns.length:Int)))=true then
  (gX a1 a0).bind fun a2 =>
  some (Sum.inl (IntKind.wrap .i64 (a0 + 1),a2))
 else
  some (Sum.inr a1)
def dD (p1:GProgram):Option (GProgram) :=
 (gL p1).bind fun r2 =>
 if (!r2)=true then
  (bY p1).bind fun r6 =>
  some r6
 else
  (bY p1).bind fun r8 =>
  Option.bind (
   aG (cJ p1) (0,r8)) fun a1 =>
  (jT a1 (fun a0=>bJ a0 p1)).bind fun a2 =>
  some a2
def fV (a1:List Int) (b2:List Int):Int→Option ((Int) ⊕ ((Unit) ⊕ (Bool))):=fun i8 =>
 if (decide (i8 < (a1.length:Int)))=true then
  (aJ a1 i8).bind fun a0 =>
  (aJ b2 i8).bind fun a2 =>
  if (a0 != a2)=true then
   some (Sum.inr (Sum.inr false))
  else
   some (Sum.inl (IntKind.wrap .i64 (i8 + 1)))
 else
  some (Sum.inr (Sum.inl ()))
def mW (a1:List Int) (b2:List Int):Option (Bool) :=
 if ((a1.length:Int) != (b2.length:Int))=true then
  some false
 else
  Option.bind (
   aG (fV a1 b2) 0) fun j7 =>
  match j7 with
  | Sum.inr z=>some z
  | Sum.inl () =>
   some true
def mV (a1:GNode) (b2:GNode):Option (Bool) :=
 if (a1.Kind != b2.Kind)=true then
  some false
 else
  if (a1.Num != b2.Num)=true then
   some false
  else
   if (!(sEq a1.Name b2.Name))=true then
    some false
   else
    (mW a1.Kids b2.Kids).bind fun r9 =>
    if (!r9)=true then
     some false
    else
     some true
def eZ (a1:List GNode) (b2:List GNode):Int→Option ((Int) ⊕ ((Unit) ⊕ (Bool))):=fun i8 =>
 if (decide (i8 < (a1.length:Int)))=true then
  (aJ a1 i8).bind fun a0 =>
  (aJ b2 i8).bind fun a2 =>
  (mV a0 a2).bind fun a3 =>
  if (!a3)=true then
   some (Sum.inr (Sum.inr false))
  else
   some (Sum.inl (IntKind.wrap .i64 (i8 + 1)))
 else
  some (Sum.inr (Sum.inl ()))
def lJ (a1:List GNode) (b2:List GNode):Option (Bool) :=
 if ((a1.length:Int) != (b2.length:Int))=true then
  some false
 else
  Option.bind (
   aG (eZ a1 b2) 0) fun j7 =>
  match j7 with
  | Sum.inr z=>some z
  | Sum.inl () =>
   some true
def lI (a1:GParam) (b2:GParam):Option (Bool) :=
 if (!(sEq a1.Name b2.Name))=true then
  some false
 else
  if (a1.Typ != b2.Typ)=true then
   some false
  else
   some true
def eE (a1:List GParam) (b2:List GParam):Int→Option ((Int) ⊕ ((Unit) ⊕ (Bool))):=fun i8 =>
 if (decide (i8 < (a1.length:Int)))=true then
  (aJ a1 i8).bind fun a0 =>
  (aJ b2 i8).bind fun a2 =>
  (lI a0 a2).bind fun a3 =>
  if (!a3)=true then
   some (Sum.inr (Sum.inr false))
  else
   some (Sum.inl (IntKind.wrap .i64 (i8 + 1)))
 else
  some (Sum.inr (Sum.inl ()))
def jS (a1:List GParam) (b2:List GParam):Option (Bool) :=
 if ((a1.length:Int) != (b2.length:Int))=true then
  some false
 else
  Option.bind (
   aG (eE a1 b2) 0) fun j7 =>
  match j7 with
  | Sum.inr z=>some z
  | Sum.inl () =>
   some true
def qY (a1:GFn) (b2:GFn):Option (Bool) :=
 if (!(sEq a1.Name b2.Name))=true then
  some false
 else
  (jS a1.Params b2.Params).bind fun r5 =>
  if (!r5)=true then
   some false
  else
   if (a1.Res != b2.Res)=true then
    some false
   else
    if (a1.Body != b2.Body)=true then
     some false
    else
     if (a1.Ret != b2.Ret)=true then
      some false
     else
      some true
def gU (a1:List GFn) (b2:List GFn):Int→Option ((Int) ⊕ ((Unit) ⊕ (Bool))):=fun i8 =>
 if (decide (i8 < (a1.length:Int)))=true then
  (aJ a1 i8).bind fun a0 =>
  (aJ b2 i8).bind fun a2 =>
  (qY a0 a2).bind fun a3 =>
  if (!a3)=true then
   some (Sum.inr (Sum.inr false))
  else
   some (Sum.inl (IntKind.wrap .i64 (i8 + 1)))
 else
  some (Sum.inr (Sum.inl ()))
def oS (a1:List GFn) (b2:List GFn):Option (Bool) :=
 if ((a1.length:Int) != (b2.length:Int))=true then
  some false
 else
  Option.bind (
   aG (gU a1 b2) 0) fun j7 =>
  match j7 with
  | Sum.inr z=>some z
  | Sum.inl () =>
   some true
def dC (a1:GProgram) (b2:GProgram):Option (Bool) :=
 (lJ a1.Nodes b2.Nodes).bind fun r3 =>
 if (!r3)=true then
  some false
 else
  (oS a1.Fns b2.Fns).bind fun r7 =>
  if (!r7)=true then
   some false
  else
   some true
def eB:(Int × ByteArray)→Option ((Int × ByteArray) ⊕ (ByteArray)):=fun ⟨k7,a0⟩ =>
 if (decide (k7 > 0))=true then
  (aEd (hJ [IntKind.wrap .u8 (IntKind.wrap .i64 (48 + (Int.tmod k7 10)))]) a0).bind fun a1 =>
  some (Sum.inl (IntKind.wrap .i64 (Int.tdiv k7 10),a1))
 else
  some (Sum.inr a0)
def aP (k1:Int):Option (ByteArray) :=
 if (decide (k1 ≤ 0))=true then
  some (⟨#[109,48]⟩:ByteArray)
 else
  Option.bind (
   aG (eB) (k1,(⟨#[]⟩:ByteArray))) fun a0 =>
  (aEd (⟨#[109]⟩:ByteArray) a0).bind fun a1 =>
  some a1
def cS:((List Int) × Int × Int)→Option (((List Int) × Int × Int) ⊕ ((List Int) × Int)):=fun ⟨a6,k7,i8⟩ =>
 if (decide (i8 < (a6.length:Int)))=true then
  (aJ a6 i8).bind fun a1 =>
  hO (List.set a6 i8.toNat k7) fun a0 =>
  some (Sum.inl (a0,IntKind.wrap .i64 (k7 + 1),IntKind.wrap .i64 (i8 + 1)))
 else
  some (Sum.inr (a6,k7))
def jR (a1:List Int) (k2:Int):Option (Int × (List Int)) :=
 Option.bind (
  aG (cS) (a1,k2,0)) fun ⟨a0,a2⟩ =>
 some (a2,a0)
def cE:((List GNode) × Int × Int)→Option (((List GNode) × Int × Int) ⊕ ((List GNode) × Int)):=fun ⟨a6,k7,i8⟩ =>
 if (decide (i8 < (a6.length:Int)))=true then
  (aJ a6 i8).bind fun a1 =>
  hO (List.set a6 i8.toNat (⟨k7,a1.Num,a1.Name,a1.Kids⟩:GNode)) fun a4 =>
  (aJ a4 i8).bind fun a2 =>
  hO (List.set a4 i8.toNat (⟨a2.Kind,IntKind.wrap .i64 (k7 + 1),a2.Name,a2.Kids⟩:GNode)) fun a5 =>
  (aP (IntKind.wrap .i64 ((IntKind.wrap .i64 (k7 + 1)) + 1))).bind fun a8 =>
  (aJ a5 i8).bind fun a3 =>
  hO (List.set a5 i8.toNat (⟨a3.Kind,a3.Num,a8,a3.Kids⟩:GNode)) fun a7 =>
  (aJ a7 i8).bind fun a0 =>
  (jR a0.Kids (IntKind.wrap .i64 ((IntKind.wrap .i64 ((IntKind.wrap .i64 (k7 + 1)) + 1)) + 1))).bind fun ⟨a9,b0⟩ =>
  hO (List.set a7 i8.toNat (⟨a0.Kind,a0.Num,a0.Name,b0⟩:GNode)) fun b1 =>
  some (Sum.inl (b1,a9,IntKind.wrap .i64 (i8 + 1)))
 else
  some (Sum.inr (a6,k7))
def iJ (a1:List GNode) (k2:Int):Option (Int × (List GNode)) :=
 Option.bind (
  aG (cE) (a1,k2,0)) fun ⟨a0,a2⟩ =>
 some (a2,a0)
def bP:((List GParam) × Int × Int)→Option (((List GParam) × Int × Int) ⊕ ((List GParam) × Int)):=fun ⟨a6,k7,i8⟩ =>
 if (decide (i8 < (a6.length:Int)))=true then
  (aP k7).bind fun a1 =>
  (aJ a6 i8).bind fun a2 =>
  hO (List.set a6 i8.toNat (⟨a1,a2.Typ⟩:GParam)) fun a0 =>
  (aJ a0 i8).bind fun a3 =>
  hO (List.set a0 i8.toNat (⟨a3.Name,IntKind.wrap .i64 (k7 + 1)⟩:GParam)) fun a4 =>
  some (Sum.inl (a4,IntKind.wrap .i64 ((IntKind.wrap .i64 (k7 + 1)) + 1),IntKind.wrap .i64 (i8 + 1)))
 else
  some (Sum.inr (a6,k7))
def gJ (a1:List GParam) (k2:Int):Option (Int × (List GParam)) :=
 Option.bind (
  aG (bP) (a1,k2,0)) fun ⟨a0,a2⟩ =>
 some (a2,a0)
def dP:((List GFn) × Int × Int)→Option (((List GFn) × Int × Int) ⊕ ((List GFn) × Int)):=fun ⟨a6,k7,i8⟩ =>
 if (decide (i8 < (a6.length:Int)))=true then
  (aP k7).bind fun b1 =>
  (aJ a6 i8).bind fun a1 =>
  hO (List.set a6 i8.toNat (⟨b1,a1.Params,a1.Res,a1.Body,a1.Ret⟩:GFn)) fun a7 =>
  (aJ a7 i8).bind fun a0 =>
  (gJ a0.Params (IntKind.wrap .i64 (k7 + 1))).bind fun ⟨a2,b2⟩ =>
  hO (List.set a7 i8.toNat (⟨a0.Name,b2,a0.Res,a0.Body,a0.Ret⟩:GFn)) fun a8 =>
  (aJ a8 i8).bind fun a3 =>
  hO (List.set a8 i8.toNat (⟨a3.Name,a3.Params,a2,a3.Body,a3.Ret⟩:GFn)) fun a9 =>
  (aJ a9 i8).bind fun a4 =>
  hO (List.set a9 i8.toNat (⟨a4.Name,a4.Params,a4.Res,IntKind.wrap .i64 (a2 + 1),a4.Ret⟩:GFn)) fun b0 =>
  (aJ b0 i8).bind fun a5 =>
  hO (List.set b0 i8.toNat (⟨a5.Name,a5.Params,a5.Res,a5.Body,IntKind.wrap .i64 ((IntKind.wrap .i64 (a2 + 1)) + 1)⟩:GFn)) fun b3 =>
  some (Sum.inl (b3,IntKind.wrap .i64 ((IntKind.wrap .i64 ((IntKind.wrap .i64 (a2 + 1)) + 1)) + 1),IntKind.wrap .i64 (i8 + 1)))
 else
  some (Sum.inr (a6,k7))
def lG (a1:List GFn) (k2:Int):Option (Int × (List GFn)) :=
 Option.bind (
  aG (dP) (a1,k2,0)) fun ⟨a0,a2⟩ =>
 some (a2,a0)
def eC (a1:GProgram) (k2:Int):Option (Int × GProgram) :=
 (iJ a1.Nodes k2).bind fun ⟨r3,q4⟩ =>
 (lG a1.Fns r3).bind fun ⟨r6,q7⟩ =>
 some (r6,(⟨q4,q7⟩:GProgram))
def cT (a1:List Int):(Int × Int)→Option ((Int × Int) ⊕ ((Int) ⊕ (Int))):=fun ⟨k6,i7⟩ =>
 if (decide (i7 < (a1.length:Int)))=true then
  (aJ a1 i7).bind fun a0 =>
  if (a0 != k6)=true then
   some (Sum.inr (Sum.inr (-1)))
  else
   some (Sum.inl (IntKind.wrap .i64 (k6 + 1),IntKind.wrap .i64 (i7 + 1)))
 else
  some (Sum.inr (Sum.inl k6))
def eI (a1:List Int) (k2:Int):Option (Int) :=
 Option.bind (
  aG (cT a1) (k2,0)) fun j5 =>
 match j5 with
 | Sum.inr z=>some z
 | Sum.inl a0 =>
  some a0
def cF (a1:List GNode):(Int × Int)→Option ((Int × Int) ⊕ ((Int) ⊕ (Int))):=fun ⟨k6,i7⟩ =>
 if (decide (i7 < (a1.length:Int)))=true then
  (aJ a1 i7).bind fun a2 =>
  if (a2.Kind != k6)=true then
   some (Sum.inr (Sum.inr (-1)))
  else
   (aJ a1 i7).bind fun a3 =>
   if (a3.Num != (IntKind.wrap .i64 (k6 + 1)))=true then
    some (Sum.inr (Sum.inr (-1)))
   else
    (aJ a1 i7).bind fun a4 =>
    (aP (IntKind.wrap .i64 ((IntKind.wrap .i64 (k6 + 1)) + 1))).bind fun a5 =>
    if (!(sEq a4.Name a5))=true then
     some (Sum.inr (Sum.inr (-1)))
    else
     (aJ a1 i7).bind fun a6 =>
     (eI a6.Kids (IntKind.wrap .i64 ((IntKind.wrap .i64 ((IntKind.wrap .i64 (k6 + 1)) + 1)) + 1))).bind fun a0 =>
     if (decide (a0 < 0))=true then
      some (Sum.inr (Sum.inr (-1)))
     else
      some (Sum.inl (a0,IntKind.wrap .i64 (i7 + 1)))
 else
  some (Sum.inr (Sum.inl k6))
def iK (a1:List GNode) (k2:Int):Option (Int) :=
 Option.bind (
  aG (cF a1) (k2,0)) fun j5 =>
 match j5 with
 | Sum.inr z=>some z
 | Sum.inl a0 =>
  some a0
def bQ (a1:List GParam):(Int × Int)→Option ((Int × Int) ⊕ ((Int) ⊕ (Int))):=fun ⟨k6,i7⟩ =>
 if (decide (i7 < (a1.length:Int)))=true then
  (aJ a1 i7).bind fun a0 =>
  (aP k6).bind fun a2 =>
  if (!(sEq a0.Name a2))=true then
   some (Sum.inr (Sum.inr (-1)))
  else
   (aJ a1 i7).bind fun a3 =>
   if (a3.Typ != (IntKind.wrap .i64 (k6 + 1)))=true then
    some (Sum.inr (Sum.inr (-1)))
   else
    some (Sum.inl (IntKind.wrap .i64 ((IntKind.wrap .i64 (k6 + 1)) + 1),IntKind.wrap .i64 (i7 + 1)))
 else
  some (Sum.inr (Sum.inl k6))
def cM (a1:List GParam) (k2:Int):Option (Int) :=
 Option.bind (
  aG (bQ a1) (k2,0)) fun j5 =>
 match j5 with
 | Sum.inr z=>some z
 | Sum.inl a0 =>
  some a0
def dQ (a1:List GFn):(Int × Int)→Option ((Int × Int) ⊕ ((Int) ⊕ (Int))):=fun ⟨k6,i7⟩ =>
 if (decide (i7 < (a1.length:Int)))=true then
  (aJ a1 i7).bind fun a2 =>
  (aP k6).bind fun a3 =>
  if (!(sEq a2.Name a3))=true then
   some (Sum.inr (Sum.inr (-1)))
  else
   (aJ a1 i7).bind fun a4 =>
   (cM a4.Params (IntKind.wrap .i64 (k6 + 1))).bind fun a0 =>
   if (decide (a0 < 0))=true then
    some (Sum.inr (Sum.inr (-1)))
   else
    (aJ a1 i7).bind fun a5 =>
    if (a5.Res != a0)=true then
     some (Sum.inr (Sum.inr (-1)))
    else
     (aJ a1 i7).bind fun a6 =>
     if (a6.Body != (IntKind.wrap .i64 (a0 + 1)))=true then
      some (Sum.inr (Sum.inr (-1)))
     else
      (aJ a1 i7).bind fun a7 =>
      if (a7.Ret != (IntKind.wrap .i64 ((IntKind.wrap .i64 (a0 + 1)) + 1)))=true then
       some (Sum.inr (Sum.inr (-1)))
      else
       some (Sum.inl (IntKind.wrap .i64 ((IntKind.wrap .i64 ((IntKind.wrap .i64 (a0 + 1)) + 1)) + 1),IntKind.wrap .i64 (i7 + 1)))
 else
  some (Sum.inr (Sum.inl k6))
def lH (a1:List GFn) (k2:Int):Option (Int) :=
 Option.bind (
  aG (dQ a1) (k2,0)) fun j5 =>
 match j5 with
 | Sum.inr z=>some z
 | Sum.inl a0 =>
  some a0
def eD (a1:GProgram) (k2:Int):Option (Int) :=
 (iK a1.Nodes k2).bind fun r3 =>
 if (decide (r3 < 0))=true then
  some (-1)
 else
  (lH a1.Fns r3).bind fun r7 =>
  if (decide (r7 < 0))=true then
   some (-1)
  else
   some r7
def eJ (a0:GProgram):Option (Bool) :=
 (iI a0 1048576).bind fun r2 =>
 if (decide (r2 < 0))=true then
  some true
 else
  (dB a0).bind fun r6 =>
  (eM r6).bind fun r8 =>
  (dB a0).bind fun a1 =>
  (dD a1).bind fun a2 =>
  (dC a2 r8).bind fun a7 =>
  if (!a7)=true then
   some false
  else
   (dB a0).bind fun a8 =>
   (dC a1 a8).bind fun a9 =>
   if (!a9)=true then
    some false
   else
    (eC a1 1).bind fun ⟨b0,b6⟩ =>
    Option.bind (
     if (decide (b0 < 0))=true then
      some true
     else
      (dC a2 r8).bind fun b1 =>
      some (!b1)) fun b2 =>
    if b2=true then
     some false
    else
     (eC a2 1).bind fun ⟨a3,a4⟩ =>
     (eD a4 1).bind fun a5 =>
     if (decide (a5 < 0))=true then
      some false
     else
      if (a5 != a3)=true then
       some false
      else
       (dB a0).bind fun b3 =>
       (dD b3).bind fun b4 =>
       (dC b4 r8).bind fun b5 =>
       if (!b5)=true then
        some false
       else
        (eD a4 1).bind fun a6 =>
        if (decide (a6 < 0))=true then
         some false
        else
         if (a6 != a3)=true then
          some false
         else
          some true
end Go.OM
end
set_option maxRecDepth 100000
set_option maxHeartbeats 8000000
namespace Go.Proofs.T
open Go.OM
noncomputable def ty:TypeId→Option TI
 | 2=>some ⟨1,8,.int .i64,[.v (.int .i64 0)]⟩
 | 3=>some ⟨1,8,.int .i64,[.v (.int .i64 0)]⟩
 | 4=>some ⟨1,1,.bool,[.v (.bool false)]⟩
 | 5=>some ⟨1,1,.int .u8,[.v (.int .u8 0)]⟩
 | 7=>some ⟨4,24,.struct [(0,1),(1,1),(2,1),(3,1)],[.v (.int .i64 0),.v (.int .i64 0),.v (.bool false),.v (.int .u8 0)]⟩
 | 9=>some ⟨1,16,.str,[.v (.string .empty)]⟩
 | 12=>some ⟨1,8,.int .u64,[.v (.int .u64 0)]⟩
 | 13=>some ⟨2,24,.struct [(0,1),(1,1)],[.v (.string .empty),.v (.int .u64 0)]⟩
 | 22=>some ⟨1,24,.slice 62,[.nl true 4 none]⟩
 | 23=>some ⟨1,24,.slice 66,[.nl true 5 none]⟩
 | 24=>some ⟨2,48,.struct [(0,1),(1,1)],[.nl true 4 none,.nl true 5 none]⟩
 | 25=>some ⟨2,48,.struct [(0,1),(1,1)],[.nl true 4 none,.nl true 5 none]⟩
 | 28=>some ⟨1,24,.slice 53,[.nl true 4 none]⟩
 | 29=>some ⟨1,24,.slice 58,[.nl true 5 none]⟩
 | 30=>some ⟨2,48,.struct [(0,1),(1,1)],[.nl true 4 none,.nl true 5 none]⟩
 | 31=>some ⟨2,48,.struct [(0,1),(1,1)],[.nl true 4 none,.nl true 5 none]⟩
 | 48=>some ⟨1,8,.ptr,[.v (.pointer none)]⟩
 | 51=>some ⟨1,24,.slice 3,[.nl true 1 none]⟩
 | 52=>some ⟨4,56,.struct [(0,1),(1,1),(2,1),(3,1)],[.v (.int .i64 0),.v (.int .i64 0),.v (.string .empty),.nl true 1 none]⟩
 | 53=>some ⟨4,56,.struct [(0,1),(1,1),(2,1),(3,1)],[.v (.int .i64 0),.v (.int .i64 0),.v (.string .empty),.nl true 1 none]⟩
 | 56=>some ⟨1,24,.slice 77,[.nl true 2 none]⟩
 | 57=>some ⟨5,64,.struct [(0,1),(1,1),(2,1),(3,1),(4,1)],[.v (.string .empty),.nl true 2 none,.v (.int .i64 0),.v (.int .i64 0),.v (.int .i64 0)]⟩
 | 58=>some ⟨5,64,.struct [(0,1),(1,1),(2,1),(3,1),(4,1)],[.v (.string .empty),.nl true 2 none,.v (.int .i64 0),.v (.int .i64 0),.v (.int .i64 0)]⟩
 | 60=>some ⟨1,8,.func,[.v .nilFunc]⟩
 | 62=>some ⟨4,56,.struct [(0,1),(1,1),(2,1),(3,1)],[.v (.int .i64 0),.v (.int .i64 0),.v (.string .empty),.nl true 1 none]⟩
 | 64=>some ⟨1,24,.slice 109,[.nl true 2 none]⟩
 | 65=>some ⟨5,64,.struct [(0,1),(1,1),(2,1),(3,1),(4,1)],[.v (.string .empty),.nl true 2 none,.v (.int .i64 0),.v (.int .i64 0),.v (.int .i64 0)]⟩
 | 66=>some ⟨5,64,.struct [(0,1),(1,1),(2,1),(3,1),(4,1)],[.v (.string .empty),.nl true 2 none,.v (.int .i64 0),.v (.int .i64 0),.v (.int .i64 0)]⟩
 | 67=>some ⟨1,24,.slice 71,[.nl true 3 none]⟩
 | 70=>some ⟨3,32,.struct [(0,1),(1,1),(2,1)],[.v (.string .empty),.v (.int .i64 0),.v (.int .i64 0)]⟩
 | 71=>some ⟨3,32,.struct [(0,1),(1,1),(2,1)],[.v (.string .empty),.v (.int .i64 0),.v (.int .i64 0)]⟩
 | 72=>some ⟨1,8,.ptr,[.v (.pointer none)]⟩
 | 73=>some ⟨1,24,.slice 9,[.nl true 1 none]⟩
 | 74=>some ⟨5,88,.struct [(0,2),(2,1),(3,1),(4,1)],[.nl true 4 none,.nl true 5 none,.v (.int .i64 0),.nl true 1 none,.v (.bool false)]⟩
 | 75=>some ⟨5,88,.struct [(0,2),(2,1),(3,1),(4,1)],[.nl true 4 none,.nl true 5 none,.v (.int .i64 0),.nl true 1 none,.v (.bool false)]⟩
 | 76=>some ⟨2,24,.struct [(0,1),(1,1)],[.v (.string .empty),.v (.int .i64 0)]⟩
 | 77=>some ⟨2,24,.struct [(0,1),(1,1)],[.v (.string .empty),.v (.int .i64 0)]⟩
 | 95=>some ⟨1,24,.slice 5,[.nl true 1 none]⟩
 | 96=>some ⟨1,8,.ptr,[.v (.pointer none)]⟩
 | 107=>some ⟨1,8,.ptr,[.v (.pointer none)]⟩
 | 109=>some ⟨2,24,.struct [(0,1),(1,1)],[.v (.string .empty),.v (.int .i64 0)]⟩
 | 112=>some ⟨1,24,.slice 4,[.nl true 1 none]⟩
 | _=>none
theorem ty_ok (t:TypeId) (ti:TI) (h:ty t=some ti):TIok Tryz.prog t ti:=by
 unfold ty at h
 split at h
 ·cases h;exact ⟨by kernel_rfl,Tryz.underlying2,rfl⟩
 ·cases h;exact ⟨by kernel_rfl,Tryz.underlying3,rfl⟩
 ·cases h;exact ⟨by kernel_rfl,Tryz.underlying4,rfl⟩
 ·cases h;exact ⟨by kernel_rfl,Tryz.underlying5,rfl⟩
 ·cases h;exact ⟨by kernel_rfl,(show aQ Tryz.prog 7=some [(0,1),(1,1),(2,1),(3,1)] by kernel_rfl),rfl⟩
 ·cases h;exact ⟨by kernel_rfl,Tryz.underlying9,rfl⟩
 ·cases h;exact ⟨by kernel_rfl,Tryz.underlying12,rfl⟩
 ·cases h;exact ⟨by kernel_rfl,(show aQ Tryz.prog 13=some [(0,1),(1,1)] by kernel_rfl),rfl⟩
 ·cases h;exact ⟨by kernel_rfl,Tryz.underlying22,rfl⟩
 ·cases h;exact ⟨by kernel_rfl,Tryz.underlying23,rfl⟩
 ·cases h;exact ⟨by kernel_rfl,(show aQ Tryz.prog 24=some [(0,1),(1,1)] by kernel_rfl),rfl⟩
 ·cases h;exact ⟨by kernel_rfl,(show aQ Tryz.prog 25=some [(0,1),(1,1)] by kernel_rfl),rfl⟩
 ·cases h;exact ⟨by kernel_rfl,Tryz.underlying28,rfl⟩
 ·cases h;exact ⟨by kernel_rfl,Tryz.underlying29,rfl⟩
 ·cases h;exact ⟨by kernel_rfl,(show aQ Tryz.prog 30=some [(0,1),(1,1)] by kernel_rfl),rfl⟩
 ·cases h;exact ⟨by kernel_rfl,(show aQ Tryz.prog 31=some [(0,1),(1,1)] by kernel_rfl),rfl⟩
 ·cases h;exact ⟨by kernel_rfl,⟨_,Tryz.underlying48⟩,rfl⟩
 ·cases h;exact ⟨by kernel_rfl,Tryz.underlying51,rfl⟩
 ·cases h;exact ⟨by kernel_rfl,(show aQ Tryz.prog 52=some [(0,1),(1,1),(2,1),(3,1)] by kernel_rfl),rfl⟩
 ·cases h;exact ⟨by kernel_rfl,(show aQ Tryz.prog 53=some [(0,1),(1,1),(2,1),(3,1)] by kernel_rfl),rfl⟩
 ·cases h;exact ⟨by kernel_rfl,Tryz.underlying56,rfl⟩
 ·cases h;exact ⟨by kernel_rfl,(show aQ Tryz.prog 57=some [(0,1),(1,1),(2,1),(3,1),(4,1)] by kernel_rfl),rfl⟩
 ·cases h;exact ⟨by kernel_rfl,(show aQ Tryz.prog 58=some [(0,1),(1,1),(2,1),(3,1),(4,1)] by kernel_rfl),rfl⟩
 ·cases h;exact ⟨by kernel_rfl,⟨_,_,_,Tryz.underlying60⟩,rfl⟩
 ·cases h;exact ⟨by kernel_rfl,(show aQ Tryz.prog 62=some [(0,1),(1,1),(2,1),(3,1)] by kernel_rfl),rfl⟩
 ·cases h;exact ⟨by kernel_rfl,Tryz.underlying64,rfl⟩
 ·cases h;exact ⟨by kernel_rfl,(show aQ Tryz.prog 65=some [(0,1),(1,1),(2,1),(3,1),(4,1)] by kernel_rfl),rfl⟩
 ·cases h;exact ⟨by kernel_rfl,(show aQ Tryz.prog 66=some [(0,1),(1,1),(2,1),(3,1),(4,1)] by kernel_rfl),rfl⟩
 ·cases h;exact ⟨by kernel_rfl,Tryz.underlying67,rfl⟩
 ·cases h;exact ⟨by kernel_rfl,(show aQ Tryz.prog 70=some [(0,1),(1,1),(2,1)] by kernel_rfl),rfl⟩
 ·cases h;exact ⟨by kernel_rfl,(show aQ Tryz.prog 71=some [(0,1),(1,1),(2,1)] by kernel_rfl),rfl⟩
 ·cases h;exact ⟨by kernel_rfl,⟨_,Tryz.underlying72⟩,rfl⟩
 ·cases h;exact ⟨by kernel_rfl,Tryz.underlying73,rfl⟩
 ·cases h;exact ⟨by kernel_rfl,(show aQ Tryz.prog 74=some [(0,2),(2,1),(3,1),(4,1)] by kernel_rfl),rfl⟩
 ·cases h;exact ⟨by kernel_rfl,(show aQ Tryz.prog 75=some [(0,2),(2,1),(3,1),(4,1)] by kernel_rfl),rfl⟩
 ·cases h;exact ⟨by kernel_rfl,(show aQ Tryz.prog 76=some [(0,1),(1,1)] by kernel_rfl),rfl⟩
 ·cases h;exact ⟨by kernel_rfl,(show aQ Tryz.prog 77=some [(0,1),(1,1)] by kernel_rfl),rfl⟩
 ·cases h;exact ⟨by kernel_rfl,Tryz.underlying95,rfl⟩
 ·cases h;exact ⟨by kernel_rfl,⟨_,Tryz.underlying96⟩,rfl⟩
 ·cases h;exact ⟨by kernel_rfl,⟨_,Tryz.underlying107⟩,rfl⟩
 ·cases h;exact ⟨by kernel_rfl,(show aQ Tryz.prog 109=some [(0,1),(1,1)] by kernel_rfl),rfl⟩
 ·cases h;exact ⟨by kernel_rfl,Tryz.underlying112,rfl⟩
 ·cases h
noncomputable def E:Env:=⟨Tryz.prog,ty,ty_ok,by kernel_rfl,[(3,fun cs=>∃ m,cs[0]? = some (.int .i64 m)),(0,fun cs=>cs=((Lib.pow10Tab.map fun z=>Value.int .u64 z).toArray))]⟩
@[simp] theorem E_ty2:E.ty 2=some ⟨1,8,.int .i64,[.v (.int .i64 0)]⟩:=rfl
@[simp] theorem aHl:E.ty 3=some ⟨1,8,.int .i64,[.v (.int .i64 0)]⟩:=rfl
@[simp] theorem E_ty4:E.ty 4=some ⟨1,1,.bool,[.v (.bool false)]⟩:=rfl
@[simp] theorem E_ty5:E.ty 5=some ⟨1,1,.int .u8,[.v (.int .u8 0)]⟩:=rfl
@[simp] theorem E_ty7:E.ty 7=some ⟨4,24,.struct [(0,1),(1,1),(2,1),(3,1)],[.v (.int .i64 0),.v (.int .i64 0),.v (.bool false),.v (.int .u8 0)]⟩:=rfl
@[simp] theorem aPw:E.ty 9=some ⟨1,16,.str,[.v (.string .empty)]⟩:=rfl
@[simp] theorem E_ty12:E.ty 12=some ⟨1,8,.int .u64,[.v (.int .u64 0)]⟩:=rfl
@[simp] theorem E_ty13:E.ty 13=some ⟨2,24,.struct [(0,1),(1,1)],[.v (.string .empty),.v (.int .u64 0)]⟩:=rfl
@[simp] theorem E_ty22:E.ty 22=some ⟨1,24,.slice 62,[.nl true 4 none]⟩:=rfl
@[simp] theorem E_ty23:E.ty 23=some ⟨1,24,.slice 66,[.nl true 5 none]⟩:=rfl
@[simp] theorem E_ty24:E.ty 24=some ⟨2,48,.struct [(0,1),(1,1)],[.nl true 4 none,.nl true 5 none]⟩:=rfl
@[simp] theorem aOs:E.ty 25=some ⟨2,48,.struct [(0,1),(1,1)],[.nl true 4 none,.nl true 5 none]⟩:=rfl
@[simp] theorem E_ty28:E.ty 28=some ⟨1,24,.slice 53,[.nl true 4 none]⟩:=rfl
@[simp] theorem E_ty29:E.ty 29=some ⟨1,24,.slice 58,[.nl true 5 none]⟩:=rfl
@[simp] theorem E_ty30:E.ty 30=some ⟨2,48,.struct [(0,1),(1,1)],[.nl true 4 none,.nl true 5 none]⟩:=rfl
@[simp] theorem E_ty31:E.ty 31=some ⟨2,48,.struct [(0,1),(1,1)],[.nl true 4 none,.nl true 5 none]⟩:=rfl
@[simp] theorem E_ty48:E.ty 48=some ⟨1,8,.ptr,[.v (.pointer none)]⟩:=rfl
@[simp] theorem E_ty51:E.ty 51=some ⟨1,24,.slice 3,[.nl true 1 none]⟩:=rfl
@[simp] theorem E_ty52:E.ty 52=some ⟨4,56,.struct [(0,1),(1,1),(2,1),(3,1)],[.v (.int .i64 0),.v (.int .i64 0),.v (.string .empty),.nl true 1 none]⟩:=rfl
@[simp] theorem E_ty53:E.ty 53=some ⟨4,56,.struct [(0,1),(1,1),(2,1),(3,1)],[.v (.int .i64 0),.v (.int .i64 0),.v (.string .empty),.nl true 1 none]⟩:=rfl
@[simp] theorem E_ty56:E.ty 56=some ⟨1,24,.slice 77,[.nl true 2 none]⟩:=rfl
@[simp] theorem E_ty57:E.ty 57=some ⟨5,64,.struct [(0,1),(1,1),(2,1),(3,1),(4,1)],[.v (.string .empty),.nl true 2 none,.v (.int .i64 0),.v (.int .i64 0),.v (.int .i64 0)]⟩:=rfl
@[simp] theorem E_ty58:E.ty 58=some ⟨5,64,.struct [(0,1),(1,1),(2,1),(3,1),(4,1)],[.v (.string .empty),.nl true 2 none,.v (.int .i64 0),.v (.int .i64 0),.v (.int .i64 0)]⟩:=rfl
@[simp] theorem E_ty60:E.ty 60=some ⟨1,8,.func,[.v .nilFunc]⟩:=rfl
@[simp] theorem aOr:E.ty 62=some ⟨4,56,.struct [(0,1),(1,1),(2,1),(3,1)],[.v (.int .i64 0),.v (.int .i64 0),.v (.string .empty),.nl true 1 none]⟩:=rfl
@[simp] theorem E_ty64:E.ty 64=some ⟨1,24,.slice 109,[.nl true 2 none]⟩:=rfl
@[simp] theorem E_ty65:E.ty 65=some ⟨5,64,.struct [(0,1),(1,1),(2,1),(3,1),(4,1)],[.v (.string .empty),.nl true 2 none,.v (.int .i64 0),.v (.int .i64 0),.v (.int .i64 0)]⟩:=rfl
@[simp] theorem aOq:E.ty 66=some ⟨5,64,.struct [(0,1),(1,1),(2,1),(3,1),(4,1)],[.v (.string .empty),.nl true 2 none,.v (.int .i64 0),.v (.int .i64 0),.v (.int .i64 0)]⟩:=rfl
@[simp] theorem E_ty67:E.ty 67=some ⟨1,24,.slice 71,[.nl true 3 none]⟩:=rfl
@[simp] theorem E_ty70:E.ty 70=some ⟨3,32,.struct [(0,1),(1,1),(2,1)],[.v (.string .empty),.v (.int .i64 0),.v (.int .i64 0)]⟩:=rfl
@[simp] theorem E_ty71:E.ty 71=some ⟨3,32,.struct [(0,1),(1,1),(2,1)],[.v (.string .empty),.v (.int .i64 0),.v (.int .i64 0)]⟩:=rfl
@[simp] theorem E_ty72:E.ty 72=some ⟨1,8,.ptr,[.v (.pointer none)]⟩:=rfl
@[simp] theorem E_ty73:E.ty 73=some ⟨1,24,.slice 9,[.nl true 1 none]⟩:=rfl
@[simp] theorem E_ty74:E.ty 74=some ⟨5,88,.struct [(0,2),(2,1),(3,1),(4,1)],[.nl true 4 none,.nl true 5 none,.v (.int .i64 0),.nl true 1 none,.v (.bool false)]⟩:=rfl
@[simp] theorem E_ty75:E.ty 75=some ⟨5,88,.struct [(0,2),(2,1),(3,1),(4,1)],[.nl true 4 none,.nl true 5 none,.v (.int .i64 0),.nl true 1 none,.v (.bool false)]⟩:=rfl
@[simp] theorem E_ty76:E.ty 76=some ⟨2,24,.struct [(0,1),(1,1)],[.v (.string .empty),.v (.int .i64 0)]⟩:=rfl
@[simp] theorem E_ty77:E.ty 77=some ⟨2,24,.struct [(0,1),(1,1)],[.v (.string .empty),.v (.int .i64 0)]⟩:=rfl
@[simp] theorem E_ty95:E.ty 95=some ⟨1,24,.slice 5,[.nl true 1 none]⟩:=rfl
@[simp] theorem E_ty96:E.ty 96=some ⟨1,8,.ptr,[.v (.pointer none)]⟩:=rfl
@[simp] theorem E_ty107:E.ty 107=some ⟨1,8,.ptr,[.v (.pointer none)]⟩:=rfl
@[simp] theorem aMf:E.ty 109=some ⟨2,24,.struct [(0,1),(1,1)],[.v (.string .empty),.v (.int .i64 0)]⟩:=rfl
@[simp] theorem E_ty112:E.ty 112=some ⟨1,24,.slice 4,[.nl true 1 none]⟩:=rfl
@[simp] theorem feq_77:aLt E 77=some [false,true]:=by kernel_rfl
theorem res75:Tryz.f75.results.toList=[.tmp 4]:=rfl
theorem ent75:aE E.P 75:=eO Tryz.func75 (by simp [Tryz.f75]) rfl
theorem aBf (a1:List Int) (a0:Int) {r0:Int} (h:mQ a1 a0=some r0):Ok E 75 [.val (.sl false 1 (List.map vi a1)),.val (vi a0)] [vi r0] []:=by
 refine oB Tryz.func75 rfl (by simp [Tryz.f75]) fun C (q:C.N=12) hP=>?_
 have y:=aM hP
 unfold mQ at h
 refine O.zR y fun K u=>?_
 refine wC rfl fun K v=>?_;simp [q];apply v
 apply wN;apply u
 refine O.zR y fun K u=>?_
 iterate 5 (refine wC rfl fun K v=>?_;simp [q];apply v)
 apply wN;apply u
 refine O.seq ?_
 refine O.zR y fun K u=>?_
 iterate 2 (refine wC rfl fun K v=>?_;simp [q];apply v)
 apply wN;apply u
 rcases aA h with ⟨a2,h⟩ | ⟨a3,h⟩
 ·refine O.cT' (by simp) a2 ?_
  refine O.zR y fun K u=>?_
  refine wC rfl fun K v=>?_;simp [q];apply v
  apply wN;apply u
  cases h
  refine O.ret ?_
  simp [aC,iB,res75]
 ·refine O.cF' (by simp) a3 ?_
  refine O.skip ?_
  refine O.zR y fun K u=>?_
  iterate 2 (refine wC rfl fun K v=>?_;simp [q];apply v)
  apply wN;apply u
  cases h
  refine O.ret ?_
  simp [aC,iB,res75]
theorem aP3:Tryz.f43.results.toList=[.tmp 4]:=rfl
theorem ent43:aE E.P 43:=eO Tryz.func43 (by simp [Tryz.f43]) rfl
theorem aBd (a1:GNode) (a0:Int) {r0:Int} (h:mP a1 a0=some r0):Ok E 43 [.val (GNode.enc false a1),.val (vi a0)] [vi r0] []:=by
 refine oB Tryz.func43 rfl (by simp [Tryz.f43]) fun C (q:C.N=19) hP=>?_
 have y:=aM hP
 unfold mP at h
 refine O.zR y fun K u=>?_
 iterate 2 (refine wC rfl fun K v=>?_;simp [q];apply v)
 apply wN;apply u
 refine O.zR y fun K u=>?_
 iterate 6 (refine wC rfl fun K v=>?_;simp [q];apply v)
 apply wN;apply u
 refine O.seq ?_
 refine O.zR y fun K u=>?_
 iterate 2 (refine wC rfl fun K v=>?_;simp [q];apply v)
 apply wN;apply u
 rcases aA h with ⟨a2,h⟩ | ⟨a3,h⟩
 ·refine O.cT' (by simp) a2 ?_
  refine O.zR y fun K u=>?_
  refine wC rfl fun K v=>?_;simp [q];apply v
  apply wN;apply u
  cases h
  refine O.ret ?_
  simp [aC,iB,aP3]
 ·refine O.cF' (by simp) a3 ?_
  refine O.skip ?_
  refine O.zR y fun K u=>?_
  iterate 3 (refine wC rfl fun K v=>?_;simp [q];apply v)
  obtain ⟨r5,a4,h⟩:=bS h
  refine wL [(.take,.tmp 13),(.take,.tmp 14)] rfl rfl ent75 (aBf _ _ a4) fun K v=>?_;simp [q];apply v
  refine wC rfl fun K v=>?_;simp [q];apply v
  apply wN;apply u
  refine O.seq ?_
  refine O.zR y fun K u=>?_
  iterate 2 (refine wC rfl fun K v=>?_;simp [q];apply v)
  apply wN;apply u
  rcases aA h with ⟨a5,h⟩ | ⟨a6,h⟩
  ·refine O.cT' (by simp) a5 ?_
   refine O.zR y fun K u=>?_
   refine wC rfl fun K v=>?_;simp [q];apply v
   apply wN;apply u
   cases h
   refine O.ret ?_
   simp [aC,iB,aP3]
  ·refine O.cF' (by simp) a6 ?_
   refine O.skip ?_
   refine O.zR y fun K u=>?_
   iterate 2 (refine wC rfl fun K v=>?_;simp [q];apply v)
   apply wN;apply u
   cases h
   refine O.ret ?_
   simp [aC,iB,aP3]
theorem aP9:Tryz.f17.results.toList=[.tmp 4]:=rfl
theorem ent17:aE E.P 17:=eO Tryz.func17 (by simp [Tryz.f17]) rfl
theorem zZ (a1:List GNode) (a2:Int) {r0:Int} (h:lF a1 a2=some r0):Ok E 17 [.val (.sl false 4 (List.map (GNode.enc false) a1)),.val (vi a2)] [vi r0] []:=by
 refine oB Tryz.func17 rfl (by simp [Tryz.f17]) fun C (q:C.N=27) hP=>?_
 have u:=aM hP
 unfold lF at h
 refine O.zR u fun K w=>?_
 refine wC rfl fun K z=>?_;simp [q];apply z
 apply wN;apply w
 refine O.zR u fun K w=>?_
 iterate 5 (refine wC rfl fun K z=>?_;simp [q];apply z)
 apply wN;apply w
 refine O.seq ?_
 refine O.zR u fun K w=>?_
 iterate 2 (refine wC rfl fun K z=>?_;simp [q];apply z)
 apply wN;apply w
 rcases aA h with ⟨b6,h⟩ | ⟨b7,h⟩
 ·refine O.cT' (by simp) b6 ?_
  refine O.zR u fun K w=>?_
  refine wC rfl fun K z=>?_;simp [q];apply z
  apply wN;apply w
  cases h
  refine O.ret ?_
  simp [aC,iB,aP9]
 ·refine O.cF' (by simp) b7 ?_
  refine O.skip ?_
  obtain ⟨j7,b8,h⟩:=bS h
  refine O.seqC [1] [] (fun v:Int=>⟨[(1,.t (vi v))],[]⟩) (fun v=>j7=Sum.inl v) (fun v hv=>?_) fun K6 b9=>?_
  rotate_left
  ·refine O.zR u fun K w=>?_
   refine wC rfl fun K z=>?_;simp [q];apply z
   apply wN;apply w
   refine O.block ?_
   refine O.loopO [] [0,1,5] [] (fun v:Int × Int=>⟨[(0,.t (.sl false 4 (List.map (GNode.enc false) a1))),(1,.t (vi v.1)),(5,.t (vi v.2))],[]⟩) (dO a1) _ (IntKind.wrap .i64 (a2 - (a1.length:Int)),0) b8 (by simp [q]) ?_
   intro g c2 a0 a7
   obtain ⟨b5,i9⟩:=g
   simp only [dO] at a0
   try dsimp only
   refine O.seq ?_
   refine O.zR u fun K w=>?_
   iterate 4 (refine wC rfl fun K z=>?_;simp [q];apply z)
   apply wN;apply w
   rcases aA a0 with ⟨a8,a0⟩ | ⟨a9,a0⟩
   ·refine O.cT' (by simp) a8 ?_
    refine O.skip ?_
    refine O.seq ?_
    refine O.block ?_
    refine O.zR u fun K w=>?_
    iterate 2 (refine wC rfl fun K z=>?_;simp [q];apply z)
    obtain ⟨c3,b0,a0⟩:=bS a0
    obtain ⟨a3,a4,a5,a6⟩:=gS b0
    iterate 3 (refine wC rfl fun K z=>?_;simp [q,a3,a4,a5,a6];apply z)
    obtain ⟨c4,b1,a0⟩:=bS a0
    refine wL [(.take,.tmp 21),(.take,.tmp 22)] rfl rfl ent43 (aBd _ _ b1) fun K z=>?_;simp [q,a3,a4,a5,a6];apply z
    refine wC rfl fun K z=>?_;simp [q,a3,a4,a5,a6];apply z
    apply wN;apply w
    refine O.zR u fun K w=>?_
    iterate 2 (refine wC rfl fun K z=>?_;simp [q];apply z)
    apply wN;apply w
    rcases aA a0 with ⟨b2,a0⟩ | ⟨b3,a0⟩
    ·refine O.cT' (by simp) b2 ?_
     refine O.zR u fun K w=>?_
     refine wC rfl fun K z=>?_;simp [q];apply z
     apply wN;apply w
     have c0:=congrArg some (a7 _ (Option.some.inj a0).symm)
     cases c0
     try dsimp only at h
     cases h
     refine O.ret ?_
     simp [aC,iB,aP9]
    ·refine O.cF' (by simp) b3 ?_
     refine O.skip ?_
     refine O.zG u fun K w=>?_
     iterate 3 (refine wC rfl fun K z=>?_;simp [q];apply z)
     apply wN;apply w
     cases a0
     exact ⟨_,[],rfl,by simp [q]⟩
   ·refine O.cF' (by simp) a9 ?_
    refine O.exit ?_
    have c1:=congrArg some (a7 _ (Option.some.inj a0).symm)
    cases c1
    exact b9 _ _ [] rfl (by simp [q])
  subst hv
  obtain ⟨b4,hv⟩:∃ y,y=v:=⟨_,rfl⟩
  subst hv
  try dsimp only at h ⊢
  refine O.zR u fun K w=>?_
  iterate 2 (refine wC rfl fun K z=>?_;simp [q];apply z)
  apply wN;apply w
  cases h
  refine O.ret ?_
  simp [aC,iB,aP9]
theorem aOf:Tryz.f100.results.toList=[.tmp 4]:=rfl
theorem ent100:aE E.P 100:=eO Tryz.func100 (by simp [Tryz.f100]) rfl
theorem zX (a1:GParam) (a0:Int) {r0:Int} (h:lE a1 a0=some r0):Ok E 100 [.val (GParam.enc a1),.val (vi a0)] [vi r0] []:=by
 refine oB Tryz.func100 rfl (by simp [Tryz.f100]) fun C (q:C.N=13) hP=>?_
 have y:=aM hP
 unfold lE at h
 refine O.zR y fun K u=>?_
 iterate 2 (refine wC rfl fun K v=>?_;simp [q];apply v)
 apply wN;apply u
 refine O.zR y fun K u=>?_
 iterate 6 (refine wC rfl fun K v=>?_;simp [q];apply v)
 apply wN;apply u
 refine O.seq ?_
 refine O.zR y fun K u=>?_
 iterate 2 (refine wC rfl fun K v=>?_;simp [q];apply v)
 apply wN;apply u
 rcases aA h with ⟨a2,h⟩ | ⟨a3,h⟩
 ·refine O.cT' (by simp) a2 ?_
  refine O.zR y fun K u=>?_
  refine wC rfl fun K v=>?_;simp [q];apply v
  apply wN;apply u
  cases h
  refine O.ret ?_
  simp [aC,iB,aOf]
 ·refine O.cF' (by simp) a3 ?_
  refine O.skip ?_
  refine O.zR y fun K u=>?_
  iterate 2 (refine wC rfl fun K v=>?_;simp [q];apply v)
  apply wN;apply u
  cases h
  refine O.ret ?_
  simp [aC,iB,aOf]
theorem aP0:Tryz.f76.results.toList=[.tmp 4]:=rfl
theorem ent76:aE E.P 76:=eO Tryz.func76 (by simp [Tryz.f76]) rfl
theorem xG (a1:List GParam) (a2:Int) {r0:Int} (h:jQ a1 a2=some r0):Ok E 76 [.val (.sl false 2 (List.map GParam.enc a1)),.val (vi a2)] [vi r0] []:=by
 refine oB Tryz.func76 rfl (by simp [Tryz.f76]) fun C (q:C.N=27) hP=>?_
 have u:=aM hP
 unfold jQ at h
 refine O.zR u fun K w=>?_
 refine wC rfl fun K z=>?_;simp [q];apply z
 apply wN;apply w
 refine O.zR u fun K w=>?_
 iterate 5 (refine wC rfl fun K z=>?_;simp [q];apply z)
 apply wN;apply w
 refine O.seq ?_
 refine O.zR u fun K w=>?_
 iterate 2 (refine wC rfl fun K z=>?_;simp [q];apply z)
 apply wN;apply w
 rcases aA h with ⟨b6,h⟩ | ⟨b7,h⟩
 ·refine O.cT' (by simp) b6 ?_
  refine O.zR u fun K w=>?_
  refine wC rfl fun K z=>?_;simp [q];apply z
  apply wN;apply w
  cases h
  refine O.ret ?_
  simp [aC,iB,aP0]
 ·refine O.cF' (by simp) b7 ?_
  refine O.skip ?_
  obtain ⟨j7,b8,h⟩:=bS h
  refine O.seqC [1] [] (fun v:Int=>⟨[(1,.t (vi v))],[]⟩) (fun v=>j7=Sum.inl v) (fun v hv=>?_) fun K6 b9=>?_
  rotate_left
  ·refine O.zR u fun K w=>?_
   refine wC rfl fun K z=>?_;simp [q];apply z
   apply wN;apply w
   refine O.block ?_
   refine O.loopO [] [0,1,5] [] (fun v:Int × Int=>⟨[(0,.t (.sl false 2 (List.map GParam.enc a1))),(1,.t (vi v.1)),(5,.t (vi v.2))],[]⟩) (cR a1) _ (IntKind.wrap .i64 (a2 - (a1.length:Int)),0) b8 (by simp [q]) ?_
   intro g c2 a0 a7
   obtain ⟨b5,i9⟩:=g
   simp only [cR] at a0
   try dsimp only
   refine O.seq ?_
   refine O.zR u fun K w=>?_
   iterate 4 (refine wC rfl fun K z=>?_;simp [q];apply z)
   apply wN;apply w
   rcases aA a0 with ⟨a8,a0⟩ | ⟨a9,a0⟩
   ·refine O.cT' (by simp) a8 ?_
    refine O.skip ?_
    refine O.seq ?_
    refine O.block ?_
    refine O.zR u fun K w=>?_
    iterate 2 (refine wC rfl fun K z=>?_;simp [q];apply z)
    obtain ⟨c3,b0,a0⟩:=bS a0
    obtain ⟨a3,a4,a5,a6⟩:=gS b0
    iterate 3 (refine wC rfl fun K z=>?_;simp [q,a3,a4,a5,a6];apply z)
    obtain ⟨c4,b1,a0⟩:=bS a0
    refine wL [(.take,.tmp 21),(.take,.tmp 22)] rfl rfl ent100 (zX _ _ b1) fun K z=>?_;simp [q,a3,a4,a5,a6];apply z
    refine wC rfl fun K z=>?_;simp [q,a3,a4,a5,a6];apply z
    apply wN;apply w
    refine O.zR u fun K w=>?_
    iterate 2 (refine wC rfl fun K z=>?_;simp [q];apply z)
    apply wN;apply w
    rcases aA a0 with ⟨b2,a0⟩ | ⟨b3,a0⟩
    ·refine O.cT' (by simp) b2 ?_
     refine O.zR u fun K w=>?_
     refine wC rfl fun K z=>?_;simp [q];apply z
     apply wN;apply w
     have c0:=congrArg some (a7 _ (Option.some.inj a0).symm)
     cases c0
     try dsimp only at h
     cases h
     refine O.ret ?_
     simp [aC,iB,aP0]
    ·refine O.cF' (by simp) b3 ?_
     refine O.skip ?_
     refine O.zG u fun K w=>?_
     iterate 3 (refine wC rfl fun K z=>?_;simp [q];apply z)
     apply wN;apply w
     cases a0
     exact ⟨_,[],rfl,by simp [q]⟩
   ·refine O.cF' (by simp) a9 ?_
    refine O.exit ?_
    have c1:=congrArg some (a7 _ (Option.some.inj a0).symm)
    cases c1
    exact b9 _ _ [] rfl (by simp [q])
  subst hv
  obtain ⟨b4,hv⟩:∃ y,y=v:=⟨_,rfl⟩
  subst hv
  try dsimp only at h ⊢
  refine O.zR u fun K w=>?_
  iterate 2 (refine wC rfl fun K z=>?_;simp [q];apply z)
  apply wN;apply w
  cases h
  refine O.ret ?_
  simp [aC,iB,aP0]
theorem aP2:Tryz.f44.results.toList=[.tmp 4]:=rfl
theorem ent44:aE E.P 44:=eO Tryz.func44 (by simp [Tryz.f44]) rfl
theorem aFg (a1:GFn) (a0:Int) {r0:Int} (h:qX a1 a0=some r0):Ok E 44 [.val (GFn.enc false a1),.val (vi a0)] [vi r0] []:=by
 refine oB Tryz.func44 rfl (by simp [Tryz.f44]) fun C (q:C.N=19) hP=>?_
 have y:=aM hP
 unfold qX at h
 refine O.zR y fun K u=>?_
 iterate 2 (refine wC rfl fun K v=>?_;simp [q];apply v)
 apply wN;apply u
 refine O.zR y fun K u=>?_
 iterate 6 (refine wC rfl fun K v=>?_;simp [q];apply v)
 apply wN;apply u
 refine O.seq ?_
 refine O.zR y fun K u=>?_
 iterate 2 (refine wC rfl fun K v=>?_;simp [q];apply v)
 apply wN;apply u
 rcases aA h with ⟨a2,h⟩ | ⟨a3,h⟩
 ·refine O.cT' (by simp) a2 ?_
  refine O.zR y fun K u=>?_
  refine wC rfl fun K v=>?_;simp [q];apply v
  apply wN;apply u
  cases h
  refine O.ret ?_
  simp [aC,iB,aP2]
 ·refine O.cF' (by simp) a3 ?_
  refine O.skip ?_
  refine O.zR y fun K u=>?_
  iterate 3 (refine wC rfl fun K v=>?_;simp [q];apply v)
  obtain ⟨r5,a4,h⟩:=bS h
  refine wL [(.take,.tmp 13),(.take,.tmp 14)] rfl rfl ent76 (xG _ _ a4) fun K v=>?_;simp [q];apply v
  refine wC rfl fun K v=>?_;simp [q];apply v
  apply wN;apply u
  refine O.seq ?_
  refine O.zR y fun K u=>?_
  iterate 2 (refine wC rfl fun K v=>?_;simp [q];apply v)
  apply wN;apply u
  rcases aA h with ⟨a5,h⟩ | ⟨a6,h⟩
  ·refine O.cT' (by simp) a5 ?_
   refine O.zR y fun K u=>?_
   refine wC rfl fun K v=>?_;simp [q];apply v
   apply wN;apply u
   cases h
   refine O.ret ?_
   simp [aC,iB,aP2]
  ·refine O.cF' (by simp) a6 ?_
   refine O.skip ?_
   refine O.zR y fun K u=>?_
   iterate 2 (refine wC rfl fun K v=>?_;simp [q];apply v)
   apply wN;apply u
   cases h
   refine O.ret ?_
   simp [aC,iB,aP2]
theorem aP8:Tryz.f18.results.toList=[.tmp 4]:=rfl
theorem ent18:aE E.P 18:=eO Tryz.func18 (by simp [Tryz.f18]) rfl
theorem aDk (a1:List GFn) (a2:Int) {r0:Int} (h:oR a1 a2=some r0):Ok E 18 [.val (.sl false 5 (List.map (GFn.enc false) a1)),.val (vi a2)] [vi r0] []:=by
 refine oB Tryz.func18 rfl (by simp [Tryz.f18]) fun C (q:C.N=27) hP=>?_
 have u:=aM hP
 unfold oR at h
 refine O.zR u fun K w=>?_
 refine wC rfl fun K z=>?_;simp [q];apply z
 apply wN;apply w
 refine O.zR u fun K w=>?_
 iterate 5 (refine wC rfl fun K z=>?_;simp [q];apply z)
 apply wN;apply w
 refine O.seq ?_
 refine O.zR u fun K w=>?_
 iterate 2 (refine wC rfl fun K z=>?_;simp [q];apply z)
 apply wN;apply w
 rcases aA h with ⟨b6,h⟩ | ⟨b7,h⟩
 ·refine O.cT' (by simp) b6 ?_
  refine O.zR u fun K w=>?_
  refine wC rfl fun K z=>?_;simp [q];apply z
  apply wN;apply w
  cases h
  refine O.ret ?_
  simp [aC,iB,aP8]
 ·refine O.cF' (by simp) b7 ?_
  refine O.skip ?_
  obtain ⟨j7,b8,h⟩:=bS h
  refine O.seqC [1] [] (fun v:Int=>⟨[(1,.t (vi v))],[]⟩) (fun v=>j7=Sum.inl v) (fun v hv=>?_) fun K6 b9=>?_
  rotate_left
  ·refine O.zR u fun K w=>?_
   refine wC rfl fun K z=>?_;simp [q];apply z
   apply wN;apply w
   refine O.block ?_
   refine O.loopO [] [0,1,5] [] (fun v:Int × Int=>⟨[(0,.t (.sl false 5 (List.map (GFn.enc false) a1))),(1,.t (vi v.1)),(5,.t (vi v.2))],[]⟩) (fG a1) _ (IntKind.wrap .i64 (a2 - (a1.length:Int)),0) b8 (by simp [q]) ?_
   intro g c2 a0 a7
   obtain ⟨b5,i9⟩:=g
   simp only [fG] at a0
   try dsimp only
   refine O.seq ?_
   refine O.zR u fun K w=>?_
   iterate 4 (refine wC rfl fun K z=>?_;simp [q];apply z)
   apply wN;apply w
   rcases aA a0 with ⟨a8,a0⟩ | ⟨a9,a0⟩
   ·refine O.cT' (by simp) a8 ?_
    refine O.skip ?_
    refine O.seq ?_
    refine O.block ?_
    refine O.zR u fun K w=>?_
    iterate 2 (refine wC rfl fun K z=>?_;simp [q];apply z)
    obtain ⟨c3,b0,a0⟩:=bS a0
    obtain ⟨a3,a4,a5,a6⟩:=gS b0
    iterate 3 (refine wC rfl fun K z=>?_;simp [q,a3,a4,a5,a6];apply z)
    obtain ⟨c4,b1,a0⟩:=bS a0
    refine wL [(.take,.tmp 21),(.take,.tmp 22)] rfl rfl ent44 (aFg _ _ b1) fun K z=>?_;simp [q,a3,a4,a5,a6];apply z
    refine wC rfl fun K z=>?_;simp [q,a3,a4,a5,a6];apply z
    apply wN;apply w
    refine O.zR u fun K w=>?_
    iterate 2 (refine wC rfl fun K z=>?_;simp [q];apply z)
    apply wN;apply w
    rcases aA a0 with ⟨b2,a0⟩ | ⟨b3,a0⟩
    ·refine O.cT' (by simp) b2 ?_
     refine O.zR u fun K w=>?_
     refine wC rfl fun K z=>?_;simp [q];apply z
     apply wN;apply w
     have c0:=congrArg some (a7 _ (Option.some.inj a0).symm)
     cases c0
     try dsimp only at h
     cases h
     refine O.ret ?_
     simp [aC,iB,aP8]
    ·refine O.cF' (by simp) b3 ?_
     refine O.skip ?_
     refine O.zG u fun K w=>?_
     iterate 3 (refine wC rfl fun K z=>?_;simp [q];apply z)
     apply wN;apply w
     cases a0
     exact ⟨_,[],rfl,by simp [q]⟩
   ·refine O.cF' (by simp) a9 ?_
    refine O.exit ?_
    have c1:=congrArg some (a7 _ (Option.some.inj a0).symm)
    cases c1
    exact b9 _ _ [] rfl (by simp [q])
  subst hv
  obtain ⟨b4,hv⟩:∃ y,y=v:=⟨_,rfl⟩
  subst hv
  try dsimp only at h ⊢
  refine O.zR u fun K w=>?_
  iterate 2 (refine wC rfl fun K z=>?_;simp [q];apply z)
  apply wN;apply w
  cases h
  refine O.ret ?_
  simp [aC,iB,aP8]
theorem res6:Tryz.f6.results.toList=[.tmp 4]:=rfl
theorem ent6:aE E.P 6:=eO Tryz.func6 (by simp [Tryz.f6]) rfl
theorem vT (a1:GProgram) (a0:Int) {r0:Int} (h:iI a1 a0=some r0):Ok E 6 [.val (GProgram.enc false a1),.val (vi a0)] [vi r0] []:=by
 refine oB Tryz.func6 rfl (by simp [Tryz.f6]) fun C (q:C.N=18) hP=>?_
 have y:=aM hP
 unfold iI at h
 refine O.zR y fun K u=>?_
 iterate 2 (refine wC rfl fun K v=>?_;simp [q];apply v)
 apply wN;apply u
 refine O.zR y fun K u=>?_
 iterate 3 (refine wC rfl fun K v=>?_;simp [q];apply v)
 obtain ⟨r3,a3,h⟩:=bS h
 refine wL [(.take,.tmp 6),(.take,.tmp 7)] rfl rfl ent17 (zZ _ _ a3) fun K v=>?_;simp [q];apply v
 refine wC rfl fun K v=>?_;simp [q];apply v
 apply wN;apply u
 refine O.seq ?_
 refine O.zR y fun K u=>?_
 iterate 2 (refine wC rfl fun K v=>?_;simp [q];apply v)
 apply wN;apply u
 rcases aA h with ⟨a4,h⟩ | ⟨a5,h⟩
 ·refine O.cT' (by simp) a4 ?_
  refine O.zR y fun K u=>?_
  refine wC rfl fun K v=>?_;simp [q];apply v
  apply wN;apply u
  cases h
  refine O.ret ?_
  simp [aC,iB,res6]
 ·refine O.cF' (by simp) a5 ?_
  refine O.skip ?_
  refine O.zR y fun K u=>?_
  iterate 3 (refine wC rfl fun K v=>?_;simp [q];apply v)
  obtain ⟨r7,a6,h⟩:=bS h
  refine wL [(.take,.tmp 12),(.take,.tmp 13)] rfl rfl ent18 (aDk _ _ a6) fun K v=>?_;simp [q];apply v
  refine wC rfl fun K v=>?_;simp [q];apply v
  apply wN;apply u
  refine O.seq ?_
  refine O.zR y fun K u=>?_
  iterate 2 (refine wC rfl fun K v=>?_;simp [q];apply v)
  apply wN;apply u
  rcases aA h with ⟨a7,h⟩ | ⟨a2,h⟩
  ·refine O.cT' (by simp) a7 ?_
   refine O.zR y fun K u=>?_
   refine wC rfl fun K v=>?_;simp [q];apply v
   apply wN;apply u
   cases h
   refine O.ret ?_
   simp [aC,iB,res6]
  ·refine O.cF' (by simp) a2 ?_
   refine O.skip ?_
   refine O.zR y fun K u=>?_
   iterate 2 (refine wC rfl fun K v=>?_;simp [q];apply v)
   apply wN;apply u
   cases h
   refine O.ret ?_
   simp [aC,iB,res6]
theorem res85:Tryz.f85.results.toList=[.tmp 2]:=rfl
theorem ent85:aE E.P 85:=eO Tryz.func85 (by simp [Tryz.f85]) rfl
theorem aBb (a1:List Int) {r0:List Int} (h:mO a1=some r0):Ok E 85 [.val (.sl false 1 (List.map vi a1))] [.sl true 1 (List.map vi r0)] []:=by
 refine oB Tryz.func85 rfl (by simp [Tryz.f85]) fun C (q:C.N=22) hP=>?_
 have y:=aM hP
 unfold mO at h
 refine O.zR y fun K u=>?_
 refine wC rfl fun K w=>?_;simp [q];apply w
 apply wN;apply u
 refine O.zR y fun K u=>?_
 iterate 2 (refine wC rfl fun K w=>?_;simp [q];apply w)
 obtain ⟨l2,c2,h⟩:=bS h
 obtain ⟨b2,b3,b4,b5⟩:=mS c2
 have b0:List.replicate (a1.length:Int).toNat (vi 0)=List.map vi l2:=sU (f:=vi) b5
 try simp only [Int.toNat_natCast] at b0
 iterate 2 (refine wC rfl fun K w=>?_;simp [q,b2,b3,b4,b0];apply w)
 apply wN;apply u
 obtain ⟨b1,c3,h⟩:=bS h
 refine O.seqC [3] [] (fun _:Unit=>⟨[(3,.t (.sl true 1 (List.map vi b1)))],[]⟩) (fun _=>True) (fun _ _=>?_) fun K4 c4=>?_
 rotate_left
 ·refine O.zR y fun K u=>?_
  refine wC rfl fun K w=>?_;simp [q];apply w
  apply wN;apply u
  refine O.block ?_
  refine O.loopO [] [0,3,4] [] (fun v:(List Int) × Int=>⟨[(0,.t (.sl false 1 (List.map vi a1))),(3,.t (.sl true 1 (List.map vi v.1))),(4,.t (vi v.2))],[]⟩) (fU a1) _ (l2,0) c3 (by simp [q]) ?_
  intro g c9 h8 c5
  obtain ⟨b6,i7⟩:=g
  simp only [fU] at h8
  try dsimp only
  refine O.seq ?_
  refine O.zR y fun K u=>?_
  iterate 4 (refine wC rfl fun K w=>?_;simp [q];apply w)
  apply wN;apply u
  rcases aA h8 with ⟨b7,h8⟩ | ⟨b8,h8⟩
  ·refine O.cT' (by simp) b7 ?_
   refine O.skip ?_
   refine O.seq ?_
   refine O.block ?_
   refine O.zG y fun K u=>?_
   iterate 4 (refine wC rfl fun K w=>?_;simp [q];apply w)
   obtain ⟨c6,b9,h8⟩:=bS h8
   obtain ⟨a0,a2,a3,a4⟩:=gS b9
   iterate 2 (refine wC rfl fun K w=>?_;simp [q,a0,a2,a3,a4];apply w)
   obtain ⟨d0,c0,h8⟩:=bS h8
   obtain ⟨a5,a6,a7,a8⟩:=gS c0
   refine wC rfl fun K w=>?_;simp [q,a0,a2,a3,a4,a5,a6,a7,a8];apply w
   obtain ⟨c7,c1,h8⟩:=bZ h8
   have a9:(List.map vi b6).set i7.toNat (vi c6)=List.map vi c7:=bK (f:=vi) c1
   try simp only [Int.toNat_natCast] at a9
   refine wC rfl fun K w=>?_;simp [q,a0,a2,a3,a4,a5,a6,a7,a8,a9];apply w
   apply wN;apply u
   refine O.zG y fun K u=>?_
   iterate 3 (refine wC rfl fun K w=>?_;simp [q];apply w)
   apply wN;apply u
   cases h8
   exact ⟨_,[],rfl,by simp [q]⟩
  ·refine O.cF' (by simp) b8 ?_
   refine O.exit ?_
   have c8:=congrArg some (c5 _ (Option.some.inj h8).symm)
   cases c8
   exact c4 _ () [] trivial (by simp [q])
 refine O.zR y fun K u=>?_
 iterate 2 (refine wC rfl fun K w=>?_;simp [q];apply w)
 apply wN;apply u
 cases h
 refine O.ret ?_
 simp [aC,iB,res85]
theorem res51:Tryz.f51.results.toList=[.cell 2 53]:=rfl
theorem ent51:aE E.P 51:=eO Tryz.func51 (by simp [Tryz.f51]) rfl
theorem aB9 (a1:GNode) {r0:GNode} (h:mN a1=some r0):Ok E 51 [.val (GNode.enc false a1)] [GNode.enc true r0] []:=by
 refine oB Tryz.func51 rfl (by simp [Tryz.f51]) fun C (q:C.N=18) hP=>?_
 have y:=aM hP
 unfold mN at h
 refine O.zR y fun K u=>?_
 iterate 2 (refine wC rfl fun K v=>?_;simp [q];apply v)
 apply wN;apply u
 refine O.zR y fun K u=>?_
 refine wC rfl fun K v=>?_;simp [q];apply v
 apply wN;apply u
 refine O.zR y fun K u=>?_
 iterate 4 (refine wC rfl fun K v=>?_;simp [q];apply v)
 apply wN;apply u
 refine O.zR y fun K u=>?_
 iterate 4 (refine wC rfl fun K v=>?_;simp [q];apply v)
 apply wN;apply u
 refine O.zR y fun K u=>?_
 iterate 4 (refine wC rfl fun K v=>?_;simp [q];apply v)
 apply wN;apply u
 refine O.zR y fun K u=>?_
 iterate 2 (refine wC rfl fun K v=>?_;simp [q];apply v)
 obtain ⟨r2,a0,h⟩:=bS h
 refine wL [(.take,.tmp 14)] rfl rfl ent85 (aBb _ a0) fun K v=>?_;simp [q];apply v
 iterate 2 (refine wC rfl fun K v=>?_;simp [q];apply v)
 apply wN;apply u
 refine O.zR y fun K u=>?_
 iterate 2 (refine wC rfl fun K v=>?_;simp [q];apply v)
 apply wN;apply u
 cases h
 refine O.ret ?_
 simp [aC,iB,res51]
theorem res21:Tryz.f21.results.toList=[.tmp 2]:=rfl
theorem ent21:aE E.P 21:=eO Tryz.func21 (by simp [Tryz.f21]) rfl
theorem zW (a1:List GNode) {r0:List GNode} (h:lD a1=some r0):Ok E 21 [.val (.sl false 4 (List.map (GNode.enc false) a1))] [.sl true 4 (List.map (GNode.enc true) r0)] []:=by
 refine oB Tryz.func21 rfl (by simp [Tryz.f21]) fun C (q:C.N=23) hP=>?_
 have y:=aM hP
 unfold lD at h
 refine O.zR y fun K u=>?_
 refine wC rfl fun K w=>?_;simp [q];apply w
 apply wN;apply u
 refine O.zR y fun K u=>?_
 iterate 2 (refine wC rfl fun K w=>?_;simp [q];apply w)
 obtain ⟨l2,c4,h⟩:=bS h
 obtain ⟨b3,b4,b5,b6⟩:=mS c4
 have b0:List.replicate (a1.length:Int).toNat (.agg [vi 0,vi 0,vs ByteArray.empty,.sl true 1 []])=List.map (GNode.enc true) l2:=sU (f:=(GNode.enc true)) b6
 try simp only [Int.toNat_natCast] at b0
 iterate 2 (refine wC rfl fun K w=>?_;simp [q,b3,b4,b5,b0];apply w)
 apply wN;apply u
 obtain ⟨b1,c5,h⟩:=bS h
 refine O.seqC [3] [] (fun _:Unit=>⟨[(3,.t (.sl true 4 (List.map (GNode.enc true) b1)))],[]⟩) (fun _=>True) (fun _ _=>?_) fun K4 c6=>?_
 rotate_left
 ·refine O.zR y fun K u=>?_
  refine wC rfl fun K w=>?_;simp [q];apply w
  apply wN;apply u
  refine O.block ?_
  refine O.loopO [] [0,3,4] [] (fun v:(List GNode) × Int=>⟨[(0,.t (.sl false 4 (List.map (GNode.enc false) a1))),(3,.t (.sl true 4 (List.map (GNode.enc true) v.1))),(4,.t (vi v.2))],[]⟩) (eY a1) _ (l2,0) c5 (by simp [q]) ?_
  intro g d0 h8 c7
  obtain ⟨b7,i7⟩:=g
  simp only [eY] at h8
  try dsimp only
  refine O.seq ?_
  refine O.zR y fun K u=>?_
  iterate 4 (refine wC rfl fun K w=>?_;simp [q];apply w)
  apply wN;apply u
  rcases aA h8 with ⟨b8,h8⟩ | ⟨b9,h8⟩
  ·refine O.cT' (by simp) b8 ?_
   refine O.skip ?_
   refine O.seq ?_
   refine O.block ?_
   refine O.zG y fun K u=>?_
   iterate 4 (refine wC rfl fun K w=>?_;simp [q];apply w)
   obtain ⟨d1,c0,h8⟩:=bS h8
   obtain ⟨a0,a2,a3,a4⟩:=gS c0
   iterate 2 (refine wC rfl fun K w=>?_;simp [q,a0,a2,a3,a4];apply w)
   obtain ⟨b2,c1,h8⟩:=bS h8
   refine wL [(.take,.tmp 19)] rfl rfl ent51 (aB9 _ c1) fun K w=>?_;simp [q,a0,a2,a3,a4];apply w
   obtain ⟨d2,c2,h8⟩:=bS h8
   obtain ⟨a5,a6,a7,a8⟩:=gS c2
   refine wC rfl fun K w=>?_;simp [q,a0,a2,a3,a4,a5,a6,a7,a8];apply w
   obtain ⟨c8,c3,h8⟩:=bZ h8
   have a9:(List.map (GNode.enc true) b7).set i7.toNat (.agg [vi b2.Kind,vi b2.Num,vs b2.Name,.sl true 1 (List.map vi b2.Kids)])=List.map (GNode.enc true) c8:=bK (f:=(GNode.enc true)) c3
   try simp only [Int.toNat_natCast] at a9
   refine wC rfl fun K w=>?_;simp [q,a0,a2,a3,a4,a5,a6,a7,a8,a9];apply w
   apply wN;apply u
   refine O.zG y fun K u=>?_
   iterate 3 (refine wC rfl fun K w=>?_;simp [q];apply w)
   apply wN;apply u
   cases h8
   exact ⟨_,[],rfl,by simp [q]⟩
  ·refine O.cF' (by simp) b9 ?_
   refine O.exit ?_
   have c9:=congrArg some (c7 _ (Option.some.inj h8).symm)
   cases c9
   exact c6 _ () [] trivial (by simp [q])
 refine O.zR y fun K u=>?_
 iterate 2 (refine wC rfl fun K w=>?_;simp [q];apply w)
 apply wN;apply u
 cases h
 refine O.ret ?_
 simp [aC,iB,res21]
theorem res105:Tryz.f105.results.toList=[.cell 2 77]:=rfl
theorem ent105:aE E.P 105:=eO Tryz.func105 (by simp [Tryz.f105]) rfl
theorem zU (a1:GParam) {r0:GParam} (h:lC a1=some r0):Ok E 105 [.val (GParam.enc a1)] [GParam.enc r0] []:=by
 refine oB Tryz.func105 rfl (by simp [Tryz.f105]) fun C (q:C.N=11) hP=>?_
 have y:=aM hP
 unfold lC at h
 refine O.zR y fun K u=>?_
 iterate 2 (refine wC rfl fun K v=>?_;simp [q];apply v)
 apply wN;apply u
 refine O.zR y fun K u=>?_
 refine wC rfl fun K v=>?_;simp [q];apply v
 apply wN;apply u
 refine O.zR y fun K u=>?_
 iterate 4 (refine wC rfl fun K v=>?_;simp [q];apply v)
 apply wN;apply u
 refine O.zR y fun K u=>?_
 iterate 4 (refine wC rfl fun K v=>?_;simp [q];apply v)
 apply wN;apply u
 refine O.zR y fun K u=>?_
 iterate 2 (refine wC rfl fun K v=>?_;simp [q];apply v)
 apply wN;apply u
 cases h
 refine O.ret ?_
 simp [aC,iB,res105]
theorem res86:Tryz.f86.results.toList=[.tmp 2]:=rfl
theorem ent86:aE E.P 86:=eO Tryz.func86 (by simp [Tryz.f86]) rfl
theorem xE (a1:List GParam) {r0:List GParam} (h:jP a1=some r0):Ok E 86 [.val (.sl false 2 (List.map GParam.enc a1))] [.sl true 2 (List.map GParam.enc r0)] []:=by
 refine oB Tryz.func86 rfl (by simp [Tryz.f86]) fun C (q:C.N=23) hP=>?_
 have y:=aM hP
 unfold jP at h
 refine O.zR y fun K u=>?_
 refine wC rfl fun K w=>?_;simp [q];apply w
 apply wN;apply u
 refine O.zR y fun K u=>?_
 iterate 2 (refine wC rfl fun K w=>?_;simp [q];apply w)
 obtain ⟨l2,c4,h⟩:=bS h
 obtain ⟨b2,b3,b4,b5⟩:=mS c4
 have b0:List.replicate (a1.length:Int).toNat (.agg [vs ByteArray.empty,vi 0])=List.map GParam.enc l2:=sU (f:=GParam.enc) b5
 try simp only [Int.toNat_natCast] at b0
 iterate 2 (refine wC rfl fun K w=>?_;simp [q,b2,b3,b4,b0];apply w)
 apply wN;apply u
 obtain ⟨b1,c5,h⟩:=bS h
 refine O.seqC [3] [] (fun _:Unit=>⟨[(3,.t (.sl true 2 (List.map GParam.enc b1)))],[]⟩) (fun _=>True) (fun _ _=>?_) fun K4 c6=>?_
 rotate_left
 ·refine O.zR y fun K u=>?_
  refine wC rfl fun K w=>?_;simp [q];apply w
  apply wN;apply u
  refine O.block ?_
  refine O.loopO [] [0,3,4] [] (fun v:(List GParam) × Int=>⟨[(0,.t (.sl false 2 (List.map GParam.enc a1))),(3,.t (.sl true 2 (List.map GParam.enc v.1))),(4,.t (vi v.2))],[]⟩) (dY a1) _ (l2,0) c5 (by simp [q]) ?_
  intro g d0 h8 c7
  obtain ⟨b6,i7⟩:=g
  simp only [dY] at h8
  try dsimp only
  refine O.seq ?_
  refine O.zR y fun K u=>?_
  iterate 4 (refine wC rfl fun K w=>?_;simp [q];apply w)
  apply wN;apply u
  rcases aA h8 with ⟨b7,h8⟩ | ⟨b8,h8⟩
  ·refine O.cT' (by simp) b7 ?_
   refine O.skip ?_
   refine O.seq ?_
   refine O.block ?_
   refine O.zG y fun K u=>?_
   iterate 4 (refine wC rfl fun K w=>?_;simp [q];apply w)
   obtain ⟨d1,b9,h8⟩:=bS h8
   obtain ⟨a0,a2,a3,a4⟩:=gS b9
   iterate 2 (refine wC rfl fun K w=>?_;simp [q,a0,a2,a3,a4];apply w)
   obtain ⟨c3,c0,h8⟩:=bS h8
   refine wL [(.take,.tmp 19)] rfl rfl ent105 (zU _ c0) fun K w=>?_;simp [q,a0,a2,a3,a4];apply w
   obtain ⟨d2,c1,h8⟩:=bS h8
   obtain ⟨a5,a6,a7,a8⟩:=gS c1
   refine wC rfl fun K w=>?_;simp [q,a0,a2,a3,a4,a5,a6,a7,a8];apply w
   obtain ⟨c8,c2,h8⟩:=bZ h8
   have a9:(List.map GParam.enc b6).set i7.toNat (.agg [vs c3.Name,vi c3.Typ])=List.map GParam.enc c8:=bK (f:=GParam.enc) c2
   try simp only [Int.toNat_natCast] at a9
   refine wC rfl fun K w=>?_;simp [q,a0,a2,a3,a4,a5,a6,a7,a8,a9];apply w
   apply wN;apply u
   refine O.zG y fun K u=>?_
   iterate 3 (refine wC rfl fun K w=>?_;simp [q];apply w)
   apply wN;apply u
   cases h8
   exact ⟨_,[],rfl,by simp [q]⟩
  ·refine O.cF' (by simp) b8 ?_
   refine O.exit ?_
   have c9:=congrArg some (c7 _ (Option.some.inj h8).symm)
   cases c9
   exact c6 _ () [] trivial (by simp [q])
 refine O.zR y fun K u=>?_
 iterate 2 (refine wC rfl fun K w=>?_;simp [q];apply w)
 apply wN;apply u
 cases h
 refine O.ret ?_
 simp [aC,iB,res86]
theorem res52:Tryz.f52.results.toList=[.cell 2 58]:=rfl
theorem ent52:aE E.P 52:=eO Tryz.func52 (by simp [Tryz.f52]) rfl
theorem aFe (a1:GFn) {r0:GFn} (h:qW a1=some r0):Ok E 52 [.val (GFn.enc false a1)] [GFn.enc true r0] []:=by
 refine oB Tryz.func52 rfl (by simp [Tryz.f52]) fun C (q:C.N=21) hP=>?_
 have y:=aM hP
 unfold qW at h
 refine O.zR y fun K u=>?_
 iterate 2 (refine wC rfl fun K v=>?_;simp [q];apply v)
 apply wN;apply u
 refine O.zR y fun K u=>?_
 refine wC rfl fun K v=>?_;simp [q];apply v
 apply wN;apply u
 refine O.zR y fun K u=>?_
 iterate 4 (refine wC rfl fun K v=>?_;simp [q];apply v)
 apply wN;apply u
 refine O.zR y fun K u=>?_
 iterate 2 (refine wC rfl fun K v=>?_;simp [q];apply v)
 obtain ⟨r2,a0,h⟩:=bS h
 refine wL [(.take,.tmp 8)] rfl rfl ent86 (xE _ a0) fun K v=>?_;simp [q];apply v
 iterate 2 (refine wC rfl fun K v=>?_;simp [q];apply v)
 apply wN;apply u
 refine O.zR y fun K u=>?_
 iterate 4 (refine wC rfl fun K v=>?_;simp [q];apply v)
 apply wN;apply u
 refine O.zR y fun K u=>?_
 iterate 4 (refine wC rfl fun K v=>?_;simp [q];apply v)
 apply wN;apply u
 refine O.zR y fun K u=>?_
 iterate 4 (refine wC rfl fun K v=>?_;simp [q];apply v)
 apply wN;apply u
 refine O.zR y fun K u=>?_
 iterate 2 (refine wC rfl fun K v=>?_;simp [q];apply v)
 apply wN;apply u
 cases h
 refine O.ret ?_
 simp [aC,iB,res52]
theorem res22:Tryz.f22.results.toList=[.tmp 2]:=rfl
theorem ent22:aE E.P 22:=eO Tryz.func22 (by simp [Tryz.f22]) rfl
theorem aDh (a1:List GFn) {r0:List GFn} (h:oQ a1=some r0):Ok E 22 [.val (.sl false 5 (List.map (GFn.enc false) a1))] [.sl true 5 (List.map (GFn.enc true) r0)] []:=by
 refine oB Tryz.func22 rfl (by simp [Tryz.f22]) fun C (q:C.N=23) hP=>?_
 have y:=aM hP
 unfold oQ at h
 refine O.zR y fun K u=>?_
 refine wC rfl fun K w=>?_;simp [q];apply w
 apply wN;apply u
 refine O.zR y fun K u=>?_
 iterate 2 (refine wC rfl fun K w=>?_;simp [q];apply w)
 obtain ⟨l2,c4,h⟩:=bS h
 obtain ⟨b3,b4,b5,b6⟩:=mS c4
 have b0:List.replicate (a1.length:Int).toNat (.agg [vs ByteArray.empty,.sl true 2 [],vi 0,vi 0,vi 0])=List.map (GFn.enc true) l2:=sU (f:=(GFn.enc true)) b6
 try simp only [Int.toNat_natCast] at b0
 iterate 2 (refine wC rfl fun K w=>?_;simp [q,b3,b4,b5,b0];apply w)
 apply wN;apply u
 obtain ⟨b1,c5,h⟩:=bS h
 refine O.seqC [3] [] (fun _:Unit=>⟨[(3,.t (.sl true 5 (List.map (GFn.enc true) b1)))],[]⟩) (fun _=>True) (fun _ _=>?_) fun K4 c6=>?_
 rotate_left
 ·refine O.zR y fun K u=>?_
  refine wC rfl fun K w=>?_;simp [q];apply w
  apply wN;apply u
  refine O.block ?_
  refine O.loopO [] [0,3,4] [] (fun v:(List GFn) × Int=>⟨[(0,.t (.sl false 5 (List.map (GFn.enc false) a1))),(3,.t (.sl true 5 (List.map (GFn.enc true) v.1))),(4,.t (vi v.2))],[]⟩) (gR a1) _ (l2,0) c5 (by simp [q]) ?_
  intro g d0 h8 c7
  obtain ⟨b7,i7⟩:=g
  simp only [gR] at h8
  try dsimp only
  refine O.seq ?_
  refine O.zR y fun K u=>?_
  iterate 4 (refine wC rfl fun K w=>?_;simp [q];apply w)
  apply wN;apply u
  rcases aA h8 with ⟨b8,h8⟩ | ⟨b9,h8⟩
  ·refine O.cT' (by simp) b8 ?_
   refine O.skip ?_
   refine O.seq ?_
   refine O.block ?_
   refine O.zG y fun K u=>?_
   iterate 4 (refine wC rfl fun K w=>?_;simp [q];apply w)
   obtain ⟨d1,c0,h8⟩:=bS h8
   obtain ⟨a0,a2,a3,a4⟩:=gS c0
   iterate 2 (refine wC rfl fun K w=>?_;simp [q,a0,a2,a3,a4];apply w)
   obtain ⟨b2,c1,h8⟩:=bS h8
   refine wL [(.take,.tmp 19)] rfl rfl ent52 (aFe _ c1) fun K w=>?_;simp [q,a0,a2,a3,a4];apply w
   obtain ⟨d2,c2,h8⟩:=bS h8
   obtain ⟨a5,a6,a7,a8⟩:=gS c2
   refine wC rfl fun K w=>?_;simp [q,a0,a2,a3,a4,a5,a6,a7,a8];apply w
   obtain ⟨c8,c3,h8⟩:=bZ h8
   have a9:(List.map (GFn.enc true) b7).set i7.toNat (.agg [vs b2.Name,.sl true 2 (List.map GParam.enc b2.Params),vi b2.Res,vi b2.Body,vi b2.Ret])=List.map (GFn.enc true) c8:=bK (f:=(GFn.enc true)) c3
   try simp only [Int.toNat_natCast] at a9
   refine wC rfl fun K w=>?_;simp [q,a0,a2,a3,a4,a5,a6,a7,a8,a9];apply w
   apply wN;apply u
   refine O.zG y fun K u=>?_
   iterate 3 (refine wC rfl fun K w=>?_;simp [q];apply w)
   apply wN;apply u
   cases h8
   exact ⟨_,[],rfl,by simp [q]⟩
  ·refine O.cF' (by simp) b9 ?_
   refine O.exit ?_
   have c9:=congrArg some (c7 _ (Option.some.inj h8).symm)
   cases c9
   exact c6 _ () [] trivial (by simp [q])
 refine O.zR y fun K u=>?_
 iterate 2 (refine wC rfl fun K w=>?_;simp [q];apply w)
 apply wN;apply u
 cases h
 refine O.ret ?_
 simp [aC,iB,res22]
theorem res8:Tryz.f8.results.toList=[.cell 2 31]:=rfl
theorem ent8:aE E.P 8:=eO Tryz.func8 (by simp [Tryz.f8]) rfl
theorem gQ (a1:GProgram) {r0:GProgram} (h:dB a1=some r0):Ok E 8 [.val (GProgram.enc false a1)] [GProgram.enc true r0] []:=by
 refine oB Tryz.func8 rfl (by simp [Tryz.f8]) fun C (q:C.N=13) hP=>?_
 have y:=aM hP
 unfold dB at h
 refine O.zR y fun K u=>?_
 iterate 2 (refine wC rfl fun K v=>?_;simp [q];apply v)
 apply wN;apply u
 refine O.zR y fun K u=>?_
 refine wC rfl fun K v=>?_;simp [q];apply v
 apply wN;apply u
 refine O.zR y fun K u=>?_
 iterate 2 (refine wC rfl fun K v=>?_;simp [q];apply v)
 obtain ⟨r2,a0,h⟩:=bS h
 refine wL [(.take,.tmp 5)] rfl rfl ent21 (zW _ a0) fun K v=>?_;simp [q];apply v
 iterate 2 (refine wC rfl fun K v=>?_;simp [q];apply v)
 apply wN;apply u
 refine O.zR y fun K u=>?_
 iterate 2 (refine wC rfl fun K v=>?_;simp [q];apply v)
 obtain ⟨r4,a2,h⟩:=bS h
 refine wL [(.take,.tmp 9)] rfl rfl ent22 (aDh _ a2) fun K v=>?_;simp [q];apply v
 iterate 2 (refine wC rfl fun K v=>?_;simp [q];apply v)
 apply wN;apply u
 refine O.zR y fun K u=>?_
 iterate 2 (refine wC rfl fun K v=>?_;simp [q];apply v)
 apply wN;apply u
 cases h
 refine O.ret ?_
 simp [aC,iB,res8]
theorem aOz:Tryz.f93.results.toList=[.tmp 4]:=rfl
theorem ent93:aE E.P 93:=eO Tryz.func93 (by simp [Tryz.f93]) rfl
theorem aBk (a1:List Int) (b2:List Int) {r0:Bool} (h:mW a1 b2=some r0):Ok E 93 [.val (.sl false 1 (List.map vi a1)),.val (.sl false 1 (List.map vi b2))] [vb r0] []:=by
 refine oB Tryz.func93 rfl (by simp [Tryz.f93]) fun C (q:C.N=26) hP=>?_
 have u:=aM hP
 unfold mW at h
 refine O.zR u fun K w=>?_
 refine wC rfl fun K r=>?_;simp [q];apply r
 apply wN;apply w
 refine O.seq ?_
 refine O.zR u fun K w=>?_
 iterate 5 (refine wC rfl fun K r=>?_;simp [q];apply r)
 apply wN;apply w
 rcases aA h with ⟨b9,h⟩ | ⟨c0,h⟩
 ·refine O.cT' (by simp) b9 ?_
  refine O.zR u fun K w=>?_
  refine wC rfl fun K r=>?_;simp [q];apply r
  apply wN;apply w
  cases h
  refine O.ret ?_
  simp [aC,iB,aOz]
 ·refine O.cF' (by simp) c0 ?_
  refine O.skip ?_
  obtain ⟨j7,c1,h⟩:=bS h
  refine O.seqC [] [] (fun v:Unit=>⟨[],[]⟩) (fun v=>j7=Sum.inl v) (fun v hv=>?_) fun K6 c2=>?_
  rotate_left
  ·refine O.zR u fun K w=>?_
   refine wC rfl fun K r=>?_;simp [q];apply r
   apply wN;apply w
   refine O.block ?_
   refine O.loopO [] [0,1,5] [] (fun v:Int=>⟨[(0,.t (.sl false 1 (List.map vi a1))),(1,.t (.sl false 1 (List.map vi b2))),(5,.t (vi v))],[]⟩) (fV a1 b2) _ 0 c1 (by simp [q]) ?_
   intro g c5 h9 a9
   obtain ⟨i8,hg⟩:∃ y,y=g:=⟨_,rfl⟩
   subst hg
   simp only [fV] at h9
   try dsimp only
   refine O.seq ?_
   refine O.zR u fun K w=>?_
   iterate 4 (refine wC rfl fun K r=>?_;simp [q];apply r)
   apply wN;apply w
   rcases aA h9 with ⟨b0,h9⟩ | ⟨b1,h9⟩
   ·refine O.cT' (by simp) b0 ?_
    refine O.skip ?_
    refine O.seq ?_
    refine O.block ?_
    refine O.seq ?_
    obtain ⟨b7,b3,h9⟩:=bS h9
    obtain ⟨a0,a2,a3,a4⟩:=gS b3
    obtain ⟨b8,b4,h9⟩:=bS h9
    obtain ⟨a5,a6,a7,a8⟩:=gS b4
    refine O.dT rfl (u _ rfl) [(17,.t (.sl false 1 (List.map vi a1))),(18,.t (vi i8)),(19,.rop [vi b7] 0),(20,.t (vi b7)),(21,.t (.sl false 1 (List.map vi b2))),(22,.t (vi i8)),(23,.rop [vi b8] 0),(24,.t (vi b8))] [[],[],[0,1],[0,1,2],[],[],[4,5],[4,5,6],[0,1,2,3,4,5,6,7]] (by simp) (by simp) (by simp [look]) rfl rfl rfl ?_ fun K w=>?_
    ·refine ⟨?_,?_,?_,?_,?_,?_,?_,?_,trivial⟩
     all_goals (intro τ hbx hb hd hf K w;try simp [aI] at hd;simp [aI] at hf;first | (refine wC rfl fun K' z=>?_;simp [q,hbx,hb,hd,hf,a0,a2,a3,a4,a5,a6,a7,a8];exact z _ (wN (w _ (by simp [aI,hbx,a0,a2,a3,a4,a5,a6,a7,a8])))))
    refine wC rfl fun K r=>?_;simp [q,a0,a2,a3,a4,a5,a6,a7,a8];apply r
    apply wN;apply w
    rcases aA h9 with ⟨b5,h9⟩ | ⟨b6,h9⟩
    ·refine O.cT' (by simp) b5 ?_
     refine O.zR u fun K w=>?_
     refine wC rfl fun K r=>?_;simp [q];apply r
     apply wN;apply w
     have c3:=congrArg some (a9 _ (Option.some.inj h9).symm)
     cases c3
     try dsimp only at h
     cases h
     refine O.ret ?_
     simp [aC,iB,aOz]
    ·refine O.cF' (by simp) b6 ?_
     refine O.skip ?_
     refine O.zG u fun K w=>?_
     iterate 3 (refine wC rfl fun K r=>?_;simp [q];apply r)
     apply wN;apply w
     cases h9
     exact ⟨_,[],rfl,by simp [q]⟩
   ·refine O.cF' (by simp) b1 ?_
    refine O.exit ?_
    have c4:=congrArg some (a9 _ (Option.some.inj h9).symm)
    cases c4
    exact c2 _ _ [] rfl (by simp [q])
  subst hv
  obtain ⟨⟩:=v
  try dsimp only at h ⊢
  refine O.zR u fun K w=>?_
  refine wC rfl fun K r=>?_;simp [q];apply r
  apply wN;apply w
  cases h
  refine O.ret ?_
  simp [aC,iB,aOz]
theorem aL2:Tryz.f57.results.toList=[.tmp 4]:=rfl
theorem ent57:aE E.P 57:=eO Tryz.func57 (by simp [Tryz.f57]) rfl
theorem aBi (a1:GNode) (b2:GNode) {r0:Bool} (h:mV a1 b2=some r0):Ok E 57 [.val (GNode.enc false a1),.val (GNode.enc false b2)] [vb r0] []:=by
 refine oB Tryz.func57 rfl (by simp [Tryz.f57]) fun C (q:C.N=26) hP=>?_
 have y:=aM hP
 unfold mV at h
 refine O.zR y fun K u=>?_
 iterate 3 (refine wC rfl fun K v=>?_;simp [q];apply v)
 apply wN;apply u
 refine O.seq ?_
 refine O.zR y fun K u=>?_
 iterate 5 (refine wC rfl fun K v=>?_;simp [q];apply v)
 apply wN;apply u
 rcases aA h with ⟨a4,h⟩ | ⟨a5,h⟩
 ·refine O.cT' (by simp) a4 ?_
  refine O.zR y fun K u=>?_
  refine wC rfl fun K v=>?_;simp [q];apply v
  apply wN;apply u
  cases h
  refine O.ret ?_
  simp [aC,iB,aL2]
 ·refine O.cF' (by simp) a5 ?_
  refine O.skip ?_
  refine O.seq ?_
  refine O.zR y fun K u=>?_
  iterate 5 (refine wC rfl fun K v=>?_;simp [q];apply v)
  apply wN;apply u
  rcases aA h with ⟨a6,h⟩ | ⟨a7,h⟩
  ·refine O.cT' (by simp) a6 ?_
   refine O.zR y fun K u=>?_
   refine wC rfl fun K v=>?_;simp [q];apply v
   apply wN;apply u
   cases h
   refine O.ret ?_
   simp [aC,iB,aL2]
  ·refine O.cF' (by simp) a7 ?_
   refine O.skip ?_
   refine O.seq ?_
   refine O.zR y fun K u=>?_
   iterate 5 (refine wC rfl fun K v=>?_;simp [q];apply v)
   apply wN;apply u
   rcases aA h with ⟨a8,h⟩ | ⟨a9,h⟩
   ·refine O.cT' (by simp) a8 ?_
    refine O.zR y fun K u=>?_
    refine wC rfl fun K v=>?_;simp [q];apply v
    apply wN;apply u
    cases h
    refine O.ret ?_
    simp [aC,iB,aL2]
   ·refine O.cF' (by simp) a9 ?_
    refine O.skip ?_
    refine O.seq ?_
    refine O.zR y fun K u=>?_
    iterate 4 (refine wC rfl fun K v=>?_;simp [q];apply v)
    obtain ⟨r9,a0,h⟩:=bS h
    refine wL [(.take,.tmp 21),(.take,.tmp 23)] rfl rfl ent93 (aBk _ _ a0) fun K v=>?_;simp [q];apply v
    refine wC rfl fun K v=>?_;simp [q];apply v
    apply wN;apply u
    rcases aA h with ⟨a2,h⟩ | ⟨a3,h⟩
    ·refine O.cT' (by simp) a2 ?_
     refine O.zR y fun K u=>?_
     refine wC rfl fun K v=>?_;simp [q];apply v
     apply wN;apply u
     cases h
     refine O.ret ?_
     simp [aC,iB,aL2]
    ·refine O.cF' (by simp) a3 ?_
     refine O.skip ?_
     refine O.zR y fun K u=>?_
     refine wC rfl fun K v=>?_;simp [q];apply v
     apply wN;apply u
     cases h
     refine O.ret ?_
     simp [aC,iB,aL2]
theorem aP6:Tryz.f25.results.toList=[.tmp 4]:=rfl
theorem ent25:aE E.P 25:=eO Tryz.func25 (by simp [Tryz.f25]) rfl
theorem aA5 (a1:List GNode) (b2:List GNode) {r0:Bool} (h:lJ a1 b2=some r0):Ok E 25 [.val (.sl false 4 (List.map (GNode.enc false) a1)),.val (.sl false 4 (List.map (GNode.enc false) b2))] [vb r0] []:=by
 refine oB Tryz.func25 rfl (by simp [Tryz.f25]) fun C (q:C.N=27) hP=>?_
 have u:=aM hP
 unfold lJ at h
 refine O.zR u fun K w=>?_
 refine wC rfl fun K r=>?_;simp [q];apply r
 apply wN;apply w
 refine O.seq ?_
 refine O.zR u fun K w=>?_
 iterate 5 (refine wC rfl fun K r=>?_;simp [q];apply r)
 apply wN;apply w
 rcases aA h with ⟨c0,h⟩ | ⟨c1,h⟩
 ·refine O.cT' (by simp) c0 ?_
  refine O.zR u fun K w=>?_
  refine wC rfl fun K r=>?_;simp [q];apply r
  apply wN;apply w
  cases h
  refine O.ret ?_
  simp [aC,iB,aP6]
 ·refine O.cF' (by simp) c1 ?_
  refine O.skip ?_
  obtain ⟨j7,c2,h⟩:=bS h
  refine O.seqC [] [] (fun v:Unit=>⟨[],[]⟩) (fun v=>j7=Sum.inl v) (fun v hv=>?_) fun K6 c3=>?_
  rotate_left
  ·refine O.zR u fun K w=>?_
   refine wC rfl fun K r=>?_;simp [q];apply r
   apply wN;apply w
   refine O.block ?_
   refine O.loopO [] [0,1,5] [] (fun v:Int=>⟨[(0,.t (.sl false 4 (List.map (GNode.enc false) a1))),(1,.t (.sl false 4 (List.map (GNode.enc false) b2))),(5,.t (vi v))],[]⟩) (eZ a1 b2) _ 0 c2 (by simp [q]) ?_
   intro g c6 h9 a9
   obtain ⟨i8,hg⟩:∃ y,y=g:=⟨_,rfl⟩
   subst hg
   simp only [eZ] at h9
   try dsimp only
   refine O.seq ?_
   refine O.zR u fun K w=>?_
   iterate 4 (refine wC rfl fun K r=>?_;simp [q];apply r)
   apply wN;apply w
   rcases aA h9 with ⟨b3,h9⟩ | ⟨b4,h9⟩
   ·refine O.cT' (by simp) b3 ?_
    refine O.skip ?_
    refine O.seq ?_
    refine O.block ?_
    refine O.seq ?_
    obtain ⟨b0,b5,h9⟩:=bS h9
    obtain ⟨a0,a2,a3,a4⟩:=gS b5
    obtain ⟨b1,b6,h9⟩:=bS h9
    obtain ⟨a5,a6,a7,a8⟩:=gS b6
    refine O.dT rfl (u _ rfl) [(17,.t (.sl false 4 (List.map (GNode.enc false) a1))),(18,.t (vi i8)),(19,.rop [vi b0.Kind,vi b0.Num,vs b0.Name,.sl false 1 (List.map vi b0.Kids)] 0),(20,.t (GNode.enc false b0)),(21,.t (.sl false 4 (List.map (GNode.enc false) b2))),(22,.t (vi i8)),(23,.rop [vi b1.Kind,vi b1.Num,vs b1.Name,.sl false 1 (List.map vi b1.Kids)] 0),(24,.t (GNode.enc false b1))] [[],[],[0,1],[0,1,2],[],[],[4,5],[4,5,6],[0,1,2,3,4,5,6,7],[0,1,2,3,4,5,6,7,8]] (by simp) (by simp) (by simp [look]) rfl rfl rfl ?_ fun K w=>?_
    ·refine ⟨?_,?_,?_,?_,?_,?_,?_,?_,trivial⟩
     all_goals (intro τ hbx hb hd hf K w;try simp [aI] at hd;simp [aI] at hf;first | (refine wC rfl fun K' z=>?_;simp [q,hbx,hb,hd,hf,a0,a2,a3,a4,a5,a6,a7,a8];exact z _ (wN (w _ (by simp [aI,hbx,a0,a2,a3,a4,a5,a6,a7,a8])))))
    obtain ⟨c7,b7,h9⟩:=bS h9
    refine wL [(.take,.tmp 20),(.take,.tmp 24)] rfl rfl ent57 (aBi _ _ b7) fun K r=>?_;simp [q,a0,a2,a3,a4,a5,a6,a7,a8];apply r
    refine wC rfl fun K r=>?_;simp [q,a0,a2,a3,a4,a5,a6,a7,a8];apply r
    apply wN;apply w
    rcases aA h9 with ⟨b8,h9⟩ | ⟨b9,h9⟩
    ·refine O.cT' (by simp) b8 ?_
     refine O.zR u fun K w=>?_
     refine wC rfl fun K r=>?_;simp [q];apply r
     apply wN;apply w
     have c4:=congrArg some (a9 _ (Option.some.inj h9).symm)
     cases c4
     try dsimp only at h
     cases h
     refine O.ret ?_
     simp [aC,iB,aP6]
    ·refine O.cF' (by simp) b9 ?_
     refine O.skip ?_
     refine O.zG u fun K w=>?_
     iterate 3 (refine wC rfl fun K r=>?_;simp [q];apply r)
     apply wN;apply w
     cases h9
     exact ⟨_,[],rfl,by simp [q]⟩
   ·refine O.cF' (by simp) b4 ?_
    refine O.exit ?_
    have c5:=congrArg some (a9 _ (Option.some.inj h9).symm)
    cases c5
    exact c3 _ _ [] rfl (by simp [q])
  subst hv
  obtain ⟨⟩:=v
  try dsimp only at h ⊢
  refine O.zR u fun K w=>?_
  refine wC rfl fun K r=>?_;simp [q];apply r
  apply wN;apply w
  cases h
  refine O.ret ?_
  simp [aC,iB,aP6]
theorem aL8:Tryz.f110.results.toList=[.tmp 4]:=rfl
theorem ent110:aE E.P 110:=eO Tryz.func110 (by simp [Tryz.f110]) rfl
theorem aA3 (a1:GParam) (b2:GParam) {r0:Bool} (h:lI a1 b2=some r0):Ok E 110 [.val (GParam.enc a1),.val (GParam.enc b2)] [vb r0] []:=by
 refine oB Tryz.func110 rfl (by simp [Tryz.f110]) fun C (q:C.N=15) hP=>?_
 have y:=aM hP
 unfold lI at h
 refine O.zR y fun K u=>?_
 iterate 3 (refine wC rfl fun K v=>?_;simp [q];apply v)
 apply wN;apply u
 refine O.seq ?_
 refine O.zR y fun K u=>?_
 iterate 5 (refine wC rfl fun K v=>?_;simp [q];apply v)
 apply wN;apply u
 rcases aA h with ⟨a0,h⟩ | ⟨a2,h⟩
 ·refine O.cT' (by simp) a0 ?_
  refine O.zR y fun K u=>?_
  refine wC rfl fun K v=>?_;simp [q];apply v
  apply wN;apply u
  cases h
  refine O.ret ?_
  simp [aC,iB,aL8]
 ·refine O.cF' (by simp) a2 ?_
  refine O.skip ?_
  refine O.seq ?_
  refine O.zR y fun K u=>?_
  iterate 5 (refine wC rfl fun K v=>?_;simp [q];apply v)
  apply wN;apply u
  rcases aA h with ⟨a3,h⟩ | ⟨a4,h⟩
  ·refine O.cT' (by simp) a3 ?_
   refine O.zR y fun K u=>?_
   refine wC rfl fun K v=>?_;simp [q];apply v
   apply wN;apply u
   cases h
   refine O.ret ?_
   simp [aC,iB,aL8]
  ·refine O.cF' (by simp) a4 ?_
   refine O.skip ?_
   refine O.zR y fun K u=>?_
   refine wC rfl fun K v=>?_;simp [q];apply v
   apply wN;apply u
   cases h
   refine O.ret ?_
   simp [aC,iB,aL8]
theorem aOy:Tryz.f94.results.toList=[.tmp 4]:=rfl
theorem ent94:aE E.P 94:=eO Tryz.func94 (by simp [Tryz.f94]) rfl
theorem xK (a1:List GParam) (b2:List GParam) {r0:Bool} (h:jS a1 b2=some r0):Ok E 94 [.val (.sl false 2 (List.map GParam.enc a1)),.val (.sl false 2 (List.map GParam.enc b2))] [vb r0] []:=by
 refine oB Tryz.func94 rfl (by simp [Tryz.f94]) fun C (q:C.N=27) hP=>?_
 have u:=aM hP
 unfold jS at h
 refine O.zR u fun K w=>?_
 refine wC rfl fun K r=>?_;simp [q];apply r
 apply wN;apply w
 refine O.seq ?_
 refine O.zR u fun K w=>?_
 iterate 5 (refine wC rfl fun K r=>?_;simp [q];apply r)
 apply wN;apply w
 rcases aA h with ⟨c0,h⟩ | ⟨c1,h⟩
 ·refine O.cT' (by simp) c0 ?_
  refine O.zR u fun K w=>?_
  refine wC rfl fun K r=>?_;simp [q];apply r
  apply wN;apply w
  cases h
  refine O.ret ?_
  simp [aC,iB,aOy]
 ·refine O.cF' (by simp) c1 ?_
  refine O.skip ?_
  obtain ⟨j7,c2,h⟩:=bS h
  refine O.seqC [] [] (fun v:Unit=>⟨[],[]⟩) (fun v=>j7=Sum.inl v) (fun v hv=>?_) fun K6 c3=>?_
  rotate_left
  ·refine O.zR u fun K w=>?_
   refine wC rfl fun K r=>?_;simp [q];apply r
   apply wN;apply w
   refine O.block ?_
   refine O.loopO [] [0,1,5] [] (fun v:Int=>⟨[(0,.t (.sl false 2 (List.map GParam.enc a1))),(1,.t (.sl false 2 (List.map GParam.enc b2))),(5,.t (vi v))],[]⟩) (eE a1 b2) _ 0 c2 (by simp [q]) ?_
   intro g c6 h9 a9
   obtain ⟨i8,hg⟩:∃ y,y=g:=⟨_,rfl⟩
   subst hg
   simp only [eE] at h9
   try dsimp only
   refine O.seq ?_
   refine O.zR u fun K w=>?_
   iterate 4 (refine wC rfl fun K r=>?_;simp [q];apply r)
   apply wN;apply w
   rcases aA h9 with ⟨b0,h9⟩ | ⟨b1,h9⟩
   ·refine O.cT' (by simp) b0 ?_
    refine O.skip ?_
    refine O.seq ?_
    refine O.block ?_
    refine O.seq ?_
    obtain ⟨b3,b4,h9⟩:=bS h9
    obtain ⟨a0,a2,a3,a4⟩:=gS b4
    obtain ⟨b5,b6,h9⟩:=bS h9
    obtain ⟨a5,a6,a7,a8⟩:=gS b6
    refine O.dT rfl (u _ rfl) [(17,.t (.sl false 2 (List.map GParam.enc a1))),(18,.t (vi i8)),(19,.rop [vs b3.Name,vi b3.Typ] 0),(20,.t (GParam.enc b3)),(21,.t (.sl false 2 (List.map GParam.enc b2))),(22,.t (vi i8)),(23,.rop [vs b5.Name,vi b5.Typ] 0),(24,.t (GParam.enc b5))] [[],[],[0,1],[0,1,2],[],[],[4,5],[4,5,6],[0,1,2,3,4,5,6,7],[0,1,2,3,4,5,6,7,8]] (by simp) (by simp) (by simp [look]) rfl rfl rfl ?_ fun K w=>?_
    ·refine ⟨?_,?_,?_,?_,?_,?_,?_,?_,trivial⟩
     all_goals (intro τ hbx hb hd hf K w;try simp [aI] at hd;simp [aI] at hf;first | (refine wC rfl fun K' z=>?_;simp [q,hbx,hb,hd,hf,a0,a2,a3,a4,a5,a6,a7,a8];exact z _ (wN (w _ (by simp [aI,hbx,a0,a2,a3,a4,a5,a6,a7,a8])))))
    obtain ⟨c7,b7,h9⟩:=bS h9
    refine wL [(.take,.tmp 20),(.take,.tmp 24)] rfl rfl ent110 (aA3 _ _ b7) fun K r=>?_;simp [q,a0,a2,a3,a4,a5,a6,a7,a8];apply r
    refine wC rfl fun K r=>?_;simp [q,a0,a2,a3,a4,a5,a6,a7,a8];apply r
    apply wN;apply w
    rcases aA h9 with ⟨b8,h9⟩ | ⟨b9,h9⟩
    ·refine O.cT' (by simp) b8 ?_
     refine O.zR u fun K w=>?_
     refine wC rfl fun K r=>?_;simp [q];apply r
     apply wN;apply w
     have c4:=congrArg some (a9 _ (Option.some.inj h9).symm)
     cases c4
     try dsimp only at h
     cases h
     refine O.ret ?_
     simp [aC,iB,aOy]
    ·refine O.cF' (by simp) b9 ?_
     refine O.skip ?_
     refine O.zG u fun K w=>?_
     iterate 3 (refine wC rfl fun K r=>?_;simp [q];apply r)
     apply wN;apply w
     cases h9
     exact ⟨_,[],rfl,by simp [q]⟩
   ·refine O.cF' (by simp) b1 ?_
    refine O.exit ?_
    have c5:=congrArg some (a9 _ (Option.some.inj h9).symm)
    cases c5
    exact c3 _ _ [] rfl (by simp [q])
  subst hv
  obtain ⟨⟩:=v
  try dsimp only at h ⊢
  refine O.zR u fun K w=>?_
  refine wC rfl fun K r=>?_;simp [q];apply r
  apply wN;apply w
  cases h
  refine O.ret ?_
  simp [aC,iB,aOy]
theorem aJg:Tryz.f58.results.toList=[.tmp 4]:=rfl
theorem ent58:aE E.P 58:=eO Tryz.func58 (by simp [Tryz.f58]) rfl
theorem aFi (a1:GFn) (b2:GFn) {r0:Bool} (h:qY a1 b2=some r0):Ok E 58 [.val (GFn.enc false a1),.val (GFn.enc false b2)] [vb r0] []:=by
 refine oB Tryz.func58 rfl (by simp [Tryz.f58]) fun C (q:C.N=31) hP=>?_
 have y:=aM hP
 unfold qY at h
 refine O.zR y fun K u=>?_
 iterate 3 (refine wC rfl fun K v=>?_;simp [q];apply v)
 apply wN;apply u
 refine O.seq ?_
 refine O.zR y fun K u=>?_
 iterate 5 (refine wC rfl fun K v=>?_;simp [q];apply v)
 apply wN;apply u
 rcases aA h with ⟨a6,h⟩ | ⟨a7,h⟩
 ·refine O.cT' (by simp) a6 ?_
  refine O.zR y fun K u=>?_
  refine wC rfl fun K v=>?_;simp [q];apply v
  apply wN;apply u
  cases h
  refine O.ret ?_
  simp [aC,iB,aJg]
 ·refine O.cF' (by simp) a7 ?_
  refine O.skip ?_
  refine O.seq ?_
  refine O.zR y fun K u=>?_
  iterate 4 (refine wC rfl fun K v=>?_;simp [q];apply v)
  obtain ⟨r5,a8,h⟩:=bS h
  refine wL [(.take,.tmp 11),(.take,.tmp 13)] rfl rfl ent94 (xK _ _ a8) fun K v=>?_;simp [q];apply v
  refine wC rfl fun K v=>?_;simp [q];apply v
  apply wN;apply u
  rcases aA h with ⟨a9,h⟩ | ⟨b0,h⟩
  ·refine O.cT' (by simp) a9 ?_
   refine O.zR y fun K u=>?_
   refine wC rfl fun K v=>?_;simp [q];apply v
   apply wN;apply u
   cases h
   refine O.ret ?_
   simp [aC,iB,aJg]
  ·refine O.cF' (by simp) b0 ?_
   refine O.skip ?_
   refine O.seq ?_
   refine O.zR y fun K u=>?_
   iterate 5 (refine wC rfl fun K v=>?_;simp [q];apply v)
   apply wN;apply u
   rcases aA h with ⟨b1,h⟩ | ⟨a0,h⟩
   ·refine O.cT' (by simp) b1 ?_
    refine O.zR y fun K u=>?_
    refine wC rfl fun K v=>?_;simp [q];apply v
    apply wN;apply u
    cases h
    refine O.ret ?_
    simp [aC,iB,aJg]
   ·refine O.cF' (by simp) a0 ?_
    refine O.skip ?_
    refine O.seq ?_
    refine O.zR y fun K u=>?_
    iterate 5 (refine wC rfl fun K v=>?_;simp [q];apply v)
    apply wN;apply u
    rcases aA h with ⟨a2,h⟩ | ⟨a3,h⟩
    ·refine O.cT' (by simp) a2 ?_
     refine O.zR y fun K u=>?_
     refine wC rfl fun K v=>?_;simp [q];apply v
     apply wN;apply u
     cases h
     refine O.ret ?_
     simp [aC,iB,aJg]
    ·refine O.cF' (by simp) a3 ?_
     refine O.skip ?_
     refine O.seq ?_
     refine O.zR y fun K u=>?_
     iterate 5 (refine wC rfl fun K v=>?_;simp [q];apply v)
     apply wN;apply u
     rcases aA h with ⟨a4,h⟩ | ⟨a5,h⟩
     ·refine O.cT' (by simp) a4 ?_
      refine O.zR y fun K u=>?_
      refine wC rfl fun K v=>?_;simp [q];apply v
      apply wN;apply u
      cases h
      refine O.ret ?_
      simp [aC,iB,aJg]
     ·refine O.cF' (by simp) a5 ?_
      refine O.skip ?_
      refine O.zR y fun K u=>?_
      refine wC rfl fun K v=>?_;simp [q];apply v
      apply wN;apply u
      cases h
      refine O.ret ?_
      simp [aC,iB,aJg]
theorem aP5:Tryz.f26.results.toList=[.tmp 4]:=rfl
theorem ent26:aE E.P 26:=eO Tryz.func26 (by simp [Tryz.f26]) rfl
theorem aDn (a1:List GFn) (b2:List GFn) {r0:Bool} (h:oS a1 b2=some r0):Ok E 26 [.val (.sl false 5 (List.map (GFn.enc false) a1)),.val (.sl false 5 (List.map (GFn.enc false) b2))] [vb r0] []:=by
 refine oB Tryz.func26 rfl (by simp [Tryz.f26]) fun C (q:C.N=27) hP=>?_
 have u:=aM hP
 unfold oS at h
 refine O.zR u fun K w=>?_
 refine wC rfl fun K r=>?_;simp [q];apply r
 apply wN;apply w
 refine O.seq ?_
 refine O.zR u fun K w=>?_
 iterate 5 (refine wC rfl fun K r=>?_;simp [q];apply r)
 apply wN;apply w
 rcases aA h with ⟨c0,h⟩ | ⟨c1,h⟩
 ·refine O.cT' (by simp) c0 ?_
  refine O.zR u fun K w=>?_
  refine wC rfl fun K r=>?_;simp [q];apply r
  apply wN;apply w
  cases h
  refine O.ret ?_
  simp [aC,iB,aP5]
 ·refine O.cF' (by simp) c1 ?_
  refine O.skip ?_
  obtain ⟨j7,c2,h⟩:=bS h
  refine O.seqC [] [] (fun v:Unit=>⟨[],[]⟩) (fun v=>j7=Sum.inl v) (fun v hv=>?_) fun K6 c3=>?_
  rotate_left
  ·refine O.zR u fun K w=>?_
   refine wC rfl fun K r=>?_;simp [q];apply r
   apply wN;apply w
   refine O.block ?_
   refine O.loopO [] [0,1,5] [] (fun v:Int=>⟨[(0,.t (.sl false 5 (List.map (GFn.enc false) a1))),(1,.t (.sl false 5 (List.map (GFn.enc false) b2))),(5,.t (vi v))],[]⟩) (gU a1 b2) _ 0 c2 (by simp [q]) ?_
   intro g c6 h9 b1
   obtain ⟨i8,hg⟩:∃ y,y=g:=⟨_,rfl⟩
   subst hg
   simp only [gU] at h9
   try dsimp only
   refine O.seq ?_
   refine O.zR u fun K w=>?_
   iterate 4 (refine wC rfl fun K r=>?_;simp [q];apply r)
   apply wN;apply w
   rcases aA h9 with ⟨b3,h9⟩ | ⟨b4,h9⟩
   ·refine O.cT' (by simp) b3 ?_
    refine O.skip ?_
    refine O.seq ?_
    refine O.block ?_
    refine O.seq ?_
    obtain ⟨a9,b5,h9⟩:=bS h9
    obtain ⟨a0,a2,a3,a4⟩:=gS b5
    obtain ⟨b0,b6,h9⟩:=bS h9
    obtain ⟨a5,a6,a7,a8⟩:=gS b6
    refine O.dT rfl (u _ rfl) [(17,.t (.sl false 5 (List.map (GFn.enc false) a1))),(18,.t (vi i8)),(19,.rop [vs a9.Name,.sl false 2 (List.map GParam.enc a9.Params),vi a9.Res,vi a9.Body,vi a9.Ret] 0),(20,.t (GFn.enc false a9)),(21,.t (.sl false 5 (List.map (GFn.enc false) b2))),(22,.t (vi i8)),(23,.rop [vs b0.Name,.sl false 2 (List.map GParam.enc b0.Params),vi b0.Res,vi b0.Body,vi b0.Ret] 0),(24,.t (GFn.enc false b0))] [[],[],[0,1],[0,1,2],[],[],[4,5],[4,5,6],[0,1,2,3,4,5,6,7],[0,1,2,3,4,5,6,7,8]] (by simp) (by simp) (by simp [look]) rfl rfl rfl ?_ fun K w=>?_
    ·refine ⟨?_,?_,?_,?_,?_,?_,?_,?_,trivial⟩
     all_goals (intro τ hbx hb hd hf K w;try simp [aI] at hd;simp [aI] at hf;first | (refine wC rfl fun K' z=>?_;simp [q,hbx,hb,hd,hf,a0,a2,a3,a4,a5,a6,a7,a8];exact z _ (wN (w _ (by simp [aI,hbx,a0,a2,a3,a4,a5,a6,a7,a8])))))
    obtain ⟨c7,b7,h9⟩:=bS h9
    refine wL [(.take,.tmp 20),(.take,.tmp 24)] rfl rfl ent58 (aFi _ _ b7) fun K r=>?_;simp [q,a0,a2,a3,a4,a5,a6,a7,a8];apply r
    refine wC rfl fun K r=>?_;simp [q,a0,a2,a3,a4,a5,a6,a7,a8];apply r
    apply wN;apply w
    rcases aA h9 with ⟨b8,h9⟩ | ⟨b9,h9⟩
    ·refine O.cT' (by simp) b8 ?_
     refine O.zR u fun K w=>?_
     refine wC rfl fun K r=>?_;simp [q];apply r
     apply wN;apply w
     have c4:=congrArg some (b1 _ (Option.some.inj h9).symm)
     cases c4
     try dsimp only at h
     cases h
     refine O.ret ?_
     simp [aC,iB,aP5]
    ·refine O.cF' (by simp) b9 ?_
     refine O.skip ?_
     refine O.zG u fun K w=>?_
     iterate 3 (refine wC rfl fun K r=>?_;simp [q];apply r)
     apply wN;apply w
     cases h9
     exact ⟨_,[],rfl,by simp [q]⟩
   ·refine O.cF' (by simp) b4 ?_
    refine O.exit ?_
    have c5:=congrArg some (b1 _ (Option.some.inj h9).symm)
    cases c5
    exact c3 _ _ [] rfl (by simp [q])
  subst hv
  obtain ⟨⟩:=v
  try dsimp only at h ⊢
  refine O.zR u fun K w=>?_
  refine wC rfl fun K r=>?_;simp [q];apply r
  apply wN;apply w
  cases h
  refine O.ret ?_
  simp [aC,iB,aP5]
theorem aPb:Tryz.f10.results.toList=[.tmp 4]:=rfl
theorem aNz:aE E.P 10:=eO Tryz.func10 (by simp [Tryz.f10]) rfl
theorem gT (a1:GProgram) (b2:GProgram) {r0:Bool} (h:dC a1 b2=some r0):Ok E 10 [.val (GProgram.enc false a1),.val (GProgram.enc false b2)] [vb r0] []:=by
 refine oB Tryz.func10 rfl (by simp [Tryz.f10]) fun C (q:C.N=17) hP=>?_
 have y:=aM hP
 unfold dC at h
 refine O.zR y fun K u=>?_
 iterate 3 (refine wC rfl fun K v=>?_;simp [q];apply v)
 apply wN;apply u
 refine O.seq ?_
 refine O.zR y fun K u=>?_
 iterate 4 (refine wC rfl fun K v=>?_;simp [q];apply v)
 obtain ⟨r3,a2,h⟩:=bS h
 refine wL [(.take,.tmp 6),(.take,.tmp 8)] rfl rfl ent25 (aA5 _ _ a2) fun K v=>?_;simp [q];apply v
 refine wC rfl fun K v=>?_;simp [q];apply v
 apply wN;apply u
 rcases aA h with ⟨a3,h⟩ | ⟨a4,h⟩
 ·refine O.cT' (by simp) a3 ?_
  refine O.zR y fun K u=>?_
  refine wC rfl fun K v=>?_;simp [q];apply v
  apply wN;apply u
  cases h
  refine O.ret ?_
  simp [aC,iB,aPb]
 ·refine O.cF' (by simp) a4 ?_
  refine O.skip ?_
  refine O.seq ?_
  refine O.zR y fun K u=>?_
  iterate 4 (refine wC rfl fun K v=>?_;simp [q];apply v)
  obtain ⟨r7,a5,h⟩:=bS h
  refine wL [(.take,.tmp 12),(.take,.tmp 14)] rfl rfl ent26 (aDn _ _ a5) fun K v=>?_;simp [q];apply v
  refine wC rfl fun K v=>?_;simp [q];apply v
  apply wN;apply u
  rcases aA h with ⟨a6,h⟩ | ⟨a0,h⟩
  ·refine O.cT' (by simp) a6 ?_
   refine O.zR y fun K u=>?_
   refine wC rfl fun K v=>?_;simp [q];apply v
   apply wN;apply u
   cases h
   refine O.ret ?_
   simp [aC,iB,aPb]
  ·refine O.cF' (by simp) a0 ?_
   refine O.skip ?_
   refine O.zR y fun K u=>?_
   refine wC rfl fun K v=>?_;simp [q];apply v
   apply wN;apply u
   cases h
   refine O.ret ?_
   simp [aC,iB,aPb]
theorem res68:Tryz.f68.results.toList=[.tmp 2]:=rfl
theorem aK9:aE E.P 68:=eO Tryz.func68 (by simp [Tryz.f68]) rfl
theorem dZ (k1:Int) {r0:ByteArray} (h:aP k1=some r0):Ok E 68 [.val (vi k1)] [vs r0] []:=by
 refine oB Tryz.func68 rfl (by simp [Tryz.f68]) fun C (q:C.N=20) hP=>?_
 have y:=aM hP
 unfold aP at h
 refine O.zR y fun K u=>?_
 refine wC rfl fun K w=>?_;simp [q];apply w
 apply wN;apply u
 refine O.seq ?_
 refine O.zR y fun K u=>?_
 iterate 2 (refine wC rfl fun K w=>?_;simp [q];apply w)
 apply wN;apply u
 rcases aA h with ⟨b0,h⟩ | ⟨b1,h⟩
 ·refine O.cT' (by simp) b0 ?_
  refine O.zR y fun K u=>?_
  refine wC rfl fun K w=>?_;simp [q];apply w
  apply wN;apply u
  cases h
  refine O.ret ?_
  simp [aC,iB,res68]
 ·refine O.cF' (by simp) b1 ?_
  refine O.skip ?_
  refine O.zR y fun K u=>?_
  refine wC rfl fun K w=>?_;simp [q];apply w
  apply wN;apply u
  obtain ⟨a0,b2,h⟩:=bS h
  refine O.seqC [3] [] (fun _:Unit=>⟨[(3,.t (vs a0))],[]⟩) (fun _=>True) (fun _ _=>?_) fun K5 b3=>?_
  rotate_left
  ·refine O.block ?_
   refine O.loopO [] [0,3] [] (fun v:Int × ByteArray=>⟨[(0,.t (vi v.1)),(3,.t (vs v.2))],[]⟩) (eB) _ (k1,(⟨#[]⟩:ByteArray)) b2 (by simp [q]) ?_
   intro g b6 h9 a5
   obtain ⟨k7,b4⟩:=g
   simp only [eB] at h9
   try dsimp only
   refine O.seq ?_
   refine O.zR y fun K u=>?_
   iterate 2 (refine wC rfl fun K w=>?_;simp [q];apply w)
   apply wN;apply u
   rcases aA h9 with ⟨a6,h9⟩ | ⟨a7,h9⟩
   ·refine O.cT' (by simp) a6 ?_
    refine O.skip ?_
    refine O.block ?_
    refine O.zR y fun K u=>?_
    iterate 7 (refine wC rfl fun K w=>?_;simp [q];apply w)
    obtain ⟨b7,a8,h9⟩:=bS h9
    obtain ⟨a1,a2⟩:=iF a8
    iterate 2 (refine wC rfl fun K w=>?_;simp [q,a1,a2];apply w)
    apply wN;apply u
    refine O.zG y fun K u=>?_
    iterate 3 (refine wC rfl fun K w=>?_;simp [q];apply w)
    apply wN;apply u
    cases h9
    exact ⟨_,[],rfl,by simp [q]⟩
   ·refine O.cF' (by simp) a7 ?_
    refine O.exit ?_
    have b5:=congrArg some (a5 _ (Option.some.inj h9).symm)
    cases b5
    exact b3 _ () [] trivial (by simp [q])
  refine O.zR y fun K u=>?_
  refine wC rfl fun K w=>?_;simp [q];apply w
  obtain ⟨b8,a9,h⟩:=bS h
  obtain ⟨a3,a4⟩:=iF a9
  iterate 2 (refine wC rfl fun K w=>?_;simp [q,a3,a4];apply w)
  apply wN;apply u
  cases h
  refine O.ret ?_
  simp [aC,iB,res68]
theorem res69:Tryz.f69.results.toList=[.tmp 4]:=rfl
theorem ent69:aE E.P 69:=eO Tryz.func69 (by simp [Tryz.f69]) rfl
theorem xI (a1:List Int) (k2:Int) {r0:Int} {q0:List Int} (h:jR a1 k2=some (r0,q0)):OkIO E 69 [.val (.sl true 1 (List.map vi a1)),.val (vi k2)] [vi r0] [] [(0,.sl true 1 (List.map vi q0))]:=by
 refine gI (fn:=Tryz.f69) [(0,.sl true 1 (List.map vi q0))] Tryz.func69 rfl (by simp [Tryz.f69]) rfl fun C hN hP=>?_
 have y:∀ l,aGs [0] l=true→oE C.pin l=true:=pO (by rw [hP];rfl)
 have q:C.N=19:=hN
 clear hN
 unfold jR at h
 refine O.zR y fun K u=>?_
 refine wC rfl fun K w=>?_;simp [q];apply w
 apply wN;apply u
 obtain ⟨⟨b2,b3⟩,b4,h⟩:=bS h
 try dsimp only at h
 refine O.seqC [0,1] [] (fun _:Unit=>⟨[(0,.t (.sl true 1 (List.map vi b2))),(1,.t (vi b3))],[]⟩) (fun _=>True) (fun _ _=>?_) fun K4 b5=>?_
 rotate_left
 ·refine O.zR y fun K u=>?_
  refine wC rfl fun K w=>?_;simp [q];apply w
  apply wN;apply u
  refine O.block ?_
  refine O.loopO [] [0,1,5] [] (fun v:(List Int) × Int × Int=>⟨[(0,.t (.sl true 1 (List.map vi v.1))),(1,.t (vi v.2.1)),(5,.t (vi v.2.2))],[]⟩) (cS) _ (a1,k2,0) b4 (by simp [q]) ?_
  intro g b8 h9 a7
  obtain ⟨a6,k7,i8⟩:=g
  simp only [cS] at h9
  try dsimp only
  refine O.seq ?_
  refine O.zR y fun K u=>?_
  iterate 4 (refine wC rfl fun K w=>?_;simp [q];apply w)
  apply wN;apply u
  rcases aA h9 with ⟨a8,h9⟩ | ⟨a9,h9⟩
  ·refine O.cT' (by simp) a8 ?_
   refine O.skip ?_
   refine O.seq ?_
   refine O.block ?_
   refine O.zR y fun K u=>?_
   iterate 3 (refine wC rfl fun K w=>?_;simp [q];apply w)
   obtain ⟨b9,b0,h9⟩:=bS h9
   obtain ⟨a0,a2,a3,a4⟩:=gS b0
   refine wC rfl fun K w=>?_;simp [q,a0,a2,a3,a4];apply w
   obtain ⟨b6,b1,h9⟩:=bZ h9
   have a5:(List.map vi a6).set i8.toNat (vi k7)=List.map vi b6:=bK (f:=vi) b1
   try simp only [Int.toNat_natCast] at a5
   refine wC rfl fun K w=>?_;simp [q,a0,a2,a3,a4,a5];apply w
   apply wN;apply u
   refine O.zG y fun K u=>?_
   iterate 3 (refine wC rfl fun K w=>?_;simp [q];apply w)
   apply wN;apply u
   refine O.zG y fun K u=>?_
   iterate 3 (refine wC rfl fun K w=>?_;simp [q];apply w)
   apply wN;apply u
   cases h9
   exact ⟨_,[],rfl,by simp [q]⟩
  ·refine O.cF' (by simp) a9 ?_
   refine O.exit ?_
   have b7:=congrArg some (a7 _ (Option.some.inj h9).symm)
   cases b7
   exact b5 _ () [] trivial (by simp [q])
 refine O.zR y fun K u=>?_
 iterate 2 (refine wC rfl fun K w=>?_;simp [q];apply w)
 apply wN;apply u
 cases h
 refine O.ret ?_
 simp [aC,iB,res69]
theorem res33:Tryz.f33.results.toList=[.tmp 4]:=rfl
theorem ent33:aE E.P 33:=eO Tryz.func33 (by simp [Tryz.f33]) rfl
theorem vV (a1:List GNode) (k2:Int) {r0:Int} {q0:List GNode} (h:iJ a1 k2=some (r0,q0)):OkIO E 33 [.val (.sl true 4 (List.map (GNode.enc true) a1)),.val (vi k2)] [vi r0] [] [(0,.sl true 4 (List.map (GNode.enc true) q0))]:=by
 refine gI (fn:=Tryz.f33) [(0,.sl true 4 (List.map (GNode.enc true) q0))] Tryz.func33 rfl (by simp [Tryz.f33]) rfl fun C hN hP=>?_
 have y:∀ l,aGs [0] l=true→oE C.pin l=true:=pO (by rw [hP];rfl)
 have q:C.N=42:=hN
 clear hN
 unfold iJ at h
 refine O.zR y fun K u=>?_
 refine wC rfl fun K w=>?_;simp [q];apply w
 apply wN;apply u
 obtain ⟨⟨e2,e3⟩,e4,h⟩:=bS h
 try dsimp only at h
 refine O.seqC [0,1] [] (fun _:Unit=>⟨[(0,.t (.sl true 4 (List.map (GNode.enc true) e2))),(1,.t (vi e3))],[]⟩) (fun _=>True) (fun _ _=>?_) fun K4 e5=>?_
 rotate_left
 ·refine O.zR y fun K u=>?_
  refine wC rfl fun K w=>?_;simp [q];apply w
  apply wN;apply u
  refine O.block ?_
  refine O.loopO [] [0,1,5] [] (fun v:(List GNode) × Int × Int=>⟨[(0,.t (.sl true 4 (List.map (GNode.enc true) v.1))),(1,.t (vi v.2.1)),(5,.t (vi v.2.2))],[]⟩) (cE) _ (a1,k2,0) e4 (by simp [q]) ?_
  intro g g0 h9 c2
  obtain ⟨a6,k7,i8⟩:=g
  simp only [cE] at h9
  try dsimp only
  refine O.seq ?_
  refine O.zR y fun K u=>?_
  iterate 4 (refine wC rfl fun K w=>?_;simp [q];apply w)
  apply wN;apply u
  rcases aA h9 with ⟨c3,h9⟩ | ⟨c4,h9⟩
  ·refine O.cT' (by simp) c3 ?_
   refine O.skip ?_
   refine O.seq ?_
   refine O.block ?_
   refine O.zR y fun K u=>?_
   iterate 3 (refine wC rfl fun K w=>?_;simp [q];apply w)
   obtain ⟨c5,c6,h9⟩:=bS h9
   obtain ⟨a5,a7,a8,a9⟩:=gS c6
   iterate 2 (refine wC rfl fun K w=>?_;simp [q,a5,a7,a8,a9];apply w)
   obtain ⟨d9,c7,h9⟩:=bZ h9
   have b0:(List.map (GNode.enc true) a6).set i8.toNat (.agg [vi k7,vi c5.Num,vs c5.Name,.sl true 1 (List.map vi c5.Kids)])=List.map (GNode.enc true) d9:=bK (f:=(GNode.enc true)) c7
   try simp only [Int.toNat_natCast] at b0
   refine wC rfl fun K w=>?_;simp [q,a5,a7,a8,a9,b0];apply w
   apply wN;apply u
   refine O.zR y fun K u=>?_
   iterate 3 (refine wC rfl fun K w=>?_;simp [q];apply w)
   apply wN;apply u
   refine O.zR y fun K u=>?_
   iterate 3 (refine wC rfl fun K w=>?_;simp [q];apply w)
   obtain ⟨c8,c9,h9⟩:=bS h9
   obtain ⟨b1,b2,b3,b4⟩:=gS c9
   iterate 2 (refine wC rfl fun K w=>?_;simp [q,b1,b2,b3,b4];apply w)
   obtain ⟨e0,d0,h9⟩:=bZ h9
   have b5:(List.map (GNode.enc true) d9).set i8.toNat (.agg [vi c8.Kind,vi (IntKind.wrap .i64 (k7 + 1)),vs c8.Name,.sl true 1 (List.map vi c8.Kids)])=List.map (GNode.enc true) e0:=bK (f:=(GNode.enc true)) d0
   try simp only [Int.toNat_natCast] at b5
   refine wC rfl fun K w=>?_;simp [q,b1,b2,b3,b4,b5];apply w
   apply wN;apply u
   refine O.zR y fun K u=>?_
   iterate 3 (refine wC rfl fun K w=>?_;simp [q];apply w)
   apply wN;apply u
   refine O.zR y fun K u=>?_
   iterate 3 (refine wC rfl fun K w=>?_;simp [q];apply w)
   obtain ⟨e6,d1,h9⟩:=bS h9
   refine wL [(.take,.tmp 28)] rfl rfl aK9 (dZ _ d1) fun K w=>?_;simp [q];apply w
   obtain ⟨d2,d3,h9⟩:=bS h9
   obtain ⟨b6,b7,b8,b9⟩:=gS d3
   iterate 2 (refine wC rfl fun K w=>?_;simp [q,b6,b7,b8,b9];apply w)
   obtain ⟨e1,d4,h9⟩:=bZ h9
   have c0:(List.map (GNode.enc true) e0).set i8.toNat (.agg [vi d2.Kind,vi d2.Num,vs e6,.sl true 1 (List.map vi d2.Kids)])=List.map (GNode.enc true) e1:=bK (f:=(GNode.enc true)) d4
   try simp only [Int.toNat_natCast] at c0
   refine wC rfl fun K w=>?_;simp [q,b6,b7,b8,b9,c0];apply w
   apply wN;apply u
   refine O.zR y fun K u=>?_
   iterate 3 (refine wC rfl fun K w=>?_;simp [q];apply w)
   apply wN;apply u
   refine O.zG y fun K u=>?_
   iterate 2 (refine wC rfl fun K w=>?_;simp [q];apply w)
   obtain ⟨d5,d6,h9⟩:=bS h9
   obtain ⟨a0,a2,a3,a4⟩:=gS d6
   iterate 4 (refine wC rfl fun K w=>?_;simp [q,a0,a2,a3,a4];apply w)
   obtain ⟨⟨g1,e7⟩,d7,h9⟩:=bS h9
   try dsimp only at h9
   refine mA rfl ent69 (xI _ _ d7) fun K w=>?_;simp [q,a0,a2,a3,a4];apply w
   obtain ⟨e8,d8,h9⟩:=bZ h9
   have c1:(List.map (GNode.enc true) e1).set i8.toNat (.agg [vi d5.Kind,vi d5.Num,vs d5.Name,.sl true 1 (List.map vi e7)])=List.map (GNode.enc true) e8:=bK (f:=(GNode.enc true)) d8
   try simp only [Int.toNat_natCast] at c1
   refine wC rfl fun K w=>?_;simp [q,a0,a2,a3,a4,c1];apply w
   apply wN;apply u
   refine O.zG y fun K u=>?_
   iterate 3 (refine wC rfl fun K w=>?_;simp [q];apply w)
   apply wN;apply u
   cases h9
   exact ⟨_,[],rfl,by simp [q]⟩
  ·refine O.cF' (by simp) c4 ?_
   refine O.exit ?_
   have e9:=congrArg some (c2 _ (Option.some.inj h9).symm)
   cases e9
   exact e5 _ () [] trivial (by simp [q])
 refine O.zR y fun K u=>?_
 iterate 2 (refine wC rfl fun K w=>?_;simp [q];apply w)
 apply wN;apply u
 cases h
 refine O.ret ?_
 simp [aC,iB,res33]
theorem res70:Tryz.f70.results.toList=[.tmp 4]:=rfl
theorem ent70:aE E.P 70:=eO Tryz.func70 (by simp [Tryz.f70]) rfl
theorem uD (a1:List GParam) (k2:Int) {r0:Int} {q0:List GParam} (h:gJ a1 k2=some (r0,q0)):OkIO E 70 [.val (.sl true 2 (List.map GParam.enc a1)),.val (vi k2)] [vi r0] [] [(0,.sl true 2 (List.map GParam.enc q0))]:=by
 refine gI (fn:=Tryz.f70) [(0,.sl true 2 (List.map GParam.enc q0))] Tryz.func70 rfl (by simp [Tryz.f70]) rfl fun C hN hP=>?_
 have y:∀ l,aGs [0] l=true→oE C.pin l=true:=pO (by rw [hP];rfl)
 have q:C.N=28:=hN
 clear hN
 unfold gJ at h
 refine O.zR y fun K u=>?_
 refine wC rfl fun K w=>?_;simp [q];apply w
 apply wN;apply u
 obtain ⟨⟨c1,c2⟩,c3,h⟩:=bS h
 try dsimp only at h
 refine O.seqC [0,1] [] (fun _:Unit=>⟨[(0,.t (.sl true 2 (List.map GParam.enc c1))),(1,.t (vi c2))],[]⟩) (fun _=>True) (fun _ _=>?_) fun K4 c4=>?_
 rotate_left
 ·refine O.zR y fun K u=>?_
  refine wC rfl fun K w=>?_;simp [q];apply w
  apply wN;apply u
  refine O.block ?_
  refine O.loopO [] [0,1,5] [] (fun v:(List GParam) × Int × Int=>⟨[(0,.t (.sl true 2 (List.map GParam.enc v.1))),(1,.t (vi v.2.1)),(5,.t (vi v.2.2))],[]⟩) (bP) _ (a1,k2,0) c3 (by simp [q]) ?_
  intro g d0 h9 b2
  obtain ⟨a6,k7,i8⟩:=g
  simp only [bP] at h9
  try dsimp only
  refine O.seq ?_
  refine O.zR y fun K u=>?_
  iterate 4 (refine wC rfl fun K w=>?_;simp [q];apply w)
  apply wN;apply u
  rcases aA h9 with ⟨b3,h9⟩ | ⟨b4,h9⟩
  ·refine O.cT' (by simp) b3 ?_
   refine O.skip ?_
   refine O.seq ?_
   refine O.block ?_
   refine O.zR y fun K u=>?_
   iterate 3 (refine wC rfl fun K w=>?_;simp [q];apply w)
   obtain ⟨c5,b5,h9⟩:=bS h9
   refine wL [(.take,.tmp 14)] rfl rfl aK9 (dZ _ b5) fun K w=>?_;simp [q];apply w
   obtain ⟨c6,b6,h9⟩:=bS h9
   obtain ⟨a0,a2,a3,a4⟩:=gS b6
   iterate 2 (refine wC rfl fun K w=>?_;simp [q,a0,a2,a3,a4];apply w)
   obtain ⟨c0,b7,h9⟩:=bZ h9
   have a5:(List.map GParam.enc a6).set i8.toNat (.agg [vs c5,vi c6.Typ])=List.map GParam.enc c0:=bK (f:=GParam.enc) b7
   try simp only [Int.toNat_natCast] at a5
   refine wC rfl fun K w=>?_;simp [q,a0,a2,a3,a4,a5];apply w
   apply wN;apply u
   refine O.zR y fun K u=>?_
   iterate 3 (refine wC rfl fun K w=>?_;simp [q];apply w)
   apply wN;apply u
   refine O.zR y fun K u=>?_
   iterate 3 (refine wC rfl fun K w=>?_;simp [q];apply w)
   obtain ⟨c7,b8,h9⟩:=bS h9
   obtain ⟨a7,a8,a9,b0⟩:=gS b8
   iterate 2 (refine wC rfl fun K w=>?_;simp [q,a7,a8,a9,b0];apply w)
   obtain ⟨c8,b9,h9⟩:=bZ h9
   have b1:(List.map GParam.enc c0).set i8.toNat (.agg [vs c7.Name,vi (IntKind.wrap .i64 (k7 + 1))])=List.map GParam.enc c8:=bK (f:=GParam.enc) b9
   try simp only [Int.toNat_natCast] at b1
   refine wC rfl fun K w=>?_;simp [q,a7,a8,a9,b0,b1];apply w
   apply wN;apply u
   refine O.zG y fun K u=>?_
   iterate 3 (refine wC rfl fun K w=>?_;simp [q];apply w)
   apply wN;apply u
   refine O.zG y fun K u=>?_
   iterate 3 (refine wC rfl fun K w=>?_;simp [q];apply w)
   apply wN;apply u
   cases h9
   exact ⟨_,[],rfl,by simp [q]⟩
  ·refine O.cF' (by simp) b4 ?_
   refine O.exit ?_
   have c9:=congrArg some (b2 _ (Option.some.inj h9).symm)
   cases c9
   exact c4 _ () [] trivial (by simp [q])
 refine O.zR y fun K u=>?_
 iterate 2 (refine wC rfl fun K w=>?_;simp [q];apply w)
 apply wN;apply u
 cases h
 refine O.ret ?_
 simp [aC,iB,res70]
theorem res34:Tryz.f34.results.toList=[.tmp 4]:=rfl
theorem ent34:aE E.P 34:=eO Tryz.func34 (by simp [Tryz.f34]) rfl
theorem aA1 (a1:List GFn) (k2:Int) {r0:Int} {q0:List GFn} (h:lG a1 k2=some (r0,q0)):OkIO E 34 [.val (.sl true 5 (List.map (GFn.enc true) a1)),.val (vi k2)] [vi r0] [] [(0,.sl true 5 (List.map (GFn.enc true) q0))]:=by
 refine gI (fn:=Tryz.f34) [(0,.sl true 5 (List.map (GFn.enc true) q0))] Tryz.func34 rfl (by simp [Tryz.f34]) rfl fun C hN hP=>?_
 have y:∀ l,aGs [0] l=true→oE C.pin l=true:=pO (by rw [hP];rfl)
 have q:C.N=49:=hN
 clear hN
 unfold lG at h
 refine O.zR y fun K u=>?_
 refine wC rfl fun K w=>?_;simp [q];apply w
 apply wN;apply u
 obtain ⟨⟨g2,g3⟩,g4,h⟩:=bS h
 try dsimp only at h
 refine O.seqC [0,1] [] (fun _:Unit=>⟨[(0,.t (.sl true 5 (List.map (GFn.enc true) g2))),(1,.t (vi g3))],[]⟩) (fun _=>True) (fun _ _=>?_) fun K4 g5=>?_
 rotate_left
 ·refine O.zR y fun K u=>?_
  refine wC rfl fun K w=>?_;simp [q];apply w
  apply wN;apply u
  refine O.block ?_
  refine O.loopO [] [0,1,5] [] (fun v:(List GFn) × Int × Int=>⟨[(0,.t (.sl true 5 (List.map (GFn.enc true) v.1))),(1,.t (vi v.2.1)),(5,.t (vi v.2.2))],[]⟩) (dP) _ (a1,k2,0) g4 (by simp [q]) ?_
  intro g h0 h9 d2
  obtain ⟨a6,k7,i8⟩:=g
  simp only [dP] at h9
  try dsimp only
  refine O.seq ?_
  refine O.zR y fun K u=>?_
  iterate 4 (refine wC rfl fun K w=>?_;simp [q];apply w)
  apply wN;apply u
  rcases aA h9 with ⟨d3,h9⟩ | ⟨d4,h9⟩
  ·refine O.cT' (by simp) d3 ?_
   refine O.skip ?_
   refine O.seq ?_
   refine O.block ?_
   refine O.zR y fun K u=>?_
   iterate 3 (refine wC rfl fun K w=>?_;simp [q];apply w)
   obtain ⟨g6,d5,h9⟩:=bS h9
   refine wL [(.take,.tmp 14)] rfl rfl aK9 (dZ _ d5) fun K w=>?_;simp [q];apply w
   obtain ⟨c7,d6,h9⟩:=bS h9
   obtain ⟨a5,a7,a8,a9⟩:=gS d6
   iterate 2 (refine wC rfl fun K w=>?_;simp [q,a5,a7,a8,a9];apply w)
   obtain ⟨e8,d7,h9⟩:=bZ h9
   have b0:(List.map (GFn.enc true) a6).set i8.toNat (.agg [vs g6,.sl true 2 (List.map GParam.enc c7.Params),vi c7.Res,vi c7.Body,vi c7.Ret])=List.map (GFn.enc true) e8:=bK (f:=(GFn.enc true)) d7
   try simp only [Int.toNat_natCast] at b0
   refine wC rfl fun K w=>?_;simp [q,a5,a7,a8,a9,b0];apply w
   apply wN;apply u
   refine O.zR y fun K u=>?_
   iterate 3 (refine wC rfl fun K w=>?_;simp [q];apply w)
   apply wN;apply u
   refine O.zR y fun K u=>?_
   iterate 2 (refine wC rfl fun K w=>?_;simp [q];apply w)
   obtain ⟨c8,d8,h9⟩:=bS h9
   obtain ⟨a0,a2,a3,a4⟩:=gS d8
   iterate 4 (refine wC rfl fun K w=>?_;simp [q,a0,a2,a3,a4];apply w)
   obtain ⟨⟨d9,g7⟩,e0,h9⟩:=bS h9
   try dsimp only at h9
   refine mA rfl ent70 (uD _ _ e0) fun K w=>?_;simp [q,a0,a2,a3,a4];apply w
   obtain ⟨e9,e1,h9⟩:=bZ h9
   have b1:(List.map (GFn.enc true) e8).set i8.toNat (.agg [vs c8.Name,.sl true 2 (List.map GParam.enc g7),vi c8.Res,vi c8.Body,vi c8.Ret])=List.map (GFn.enc true) e9:=bK (f:=(GFn.enc true)) e1
   try simp only [Int.toNat_natCast] at b1
   refine wC rfl fun K w=>?_;simp [q,a0,a2,a3,a4,b1];apply w
   apply wN;apply u
   refine O.zR y fun K u=>?_
   iterate 3 (refine wC rfl fun K w=>?_;simp [q];apply w)
   obtain ⟨c9,e2,h9⟩:=bS h9
   obtain ⟨b2,b3,b4,b5⟩:=gS e2
   iterate 2 (refine wC rfl fun K w=>?_;simp [q,b2,b3,b4,b5];apply w)
   obtain ⟨g0,e3,h9⟩:=bZ h9
   have b6:(List.map (GFn.enc true) e9).set i8.toNat (.agg [vs c9.Name,.sl true 2 (List.map GParam.enc c9.Params),vi d9,vi c9.Body,vi c9.Ret])=List.map (GFn.enc true) g0:=bK (f:=(GFn.enc true)) e3
   try simp only [Int.toNat_natCast] at b6
   refine wC rfl fun K w=>?_;simp [q,b2,b3,b4,b5,b6];apply w
   apply wN;apply u
   refine O.zR y fun K u=>?_
   iterate 3 (refine wC rfl fun K w=>?_;simp [q];apply w)
   apply wN;apply u
   refine O.zR y fun K u=>?_
   iterate 3 (refine wC rfl fun K w=>?_;simp [q];apply w)
   obtain ⟨d0,e4,h9⟩:=bS h9
   obtain ⟨b7,b8,b9,c0⟩:=gS e4
   iterate 2 (refine wC rfl fun K w=>?_;simp [q,b7,b8,b9,c0];apply w)
   obtain ⟨g1,e5,h9⟩:=bZ h9
   have c1:(List.map (GFn.enc true) g0).set i8.toNat (.agg [vs d0.Name,.sl true 2 (List.map GParam.enc d0.Params),vi d0.Res,vi (IntKind.wrap .i64 (d9 + 1)),vi d0.Ret])=List.map (GFn.enc true) g1:=bK (f:=(GFn.enc true)) e5
   try simp only [Int.toNat_natCast] at c1
   refine wC rfl fun K w=>?_;simp [q,b7,b8,b9,c0,c1];apply w
   apply wN;apply u
   refine O.zR y fun K u=>?_
   iterate 3 (refine wC rfl fun K w=>?_;simp [q];apply w)
   apply wN;apply u
   refine O.zR y fun K u=>?_
   iterate 3 (refine wC rfl fun K w=>?_;simp [q];apply w)
   obtain ⟨d1,e6,h9⟩:=bS h9
   obtain ⟨c2,c3,c4,c5⟩:=gS e6
   iterate 2 (refine wC rfl fun K w=>?_;simp [q,c2,c3,c4,c5];apply w)
   obtain ⟨g8,e7,h9⟩:=bZ h9
   have c6:(List.map (GFn.enc true) g1).set i8.toNat (.agg [vs d1.Name,.sl true 2 (List.map GParam.enc d1.Params),vi d1.Res,vi d1.Body,vi (IntKind.wrap .i64 ((IntKind.wrap .i64 (d9 + 1)) + 1))])=List.map (GFn.enc true) g8:=bK (f:=(GFn.enc true)) e7
   try simp only [Int.toNat_natCast] at c6
   refine wC rfl fun K w=>?_;simp [q,c2,c3,c4,c5,c6];apply w
   apply wN;apply u
   refine O.zG y fun K u=>?_
   iterate 3 (refine wC rfl fun K w=>?_;simp [q];apply w)
   apply wN;apply u
   refine O.zG y fun K u=>?_
   iterate 3 (refine wC rfl fun K w=>?_;simp [q];apply w)
   apply wN;apply u
   cases h9
   exact ⟨_,[],rfl,by simp [q]⟩
  ·refine O.cF' (by simp) d4 ?_
   refine O.exit ?_
   have g9:=congrArg some (d2 _ (Option.some.inj h9).symm)
   cases g9
   exact g5 _ () [] trivial (by simp [q])
 refine O.zR y fun K u=>?_
 iterate 2 (refine wC rfl fun K w=>?_;simp [q];apply w)
 apply wN;apply u
 cases h
 refine O.ret ?_
 simp [aC,iB,res34]
theorem res13:Tryz.f13.results.toList=[.tmp 4]:=rfl
theorem ent13:aE E.P 13:=eO Tryz.func13 (by simp [Tryz.f13]) rfl
theorem mT (a1:GProgram) (k2:Int) {r0:Int} {q0:GProgram} (h:eC a1 k2=some (r0,q0)):OkIO E 13 [.val (GProgram.enc true a1),.val (vi k2)] [vi r0] [] [(0,GProgram.enc true q0)]:=by
 refine gI (fn:=Tryz.f13) [(0,GProgram.enc true q0)] Tryz.func13 rfl (by simp [Tryz.f13]) rfl fun C hN hP=>?_
 have y:∀ l,aGs [0] l=true→oE C.pin l=true:=pO (by rw [hP];rfl)
 obtain ⟨V,hVp⟩:=aPc (n:=0) (by rw [hP];rfl)
 have q:C.N=14:=hN
 clear hN
 unfold eC at h
 refine O.seqRW rfl (y _ rfl) fun K u=>?_
 refine W_box 2 rfl rfl hVp (X:=GProgram.enc true a1) (by simp) (by simp) fun cs hcs hl K u=>?_
 obtain ⟨p0,p1,rfl⟩:∃ p0 p1,cs=[p0,p1]:=by match cs,hl with | [p0,p1],_=>exact ⟨p0,p1,rfl⟩
 simp [q];refine u _ ?_;clear u
 refine aMd fun KW hKW=>?_
 refine wC rfl fun K v=>?_;simp [q];apply v
 refine wN (hKW _ ?_);clear hKW
 refine aO7 (u _ ?_);clear u
 refine O.seqRW rfl (y _ rfl) fun K u=>?_
 refine aMd fun KW hKW=>?_
 refine wC rfl fun K v=>?_;simp [q];apply v
 refine wN (hKW _ ?_);clear hKW
 refine aMd fun KW hKW=>?_
 refine wC rfl fun K v=>?_;simp [q];apply v
 refine wN (hKW _ ?_);clear hKW
 refine aMd fun KW hKW=>?_
 refine wC rfl fun K v=>?_;simp [q];apply v
 refine wN (hKW _ ?_);clear hKW
 obtain ⟨⟨r3,q4⟩,a0,h⟩:=bS h
 try dsimp only at h
 refine aOp 0 0 none rfl rfl ent33 hVp hcs (vV _ _ a0) fun K v=>?_;simp [q];apply v
 refine aMd fun KW hKW=>?_
 refine wC rfl fun K v=>?_;simp [q];apply v
 refine wN (hKW _ ?_);clear hKW
 refine aO7 (u _ ?_);clear u
 refine O.seqRW rfl (y _ rfl) fun K u=>?_
 refine aMd fun KW hKW=>?_
 refine wC rfl fun K v=>?_;simp [q];apply v
 refine wN (hKW _ ?_);clear hKW
 refine aMd fun KW hKW=>?_
 refine wC rfl fun K v=>?_;simp [q];apply v
 refine wN (hKW _ ?_);clear hKW
 refine aMd fun KW hKW=>?_
 refine wC rfl fun K v=>?_;simp [q];apply v
 refine wN (hKW _ ?_);clear hKW
 obtain ⟨⟨r6,q7⟩,a2,h⟩:=bS h
 try dsimp only at h
 refine aOp 0 1 none rfl rfl ent34 hVp hcs (aA1 _ _ a2) fun K v=>?_;simp [q];apply v
 refine aMd fun KW hKW=>?_
 refine wC rfl fun K v=>?_;simp [q];apply v
 refine wN (hKW _ ?_);clear hKW
 refine aO7 (u _ ?_);clear u
 refine O.seqRW rfl (y _ rfl) fun K u=>?_
 refine aMd fun KW hKW=>?_
 refine wC rfl fun K v=>?_;simp [q];apply v
 refine wN (hKW _ ?_);clear hKW
 refine aMd fun KW hKW=>?_
 refine wC rfl fun K v=>?_;simp [q];apply v
 refine wN (hKW _ ?_);clear hKW
 refine aO7 (u _ ?_);clear u
 cases h
 refine O.ret ?_
 simp [aC,iB,res13]
theorem res71:Tryz.f71.results.toList=[.tmp 4]:=rfl
theorem ent71:aE E.P 71:=eO Tryz.func71 (by simp [Tryz.f71]) rfl
theorem xJ (a1:List Int) (k2:Int) {r0:Int} (h:eI a1 k2=some r0):Ok E 71 [.val (.sl false 1 (List.map vi a1)),.val (vi k2)] [vi r0] []:=by
 refine oB Tryz.func71 rfl (by simp [Tryz.f71]) fun C (q:C.N=21) hP=>?_
 have u:=aM hP
 unfold eI at h
 refine O.zR u fun K w=>?_
 refine wC rfl fun K z=>?_;simp [q];apply z
 apply wN;apply w
 obtain ⟨j5,b1,h⟩:=bS h
 refine O.seqC [1] [] (fun v:Int=>⟨[(1,.t (vi v))],[]⟩) (fun v=>j5=Sum.inl v) (fun v hv=>?_) fun K4 b2=>?_
 rotate_left
 ·refine O.zR u fun K w=>?_
  refine wC rfl fun K z=>?_;simp [q];apply z
  apply wN;apply w
  refine O.block ?_
  refine O.loopO [] [0,1,5] [] (fun v:Int × Int=>⟨[(0,.t (.sl false 1 (List.map vi a1))),(1,.t (vi v.1)),(5,.t (vi v.2))],[]⟩) (cT a1) _ (k2,0) b1 (by simp [q]) ?_
  intro g b5 h8 b0
  obtain ⟨k6,i7⟩:=g
  simp only [cT] at h8
  try dsimp only
  refine O.seq ?_
  refine O.zR u fun K w=>?_
  iterate 4 (refine wC rfl fun K z=>?_;simp [q];apply z)
  apply wN;apply w
  rcases aA h8 with ⟨a5,h8⟩ | ⟨a6,h8⟩
  ·refine O.cT' (by simp) a5 ?_
   refine O.skip ?_
   refine O.seq ?_
   refine O.block ?_
   refine O.seq ?_
   refine O.zR u fun K w=>?_
   iterate 2 (refine wC rfl fun K z=>?_;simp [q];apply z)
   obtain ⟨b6,a7,h8⟩:=bS h8
   obtain ⟨a0,a2,a3,a4⟩:=gS a7
   iterate 4 (refine wC rfl fun K z=>?_;simp [q,a0,a2,a3,a4];apply z)
   apply wN;apply w
   rcases aA h8 with ⟨a8,h8⟩ | ⟨a9,h8⟩
   ·refine O.cT' (by simp) a8 ?_
    refine O.zR u fun K w=>?_
    refine wC rfl fun K z=>?_;simp [q];apply z
    apply wN;apply w
    have b3:=congrArg some (b0 _ (Option.some.inj h8).symm)
    cases b3
    try dsimp only at h
    cases h
    refine O.ret ?_
    simp [aC,iB,res71]
   ·refine O.cF' (by simp) a9 ?_
    refine O.skip ?_
    refine O.zG u fun K w=>?_
    iterate 3 (refine wC rfl fun K z=>?_;simp [q];apply z)
    apply wN;apply w
    refine O.zG u fun K w=>?_
    iterate 3 (refine wC rfl fun K z=>?_;simp [q];apply z)
    apply wN;apply w
    cases h8
    exact ⟨_,[],rfl,by simp [q]⟩
  ·refine O.cF' (by simp) a6 ?_
   refine O.exit ?_
   have b4:=congrArg some (b0 _ (Option.some.inj h8).symm)
   cases b4
   exact b2 _ _ [] rfl (by simp [q])
 subst hv
 obtain ⟨b7,hv⟩:∃ y,y=v:=⟨_,rfl⟩
 subst hv
 try dsimp only at h ⊢
 refine O.zR u fun K w=>?_
 iterate 2 (refine wC rfl fun K z=>?_;simp [q];apply z)
 apply wN;apply w
 cases h
 refine O.ret ?_
 simp [aC,iB,res71]
theorem aL5:Tryz.f35.results.toList=[.tmp 4]:=rfl
theorem ent35:aE E.P 35:=eO Tryz.func35 (by simp [Tryz.f35]) rfl
theorem vW (a1:List GNode) (k2:Int) {r0:Int} (h:iK a1 k2=some r0):Ok E 35 [.val (.sl false 4 (List.map (GNode.enc false) a1)),.val (vi k2)] [vi r0] []:=by
 refine oB Tryz.func35 rfl (by simp [Tryz.f35]) fun C (q:C.N=50) hP=>?_
 have u:=aM hP
 unfold iK at h
 refine O.zR u fun K w=>?_
 refine wC rfl fun K r=>?_;simp [q];apply r
 apply wN;apply w
 obtain ⟨j5,d5,h⟩:=bS h
 refine O.seqC [1] [] (fun v:Int=>⟨[(1,.t (vi v))],[]⟩) (fun v=>j5=Sum.inl v) (fun v hv=>?_) fun K4 d6=>?_
 rotate_left
 ·refine O.zR u fun K w=>?_
  refine wC rfl fun K r=>?_;simp [q];apply r
  apply wN;apply w
  refine O.block ?_
  refine O.loopO [] [0,1,5] [] (fun v:Int × Int=>⟨[(0,.t (.sl false 4 (List.map (GNode.enc false) a1))),(1,.t (vi v.1)),(5,.t (vi v.2))],[]⟩) (cF a1) _ (k2,0) d5 (by simp [q]) ?_
  intro g e3 h8 b0
  obtain ⟨k6,i7⟩:=g
  simp only [cF] at h8
  try dsimp only
  refine O.seq ?_
  refine O.zR u fun K w=>?_
  iterate 4 (refine wC rfl fun K r=>?_;simp [q];apply r)
  apply wN;apply w
  rcases aA h8 with ⟨b9,h8⟩ | ⟨c0,h8⟩
  ·refine O.cT' (by simp) b9 ?_
   refine O.skip ?_
   refine O.seq ?_
   refine O.block ?_
   refine O.seq ?_
   refine O.zR u fun K w=>?_
   iterate 2 (refine wC rfl fun K r=>?_;simp [q];apply r)
   obtain ⟨e4,c1,h8⟩:=bS h8
   obtain ⟨b1,b2,b3,b4⟩:=gS c1
   iterate 5 (refine wC rfl fun K r=>?_;simp [q,b1,b2,b3,b4];apply r)
   apply wN;apply w
   rcases aA h8 with ⟨c2,h8⟩ | ⟨c3,h8⟩
   ·refine O.cT' (by simp) c2 ?_
    refine O.zR u fun K w=>?_
    refine wC rfl fun K r=>?_;simp [q];apply r
    apply wN;apply w
    have d7:=congrArg some (b0 _ (Option.some.inj h8).symm)
    cases d7
    try dsimp only at h
    cases h
    refine O.ret ?_
    simp [aC,iB,aL5]
   ·refine O.cF' (by simp) c3 ?_
    refine O.skip ?_
    refine O.zR u fun K w=>?_
    iterate 3 (refine wC rfl fun K r=>?_;simp [q];apply r)
    apply wN;apply w
    refine O.seq ?_
    refine O.zR u fun K w=>?_
    iterate 2 (refine wC rfl fun K r=>?_;simp [q];apply r)
    obtain ⟨e5,c4,h8⟩:=bS h8
    obtain ⟨b5,b6,b7,b8⟩:=gS c4
    iterate 5 (refine wC rfl fun K r=>?_;simp [q,b5,b6,b7,b8];apply r)
    apply wN;apply w
    rcases aA h8 with ⟨c5,h8⟩ | ⟨c6,h8⟩
    ·refine O.cT' (by simp) c5 ?_
     refine O.zR u fun K w=>?_
     refine wC rfl fun K r=>?_;simp [q];apply r
     apply wN;apply w
     have d8:=congrArg some (b0 _ (Option.some.inj h8).symm)
     cases d8
     try dsimp only at h
     cases h
     refine O.ret ?_
     simp [aC,iB,aL5]
    ·refine O.cF' (by simp) c6 ?_
     refine O.skip ?_
     refine O.zR u fun K w=>?_
     iterate 3 (refine wC rfl fun K r=>?_;simp [q];apply r)
     apply wN;apply w
     refine O.seq ?_
     refine O.seq ?_
     obtain ⟨a9,c7,h8⟩:=bS h8
     obtain ⟨a0,a2,a3,a4⟩:=gS c7
     obtain ⟨d9,c8,h8⟩:=bS h8
     refine O.dT rfl (u _ rfl) [(30,.t (.sl false 4 (List.map (GNode.enc false) a1))),(31,.t (vi i7)),(32,.rop [vi a9.Kind,vi a9.Num,vs a9.Name,.sl false 1 (List.map vi a9.Kids)] 0),(33,.rop [vi a9.Kind,vi a9.Num,vs a9.Name,.sl false 1 (List.map vi a9.Kids)] 2),(34,.t (vs a9.Name)),(35,.t (vi (IntKind.wrap .i64 ((IntKind.wrap .i64 (k6 + 1)) + 1)))),(36,.t (vs d9))] [[],[],[0,1],[0,1,2],[0,1,2,3],[],[5],[0,1,2,3,4,5,6]] (by simp) (by simp) (by simp [look]) rfl rfl rfl ?_ fun K w=>?_
     ·refine ⟨?_,?_,?_,?_,?_,?_,?_,trivial⟩
      all_goals (intro τ hbx hb hd hf K w;try simp [aI] at hd;simp [aI] at hf;first | (refine wC rfl fun K' z=>?_;simp [q,hbx,hb,hd,hf,a0,a2,a3,a4];exact z _ (wN (w _ (by simp [aI,hbx,a0,a2,a3,a4])))) | (refine wL [(.take,.tmp 35)] rfl rfl aK9 (dZ _ c8) fun K' z=>?_;simp [q,hbx,hb,hd,hf,a0,a2,a3,a4];exact z _ (wN (w _ (by simp [aI,hbx,a0,a2,a3,a4])))))
     refine wC rfl fun K r=>?_;simp [q,a0,a2,a3,a4];apply r
     apply wN;apply w
     rcases aA h8 with ⟨c9,h8⟩ | ⟨d0,h8⟩
     ·refine O.cT' (by simp) c9 ?_
      refine O.zR u fun K w=>?_
      refine wC rfl fun K r=>?_;simp [q];apply r
      apply wN;apply w
      have e0:=congrArg some (b0 _ (Option.some.inj h8).symm)
      cases e0
      try dsimp only at h
      cases h
      refine O.ret ?_
      simp [aC,iB,aL5]
     ·refine O.cF' (by simp) d0 ?_
      refine O.skip ?_
      refine O.zR u fun K w=>?_
      iterate 3 (refine wC rfl fun K r=>?_;simp [q];apply r)
      apply wN;apply w
      refine O.zR u fun K w=>?_
      iterate 2 (refine wC rfl fun K r=>?_;simp [q];apply r)
      obtain ⟨e6,d1,h8⟩:=bS h8
      obtain ⟨a5,a6,a7,a8⟩:=gS d1
      iterate 4 (refine wC rfl fun K r=>?_;simp [q,a5,a6,a7,a8];apply r)
      obtain ⟨e7,d2,h8⟩:=bS h8
      refine wL [(.take,.tmp 44),(.take,.tmp 45)] rfl rfl ent71 (xJ _ _ d2) fun K r=>?_;simp [q,a5,a6,a7,a8];apply r
      refine wC rfl fun K r=>?_;simp [q,a5,a6,a7,a8];apply r
      apply wN;apply w
      refine O.zR u fun K w=>?_
      iterate 2 (refine wC rfl fun K r=>?_;simp [q];apply r)
      apply wN;apply w
      rcases aA h8 with ⟨d3,h8⟩ | ⟨d4,h8⟩
      ·refine O.cT' (by simp) d3 ?_
       refine O.zR u fun K w=>?_
       refine wC rfl fun K r=>?_;simp [q];apply r
       apply wN;apply w
       have e1:=congrArg some (b0 _ (Option.some.inj h8).symm)
       cases e1
       try dsimp only at h
       cases h
       refine O.ret ?_
       simp [aC,iB,aL5]
      ·refine O.cF' (by simp) d4 ?_
       refine O.skip ?_
       refine O.zG u fun K w=>?_
       iterate 3 (refine wC rfl fun K r=>?_;simp [q];apply r)
       apply wN;apply w
       cases h8
       exact ⟨_,[],rfl,by simp [q]⟩
  ·refine O.cF' (by simp) c0 ?_
   refine O.exit ?_
   have e2:=congrArg some (b0 _ (Option.some.inj h8).symm)
   cases e2
   exact d6 _ _ [] rfl (by simp [q])
 subst hv
 obtain ⟨e8,hv⟩:∃ y,y=v:=⟨_,rfl⟩
 subst hv
 try dsimp only at h ⊢
 refine O.zR u fun K w=>?_
 iterate 2 (refine wC rfl fun K r=>?_;simp [q];apply r)
 apply wN;apply w
 cases h
 refine O.ret ?_
 simp [aC,iB,aL5]
theorem aP1:Tryz.f72.results.toList=[.tmp 4]:=rfl
theorem ent72:aE E.P 72:=eO Tryz.func72 (by simp [Tryz.f72]) rfl
theorem uE (a1:List GParam) (k2:Int) {r0:Int} (h:cM a1 k2=some r0):Ok E 72 [.val (.sl false 2 (List.map GParam.enc a1)),.val (vi k2)] [vi r0] []:=by
 refine oB Tryz.func72 rfl (by simp [Tryz.f72]) fun C (q:C.N=32) hP=>?_
 have u:=aM hP
 unfold cM at h
 refine O.zR u fun K w=>?_
 refine wC rfl fun K r=>?_;simp [q];apply r
 apply wN;apply w
 obtain ⟨j5,c0,h⟩:=bS h
 refine O.seqC [1] [] (fun v:Int=>⟨[(1,.t (vi v))],[]⟩) (fun v=>j5=Sum.inl v) (fun v hv=>?_) fun K4 c1=>?_
 rotate_left
 ·refine O.zR u fun K w=>?_
  refine wC rfl fun K r=>?_;simp [q];apply r
  apply wN;apply w
  refine O.block ?_
  refine O.loopO [] [0,1,5] [] (fun v:Int × Int=>⟨[(0,.t (.sl false 2 (List.map GParam.enc a1))),(1,.t (vi v.1)),(5,.t (vi v.2))],[]⟩) (bQ a1) _ (k2,0) c0 (by simp [q]) ?_
  intro g c6 h8 b0
  obtain ⟨k6,i7⟩:=g
  simp only [bQ] at h8
  try dsimp only
  refine O.seq ?_
  refine O.zR u fun K w=>?_
  iterate 4 (refine wC rfl fun K r=>?_;simp [q];apply r)
  apply wN;apply w
  rcases aA h8 with ⟨b1,h8⟩ | ⟨b2,h8⟩
  ·refine O.cT' (by simp) b1 ?_
   refine O.skip ?_
   refine O.seq ?_
   refine O.block ?_
   refine O.seq ?_
   refine O.seq ?_
   obtain ⟨a5,b3,h8⟩:=bS h8
   obtain ⟨a0,a2,a3,a4⟩:=gS b3
   obtain ⟨c2,b4,h8⟩:=bS h8
   refine O.dT rfl (u _ rfl) [(12,.t (.sl false 2 (List.map GParam.enc a1))),(13,.t (vi i7)),(14,.rop [vs a5.Name,vi a5.Typ] 0),(15,.rop [vs a5.Name,vi a5.Typ] 0),(16,.t (vs a5.Name)),(17,.t (vi k6)),(18,.t (vs c2))] [[],[],[0,1],[0,1,2],[0,1,2,3],[],[5],[0,1,2,3,4,5,6]] (by simp) (by simp) (by simp [look]) rfl rfl rfl ?_ fun K w=>?_
   ·refine ⟨?_,?_,?_,?_,?_,?_,?_,trivial⟩
    all_goals (intro τ hbx hb hd hf K w;try simp [aI] at hd;simp [aI] at hf;first | (refine wC rfl fun K' z=>?_;simp [q,hbx,hb,hd,hf,a0,a2,a3,a4];exact z _ (wN (w _ (by simp [aI,hbx,a0,a2,a3,a4])))) | (refine wL [(.take,.tmp 17)] rfl rfl aK9 (dZ _ b4) fun K' z=>?_;simp [q,hbx,hb,hd,hf,a0,a2,a3,a4];exact z _ (wN (w _ (by simp [aI,hbx,a0,a2,a3,a4])))))
   refine wC rfl fun K r=>?_;simp [q,a0,a2,a3,a4];apply r
   apply wN;apply w
   rcases aA h8 with ⟨b5,h8⟩ | ⟨b6,h8⟩
   ·refine O.cT' (by simp) b5 ?_
    refine O.zR u fun K w=>?_
    refine wC rfl fun K r=>?_;simp [q];apply r
    apply wN;apply w
    have c3:=congrArg some (b0 _ (Option.some.inj h8).symm)
    cases c3
    try dsimp only at h
    cases h
    refine O.ret ?_
    simp [aC,iB,aP1]
   ·refine O.cF' (by simp) b6 ?_
    refine O.skip ?_
    refine O.zR u fun K w=>?_
    iterate 3 (refine wC rfl fun K r=>?_;simp [q];apply r)
    apply wN;apply w
    refine O.seq ?_
    refine O.zR u fun K w=>?_
    iterate 2 (refine wC rfl fun K r=>?_;simp [q];apply r)
    obtain ⟨c7,b7,h8⟩:=bS h8
    obtain ⟨a6,a7,a8,a9⟩:=gS b7
    iterate 5 (refine wC rfl fun K r=>?_;simp [q,a6,a7,a8,a9];apply r)
    apply wN;apply w
    rcases aA h8 with ⟨b8,h8⟩ | ⟨b9,h8⟩
    ·refine O.cT' (by simp) b8 ?_
     refine O.zR u fun K w=>?_
     refine wC rfl fun K r=>?_;simp [q];apply r
     apply wN;apply w
     have c4:=congrArg some (b0 _ (Option.some.inj h8).symm)
     cases c4
     try dsimp only at h
     cases h
     refine O.ret ?_
     simp [aC,iB,aP1]
    ·refine O.cF' (by simp) b9 ?_
     refine O.skip ?_
     refine O.zG u fun K w=>?_
     iterate 3 (refine wC rfl fun K r=>?_;simp [q];apply r)
     apply wN;apply w
     refine O.zG u fun K w=>?_
     iterate 3 (refine wC rfl fun K r=>?_;simp [q];apply r)
     apply wN;apply w
     cases h8
     exact ⟨_,[],rfl,by simp [q]⟩
  ·refine O.cF' (by simp) b2 ?_
   refine O.exit ?_
   have c5:=congrArg some (b0 _ (Option.some.inj h8).symm)
   cases c5
   exact c1 _ _ [] rfl (by simp [q])
 subst hv
 obtain ⟨c8,hv⟩:∃ y,y=v:=⟨_,rfl⟩
 subst hv
 try dsimp only at h ⊢
 refine O.zR u fun K w=>?_
 iterate 2 (refine wC rfl fun K r=>?_;simp [q];apply r)
 apply wN;apply w
 cases h
 refine O.ret ?_
 simp [aC,iB,aP1]
theorem aJh:Tryz.f36.results.toList=[.tmp 4]:=rfl
theorem ent36:aE E.P 36:=eO Tryz.func36 (by simp [Tryz.f36]) rfl
theorem aA2 (a1:List GFn) (k2:Int) {r0:Int} (h:lH a1 k2=some r0):Ok E 36 [.val (.sl false 5 (List.map (GFn.enc false) a1)),.val (vi k2)] [vi r0] []:=by
 refine oB Tryz.func36 rfl (by simp [Tryz.f36]) fun C (q:C.N=59) hP=>?_
 have u:=aM hP
 unfold lH at h
 refine O.zR u fun K w=>?_
 refine wC rfl fun K r=>?_;simp [q];apply r
 apply wN;apply w
 obtain ⟨j5,e2,h⟩:=bS h
 refine O.seqC [1] [] (fun v:Int=>⟨[(1,.t (vi v))],[]⟩) (fun v=>j5=Sum.inl v) (fun v hv=>?_) fun K4 e3=>?_
 rotate_left
 ·refine O.zR u fun K w=>?_
  refine wC rfl fun K r=>?_;simp [q];apply r
  apply wN;apply w
  refine O.block ?_
  refine O.loopO [] [0,1,5] [] (fun v:Int × Int=>⟨[(0,.t (.sl false 5 (List.map (GFn.enc false) a1))),(1,.t (vi v.1)),(5,.t (vi v.2))],[]⟩) (dQ a1) _ (k2,0) e2 (by simp [q]) ?_
  intro g g1 h8 b0
  obtain ⟨k6,i7⟩:=g
  simp only [dQ] at h8
  try dsimp only
  refine O.seq ?_
  refine O.zR u fun K w=>?_
  iterate 4 (refine wC rfl fun K r=>?_;simp [q];apply r)
  apply wN;apply w
  rcases aA h8 with ⟨c3,h8⟩ | ⟨c4,h8⟩
  ·refine O.cT' (by simp) c3 ?_
   refine O.skip ?_
   refine O.seq ?_
   refine O.block ?_
   refine O.seq ?_
   refine O.seq ?_
   obtain ⟨a5,c5,h8⟩:=bS h8
   obtain ⟨a0,a2,a3,a4⟩:=gS c5
   obtain ⟨e4,c6,h8⟩:=bS h8
   refine O.dT rfl (u _ rfl) [(12,.t (.sl false 5 (List.map (GFn.enc false) a1))),(13,.t (vi i7)),(14,.rop [vs a5.Name,.sl false 2 (List.map GParam.enc a5.Params),vi a5.Res,vi a5.Body,vi a5.Ret] 0),(15,.rop [vs a5.Name,.sl false 2 (List.map GParam.enc a5.Params),vi a5.Res,vi a5.Body,vi a5.Ret] 0),(16,.t (vs a5.Name)),(17,.t (vi k6)),(18,.t (vs e4))] [[],[],[0,1],[0,1,2],[0,1,2,3],[],[5],[0,1,2,3,4,5,6]] (by simp) (by simp) (by simp [look]) rfl rfl rfl ?_ fun K w=>?_
   ·refine ⟨?_,?_,?_,?_,?_,?_,?_,trivial⟩
    all_goals (intro τ hbx hb hd hf K w;try simp [aI] at hd;simp [aI] at hf;first | (refine wC rfl fun K' z=>?_;simp [q,hbx,hb,hd,hf,a0,a2,a3,a4];exact z _ (wN (w _ (by simp [aI,hbx,a0,a2,a3,a4])))) | (refine wL [(.take,.tmp 17)] rfl rfl aK9 (dZ _ c6) fun K' z=>?_;simp [q,hbx,hb,hd,hf,a0,a2,a3,a4];exact z _ (wN (w _ (by simp [aI,hbx,a0,a2,a3,a4])))))
   refine wC rfl fun K r=>?_;simp [q,a0,a2,a3,a4];apply r
   apply wN;apply w
   rcases aA h8 with ⟨c7,h8⟩ | ⟨c8,h8⟩
   ·refine O.cT' (by simp) c7 ?_
    refine O.zR u fun K w=>?_
    refine wC rfl fun K r=>?_;simp [q];apply r
    apply wN;apply w
    have e5:=congrArg some (b0 _ (Option.some.inj h8).symm)
    cases e5
    try dsimp only at h
    cases h
    refine O.ret ?_
    simp [aC,iB,aJh]
   ·refine O.cF' (by simp) c8 ?_
    refine O.skip ?_
    refine O.zR u fun K w=>?_
    iterate 3 (refine wC rfl fun K r=>?_;simp [q];apply r)
    apply wN;apply w
    refine O.zR u fun K w=>?_
    iterate 2 (refine wC rfl fun K r=>?_;simp [q];apply r)
    obtain ⟨g2,c9,h8⟩:=bS h8
    obtain ⟨a6,a7,a8,a9⟩:=gS c9
    iterate 4 (refine wC rfl fun K r=>?_;simp [q,a6,a7,a8,a9];apply r)
    obtain ⟨g3,d0,h8⟩:=bS h8
    refine wL [(.take,.tmp 26),(.take,.tmp 27)] rfl rfl ent72 (uE _ _ d0) fun K r=>?_;simp [q,a6,a7,a8,a9];apply r
    refine wC rfl fun K r=>?_;simp [q,a6,a7,a8,a9];apply r
    apply wN;apply w
    refine O.seq ?_
    refine O.zR u fun K w=>?_
    iterate 2 (refine wC rfl fun K r=>?_;simp [q];apply r)
    apply wN;apply w
    rcases aA h8 with ⟨d1,h8⟩ | ⟨d2,h8⟩
    ·refine O.cT' (by simp) d1 ?_
     refine O.zR u fun K w=>?_
     refine wC rfl fun K r=>?_;simp [q];apply r
     apply wN;apply w
     have e6:=congrArg some (b0 _ (Option.some.inj h8).symm)
     cases e6
     try dsimp only at h
     cases h
     refine O.ret ?_
     simp [aC,iB,aJh]
    ·refine O.cF' (by simp) d2 ?_
     refine O.skip ?_
     refine O.seq ?_
     refine O.zR u fun K w=>?_
     iterate 2 (refine wC rfl fun K r=>?_;simp [q];apply r)
     obtain ⟨g4,d3,h8⟩:=bS h8
     obtain ⟨b1,b2,b3,b4⟩:=gS d3
     iterate 5 (refine wC rfl fun K r=>?_;simp [q,b1,b2,b3,b4];apply r)
     apply wN;apply w
     rcases aA h8 with ⟨d4,h8⟩ | ⟨d5,h8⟩
     ·refine O.cT' (by simp) d4 ?_
      refine O.zR u fun K w=>?_
      refine wC rfl fun K r=>?_;simp [q];apply r
      apply wN;apply w
      have e7:=congrArg some (b0 _ (Option.some.inj h8).symm)
      cases e7
      try dsimp only at h
      cases h
      refine O.ret ?_
      simp [aC,iB,aJh]
     ·refine O.cF' (by simp) d5 ?_
      refine O.skip ?_
      refine O.zR u fun K w=>?_
      iterate 3 (refine wC rfl fun K r=>?_;simp [q];apply r)
      apply wN;apply w
      refine O.seq ?_
      refine O.zR u fun K w=>?_
      iterate 2 (refine wC rfl fun K r=>?_;simp [q];apply r)
      obtain ⟨g5,d6,h8⟩:=bS h8
      obtain ⟨b5,b6,b7,b8⟩:=gS d6
      iterate 5 (refine wC rfl fun K r=>?_;simp [q,b5,b6,b7,b8];apply r)
      apply wN;apply w
      rcases aA h8 with ⟨d7,h8⟩ | ⟨d8,h8⟩
      ·refine O.cT' (by simp) d7 ?_
       refine O.zR u fun K w=>?_
       refine wC rfl fun K r=>?_;simp [q];apply r
       apply wN;apply w
       have e8:=congrArg some (b0 _ (Option.some.inj h8).symm)
       cases e8
       try dsimp only at h
       cases h
       refine O.ret ?_
       simp [aC,iB,aJh]
      ·refine O.cF' (by simp) d8 ?_
       refine O.skip ?_
       refine O.zR u fun K w=>?_
       iterate 3 (refine wC rfl fun K r=>?_;simp [q];apply r)
       apply wN;apply w
       refine O.seq ?_
       refine O.zR u fun K w=>?_
       iterate 2 (refine wC rfl fun K r=>?_;simp [q];apply r)
       obtain ⟨g6,d9,h8⟩:=bS h8
       obtain ⟨b9,c0,c1,c2⟩:=gS d9
       iterate 5 (refine wC rfl fun K r=>?_;simp [q,b9,c0,c1,c2];apply r)
       apply wN;apply w
       rcases aA h8 with ⟨e0,h8⟩ | ⟨e1,h8⟩
       ·refine O.cT' (by simp) e0 ?_
        refine O.zR u fun K w=>?_
        refine wC rfl fun K r=>?_;simp [q];apply r
        apply wN;apply w
        have e9:=congrArg some (b0 _ (Option.some.inj h8).symm)
        cases e9
        try dsimp only at h
        cases h
        refine O.ret ?_
        simp [aC,iB,aJh]
       ·refine O.cF' (by simp) e1 ?_
        refine O.skip ?_
        refine O.zG u fun K w=>?_
        iterate 3 (refine wC rfl fun K r=>?_;simp [q];apply r)
        apply wN;apply w
        refine O.zG u fun K w=>?_
        iterate 3 (refine wC rfl fun K r=>?_;simp [q];apply r)
        apply wN;apply w
        cases h8
        exact ⟨_,[],rfl,by simp [q]⟩
  ·refine O.cF' (by simp) c4 ?_
   refine O.exit ?_
   have g0:=congrArg some (b0 _ (Option.some.inj h8).symm)
   cases g0
   exact e3 _ _ [] rfl (by simp [q])
 subst hv
 obtain ⟨g7,hv⟩:∃ y,y=v:=⟨_,rfl⟩
 subst hv
 try dsimp only at h ⊢
 refine O.zR u fun K w=>?_
 iterate 2 (refine wC rfl fun K r=>?_;simp [q];apply r)
 apply wN;apply w
 cases h
 refine O.ret ?_
 simp [aC,iB,aJh]
theorem aPa:Tryz.f14.results.toList=[.tmp 4]:=rfl
theorem ent14:aE E.P 14:=eO Tryz.func14 (by simp [Tryz.f14]) rfl
theorem mU (a1:GProgram) (k2:Int) {r0:Int} (h:eD a1 k2=some r0):Ok E 14 [.val (GProgram.enc false a1),.val (vi k2)] [vi r0] []:=by
 refine oB Tryz.func14 rfl (by simp [Tryz.f14]) fun C (q:C.N=18) hP=>?_
 have y:=aM hP
 unfold eD at h
 refine O.zR y fun K u=>?_
 iterate 2 (refine wC rfl fun K v=>?_;simp [q];apply v)
 apply wN;apply u
 refine O.zR y fun K u=>?_
 iterate 3 (refine wC rfl fun K v=>?_;simp [q];apply v)
 obtain ⟨r3,a2,h⟩:=bS h
 refine wL [(.take,.tmp 6),(.take,.tmp 7)] rfl rfl ent35 (vW _ _ a2) fun K v=>?_;simp [q];apply v
 refine wC rfl fun K v=>?_;simp [q];apply v
 apply wN;apply u
 refine O.seq ?_
 refine O.zR y fun K u=>?_
 iterate 2 (refine wC rfl fun K v=>?_;simp [q];apply v)
 apply wN;apply u
 rcases aA h with ⟨a3,h⟩ | ⟨a4,h⟩
 ·refine O.cT' (by simp) a3 ?_
  refine O.zR y fun K u=>?_
  refine wC rfl fun K v=>?_;simp [q];apply v
  apply wN;apply u
  cases h
  refine O.ret ?_
  simp [aC,iB,aPa]
 ·refine O.cF' (by simp) a4 ?_
  refine O.skip ?_
  refine O.zR y fun K u=>?_
  iterate 3 (refine wC rfl fun K v=>?_;simp [q];apply v)
  obtain ⟨r7,a5,h⟩:=bS h
  refine wL [(.take,.tmp 12),(.take,.tmp 13)] rfl rfl ent36 (aA2 _ _ a5) fun K v=>?_;simp [q];apply v
  refine wC rfl fun K v=>?_;simp [q];apply v
  apply wN;apply u
  refine O.seq ?_
  refine O.zR y fun K u=>?_
  iterate 2 (refine wC rfl fun K v=>?_;simp [q];apply v)
  apply wN;apply u
  rcases aA h with ⟨a6,h⟩ | ⟨a0,h⟩
  ·refine O.cT' (by simp) a6 ?_
   refine O.zR y fun K u=>?_
   refine wC rfl fun K v=>?_;simp [q];apply v
   apply wN;apply u
   cases h
   refine O.ret ?_
   simp [aC,iB,aPa]
  ·refine O.cF' (by simp) a0 ?_
   refine O.skip ?_
   refine O.zR y fun K u=>?_
   iterate 2 (refine wC rfl fun K v=>?_;simp [q];apply v)
   apply wN;apply u
   cases h
   refine O.ret ?_
   simp [aC,iB,aPa]
theorem res28:Tryz.f28.results.toList=[.tmp 6]:=rfl
theorem qE:aE E.P 28:=eO Tryz.func28 (by simp [Tryz.f28]) rfl
theorem aR (x1:Int) (a0:Int) (a2:Int) {r0:Bool} (h:aY x1 a0 a2=some r0):Ok E 28 [.val (vi x1),.val (vi a0),.val (vi a2)] [vb r0] []:=by
 refine oB Tryz.func28 rfl (by simp [Tryz.f28]) fun C (q:C.N=15) hP=>?_
 have y:=aM hP
 unfold aY at h
 refine O.zR y fun K u=>?_
 refine wC rfl fun K v=>?_;simp [q];apply v
 apply wN;apply u
 obtain ⟨v8,a4,h⟩:=bS h
 refine O.seqRC rfl (y _ rfl) [6] [] (fun _:Unit=>⟨[(6,.t (vb v8))],[]⟩) (fun _=>True) (fun _ _=>?_) fun K5 a7=>?_
 rotate_left
 ·refine wC rfl fun K v=>?_;simp [q];apply v
  iterate 3 (refine wC rfl fun K v=>?_;simp [q];apply v)
  rcases aA a4 with ⟨a6,a4⟩ | ⟨a5,a4⟩
  ·have a3:=a6
   try simp at a3
   iterate 5 (refine wC rfl fun K v=>?_;simp [q,a6,a3];apply v)
   refine wN ?_
   cases a4
   exact a7 _ () [] trivial (by simp [q,a6,a3])
  ·have a1:=a5
   try simp at a1
   iterate 3 (refine wO fun K v=>?_;simp [q,a5,a1];apply v)
   iterate 2 (refine wC rfl fun K v=>?_;simp [q,a5,a1];apply v)
   refine wN ?_
   cases a4
   exact a7 _ () [] trivial (by simp [q,a5,a1])
 cases h
 refine O.ret ?_
 simp [aC,iB,res28]
theorem res119:Tryz.f119.results.toList=[.tmp 2]:=rfl
theorem aOl:aE E.P 119:=eO Tryz.func119 (by simp [Tryz.f119]) rfl
theorem oH (b1:Int) {r0:Bool} (h:fM b1=some r0):Ok E 119 [.val (vk .u8 b1)] [vb r0] []:=by
 refine oB Tryz.func119 rfl (by simp [Tryz.f119]) fun C (q:C.N=9) hP=>?_
 have y:=aM hP
 unfold fM at h
 refine O.zR y fun K u=>?_
 refine wC rfl fun K v=>?_;simp [q];apply v
 apply wN;apply u
 obtain ⟨v6,a2,h⟩:=bS h
 refine O.seqRC rfl (y _ rfl) [2] [] (fun _:Unit=>⟨[(2,.t (vb v6))],[]⟩) (fun _=>True) (fun _ _=>?_) fun K3 a5=>?_
 rotate_left
 ·refine wC rfl fun K v=>?_;simp [q];apply v
  iterate 2 (refine wC rfl fun K v=>?_;simp [q];apply v)
  rcases aA a2 with ⟨a4,a2⟩ | ⟨a3,a2⟩
  ·have a1:=a4
   try simp at a1
   iterate 4 (refine wC rfl fun K v=>?_;simp [q,a4,a1];apply v)
   refine wN ?_
   cases a2
   exact a5 _ () [] trivial (by simp [q,a4,a1])
  ·have a0:=a3
   try simp at a0
   iterate 2 (refine wO fun K v=>?_;simp [q,a3,a0];apply v)
   iterate 2 (refine wC rfl fun K v=>?_;simp [q,a3,a0];apply v)
   refine wN ?_
   cases a2
   exact a5 _ () [] trivial (by simp [q,a3,a0])
 cases h
 refine O.ret ?_
 simp [aC,iB,res119]
theorem res132:Tryz.f132.results.toList=[.tmp 0]:=rfl
theorem ent132:aE E.P 132:=eO Tryz.func132 (by simp [Tryz.f132]) rfl
theorem zC {r0:List ByteArray} (h:nL=some r0):Ok E 132 [] [.sl true 1 (List.map vs r0)] []:=by
 refine oB Tryz.func132 rfl (by simp [Tryz.f132]) fun C (q:C.N=2) hP=>?_
 have y:=aM hP
 unfold nL at h
 refine O.zR y fun K u=>?_
 refine wC rfl fun K v=>?_;simp [q];apply v
 apply wN;apply u
 refine O.zR y fun K u=>?_
 iterate 2 (refine wC rfl fun K v=>?_;simp [q];apply v)
 apply wN;apply u
 cases h
 refine O.ret ?_
 simp [aC,iB,res132]
theorem aOb:Tryz.f120.results.toList=[.tmp 2]:=rfl
theorem ent120:aE E.P 120:=eO Tryz.func120 (by simp [Tryz.f120]) rfl
theorem zD (s1:ByteArray) {r0:Bool} (h:kV s1=some r0):Ok E 120 [.val (vs s1)] [vb r0] []:=by
 refine oB Tryz.func120 rfl (by simp [Tryz.f120]) fun C (q:C.N=18) hP=>?_
 have u:=aM hP
 unfold kV at h
 refine O.zR u fun K w=>?_
 refine wC rfl fun K z=>?_;simp [q];apply z
 apply wN;apply w
 refine O.zR u fun K w=>?_
 obtain ⟨r2,b0,h⟩:=bS h
 refine wL [] rfl rfl ent132 (zC b0) fun K z=>?_;simp [q];apply z
 refine wC rfl fun K z=>?_;simp [q];apply z
 apply wN;apply w
 obtain ⟨j6,b1,h⟩:=bS h
 refine O.seqC [] [] (fun v:Unit=>⟨[],[]⟩) (fun v=>j6=Sum.inl v) (fun v hv=>?_) fun K5 b2=>?_
 rotate_left
 ·refine O.zR u fun K w=>?_
  refine wC rfl fun K z=>?_;simp [q];apply z
  apply wN;apply w
  refine O.block ?_
  refine O.loopO [] [0,3,4] [] (fun v:Int=>⟨[(0,.t (vs s1)),(3,.t (.sl true 1 (List.map vs r2))),(4,.t (vi v))],[]⟩) (gH s1 r2) _ 0 b1 (by simp [q]) ?_
  intro g b5 h8 a9
  obtain ⟨i7,hg⟩:∃ y,y=g:=⟨_,rfl⟩
  subst hg
  simp only [gH] at h8
  try dsimp only
  refine O.seq ?_
  refine O.zR u fun K w=>?_
  iterate 4 (refine wC rfl fun K z=>?_;simp [q];apply z)
  apply wN;apply w
  rcases aA h8 with ⟨a4,h8⟩ | ⟨a5,h8⟩
  ·refine O.cT' (by simp) a4 ?_
   refine O.skip ?_
   refine O.seq ?_
   refine O.block ?_
   refine O.zR u fun K w=>?_
   iterate 2 (refine wC rfl fun K z=>?_;simp [q];apply z)
   obtain ⟨b6,a6,h8⟩:=bS h8
   obtain ⟨a0,a1,a2,a3⟩:=gS a6
   iterate 4 (refine wC rfl fun K z=>?_;simp [q,a0,a1,a2,a3];apply z)
   apply wN;apply w
   rcases aA h8 with ⟨a7,h8⟩ | ⟨a8,h8⟩
   ·refine O.cT' (by simp) a7 ?_
    refine O.zR u fun K w=>?_
    refine wC rfl fun K z=>?_;simp [q];apply z
    apply wN;apply w
    have b3:=congrArg some (a9 _ (Option.some.inj h8).symm)
    cases b3
    try dsimp only at h
    cases h
    refine O.ret ?_
    simp [aC,iB,aOb]
   ·refine O.cF' (by simp) a8 ?_
    refine O.skip ?_
    refine O.zG u fun K w=>?_
    iterate 3 (refine wC rfl fun K z=>?_;simp [q];apply z)
    apply wN;apply w
    cases h8
    exact ⟨_,[],rfl,by simp [q]⟩
  ·refine O.cF' (by simp) a5 ?_
   refine O.exit ?_
   have b4:=congrArg some (a9 _ (Option.some.inj h8).symm)
   cases b4
   exact b2 _ _ [] rfl (by simp [q])
 subst hv
 obtain ⟨⟩:=v
 try dsimp only at h ⊢
 refine O.zR u fun K w=>?_
 refine wC rfl fun K z=>?_;simp [q];apply z
 apply wN;apply w
 cases h
 refine O.ret ?_
 simp [aC,iB,aOb]
theorem res121:Tryz.f121.results.toList=[.tmp 2]:=rfl
theorem ent121:aE E.P 121:=eO Tryz.func121 (by simp [Tryz.f121]) rfl
theorem vC (b1:Int) {r0:Bool} (h:iD b1=some r0):Ok E 121 [.val (vk .u8 b1)] [vb r0] []:=by
 refine oB Tryz.func121 rfl (by simp [Tryz.f121]) fun C (q:C.N=9) hP=>?_
 have y:=aM hP
 unfold iD at h
 refine O.zR y fun K u=>?_
 refine wC rfl fun K v=>?_;simp [q];apply v
 apply wN;apply u
 obtain ⟨v6,a2,h⟩:=bS h
 refine O.seqRC rfl (y _ rfl) [2] [] (fun _:Unit=>⟨[(2,.t (vb v6))],[]⟩) (fun _=>True) (fun _ _=>?_) fun K3 a5=>?_
 rotate_left
 ·refine wC rfl fun K v=>?_;simp [q];apply v
  iterate 2 (refine wC rfl fun K v=>?_;simp [q];apply v)
  rcases aA a2 with ⟨a4,a2⟩ | ⟨a3,a2⟩
  ·have a1:=a4
   try simp at a1
   iterate 4 (refine wC rfl fun K v=>?_;simp [q,a4,a1];apply v)
   refine wN ?_
   cases a2
   exact a5 _ () [] trivial (by simp [q,a4,a1])
  ·have a0:=a3
   try simp at a0
   iterate 2 (refine wO fun K v=>?_;simp [q,a3,a0];apply v)
   iterate 2 (refine wC rfl fun K v=>?_;simp [q,a3,a0];apply v)
   refine wN ?_
   cases a2
   exact a5 _ () [] trivial (by simp [q,a3,a0])
 cases h
 refine O.ret ?_
 simp [aC,iB,res121]
theorem aLa:Tryz.f102.results.toList=[.tmp 2]:=rfl
theorem aLz:aE E.P 102:=eO Tryz.func102 (by simp [Tryz.f102]) rfl
theorem nV (s1:ByteArray) {r0:Bool} (h:iQ s1=some r0):Ok E 102 [.val (vs s1)] [vb r0] []:=by
 refine oB Tryz.func102 rfl (by simp [Tryz.f102]) fun C (q:C.N=36) hP=>?_
 have u:=aM hP
 unfold iQ at h
 refine O.zR u fun K w=>?_
 refine wC rfl fun K z=>?_;simp [q];apply z
 apply wN;apply w
 refine O.seq ?_
 obtain ⟨d9,a9,h⟩:=bS h
 refine O.seqRC rfl (u _ rfl) [0,17] [] (fun _:Unit=>⟨[(0,.t (vs s1)),(17,.t (vb d9))],[]⟩) (fun _=>True) (fun _ _=>?_) fun K3 c4=>?_
 rotate_left
 ·refine wC rfl fun K z=>?_;simp [q];apply z
  refine wC rfl fun K z=>?_;simp [q];apply z
  obtain ⟨r4,e0,a9⟩:=bS a9
  refine wL [(.take,.tmp 5),(.take,.const (.int .i64 1)),(.take,.const (.int .i64 8))] rfl rfl qE (aR _ _ _ e0) fun K z=>?_;simp [q];apply z
  iterate 2 (refine wC rfl fun K z=>?_;simp [q];apply z)
  rcases aA a9 with ⟨c1,a9⟩ | ⟨b5,a9⟩
  ·have b4:=c1
   try simp at b4
   iterate 4 (refine wO fun K z=>?_;simp [q,c1,b4];apply z)
   iterate 2 (refine wC rfl fun K z=>?_;simp [q,c1,b4];apply z)
   iterate 2 (refine wO fun K z=>?_;simp [q,c1,b4];apply z)
   refine wC rfl fun K z=>?_;simp [q,c1,b4];apply z
   refine wN ?_
   cases a9
   exact c4 _ () [] trivial (by simp [q,c1,b4])
  ·have a3:=b5
   try simp at a3
   refine wC rfl fun K z=>?_;simp [q,b5,a3];apply z
   obtain ⟨c8,e1,a9⟩:=bS a9
   obtain ⟨a5,a6,a7⟩:=xV e1
   have a8:0 < s1.size:=by omega
   refine wC rfl fun K z=>?_;simp [q,b5,a3,a5,a6,a7,a8];apply z
   obtain ⟨r9,c5,a9⟩:=bS a9
   refine wL [(.take,.tmp 10)] rfl rfl aOl (oH _ c5) fun K z=>?_;simp [q,b5,a3,a5,a6,a7,a8];apply z
   iterate 3 (refine wC rfl fun K z=>?_;simp [q,b5,a3,a5,a6,a7,a8];apply z)
   rcases aA a9 with ⟨b9,a9⟩ | ⟨b7,a9⟩
   ·have b2:=b9
    try simp at b2
    iterate 2 (refine wO fun K z=>?_;simp [q,b5,a3,a5,a6,a7,a8,b9,b2];apply z)
    refine wC rfl fun K z=>?_;simp [q,b5,a3,a5,a6,a7,a8,b9,b2];apply z
    refine wN ?_
    cases a9
    exact c4 _ () [] trivial (by simp [q,b5,a3,a5,a6,a7,a8,b9,b2])
   ·have b0:=b7
    try simp at b0
    refine wC rfl fun K z=>?_;simp [q,b5,a3,a5,a6,a7,a8,b7,b0];apply z
    obtain ⟨e7,c6,a9⟩:=bS a9
    refine wL [(.take,.tmp 15)] rfl rfl ent120 (zD _ c6) fun K z=>?_;simp [q,b5,a3,a5,a6,a7,a8,b7,b0];apply z
    refine wC rfl fun K z=>?_;simp [q,b5,a3,a5,a6,a7,a8,b7,b0];apply z
    refine wN ?_
    cases a9
    exact c4 _ () [] trivial (by simp [q,b5,a3,a5,a6,a7,a8,b7,b0])
 rcases aA h with ⟨c7,h⟩ | ⟨c9,h⟩
 ·refine O.cT' (by simp) c7 ?_
  refine O.zR u fun K w=>?_
  refine wC rfl fun K z=>?_;simp [q];apply z
  apply wN;apply w
  cases h
  refine O.ret ?_
  simp [aC,iB,aLa]
 ·refine O.cF' (by simp) c9 ?_
  refine O.skip ?_
  obtain ⟨e2,d0,h⟩:=bS h
  refine O.seqC [] [] (fun v:Unit=>⟨[],[]⟩) (fun v=>e2=Sum.inl v) (fun v hv=>?_) fun e8 d1=>?_
  rotate_left
  ·refine O.zR u fun K w=>?_
   refine wC rfl fun K z=>?_;simp [q];apply z
   apply wN;apply w
   refine O.block ?_
   refine O.loopO [] [0,3] [] (fun v:Int=>⟨[(0,.t (vs s1)),(3,.t (vi v))],[]⟩) (fR s1) _ 0 d0 (by simp [q]) ?_
   intro g e9 b6 c2
   obtain ⟨e3,hg⟩:∃ y,y=g:=⟨_,rfl⟩
   subst hg
   simp only [fR] at b6
   try dsimp only
   refine O.seq ?_
   refine O.zR u fun K w=>?_
   iterate 4 (refine wC rfl fun K z=>?_;simp [q];apply z)
   apply wN;apply w
   rcases aA b6 with ⟨d2,b6⟩ | ⟨d3,b6⟩
   ·refine O.cT' (by simp) d2 ?_
    refine O.skip ?_
    refine O.seq ?_
    refine O.block ?_
    obtain ⟨e4,a4,b6⟩:=bS b6
    refine O.seqRC rfl (u _ rfl) [0,3,35] [] (fun _:Unit=>⟨[(0,.t (vs s1)),(3,.t (vi e3)),(35,.t (vb e4))],[]⟩) (fun _=>True) (fun _ _=>?_) fun g0 c3=>?_
    rotate_left
    ·refine wC rfl fun K z=>?_;simp [q];apply z
     refine wC rfl fun K z=>?_;simp [q];apply z
     obtain ⟨g1,d4,a4⟩:=bS a4
     obtain ⟨a0,a1,a2⟩:=xV d4
     refine wC rfl fun K z=>?_;simp [q,a0,a1,a2];apply z
     obtain ⟨g2,d5,a4⟩:=bS a4
     refine wL [(.take,.tmp 26)] rfl rfl aOl (oH _ d5) fun K z=>?_;simp [q,a0,a1,a2];apply z
     iterate 2 (refine wC rfl fun K z=>?_;simp [q,a0,a1,a2];apply z)
     rcases aA a4 with ⟨b8,a4⟩ | ⟨c0,a4⟩
     ·have b1:=b8
      try simp at b1
      iterate 3 (refine wC rfl fun K z=>?_;simp [q,a0,a1,a2,b8,b1];apply z)
      obtain ⟨g3,d6,a4⟩:=bS a4
      refine wL [(.take,.tmp 32)] rfl rfl ent121 (vC _ d6) fun K z=>?_;simp [q,a0,a1,a2,b8,b1];apply z
      iterate 2 (refine wC rfl fun K z=>?_;simp [q,a0,a1,a2,b8,b1];apply z)
      refine wN ?_
      cases a4
      exact c3 _ () [] trivial (by simp [q,a0,a1,a2,b8,b1])
     ·have b3:=c0
      try simp at b3
      iterate 5 (refine wO fun K z=>?_;simp [q,a0,a1,a2,c0,b3];apply z)
      refine wC rfl fun K z=>?_;simp [q,a0,a1,a2,c0,b3];apply z
      refine wN ?_
      cases a4
      exact c3 _ () [] trivial (by simp [q,a0,a1,a2,c0,b3])
    rcases aA b6 with ⟨d7,b6⟩ | ⟨d8,b6⟩
    ·refine O.cT' (by simp) d7 ?_
     refine O.zR u fun K w=>?_
     refine wC rfl fun K z=>?_;simp [q];apply z
     apply wN;apply w
     have e5:=congrArg some (c2 _ (Option.some.inj b6).symm)
     cases e5
     try dsimp only at h
     cases h
     refine O.ret ?_
     simp [aC,iB,aLa]
    ·refine O.cF' (by simp) d8 ?_
     refine O.skip ?_
     refine O.zG u fun K w=>?_
     iterate 3 (refine wC rfl fun K z=>?_;simp [q];apply z)
     apply wN;apply w
     cases b6
     exact ⟨_,[],rfl,by simp [q]⟩
   ·refine O.cF' (by simp) d3 ?_
    refine O.exit ?_
    have e6:=congrArg some (c2 _ (Option.some.inj b6).symm)
    cases e6
    exact d1 _ _ [] rfl (by simp [q])
  subst hv
  obtain ⟨⟩:=v
  try dsimp only at h ⊢
  refine O.zR u fun K w=>?_
  refine wC rfl fun K z=>?_;simp [q];apply z
  apply wN;apply w
  cases h
  refine O.ret ?_
  simp [aC,iB,aLa]
theorem aC7:Tryz.f116.results.toList=[.tmp 2,.tmp 3]:=rfl
theorem ent116:aE E.P 116:=eO Tryz.func116 (by simp [Tryz.f116]) rfl
theorem yW (a2:Int) {r0:Int} {r1:Int} (h:kS a2=some (r0,r1)):Ok E 116 [.val (vi a2)] [vi r0,vi r1] []:=by
 refine oB Tryz.func116 rfl (by simp [Tryz.f116]) fun C (q:C.N=23) hP=>?_
 have y:=aM hP
 unfold kS at h
 refine O.zR y fun K u=>?_
 iterate 2 (refine wC rfl fun K v=>?_;simp [q];apply v)
 apply wN;apply u
 refine O.seq ?_
 refine O.zR y fun K u=>?_
 refine wC rfl fun K v=>?_;simp [q];apply v
 apply wN;apply u
 refine O.block ?_
 obtain ⟨c6,a1,h⟩:=bS h
 refine O.seqC [4,5] [] (fun _:Unit=>⟨[(4,.t (vi a2)),(5,.t (vb c6))],[]⟩) (fun _=>True) (fun _ _=>?_) fun K3 a4=>?_
 rotate_left
 ·refine O.zR y fun K u=>?_
  iterate 2 (refine wC rfl fun K v=>?_;simp [q];apply v)
  apply wN;apply u
  rcases aA a1 with ⟨c7,a1⟩ | ⟨c8,a1⟩
  ·refine O.cT' (by simp) c7 ?_
   refine O.skip ?_
   cases a1
   exact a4 _ () [] trivial (by simp [q])
  ·refine O.cF' (by simp) c8 ?_
   refine O.zR y fun K u=>?_
   iterate 2 (refine wC rfl fun K v=>?_;simp [q];apply v)
   apply wN;apply u
   rcases aA a1 with ⟨c9,a1⟩ | ⟨d0,a1⟩
   ·refine O.cT' (by simp) c9 ?_
    refine O.skip ?_
    cases a1
    exact a4 _ () [] trivial (by simp [q])
   ·refine O.cF' (by simp) d0 ?_
    refine O.zR y fun K u=>?_
    iterate 2 (refine wC rfl fun K v=>?_;simp [q];apply v)
    apply wN;apply u
    rcases aA a1 with ⟨d1,a1⟩ | ⟨a5,a1⟩
    ·refine O.cT' (by simp) d1 ?_
     refine O.skip ?_
     cases a1
     exact a4 _ () [] trivial (by simp [q])
    ·refine O.cF' (by simp) a5 ?_
     refine O.zR y fun K u=>?_
     iterate 2 (refine wC rfl fun K v=>?_;simp [q];apply v)
     apply wN;apply u
     rcases aA a1 with ⟨a6,a1⟩ | ⟨a7,a1⟩
     ·refine O.cT' (by simp) a6 ?_
      refine O.skip ?_
      cases a1
      exact a4 _ () [] trivial (by simp [q])
     ·refine O.cF' (by simp) a7 ?_
      refine O.zR y fun K u=>?_
      iterate 2 (refine wC rfl fun K v=>?_;simp [q];apply v)
      apply wN;apply u
      rcases aA a1 with ⟨a8,a1⟩ | ⟨a9,a1⟩
      ·refine O.cT' (by simp) a8 ?_
       refine O.skip ?_
       cases a1
       exact a4 _ () [] trivial (by simp [q])
      ·refine O.cF' (by simp) a9 ?_
       refine O.zG y fun K u=>?_
       iterate 2 (refine wC rfl fun K v=>?_;simp [q];apply v)
       apply wN;apply u
       cases a1
       exact a4 _ () [] trivial (by simp [q])
 rcases aA h with ⟨b0,h⟩ | ⟨b1,h⟩
 ·refine O.cT' (by simp) b0 ?_
  refine O.zR y fun K u=>?_
  iterate 2 (refine wC rfl fun K v=>?_;simp [q];apply v)
  apply wN;apply u
  cases h
  refine O.ret ?_
  simp [aC,iB,aC7]
 ·refine O.cF' (by simp) b1 ?_
  obtain ⟨d2,a0,h⟩:=bS h
  refine O.seqC [4,12] [] (fun _:Unit=>⟨[(4,.t (vi a2)),(12,.t (vb d2))],[]⟩) (fun _=>True) (fun _ _=>?_) fun d3 a3=>?_
  rotate_left
  ·refine O.zR y fun K u=>?_
   iterate 2 (refine wC rfl fun K v=>?_;simp [q];apply v)
   apply wN;apply u
   rcases aA a0 with ⟨b2,a0⟩ | ⟨b3,a0⟩
   ·refine O.cT' (by simp) b2 ?_
    refine O.skip ?_
    cases a0
    exact a3 _ () [] trivial (by simp [q])
   ·refine O.cF' (by simp) b3 ?_
    refine O.zR y fun K u=>?_
    iterate 2 (refine wC rfl fun K v=>?_;simp [q];apply v)
    apply wN;apply u
    rcases aA a0 with ⟨b4,a0⟩ | ⟨b5,a0⟩
    ·refine O.cT' (by simp) b4 ?_
     refine O.skip ?_
     cases a0
     exact a3 _ () [] trivial (by simp [q])
    ·refine O.cF' (by simp) b5 ?_
     refine O.zR y fun K u=>?_
     iterate 2 (refine wC rfl fun K v=>?_;simp [q];apply v)
     apply wN;apply u
     rcases aA a0 with ⟨b6,a0⟩ | ⟨b7,a0⟩
     ·refine O.cT' (by simp) b6 ?_
      refine O.skip ?_
      cases a0
      exact a3 _ () [] trivial (by simp [q])
     ·refine O.cF' (by simp) b7 ?_
      refine O.zG y fun K u=>?_
      iterate 2 (refine wC rfl fun K v=>?_;simp [q];apply v)
      apply wN;apply u
      cases a0
      exact a3 _ () [] trivial (by simp [q])
  rcases aA h with ⟨b8,h⟩ | ⟨b9,h⟩
  ·refine O.cT' (by simp) b8 ?_
   refine O.zR y fun K u=>?_
   iterate 2 (refine wC rfl fun K v=>?_;simp [q];apply v)
   apply wN;apply u
   cases h
   refine O.ret ?_
   simp [aC,iB,aC7]
  ·refine O.cF' (by simp) b9 ?_
   refine O.zR y fun K u=>?_
   iterate 2 (refine wC rfl fun K v=>?_;simp [q];apply v)
   apply wN;apply u
   rcases aA h with ⟨c0,h⟩ | ⟨c1,h⟩
   ·refine O.cT' (by simp) c0 ?_
    refine O.zR y fun K u=>?_
    iterate 2 (refine wC rfl fun K v=>?_;simp [q];apply v)
    apply wN;apply u
    cases h
    refine O.ret ?_
    simp [aC,iB,aC7]
   ·refine O.cF' (by simp) c1 ?_
    refine O.zR y fun K u=>?_
    iterate 2 (refine wC rfl fun K v=>?_;simp [q];apply v)
    apply wN;apply u
    rcases aA h with ⟨c2,h⟩ | ⟨c3,h⟩
    ·refine O.cT' (by simp) c2 ?_
     refine O.zR y fun K u=>?_
     iterate 2 (refine wC rfl fun K v=>?_;simp [q];apply v)
     apply wN;apply u
     cases h
     refine O.ret ?_
     simp [aC,iB,aC7]
    ·refine O.cF' (by simp) c3 ?_
     refine O.zR y fun K u=>?_
     iterate 2 (refine wC rfl fun K v=>?_;simp [q];apply v)
     apply wN;apply u
     rcases aA h with ⟨c4,h⟩ | ⟨c5,h⟩
     ·refine O.cT' (by simp) c4 ?_
      refine O.zR y fun K u=>?_
      iterate 2 (refine wC rfl fun K v=>?_;simp [q];apply v)
      apply wN;apply u
      cases h
      refine O.ret ?_
      simp [aC,iB,aC7]
     ·refine O.cF' (by simp) c5 ?_
      refine O.skip ?_
      refine O.zR y fun K u=>?_
      iterate 2 (refine wC rfl fun K v=>?_;simp [q];apply v)
      apply wN;apply u
      cases h
      refine O.ret ?_
      simp [aC,iB,aC7]
theorem aOc:Tryz.f117.results.toList=[.tmp 2]:=rfl
theorem ent117:aE E.P 117:=eO Tryz.func117 (by simp [Tryz.f117]) rfl
theorem wZ (a2:Int) {r0:Bool} (h:jK a2=some r0):Ok E 117 [.val (vi a2)] [vb r0] []:=by
 refine oB Tryz.func117 rfl (by simp [Tryz.f117]) fun C (q:C.N=14) hP=>?_
 have y:=aM hP
 unfold jK at h
 refine O.zR y fun K u=>?_
 refine wC rfl fun K v=>?_;simp [q];apply v
 apply wN;apply u
 refine O.seq ?_
 refine O.zR y fun K u=>?_
 refine wC rfl fun K v=>?_;simp [q];apply v
 apply wN;apply u
 refine O.block ?_
 obtain ⟨b6,a0,h⟩:=bS h
 refine O.seqC [4] [] (fun _:Unit=>⟨[(4,.t (vb b6))],[]⟩) (fun _=>True) (fun _ _=>?_) fun K3 a1=>?_
 rotate_left
 ·refine O.zR y fun K u=>?_
  iterate 2 (refine wC rfl fun K v=>?_;simp [q];apply v)
  apply wN;apply u
  rcases aA a0 with ⟨b7,a0⟩ | ⟨b8,a0⟩
  ·refine O.cT' (by simp) b7 ?_
   refine O.skip ?_
   cases a0
   exact a1 _ () [] trivial (by simp [q])
  ·refine O.cF' (by simp) b8 ?_
   refine O.zR y fun K u=>?_
   iterate 2 (refine wC rfl fun K v=>?_;simp [q];apply v)
   apply wN;apply u
   rcases aA a0 with ⟨b9,a0⟩ | ⟨c0,a0⟩
   ·refine O.cT' (by simp) b9 ?_
    refine O.skip ?_
    cases a0
    exact a1 _ () [] trivial (by simp [q])
   ·refine O.cF' (by simp) c0 ?_
    refine O.zR y fun K u=>?_
    iterate 2 (refine wC rfl fun K v=>?_;simp [q];apply v)
    apply wN;apply u
    rcases aA a0 with ⟨c1,a0⟩ | ⟨a3,a0⟩
    ·refine O.cT' (by simp) c1 ?_
     refine O.skip ?_
     cases a0
     exact a1 _ () [] trivial (by simp [q])
    ·refine O.cF' (by simp) a3 ?_
     refine O.zR y fun K u=>?_
     iterate 2 (refine wC rfl fun K v=>?_;simp [q];apply v)
     apply wN;apply u
     rcases aA a0 with ⟨a4,a0⟩ | ⟨a5,a0⟩
     ·refine O.cT' (by simp) a4 ?_
      refine O.skip ?_
      cases a0
      exact a1 _ () [] trivial (by simp [q])
     ·refine O.cF' (by simp) a5 ?_
      refine O.zR y fun K u=>?_
      iterate 2 (refine wC rfl fun K v=>?_;simp [q];apply v)
      apply wN;apply u
      rcases aA a0 with ⟨a6,a0⟩ | ⟨a7,a0⟩
      ·refine O.cT' (by simp) a6 ?_
       refine O.skip ?_
       cases a0
       exact a1 _ () [] trivial (by simp [q])
      ·refine O.cF' (by simp) a7 ?_
       refine O.zR y fun K u=>?_
       iterate 2 (refine wC rfl fun K v=>?_;simp [q];apply v)
       apply wN;apply u
       rcases aA a0 with ⟨a8,a0⟩ | ⟨a9,a0⟩
       ·refine O.cT' (by simp) a8 ?_
        refine O.skip ?_
        cases a0
        exact a1 _ () [] trivial (by simp [q])
       ·refine O.cF' (by simp) a9 ?_
        refine O.zR y fun K u=>?_
        iterate 2 (refine wC rfl fun K v=>?_;simp [q];apply v)
        apply wN;apply u
        rcases aA a0 with ⟨b0,a0⟩ | ⟨b1,a0⟩
        ·refine O.cT' (by simp) b0 ?_
         refine O.skip ?_
         cases a0
         exact a1 _ () [] trivial (by simp [q])
        ·refine O.cF' (by simp) b1 ?_
         refine O.zR y fun K u=>?_
         iterate 2 (refine wC rfl fun K v=>?_;simp [q];apply v)
         apply wN;apply u
         rcases aA a0 with ⟨b2,a0⟩ | ⟨b3,a0⟩
         ·refine O.cT' (by simp) b2 ?_
          refine O.skip ?_
          cases a0
          exact a1 _ () [] trivial (by simp [q])
         ·refine O.cF' (by simp) b3 ?_
          refine O.zG y fun K u=>?_
          iterate 2 (refine wC rfl fun K v=>?_;simp [q];apply v)
          apply wN;apply u
          cases a0
          exact a1 _ () [] trivial (by simp [q])
 rcases aA h with ⟨b4,h⟩ | ⟨b5,h⟩
 ·refine O.cT' (by simp) b4 ?_
  refine O.zR y fun K u=>?_
  refine wC rfl fun K v=>?_;simp [q];apply v
  apply wN;apply u
  cases h
  refine O.ret ?_
  simp [aC,iB,aOc]
 ·refine O.cF' (by simp) b5 ?_
  refine O.skip ?_
  refine O.zR y fun K u=>?_
  refine wC rfl fun K v=>?_;simp [q];apply v
  apply wN;apply u
  cases h
  refine O.ret ?_
  simp [aC,iB,aOc]
theorem res103:Tryz.f103.results.toList=[.tmp 2]:=rfl
theorem aLy:aE E.P 103:=eO Tryz.func103 (by simp [Tryz.f103]) rfl
theorem lR (a0:Int) {r0:Bool} (h:fF a0=some r0):Ok E 103 [.val (vi a0)] [vb r0] []:=by
 refine oB Tryz.func103 rfl (by simp [Tryz.f103]) fun C (q:C.N=5) hP=>?_
 have y:=aM hP
 unfold fF at h
 refine O.zR y fun K u=>?_
 refine wC rfl fun K v=>?_;simp [q];apply v
 apply wN;apply u
 refine O.zR y fun K u=>?_
 refine wC rfl fun K v=>?_;simp [q];apply v
 obtain ⟨r2,a1,h⟩:=bS h
 refine wL [(.take,.tmp 3),(.take,.const (.int .i64 1)),(.take,.const (.int .i64 12))] rfl rfl qE (aR _ _ _ a1) fun K v=>?_;simp [q];apply v
 refine wC rfl fun K v=>?_;simp [q];apply v
 apply wN;apply u
 cases h
 refine O.ret ?_
 simp [aC,iB,res103]
theorem res131:Tryz.f131.results.toList=[.tmp 2]:=rfl
theorem ent131:aE E.P 131:=eO Tryz.func131 (by simp [Tryz.f131]) rfl
theorem rW (a0:Int) {r0:Bool} (h:eS a0=some r0):Ok E 131 [.val (vi a0)] [vb r0] []:=by
 refine oB Tryz.func131 rfl (by simp [Tryz.f131]) fun C (q:C.N=5) hP=>?_
 have y:=aM hP
 unfold eS at h
 refine O.zR y fun K u=>?_
 refine wC rfl fun K v=>?_;simp [q];apply v
 apply wN;apply u
 refine O.zR y fun K u=>?_
 refine wC rfl fun K v=>?_;simp [q];apply v
 obtain ⟨r2,a1,h⟩:=bS h
 refine wL [(.take,.tmp 3),(.take,.const (.int .i64 13)),(.take,.const (.int .i64 19))] rfl rfl qE (aR _ _ _ a1) fun K v=>?_;simp [q];apply v
 refine wC rfl fun K v=>?_;simp [q];apply v
 apply wN;apply u
 cases h
 refine O.ret ?_
 simp [aC,iB,res131]
theorem aEv:Tryz.f118.results.toList=[.tmp 6]:=rfl
theorem ent118:aE E.P 118:=eO Tryz.func118 (by simp [Tryz.f118]) rfl
theorem yY (a0:Int) (a3:Int) (a1:Int) {r0:Bool} (h:kT a0 a3 a1=some r0):Ok E 118 [.val (vi a0),.val (vi a3),.val (vi a1)] [vb r0] []:=by
 refine oB Tryz.func118 rfl (by simp [Tryz.f118]) fun C (q:C.N=25) hP=>?_
 have y:=aM hP
 unfold kT at h
 refine O.zR y fun K u=>?_
 refine wC rfl fun K v=>?_;simp [q];apply v
 apply wN;apply u
 refine O.seq ?_
 refine O.zR y fun K u=>?_
 refine wC rfl fun K v=>?_;simp [q];apply v
 apply wN;apply u
 refine O.block ?_
 refine O.zR y fun K u=>?_
 iterate 2 (refine wC rfl fun K v=>?_;simp [q];apply v)
 apply wN;apply u
 rcases aA h with ⟨b5,h⟩ | ⟨b6,h⟩
 ·refine O.cT' (by simp) b5 ?_
  refine O.zR y fun K u=>?_
  refine wC rfl fun K v=>?_;simp [q];apply v
  obtain ⟨r6,b7,h⟩:=bS h
  refine wL [(.take,.tmp 10)] rfl rfl ent131 (rW _ b7) fun K v=>?_;simp [q];apply v
  refine wC rfl fun K v=>?_;simp [q];apply v
  apply wN;apply u
  cases h
  refine O.ret ?_
  simp [aC,iB,aEv]
 ·refine O.cF' (by simp) b6 ?_
  obtain ⟨b8,a2,h⟩:=bS h
  refine O.seqC [1,2,7,12] [] (fun _:Unit=>⟨[(1,.t (vi a3)),(2,.t (vi a1)),(7,.t (vi a0)),(12,.t (vb b8))],[]⟩) (fun _=>True) (fun _ _=>?_) fun K9 b4=>?_
  rotate_left
  ·refine O.zR y fun K u=>?_
   iterate 2 (refine wC rfl fun K v=>?_;simp [q];apply v)
   apply wN;apply u
   rcases aA a2 with ⟨a4,a2⟩ | ⟨a5,a2⟩
   ·refine O.cT' (by simp) a4 ?_
    refine O.skip ?_
    cases a2
    exact b4 _ () [] trivial (by simp [q])
   ·refine O.cF' (by simp) a5 ?_
    refine O.zG y fun K u=>?_
    iterate 2 (refine wC rfl fun K v=>?_;simp [q];apply v)
    apply wN;apply u
    cases a2
    exact b4 _ () [] trivial (by simp [q])
  rcases aA h with ⟨a6,h⟩ | ⟨a7,h⟩
  ·refine O.cT' (by simp) a6 ?_
   refine O.zR y fun K u=>?_
   iterate 2 (refine wC rfl fun K v=>?_;simp [q];apply v)
   apply wN;apply u
   rcases aA h with ⟨a8,h⟩ | ⟨a9,h⟩
   ·refine O.cT' (by simp) a8 ?_
    refine O.zR y fun K u=>?_
    iterate 3 (refine wC rfl fun K v=>?_;simp [q];apply v)
    apply wN;apply u
    cases h
    refine O.ret ?_
    simp [aC,iB,aEv]
   ·refine O.cF' (by simp) a9 ?_
    refine O.skip ?_
    refine O.zR y fun K u=>?_
    refine wC rfl fun K v=>?_;simp [q];apply v
    obtain ⟨b9,b0,h⟩:=bS h
    refine wL [(.take,.tmp 23)] rfl rfl aLy (lR _ b0) fun K v=>?_;simp [q];apply v
    refine wC rfl fun K v=>?_;simp [q];apply v
    apply wN;apply u
    cases h
    refine O.ret ?_
    simp [aC,iB,aEv]
  ·refine O.cF' (by simp) a7 ?_
   refine O.zR y fun K u=>?_
   iterate 2 (refine wC rfl fun K v=>?_;simp [q];apply v)
   apply wN;apply u
   rcases aA h with ⟨b1,h⟩ | ⟨b2,h⟩
   ·refine O.cT' (by simp) b1 ?_
    refine O.zR y fun K u=>?_
    iterate 3 (refine wC rfl fun K v=>?_;simp [q];apply v)
    apply wN;apply u
    cases h
    refine O.ret ?_
    simp [aC,iB,aEv]
   ·refine O.cF' (by simp) b2 ?_
    refine O.skip ?_
    refine O.zR y fun K u=>?_
    refine wC rfl fun K v=>?_;simp [q];apply v
    obtain ⟨c0,b3,h⟩:=bS h
    refine wL [(.take,.tmp 23)] rfl rfl aLy (lR _ b3) fun K v=>?_;simp [q];apply v
    refine wC rfl fun K v=>?_;simp [q];apply v
    apply wN;apply u
    cases h
    refine O.ret ?_
    simp [aC,iB,aEv]
theorem aC8:Tryz.f101.results.toList=[.tmp 4]:=rfl
theorem ent101:aE E.P 101:=eO Tryz.func101 (by simp [Tryz.f101]) rfl
theorem aB1 (a4:List GNode) (k2:Int) {r0:Bool} (h:mK a4 k2=some r0):Ok E 101 [.val (.sl false 4 (List.map (GNode.enc false) a4)),.val (vi k2)] [vb r0] []:=by
 refine oB Tryz.func101 rfl (by simp [Tryz.f101]) fun C (q:C.N=124) hP=>?_
 have u:=aM hP
 unfold mK at h
 refine O.zR u fun K w=>?_
 refine wC rfl fun K r=>?_;simp [q];apply r
 apply wN;apply w
 refine O.seq ?_
 obtain ⟨l5,d4,h⟩:=bS h
 refine O.seqRC rfl (u _ rfl) [0,1,24] [] (fun _:Unit=>⟨[(0,.t (.sl false 4 (List.map (GNode.enc false) a4))),(1,.t (vi k2)),(24,.t (vb l5))],[]⟩) (fun _=>True) (fun _ _=>?_) fun K4 l2=>?_
 rotate_left
 ·refine wC rfl fun K r=>?_;simp [q];apply r
  iterate 3 (refine wC rfl fun K r=>?_;simp [q];apply r)
  obtain ⟨r5,l6,d4⟩:=bS d4
  refine wL [(.take,.tmp 10),(.take,.const (.int .i64 0)),(.take,.tmp 13)] rfl rfl qE (aR _ _ _ l6) fun K r=>?_;simp [q];apply r
  iterate 2 (refine wC rfl fun K r=>?_;simp [q];apply r)
  rcases aA d4 with ⟨i1,d4⟩ | ⟨h1,d4⟩
  ·have e5:=i1
   try simp at e5
   iterate 7 (refine wO fun K r=>?_;simp [q,i1,e5];apply r)
   refine wC rfl fun K r=>?_;simp [q,i1,e5];apply r
   refine wN ?_
   cases d4
   exact l2 _ () [] trivial (by simp [q,i1,e5])
  ·have d1:=h1
   try simp at d1
   iterate 2 (refine wC rfl fun K r=>?_;simp [q,h1,d1];apply r)
   obtain ⟨e9,l7,d4⟩:=bS d4
   obtain ⟨e6,e7,e8,g0⟩:=gS l7
   iterate 3 (refine wC rfl fun K r=>?_;simp [q,h1,d1,e6,e7,e8,g0];apply r)
   obtain ⟨n0,i2,d4⟩:=bS d4
   refine wL [(.take,.tmp 21),(.take,.const (.int .i64 1)),(.take,.const (.int .i64 20))] rfl rfl qE (aR _ _ _ i2) fun K r=>?_;simp [q,h1,d1,e6,e7,e8,g0];apply r
   iterate 2 (refine wC rfl fun K r=>?_;simp [q,h1,d1,e6,e7,e8,g0];apply r)
   refine wN ?_
   cases d4
   exact l2 _ () [] trivial (by simp [q,h1,d1,e6,e7,e8,g0])
 rcases aA h with ⟨i3,h⟩ | ⟨i4,h⟩
 ·refine O.cT' (by simp) i3 ?_
  refine O.zR u fun K w=>?_
  refine wC rfl fun K r=>?_;simp [q];apply r
  apply wN;apply w
  cases h
  refine O.ret ?_
  simp [aC,iB,aC8]
 ·refine O.cF' (by simp) i4 ?_
  refine O.skip ?_
  refine O.zR u fun K w=>?_
  iterate 2 (refine wC rfl fun K r=>?_;simp [q];apply r)
  obtain ⟨a6,i5,h⟩:=bS h
  obtain ⟨h4,h5,h6,h7⟩:=gS i5
  iterate 4 (refine wC rfl fun K r=>?_;simp [q,h4,h5,h6,h7];apply r)
  apply wN;apply w
  refine O.zR u fun K w=>?_
  iterate 2 (refine wC rfl fun K r=>?_;simp [q];apply r)
  obtain ⟨⟨n1,n2⟩,i6,h⟩:=bS h
  try dsimp only at h
  refine wL [(.take,.tmp 31)] rfl rfl ent116 (yW _ i6) fun K r=>?_;simp [q];apply r
  iterate 5 (refine wC rfl fun K r=>?_;simp [q];apply r)
  apply wN;apply w
  refine O.seq ?_
  obtain ⟨l8,a7,h⟩:=bS h
  refine O.seqRC rfl (u _ rfl) [0,1,5,57] [5] (fun _:Unit=>⟨[(0,.t (.sl false 4 (List.map (GNode.enc false) a4))),(1,.t (vi k2)),(5,.ref (.box 5) 0 []),(57,.t (vb l8))],[(5,[vi a6.Kind,vi a6.Num,vs a6.Name,.sl false 1 (List.map vi a6.Kids)])]⟩) (fun _=>True) (fun _ _=>?_) fun n3 g1=>?_
  rotate_left
  ·refine wC rfl fun K r=>?_;simp [q];apply r
   iterate 4 (refine wC rfl fun K r=>?_;simp [q];apply r)
   obtain ⟨n4,i7,a7⟩:=bS a7
   refine wL [(.take,.tmp 37),(.take,.tmp 38),(.take,.tmp 39)] rfl rfl qE (aR _ _ _ i7) fun K r=>?_;simp [q];apply r
   iterate 2 (refine wC rfl fun K r=>?_;simp [q];apply r)
   rcases aA a7 with ⟨d2,a7⟩ | ⟨b0,a7⟩
   ·have c0:=d2
    try simp at c0
    iterate 4 (refine wO fun K r=>?_;simp [q,d2,c0];apply r)
    iterate 2 (refine wC rfl fun K r=>?_;simp [q,d2,c0];apply r)
    iterate 8 (refine wO fun K r=>?_;simp [q,d2,c0];apply r)
    refine wC rfl fun K r=>?_;simp [q,d2,c0];apply r
    refine wN ?_
    cases a7
    exact g1 _ () [] trivial (by simp [q,d2,c0])
   ·have a5:=b0
    try simp at a5
    iterate 2 (refine wC rfl fun K r=>?_;simp [q,b0,a5];apply r)
    obtain ⟨n5,i8,a7⟩:=bS a7
    refine wL [(.take,.tmp 44),(.take,.const (.int .i64 0)),(.take,.const (.int .i64 1000000000))] rfl rfl qE (aR _ _ _ i8) fun K r=>?_;simp [q,b0,a5];apply r
    iterate 3 (refine wC rfl fun K r=>?_;simp [q,b0,a5];apply r)
    rcases aA a7 with ⟨g2,a7⟩ | ⟨c4,a7⟩
    ·have c6:=g2
     try simp at c6
     iterate 8 (refine wO fun K r=>?_;simp [q,b0,a5,g2,c6];apply r)
     refine wC rfl fun K r=>?_;simp [q,b0,a5,g2,c6];apply r
     refine wN ?_
     cases a7
     exact g1 _ () [] trivial (by simp [q,b0,a5,g2,c6])
    ·have b4:=c4
     try simp at b4
     iterate 4 (refine wC rfl fun K r=>?_;simp [q,b0,a5,c4,b4];apply r)
     rcases aA a7 with ⟨g8,a7⟩ | ⟨g3,a7⟩
     ·have d5:=g8
      try simp at d5
      iterate 5 (refine wC rfl fun K r=>?_;simp [q,b0,a5,c4,b4,g8,d5];apply r)
      refine wN ?_
      cases a7
      exact g1 _ () [] trivial (by simp [q,b0,a5,c4,b4,g8,d5])
     ·have c7:=g3
      try simp at c7
      iterate 3 (refine wO fun K r=>?_;simp [q,b0,a5,c4,b4,g3,c7];apply r)
      iterate 2 (refine wC rfl fun K r=>?_;simp [q,b0,a5,c4,b4,g3,c7];apply r)
      refine wN ?_
      cases a7
      exact g1 _ () [] trivial (by simp [q,b0,a5,c4,b4,g3,c7])
  rcases aA h with ⟨i9,h⟩ | ⟨j0,h⟩
  ·refine O.cT' (by simp) i9 ?_
   refine O.zR u fun K w=>?_
   refine wC rfl fun K r=>?_;simp [q];apply r
   apply wN;apply w
   cases h
   refine O.ret ?_
   simp [aC,iB,aC8]
  ·refine O.cF' (by simp) j0 ?_
   refine O.skip ?_
   refine O.seq ?_
   obtain ⟨l9,b1,h⟩:=bS h
   refine O.seqC [0,1,5,75] [5] (fun _:Unit=>⟨[(0,.t (.sl false 4 (List.map (GNode.enc false) a4))),(1,.t (vi k2)),(5,.ref (.box 5) 0 []),(75,.t (vb l9))],[(5,[vi a6.Kind,vi a6.Num,vs a6.Name,.sl false 1 (List.map vi a6.Kids)])]⟩) (fun _=>True) (fun _ _=>?_) fun n6 g9=>?_
   rotate_left
   ·obtain ⟨m0,j1,b1⟩:=bS b1
    refine O.dT rfl (u _ rfl) [(58,.ref (.box 5) 0 []),(59,.t (vi a6.Kind)),(60,.t (vb m0)),(61,.ref (.box 5) 2 []),(62,.t (vs a6.Name)),(63,.t (vb (!(sEq a6.Name (⟨#[]⟩:ByteArray)))))] [[],[0],[0,1],[],[3],[3,4],[0,1,2,3,4,5],[0,1,2,3,4,5,6],[0,1,2,3,4,5,6,7],[0,1,2,3,4,5,6,7,8],[0,1,2,3,4,5,6,7,8,9],[0,1,2,3,4,5,6,7,8,9,10],[0,1,2,3,4,5,6,7,8,9,10,11],[0,1,2,3,4,5,6,7,8,9,10,11,12],[0,1,2,3,4,5,6,7,8,9,10,11,12,13],[0,1,2,3,4,5,6,7,8,9,10,11,12,13,14],[0,1,2,3,4,5,6,7,8,9,10,11,12,13,14,15],[0,1,2,3,4,5,6,7,8,9,10,11,12,13,14,15,16]] (by simp) (by simp) (by simp [look]) rfl rfl rfl ?_ fun K w=>?_
    ·refine ⟨?_,?_,?_,?_,?_,?_,trivial⟩
     all_goals (intro τ hbx hb hd hf K w;try simp [aI] at hd;simp [aI] at hf;first | (refine wC rfl fun K' z=>?_;simp [q,hbx,hb,hd,hf];exact z _ (wN (w _ (by simp [aI,hbx])))) | (refine wL [(.take,.tmp 59)] rfl rfl ent117 (wZ _ j1) fun K' z=>?_;simp [q,hbx,hb,hd,hf];exact z _ (wN (w _ (by simp [aI,hbx])))))
    iterate 2 (refine wC rfl fun K r=>?_;simp [q];apply r)
    rcases aA b1 with ⟨g4,b1⟩ | ⟨c1,b1⟩
    ·have c8:=g4
     try simp at c8
     iterate 9 (refine wO fun K r=>?_;simp [q,g4,c8];apply r)
     refine wC rfl fun K r=>?_;simp [q,g4,c8];apply r
     apply wN;apply w
     cases b1
     exact g9 _ () [] trivial (by simp [q,g4,c8])
    ·have a9:=c1
     try simp at a9
     iterate 4 (refine wC rfl fun K r=>?_;simp [q,c1,a9];apply r)
     rcases aA b1 with ⟨d6,b1⟩ | ⟨g5,b1⟩
     ·have c2:=d6
      try simp at c2
      iterate 2 (refine wC rfl fun K r=>?_;simp [q,c1,a9,d6,c2];apply r)
      obtain ⟨n7,j2,b1⟩:=bS b1
      refine wL [(.take,.tmp 71)] rfl rfl aLz (nV _ j2) fun K r=>?_;simp [q,c1,a9,d6,c2];apply r
      iterate 3 (refine wC rfl fun K r=>?_;simp [q,c1,a9,d6,c2];apply r)
      apply wN;apply w
      cases b1
      exact g9 _ () [] trivial (by simp [q,c1,a9,d6,c2])
     ·have c9:=g5
      try simp at c9
      iterate 4 (refine wO fun K r=>?_;simp [q,c1,a9,g5,c9];apply r)
      iterate 2 (refine wC rfl fun K r=>?_;simp [q,c1,a9,g5,c9];apply r)
      apply wN;apply w
      cases b1
      exact g9 _ () [] trivial (by simp [q,c1,a9,g5,c9])
   rcases aA h with ⟨j3,h⟩ | ⟨j4,h⟩
   ·refine O.cT' (by simp) j3 ?_
    refine O.zR u fun K w=>?_
    refine wC rfl fun K r=>?_;simp [q];apply r
    apply wN;apply w
    cases h
    refine O.ret ?_
    simp [aC,iB,aC8]
   ·refine O.cF' (by simp) j4 ?_
    refine O.skip ?_
    obtain ⟨m1,j5,h⟩:=bS h
    refine O.seqC [] [] (fun v:Unit=>⟨[],[]⟩) (fun v=>m1=Sum.inl v) (fun v hv=>?_) fun n8 j6=>?_
    rotate_left
    ·refine O.zR u fun K w=>?_
     refine wC rfl fun K r=>?_;simp [q];apply r
     apply wN;apply w
     refine O.block ?_
     refine O.loopO [] [0,1,5,8] [5] (fun v:Int=>⟨[(0,.t (.sl false 4 (List.map (GNode.enc false) a4))),(1,.t (vi k2)),(5,.ref (.box 5) 0 []),(8,.t (vi v))],[(5,[vi a6.Kind,vi a6.Num,vs a6.Name,.sl false 1 (List.map vi a6.Kids)])]⟩) (fQ a4 k2 a6) _ 0 j5 (by simp [q]) ?_
     intro g n9 d3 h0
     obtain ⟨g6,hg⟩:∃ y,y=g:=⟨_,rfl⟩
     subst hg
     simp only [fQ] at d3
     try dsimp only
     refine O.seq ?_
     refine O.zR u fun K w=>?_
     iterate 5 (refine wC rfl fun K r=>?_;simp [q];apply r)
     apply wN;apply w
     rcases aA d3 with ⟨j7,d3⟩ | ⟨j8,d3⟩
     ·refine O.cT' (by simp) j7 ?_
      refine O.skip ?_
      obtain ⟨m2,c5,d3⟩:=bS d3
      refine O.seqC [0,1,5,8] [5] (fun v:Unit=>⟨[(0,.t (.sl false 4 (List.map (GNode.enc false) a4))),(1,.t (vi k2)),(5,.ref (.box 5) 0 []),(8,.t (vi g6))],[(5,[vi a6.Kind,vi a6.Num,vs a6.Name,.sl false 1 (List.map vi a6.Kids)])]⟩) (fun v=>m2=Sum.inl v) (fun v hv=>?_) fun o0 j9=>?_
      rotate_left
      ·refine O.block ?_
       refine O.seq ?_
       obtain ⟨m3,b2,c5⟩:=bS c5
       refine O.seqC [0,1,5,8,107] [5] (fun _:Unit=>⟨[(0,.t (.sl false 4 (List.map (GNode.enc false) a4))),(1,.t (vi k2)),(5,.ref (.box 5) 0 []),(8,.t (vi g6)),(107,.t (vb m3))],[(5,[vi a6.Kind,vi a6.Num,vs a6.Name,.sl false 1 (List.map vi a6.Kids)])]⟩) (fun _=>True) (fun _ _=>?_) fun o1 h8=>?_
       rotate_left
       ·obtain ⟨h2,k0,b2⟩:=bS b2
        obtain ⟨a0,a1,a2,a3⟩:=gS k0
        obtain ⟨h3,h9,b2⟩:=bS b2
        rcases aA b2 with ⟨b9,b2⟩ | ⟨c3,b2⟩
        ·have a8:=b9
         try simp at a8
         refine O.dT rfl (u _ rfl) [(83,.ref (.box 5) 3 []),(84,.t (.sl false 1 (List.map vi a6.Kids))),(85,.t (vi g6)),(86,.rop [vi h2] 0),(87,.t (vi h2)),(88,.t (vi k2)),(89,.t (vi (IntKind.wrap .i64 (k2 - 1)))),(90,.t (vb h3)),(91,.t (vb (!h3))),(92,.t (vb (!h3))),(93,.tup []),(94,.tup []),(95,.tup []),(96,.tup []),(97,.tup []),(98,.tup []),(99,.tup []),(100,.tup []),(101,.tup []),(102,.tup []),(103,.tup []),(104,.tup [])] [[],[0],[],[0,1,2],[0,1,2,3],[],[5],[0,1,2,3,4,5,6],[0,1,2,3,4,5,6,7],[0,1,2,3,4,5,6,7,8],[0,1,2,3,4,5,6,7,8,9],[0,1,2,3,4,5,6,7,8,9,10],[0,1,2,3,4,5,6,7,8,9],[0,1,2,3,4,5,6,7,8,9],[0,1,2,3,4,5,6,7,8,9],[0,1,2,3,4,5,6,7,8,9,14],[0,1,2,3,4,5,6,7,8,9],[0,1,2,3,4,5,6,7,8,9,14,15,16],[0,1,2,3,4,5,6,7,8,9,14,15,16,17],[0,1,2,3,4,5,6,7,8,9,13,14,15,16,17,18],[0,1,2,3,4,5,6,7,8,9,13,14,15,16,17,18,19],[0,1,2,3,4,5,6,7,8,9,13,14,15,16,17,18,19,20],[0,1,2,3,4,5,6,7,8,9,10,11,12,13,14,15,16,17,18,19,20,21],[0,1,2,3,4,5,6,7,8,9,10,11,12,13,14,15,16,17,18,19,20,21,22],[0,1,2,3,4,5,6,7,8,9,10,11,12,13,14,15,16,17,18,19,20,21,22,23]] (by simp) (by simp) (by simp [look]) rfl rfl rfl ?_ fun K w=>?_
         ·refine ⟨?_,?_,?_,?_,?_,?_,?_,?_,?_,?_,?_,?_,?_,?_,?_,?_,?_,?_,?_,?_,?_,?_,trivial⟩
          all_goals (intro τ hbx hb hd hf K w;try simp [aI] at hd;simp [aI] at hf;first | (refine wC rfl fun K' z=>?_;simp [q,hbx,hb,hd,hf,a0,a1,a2,a3,b9,a8];exact z _ (wN (w _ (by simp [aI,hbx,a0,a1,a2,a3,b9,a8])))) | (refine wL [(.take,.tmp 87),(.take,.const (.int .i64 0)),(.take,.tmp 89)] rfl rfl qE (aR _ _ _ h9) fun K' z=>?_;simp [q,hbx,hb,hd,hf,a0,a1,a2,a3,b9,a8];exact z _ (wN (w _ (by simp [aI,hbx,a0,a1,a2,a3,b9,a8])))) | (refine wO fun K' z=>?_;simp [q,hbx,hb,hd,hf,a0,a1,a2,a3,b9,a8];exact z _ (wN (w _ (by simp [aI,hbx,a0,a1,a2,a3,b9,a8])))))
         iterate 2 (refine wO fun K r=>?_;simp [q,a0,a1,a2,a3,b9,a8];apply r)
         refine wC rfl fun K r=>?_;simp [q,a0,a1,a2,a3,b9,a8];apply r
         apply wN;apply w
         cases b2
         exact h8 _ () [] trivial (by simp [q,a0,a1,a2,a3,b9,a8])
        ·have b3:=c3
         try simp at b3
         obtain ⟨g7,k1,b2⟩:=bS b2
         obtain ⟨b5,b6,b7,b8⟩:=gS k1
         refine O.dT rfl (u _ rfl) [(83,.ref (.box 5) 3 []),(84,.t (.sl false 1 (List.map vi a6.Kids))),(85,.t (vi g6)),(86,.rop [vi h2] 0),(87,.t (vi h2)),(88,.t (vi k2)),(89,.t (vi (IntKind.wrap .i64 (k2 - 1)))),(90,.t (vb h3)),(91,.t (vb (!h3))),(92,.t (vb (!h3))),(93,.ref (.box 5) 0 []),(94,.t (vi a6.Kind)),(95,.t (vi g6)),(96,.t (.sl false 4 (List.map (GNode.enc false) a4))),(97,.ref (.box 5) 3 []),(98,.t (.sl false 1 (List.map vi a6.Kids))),(99,.t (vi g6)),(100,.rop [vi h2] 0),(101,.t (vi h2)),(102,.rop [vi g7.Kind,vi g7.Num,vs g7.Name,.sl false 1 (List.map vi g7.Kids)] 0),(103,.rop [vi g7.Kind,vi g7.Num,vs g7.Name,.sl false 1 (List.map vi g7.Kids)] 0),(104,.t (vi g7.Kind))] [[],[0],[],[0,1,2],[0,1,2,3],[],[5],[0,1,2,3,4,5,6],[0,1,2,3,4,5,6,7],[0,1,2,3,4,5,6,7,8],[0,1,2,3,4,5,6,7,8,9],[0,1,2,3,4,5,6,7,8,9,10],[0,1,2,3,4,5,6,7,8,9],[0,1,2,3,4,5,6,7,8,9],[0,1,2,3,4,5,6,7,8,9],[0,1,2,3,4,5,6,7,8,9,14],[0,1,2,3,4,5,6,7,8,9],[0,1,2,3,4,5,6,7,8,9,14,15,16],[0,1,2,3,4,5,6,7,8,9,14,15,16,17],[0,1,2,3,4,5,6,7,8,9,13,14,15,16,17,18],[0,1,2,3,4,5,6,7,8,9,13,14,15,16,17,18,19],[0,1,2,3,4,5,6,7,8,9,13,14,15,16,17,18,19,20],[0,1,2,3,4,5,6,7,8,9,10,11,12,13,14,15,16,17,18,19,20,21],[0,1,2,3,4,5,6,7,8,9,10,11,12,13,14,15,16,17,18,19,20,21,22],[0,1,2,3,4,5,6,7,8,9,10,11,12,13,14,15,16,17,18,19,20,21,22,23]] (by simp) (by simp) (by simp [look]) rfl rfl rfl ?_ fun K w=>?_
         ·refine ⟨?_,?_,?_,?_,?_,?_,?_,?_,?_,?_,?_,?_,?_,?_,?_,?_,?_,?_,?_,?_,?_,?_,trivial⟩
          all_goals (intro τ hbx hb hd hf K w;try simp [aI] at hd;simp [aI] at hf;first | (refine wC rfl fun K' z=>?_;simp [q,hbx,hb,hd,hf,a0,a1,a2,a3,c3,b3,b5,b6,b7,b8];exact z _ (wN (w _ (by simp [aI,hbx,a0,a1,a2,a3,c3,b3,b5,b6,b7,b8])))) | (refine wL [(.take,.tmp 87),(.take,.const (.int .i64 0)),(.take,.tmp 89)] rfl rfl qE (aR _ _ _ h9) fun K' z=>?_;simp [q,hbx,hb,hd,hf,a0,a1,a2,a3,c3,b3,b5,b6,b7,b8];exact z _ (wN (w _ (by simp [aI,hbx,a0,a1,a2,a3,c3,b3,b5,b6,b7,b8])))))
         obtain ⟨o2,k3,b2⟩:=bS b2
         refine wL [(.take,.tmp 94),(.take,.tmp 95),(.take,.tmp 104)] rfl rfl ent118 (yY _ _ _ k3) fun K r=>?_;simp [q,a0,a1,a2,a3,c3,b3,b5,b6,b7,b8];apply r
         iterate 2 (refine wC rfl fun K r=>?_;simp [q,a0,a1,a2,a3,c3,b3,b5,b6,b7,b8];apply r)
         apply wN;apply w
         cases b2
         exact h8 _ () [] trivial (by simp [q,a0,a1,a2,a3,c3,b3,b5,b6,b7,b8])
       rcases aA c5 with ⟨k4,c5⟩ | ⟨k5,c5⟩
       ·refine O.cT' (by simp) k4 ?_
        refine O.zR u fun K w=>?_
        refine wC rfl fun K r=>?_;simp [q];apply r
        apply wN;apply w
        cases c5
        try dsimp only at d3
        have m4:=congrArg some (h0 _ (Option.some.inj d3).symm)
        cases m4
        try dsimp only at h
        cases h
        refine O.ret ?_
        simp [aC,iB,aC8]
       ·refine O.cF' (by simp) k5 ?_
        refine O.skip ?_
        refine O.zR u fun K w=>?_
        refine wC rfl fun K r=>?_;simp [q];apply r
        apply wN;apply w
        refine O.block ?_
        refine O.loopO [] [0,1,5,8,9] [5] (fun v:Int=>⟨[(0,.t (.sl false 4 (List.map (GNode.enc false) a4))),(1,.t (vi k2)),(5,.ref (.box 5) 0 []),(8,.t (vi g6)),(9,.t (vi v))],[(5,[vi a6.Kind,vi a6.Num,vs a6.Name,.sl false 1 (List.map vi a6.Kids)])]⟩) (fP a6 g6) _ 0 c5 (by simp [q]) ?_
        intro g o3 d0 i0
        obtain ⟨m5,hg⟩:∃ y,y=g:=⟨_,rfl⟩
        subst hg
        simp only [fP] at d0
        try dsimp only
        refine O.seq ?_
        refine O.zR u fun K w=>?_
        iterate 3 (refine wC rfl fun K r=>?_;simp [q];apply r)
        apply wN;apply w
        rcases aA d0 with ⟨k6,d0⟩ | ⟨k7,d0⟩
        ·refine O.cT' (by simp) k6 ?_
         refine O.skip ?_
         refine O.seq ?_
         refine O.block ?_
         refine O.seq ?_
         obtain ⟨l3,k8,d0⟩:=bS d0
         obtain ⟨d7,d8,d9,e0⟩:=gS k8
         obtain ⟨l4,k9,d0⟩:=bS d0
         obtain ⟨e1,e2,e3,e4⟩:=gS k9
         refine O.dT rfl (u _ rfl) [(113,.ref (.box 5) 3 []),(114,.t (.sl false 1 (List.map vi a6.Kids))),(115,.t (vi g6)),(116,.rop [vi l3] 0),(117,.t (vi l3)),(118,.ref (.box 5) 3 []),(119,.t (.sl false 1 (List.map vi a6.Kids))),(120,.t (vi m5)),(121,.rop [vi l4] 0),(122,.t (vi l4))] [[],[0],[],[0,1,2],[0,1,2,3],[],[5],[],[5,6,7],[5,6,7,8],[0,1,2,3,4,5,6,7,8,9]] (by simp) (by simp) (by simp [look]) rfl rfl rfl ?_ fun K w=>?_
         ·refine ⟨?_,?_,?_,?_,?_,?_,?_,?_,?_,?_,trivial⟩
          all_goals (intro τ hbx hb hd hf K w;try simp [aI] at hd;simp [aI] at hf;first | (refine wC rfl fun K' z=>?_;simp [q,hbx,hb,hd,hf,d7,d8,d9,e0,e1,e2,e3,e4];exact z _ (wN (w _ (by simp [aI,hbx,d7,d8,d9,e0,e1,e2,e3,e4])))))
         refine wC rfl fun K r=>?_;simp [q,d7,d8,d9,e0,e1,e2,e3,e4];apply r
         apply wN;apply w
         rcases aA d0 with ⟨l0,d0⟩ | ⟨l1,d0⟩
         ·refine O.cT' (by simp) l0 ?_
          refine O.zR u fun K w=>?_
          refine wC rfl fun K r=>?_;simp [q];apply r
          apply wN;apply w
          have m6:=congrArg some (i0 _ (Option.some.inj d0).symm)
          cases m6
          try dsimp only at d3
          have m7:=congrArg some (h0 _ (Option.some.inj d3).symm)
          cases m7
          try dsimp only at h
          cases h
          refine O.ret ?_
          simp [aC,iB,aC8]
         ·refine O.cF' (by simp) l1 ?_
          refine O.skip ?_
          refine O.zG u fun K w=>?_
          iterate 3 (refine wC rfl fun K r=>?_;simp [q];apply r)
          apply wN;apply w
          cases d0
          exact ⟨_,[],rfl,by simp [q]⟩
        ·refine O.cF' (by simp) k7 ?_
         refine O.exit ?_
         have m8:=congrArg some (i0 _ (Option.some.inj d0).symm)
         cases m8
         exact j9 _ _ [] rfl (by simp [q])
      subst hv
      obtain ⟨⟩:=v
      try dsimp only at d3 ⊢
      refine O.zG u fun K w=>?_
      iterate 3 (refine wC rfl fun K r=>?_;simp [q];apply r)
      apply wN;apply w
      cases d3
      exact ⟨_,[],rfl,by simp [q]⟩
     ·refine O.cF' (by simp) j8 ?_
      refine O.exit ?_
      have m9:=congrArg some (h0 _ (Option.some.inj d3).symm)
      cases m9
      exact j6 _ _ [] rfl (by simp [q])
    subst hv
    obtain ⟨⟩:=v
    try dsimp only at h ⊢
    refine O.zR u fun K w=>?_
    refine wC rfl fun K r=>?_;simp [q];apply r
    apply wN;apply w
    cases h
    refine O.ret ?_
    simp [aC,iB,aC8]
theorem res77:Tryz.f77.results.toList=[.tmp 4]:=rfl
theorem ent77:aE E.P 77:=eO Tryz.func77 (by simp [Tryz.f77]) rfl
theorem pW (a0:List GNode) (k2:Int) {r0:List Int} (h:gO a0 k2=some r0):Ok E 77 [.val (.sl false 4 (List.map (GNode.enc false) a0)),.val (vi k2)] [.sl true 1 (List.map vi r0)] []:=by
 refine oB Tryz.func77 rfl (by simp [Tryz.f77]) fun C (q:C.N=84) hP=>?_
 have y:=aM hP
 unfold gO at h
 refine O.zR y fun K u=>?_
 refine wC rfl fun K w=>?_;simp [q];apply w
 apply wN;apply u
 refine O.zR y fun K u=>?_
 iterate 2 (refine wC rfl fun K w=>?_;simp [q];apply w)
 apply wN;apply u
 obtain ⟨g8,l0,h⟩:=bS h
 refine O.seqC [5] [] (fun _:Unit=>⟨[(5,.t (.sl true 1 (List.map vi g8)))],[]⟩) (fun _=>True) (fun _ _=>?_) fun K4 l1=>?_
 rotate_left
 ·refine O.zR y fun K u=>?_
  refine wC rfl fun K w=>?_;simp [q];apply w
  apply wN;apply u
  refine O.block ?_
  refine O.loopO [] [0,1,5,6] [] (fun v:(List Int) × Int=>⟨[(0,.t (.sl false 4 (List.map (GNode.enc false) a0))),(1,.t (vi k2)),(5,.t (.sl true 1 (List.map vi v.1))),(6,.t (vi v.2))],[]⟩) (dW a0 k2) _ ([],0) l0 (by simp [q]) ?_
  intro g m0 h8 l2
  obtain ⟨a4,i7⟩:=g
  simp only [dW] at h8
  try dsimp only
  refine O.seq ?_
  obtain ⟨l3,b5,h8⟩:=bS h8
  refine O.seqRC rfl (y _ rfl) [0,1,5,6,18] [] (fun _:Unit=>⟨[(0,.t (.sl false 4 (List.map (GNode.enc false) a0))),(1,.t (vi k2)),(5,.t (.sl true 1 (List.map vi a4))),(6,.t (vi i7)),(18,.t (vb l3))],[]⟩) (fun _=>True) (fun _ _=>?_) fun m1 g9=>?_
  rotate_left
  ·refine wC rfl fun K w=>?_;simp [q];apply w
   iterate 3 (refine wC rfl fun K w=>?_;simp [q];apply w)
   rcases aA b5 with ⟨g4,b5⟩ | ⟨d2,b5⟩
   ·have b6:=g4
    try simp at b6
    iterate 5 (refine wC rfl fun K w=>?_;simp [q,g4,b6];apply w)
    refine wN ?_
    cases b5
    exact g9 _ () [] trivial (by simp [q,g4,b6])
   ·have a9:=d2
    try simp at a9
    iterate 4 (refine wO fun K w=>?_;simp [q,d2,a9];apply w)
    refine wC rfl fun K w=>?_;simp [q,d2,a9];apply w
    refine wN ?_
    cases b5
    exact g9 _ () [] trivial (by simp [q,d2,a9])
  rcases aA h8 with ⟨i4,h8⟩ | ⟨i5,h8⟩
  ·refine O.cT' (by simp) i4 ?_
   refine O.skip ?_
   obtain ⟨h0,a5,h8⟩:=bS h8
   refine O.seqC [0,1,5,6] [] (fun _:Unit=>⟨[(0,.t (.sl false 4 (List.map (GNode.enc false) a0))),(1,.t (vi k2)),(5,.t (.sl true 1 (List.map vi h0))),(6,.t (vi i7))],[]⟩) (fun _=>True) (fun _ _=>?_) fun m2 i6=>?_
   rotate_left
   ·refine O.block ?_
    refine O.zR y fun K u=>?_
    refine wC rfl fun K w=>?_;simp [q];apply w
    apply wN;apply u
    obtain ⟨b7,a7,a5⟩:=bS a5
    refine O.seqC [0,1,5,6,7] [] (fun _:Unit=>⟨[(0,.t (.sl false 4 (List.map (GNode.enc false) a0))),(1,.t (vi k2)),(5,.t (.sl true 1 (List.map vi a4))),(6,.t (vi i7)),(7,.t (vi b7))],[]⟩) (fun _=>True) (fun _ _=>?_) fun m3 h1=>?_
    rotate_left
    ·obtain ⟨l4,a1,a7⟩:=bS a7
     refine O.seqRC rfl (y _ rfl) [0,1,5,6,7,36] [] (fun _:Unit=>⟨[(0,.t (.sl false 4 (List.map (GNode.enc false) a0))),(1,.t (vi k2)),(5,.t (.sl true 1 (List.map vi a4))),(6,.t (vi i7)),(7,.t (vi 1)),(36,.t (vb l4))],[]⟩) (fun _=>True) (fun _ _=>?_) fun m4 g5=>?_
     rotate_left
     ·refine wC rfl fun K w=>?_;simp [q];apply w
      refine wC rfl fun K w=>?_;simp [q];apply w
      obtain ⟨m5,i8,a1⟩:=bS a1
      refine wL [(.take,.tmp 21),(.take,.tmp 22)] rfl rfl ent101 (aB1 _ _ i8) fun K w=>?_;simp [q];apply w
      iterate 2 (refine wC rfl fun K w=>?_;simp [q];apply w)
      rcases aA a1 with ⟨d3,a1⟩ | ⟨a6,a1⟩
      ·have b0:=d3
       try simp at b0
       iterate 10 (refine wO fun K w=>?_;simp [q,d3,b0];apply w)
       refine wC rfl fun K w=>?_;simp [q,d3,b0];apply w
       refine wN ?_
       cases a1
       exact g5 _ () [] trivial (by simp [q,d3,b0])
      ·have a2:=a6
       try simp at a2
       iterate 3 (refine wC rfl fun K w=>?_;simp [q,a6,a2];apply w)
       rcases aA a1 with ⟨d4,a1⟩ | ⟨d5,a1⟩
       ·have b1:=d4
        try simp at b1
        iterate 3 (refine wC rfl fun K w=>?_;simp [q,a6,a2,d4,b1];apply w)
        obtain ⟨m6,i9,a1⟩:=bS a1
        obtain ⟨d8,b8,b9,c0⟩:=gS i9
        have c1:=b8;try simp at c1
        try simp only [Int.toNat_natCast] at b9 c0
        iterate 5 (refine wC rfl fun K w=>?_;simp [q,a6,a2,d4,b1,d8,b8,b9,c0,c1];apply w)
        refine wN ?_
        cases a1
        exact g5 _ () [] trivial (by simp [q,a6,a2,d4,b1,d8,b8,b9,c0,c1])
       ·have b2:=d5
        try simp at b2
        iterate 6 (refine wO fun K w=>?_;simp [q,a6,a2,d5,b2];apply w)
        iterate 2 (refine wC rfl fun K w=>?_;simp [q,a6,a2,d5,b2];apply w)
        refine wN ?_
        cases a1
        exact g5 _ () [] trivial (by simp [q,a6,a2,d5,b2])
     rcases aA a7 with ⟨j0,a7⟩ | ⟨j1,a7⟩
     ·refine O.cT' (by simp) j0 ?_
      refine O.zG y fun K u=>?_
      refine wC rfl fun K w=>?_;simp [q];apply w
      apply wN;apply u
      cases a7
      exact h1 _ () [] trivial (by simp [q])
     ·refine O.cF' (by simp) j1 ?_
      refine O.skip ?_
      cases a7
      exact h1 _ () [] trivial (by simp [q])
    obtain ⟨g6,j2,a5⟩:=bS a5
    refine O.seqC [0,1,5,6,7] [] (fun _:Unit=>⟨[(0,.t (.sl false 4 (List.map (GNode.enc false) a0))),(1,.t (vi k2)),(5,.t (.sl true 1 (List.map vi a4))),(6,.t (vi i7)),(7,.t (vi g6))],[]⟩) (fun _=>True) (fun _ _=>?_) fun m7 j3=>?_
    rotate_left
    ·refine O.zR y fun K u=>?_
     refine wC rfl fun K w=>?_;simp [q];apply w
     apply wN;apply u
     refine O.block ?_
     refine O.loopO [] [0,1,5,6,7,8] [] (fun v:Int × Int=>⟨[(0,.t (.sl false 4 (List.map (GNode.enc false) a0))),(1,.t (vi k2)),(5,.t (.sl true 1 (List.map vi a4))),(6,.t (vi i7)),(7,.t (vi v.1)),(8,.t (vi v.2))],[]⟩) (bH a0 a4 i7) _ (b7,0) j2 (by simp [q]) ?_
     intro g m8 a3 j4
     obtain ⟨g7,l5⟩:=g
     simp only [bH] at a3
     try dsimp only
     refine O.seq ?_
     obtain ⟨l6,a8,a3⟩:=bS a3
     refine O.seqRC rfl (y _ rfl) [0,1,5,6,7,8,48] [] (fun _:Unit=>⟨[(0,.t (.sl false 4 (List.map (GNode.enc false) a0))),(1,.t (vi k2)),(5,.t (.sl true 1 (List.map vi a4))),(6,.t (vi i7)),(7,.t (vi g7)),(8,.t (vi l5)),(48,.t (vb l6))],[]⟩) (fun _=>True) (fun _ _=>?_) fun m9 h2=>?_
     rotate_left
     ·refine wC rfl fun K w=>?_;simp [q];apply w
      iterate 2 (refine wC rfl fun K w=>?_;simp [q];apply w)
      rcases aA a8 with ⟨d6,a8⟩ | ⟨d7,a8⟩
      ·have b3:=d6
       try simp at b3
       iterate 3 (refine wC rfl fun K w=>?_;simp [q,d6,b3];apply w)
       obtain ⟨n0,j5,a8⟩:=bS a8
       obtain ⟨d9,e0,e1,e2⟩:=gS j5
       iterate 6 (refine wC rfl fun K w=>?_;simp [q,d6,b3,d9,e0,e1,e2];apply w)
       refine wN ?_
       cases a8
       exact h2 _ () [] trivial (by simp [q,d6,b3,d9,e0,e1,e2])
      ·have b4:=d7
       try simp at b4
       iterate 8 (refine wO fun K w=>?_;simp [q,d7,b4];apply w)
       refine wC rfl fun K w=>?_;simp [q,d7,b4];apply w
       refine wN ?_
       cases a8
       exact h2 _ () [] trivial (by simp [q,d7,b4])
     rcases aA a3 with ⟨j6,a3⟩ | ⟨j7,a3⟩
     ·refine O.cT' (by simp) j6 ?_
      refine O.skip ?_
      refine O.seq ?_
      refine O.block ?_
      refine O.zR y fun K u=>?_
      iterate 3 (refine wC rfl fun K w=>?_;simp [q];apply w)
      obtain ⟨n1,j8,a3⟩:=bS a3
      obtain ⟨c2,c3,c4,c5⟩:=gS j8
      iterate 4 (refine wC rfl fun K w=>?_;simp [q,c2,c3,c4,c5];apply w)
      obtain ⟨n2,j9,a3⟩:=bS a3
      obtain ⟨e3,e4,e5,e6⟩:=gS j9
      iterate 2 (refine wC rfl fun K w=>?_;simp [q,c2,c3,c4,c5,e3,e4,e5,e6];apply w)
      obtain ⟨n3,k0,a3⟩:=bS a3
      obtain ⟨h3,h4,h5,h6⟩:=gS k0
      iterate 5 (refine wC rfl fun K w=>?_;simp [q,c2,c3,c4,c5,e3,e4,e5,e6,h3,h4,h5,h6];apply w)
      apply wN;apply u
      rcases aA a3 with ⟨k1,a3⟩ | ⟨k3,a3⟩
      ·refine O.cT' (by simp) k1 ?_
       refine O.zG y fun K u=>?_
       iterate 3 (refine wC rfl fun K w=>?_;simp [q];apply w)
       obtain ⟨n4,k4,a3⟩:=bS a3
       obtain ⟨c6,c7,c8,c9⟩:=gS k4
       iterate 4 (refine wC rfl fun K w=>?_;simp [q,c6,c7,c8,c9];apply w)
       obtain ⟨n5,k5,a3⟩:=bS a3
       obtain ⟨e7,e8,e9,g0⟩:=gS k5
       iterate 2 (refine wC rfl fun K w=>?_;simp [q,c6,c7,c8,c9,e7,e8,e9,g0];apply w)
       obtain ⟨n6,k6,a3⟩:=bS a3
       obtain ⟨h7,h9,i0,i1⟩:=gS k6
       iterate 4 (refine wC rfl fun K w=>?_;simp [q,c6,c7,c8,c9,e7,e8,e9,g0,h7,h9,i0,i1];apply w)
       apply wN;apply u
       refine O.zG y fun K u=>?_
       iterate 3 (refine wC rfl fun K w=>?_;simp [q];apply w)
       apply wN;apply u
       cases a3
       exact ⟨_,[],rfl,by simp [q]⟩
      ·refine O.cF' (by simp) k3 ?_
       refine O.skip ?_
       refine O.zG y fun K u=>?_
       iterate 3 (refine wC rfl fun K w=>?_;simp [q];apply w)
       apply wN;apply u
       cases a3
       exact ⟨_,[],rfl,by simp [q]⟩
     ·refine O.cF' (by simp) j7 ?_
      refine O.exit ?_
      have l7:=congrArg some (j4 _ (Option.some.inj a3).symm)
      cases l7
      exact j3 _ () [] trivial (by simp [q])
    obtain ⟨d0,d1,a5⟩:=bS a5
    refine O.seqC [0,1,5,6,7] [] (fun _:Unit=>⟨[(0,.t (.sl false 4 (List.map (GNode.enc false) a0))),(1,.t (vi k2)),(5,.t (.sl true 1 (List.map vi a4))),(6,.t (vi i7)),(7,.t (vi d0))],[]⟩) (fun _=>True) (fun _ _=>?_) fun n7 i2=>?_
    rotate_left
    ·refine O.zR y fun K u=>?_
     iterate 2 (refine wC rfl fun K w=>?_;simp [q];apply w)
     apply wN;apply u
     rcases aA d1 with ⟨k7,d1⟩ | ⟨k8,d1⟩
     ·refine O.cT' (by simp) k7 ?_
      refine O.zG y fun K u=>?_
      refine wC rfl fun K w=>?_;simp [q];apply w
      apply wN;apply u
      cases d1
      exact i2 _ () [] trivial (by simp [q])
     ·refine O.cF' (by simp) k8 ?_
      refine O.skip ?_
      cases d1
      exact i2 _ () [] trivial (by simp [q])
    refine O.zG y fun K u=>?_
    iterate 3 (refine wC rfl fun K w=>?_;simp [q];apply w)
    obtain ⟨l8,k9,a5⟩:=bS a5
    obtain ⟨g1,g2,i3⟩:=aS k9
    have g3:List.map vi a4 ++ List.map vi [d0]=List.map vi l8:=dU (f:=vi) i3
    simp [eSl] at g1 g2 g3
    iterate 2 (refine wC rfl fun K w=>?_;simp [q,g1,g2,g3];apply w)
    apply wN;apply u
    cases a5
    exact i6 _ () [] trivial (by simp [q])
   refine O.zG y fun K u=>?_
   iterate 3 (refine wC rfl fun K w=>?_;simp [q];apply w)
   apply wN;apply u
   cases h8
   exact ⟨_,[],rfl,by simp [q]⟩
  ·refine O.cF' (by simp) i5 ?_
   refine O.exit ?_
   have l9:=congrArg some (l2 _ (Option.some.inj h8).symm)
   cases l9
   exact l1 _ () [] trivial (by simp [q])
 refine O.zR y fun K u=>?_
 iterate 2 (refine wC rfl fun K w=>?_;simp [q];apply w)
 apply wN;apply u
 cases h
 refine O.ret ?_
 simp [aC,iB,res77]
theorem res78:Tryz.f78.results.toList=[.tmp 2]:=rfl
theorem ent78:aE E.P 78:=eO Tryz.func78 (by simp [Tryz.f78]) rfl
theorem yU (a0:List GNode) {r0:List Int} (h:kR a0=some r0):Ok E 78 [.val (.sl false 4 (List.map (GNode.enc false) a0))] [.sl true 1 (List.map vi r0)] []:=by
 refine oB Tryz.func78 rfl (by simp [Tryz.f78]) fun C (q:C.N=39) hP=>?_
 have y:=aM hP
 unfold kR at h
 refine O.zR y fun K u=>?_
 refine wC rfl fun K w=>?_;simp [q];apply w
 apply wN;apply u
 refine O.zR y fun K u=>?_
 iterate 2 (refine wC rfl fun K w=>?_;simp [q];apply w)
 obtain ⟨l2,e0,h⟩:=bS h
 obtain ⟨c3,c4,c5,c6⟩:=mS e0
 have b5:List.replicate (a0.length:Int).toNat (vi 0)=List.map vi l2:=sU (f:=vi) c6
 try simp only [Int.toNat_natCast] at b5
 iterate 2 (refine wC rfl fun K w=>?_;simp [q,c3,c4,c5,b5];apply w)
 apply wN;apply u
 obtain ⟨b6,e1,h⟩:=bS h
 refine O.seqC [3] [] (fun _:Unit=>⟨[(3,.t (.sl true 1 (List.map vi b6)))],[]⟩) (fun _=>True) (fun _ _=>?_) fun K4 e2=>?_
 rotate_left
 ·refine O.zR y fun K u=>?_
  refine wC rfl fun K w=>?_;simp [q];apply w
  apply wN;apply u
  refine O.block ?_
  refine O.loopO [] [0,3,4] [] (fun v:(List Int) × Int=>⟨[(0,.t (.sl false 4 (List.map (GNode.enc false) a0))),(3,.t (.sl true 1 (List.map vi v.1))),(4,.t (vi v.2))],[]⟩) (eR a0) _ (l2,0) e1 (by simp [q]) ?_
  intro g e9 h8 e3
  obtain ⟨c7,i7⟩:=g
  simp only [eR] at h8
  try dsimp only
  refine O.seq ?_
  refine O.zR y fun K u=>?_
  iterate 4 (refine wC rfl fun K w=>?_;simp [q];apply w)
  apply wN;apply u
  rcases aA h8 with ⟨c8,h8⟩ | ⟨c9,h8⟩
  ·refine O.cT' (by simp) c8 ?_
   refine O.skip ?_
   obtain ⟨b7,d0,h8⟩:=bS h8
   refine O.seqC [0,3,4] [] (fun _:Unit=>⟨[(0,.t (.sl false 4 (List.map (GNode.enc false) a0))),(3,.t (.sl true 1 (List.map vi b7))),(4,.t (vi i7))],[]⟩) (fun _=>True) (fun _ _=>?_) fun g0 d1=>?_
   rotate_left
   ·refine O.block ?_
    refine O.zR y fun K u=>?_
    refine wC rfl fun K w=>?_;simp [q];apply w
    apply wN;apply u
    refine O.block ?_
    refine O.loopO [] [0,3,4,5] [] (fun v:(List Int) × Int=>⟨[(0,.t (.sl false 4 (List.map (GNode.enc false) a0))),(3,.t (.sl true 1 (List.map vi v.1))),(4,.t (vi i7)),(5,.t (vi v.2))],[]⟩) (eQ a0 i7) _ (c7,0) d0 (by simp [q]) ?_
    intro g g1 a1 d2
    obtain ⟨b8,g2⟩:=g
    simp only [eQ] at a1
    try dsimp only
    refine O.seq ?_
    refine O.zR y fun K u=>?_
    iterate 3 (refine wC rfl fun K w=>?_;simp [q];apply w)
    obtain ⟨g3,d3,a1⟩:=bS a1
    obtain ⟨b9,c0,c1,c2⟩:=gS d3
    iterate 5 (refine wC rfl fun K w=>?_;simp [q,b9,c0,c1,c2];apply w)
    apply wN;apply u
    rcases aA a1 with ⟨d4,a1⟩ | ⟨d5,a1⟩
    ·refine O.cT' (by simp) d4 ?_
     refine O.skip ?_
     refine O.seq ?_
     refine O.block ?_
     refine O.zG y fun K u=>?_
     iterate 3 (refine wC rfl fun K w=>?_;simp [q];apply w)
     obtain ⟨g4,d6,a1⟩:=bS a1
     obtain ⟨a2,a3,a4,a5⟩:=gS d6
     iterate 4 (refine wC rfl fun K w=>?_;simp [q,a2,a3,a4,a5];apply w)
     obtain ⟨e4,d7,a1⟩:=bS a1
     obtain ⟨a6,a7,a8,a9⟩:=gS d7
     iterate 2 (refine wC rfl fun K w=>?_;simp [q,a2,a3,a4,a5,a6,a7,a8,a9];apply w)
     obtain ⟨e5,d8,a1⟩:=bS a1
     obtain ⟨b0,b1,b2,b3⟩:=gS d8
     iterate 4 (refine wC rfl fun K w=>?_;simp [q,a2,a3,a4,a5,a6,a7,a8,a9,b0,b1,b2,b3];apply w)
     obtain ⟨e6,d9,a1⟩:=bZ a1
     have b4:(List.map vi b8).set e4.toNat (vi (IntKind.wrap .i64 (e5 + 1)))=List.map vi e6:=bK (f:=vi) d9
     try simp only [Int.toNat_natCast] at b4
     refine wC rfl fun K w=>?_;simp [q,a2,a3,a4,a5,a6,a7,a8,a9,b0,b1,b2,b3,b4];apply w
     apply wN;apply u
     refine O.zG y fun K u=>?_
     iterate 3 (refine wC rfl fun K w=>?_;simp [q];apply w)
     apply wN;apply u
     cases a1
     exact ⟨_,[],rfl,by simp [q]⟩
    ·refine O.cF' (by simp) d5 ?_
     refine O.exit ?_
     have e7:=congrArg some (d2 _ (Option.some.inj a1).symm)
     cases e7
     exact d1 _ () [] trivial (by simp [q])
   refine O.zG y fun K u=>?_
   iterate 3 (refine wC rfl fun K w=>?_;simp [q];apply w)
   apply wN;apply u
   cases h8
   exact ⟨_,[],rfl,by simp [q]⟩
  ·refine O.cF' (by simp) c9 ?_
   refine O.exit ?_
   have e8:=congrArg some (e3 _ (Option.some.inj h8).symm)
   cases e8
   exact e2 _ () [] trivial (by simp [q])
 refine O.zR y fun K u=>?_
 iterate 2 (refine wC rfl fun K w=>?_;simp [q];apply w)
 apply wN;apply u
 cases h
 refine O.ret ?_
 simp [aC,iB,res78]
theorem res38:Tryz.f38.results.toList=[.tmp 4]:=rfl
theorem aPq:aE E.P 38:=eO Tryz.func38 (by simp [Tryz.f38]) rfl
theorem qO (p1:GProgram) (a0:ByteArray) {r0:Int} (h:oK p1 a0=some r0):Ok E 38 [.val (GProgram.enc false p1),.val (vs a0)] [vi r0] []:=by
 refine oB Tryz.func38 rfl (by simp [Tryz.f38]) fun C (q:C.N=22) hP=>?_
 have u:=aM hP
 unfold oK at h
 refine O.zR u fun K w=>?_
 iterate 2 (refine wC rfl fun K z=>?_;simp [q];apply z)
 apply wN;apply w
 obtain ⟨j5,b1,h⟩:=bS h
 refine O.seqC [] [] (fun v:Unit=>⟨[],[]⟩) (fun v=>j5=Sum.inl v) (fun v hv=>?_) fun K4 b2=>?_
 rotate_left
 ·refine O.zR u fun K w=>?_
  refine wC rfl fun K z=>?_;simp [q];apply z
  apply wN;apply w
  refine O.block ?_
  refine O.loopO [] [1,2,5] [2] (fun v:Int=>⟨[(1,.t (vs a0)),(2,.ref (.box 2) 0 []),(5,.t (vi v))],[(2,[.sl false 4 (List.map (GNode.enc false) p1.Nodes),.sl false 5 (List.map (GFn.enc false) p1.Fns)])]⟩) (qP p1 a0) _ 0 b1 (by simp [q]) ?_
  intro g s9 h7 b0
  obtain ⟨i6,hg⟩:∃ y,y=g:=⟨_,rfl⟩
  subst hg
  simp only [qP] at h7
  try dsimp only
  refine O.seq ?_
  refine O.zR u fun K w=>?_
  iterate 5 (refine wC rfl fun K z=>?_;simp [q];apply z)
  apply wN;apply w
  rcases aA h7 with ⟨a5,h7⟩ | ⟨a6,h7⟩
  ·refine O.cT' (by simp) a5 ?_
   refine O.skip ?_
   refine O.seq ?_
   refine O.block ?_
   refine O.zR u fun K w=>?_
   iterate 3 (refine wC rfl fun K z=>?_;simp [q];apply z)
   obtain ⟨b5,a7,h7⟩:=bS h7
   obtain ⟨a1,a2,a3,a4⟩:=gS a7
   iterate 5 (refine wC rfl fun K z=>?_;simp [q,a1,a2,a3,a4];apply z)
   apply wN;apply w
   rcases aA h7 with ⟨a8,h7⟩ | ⟨a9,h7⟩
   ·refine O.cT' (by simp) a8 ?_
    refine O.zR u fun K w=>?_
    iterate 2 (refine wC rfl fun K z=>?_;simp [q];apply z)
    apply wN;apply w
    have b3:=congrArg some (b0 _ (Option.some.inj h7).symm)
    cases b3
    try dsimp only at h
    cases h
    refine O.ret ?_
    simp [aC,iB,res38]
   ·refine O.cF' (by simp) a9 ?_
    refine O.skip ?_
    refine O.zG u fun K w=>?_
    iterate 3 (refine wC rfl fun K z=>?_;simp [q];apply z)
    apply wN;apply w
    cases h7
    exact ⟨_,[],rfl,by simp [q]⟩
  ·refine O.cF' (by simp) a6 ?_
   refine O.exit ?_
   have b4:=congrArg some (b0 _ (Option.some.inj h7).symm)
   cases b4
   exact b2 _ _ [] rfl (by simp [q])
 subst hv
 obtain ⟨⟩:=v
 try dsimp only at h ⊢
 refine O.zR u fun K w=>?_
 refine wC rfl fun K z=>?_;simp [q];apply z
 apply wN;apply w
 cases h
 refine O.ret ?_
 simp [aC,iB,res38]
end Go.Proofs.T
