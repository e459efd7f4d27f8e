import Derived.Test.YteibeahceppedaaGreatDoorOmC
import Derived.Lib.Split
import Derived.Lib.ItoaNum
import Derived.Test.YteibeahceppedaaGreatDoorProg
import Derived.KernelRfl
import Derived.Shelf.Strings.Search1
import Derived.Shelf.Strings.Search2
import Derived.Shelf.Strings.Search3
import Derived.Shelf.Strings.Count
import Derived.Shelf.LaysM
import Derived.Shelf.Strings.Shaped
import Derived.Shelf.Strings.Split
import Derived.Shelf.Unicode.DecodeSlow
set_option linter.unusedVariables false
set_option linter.unusedSimpArgs false
set_option linter.unusedVariables false
noncomputable section
namespace Go.OM
def strings_Split (s sep:ByteArray):Option (List ByteArray):=if s.size < 4294967281∧1 ≤ sep.size∧(Lib.splitB sep 0 (Lib.countB s sep) s).length=Lib.countB s sep + 1 then some (Lib.splitB sep 0 (Lib.countB s sep) s) else none
end Go.OM
end
set_option linter.unusedSimpArgs false
namespace Go.OM
def bV:Nat:=1048576
abbrev vi (n:Int):T:=.v (.int .i64 n)
abbrev vk (k:IntKind) (n:Int):T:=.v (.int k n)
abbrev vb (b:Bool):T:=.v (.bool b)
abbrev vs (z:ByteArray):T:=.v (.string z)
abbrev eSl {α:Type} (o:Bool) (s:Nat) (f:α→T) (l:List α):T:=.sl o s (l.map f)
@[simp] theorem own_vi (l:List Int):T.hasOwnL (l.map vi)=false:=cO vi (fun _=>rfl) l
@[simp] theorem own_vk (k:IntKind) (l:List Int):T.hasOwnL (l.map (vk k))=false:=cO _ (fun _=>rfl) l
@[simp] theorem own_vb (l:List Bool):T.hasOwnL (l.map vb)=false:=cO _ (fun _=>rfl) l
@[simp] theorem own_vs (l:List ByteArray):T.hasOwnL (l.map vs)=false:=cO _ (fun _=>rfl) l
@[simp] theorem ro_vi (l:List Int):T.roL (l.map vi)=l.map vi:=gT _ _ (fun _=>rfl) l
@[simp] theorem ro_vk (k:IntKind) (l:List Int):T.roL (l.map (vk k))=l.map (vk k):=gT _ _ (fun _=>rfl) l
@[simp] theorem ro_vb (l:List Bool):T.roL (l.map vb)=l.map vb:=gT _ _ (fun _=>rfl) l
@[simp] theorem ro_vs (l:List ByteArray):T.roL (l.map vs)=l.map vs:=gT _ _ (fun _=>rfl) l
@[simp] theorem noRo_vi (l:List Int):T.noRoL (l.map vi)=true:=eJ _ (fun _=>rfl) l
@[simp] theorem noRo_vk (k:IntKind) (l:List Int):T.noRoL (l.map (vk k))=true:=eJ _ (fun _=>rfl) l
@[simp] theorem noRo_vb (l:List Bool):T.noRoL (l.map vb)=true:=eJ _ (fun _=>rfl) l
@[simp] theorem noRo_vs (l:List ByteArray):T.noRoL (l.map vs)=true:=eJ _ (fun _=>rfl) l
@[simp] theorem own_eSl {α:Type} {s:Nat} {f:α→T} (h:∀ l:List α,T.hasOwnL (l.map f)=false) (l:List (List α)):T.hasOwnL (l.map (eSl false s f))=false:=cO _ (fun x=>by simp [h x]) l
@[simp] theorem ro_eSl {α:Type} {o:Bool} {s:Nat} {f:α→T} (h:∀ l:List α,T.roL (l.map f)=l.map f) (l:List (List α)):T.roL (l.map (eSl o s f))=l.map (eSl false s f):=gT _ _ (fun x=>by simp [h x]) l
@[simp] theorem noRo_eSl {α:Type} {s:Nat} {f:α→T} (h:∀ l:List α,T.noRoL (l.map f)=true) (l:List (List α)):T.noRoL (l.map (eSl true s f))=true:=eJ _ (fun x=>by simp [h x]) l
@[simp] theorem bits_i64:IntKind.bits .i64=64:=rfl
@[simp] theorem bits_u32:IntKind.bits .u32=32:=rfl
def aCd (x y:Int):Option Int:=if y=0 then none else some (Int.tmod x y)
theorem nX {x y z:Int} (h:aCd x y=some z):y ≠ 0∧Int.tmod x y=z:=by
 unfold aCd at h
 split at h
 ·cases h
 rename_i hy;injection h with h;exact ⟨hy,h⟩
theorem kC {α:Type} {c:Prop} [Decidable c] {a b:Option α} {r:α} (h:(if c then a else b)=some r):(c∧a=some r) ∨ (¬ c∧b=some r):=by
 by_cases hc:c
 ·rw [if_pos hc] at h;exact .inl ⟨hc,h⟩
 rw [if_neg hc] at h;exact .inr ⟨hc,h⟩
structure GNode where
 Kind:Int
 Num:Int
 Name:ByteArray
 Kids:List Int
 deriving DecidableEq
def GNode.enc (o:Bool) (x:GNode):T:=.agg [vi x.Kind,vi x.Num,vs x.Name,.sl o 1 (List.map vi x.Kids)]
@[simp] theorem GNode.own (x:GNode):(x.enc false).hasOwn=false:=by simp [GNode.enc]
@[simp] theorem GNode.ownT (x:GNode):(x.enc true).hasOwn=true:=by simp [GNode.enc]
@[simp] theorem GNode.ownL (l:List GNode):T.hasOwnL (l.map (GNode.enc false))=false:=cO _ (fun x=>by simp) l
@[simp] theorem GNode.ro1 (o:Bool) (x:GNode):(x.enc o).ro=x.enc false:=by cases o<;>simp [GNode.enc,T.roL_map,Function.comp_def]
@[simp] theorem GNode.roL (o:Bool) (l:List GNode):T.roL (l.map (GNode.enc o))=l.map (GNode.enc false):=gT _ _ (fun x=>by simp) l
@[simp] theorem GNode.noRo (x:GNode):(x.enc true).noRo=true:=by simp [GNode.enc]
@[simp] theorem GNode.noRoL (l:List GNode):T.noRoL (l.map (GNode.enc true))=true:=eJ _ (fun x=>by simp) l
structure GParam where
 Name:ByteArray
 Typ:Int
 deriving DecidableEq
def GParam.enc (x:GParam):T:=.agg [vs x.Name,vi x.Typ]
@[simp] theorem GParam.own (x:GParam):x.enc.hasOwn=false:=by simp [GParam.enc]
@[simp] theorem GParam.ownL (l:List GParam):T.hasOwnL (l.map GParam.enc)=false:=cO _ (fun x=>by simp) l
@[simp] theorem GParam.ro1 (x:GParam):x.enc.ro=x.enc:=by simp [GParam.enc]
@[simp] theorem GParam.roL (l:List GParam):T.roL (l.map GParam.enc)=l.map GParam.enc:=gT _ _ (fun x=>by simp) l
@[simp] theorem GParam.noRo (x:GParam):x.enc.noRo=true:=by simp [GParam.enc]
@[simp] theorem GParam.noRoL (l:List GParam):T.noRoL (l.map GParam.enc)=true:=eJ _ (fun x=>by simp) l
structure GFn where
 Name:ByteArray
 Params:List GParam
 Res:Int
 Body:Int
 Ret:Int
 deriving DecidableEq
def GFn.enc (o:Bool) (x:GFn):T:=.agg [vs x.Name,.sl o 2 (List.map GParam.enc x.Params),vi x.Res,vi x.Body,vi x.Ret]
@[simp] theorem GFn.own (x:GFn):(x.enc false).hasOwn=false:=by simp [GFn.enc]
@[simp] theorem GFn.ownT (x:GFn):(x.enc true).hasOwn=true:=by simp [GFn.enc]
@[simp] theorem GFn.ownL (l:List GFn):T.hasOwnL (l.map (GFn.enc false))=false:=cO _ (fun x=>by simp) l
@[simp] theorem GFn.ro1 (o:Bool) (x:GFn):(x.enc o).ro=x.enc false:=by cases o<;>simp [GFn.enc,T.roL_map,Function.comp_def]
@[simp] theorem GFn.roL (o:Bool) (l:List GFn):T.roL (l.map (GFn.enc o))=l.map (GFn.enc false):=gT _ _ (fun x=>by simp) l
@[simp] theorem GFn.noRo (x:GFn):(x.enc true).noRo=true:=by simp [GFn.enc]
@[simp] theorem GFn.noRoL (l:List GFn):T.noRoL (l.map (GFn.enc true))=true:=eJ _ (fun x=>by simp) l
structure GProgram where
 Nodes:List GNode
 Fns:List GFn
 deriving DecidableEq
def GProgram.enc (o:Bool) (x:GProgram):T:=.agg [.sl o 4 (List.map (GNode.enc o) x.Nodes),.sl o 5 (List.map (GFn.enc o) x.Fns)]
@[simp] theorem GProgram.own (x:GProgram):(x.enc false).hasOwn=false:=by simp [GProgram.enc]
@[simp] theorem GProgram.ownT (x:GProgram):(x.enc true).hasOwn=true:=by simp [GProgram.enc]
@[simp] theorem GProgram.ownL (l:List GProgram):T.hasOwnL (l.map (GProgram.enc false))=false:=cO _ (fun x=>by simp) l
@[simp] theorem GProgram.ro1 (o:Bool) (x:GProgram):(x.enc o).ro=x.enc false:=by cases o<;>simp [GProgram.enc,T.roL_map,Function.comp_def]
@[simp] theorem GProgram.roL (o:Bool) (l:List GProgram):T.roL (l.map (GProgram.enc o))=l.map (GProgram.enc false):=gT _ _ (fun x=>by simp) l
@[simp] theorem GProgram.noRo (x:GProgram):(x.enc true).noRo=true:=by simp [GProgram.enc]
@[simp] theorem GProgram.noRoL (l:List GProgram):T.noRoL (l.map (GProgram.enc true))=true:=eJ _ (fun x=>by simp) l
structure Gl01Cur where
 b:List Int
 i:Int
 h:Int
 deriving DecidableEq
def Gl01Cur.enc (o:Bool) (x:Gl01Cur):T:=.agg [.sl o 1 (List.map (vk .u8) x.b),vi x.i,vi x.h]
@[simp] theorem Gl01Cur.own (x:Gl01Cur):(x.enc false).hasOwn=false:=by simp [Gl01Cur.enc]
@[simp] theorem Gl01Cur.ownT (x:Gl01Cur):(x.enc true).hasOwn=true:=by simp [Gl01Cur.enc]
@[simp] theorem Gl01Cur.ownL (l:List Gl01Cur):T.hasOwnL (l.map (Gl01Cur.enc false))=false:=cO _ (fun x=>by simp) l
@[simp] theorem Gl01Cur.ro1 (o:Bool) (x:Gl01Cur):(x.enc o).ro=x.enc false:=by cases o<;>simp [Gl01Cur.enc,T.roL_map,Function.comp_def]
@[simp] theorem Gl01Cur.roL (o:Bool) (l:List Gl01Cur):T.roL (l.map (Gl01Cur.enc o))=l.map (Gl01Cur.enc false):=gT _ _ (fun x=>by simp) l
@[simp] theorem Gl01Cur.noRo (x:Gl01Cur):(x.enc true).noRo=true:=by simp [Gl01Cur.enc]
@[simp] theorem Gl01Cur.noRoL (l:List Gl01Cur):T.noRoL (l.map (Gl01Cur.enc true))=true:=eJ _ (fun x=>by simp) l
structure Gpacker where
 from_:List GNode
 to_:List GNode
 bad:Bool
 deriving DecidableEq
def Gpacker.enc (o:Bool) (x:Gpacker):T:=.agg [.sl o 4 (List.map (GNode.enc o) x.from_),.sl o 4 (List.map (GNode.enc o) x.to_),vb x.bad]
@[simp] theorem Gpacker.own (x:Gpacker):(x.enc false).hasOwn=false:=by simp [Gpacker.enc]
@[simp] theorem Gpacker.ownT (x:Gpacker):(x.enc true).hasOwn=true:=by simp [Gpacker.enc]
@[simp] theorem Gpacker.ownL (l:List Gpacker):T.hasOwnL (l.map (Gpacker.enc false))=false:=cO _ (fun x=>by simp) l
@[simp] theorem Gpacker.ro1 (o:Bool) (x:Gpacker):(x.enc o).ro=x.enc false:=by cases o<;>simp [Gpacker.enc,T.roL_map,Function.comp_def]
@[simp] theorem Gpacker.roL (o:Bool) (l:List Gpacker):T.roL (l.map (Gpacker.enc o))=l.map (Gpacker.enc false):=gT _ _ (fun x=>by simp) l
@[simp] theorem Gpacker.noRo (x:Gpacker):(x.enc true).noRo=true:=by simp [Gpacker.enc]
@[simp] theorem Gpacker.noRoL (l:List Gpacker):T.noRoL (l.map (Gpacker.enc true))=true:=eJ _ (fun x=>by simp) l
structure Gl04Pack where
 from_:List GNode
 to_:List GNode
 bad:Bool
 deriving DecidableEq
def Gl04Pack.enc (o:Bool) (x:Gl04Pack):T:=.agg [.sl o 4 (List.map (GNode.enc o) x.from_),.sl o 4 (List.map (GNode.enc o) x.to_),vb x.bad]
@[simp] theorem Gl04Pack.own (x:Gl04Pack):(x.enc false).hasOwn=false:=by simp [Gl04Pack.enc]
@[simp] theorem Gl04Pack.ownT (x:Gl04Pack):(x.enc true).hasOwn=true:=by simp [Gl04Pack.enc]
@[simp] theorem Gl04Pack.ownL (l:List Gl04Pack):T.hasOwnL (l.map (Gl04Pack.enc false))=false:=cO _ (fun x=>by simp) l
@[simp] theorem Gl04Pack.ro1 (o:Bool) (x:Gl04Pack):(x.enc o).ro=x.enc false:=by cases o<;>simp [Gl04Pack.enc,T.roL_map,Function.comp_def]
@[simp] theorem Gl04Pack.roL (o:Bool) (l:List Gl04Pack):T.roL (l.map (Gl04Pack.enc o))=l.map (Gl04Pack.enc false):=gT _ _ (fun x=>by simp) l
@[simp] theorem Gl04Pack.noRo (x:Gl04Pack):(x.enc true).noRo=true:=by simp [Gl04Pack.enc]
@[simp] theorem Gl04Pack.noRoL (l:List Gl04Pack):T.noRoL (l.map (Gl04Pack.enc true))=true:=eJ _ (fun x=>by simp) l
structure GSign where
 Kind:Int
 Text:ByteArray
 Num:Int
 deriving DecidableEq
def GSign.enc (x:GSign):T:=.agg [vi x.Kind,vs x.Text,vi x.Num]
@[simp] theorem GSign.own (x:GSign):x.enc.hasOwn=false:=by simp [GSign.enc]
@[simp] theorem GSign.ownL (l:List GSign):T.hasOwnL (l.map GSign.enc)=false:=cO _ (fun x=>by simp) l
@[simp] theorem GSign.ro1 (x:GSign):x.enc.ro=x.enc:=by simp [GSign.enc]
@[simp] theorem GSign.roL (l:List GSign):T.roL (l.map GSign.enc)=l.map GSign.enc:=gT _ _ (fun x=>by simp) l
@[simp] theorem GSign.noRo (x:GSign):x.enc.noRo=true:=by simp [GSign.enc]
@[simp] theorem GSign.noRoL (l:List GSign):T.noRoL (l.map GSign.enc)=true:=eJ _ (fun x=>by simp) l
structure Gl05Read where
 list:List GSign
 at_:Int
 bad:Bool
 deep:Int
 nodes:List GNode
 deriving DecidableEq
def Gl05Read.enc (o:Bool) (x:Gl05Read):T:=.agg [.sl o 3 (List.map GSign.enc x.list),vi x.at_,vb x.bad,vi x.deep,.sl o 4 (List.map (GNode.enc o) x.nodes)]
@[simp] theorem Gl05Read.own (x:Gl05Read):(x.enc false).hasOwn=false:=by simp [Gl05Read.enc]
@[simp] theorem Gl05Read.ownT (x:Gl05Read):(x.enc true).hasOwn=true:=by simp [Gl05Read.enc]
@[simp] theorem Gl05Read.ownL (l:List Gl05Read):T.hasOwnL (l.map (Gl05Read.enc false))=false:=cO _ (fun x=>by simp) l
@[simp] theorem Gl05Read.ro1 (o:Bool) (x:Gl05Read):(x.enc o).ro=x.enc false:=by cases o<;>simp [Gl05Read.enc,T.roL_map,Function.comp_def]
@[simp] theorem Gl05Read.roL (o:Bool) (l:List Gl05Read):T.roL (l.map (Gl05Read.enc o))=l.map (Gl05Read.enc false):=gT _ _ (fun x=>by simp) l
@[simp] theorem Gl05Read.noRo (x:Gl05Read):(x.enc true).noRo=true:=by simp [Gl05Read.enc]
@[simp] theorem Gl05Read.noRoL (l:List Gl05Read):T.noRoL (l.map (Gl05Read.enc true))=true:=eJ _ (fun x=>by simp) l
structure Gl05Made where
 c:Unit
 ints:List ByteArray
 boxes:List ByteArray
 n:Int
 text:ByteArray
 wild:Bool
 deriving DecidableEq
def Gl05Made.enc (o:Bool) (x:Gl05Made):T:=.agg [.v (.pointer none),.sl o 1 (List.map vs x.ints),.sl o 1 (List.map vs x.boxes),vi x.n,vs x.text,vb x.wild]
@[simp] theorem Gl05Made.own (x:Gl05Made):(x.enc false).hasOwn=false:=by simp [Gl05Made.enc]
@[simp] theorem Gl05Made.ownT (x:Gl05Made):(x.enc true).hasOwn=true:=by simp [Gl05Made.enc]
@[simp] theorem Gl05Made.ownL (l:List Gl05Made):T.hasOwnL (l.map (Gl05Made.enc false))=false:=cO _ (fun x=>by simp) l
@[simp] theorem Gl05Made.ro1 (o:Bool) (x:Gl05Made):(x.enc o).ro=x.enc false:=by cases o<;>simp [Gl05Made.enc,T.roL_map,Function.comp_def]
@[simp] theorem Gl05Made.roL (o:Bool) (l:List Gl05Made):T.roL (l.map (Gl05Made.enc o))=l.map (Gl05Made.enc false):=gT _ _ (fun x=>by simp) l
@[simp] theorem Gl05Made.noRo (x:Gl05Made):(x.enc true).noRo=true:=by simp [Gl05Made.enc]
@[simp] theorem Gl05Made.noRoL (l:List Gl05Made):T.noRoL (l.map (Gl05Made.enc true))=true:=eJ _ (fun x=>by simp) l
attribute [simp] GNode.enc GParam.enc GFn.enc GProgram.enc Gl01Cur.enc Gpacker.enc Gl04Pack.enc GSign.enc Gl05Read.enc Gl05Made.enc
end Go.OM
noncomputable section
namespace Go.OM
def xU (a0:List Int):Option (Bool) :=
 some (decide ((a0.length:Int) > 1048576))
def fO (c1:Gl01Cur):Option (Int × Gl01Cur) :=
 if (decide (c1.i < (c1.b.length:Int)))=true then
  (aY c1.b c1.i).bind fun e7 =>
  some (bits .and .i64 (IntKind.wrap .i64 ((bits .and .i64 (bits .xor .i64 (Int.fdiv (IntKind.wrap .i64 ((IntKind.wrap .i64 (c1.h * 6364136223846793005)) + 1442695040888963407)) (2 ^ 33)) (Int.fdiv (IntKind.wrap .i64 ((IntKind.wrap .i64 (c1.h * 6364136223846793005)) + 1442695040888963407)) (2 ^ 45))) 255) + (IntKind.wrap .i64 e7))) 255,(⟨c1.b,IntKind.wrap .i64 (c1.i + 1),IntKind.wrap .i64 ((IntKind.wrap .i64 (c1.h * 6364136223846793005)) + 1442695040888963407)⟩:Gl01Cur))
 else
  some (bits .and .i64 (bits .xor .i64 (Int.fdiv (IntKind.wrap .i64 ((IntKind.wrap .i64 (c1.h * 6364136223846793005)) + 1442695040888963407)) (2 ^ 33)) (Int.fdiv (IntKind.wrap .i64 ((IntKind.wrap .i64 (c1.h * 6364136223846793005)) + 1442695040888963407)) (2 ^ 45))) 255,(⟨c1.b,c1.i,IntKind.wrap .i64 ((IntKind.wrap .i64 (c1.h * 6364136223846793005)) + 1442695040888963407)⟩:Gl01Cur))
def bP (c1:Gl01Cur) (n2:Int):Option (Int × Gl01Cur) :=
 if (decide (n2 ≤ 0))=true then
  some (0,c1)
 else
  if (decide (n2 ≤ 256))=true then
   (fO c1).bind fun ⟨r7,q8⟩ =>
   (aCd r7 n2).bind fun a0 =>
   some (a0,q8)
  else
   (fO c1).bind fun ⟨a1,a2⟩ =>
   (fO a2).bind fun ⟨a3,a4⟩ =>
   (fO a4).bind fun ⟨a5,a6⟩ =>
   (fO a6).bind fun ⟨a7,a8⟩ =>
   (aCd (IntKind.wrap .i64 ((IntKind.wrap .i64 ((IntKind.wrap .i64 ((IntKind.wrap .i64 (a1 * 16777216)) + (IntKind.wrap .i64 (a3 * 65536)))) + (IntKind.wrap .i64 (a5 * 256)))) + a7)) n2).bind fun a9 =>
   some (a9,a8)
def eM (c1:Gl01Cur) (n2:Int):Option (Bool × Gl01Cur) :=
 (bP c1 n2).bind fun ⟨r3,q4⟩ =>
 some (r3 == 0,q4)
def hO (a0:List GNode):((List GNode) × Int)→Option (((List GNode) × Int) ⊕ (List GNode)):=fun ⟨a1,i6⟩ =>
 if (decide (i6 < (a0.length:Int)))=true then
  (aY a0 i6).bind fun a2 =>
  (bW 8 [] a2.Kids).bind fun a4 =>
  (bW 56 a1 [a2]).bind fun a3 =>
  some (Sum.inl (a3,IntKind.wrap .i64 (i6 + 1)))
 else
  some (Sum.inr a1)
def kX (a0:List GNode):Option (List GNode) :=
 Option.bind (
  aJ (hO a0) ([],(0:Int))) fun a1 =>
 some a1
def iY (p1:GProgram):(Int × GProgram)→Option ((Int × GProgram) ⊕ (GProgram)):=fun ⟨i7,v8⟩ =>
 if (decide (i7 < (p1.Fns.length:Int)))=true then
  (aY p1.Fns i7).bind fun a0 =>
  (bW 24 [] a0.Params).bind fun a2 =>
  (bW 64 v8.Fns [a0]).bind fun a1 =>
  some (Sum.inl (IntKind.wrap .i64 (i7 + 1),(⟨v8.Nodes,a1⟩:GProgram)))
 else
  some (Sum.inr v8)
def gQ (p1:GProgram):Option (GProgram) :=
 (kX p1.Nodes).bind fun r2 =>
 Option.bind (
  aJ (iY p1) ((0:Int),(⟨r2,[]⟩:GProgram))) fun a0 =>
 some a0
def bY (x1:Int) (a0:Int) (a1:Int):Option (Bool) :=
 Option.bind (
  if (decide (x1 ≥ a0))=true then
   some (decide (x1 ≤ a1))
  else
   some false) fun v8 =>
 some v8
def dK (b1:Int):Option (Bool) :=
 Option.bind (
  if (decide (b1 ≥ 97))=true then
   some (decide (b1 ≤ 122))
  else
   some false) fun v6 =>
 some v6
def mQ:Option (List ByteArray) :=
 some [(⟨#[102,110]⟩:ByteArray),(⟨#[108,101,116]⟩:ByteArray),(⟨#[105,102]⟩:ByteArray),(⟨#[101,108,115,101]⟩:ByteArray),(⟨#[119,104,105,108,101]⟩:ByteArray),(⟨#[112,114,105,110,116]⟩:ByteArray),(⟨#[100,111]⟩:ByteArray),(⟨#[110,101,119]⟩:ByteArray),(⟨#[99,108,111,110,101]⟩:ByteArray),(⟨#[109,117,116]⟩:ByteArray),(⟨#[105,110,112,117,116]⟩:ByteArray),(⟨#[105,110,116]⟩:ByteArray),(⟨#[98,111,120]⟩:ByteArray),(⟨#[114,101,116]⟩:ByteArray)]
def gG (s1:ByteArray) (r2:List ByteArray):Int→Option ((Int) ⊕ ((Unit) ⊕ (Bool))):=fun i7 =>
 if (decide (i7 < (r2.length:Int)))=true then
  (aY r2 i7).bind fun a0 =>
  if (sEq a0 s1)=true then
   some (Sum.inr (Sum.inr true))
  else
   some (Sum.inl (IntKind.wrap .i64 (i7 + 1)))
 else
  some (Sum.inr (Sum.inl ()))
def jF (s1:ByteArray):Option (Bool) :=
 (mQ ).bind fun r2 =>
 Option.bind (
  aJ (gG s1 r2) (0:Int)) fun j6 =>
 match j6 with
 | Sum.inr z=>some z
 | Sum.inl () =>
  some false
def dZ (b1:Int):Option (Bool) :=
 Option.bind (
  if (decide (b1 ≥ 48))=true then
   some (decide (b1 ≤ 57))
  else
   some false) fun v6 =>
 some v6
def iH (s1:ByteArray):Int→Option ((Int) ⊕ ((Unit) ⊕ (Bool))):=fun a0 =>
 if (decide (a0 < (s1.size:Int)))=true then
  Option.bind (
   (sAt s1 a0).bind fun a1 =>
   (dK a1).bind fun a2 =>
   if (!a2)=true then
    (dZ a1).bind fun a3 =>
    some (!a3)
   else
    some false) fun a4 =>
  if a4=true then
   some (Sum.inr (Sum.inr false))
  else
   some (Sum.inl (IntKind.wrap .i64 (a0 + 1)))
 else
  some (Sum.inr (Sum.inl ()))
def fU (s1:ByteArray):Option (Bool) :=
 Option.bind (
  (bY (s1.size:Int) 1 8).bind fun r4 =>
  if (!r4)=true then
   some true
  else
   (sAt s1 0).bind fun c8 =>
   (dK c8).bind fun r9 =>
   if (!r9)=true then
    some true
   else
    (jF s1).bind fun a0 =>
    some a0) fun a1 =>
 if a1=true then
  some false
 else
  Option.bind (
   aJ (iH s1) (0:Int)) fun a2 =>
  match a2 with
  | Sum.inr z=>some z
  | Sum.inl () =>
   some true
def mO (a0:Int):Option (Int × Int) :=
 Option.bind (
  if (a0 == 8)=true then
   some (a0 == 8)
  else
   if (a0 == 13)=true then
    some (a0 == 13)
   else
    if (a0 == 14)=true then
     some (a0 == 14)
    else
     if (a0 == 15)=true then
      some (a0 == 15)
     else
      if (a0 == 18)=true then
       some (a0 == 18)
      else
       some (a0 == 19)) fun a1 =>
 if a1=true then
  some (1,1)
 else
  Option.bind (
   if (a0 == 9)=true then
    some (a0 == 9)
   else
    if (a0 == 10)=true then
     some (a0 == 10)
    else
     if (a0 == 11)=true then
      some (a0 == 11)
     else
      some (a0 == 17)) fun a2 =>
  if a2=true then
   some (2,2)
  else
   if (a0 == 12)=true then
    some (0,3)
   else
    if (a0 == 16)=true then
     some (3,3)
    else
     if (a0 == 20)=true then
      some (0,12)
     else
      some (0,0)
def kY (a0:Int):Option (Bool) :=
 Option.bind (
  if (a0 == 2)=true then
   some (a0 == 2)
  else
   if (a0 == 3)=true then
    some (a0 == 3)
   else
    if (a0 == 4)=true then
     some (a0 == 4)
    else
     if (a0 == 5)=true then
      some (a0 == 5)
     else
      if (a0 == 6)=true then
       some (a0 == 6)
      else
       if (a0 == 12)=true then
        some (a0 == 12)
       else
        if (a0 == 13)=true then
         some (a0 == 13)
        else
         if (a0 == 14)=true then
          some (a0 == 14)
         else
          some (a0 == 15)) fun a1 =>
 if a1=true then
  some true
 else
  some false
def gR (a0:Int):Option (Bool) :=
 (bY a0 1 12).bind fun r2 =>
 some r2
def gE (a0:Int):Option (Bool) :=
 (bY a0 13 19).bind fun r2 =>
 some r2
def mP (a0:Int) (a2:Int) (a1:Int):Option (Bool) :=
 if (a0 == 20)=true then
  (gE a1).bind fun r6 =>
  some r6
 else
  Option.bind (
   if (a0 == 16)=true then
    some (a0 == 16)
   else
    some (a0 == 17)) fun a3 =>
  if a3=true then
   if (decide (a2 > 0))=true then
    some (a1 == 20)
   else
    (gR a1).bind fun a4 =>
    some a4
  else
   if (a0 == 19)=true then
    some (a1 == 12)
   else
    (gR a1).bind fun a5 =>
    some a5
def jX (a1:GNode) (a2:Int):Int→Option ((Int) ⊕ ((Unit) ⊕ ((Int) ⊕ ((Unit) ⊕ (Bool))))):=fun a0 =>
 if (decide (a0 < a2))=true then
  (aY a1.Kids a2).bind fun a3 =>
  (aY a1.Kids a0).bind fun a4 =>
  if (a3 == a4)=true then
   some (Sum.inr (Sum.inr (Sum.inr (Sum.inr false))))
  else
   some (Sum.inl (IntKind.wrap .i64 (a0 + 1)))
 else
  some (Sum.inr (Sum.inl ()))
def jY (a0:List GNode) (k2:Int) (a2:GNode):Int→Option ((Int) ⊕ ((Unit) ⊕ (Bool))):=fun a1 =>
 if (decide (a1 < (a2.Kids.length:Int)))=true then
  Option.bind (
   Option.bind (
    (aY a2.Kids a1).bind fun a3 =>
    (bY a3 0 (IntKind.wrap .i64 (k2 - 1))).bind fun a4 =>
    if (!a4)=true then
     some true
    else
     (aY a0 a3).bind fun a5 =>
     (mP a2.Kind a1 a5.Kind).bind fun a6 =>
     some (!a6)) fun a7 =>
   if a7=true then
    some (Sum.inr (Sum.inr (Sum.inr false)))
   else
    aJ (jX a2 a1) (0:Int)) fun a8 =>
  match a8 with
  | Sum.inr z=>some z
  | Sum.inl () =>
   some (Sum.inl (IntKind.wrap .i64 (a1 + 1)))
 else
  some (Sum.inr (Sum.inl ()))
def nS (a0:List GNode) (k2:Int):Option (Bool) :=
 Option.bind (
  (bY k2 0 (IntKind.wrap .i64 ((a0.length:Int) - 1))).bind fun r5 =>
  if (!r5)=true then
   some true
  else
   (aY a0 k2).bind fun e9 =>
   (bY e9.Kind 1 20).bind fun a2 =>
   some (!a2)) fun a3 =>
 if a3=true then
  some false
 else
  (aY a0 k2).bind fun a1 =>
  (mO a1.Kind).bind fun ⟨a4,a5⟩ =>
  Option.bind (
   (bY (a1.Kids.length:Int) a4 a5).bind fun a6 =>
   if (!a6)=true then
    some true
   else
    (bY a1.Num 0 1000000000).bind fun a7 =>
    if (!a7)=true then
     some true
    else
     if (a1.Kind != 1)=true then
      some (a1.Num != 0)
     else
      some false) fun a8 =>
  if a8=true then
   some false
  else
   Option.bind (
    (kY a1.Kind).bind fun a9 =>
    if (!(a9 == (!(sEq a1.Name (⟨#[]⟩:ByteArray)))))=true then
     some true
    else
     if (!(sEq a1.Name (⟨#[]⟩:ByteArray)))=true then
      (fU a1.Name).bind fun b0 =>
      some (!b0)
     else
      some false) fun b1 =>
   if b1=true then
    some false
   else
    Option.bind (
     aJ (jY a0 k2 a1) (0:Int)) fun b2 =>
    match b2 with
    | Sum.inr z=>some z
    | Sum.inl () =>
     some true
def dR (a1:List GNode) (a2:List Int) (i7:Int):(Int × Int)→Option ((Int × Int) ⊕ (Int)):=fun ⟨a0,a3⟩ =>
 Option.bind (
  if (decide (a0 > 0))=true then
   (aY a1 i7).bind fun a4 =>
   some (decide (a3 < (a4.Kids.length:Int)))
  else
   some false) fun a5 =>
 if a5=true then
  (aY a1 i7).bind fun a6 =>
  (aY a6.Kids a3).bind fun a7 =>
  (aY a2 a7).bind fun a8 =>
  if (decide (IntKind.wrap .i64 (a8 + 1) > a0))=true then
   (aY a1 i7).bind fun a9 =>
   (aY a9.Kids a3).bind fun b0 =>
   (aY a2 b0).bind fun b1 =>
   some (Sum.inl (IntKind.wrap .i64 (b1 + 1),IntKind.wrap .i64 (a3 + 1)))
  else
   some (Sum.inl (a0,IntKind.wrap .i64 (a3 + 1)))
 else
  some (Sum.inr a0)
def iA (a0:List GNode) (k2:Int):((List Int) × Int)→Option (((List Int) × Int) ⊕ (List Int)):=fun ⟨a2,i7⟩ =>
 Option.bind (
  if (decide (i7 ≤ k2))=true then
   some (decide (i7 < (a0.length:Int)))
  else
   some false) fun a6 =>
 if a6=true then
  Option.bind (
   Option.bind (
    Option.bind (
     (nS a0 i7).bind fun a7 =>
     if (!a7)=true then
      some true
     else
      if (decide (i7 > 0))=true then
       (aY a2 (IntKind.wrap .i64 (i7 - 1))).bind fun a8 =>
       some (a8 == 0)
      else
       some false) fun a9 =>
    if a9=true then
     some (0:Int)
    else
     some (1:Int)) fun a3 =>
   Option.bind (
    aJ (dR a0 a2 i7) (a3,(0:Int))) fun a1 =>
   Option.bind (
    if (decide (a1 > 10))=true then
     some (0:Int)
    else
     some a1) fun a4 =>
   (bW 8 a2 [a4]).bind fun b0 =>
   some b0) fun a5 =>
  some (Sum.inl (a5,IntKind.wrap .i64 (i7 + 1)))
 else
  some (Sum.inr a2)
def jO (a0:List GNode) (k2:Int):Option (List Int) :=
 Option.bind (
  aJ (iA a0 k2) ([],(0:Int))) fun a1 =>
 some a1
def iW (a0:List GNode) (i7:Int):((List Int) × Int)→Option (((List Int) × Int) ⊕ (List Int)):=fun ⟨a1,a2⟩ =>
 (aY a0 i7).bind fun a4 =>
 if (decide (a2 < (a4.Kids.length:Int)))=true then
  (aY a0 i7).bind fun a5 =>
  (aY a5.Kids a2).bind fun a3 =>
  (aY a1 a3).bind fun a6 =>
  bF (List.set a1 a3.toNat (IntKind.wrap .i64 (a6 + 1))) fun a7 =>
  some (Sum.inl (a7,IntKind.wrap .i64 (a2 + 1)))
 else
  some (Sum.inr a1)
def iX (a0:List GNode):((List Int) × Int)→Option (((List Int) × Int) ⊕ (List Int)):=fun ⟨a1,i7⟩ =>
 if (decide (i7 < (a0.length:Int)))=true then
  Option.bind (
   aJ (iW a0 i7) (a1,(0:Int))) fun a2 =>
  some (Sum.inl (a2,IntKind.wrap .i64 (i7 + 1)))
 else
  some (Sum.inr a1)
def mN (a0:List GNode):Option (List Int) :=
 (mkI 8 (a0.length:Int) 0).bind fun l2 =>
 Option.bind (
  aJ (iX a0) (l2,(0:Int))) fun a1 =>
 some a1
def wW (p1:GProgram) (a0:ByteArray):Int→Option ((Int) ⊕ ((Unit) ⊕ (Int))):=fun i6 =>
 if (decide (i6 < (p1.Fns.length:Int)))=true then
  (aY p1.Fns i6).bind fun a1 =>
  if (sEq a1.Name a0)=true then
   some (Sum.inr (Sum.inr i6))
  else
   some (Sum.inl (IntKind.wrap .i64 (i6 + 1)))
 else
  some (Sum.inr (Sum.inl ()))
def uI (p1:GProgram) (a0:ByteArray):Option (Int) :=
 Option.bind (
  aJ (wW p1 a0) (0:Int)) fun j5 =>
 match j5 with
 | Sum.inr z=>some z
 | Sum.inl () =>
  some (-1)
def kZ (e3:GFn):Int→Option ((Int) ⊕ ((Unit) ⊕ (Bool))):=fun a0 =>
 if (decide (a0 < (e3.Params.length:Int)))=true then
  Option.bind (
   (aY e3.Params a0).bind fun a1 =>
   (fU a1.Name).bind fun a2 =>
   if (!a2)=true then
    some true
   else
    (bY a1.Typ 1 4).bind fun a3 =>
    some (!a3)) fun a4 =>
  if a4=true then
   some (Sum.inr (Sum.inr false))
  else
   some (Sum.inl (IntKind.wrap .i64 (a0 + 1)))
 else
  some (Sum.inr (Sum.inl ()))
def pV (p1:GProgram) (i2:Int):Option (Bool) :=
 (aY p1.Fns i2).bind fun e3 =>
 Option.bind (
  (fU e3.Name).bind fun r6 =>
  if (!r6)=true then
   some true
  else
   (uI p1 e3.Name).bind fun a0 =>
   if (a0 != i2)=true then
    some true
   else
    if (decide ((e3.Params.length:Int) > 3))=true then
     some true
    else
     (bY e3.Res 0 2).bind fun a1 =>
     some (!a1)) fun a2 =>
 if a2=true then
  some false
 else
  Option.bind (
   aJ (kZ e3) (0:Int)) fun a3 =>
  match a3 with
  | Sum.inr z=>some z
  | Sum.inl () =>
   Option.bind (
    (bY e3.Body 0 (IntKind.wrap .i64 ((p1.Nodes.length:Int) - 1))).bind fun a4 =>
    if (!a4)=true then
     some true
    else
     (aY p1.Nodes e3.Body).bind fun a5 =>
     some (a5.Kind != 20)) fun a6 =>
   if a6=true then
    some false
   else
    if (e3.Res == 0)=true then
     some (e3.Ret == (-1))
    else
     Option.bind (
      (bY e3.Ret 0 (IntKind.wrap .i64 ((p1.Nodes.length:Int) - 1))).bind fun a7 =>
      if a7=true then
       (aY p1.Nodes e3.Ret).bind fun a8 =>
       (gR a8.Kind).bind fun a9 =>
       some a9
      else
       some false) fun b0 =>
     some b0
def dE (p1:GProgram):((List Int) × Int)→Option (((List Int) × Int) ⊕ ((List Int) ⊕ (Bool))):=fun ⟨a0,a1⟩ =>
 if (decide (a1 < (p1.Fns.length:Int)))=true then
  (pV p1 a1).bind fun a5 =>
  if (!a5)=true then
   some (Sum.inr (Sum.inr false))
  else
   (aY p1.Fns a1).bind fun a3 =>
   (aY a0 a3.Body).bind fun a6 =>
   bF (List.set a0 a3.Body.toNat (IntKind.wrap .i64 (a6 + 1000))) fun a2 =>
   (aY p1.Fns a1).bind fun a7 =>
   if (decide (a7.Ret ≥ 0))=true then
    (aY p1.Fns a1).bind fun a4 =>
    (aY a2 a4.Ret).bind fun a8 =>
    bF (List.set a2 a4.Ret.toNat (IntKind.wrap .i64 (a8 + 1000))) fun a9 =>
    some (Sum.inl (a9,IntKind.wrap .i64 (a1 + 1)))
   else
    some (Sum.inl (a2,IntKind.wrap .i64 (a1 + 1)))
 else
  some (Sum.inr (Sum.inl a0))
def eP (a0:List Int):Int→Option ((Int) ⊕ ((Unit) ⊕ (Bool))):=fun a1 =>
 if (decide (a1 < (a0.length:Int)))=true then
  Option.bind (
   (aY a0 a1).bind fun a2 =>
   if (a2 != 1)=true then
    some (a2 != 1000)
   else
    some false) fun a3 =>
  if a3=true then
   some (Sum.inr (Sum.inr false))
  else
   some (Sum.inl (IntKind.wrap .i64 (a1 + 1)))
 else
  some (Sum.inr (Sum.inl ()))
def fT (p1:GProgram):Option (Bool) :=
 Option.bind (
  (bY (p1.Nodes.length:Int) 1 300).bind fun r4 =>
  if (!r4)=true then
   some true
  else
   (bY (p1.Fns.length:Int) 1 8).bind fun r8 =>
   some (!r8)) fun a2 =>
 if a2=true then
  some false
 else
  (jO p1.Nodes (IntKind.wrap .i64 ((p1.Nodes.length:Int) - 1))).bind fun a1 =>
  (aY a1 (IntKind.wrap .i64 ((a1.length:Int) - 1))).bind fun a3 =>
  if (a3 == 0)=true then
   some false
  else
   (mN p1.Nodes).bind fun a4 =>
   Option.bind (
    aJ (dE p1) (a4,(0:Int))) fun a5 =>
   match a5 with
   | Sum.inr z=>some z
   | Sum.inl a0 =>
    Option.bind (
     aJ (eP a0) (0:Int)) fun a6 =>
    match a6 with
    | Sum.inr z=>some z
    | Sum.inl () =>
     some true
def lA:Option (List ByteArray) :=
 some [(⟨#[45,62]⟩:ByteArray),(⟨#[61,61]⟩:ByteArray),(⟨#[40]⟩:ByteArray),(⟨#[41]⟩:ByteArray),(⟨#[123]⟩:ByteArray),(⟨#[125]⟩:ByteArray),(⟨#[59]⟩:ByteArray),(⟨#[58]⟩:ByteArray),(⟨#[44]⟩:ByteArray),(⟨#[38]⟩:ByteArray),(⟨#[42]⟩:ByteArray),(⟨#[61]⟩:ByteArray),(⟨#[43]⟩:ByteArray),(⟨#[60]⟩:ByteArray)]
def iZ (t1:ByteArray) (a0:Int) (r3:List ByteArray):Int→Option ((Int) ⊕ ((Unit) ⊕ (ByteArray))):=fun i8 =>
 if (decide (i8 < (r3.length:Int)))=true then
  (aY r3 i8).bind fun a1 =>
  Option.bind (
   if (decide (IntKind.wrap .i64 (a0 + (a1.size:Int)) ≤ (t1.size:Int)))=true then
    (fD t1 a0 (IntKind.wrap .i64 (a0 + (a1.size:Int)))).bind fun a2 =>
    (aY r3 i8).bind fun a3 =>
    some (sEq a2 a3)
   else
    some false) fun a4 =>
  if a4=true then
   (aY r3 i8).bind fun a5 =>
   some (Sum.inr (Sum.inr a5))
  else
   some (Sum.inl (IntKind.wrap .i64 (i8 + 1)))
 else
  some (Sum.inr (Sum.inl ()))
def jA (t1:ByteArray) (a0:Int):Option (ByteArray) :=
 (lA ).bind fun r3 =>
 Option.bind (
  aJ (iZ t1 a0 r3) (0:Int)) fun j7 =>
 match j7 with
 | Sum.inr z=>some z
 | Sum.inl () =>
  some (⟨#[]⟩:ByteArray)
def jC (t1:ByteArray):Int→Option ((Int) ⊕ (Int)):=fun a0 =>
 Option.bind (
  if (decide (a0 < (t1.size:Int)))=true then
   (sAt t1 a0).bind fun a1 =>
   (dK a1).bind fun a2 =>
   if a2=true then
    some true
   else
    (dZ a1).bind fun a3 =>
    some a3
  else
   some false) fun a4 =>
 if a4=true then
  some (Sum.inl (IntKind.wrap .i64 (a0 + 1)))
 else
  some (Sum.inr a0)
def jB (t1:ByteArray) (a1:Int):(Int × Int)→Option ((Int × Int) ⊕ (Int × Int)):=fun ⟨a0,a2⟩ =>
 Option.bind (
  if (decide (a0 < (t1.size:Int)))=true then
   (sAt t1 a0).bind fun a3 =>
   (dZ a3).bind fun a4 =>
   if a4=true then
    some (decide (IntKind.wrap .i64 (a0 - a1) ≤ 10))
   else
    some false
  else
   some false) fun a5 =>
 if a5=true then
  (sAt t1 a0).bind fun a6 =>
  some (Sum.inl (IntKind.wrap .i64 (a0 + 1),IntKind.wrap .i64 ((IntKind.wrap .i64 ((IntKind.wrap .i64 (10 * a2)) + (IntKind.wrap .i64 a6))) - 48)))
 else
  some (Sum.inr (a0,a2))
def jD (t1:ByteArray):((List GSign) × Int)→Option (((List GSign) × Int) ⊕ ((List GSign) ⊕ ((List GSign) × Bool))):=fun ⟨a0,a1⟩ =>
 if (decide (a1 < (t1.size:Int)))=true then
  Option.bind (
   (sAt t1 a1).bind fun b0 =>
   if (b0 == 32)=true then
    some true
   else
    some (b0 == 10)) fun b3 =>
  if b3=true then
   some (Sum.inl (a0,IntKind.wrap .i64 (a1 + 1)))
  else
   Option.bind (
    (sAt t1 a1).bind fun b4 =>
    (dK b4).bind fun b5 =>
    if b5=true then
     Option.bind (
      aJ (jC t1) a1) fun a7 =>
     if (decide (IntKind.wrap .i64 (a7 - a1) > 8))=true then
      some (Sum.inr (Sum.inr (Sum.inr ([],false))))
     else
      (fD t1 a1 a7).bind fun b6 =>
      (bW 32 a0 [(⟨1,b6,0⟩:GSign)]).bind fun b7 =>
      some (Sum.inr (Sum.inl (b7,a7)))
    else
     some (Sum.inl (a0,a1,a1))) fun b8 =>
   match b8 with
   | Sum.inr z=>some z
   | Sum.inl (a3,a2,b9) =>
    Option.bind (
     (sAt t1 a2).bind fun c0 =>
     (dZ c0).bind fun c1 =>
     if c1=true then
      Option.bind (
       aJ (jB t1 a2) (b9,(0:Int))) fun ⟨b1,b2⟩ =>
      Option.bind (
       if (decide (IntKind.wrap .i64 (b1 - a2) > 10))=true then
        some true
       else
        some (decide (b2 > 1000000000))) fun c2 =>
      if c2=true then
       some (Sum.inr (Sum.inr (Sum.inr ([],false))))
      else
       (bW 32 a3 [(⟨2,ByteArray.empty,b2⟩:GSign)]).bind fun a8 =>
       some (Sum.inr (Sum.inl (a8,b1)))
     else
      some (Sum.inl (a3,a2))) fun c3 =>
    match c3 with
    | Sum.inr z=>some z
    | Sum.inl (a5,a4) =>
     (jA t1 a4).bind fun a6 =>
     if (sEq a6 (⟨#[]⟩:ByteArray))=true then
      some (Sum.inr (Sum.inr ([],false)))
     else
      (bW 32 a5 [(⟨3,a6,0⟩:GSign)]).bind fun a9 =>
      some (Sum.inl (a9,IntKind.wrap .i64 (a4 + (a6.size:Int))))
 else
  some (Sum.inr (Sum.inl a0))
def jE (t1:ByteArray):Option ((List GSign) × Bool) :=
 if (decide ((t1.size:Int) > 3000))=true then
  some ([],false)
 else
  Option.bind (
   aJ (jD t1) ([],(0:Int))) fun j6 =>
  match j6 with
  | Sum.inr z=>some z
  | Sum.inl a0 =>
   some (a0,true)
def cS (r1:Gl05Read) (a0:Int) (a1:ByteArray):Option (Bool × Gl05Read) :=
 Option.bind (
  if (!r1.bad)=true then
   if (decide (r1.at_ < (r1.list.length:Int)))=true then
    (aY r1.list r1.at_).bind fun a2 =>
    if (a2.Kind == a0)=true then
     some (sEq a2.Text a1)
    else
     some false
   else
    some false
  else
   some false) fun a3 =>
 some (a3,r1)
def aE (r1:Gl05Read) (a0:Int) (a1:ByteArray):Option (Bool × Gl05Read) :=
 (cS r1 a0 a1).bind fun ⟨r4,q5⟩ =>
 if r4=true then
  some (true,(⟨q5.list,IntKind.wrap .i64 (q5.at_ + 1),q5.bad,q5.deep,q5.nodes⟩:Gl05Read))
 else
  some (false,q5)
def bC (r1:Gl05Read):Option (ByteArray × Gl05Read) :=
 Option.bind (
  if r1.bad=true then
   some true
  else
   if (decide (r1.at_ ≥ (r1.list.length:Int)))=true then
    some true
   else
    (aY r1.list r1.at_).bind fun e8 =>
    if (e8.Kind != 1)=true then
     some true
    else
     (fU e8.Text).bind fun a0 =>
     some (!a0)) fun a1 =>
 if a1=true then
  some ((⟨#[]⟩:ByteArray),(⟨r1.list,r1.at_,true,r1.deep,r1.nodes⟩:Gl05Read))
 else
  (aY r1.list (IntKind.wrap .i64 ((IntKind.wrap .i64 (r1.at_ + 1)) - 1))).bind fun a2 =>
  some (a2.Text,(⟨r1.list,IntKind.wrap .i64 (r1.at_ + 1),r1.bad,r1.deep,r1.nodes⟩:Gl05Read))
def aR (r1:Gl05Read) (a0:ByteArray):Option (Gl05Read) :=
 (aE r1 3 a0).bind fun ⟨r3,q4⟩ =>
 if (!r3)=true then
  some (⟨q4.list,q4.at_,true,q4.deep,q4.nodes⟩:Gl05Read)
 else
  some q4
def dA (r1:Gl05Read):Option (Int × Gl05Read) :=
 (aE r1 1 (⟨#[105,110,116]⟩:ByteArray)).bind fun ⟨r2,q3⟩ =>
 if r2=true then
  some (1,q3)
 else
  (aE q3 1 (⟨#[98,111,120]⟩:ByteArray)).bind fun ⟨r7,q8⟩ =>
  if r7=true then
   some (2,q8)
  else
   (aR q8 (⟨#[38]⟩:ByteArray)).bind fun a3 =>
   Option.bind (
    (aE a3 1 (⟨#[109,117,116]⟩:ByteArray)).bind fun ⟨a4,a1⟩ =>
    if a4=true then
     some ((4:Int),a1)
    else
     some ((3:Int),a1)) fun ⟨a2,a5⟩ =>
   (aE a5 1 (⟨#[98,111,120]⟩:ByteArray)).bind fun ⟨a6,a0⟩ =>
   if (!a6)=true then
    some (a2,(⟨a0.list,a0.at_,true,a0.deep,a0.nodes⟩:Gl05Read))
   else
    some (a2,a0)
def aH (r1:Gl05Read) (x2:GNode):Option (Int × Gl05Read) :=
 Option.bind (
  if r1.bad=true then
   some true
  else
   some (decide ((r1.nodes.length:Int) ≥ 300))) fun v7 =>
 if v7=true then
  some (0,(⟨r1.list,r1.at_,true,r1.deep,r1.nodes⟩:Gl05Read))
 else
  (bW 56 r1.nodes [x2]).bind fun a0 =>
  some (IntKind.wrap .i64 ((a0.length:Int) - 1),(⟨r1.list,r1.at_,r1.bad,r1.deep,a0⟩:Gl05Read))
def dS (r1:Gl05Read):Option (Int × Gl05Read) :=
 (aE r1 1 (⟨#[109,117,116]⟩:ByteArray)).bind fun ⟨r2,q3⟩ =>
 if r2=true then
  (bC q3).bind fun ⟨r7,q8⟩ =>
  (aH q8 (⟨6,0,r7,[]⟩:GNode)).bind fun ⟨a0,a1⟩ =>
  some (a0,a1)
 else
  (bC q3).bind fun ⟨a2,a3⟩ =>
  (aH a3 (⟨5,0,a2,[]⟩:GNode)).bind fun ⟨a4,a5⟩ =>
  some (a4,a5)
def cL (a1:Gl05Read→Option (Int × Gl05Read)) (a0:Gl05Read→Option (Int × Gl05Read)) (a2:Gl05Read→Option (Int × Gl05Read)) (a3:Gl05Read→ByteArray→Option (Int × Gl05Read)) (r1:Gl05Read):Option (Int × Gl05Read) :=
 (a0 r1).bind fun ⟨r2,q3⟩ =>
 Option.bind (
  (aE q3 3 (⟨#[60]⟩:ByteArray)).bind fun ⟨r8,q9⟩ =>
  if r8=true then
   some ((10:Int),q9)
  else
   (aE q9 3 (⟨#[61,61]⟩:ByteArray)).bind fun ⟨a7,a5⟩ =>
   if a7=true then
    some ((11:Int),a5)
   else
    some ((0:Int),a5)) fun ⟨a4,a6⟩ =>
 if (a4 != 0)=true then
  (a0 a6).bind fun ⟨a8,a9⟩ =>
  (aH a9 (⟨a4,0,ByteArray.empty,[r2,a8]⟩:GNode)).bind fun ⟨b0,b1⟩ =>
  some (b0,b1)
 else
  some (r2,a6)
def eV (a0:Gl05Read→Option (Int × Gl05Read)):(Int × Gl05Read)→Option ((Int × Gl05Read) ⊕ (Int × Gl05Read)):=fun ⟨k8,v9⟩ =>
 (aE v9 3 (⟨#[43]⟩:ByteArray)).bind fun ⟨a2,a1⟩ =>
 if a2=true then
  (a0 a1).bind fun ⟨a3,a4⟩ =>
  (aH a4 (⟨9,0,ByteArray.empty,[k8,a3]⟩:GNode)).bind fun ⟨a5,a6⟩ =>
  some (Sum.inl (a5,a6))
 else
  some (Sum.inr (k8,a1))
def dM (a1:Gl05Read→Option (Int × Gl05Read)) (a3:Gl05Read→Option (Int × Gl05Read)) (a0:Gl05Read→Option (Int × Gl05Read)) (a2:Gl05Read→ByteArray→Option (Int × Gl05Read)) (r1:Gl05Read):Option (Int × Gl05Read) :=
 (a0 r1).bind fun ⟨r2,q3⟩ =>
 Option.bind (
  aJ (eV a0) (r2,q3)) fun ⟨a4,a5⟩ =>
 some (a4,a5)
def cW (a0:Gl05Read→Option (Int × Gl05Read)) (a3:Gl05Read→Option (Int × Gl05Read)) (a1:Gl05Read→Option (Int × Gl05Read)) (a2:Gl05Read→ByteArray→Option (Int × Gl05Read)) (r1:Gl05Read):Option (Int × Gl05Read) :=
 Option.bind (
  if r1.bad=true then
   some true
  else
   if (decide (r1.at_ ≥ (r1.list.length:Int)))=true then
    some true
   else
    some (decide (r1.deep > 12))) fun v8 =>
 if v8=true then
  some (0,(⟨r1.list,r1.at_,true,r1.deep,r1.nodes⟩:Gl05Read))
 else
  Option.bind (
   (aY r1.list r1.at_).bind fun b3 =>
   if (b3.Kind == 2)=true then
    (aY r1.list (IntKind.wrap .i64 ((IntKind.wrap .i64 (r1.at_ + 1)) - 1))).bind fun b4 =>
    (aH (⟨r1.list,IntKind.wrap .i64 (r1.at_ + 1),r1.bad,IntKind.wrap .i64 (r1.deep + 1),r1.nodes⟩:Gl05Read) (⟨1,b4.Num,ByteArray.empty,[]⟩:GNode)).bind fun ⟨b5,b6⟩ =>
    some (b5,b6)
   else
    (aE (⟨r1.list,r1.at_,r1.bad,IntKind.wrap .i64 (r1.deep + 1),r1.nodes⟩:Gl05Read) 3 (⟨#[42]⟩:ByteArray)).bind fun ⟨b7,a5⟩ =>
    if b7=true then
     (bC a5).bind fun ⟨b8,b9⟩ =>
     (aH b9 (⟨3,0,b8,[]⟩:GNode)).bind fun ⟨c0,c1⟩ =>
     some (c0,c1)
    else
     (aE a5 3 (⟨#[38]⟩:ByteArray)).bind fun ⟨c2,a6⟩ =>
     if c2=true then
      (dS a6).bind fun ⟨c3,c4⟩ =>
      some (c3,c4)
     else
      (aE a6 3 (⟨#[40]⟩:ByteArray)).bind fun ⟨c5,a7⟩ =>
      if c5=true then
       (a0 a7).bind fun ⟨c6,c7⟩ =>
       (aR c7 (⟨#[41]⟩:ByteArray)).bind fun c8 =>
       some (c6,c8)
      else
       (aE a7 1 (⟨#[99,108,111,110,101]⟩:ByteArray)).bind fun ⟨c9,a8⟩ =>
       if c9=true then
        (bC a8).bind fun ⟨d0,d1⟩ =>
        (aH d1 (⟨4,0,d0,[]⟩:GNode)).bind fun ⟨d2,d3⟩ =>
        some (d2,d3)
       else
        (aE a8 1 (⟨#[105,110,112,117,116]⟩:ByteArray)).bind fun ⟨d4,a9⟩ =>
        if d4=true then
         (aH a9 (⟨7,0,ByteArray.empty,[]⟩:GNode)).bind fun ⟨d5,d6⟩ =>
         some (d5,d6)
        else
         (aE a9 1 (⟨#[110,101,119]⟩:ByteArray)).bind fun ⟨d7,b0⟩ =>
         if d7=true then
          (a1 b0).bind fun ⟨d8,d9⟩ =>
          (aH d9 (⟨8,0,ByteArray.empty,[d8]⟩:GNode)).bind fun ⟨e0,e1⟩ =>
          some (e0,e1)
         else
          (bC b0).bind fun ⟨b1,e2⟩ =>
          (aE e2 3 (⟨#[40]⟩:ByteArray)).bind fun ⟨e3,b2⟩ =>
          if e3=true then
           (a2 b2 b1).bind fun ⟨e4,e5⟩ =>
           some (e4,e5)
          else
           (aH b2 (⟨2,0,b1,[]⟩:GNode)).bind fun ⟨e6,e7⟩ =>
           some (e6,e7)) fun ⟨e8,a4⟩ =>
  some (e8,(⟨a4.list,a4.at_,a4.bad,IntKind.wrap .i64 (a4.deep - 1),a4.nodes⟩:Gl05Read))
def eI (a0:Gl05Read→Option (Int × Gl05Read)):((List Int) × Gl05Read)→Option (((List Int) × Gl05Read) ⊕ ((List Int) × Gl05Read)):=fun ⟨a1,a2⟩ =>
 if (!a2.bad)=true then
  (a0 a2).bind fun ⟨a5,a6⟩ =>
  (bW 8 a1 [a5]).bind fun a3 =>
  (aE a6 3 (⟨#[41]⟩:ByteArray)).bind fun ⟨a7,a4⟩ =>
  if a7=true then
   some (Sum.inr (a3,a4))
  else
   (aR a4 (⟨#[44]⟩:ByteArray)).bind fun a8 =>
   some (Sum.inl (a3,a8))
 else
  some (Sum.inr (a1,a2))
def cY (a0:Gl05Read→Option (Int × Gl05Read)) (a3:Gl05Read→Option (Int × Gl05Read)) (a1:Gl05Read→Option (Int × Gl05Read)) (a2:Gl05Read→ByteArray→Option (Int × Gl05Read)) (r1:Gl05Read) (a5:ByteArray):Option (Int × Gl05Read) :=
 Option.bind (
  (aE r1 3 (⟨#[41]⟩:ByteArray)).bind fun ⟨r6,q7⟩ =>
  if (!r6)=true then
   aJ (eI a0) ([],q7)
  else
   some ([],q7)) fun ⟨a4,a6⟩ =>
 (aH a6 (⟨12,0,a5,a4⟩:GNode)).bind fun ⟨a7,a8⟩ =>
 some (a7,a8)
def aA:Nat→(Gl05Read→Option (Int × Gl05Read)) × (Gl05Read→Option (Int × Gl05Read)) × (Gl05Read→Option (Int × Gl05Read)) × (Gl05Read→ByteArray→Option (Int × Gl05Read))
 | 0=>(fun _=>none,fun _=>none,fun _=>none,fun _ _=>none)
 | n + 1=>(cL ((aA n).1) ((aA n).2.1) ((aA n).2.2.1) ((aA n).2.2.2),dM ((aA n).1) ((aA n).2.1) ((aA n).2.2.1) ((aA n).2.2.2),cW ((aA n).1) ((aA n).2.1) ((aA n).2.2.1) ((aA n).2.2.2),cY ((aA n).1) ((aA n).2.1) ((aA n).2.2.1) ((aA n).2.2.2))
def dL:Gl05Read→Option (Int × Gl05Read):=(aA bV).1
def xG:Gl05Read→Option (Int × Gl05Read):=(aA bV).2.1
def vS:Gl05Read→Option (Int × Gl05Read):=(aA bV).2.2.1
def vU:Gl05Read→ByteArray→Option (Int × Gl05Read):=(aA bV).2.2.2
def bQ (r1:Gl05Read) (a0:Int) (a1:ByteArray):Option (Int × Gl05Read) :=
 (dL r1).bind fun ⟨r4,q5⟩ =>
 (aR q5 (⟨#[59]⟩:ByteArray)).bind fun q7 =>
 (aH q7 (⟨a0,0,a1,[r4]⟩:GNode)).bind fun ⟨r9,a2⟩ =>
 some (r9,a2)
def eD (a0:Gl05Read→Option (Int × Gl05Read)):((List Int) × Gl05Read)→Option (((List Int) × Gl05Read) ⊕ ((List Int) × Gl05Read)):=fun ⟨a1,v6⟩ =>
 Option.bind (
  if (!v6.bad)=true then
   (cS v6 3 (⟨#[125]⟩:ByteArray)).bind fun ⟨a4,a2⟩ =>
   if (!a4)=true then
    (cS a2 1 (⟨#[114,101,116]⟩:ByteArray)).bind fun ⟨a5,a6⟩ =>
    some (!a5,a6)
   else
    some (false,a2)
  else
   some (false,v6)) fun ⟨a7,a3⟩ =>
 if a7=true then
  (a0 a3).bind fun ⟨a8,a9⟩ =>
  (bW 8 a1 [a8]).bind fun b0 =>
  some (Sum.inl (b0,a9))
 else
  some (Sum.inr (a1,a3))
def cM (a1:Gl05Read→Option ((List Int) × Gl05Read)) (a0:Gl05Read→Option (Int × Gl05Read)) (a2:Gl05Read→Option (Int × Gl05Read)) (r1:Gl05Read):Option ((List Int) × Gl05Read) :=
 Option.bind (
  aJ (eD a0) ([],r1)) fun ⟨a3,a4⟩ =>
 some (a3,a4)
def cX (a1:Gl05Read→Option ((List Int) × Gl05Read)) (a2:Gl05Read→Option (Int × Gl05Read)) (a0:Gl05Read→Option (Int × Gl05Read)) (r1:Gl05Read):Option (Int × Gl05Read) :=
 (aE r1 1 (⟨#[108,101,116]⟩:ByteArray)).bind fun ⟨r2,q3⟩ =>
 if r2=true then
  (bC q3).bind fun ⟨r7,q8⟩ =>
  (aR q8 (⟨#[61]⟩:ByteArray)).bind fun a9 =>
  (bQ a9 13 r7).bind fun ⟨b0,b1⟩ =>
  some (b0,b1)
 else
  (aE q3 3 (⟨#[42]⟩:ByteArray)).bind fun ⟨b2,a4⟩ =>
  if b2=true then
   (bC a4).bind fun ⟨b3,b4⟩ =>
   (aR b4 (⟨#[61]⟩:ByteArray)).bind fun b5 =>
   (bQ b5 15 b3).bind fun ⟨b6,b7⟩ =>
   some (b6,b7)
  else
   (aE a4 1 (⟨#[105,102]⟩:ByteArray)).bind fun ⟨b8,a5⟩ =>
   if b8=true then
    (dL a5).bind fun ⟨b9,c0⟩ =>
    (a0 c0).bind fun ⟨c1,c2⟩ =>
    Option.bind (
     (aE c2 1 (⟨#[101,108,115,101]⟩:ByteArray)).bind fun ⟨c3,a3⟩ =>
     if (!c3)=true then
      some (⟨a3.list,a3.at_,true,a3.deep,a3.nodes⟩:Gl05Read)
     else
      some a3) fun c4 =>
    (a0 c4).bind fun ⟨c5,c6⟩ =>
    (aH c6 (⟨16,0,ByteArray.empty,[b9,c1,c5]⟩:GNode)).bind fun ⟨c7,c8⟩ =>
    some (c7,c8)
   else
    (aE a5 1 (⟨#[119,104,105,108,101]⟩:ByteArray)).bind fun ⟨c9,a6⟩ =>
    if c9=true then
     (dL a6).bind fun ⟨d0,d1⟩ =>
     (a0 d1).bind fun ⟨d2,d3⟩ =>
     (aH d3 (⟨17,0,ByteArray.empty,[d0,d2]⟩:GNode)).bind fun ⟨d4,d5⟩ =>
     some (d4,d5)
    else
     (aE a6 1 (⟨#[112,114,105,110,116]⟩:ByteArray)).bind fun ⟨d6,a7⟩ =>
     if d6=true then
      (bQ a7 18 (⟨#[]⟩:ByteArray)).bind fun ⟨d7,d8⟩ =>
      some (d7,d8)
     else
      (aE a7 1 (⟨#[100,111]⟩:ByteArray)).bind fun ⟨d9,a8⟩ =>
      if d9=true then
       (bQ a8 19 (⟨#[]⟩:ByteArray)).bind fun ⟨e0,e1⟩ =>
       some (e0,e1)
      else
       (bC a8).bind fun ⟨e2,e3⟩ =>
       (aR e3 (⟨#[61]⟩:ByteArray)).bind fun e4 =>
       (bQ e4 14 e2).bind fun ⟨e5,e6⟩ =>
       some (e5,e6)
def cN (a0:Gl05Read→Option ((List Int) × Gl05Read)) (a2:Gl05Read→Option (Int × Gl05Read)) (a1:Gl05Read→Option (Int × Gl05Read)) (r1:Gl05Read):Option (Int × Gl05Read) :=
 Option.bind (
  if (decide (IntKind.wrap .i64 (r1.deep + 1) > 12))=true then
   some (⟨r1.list,r1.at_,true,IntKind.wrap .i64 (r1.deep + 1),r1.nodes⟩:Gl05Read)
  else
   some (⟨r1.list,r1.at_,r1.bad,IntKind.wrap .i64 (r1.deep + 1),r1.nodes⟩:Gl05Read)) fun v7 =>
 (aR v7 (⟨#[123]⟩:ByteArray)).bind fun q8 =>
 (a0 q8).bind fun ⟨a4,a5⟩ =>
 (aR a5 (⟨#[125]⟩:ByteArray)).bind fun a3 =>
 (aH (⟨a3.list,a3.at_,a3.bad,IntKind.wrap .i64 (a3.deep - 1),a3.nodes⟩:Gl05Read) (⟨20,0,ByteArray.empty,a4⟩:GNode)).bind fun ⟨a6,a7⟩ =>
 some (a6,a7)
def aC:Nat→(Gl05Read→Option ((List Int) × Gl05Read)) × (Gl05Read→Option (Int × Gl05Read)) × (Gl05Read→Option (Int × Gl05Read))
 | 0=>(fun _=>none,fun _=>none,fun _=>none)
 | n + 1=>(cM ((aC n).1) ((aC n).2.1) ((aC n).2.2),cX ((aC n).1) ((aC n).2.1) ((aC n).2.2),cN ((aC n).1) ((aC n).2.1) ((aC n).2.2))
def iQ:Gl05Read→Option ((List Int) × Gl05Read):=(aC bV).1
def vT:Gl05Read→Option (Int × Gl05Read):=(aC bV).2.1
def uH:Gl05Read→Option (Int × Gl05Read):=(aC bV).2.2
def fK:(GFn × Gl05Read)→Option ((GFn × Gl05Read) ⊕ (GFn × Gl05Read)):=fun ⟨a0,a1⟩ =>
 if (!a1.bad)=true then
  (bC a1).bind fun ⟨a4,a5⟩ =>
  (aR a5 (⟨#[58]⟩:ByteArray)).bind fun a6 =>
  (dA a6).bind fun ⟨a7,a8⟩ =>
  (bW 24 a0.Params [(⟨a4,a7⟩:GParam)]).bind fun a2 =>
  (aE a8 3 (⟨#[41]⟩:ByteArray)).bind fun ⟨a9,a3⟩ =>
  if a9=true then
   some (Sum.inr ((⟨a0.Name,a2,a0.Res,a0.Body,a0.Ret⟩:GFn),a3))
  else
   (aR a3 (⟨#[44]⟩:ByteArray)).bind fun b0 =>
   some (Sum.inl ((⟨a0.Name,a2,a0.Res,a0.Body,a0.Ret⟩:GFn),b0))
 else
  some (Sum.inr (a0,a1))
def eW (r1:Gl05Read):Option (GFn × Gl05Read) :=
 Option.bind (
  (aE r1 1 (⟨#[102,110]⟩:ByteArray)).bind fun ⟨r5,q6⟩ =>
  if (!r5)=true then
   some (⟨q6.list,q6.at_,true,q6.deep,q6.nodes⟩:Gl05Read)
  else
   some q6) fun a7 =>
 (bC a7).bind fun ⟨a2,a8⟩ =>
 (aR a8 (⟨#[40]⟩:ByteArray)).bind fun a9 =>
 Option.bind (
  (aE a9 3 (⟨#[41]⟩:ByteArray)).bind fun ⟨b0,a3⟩ =>
  if (!b0)=true then
   aJ (fK) ((⟨a2,[],0,0,(-1)⟩:GFn),a3)
  else
   some ((⟨a2,[],0,0,(-1)⟩:GFn),a3)) fun ⟨a1,b1⟩ =>
 Option.bind (
  (aE b1 3 (⟨#[45,62]⟩:ByteArray)).bind fun ⟨b2,a4⟩ =>
  if b2=true then
   (dA a4).bind fun ⟨b3,b4⟩ =>
   some ((⟨a1.Name,a1.Params,b3,a1.Body,a1.Ret⟩:GFn),b4)
  else
   some (a1,a4)) fun ⟨a0,b5⟩ =>
 (aR b5 (⟨#[123]⟩:ByteArray)).bind fun b6 =>
 (iQ b6).bind fun ⟨b7,b8⟩ =>
 (aH b8 (⟨20,0,ByteArray.empty,b7⟩:GNode)).bind fun ⟨a5,b9⟩ =>
 Option.bind (
  (aE b9 1 (⟨#[114,101,116]⟩:ByteArray)).bind fun ⟨c0,a6⟩ =>
  if c0=true then
   (dL a6).bind fun ⟨c1,c2⟩ =>
   (aR c2 (⟨#[59]⟩:ByteArray)).bind fun c3 =>
   some ((⟨a0.Name,a0.Params,a0.Res,a5,c1⟩:GFn),c3)
  else
   some ((⟨a0.Name,a0.Params,a0.Res,a5,a0.Ret⟩:GFn),a6)) fun ⟨c4,c5⟩ =>
 (aR c5 (⟨#[125]⟩:ByteArray)).bind fun c6 =>
 some (c4,c6)
def dV:(GProgram × Gl05Read)→Option ((GProgram × Gl05Read) ⊕ (GProgram × Gl05Read)):=fun ⟨a1,a0⟩ =>
 Option.bind (
  if (!a0.bad)=true then
   if (decide (a0.at_ < (a0.list.length:Int)))=true then
    some (decide ((a1.Fns.length:Int) ≤ 8))
   else
    some false
  else
   some false) fun a2 =>
 if a2=true then
  (eW a0).bind fun ⟨a3,a4⟩ =>
  (bW 64 a1.Fns [a3]).bind fun a5 =>
  some (Sum.inl ((⟨a1.Nodes,a5⟩:GProgram),a4))
 else
  some (Sum.inr (a1,a0))
def bX (t1:ByteArray):Option (GProgram × Bool) :=
 (jE t1).bind fun ⟨r2,r3⟩ =>
 if (!r3)=true then
  some ((⟨[],[]⟩:GProgram),false)
 else
  Option.bind (
   aJ (dV) ((⟨[],[]⟩:GProgram),(⟨r2,0,false,0,[]⟩:Gl05Read))) fun ⟨a1,a0⟩ =>
  Option.bind (
   if a0.bad=true then
    some true
   else
    (fT (⟨a0.nodes,a1.Fns⟩:GProgram)).bind fun a2 =>
    some (!a2)) fun a3 =>
  if a3=true then
   some ((⟨[],[]⟩:GProgram),false)
  else
   some ((⟨a0.nodes,a1.Fns⟩:GProgram),true)
def fN (c1:Gl01Cur) (a0:List ByteArray):Option (ByteArray × Gl01Cur) :=
 (bP c1 (a0.length:Int)).bind fun ⟨r3,q4⟩ =>
 (aY a0 r3).bind fun e6 =>
 some (e6,q4)
def dC (m1:Gl05Made) (a0:List ByteArray) (m3:Gl01Cur):Option (ByteArray × Gl01Cur) :=
 (bP m3 (a0.length:Int)).bind fun ⟨r4,q5⟩ =>
 (aY a0 r4).bind fun e7 =>
 some (e7,q5)
def dU (m1:Gl05Made) (m2:Gl01Cur):Option (ByteArray × Gl01Cur) :=
 (fN m2 [(⟨#[48]⟩:ByteArray),(⟨#[49]⟩:ByteArray),(⟨#[50]⟩:ByteArray),(⟨#[51]⟩:ByteArray),(⟨#[55]⟩:ByteArray),(⟨#[49,48]⟩:ByteArray),(⟨#[53,48,48,48,48,48,48,48,48]⟩:ByteArray)]).bind fun ⟨r3,q4⟩ =>
 some (r3,q4)
def aN (m1:Gl05Made) (m2:Gl01Cur):Option (ByteArray × Gl01Cur) :=
 (bP m2 5).bind fun ⟨r3,q4⟩ =>
 Option.bind (
  if (decide (r3 < 2))=true then
   some (decide ((m1.ints.length:Int) > 0))
  else
   some false) fun a0 =>
 if a0=true then
  (dC m1 m1.ints q4).bind fun ⟨a1,a2⟩ =>
  some (a1,a2)
 else
  Option.bind (
   if (r3 == 2)=true then
    some (decide ((m1.boxes.length:Int) > 0))
   else
    some false) fun a3 =>
  if a3=true then
   (dC m1 m1.boxes q4).bind fun ⟨a4,a5⟩ =>
   (bK (⟨#[42]⟩:ByteArray) a4).bind fun a6 =>
   some (a6,a5)
  else
   (dU m1 q4).bind fun ⟨a7,a8⟩ =>
   some (a7,a8)
def cP (m1:Gl05Made) (m2:Gl01Cur):Option (ByteArray × Gl01Cur) :=
 (bP m2 7).bind fun ⟨r3,q4⟩ =>
 if (r3 == 0)=true then
  (aN m1 q4).bind fun ⟨r8,q9⟩ =>
  (bK r8 (⟨#[32,43,32]⟩:ByteArray)).bind fun a1 =>
  (aN m1 q9).bind fun ⟨a2,a3⟩ =>
  (bK a1 a2).bind fun a4 =>
  some (a4,a3)
 else
  if (r3 == 1)=true then
   (aN m1 q4).bind fun ⟨a5,a6⟩ =>
   (bK a5 (⟨#[32,60,32]⟩:ByteArray)).bind fun a7 =>
   (aN m1 a6).bind fun ⟨a8,a9⟩ =>
   (bK a7 a8).bind fun b0 =>
   some (b0,a9)
  else
   if (r3 == 2)=true then
    (aN m1 q4).bind fun ⟨b1,b2⟩ =>
    (bK (⟨#[40]⟩:ByteArray) b1).bind fun b3 =>
    (bK b3 (⟨#[32,43,32]⟩:ByteArray)).bind fun b4 =>
    (aN m1 b2).bind fun ⟨b5,b6⟩ =>
    (bK b4 b5).bind fun b7 =>
    (bK b7 (⟨#[41,32,43,32]⟩:ByteArray)).bind fun b8 =>
    (aN m1 b6).bind fun ⟨b9,c0⟩ =>
    (bK b8 b9).bind fun c1 =>
    some (c1,c0)
   else
    if (r3 == 3)=true then
     (aN m1 q4).bind fun ⟨c2,c3⟩ =>
     (bK (⟨#[115,117,109,40]⟩:ByteArray) c2).bind fun c4 =>
     (bK c4 (⟨#[44,32]⟩:ByteArray)).bind fun c5 =>
     (aN m1 c3).bind fun ⟨c6,c7⟩ =>
     (bK c5 c6).bind fun c8 =>
     (bK c8 (⟨#[41]⟩:ByteArray)).bind fun c9 =>
     some (c9,c7)
    else
     if (r3 == 4)=true then
      (eM q4 3).bind fun ⟨d0,a0⟩ =>
      if d0=true then
       some ((⟨#[105,110,112,117,116]⟩:ByteArray),a0)
      else
       (aN m1 a0).bind fun ⟨d1,d2⟩ =>
       some (d1,d2)
     else
      (aN m1 q4).bind fun ⟨d3,d4⟩ =>
      some (d3,d4)
def mG (x1:Int):Option (Int) :=
 if (decide (x1 < 10))=true then
  some (IntKind.wrap .u8 (IntKind.wrap .i64 (48 + x1)))
 else
  some (IntKind.wrap .u8 (IntKind.wrap .i64 ((IntKind.wrap .i64 (97 + x1)) - 10)))
def jH:(Int × ByteArray)→Option ((Int × ByteArray) ⊕ (ByteArray)):=fun ⟨n7,s8⟩ =>
 if (n7 != 0)=true then
  Option.bind (
   if (decide (Int.tmod n7 10 < 0))=true then
    some (IntKind.wrap .i64 (0 - (Int.tmod n7 10)))
   else
    some (Int.tmod n7 10)) fun a0 =>
  (mG a0).bind fun a1 =>
  (bK (pS [a1]) s8).bind fun a2 =>
  some (Sum.inl (IntKind.wrap .i64 (Int.tdiv n7 10),a2))
 else
  some (Sum.inr s8)
def jI (n1:Int):Option (ByteArray) :=
 if (n1 == 0)=true then
  some (⟨#[48]⟩:ByteArray)
 else
  Option.bind (
   aJ (jH) (n1,(⟨#[]⟩:ByteArray))) fun a0 =>
  if (decide (n1 < 0))=true then
   (bK (⟨#[45]⟩:ByteArray) a0).bind fun a1 =>
   some a1
  else
   some a0
def bR (m1:Gl05Made) (s2:ByteArray) (m3:Gl01Cur):Option (ByteArray × Gl05Made × Gl01Cur) :=
 (jI (IntKind.wrap .i64 (m1.n + 1))).bind fun r4 =>
 (bK s2 r4).bind fun t6 =>
 some (t6,(⟨(),m1.ints,m1.boxes,IntKind.wrap .i64 (m1.n + 1),m1.text,m1.wild⟩:Gl05Made),m3)
def gA (m1:Gl05Made) (b2:ByteArray):((List ByteArray) × Int)→Option (((List ByteArray) × Int) ⊕ (List ByteArray)):=fun ⟨a0,i8⟩ =>
 if (decide (i8 < (m1.boxes.length:Int)))=true then
  Option.bind (
   (aY m1.boxes i8).bind fun a1 =>
   if (!(sEq a1 b2))=true then
    some true
   else
    some m1.wild) fun a2 =>
  if a2=true then
   (aY m1.boxes i8).bind fun a3 =>
   (bW 16 a0 [a3]).bind fun a4 =>
   some (Sum.inl (a4,IntKind.wrap .i64 (i8 + 1)))
  else
   some (Sum.inl (a0,IntKind.wrap .i64 (i8 + 1)))
 else
  some (Sum.inr a0)
def dD (m1:Gl05Made) (b2:ByteArray) (m3:Gl01Cur):Option (Gl05Made × Gl01Cur) :=
 Option.bind (
  aJ (gA m1 b2) ([],(0:Int))) fun a0 =>
 some ((⟨(),m1.ints,a0,m1.n,m1.text,m1.wild⟩:Gl05Made),m3)
def fM (m1:Gl05Made) (a3:Bool) (m3:Gl01Cur):Option (Gl05Made × Gl01Cur) :=
 (dC m1 m1.boxes m3).bind fun ⟨r4,q5⟩ =>
 (bP q5 9).bind fun ⟨r7,q8⟩ =>
 if (r7 == 0)=true then
  (bR m1 (⟨#[114]⟩:ByteArray) q8).bind fun ⟨c2,a6,c7⟩ =>
  (bK a6.text (⟨#[108,101,116,32]⟩:ByteArray)).bind fun c8 =>
  (bK c8 c2).bind fun c9 =>
  (bK c9 (⟨#[32,61,32,38]⟩:ByteArray)).bind fun d0 =>
  (bK d0 r4).bind fun d1 =>
  (bK d1 (⟨#[59,32,112,114,105,110,116,32,42]⟩:ByteArray)).bind fun d2 =>
  (bK d2 c2).bind fun d3 =>
  (bK d3 (⟨#[59,32]⟩:ByteArray)).bind fun d4 =>
  some ((⟨(),a6.ints,a6.boxes,a6.n,d4,a6.wild⟩:Gl05Made),c7)
 else
  if (r7 == 1)=true then
   (bR m1 (⟨#[109]⟩:ByteArray) q8).bind fun ⟨c3,a4,d5⟩ =>
   (bK a4.text (⟨#[108,101,116,32]⟩:ByteArray)).bind fun d6 =>
   (bK d6 c3).bind fun d7 =>
   (bK d7 (⟨#[32,61,32,38,109,117,116,32]⟩:ByteArray)).bind fun d8 =>
   (bK d8 r4).bind fun d9 =>
   (bK d9 (⟨#[59,32,42]⟩:ByteArray)).bind fun e0 =>
   (bK e0 c3).bind fun e1 =>
   (bK e1 (⟨#[32,61,32]⟩:ByteArray)).bind fun e2 =>
   (aN a4 d5).bind fun ⟨e3,e4⟩ =>
   (bK e2 e3).bind fun e5 =>
   (bK e5 (⟨#[59,32]⟩:ByteArray)).bind fun e6 =>
   some ((⟨(),a4.ints,a4.boxes,a4.n,e6,a4.wild⟩:Gl05Made),e4)
  else
   if (r7 == 2)=true then
    (bK m1.text (⟨#[100,111,32,115,104,111,119,40,38]⟩:ByteArray)).bind fun e7 =>
    (bK e7 r4).bind fun e8 =>
    (bK e8 (⟨#[41,59,32]⟩:ByteArray)).bind fun e9 =>
    some ((⟨(),m1.ints,m1.boxes,m1.n,e9,m1.wild⟩:Gl05Made),q8)
   else
    if (r7 == 3)=true then
     (bK m1.text (⟨#[100,111,32,98,117,109,112,40,38,109,117,116,32]⟩:ByteArray)).bind fun g0 =>
     (bK g0 r4).bind fun g1 =>
     (bK g1 (⟨#[44,32]⟩:ByteArray)).bind fun g2 =>
     (dU m1 q8).bind fun ⟨g3,g4⟩ =>
     (bK g2 g3).bind fun g5 =>
     (bK g5 (⟨#[41,59,32]⟩:ByteArray)).bind fun g6 =>
     some ((⟨(),m1.ints,m1.boxes,m1.n,g6,m1.wild⟩:Gl05Made),g4)
    else
     if (r7 == 4)=true then
      (bR m1 (⟨#[98]⟩:ByteArray) q8).bind fun ⟨c4,a2,g7⟩ =>
      (bK a2.text (⟨#[108,101,116,32]⟩:ByteArray)).bind fun g8 =>
      (bK g8 c4).bind fun g9 =>
      (bK g9 (⟨#[32,61,32,99,108,111,110,101,32]⟩:ByteArray)).bind fun h0 =>
      (bK h0 r4).bind fun h1 =>
      (bK h1 (⟨#[59,32]⟩:ByteArray)).bind fun c5 =>
      Option.bind (
       (eM g7 3).bind fun ⟨h2,c6⟩ =>
       if h2=true then
        (dD (⟨(),a2.ints,a2.boxes,a2.n,c5,a2.wild⟩:Gl05Made) r4 c6).bind fun ⟨h3,h4⟩ =>
        some (h3,h4)
       else
        some ((⟨(),a2.ints,a2.boxes,a2.n,c5,a2.wild⟩:Gl05Made),c6)) fun ⟨a5,h5⟩ =>
      (bW 16 [] a5.boxes).bind fun j0 =>
      (bW 16 a5.boxes [c4]).bind fun h6 =>
      some ((⟨(),a5.ints,h6,a5.n,a5.text,a5.wild⟩:Gl05Made),h5)
     else
      if (r7 == 5)=true then
       (bK m1.text (⟨#[42]⟩:ByteArray)).bind fun h7 =>
       (bK h7 r4).bind fun h8 =>
       (bK h8 (⟨#[32,61,32]⟩:ByteArray)).bind fun h9 =>
       (cP m1 q8).bind fun ⟨i0,i1⟩ =>
       (bK h9 i0).bind fun i2 =>
       (bK i2 (⟨#[59,32]⟩:ByteArray)).bind fun i3 =>
       some ((⟨(),m1.ints,m1.boxes,m1.n,i3,m1.wild⟩:Gl05Made),i1)
      else
       if (r7 == 6)=true then
        (bK m1.text r4).bind fun i4 =>
        (bK i4 (⟨#[32,61,32,110,101,119,32]⟩:ByteArray)).bind fun i5 =>
        (aN m1 q8).bind fun ⟨i6,i7⟩ =>
        (bK i5 i6).bind fun i8 =>
        (bK i8 (⟨#[59,32]⟩:ByteArray)).bind fun a8 =>
        some ((⟨(),m1.ints,m1.boxes,m1.n,a8,m1.wild⟩:Gl05Made),i7)
       else
        if (r7 == 7)=true then
         if a3=true then
          (bK m1.text (⟨#[100,111,32,101,97,116,40]⟩:ByteArray)).bind fun a9 =>
          (bK a9 r4).bind fun b0 =>
          (bK b0 (⟨#[41,59,32]⟩:ByteArray)).bind fun b1 =>
          (dD (⟨(),m1.ints,m1.boxes,m1.n,b1,m1.wild⟩:Gl05Made) r4 q8).bind fun ⟨b2,b3⟩ =>
          some (b2,b3)
         else
          some (m1,q8)
        else
         if a3=true then
          (bR m1 (⟨#[98]⟩:ByteArray) q8).bind fun ⟨a7,a1,b4⟩ =>
          (bK a1.text (⟨#[108,101,116,32]⟩:ByteArray)).bind fun b5 =>
          (bK b5 a7).bind fun b6 =>
          (bK b6 (⟨#[32,61,32]⟩:ByteArray)).bind fun b7 =>
          (bK b7 r4).bind fun b8 =>
          (bK b8 (⟨#[59,32]⟩:ByteArray)).bind fun b9 =>
          (dD (⟨(),a1.ints,a1.boxes,a1.n,b9,a1.wild⟩:Gl05Made) r4 b4).bind fun ⟨a0,c0⟩ =>
          (bW 16 [] a0.boxes).bind fun i9 =>
          (bW 16 a0.boxes [a7]).bind fun c1 =>
          some ((⟨(),a0.ints,c1,a0.n,a0.text,a0.wild⟩:Gl05Made),c0)
         else
          some (m1,q8)
def eX (a1:Gl05Made→Int→Bool→Gl01Cur→Option (Gl05Made × Gl01Cur)) (a0:Gl05Made→Int→ByteArray→Gl01Cur→Option (Gl05Made × Gl01Cur)) (m1:Gl05Made) (a2:Int) (a8:Bool) (m4:Gl01Cur):Option (Gl05Made × Gl01Cur) :=
 (bP m4 14).bind fun ⟨r5,q6⟩ =>
 Option.bind (
  if (decide (r5 < 2))=true then
   some true
  else
   some ((m1.ints.length:Int) == 0)) fun d8 =>
 if d8=true then
  (cP m1 q6).bind fun ⟨d9,e0⟩ =>
  (bR m1 (⟨#[105]⟩:ByteArray) e0).bind fun ⟨d5,a6,e1⟩ =>
  (bK a6.text (⟨#[108,101,116,32]⟩:ByteArray)).bind fun e2 =>
  (bK e2 d5).bind fun e3 =>
  (bK e3 (⟨#[32,61,32]⟩:ByteArray)).bind fun e4 =>
  (bK e4 d9).bind fun e5 =>
  (bK e5 (⟨#[59,32]⟩:ByteArray)).bind fun e6 =>
  (bW 16 [] a6.ints).bind fun j6 =>
  (bW 16 a6.ints [d5]).bind fun e7 =>
  some ((⟨(),e7,a6.boxes,a6.n,e6,a6.wild⟩:Gl05Made),e1)
 else
  Option.bind (
   if (decide (r5 < 4))=true then
    some true
   else
    some ((m1.boxes.length:Int) == 0)) fun e8 =>
  if e8=true then
   (aN m1 q6).bind fun ⟨e9,g0⟩ =>
   (bK (⟨#[110,101,119,32]⟩:ByteArray) e9).bind fun g1 =>
   Option.bind (
    (eM g0 3).bind fun ⟨g2,d6⟩ =>
    if g2=true then
     (aN m1 d6).bind fun ⟨g3,g4⟩ =>
     (bK (⟨#[109,97,107,101,40]⟩:ByteArray) g3).bind fun g5 =>
     (bK g5 (⟨#[41]⟩:ByteArray)).bind fun g6 =>
     some (g6,m1,g4)
    else
     some (g1,m1,d6)) fun ⟨g7,g8,g9⟩ =>
   (bR g8 (⟨#[98]⟩:ByteArray) g9).bind fun ⟨d7,a7,h0⟩ =>
   (bK a7.text (⟨#[108,101,116,32]⟩:ByteArray)).bind fun h1 =>
   (bK h1 d7).bind fun h2 =>
   (bK h2 (⟨#[32,61,32]⟩:ByteArray)).bind fun h3 =>
   (bK h3 g7).bind fun h4 =>
   (bK h4 (⟨#[59,32]⟩:ByteArray)).bind fun h5 =>
   (bW 16 [] a7.boxes).bind fun j7 =>
   (bW 16 a7.boxes [d7]).bind fun h6 =>
   some ((⟨(),a7.ints,h6,a7.n,h5,a7.wild⟩:Gl05Made),h0)
  else
   if (decide (r5 < 6))=true then
    (bK m1.text (⟨#[112,114,105,110,116,32]⟩:ByteArray)).bind fun h7 =>
    (cP m1 q6).bind fun ⟨h8,h9⟩ =>
    (bK h7 h8).bind fun i0 =>
    (bK i0 (⟨#[59,32]⟩:ByteArray)).bind fun i1 =>
    some ((⟨(),m1.ints,m1.boxes,m1.n,i1,m1.wild⟩:Gl05Made),h9)
   else
    if (r5 == 6)=true then
     (dC m1 m1.ints q6).bind fun ⟨i2,i3⟩ =>
     (bK m1.text i2).bind fun i4 =>
     (bK i4 (⟨#[32,61,32]⟩:ByteArray)).bind fun i5 =>
     (cP m1 i3).bind fun ⟨i6,i7⟩ =>
     (bK i5 i6).bind fun i8 =>
     (bK i8 (⟨#[59,32]⟩:ByteArray)).bind fun i9 =>
     some ((⟨(),m1.ints,m1.boxes,m1.n,i9,m1.wild⟩:Gl05Made),i7)
    else
     Option.bind (
      if (r5 == 7)=true then
       some (decide (a2 > 0))
      else
       some false) fun j0 =>
     if j0=true then
      (bK m1.text (⟨#[105,102,32]⟩:ByteArray)).bind fun j1 =>
      (aN m1 q6).bind fun ⟨j2,j3⟩ =>
      (bK j1 j2).bind fun j4 =>
      (bK j4 (⟨#[32,60,32]⟩:ByteArray)).bind fun j5 =>
      (aN m1 j3).bind fun ⟨a9,b0⟩ =>
      (bK j5 a9).bind fun b1 =>
      (bK b1 (⟨#[32]⟩:ByteArray)).bind fun b2 =>
      (a0 (⟨(),m1.ints,m1.boxes,m1.n,b2,m1.wild⟩:Gl05Made) a2 (⟨#[]⟩:ByteArray) b0).bind fun ⟨a3,b3⟩ =>
      (bK a3.text (⟨#[101,108,115,101,32]⟩:ByteArray)).bind fun b4 =>
      (a0 (⟨(),a3.ints,a3.boxes,a3.n,b4,a3.wild⟩:Gl05Made) a2 (⟨#[]⟩:ByteArray) b3).bind fun ⟨b5,b6⟩ =>
      some (b5,b6)
     else
      Option.bind (
       if (r5 == 8)=true then
        some (decide (a2 > 0))
       else
        some false) fun b7 =>
      if b7=true then
       (bR m1 (⟨#[119]⟩:ByteArray) q6).bind fun ⟨a5,a4,b8⟩ =>
       (bK a4.text (⟨#[108,101,116,32]⟩:ByteArray)).bind fun b9 =>
       (bK b9 a5).bind fun c0 =>
       (bK c0 (⟨#[32,61,32,48,59,32,119,104,105,108,101,32]⟩:ByteArray)).bind fun c1 =>
       (bK c1 a5).bind fun c2 =>
       (bK c2 (⟨#[32,60,32]⟩:ByteArray)).bind fun c3 =>
       (fN b8 [(⟨#[48]⟩:ByteArray),(⟨#[49]⟩:ByteArray),(⟨#[50]⟩:ByteArray),(⟨#[51]⟩:ByteArray)]).bind fun ⟨c4,c5⟩ =>
       (bK c3 c4).bind fun c6 =>
       (bK c6 (⟨#[32]⟩:ByteArray)).bind fun c7 =>
       (bK a5 (⟨#[32,61,32]⟩:ByteArray)).bind fun c8 =>
       (bK c8 a5).bind fun c9 =>
       (bK c9 (⟨#[32,43,32,49,59,32]⟩:ByteArray)).bind fun d0 =>
       (a0 (⟨(),a4.ints,a4.boxes,a4.n,c7,a4.wild⟩:Gl05Made) a2 d0 c5).bind fun ⟨d1,d2⟩ =>
       some (d1,d2)
      else
       (fM m1 a8 q6).bind fun ⟨d3,d4⟩ =>
       some (d3,d4)
def fB (a0:Gl05Made→Int→Bool→Gl01Cur→Option (Gl05Made × Gl01Cur)) (a1:Int):(Int × Gl05Made × Gl01Cur)→Option ((Int × Gl05Made × Gl01Cur) ⊕ (Gl05Made × Gl01Cur)):=fun ⟨a2,a3,a5⟩ =>
 (bP a5 3).bind fun ⟨a6,a4⟩ =>
 if (decide (a2 < a6))=true then
  (a0 a3 (IntKind.wrap .i64 (a1 - 1)) false a4).bind fun ⟨a7,a8⟩ =>
  some (Sum.inl (IntKind.wrap .i64 (a2 + 1),a7,a8))
 else
  some (Sum.inr (a3,a4))
def eE (a0:Gl05Made→Int→Bool→Gl01Cur→Option (Gl05Made × Gl01Cur)) (a1:Gl05Made→Int→ByteArray→Gl01Cur→Option (Gl05Made × Gl01Cur)) (m1:Gl05Made) (a2:Int) (a3:ByteArray) (m4:Gl01Cur):Option (Gl05Made × Gl01Cur) :=
 (bW 16 [] m1.ints).bind fun l5 =>
 (bW 16 [] m1.boxes).bind fun l6 =>
 (bK m1.text (⟨#[123,32]⟩:ByteArray)).bind fun t7 =>
 Option.bind (
  aJ (fB a0 a2) ((0:Int),(⟨(),m1.ints,m1.boxes,m1.n,t7,m1.wild⟩:Gl05Made),m4)) fun ⟨a4,a5⟩ =>
 (bK a4.text a3).bind fun a6 =>
 (bK a6 (⟨#[125,32]⟩:ByteArray)).bind fun a7 =>
 some ((⟨(),m1.ints,m1.boxes,a4.n,a7,a4.wild⟩:Gl05Made),a5)
def aP:Nat→(Gl05Made→Int→Bool→Gl01Cur→Option (Gl05Made × Gl01Cur)) × (Gl05Made→Int→ByteArray→Gl01Cur→Option (Gl05Made × Gl01Cur))
 | 0=>(fun _ _ _ _=>none,fun _ _ _ _=>none)
 | n + 1=>(eX ((aP n).1) ((aP n).2),eE ((aP n).1) ((aP n).2))
def pT:Gl05Made→Int→Bool→Gl01Cur→Option (Gl05Made × Gl01Cur):=(aP bV).1
def kV (a0:Int):(Int × Gl05Made × Gl01Cur)→Option ((Int × Gl05Made × Gl01Cur) ⊕ (Gl05Made × Gl01Cur)):=fun ⟨i9,a1,a3⟩ =>
 (bP a3 a0).bind fun ⟨a4,a2⟩ =>
 if (decide (i9 < IntKind.wrap .i64 (2 + a4)))=true then
  (pT a1 2 true a2).bind fun ⟨a5,a6⟩ =>
  some (Sum.inl (IntKind.wrap .i64 (i9 + 1),a5,a6))
 else
  some (Sum.inr (a1,a2))
def mM (c1:Gl01Cur) (a0:Int):Option (ByteArray × Gl01Cur) :=
 (eM c1 6).bind fun ⟨r3,q4⟩ =>
 Option.bind (
  aJ (kV a0) ((0:Int),(⟨(),[],[],0,(⟨#[102,110,32,115,117,109,40,97,58,32,105,110,116,44,32,98,58,32,105,110,116,41,32,45,62,32,105,110,116,32,123,32,114,101,116,32,97,32,43,32,98,59,32,125,32,102,110,32,115,104,111,119,40,114,58,32,38,98,111,120,41,32,123,32,112,114,105,110,116,32,42,114,59,32,125,32,102,110,32,98,117,109,112,40,109,58,32,38,109,117,116,32,98,111,120,44,32,110,58,32,105,110,116,41,32,123,32,42,109,32,61,32,42,109,32,43,32,110,59,32,125,32,102,110,32,109,97,107,101,40,110,58,32,105,110,116,41,32,45,62,32,98,111,120,32,123,32,108,101,116,32,118,32,61,32,110,101,119,32,110,59,32,114,101,116,32,118,59,32,125,32,102,110,32,101,97,116,40,98,58,32,98,111,120,41,32,123,32,112,114,105,110,116,32,42,98,59,32,125,32,102,110,32,109,97,105,110,40,41,32,123,32]⟩:ByteArray),r3⟩:Gl05Made),q4)) fun ⟨a1,a2⟩ =>
 (bK a1.text (⟨#[125]⟩:ByteArray)).bind fun a3 =>
 some (a3,a2)
def gD (c1:Gl01Cur):Option (GProgram × Gl01Cur) :=
 (mM c1 9).bind fun ⟨r2,q3⟩ =>
 (bX r2).bind fun ⟨r5,r6⟩ =>
 if (!r6)=true then
  (bX (⟨#[102,110,32,109,97,105,110,40,41,32,123,32,108,101,116,32,97,32,61,32,110,101,119,32,51,59,32,108,101,116,32,98,32,61,32,99,108,111,110,101,32,97,59,32,112,114,105,110,116,32,42,98,59,32,100,111,32,115,104,111,119,40,38,97,41,59,32,125]⟩:ByteArray)).bind fun ⟨a0,a2⟩ =>
  if ((a0.Nodes.length:Int) == 0)=true then
   (bX (⟨#[102,110,32,109,97,105,110,40,41,32,123,32,112,114,105,110,116,32,49,59,32,125]⟩:ByteArray)).bind fun ⟨a1,a3⟩ =>
   some (a1,q3)
  else
   some (a0,q3)
 else
  some (r5,q3)
def nQ (c1:Gl01Cur):Option (GProgram × Gl01Cur) :=
 (bP c1 14).bind fun ⟨r2,q3⟩ =>
 (bP q3 200).bind fun ⟨r5,q6⟩ =>
 (gD q6).bind fun ⟨r8,q9⟩ =>
 (gQ r8).bind fun a0 =>
 (aCd r5 (a0.Nodes.length:Int)).bind fun a1 =>
 if (r2 == 0)=true then
  (aY a0.Nodes a1).bind fun a7 =>
  bF (List.set a0.Nodes a1.toNat (⟨Int.tmod r5 22,a7.Num,a7.Name,a7.Kids⟩:GNode)) fun b4 =>
  some ((⟨b4,a0.Fns⟩:GProgram),q9)
 else
  if (r2 == 1)=true then
   (aY [(-1),5,1000000001] (Int.tmod r5 3)).bind fun b5 =>
   (aY a0.Nodes a1).bind fun a8 =>
   bF (List.set a0.Nodes a1.toNat (⟨a8.Kind,b5,a8.Name,a8.Kids⟩:GNode)) fun b6 =>
   some ((⟨b6,a0.Fns⟩:GProgram),q9)
  else
   if (r2 == 2)=true then
    (aY [(⟨#[]⟩:ByteArray),(⟨#[97]⟩:ByteArray),(⟨#[76,101,116]⟩:ByteArray),(⟨#[102,110]⟩:ByteArray)] (Int.tmod r5 4)).bind fun b7 =>
    (aY a0.Nodes a1).bind fun a9 =>
    bF (List.set a0.Nodes a1.toNat (⟨a9.Kind,a9.Num,b7,a9.Kids⟩:GNode)) fun b8 =>
    some ((⟨b8,a0.Fns⟩:GProgram),q9)
   else
    if (r2 == 3)=true then
     (aY a0.Nodes a1).bind fun a3 =>
     (bW 8 a3.Kids [Int.tmod r5 9]).bind fun b9 =>
     bF (List.set a0.Nodes a1.toNat (⟨a3.Kind,a3.Num,a3.Name,b9⟩:GNode)) fun c0 =>
     some ((⟨c0,a0.Fns⟩:GProgram),q9)
    else
     if (r2 == 4)=true then
      (aCd r5 (a0.Fns.length:Int)).bind fun b0 =>
      (aY a0.Fns b0).bind fun a4 =>
      bF (List.set a0.Fns b0.toNat (⟨a4.Name,a4.Params,a4.Res,a1,a4.Ret⟩:GFn)) fun c2 =>
      some ((⟨a0.Nodes,c2⟩:GProgram),q9)
     else
      if (r2 == 5)=true then
       (aCd r5 (a0.Fns.length:Int)).bind fun b1 =>
       (aY a0.Fns b1).bind fun a5 =>
       bF (List.set a0.Fns b1.toNat (⟨a5.Name,a5.Params,a5.Res,a5.Body,a1⟩:GFn)) fun c3 =>
       some ((⟨a0.Nodes,c3⟩:GProgram),q9)
      else
       if (r2 == 6)=true then
        (aCd r5 (a0.Fns.length:Int)).bind fun b2 =>
        (aY a0.Fns b2).bind fun a6 =>
        bF (List.set a0.Fns b2.toNat (⟨(⟨#[115,104,111,119]⟩:ByteArray),a6.Params,a6.Res,a6.Body,a6.Ret⟩:GFn)) fun c4 =>
        some ((⟨a0.Nodes,c4⟩:GProgram),q9)
       else
        if (r2 == 7)=true then
         (aCd r5 (a0.Fns.length:Int)).bind fun b3 =>
         (aY a0.Fns b3).bind fun a2 =>
         (bW 24 a2.Params [(⟨(⟨#[122,122]⟩:ByteArray),Int.tmod r5 6⟩:GParam)]).bind fun c5 =>
         bF (List.set a0.Fns b3.toNat (⟨a2.Name,c5,a2.Res,a2.Body,a2.Ret⟩:GFn)) fun c6 =>
         some ((⟨a0.Nodes,c6⟩:GProgram),q9)
        else
         some (a0,q9)
def iP:(ByteArray × Int × Gl01Cur)→Option ((ByteArray × Int × Gl01Cur) ⊕ (ByteArray × Gl01Cur)):=fun ⟨a0,a1,a3⟩ =>
 (bP a3 4).bind fun ⟨a4,a2⟩ =>
 if (decide (a1 < a4))=true then
  (fN a2 [(⟨#[112,114,105,110,116,32,97,32,43,32,49,32,43,32,50,59]⟩:ByteArray),(⟨#[112,114,105,110,116,32,49,32,43,32,50,32,43,32,97,59]⟩:ByteArray),(⟨#[105,102,32,49,32,61,61,32,49,32,123,32,112,114,105,110,116,32,52,32,43,32,53,59,32,125,32,101,108,115,101,32,123,32,112,114,105,110,116,32,54,59,32,125]⟩:ByteArray),(⟨#[119,104,105,108,101,32,48,32,123,32,112,114,105,110,116,32,49,59,32,125]⟩:ByteArray),(⟨#[97,32,61,32,55,32,43,32,40,49,32,60,32,50,41,59]⟩:ByteArray),(⟨#[108,101,116,32,98,32,61,32,110,101,119,32,50,32,43,32,51,59,32,112,114,105,110,116,32,42,98,59]⟩:ByteArray),(⟨#[112,114,105,110,116,32,105,110,112,117,116,59]⟩:ByteArray)]).bind fun ⟨a5,a6⟩ =>
  (bK a0 a5).bind fun a7 =>
  (bK a7 (⟨#[32]⟩:ByteArray)).bind fun a8 =>
  some (Sum.inl (a8,IntKind.wrap .i64 (a1 + 1),a6))
 else
  some (Sum.inr (a0,a2))
def iU (c1:Gl01Cur):Option (GProgram × Gl01Cur) :=
 (fN c1 [(⟨#[49,32,43,32,50]⟩:ByteArray),(⟨#[51]⟩:ByteArray),(⟨#[49,32,43,32,50,32,43,32,51]⟩:ByteArray),(⟨#[50,32,60,32,51]⟩:ByteArray),(⟨#[49,48,48,48,48,48,48,48,48,48,32,43,32,49]⟩:ByteArray)]).bind fun ⟨r2,q3⟩ =>
 (bK (⟨#[102,110,32,109,97,105,110,40,41,32,123,32,108,101,116,32,97,32,61,32]⟩:ByteArray) r2).bind fun t5 =>
 (bK t5 (⟨#[59,32]⟩:ByteArray)).bind fun t6 =>
 Option.bind (
  aJ (iP) (t6,(0:Int),q3)) fun ⟨a1,a0⟩ =>
 (bK a1 (⟨#[125]⟩:ByteArray)).bind fun a2 =>
 (bX a2).bind fun ⟨a3,a4⟩ =>
 if (!a4)=true then
  (gD a0).bind fun ⟨a5,a6⟩ =>
  some (a5,a6)
 else
  some (a3,a0)
def lX (c1:Gl01Cur):Option (GProgram × Gl01Cur) :=
 (eM c1 3).bind fun ⟨r2,q3⟩ =>
 if r2=true then
  (nQ q3).bind fun ⟨r7,q8⟩ =>
  some (r7,q8)
 else
  (iU q3).bind fun ⟨a0,a1⟩ =>
  some (a0,a1)
def mF (a0:List Int):(Int × Int)→Option ((Int × Int) ⊕ (Int)):=fun ⟨h5,i6⟩ =>
 Option.bind (
  if (decide (i6 < (a0.length:Int)))=true then
   some (decide (i6 < 4000))
  else
   some false) fun a1 =>
 if a1=true then
  (aY a0 i6).bind fun a2 =>
  some (Sum.inl (bits .and .i64 (IntKind.wrap .i64 ((IntKind.wrap .i64 ((IntKind.wrap .i64 (h5 * 131)) + (IntKind.wrap .i64 a2))) + 7)) 1073741823,IntKind.wrap .i64 (i6 + 1)))
 else
  some (Sum.inr h5)
def lY (a0:List Int):Option (Gl01Cur) :=
 Option.bind (
  aJ (mF a0) (IntKind.wrap .i64 (78201 + (a0.length:Int)),(0:Int))) fun a1 =>
 some (⟨a0,0,a1⟩:Gl01Cur)
def mL (a0:List Int):Option (GProgram × Int) :=
 (lY a0).bind fun r2 =>
 (bP r2 200).bind fun ⟨r4,q5⟩ =>
 (lX q5).bind fun ⟨r7,q8⟩ =>
 (aCd r4 (IntKind.wrap .i64 ((r7.Nodes.length:Int) + 2))).bind fun a1 =>
 some (r7,IntKind.wrap .i64 (a1 - 1))
def iC (a0:List Int):Option (GProgram × Int) :=
 (mL a0).bind fun ⟨r2,r3⟩ =>
 some (r2,r3)
def eZ (n1:Int) (a1:Int) (a0:Int):Option (Bool) :=
 Option.bind (
  if (decide (n1 ≥ a1))=true then
   some (decide (n1 ≤ a0))
  else
   some false) fun v8 =>
 some v8
def jT (b1:Int):Option (Bool) :=
 Option.bind (
  if (decide (b1 ≥ 97))=true then
   some (decide (b1 ≤ 122))
  else
   some false) fun v6 =>
 some v6
def lE (b1:Int):Option (Bool) :=
 Option.bind (
  if (decide (b1 ≥ 48))=true then
   some (decide (b1 ≤ 57))
  else
   some false) fun v6 =>
 some v6
def nL (s1:ByteArray) (r6:List ByteArray):Int→Option ((Int) ⊕ ((Unit) ⊕ (Bool))):=fun v8 =>
 if (decide (v8 < (r6.length:Int)))=true then
  (aY r6 v8).bind fun a0 =>
  if (sEq a0 s1)=true then
   some (Sum.inr (Sum.inr true))
  else
   some (Sum.inl (IntKind.wrap .i64 (v8 + 1)))
 else
  some (Sum.inr (Sum.inl ()))
def sW (s1:ByteArray) (a0:ByteArray):Option (Bool) :=
 Option.bind (
  (strings_Split a0 (⟨#[32]⟩:ByteArray)).bind fun r6 =>
  aJ (nL s1 r6) (0:Int)) fun j5 =>
 match j5 with
 | Sum.inr z=>some z
 | Sum.inl () =>
  some false
def mZ (s1:ByteArray):Option (Bool) :=
 (sW s1 (⟨#[102,110,32,108,101,116,32,105,102,32,101,108,115,101,32,119,104,105,108,101,32,112,114,105,110,116,32,100,111,32,110,101,119,32,99,108,111,110,101,32,109,117,116,32,105,110,112,117,116,32,105,110,116,32,98,111,120,32,114,101,116]⟩:ByteArray)).bind fun r2 =>
 some r2
def kI (s1:ByteArray):Int→Option ((Int) ⊕ ((Unit) ⊕ (Bool))):=fun a0 =>
 if (decide (a0 < (s1.size:Int)))=true then
  Option.bind (
   (sAt s1 a0).bind fun a1 =>
   (jT a1).bind fun a2 =>
   if (!a2)=true then
    (lE a1).bind fun a3 =>
    some (!a3)
   else
    some false) fun a4 =>
  if a4=true then
   some (Sum.inr (Sum.inr false))
  else
   some (Sum.inl (IntKind.wrap .i64 (a0 + 1)))
 else
  some (Sum.inr (Sum.inl ()))
def kN (s1:ByteArray):Option (Bool) :=
 Option.bind (
  (eZ (s1.size:Int) 1 8).bind fun r4 =>
  if (!r4)=true then
   some true
  else
   (sAt s1 0).bind fun c8 =>
   (jT c8).bind fun r9 =>
   some (!r9)) fun a0 =>
 if a0=true then
  some false
 else
  Option.bind (
   aJ (kI s1) (0:Int)) fun a1 =>
  match a1 with
  | Sum.inr z=>some z
  | Sum.inl () =>
   (mZ s1).bind fun a2 =>
   some (!a2)
def qC (a0:Int):Option (Int × Int) :=
 Option.bind (
  if (a0 == 8)=true then
   some (a0 == 8)
  else
   if (a0 == 13)=true then
    some (a0 == 13)
   else
    if (a0 == 14)=true then
     some (a0 == 14)
    else
     if (a0 == 15)=true then
      some (a0 == 15)
     else
      if (a0 == 18)=true then
       some (a0 == 18)
      else
       some (a0 == 19)) fun a1 =>
 if a1=true then
  some (1,1)
 else
  Option.bind (
   if (a0 == 9)=true then
    some (a0 == 9)
   else
    if (a0 == 10)=true then
     some (a0 == 10)
    else
     if (a0 == 11)=true then
      some (a0 == 11)
     else
      some (a0 == 17)) fun a2 =>
  if a2=true then
   some (2,2)
  else
   if (a0 == 16)=true then
    some (3,3)
   else
    if (a0 == 12)=true then
     some (0,3)
    else
     if (a0 == 20)=true then
      some (0,12)
     else
      some (0,0)
def kD (l1:List Int) (n2:Int):Int→Option ((Int) ⊕ ((Unit) ⊕ (Bool))):=fun v6 =>
 if (decide (v6 < (l1.length:Int)))=true then
  (aY l1 v6).bind fun a0 =>
  if (a0 == n2)=true then
   some (Sum.inr (Sum.inr true))
  else
   some (Sum.inl (IntKind.wrap .i64 (v6 + 1)))
 else
  some (Sum.inr (Sum.inl ()))
def oD (l1:List Int) (n2:Int):Option (Bool) :=
 Option.bind (
  aJ (kD l1 n2) (0:Int)) fun j5 =>
 match j5 with
 | Sum.inr z=>some z
 | Sum.inl () =>
  some false
def kT (a0:Int):Option (Bool) :=
 (eZ a0 1 12).bind fun r2 =>
 some r2
def oC (a0:Int):Option (Bool) :=
 (eZ a0 13 19).bind fun r2 =>
 some r2
def mW (a0:Int) (i2:Int) (a1:Int):Option (Bool) :=
 if (a0 == 20)=true then
  (oC a1).bind fun r6 =>
  some r6
 else
  Option.bind (
   if (a0 == 16)=true then
    some (decide (i2 > 0))
   else
    if (a0 == 17)=true then
     some (decide (i2 > 0))
    else
     some false) fun a2 =>
  if a2=true then
   some (a1 == 20)
  else
   if (a0 == 19)=true then
    some (a1 == 12)
   else
    (kT a1).bind fun a3 =>
    some a3
def mX (a0:Int):Option (Bool) :=
 Option.bind (
  (eZ a0 2 6).bind fun r4 =>
  if r4=true then
   some true
  else
   (eZ a0 12 15).bind fun r8 =>
   some r8) fun a1 =>
 some a1
def kH (a0:List GNode) (k2:Int) (e7:GNode):Int→Option ((Int) ⊕ ((Unit) ⊕ (Bool))):=fun a1 =>
 if (decide (a1 < (e7.Kids.length:Int)))=true then
  (aY e7.Kids a1).bind fun a2 =>
  Option.bind (
   (eZ a2 0 (IntKind.wrap .i64 (k2 - 1))).bind fun a3 =>
   if (!a3)=true then
    some true
   else
    (fE e7.Kids 0 a1).bind fun a4 =>
    (oD a4 a2).bind fun a5 =>
    if a5=true then
     some true
    else
     (aY a0 a2).bind fun a6 =>
     (mW e7.Kind a1 a6.Kind).bind fun a7 =>
     some (!a7)) fun a8 =>
  if a8=true then
   some (Sum.inr (Sum.inr false))
  else
   some (Sum.inl (IntKind.wrap .i64 (a1 + 1)))
 else
  some (Sum.inr (Sum.inl ()))
def oH (a0:List GNode) (k2:Int):Option (Bool) :=
 (eZ k2 0 (IntKind.wrap .i64 ((a0.length:Int) - 1))).bind fun r3 =>
 if (!r3)=true then
  some false
 else
  (aY a0 k2).bind fun e7 =>
  (qC e7.Kind).bind fun ⟨r8,r9⟩ =>
  Option.bind (
   (eZ e7.Kind 1 20).bind fun a1 =>
   if (!a1)=true then
    some true
   else
    (eZ (e7.Kids.length:Int) r8 r9).bind fun a2 =>
    some (!a2)) fun a3 =>
  if a3=true then
   some false
  else
   Option.bind (
    aJ (kH a0 k2 e7) (0:Int)) fun a4 =>
   match a4 with
   | Sum.inr z=>some z
   | Sum.inl () =>
    Option.bind (
     if (e7.Kind == 1)=true then
      (eZ e7.Num 0 1000000000).bind fun a5 =>
      if (!a5)=true then
       some true
      else
       some false
     else
      some (e7.Num != 0)) fun a6 =>
    if a6=true then
     some false
    else
     (mX e7.Kind).bind fun a7 =>
     if a7=true then
      (kN e7.Name).bind fun a8 =>
      some a8
     else
      some (sEq e7.Name (⟨#[]⟩:ByteArray))
def iI (a0:List Int) (a3:GNode):(Int × Int)→Option ((Int × Int) ⊕ (Int)):=fun ⟨a1,a2⟩ =>
 if (decide (a2 < (a3.Kids.length:Int)))=true then
  (aY a3.Kids a2).bind fun a5 =>
  (aY a0 a5).bind fun a4 =>
  some (Sum.inl (if IntKind.wrap .i64 (a4 + 1) > a1 then IntKind.wrap .i64 (a4 + 1) else a1,IntKind.wrap .i64 (a2 + 1)))
 else
  some (Sum.inr a1)
def kE (a0:List GNode) (k2:Int):((List Int) × Int)→Option (((List Int) × Int) ⊕ ((List Int) ⊕ ((List Int) × Bool))):=fun ⟨a1,a3⟩ =>
 if (decide (a3 ≤ k2))=true then
  Option.bind (
   (oH a0 a3).bind fun a5 =>
   if (!a5)=true then
    some (Sum.inr (Sum.inr (Sum.inr ([],false))))
   else
    Option.bind (
     (aY a0 a3).bind fun a6 =>
     aJ (iI a1 a6) ((1:Int),(0:Int))) fun a4 =>
    if (decide (a4 > 10))=true then
     some (Sum.inr (Sum.inr (Sum.inr ([],false))))
    else
     (bW 8 a1 [a4]).bind fun a7 =>
     some (Sum.inl a7)) fun a8 =>
  match a8 with
  | Sum.inr z=>some z
  | Sum.inl a2 =>
   some (Sum.inl (a2,IntKind.wrap .i64 (a3 + 1)))
 else
  some (Sum.inr (Sum.inl a1))
def oE (a0:List GNode) (k2:Int):Option ((List Int) × Bool) :=
 (eZ k2 0 (IntKind.wrap .i64 ((a0.length:Int) - 1))).bind fun r3 =>
 if (!r3)=true then
  some ([],false)
 else
  Option.bind (
   aJ (kE a0 k2) ([],(0:Int))) fun j9 =>
  match j9 with
  | Sum.inr z=>some z
  | Sum.inl a1 =>
   some (a1,true)
def mD (a0:List GNode) (k2:Int):Option (Int) :=
 (oE a0 k2).bind fun ⟨r3,r4⟩ =>
 if (!r4)=true then
  some 0
 else
  (aY r3 k2).bind fun e8 =>
  some e8
def vB (a0:Bool):Option (Int) :=
 if a0=true then
  some 1
 else
  some 0
def kG (a0:GProgram→Int→Option (Int × Bool)) (p1:GProgram) (k2:Int):Option (Int × Bool) :=
 (aY p1.Nodes k2).bind fun e3 =>
 if (e3.Kind == 1)=true then
  some (e3.Num,true)
 else
  (eZ e3.Kind 9 11).bind fun r6 =>
  if (!r6)=true then
   some (0,false)
  else
   (aY e3.Kids 0).bind fun a3 =>
   (a0 p1 a3).bind fun ⟨a1,a4⟩ =>
   (aY e3.Kids 1).bind fun a5 =>
   (a0 p1 a5).bind fun ⟨a2,a6⟩ =>
   Option.bind (
    if (!a4)=true then
     some true
    else
     some (!a6)) fun a7 =>
   if a7=true then
    some (0,false)
   else
    if (e3.Kind == 9)=true then
     if (decide (IntKind.wrap .i64 (a1 + a2) > 1000000000))=true then
      some (0,false)
     else
      some (IntKind.wrap .i64 (a1 + a2),true)
    else
     if (e3.Kind == 10)=true then
      (vB (decide (a1 < a2))).bind fun a8 =>
      some (a8,true)
     else
      (vB (a1 == a2)).bind fun a9 =>
      some (a9,true)
def iE:Nat→GProgram→Int→Option (Int × Bool)
 | 0=>fun _ _=>none
 | n + 1=>kG (iE n)
def oX:GProgram→Int→Option (Int × Bool):=(iE bV)
def eN (p1:GProgram) (k2:Int):Option (Int × Bool) :=
 (mD p1.Nodes k2).bind fun r3 =>
 if (r3 == 0)=true then
  some (0,false)
 else
  (oX p1 k2).bind fun ⟨r7,r8⟩ =>
  some (r7,r8)
def nU (a0:List GNode) (k2:Int):Option (Int) :=
 (bY k2 0 (IntKind.wrap .i64 ((a0.length:Int) - 1))).bind fun r3 =>
 if (!r3)=true then
  some 0
 else
  (jO a0 k2).bind fun r7 =>
  (aY r7 k2).bind fun e9 =>
  some e9
def iV (a0:(List GNode)→Int→Option (Int × Bool)) (a1:List GNode) (k2:Int):Option (Int × Bool) :=
 (aY a1 k2).bind fun e3 =>
 if (e3.Kind == 1)=true then
  some (e3.Num,true)
 else
  Option.bind (
   if (e3.Kind == 9)=true then
    some (e3.Kind == 9)
   else
    if (e3.Kind == 10)=true then
     some (e3.Kind == 10)
    else
     some (e3.Kind == 11)) fun a5 =>
  if a5=true then
   (aY e3.Kids 0).bind fun a6 =>
   (a0 a1 a6).bind fun ⟨a2,a7⟩ =>
   (aY e3.Kids 1).bind fun a8 =>
   (a0 a1 a8).bind fun ⟨a3,a9⟩ =>
   Option.bind (
    if (!a7)=true then
     some true
    else
     some (!a9)) fun b0 =>
   if b0=true then
    some (0,false)
   else
    Option.bind (
     if (e3.Kind == 9)=true then
      some (IntKind.wrap .i64 (a2 + a3))
     else
      Option.bind (
       if (e3.Kind == 10)=true then
        if (decide (a2 < a3))=true then
         some true
        else
         some false
       else
        if (e3.Kind == 11)=true then
         some (a2 == a3)
        else
         some false) fun b1 =>
      if b1=true then
       some (1:Int)
      else
       some (0:Int)) fun a4 =>
    if (decide (a4 > 1000000000))=true then
     some (0,false)
    else
     some (a4,true)
  else
   some (0,false)
def gC:Nat→(List GNode)→Int→Option (Int × Bool)
 | 0=>fun _ _=>none
 | n + 1=>iV (gC n)
def kU:(List GNode)→Int→Option (Int × Bool):=(gC bV)
def kR (p1:GProgram) (k2:Int):Option (Int × Bool) :=
 (nU p1.Nodes k2).bind fun r3 =>
 if (r3 == 0)=true then
  some (0,false)
 else
  (kU p1.Nodes k2).bind fun ⟨r7,r8⟩ =>
  some (r7,r8)
def jG (a0:List Int):Option (GProgram) :=
 (lY a0).bind fun r2 =>
 (lX r2).bind fun ⟨r4,q5⟩ =>
 some r4
def eB (p1:GProgram) (k2:Int):Option (Bool) :=
 (eN p1 k2).bind fun ⟨r3,r4⟩ =>
 Option.bind (
  if r4=true then
   (aY p1.Nodes k2).bind fun a0 =>
   (eZ a0.Kind 9 11).bind fun a1 =>
   some a1
  else
   some false) fun a2 =>
 some a2
def lB (p1:GProgram) (k2:Int):Option (Bool) :=
 (kR p1 k2).bind fun ⟨r3,r4⟩ =>
 Option.bind (
  if r4=true then
   (aY p1.Nodes k2).bind fun a0 =>
   some (a0.Kind != 1)
  else
   some false) fun a1 =>
 some a1
def mY (f2:GFn):Int→Option ((Int) ⊕ ((Unit) ⊕ (Bool))):=fun a0 =>
 if (decide (a0 < (f2.Params.length:Int)))=true then
  (aY f2.Params a0).bind fun a1 =>
  Option.bind (
   (kN a1.Name).bind fun a2 =>
   if (!a2)=true then
    some true
   else
    (eZ a1.Typ 1 4).bind fun a3 =>
    some (!a3)) fun a4 =>
  if a4=true then
   some (Sum.inr (Sum.inr false))
  else
   some (Sum.inl (IntKind.wrap .i64 (a0 + 1)))
 else
  some (Sum.inr (Sum.inl ()))
def rX (p1:GProgram) (f2:GFn):Option (Bool) :=
 Option.bind (
  (kN f2.Name).bind fun r5 =>
  if (!r5)=true then
   some true
  else
   if (decide ((f2.Params.length:Int) > 3))=true then
    some true
   else
    if (f2.Res != 0)=true then
     if (f2.Res != 1)=true then
      some (f2.Res != 2)
     else
      some false
    else
     some false) fun a0 =>
 if a0=true then
  some false
 else
  Option.bind (
   aJ (mY f2) (0:Int)) fun a1 =>
  match a1 with
  | Sum.inr z=>some z
  | Sum.inl () =>
   Option.bind (
    (eZ f2.Body 0 (IntKind.wrap .i64 ((p1.Nodes.length:Int) - 1))).bind fun a2 =>
    if (!a2)=true then
     some true
    else
     (aY p1.Nodes f2.Body).bind fun a3 =>
     some (a3.Kind != 20)) fun a4 =>
   if a4=true then
    some false
   else
    if (f2.Res == 0)=true then
     some (f2.Ret == (-1))
    else
     Option.bind (
      (eZ f2.Ret 0 (IntKind.wrap .i64 ((p1.Nodes.length:Int) - 1))).bind fun a5 =>
      if a5=true then
       (aY p1.Nodes f2.Ret).bind fun a6 =>
       (kT a6.Kind).bind fun a7 =>
       some a7
      else
       some false) fun a8 =>
     some a8
def nB (p1:GProgram) (a0:ByteArray):Int→Option ((Int) ⊕ ((Unit) ⊕ (Int))):=fun v6 =>
 if (decide (v6 < (p1.Fns.length:Int)))=true then
  (aY p1.Fns v6).bind fun a1 =>
  if (sEq a1.Name a0)=true then
   some (Sum.inr (Sum.inr v6))
  else
   some (Sum.inl (IntKind.wrap .i64 (v6 + 1)))
 else
  some (Sum.inr (Sum.inl ()))
def rY (p1:GProgram) (a0:ByteArray):Option (Int) :=
 Option.bind (
  aJ (nB p1 a0) (0:Int)) fun j5 =>
 match j5 with
 | Sum.inr z=>some z
 | Sum.inl () =>
  some (-1)
def gK (a2:GNode):((List Int) × Int)→Option (((List Int) × Int) ⊕ (List Int)):=fun ⟨a0,a1⟩ =>
 if (decide (a1 < (a2.Kids.length:Int)))=true then
  (aY a2.Kids a1).bind fun a3 =>
  (aY a0 a3).bind fun a4 =>
  bF (List.set a0 a3.toNat (IntKind.wrap .i64 (a4 + 1))) fun a5 =>
  some (Sum.inl (a5,IntKind.wrap .i64 (a1 + 1)))
 else
  some (Sum.inr a0)
def gL (p1:GProgram):((List Int) × Int)→Option (((List Int) × Int) ⊕ (List Int)):=fun ⟨a0,a2⟩ =>
 if (decide (a2 < (p1.Nodes.length:Int)))=true then
  Option.bind (
   (aY p1.Nodes a2).bind fun a3 =>
   aJ (gK a3) (a0,(0:Int))) fun a1 =>
  some (Sum.inl (a1,IntKind.wrap .i64 (a2 + 1)))
 else
  some (Sum.inr a0)
def bD (a1:GFn):((List Int) × Int)→Option (((List Int) × Int) ⊕ ((List Int) ⊕ (((List Int) × Int) ⊕ ((List Int) ⊕ (Bool))))):=fun ⟨a0,a2⟩ =>
 if (decide (a2 < ([a1.Body,a1.Ret].length:Int)))=true then
  (aY [a1.Body,a1.Ret] a2).bind fun a3 =>
  if (decide (a3 < 0))=true then
   some (Sum.inl (a0,IntKind.wrap .i64 (a2 + 1)))
  else
   (aY a0 a3).bind fun a4 =>
   if (a4 != 0)=true then
    some (Sum.inr (Sum.inr (Sum.inr (Sum.inr false))))
   else
    (aY a0 a3).bind fun a6 =>
    bF (List.set a0 a3.toNat (-1)) fun a5 =>
    some (Sum.inl (a5,IntKind.wrap .i64 (a2 + 1)))
 else
  some (Sum.inr (Sum.inl a0))
def eU (p1:GProgram):((List Int) × Int)→Option (((List Int) × Int) ⊕ ((List Int) ⊕ (Bool))):=fun ⟨a0,a2⟩ =>
 if (decide (a2 < (p1.Fns.length:Int)))=true then
  Option.bind (
   (aY p1.Fns a2).bind fun a3 =>
   Option.bind (
    (rX p1 a3).bind fun a4 =>
    if (!a4)=true then
     some true
    else
     (rY p1 a3.Name).bind fun a5 =>
     some (a5 != a2)) fun a6 =>
   if a6=true then
    some (Sum.inr (Sum.inr (Sum.inr false)))
   else
    aJ (bD a3) (a0,(0:Int))) fun a7 =>
  match a7 with
  | Sum.inr z=>some z
  | Sum.inl a1 =>
   some (Sum.inl (a1,IntKind.wrap .i64 (a2 + 1)))
 else
  some (Sum.inr (Sum.inl a0))
def gJ (a0:List Int):Int→Option ((Int) ⊕ ((Unit) ⊕ (Bool))):=fun a2 =>
 if (decide (a2 < (a0.length:Int)))=true then
  (aY a0 a2).bind fun a1 =>
  Option.bind (
   if (a1 != 1)=true then
    some (a1 != (-1))
   else
    some false) fun a3 =>
  if a3=true then
   some (Sum.inr (Sum.inr false))
  else
   some (Sum.inl (IntKind.wrap .i64 (a2 + 1)))
 else
  some (Sum.inr (Sum.inl ()))
def iJ (p1:GProgram):Option (Bool) :=
 Option.bind (
  (eZ (p1.Nodes.length:Int) 1 300).bind fun r4 =>
  if (!r4)=true then
   some true
  else
   (eZ (p1.Fns.length:Int) 1 8).bind fun r8 =>
   if (!r8)=true then
    some true
   else
    (mD p1.Nodes (IntKind.wrap .i64 ((p1.Nodes.length:Int) - 1))).bind fun a2 =>
    some (a2 == 0)) fun a3 =>
 if a3=true then
  some false
 else
  (mkI 8 (p1.Nodes.length:Int) 0).bind fun a4 =>
  Option.bind (
   aJ (gL p1) (a4,(0:Int))) fun a0 =>
  Option.bind (
   aJ (eU p1) (a0,(0:Int))) fun a5 =>
  match a5 with
  | Sum.inr z=>some z
  | Sum.inl a1 =>
   Option.bind (
    aJ (gJ a1) (0:Int)) fun a6 =>
   match a6 with
   | Sum.inr z=>some z
   | Sum.inl () =>
    some true
def cB (k8:Int) (a5:Bool) (a1:List Int) (a4:GNode):((List Bool) × Int)→Option (((List Bool) × Int) ⊕ ((List Bool) × (List Int))):=fun ⟨a0,a2⟩ =>
 if (decide (a2 < (a4.Kids.length:Int)))=true then
  (aY a4.Kids a2).bind fun a3 =>
  (aY a0 k8).bind fun a6 =>
  if a6=true then
   (aY a0 a3).bind fun a9 =>
   bF (List.set a0 a3.toNat true) fun a7 =>
   some (Sum.inl (a7,IntKind.wrap .i64 (a2 + 1)))
  else
   (aY a0 a3).bind fun b0 =>
   bF (List.set a0 a3.toNat a5) fun a8 =>
   some (Sum.inl (a8,IntKind.wrap .i64 (a2 + 1)))
 else
  some (Sum.inr (a0,a1))
def dH (p1:GProgram):((List Bool) × (List Int) × Int)→Option (((List Bool) × (List Int) × Int) ⊕ (List Int)):=fun ⟨a0,a2,k8⟩ =>
 if (decide (k8 ≥ 0))=true then
  Option.bind (
   (eB p1 k8).bind fun a5 =>
   Option.bind (
    Option.bind (
     if a5=true then
      (aY a0 k8).bind fun a6 =>
      some (!a6)
     else
      some false) fun a7 =>
    if a7=true then
     (bW 8 a2 [k8]).bind fun a8 =>
     some a8
    else
     some a2) fun a3 =>
   (aY p1.Nodes k8).bind fun a9 =>
   aJ (cB k8 a5 a3 a9) (a0,(0:Int))) fun ⟨a1,a4⟩ =>
  some (Sum.inl (a1,a4,IntKind.wrap .i64 (k8 - 1)))
 else
  some (Sum.inr a2)
def fV (p1:GProgram):Option (List Int) :=
 (mkI 1 (p1.Nodes.length:Int) false).bind fun l2 =>
 Option.bind (
  aJ (dH p1) (l2,[],IntKind.wrap .i64 ((p1.Nodes.length:Int) - 1))) fun a0 =>
 some a0
def nA (p1:GProgram):Option (Int) :=
 (iJ p1).bind fun r2 =>
 if (!r2)=true then
  some 0
 else
  (fV p1).bind fun r6 =>
  some (r6.length:Int)
def cR (p1:GProgram) (i8:Int) (a4:Bool) (a1:List Int):((List Bool) × Int)→Option (((List Bool) × Int) ⊕ ((List Bool) × (List Int))):=fun ⟨a0,a2⟩ =>
 (aY p1.Nodes i8).bind fun a5 =>
 if (decide (a2 < (a5.Kids.length:Int)))=true then
  (aY p1.Nodes i8).bind fun a6 =>
  (aY a6.Kids a2).bind fun a3 =>
  if a4=true then
   (aY a0 a3).bind fun b0 =>
   bF (List.set a0 a3.toNat true) fun a7 =>
   some (Sum.inl (a7,IntKind.wrap .i64 (a2 + 1)))
  else
   (aY a0 i8).bind fun a8 =>
   (aY a0 a3).bind fun b1 =>
   bF (List.set a0 a3.toNat a8) fun a9 =>
   some (Sum.inl (a9,IntKind.wrap .i64 (a2 + 1)))
 else
  some (Sum.inr (a0,a1))
def eC (p1:GProgram):((List Bool) × (List Int) × Int)→Option (((List Bool) × (List Int) × Int) ⊕ (List Int)):=fun ⟨a5,a0,i8⟩ =>
 if (decide (i8 ≥ 0))=true then
  Option.bind (
   (kU p1.Nodes i8).bind fun ⟨b1,a6⟩ =>
   Option.bind (
    if a6=true then
     (aY p1.Nodes i8).bind fun a7 =>
     some (a7.Kind != 1)
    else
     some false) fun a1 =>
   Option.bind (
    Option.bind (
     if a1=true then
      (aY a5 i8).bind fun a8 =>
      some (!a8)
     else
      some false) fun a9 =>
    if a9=true then
     (bW 8 a0 [i8]).bind fun b0 =>
     some b0
    else
     some a0) fun a2 =>
   aJ (cR p1 i8 a1 a2) (a5,(0:Int))) fun ⟨a4,a3⟩ =>
  some (Sum.inl (a4,a3,IntKind.wrap .i64 (i8 - 1)))
 else
  some (Sum.inr a0)
def iT (p1:GProgram):Option (List Int) :=
 (mkI 1 (p1.Nodes.length:Int) false).bind fun l2 =>
 Option.bind (
  aJ (eC p1) (l2,[],IntKind.wrap .i64 ((p1.Nodes.length:Int) - 1))) fun a0 =>
 some a0
def mR (p1:GProgram):Option (Int) :=
 (fT p1).bind fun r2 =>
 if (!r2)=true then
  some 0
 else
  (iT p1).bind fun r6 =>
  some (r6.length:Int)
def fJ (a1:List Int) (b2:List Int):Int→Option ((Int) ⊕ ((Unit) ⊕ (Bool))):=fun i8 =>
 if (decide (i8 < (a1.length:Int)))=true then
  (aY a1 i8).bind fun a0 =>
  (aY b2 i8).bind fun a2 =>
  if (a0 != a2)=true then
   some (Sum.inr (Sum.inr false))
  else
   some (Sum.inl (IntKind.wrap .i64 (i8 + 1)))
 else
  some (Sum.inr (Sum.inl ()))
def lD (a1:List Int) (b2:List Int):Option (Bool) :=
 if ((a1.length:Int) != (b2.length:Int))=true then
  some false
 else
  Option.bind (
   aJ (fJ a1 b2) (0:Int)) fun j7 =>
  match j7 with
  | Sum.inr z=>some z
  | Sum.inl () =>
   some true
def eS (a1:List GNode) (b2:List GNode):Int→Option ((Int) ⊕ ((Unit) ⊕ (Bool))):=fun i8 =>
 if (decide (i8 < (a1.length:Int)))=true then
  Option.bind (
   (aY a1 i8).bind fun a0 =>
   (aY b2 i8).bind fun a2 =>
   if (a0.Kind != a2.Kind)=true then
    some true
   else
    if (a0.Num != a2.Num)=true then
     some true
    else
     if (!(sEq a0.Name a2.Name))=true then
      some true
     else
      (lD a0.Kids a2.Kids).bind fun a3 =>
      some (!a3)) fun a4 =>
  if a4=true then
   some (Sum.inr (Sum.inr false))
  else
   some (Sum.inl (IntKind.wrap .i64 (i8 + 1)))
 else
  some (Sum.inr (Sum.inl ()))
def kB (a1:List GNode) (b2:List GNode):Option (Bool) :=
 if ((a1.length:Int) != (b2.length:Int))=true then
  some false
 else
  Option.bind (
   aJ (eS a1 b2) (0:Int)) fun j7 =>
  match j7 with
  | Sum.inr z=>some z
  | Sum.inl () =>
   some true
def eQ (a1:GFn) (a4:GFn):Int→Option ((Int) ⊕ ((Unit) ⊕ ((Int) ⊕ ((Unit) ⊕ (Bool))))):=fun a0 =>
 if (decide (a0 < (a1.Params.length:Int)))=true then
  (aY a1.Params a0).bind fun a2 =>
  (aY a4.Params a0).bind fun a3 =>
  if ((!(sEq a2.Name a3.Name)) || (a2.Typ != a3.Typ))=true then
   some (Sum.inr (Sum.inr (Sum.inr (Sum.inr false))))
  else
   some (Sum.inl (IntKind.wrap .i64 (a0 + 1)))
 else
  some (Sum.inr (Sum.inl ()))
def eR (a1:GProgram) (b2:GProgram):Int→Option ((Int) ⊕ ((Unit) ⊕ (Bool))):=fun a3 =>
 if (decide (a3 < (a1.Fns.length:Int)))=true then
  Option.bind (
   (aY a1.Fns a3).bind fun a0 =>
   (aY b2.Fns a3).bind fun a2 =>
   Option.bind (
    if (!(sEq a0.Name a2.Name))=true then
     some true
    else
     if (a0.Res != a2.Res)=true then
      some true
     else
      if (a0.Body != a2.Body)=true then
       some true
      else
       if (a0.Ret != a2.Ret)=true then
        some true
       else
        some ((a0.Params.length:Int) != (a2.Params.length:Int))) fun a4 =>
   if a4=true then
    some (Sum.inr (Sum.inr (Sum.inr false)))
   else
    aJ (eQ a0 a2) (0:Int)) fun a5 =>
  match a5 with
  | Sum.inr z=>some z
  | Sum.inl () =>
   some (Sum.inl (IntKind.wrap .i64 (a3 + 1)))
 else
  some (Sum.inr (Sum.inl ()))
def kA (a1:GProgram) (b2:GProgram):Option (Bool) :=
 Option.bind (
  (kB a1.Nodes b2.Nodes).bind fun r5 =>
  if (!r5)=true then
   some true
  else
   some ((a1.Fns.length:Int) != (b2.Fns.length:Int))) fun v9 =>
 if v9=true then
  some false
 else
  Option.bind (
   aJ (eR a1 b2) (0:Int)) fun a0 =>
  match a0 with
  | Sum.inr z=>some z
  | Sum.inl () =>
   some true
def lF (l1:List Int):Option (List Int) :=
 (bW 8 [] l1).bind fun l2 =>
 some l1
def gI (l1:List GNode):((List GNode) × Int)→Option (((List GNode) × Int) ⊕ (List GNode)):=fun ⟨a0,v6⟩ =>
 if (decide (v6 < (l1.length:Int)))=true then
  (aY l1 v6).bind fun a1 =>
  (lF a1.Kids).bind fun a2 =>
  (bW 56 a0 [(⟨a1.Kind,a1.Num,a1.Name,a2⟩:GNode)]).bind fun a3 =>
  some (Sum.inl (a3,IntKind.wrap .i64 (v6 + 1)))
 else
  some (Sum.inr a0)
def kF (l1:List GNode):Option (List GNode) :=
 Option.bind (
  aJ (gI l1) ([],(0:Int))) fun a0 =>
 some a0
def mC (f1:GFn):Option (GFn) :=
 (bW 24 [] f1.Params).bind fun l2 =>
 some f1
def dY (p1:GProgram):(Int × GProgram)→Option ((Int × GProgram) ⊕ (GProgram)):=fun ⟨v7,v8⟩ =>
 if (decide (v7 < (p1.Fns.length:Int)))=true then
  (aY p1.Fns v7).bind fun a0 =>
  (mC a0).bind fun a1 =>
  (bW 64 v8.Fns [a1]).bind fun a2 =>
  some (Sum.inl (IntKind.wrap .i64 (v7 + 1),(⟨v8.Nodes,a2⟩:GProgram)))
 else
  some (Sum.inr v8)
def eH (p1:GProgram):Option (GProgram) :=
 (kF p1.Nodes).bind fun r2 =>
 Option.bind (
  aJ (dY p1) ((0:Int),(⟨r2,[]⟩:GProgram))) fun a0 =>
 some a0
def dN (a0:Gpacker→Int→Int→Option (Int × Gpacker)) (a2:Int) (a5:GNode):((List Int) × Int × Gpacker)→Option (((List Int) × Int × Gpacker) ⊕ (((List Int) × Gpacker) ⊕ (Int × Gpacker))):=fun ⟨a1,a3,a6⟩ =>
 if (decide (a3 < (a5.Kids.length:Int)))=true then
  (aY a5.Kids a3).bind fun a7 =>
  (a0 a6 a7 (IntKind.wrap .i64 (a2 + 1))).bind fun ⟨a8,a4⟩ =>
  if a4.bad=true then
   some (Sum.inr (Sum.inr ((-1),a4)))
  else
   (bW 8 a1 [a8]).bind fun a9 =>
   some (Sum.inl (a9,IntKind.wrap .i64 (a3 + 1),a4))
 else
  some (Sum.inr (Sum.inl (a1,a6)))
def eT (a0:Gpacker→Int→Int→Option (Int × Gpacker)) (x1:Gpacker) (k2:Int) (a1:Int):Option (Int × Gpacker) :=
 Option.bind (
  if x1.bad=true then
   some true
  else
   (eZ k2 0 (IntKind.wrap .i64 ((x1.from_.length:Int) - 1))).bind fun r8 =>
   if (!r8)=true then
    some true
   else
    if (decide (a1 > 10))=true then
     some true
    else
     some (decide ((x1.to_.length:Int) ≥ 300))) fun a6 =>
 if a6=true then
  some ((-1),(⟨x1.from_,x1.to_,true⟩:Gpacker))
 else
  (aY x1.from_ k2).bind fun a4 =>
  Option.bind (
   aJ (dN a0 a1 a4) ([],(0:Int),x1)) fun a7 =>
  match a7 with
  | Sum.inr z=>some z
  | Sum.inl (a2,a3) =>
   if (decide ((a3.to_.length:Int) ≥ 300))=true then
    some ((-1),(⟨a3.from_,a3.to_,true⟩:Gpacker))
   else
    (bW 56 a3.to_ [(⟨a4.Kind,a4.Num,a4.Name,a2⟩:GNode)]).bind fun a5 =>
    some (IntKind.wrap .i64 ((a5.length:Int) - 1),(⟨a3.from_,a5,a3.bad⟩:Gpacker))
def bU:Nat→Gpacker→Int→Int→Option (Int × Gpacker)
 | 0=>fun _ _ _=>none
 | n + 1=>eT (bU n)
def gH:Gpacker→Int→Int→Option (Int × Gpacker):=(bU bV)
def cU (p1:GProgram):(Int × Gpacker × GProgram)→Option ((Int × Gpacker × GProgram) ⊕ (Gpacker × GProgram)):=fun ⟨v5,v6,v7⟩ =>
 if (decide (v5 < (p1.Fns.length:Int)))=true then
  (aY p1.Fns v5).bind fun a3 =>
  (mC a3).bind fun a0 =>
  (gH v6 a0.Body 1).bind fun ⟨a1,a2⟩ =>
  Option.bind (
   if (decide (a0.Ret ≥ 0))=true then
    (gH a2 a0.Ret 1).bind fun ⟨a4,a5⟩ =>
    some (a5,(⟨a0.Name,a0.Params,a0.Res,a1,a4⟩:GFn))
   else
    some (a2,(⟨a0.Name,a0.Params,a0.Res,a1,a0.Ret⟩:GFn))) fun ⟨a6,a7⟩ =>
  (bW 64 v7.Fns [a7]).bind fun a8 =>
  some (Sum.inl (IntKind.wrap .i64 (v5 + 1),a6,(⟨v7.Nodes,a8⟩:GProgram)))
 else
  some (Sum.inr (v6,v7))
def oG (p1:GProgram):Option (GProgram × Bool) :=
 Option.bind (
  aJ (cU p1) ((0:Int),(⟨p1.Nodes,[],false⟩:Gpacker),(⟨[],[]⟩:GProgram))) fun ⟨a0,a1⟩ =>
 if a0.bad=true then
  some ((⟨[],[]⟩:GProgram),false)
 else
  some ((⟨a0.to_,a1.Fns⟩:GProgram),true)
def kJ (p1:GProgram) (a3:List Int):(Int × GProgram)→Option ((Int × GProgram) ⊕ (GProgram)):=fun ⟨a1,a0⟩ =>
 if (decide (a1 < (a3.length:Int)))=true then
  (aY a3 a1).bind fun a2 =>
  (oX p1 a2).bind fun ⟨a4,a6⟩ =>
  (aY a0.Nodes a2).bind fun a7 =>
  bF (List.set a0.Nodes a2.toNat (⟨1,a4,ByteArray.empty,[]⟩:GNode)) fun a5 =>
  some (Sum.inl (IntKind.wrap .i64 (a1 + 1),(⟨a5,a0.Fns⟩:GProgram)))
 else
  some (Sum.inr a0)
def oI (p1:GProgram):Option (GProgram) :=
 (iJ p1).bind fun r2 =>
 if (!r2)=true then
  (eH p1).bind fun r6 =>
  some r6
 else
  (eH p1).bind fun r8 =>
  Option.bind (
   (fV p1).bind fun a0 =>
   aJ (kJ p1 a0) ((0:Int),r8)) fun a1 =>
  (oG a1).bind fun ⟨a2,a3⟩ =>
  if (!a3)=true then
   (eH p1).bind fun a4 =>
   some a4
  else
   some a2
def cG (a0:Gl04Pack→Int→Int→Option (Int × Gl04Pack)) (k2:Int) (a1:Int):(Int × GNode × Gl04Pack)→Option ((Int × GNode × Gl04Pack) ⊕ (GNode × Gl04Pack)):=fun ⟨a4,a2,a3⟩ =>
 Option.bind (
  (aY a3.from_ k2).bind fun a5 =>
  if (decide (a4 < (a5.Kids.length:Int)))=true then
   some (!a3.bad)
  else
   some false) fun a6 =>
 if a6=true then
  (aY a3.from_ k2).bind fun a7 =>
  (aY a7.Kids a4).bind fun a8 =>
  (a0 a3 a8 (IntKind.wrap .i64 (a1 + 1))).bind fun ⟨a9,b0⟩ =>
  (bW 8 a2.Kids [a9]).bind fun b1 =>
  some (Sum.inl (IntKind.wrap .i64 (a4 + 1),(⟨a2.Kind,a2.Num,a2.Name,b1⟩:GNode),b0))
 else
  some (Sum.inr (a2,a3))
def cQ (a0:Gl04Pack→Int→Int→Option (Int × Gl04Pack)) (x1:Gl04Pack) (k2:Int) (a1:Int):Option (Int × Gl04Pack) :=
 Option.bind (
  if x1.bad=true then
   some true
  else
   if (decide (a1 > 10))=true then
    some true
   else
    (bY k2 0 (IntKind.wrap .i64 ((x1.from_.length:Int) - 1))).bind fun a5 =>
    if (!a5)=true then
     some true
    else
     some (decide ((x1.to_.length:Int) > 300))) fun a6 =>
 if a6=true then
  some ((-1),(⟨x1.from_,x1.to_,true⟩:Gl04Pack))
 else
  (aY x1.from_ k2).bind fun a2 =>
  Option.bind (
   aJ (cG a0 k2 a1) ((0:Int),(⟨a2.Kind,a2.Num,a2.Name,[]⟩:GNode),x1)) fun ⟨a7,a3⟩ =>
  (bW 56 a3.to_ [a7]).bind fun a4 =>
  some (IntKind.wrap .i64 ((a4.length:Int) - 1),(⟨a3.from_,a4,a3.bad⟩:Gl04Pack))
def aZ:Nat→Gl04Pack→Int→Int→Option (Int × Gl04Pack)
 | 0=>fun _ _ _=>none
 | n + 1=>cQ (aZ n)
def fF:Gl04Pack→Int→Int→Option (Int × Gl04Pack):=(aZ bV)
def cT (p1:GProgram):(Int × GProgram × Gl04Pack)→Option ((Int × GProgram × Gl04Pack) ⊕ (GProgram × Gl04Pack)):=fun ⟨i5,v6,v7⟩ =>
 if (decide (i5 < (p1.Fns.length:Int)))=true then
  (aY p1.Fns i5).bind fun a0 =>
  (bW 24 [] a0.Params).bind fun a8 =>
  (fF v7 a0.Body 1).bind fun ⟨a1,a2⟩ =>
  Option.bind (
   if (decide (a0.Ret ≥ 0))=true then
    (fF a2 a0.Ret 1).bind fun ⟨a3,a4⟩ =>
    some ((⟨a0.Name,a0.Params,a0.Res,a1,a3⟩:GFn),a4)
   else
    some ((⟨a0.Name,a0.Params,a0.Res,a1,a0.Ret⟩:GFn),a2)) fun ⟨a5,a6⟩ =>
  (bW 64 v6.Fns [a5]).bind fun a7 =>
  some (Sum.inl (IntKind.wrap .i64 (i5 + 1),(⟨v6.Nodes,a7⟩:GProgram),a6))
 else
  some (Sum.inr (v6,v7))
def nR (p1:GProgram):Option (GProgram × Bool) :=
 Option.bind (
  aJ (cT p1) ((0:Int),(⟨[],[]⟩:GProgram),(⟨p1.Nodes,[],false⟩:Gl04Pack))) fun ⟨a1,a0⟩ =>
 Option.bind (
  if a0.bad=true then
   some true
  else
   some (decide ((a0.to_.length:Int) > 300))) fun a2 =>
 if a2=true then
  some ((⟨[],[]⟩:GProgram),false)
 else
  some ((⟨a0.to_,a1.Fns⟩:GProgram),true)
def jZ (p1:GProgram) (a2:List Int):(Int × GProgram)→Option ((Int × GProgram) ⊕ (GProgram)):=fun ⟨a0,a1⟩ =>
 if (decide (a0 < (a2.length:Int)))=true then
  (aY a2 a0).bind fun a4 =>
  (kU p1.Nodes a4).bind fun ⟨a5,a7⟩ =>
  (aY a2 a0).bind fun a3 =>
  (aY a1.Nodes a3).bind fun a8 =>
  bF (List.set a1.Nodes a3.toNat (⟨1,a5,ByteArray.empty,[]⟩:GNode)) fun a6 =>
  some (Sum.inl (IntKind.wrap .i64 (a0 + 1),(⟨a6,a1.Fns⟩:GProgram)))
 else
  some (Sum.inr a1)
def nT (p1:GProgram):Option (GProgram) :=
 (fT p1).bind fun r2 =>
 if (!r2)=true then
  (gQ p1).bind fun r6 =>
  some r6
 else
  (gQ p1).bind fun r8 =>
  (iT p1).bind fun a0 =>
  Option.bind (
   aJ (jZ p1 a0) ((0:Int),r8)) fun a1 =>
  (nR a1).bind fun ⟨a2,a3⟩ =>
  if (!a3)=true then
   (gQ p1).bind fun a4 =>
   some a4
  else
   some a2
def iD (a0:List Int):Option (Bool) :=
 (xU a0).bind fun r2 =>
 if r2=true then
  some true
 else
  (iC a0).bind fun ⟨r6,r7⟩ =>
  (eN r6 r7).bind fun ⟨r9,a2⟩ =>
  (kR r6 r7).bind fun ⟨a3,a4⟩ =>
  (jG a0).bind fun a1 =>
  Option.bind (
   if (r9 == a3)=true then
    if (a2 == a4)=true then
     (eB r6 r7).bind fun a5 =>
     (lB r6 r7).bind fun a6 =>
     if (a5 == a6)=true then
      (nA a1).bind fun a7 =>
      (mR a1).bind fun a8 =>
      if (a7 == a8)=true then
       (oI a1).bind fun a9 =>
       (nT a1).bind fun b0 =>
       (kA a9 b0).bind fun b1 =>
       some b1
      else
       some false
     else
      some false
    else
     some false
   else
    some false) fun b2 =>
  some b2
end Go.OM
end
set_option maxRecDepth 100000
set_option maxHeartbeats 8000000
namespace Go.Proofs.T
open Go.OM
noncomputable def ty:TypeId→Option TI
 | 2=>some ⟨1,8,.int .i64,[.v (.int .i64 0)]⟩
 | 3=>some ⟨1,8,.int .i64,[.v (.int .i64 0)]⟩
 | 4=>some ⟨1,1,.bool,[.v (.bool false)]⟩
 | 5=>some ⟨1,1,.int .u8,[.v (.int .u8 0)]⟩
 | 7=>some ⟨4,24,.struct [(0,1),(1,1),(2,1),(3,1)],[.v (.int .i64 0),.v (.int .i64 0),.v (.bool false),.v (.int .u8 0)]⟩
 | 9=>some ⟨1,16,.str,[.v (.string .empty)]⟩
 | 12=>some ⟨1,8,.int .u64,[.v (.int .u64 0)]⟩
 | 13=>some ⟨2,24,.struct [(0,1),(1,1)],[.v (.string .empty),.v (.int .u64 0)]⟩
 | 22=>some ⟨1,24,.slice 5,[.nl true 1 none]⟩
 | 24=>some ⟨1,24,.slice 45,[.nl true 4 none]⟩
 | 25=>some ⟨1,24,.slice 51,[.nl true 5 none]⟩
 | 26=>some ⟨2,48,.struct [(0,1),(1,1)],[.nl true 4 none,.nl true 5 none]⟩
 | 27=>some ⟨2,48,.struct [(0,1),(1,1)],[.nl true 4 none,.nl true 5 none]⟩
 | 40=>some ⟨1,8,.ptr,[.v (.pointer none)]⟩
 | 43=>some ⟨1,24,.slice 3,[.nl true 1 none]⟩
 | 44=>some ⟨4,56,.struct [(0,1),(1,1),(2,1),(3,1)],[.v (.int .i64 0),.v (.int .i64 0),.v (.string .empty),.nl true 1 none]⟩
 | 45=>some ⟨4,56,.struct [(0,1),(1,1),(2,1),(3,1)],[.v (.int .i64 0),.v (.int .i64 0),.v (.string .empty),.nl true 1 none]⟩
 | 49=>some ⟨1,24,.slice 53,[.nl true 2 none]⟩
 | 50=>some ⟨5,64,.struct [(0,1),(1,1),(2,1),(3,1),(4,1)],[.v (.string .empty),.nl true 2 none,.v (.int .i64 0),.v (.int .i64 0),.v (.int .i64 0)]⟩
 | 51=>some ⟨5,64,.struct [(0,1),(1,1),(2,1),(3,1),(4,1)],[.v (.string .empty),.nl true 2 none,.v (.int .i64 0),.v (.int .i64 0),.v (.int .i64 0)]⟩
 | 52=>some ⟨2,24,.struct [(0,1),(1,1)],[.v (.string .empty),.v (.int .i64 0)]⟩
 | 53=>some ⟨2,24,.struct [(0,1),(1,1)],[.v (.string .empty),.v (.int .i64 0)]⟩
 | 62=>some ⟨3,40,.struct [(0,1),(1,1),(2,1)],[.nl true 1 none,.v (.int .i64 0),.v (.int .i64 0)]⟩
 | 63=>some ⟨3,40,.struct [(0,1),(1,1),(2,1)],[.nl true 1 none,.v (.int .i64 0),.v (.int .i64 0)]⟩
 | 66=>some ⟨1,24,.slice 4,[.nl true 1 none]⟩
 | 71=>some ⟨3,56,.struct [(0,1),(1,1),(2,1)],[.nl true 4 none,.nl true 4 none,.v (.bool false)]⟩
 | 72=>some ⟨3,56,.struct [(0,1),(1,1),(2,1)],[.nl true 4 none,.nl true 4 none,.v (.bool false)]⟩
 | 74=>some ⟨1,8,.ptr,[.v (.pointer none)]⟩
 | 75=>some ⟨3,56,.struct [(0,1),(1,1),(2,1)],[.nl true 4 none,.nl true 4 none,.v (.bool false)]⟩
 | 76=>some ⟨3,56,.struct [(0,1),(1,1),(2,1)],[.nl true 4 none,.nl true 4 none,.v (.bool false)]⟩
 | 79=>some ⟨1,24,.slice 9,[.nl true 1 none]⟩
 | 85=>some ⟨1,8,.ptr,[.v (.pointer none)]⟩
 | 86=>some ⟨1,8,.int .u64,[.v (.int .u64 0)]⟩
 | 91=>some ⟨1,24,.slice 104,[.nl true 3 none]⟩
 | 94=>some ⟨1,8,.ptr,[.v (.pointer none)]⟩
 | 95=>some ⟨5,72,.struct [(0,1),(1,1),(2,1),(3,1),(4,1)],[.nl true 3 none,.v (.int .i64 0),.v (.bool false),.v (.int .i64 0),.nl true 4 none]⟩
 | 96=>some ⟨5,72,.struct [(0,1),(1,1),(2,1),(3,1),(4,1)],[.nl true 3 none,.v (.int .i64 0),.v (.bool false),.v (.int .i64 0),.nl true 4 none]⟩
 | 99=>some ⟨1,8,.ptr,[.v (.pointer none)]⟩
 | 100=>some ⟨6,88,.struct [(0,1),(1,1),(2,1),(3,1),(4,1),(5,1)],[.v (.pointer none),.nl true 1 none,.nl true 1 none,.v (.int .i64 0),.v (.string .empty),.v (.bool false)]⟩
 | 101=>some ⟨6,88,.struct [(0,1),(1,1),(2,1),(3,1),(4,1),(5,1)],[.v (.pointer none),.nl true 1 none,.nl true 1 none,.v (.int .i64 0),.v (.string .empty),.v (.bool false)]⟩
 | 103=>some ⟨3,32,.struct [(0,1),(1,1),(2,1)],[.v (.int .i64 0),.v (.string .empty),.v (.int .i64 0)]⟩
 | 104=>some ⟨3,32,.struct [(0,1),(1,1),(2,1)],[.v (.int .i64 0),.v (.string .empty),.v (.int .i64 0)]⟩
 | _=>none
theorem ty_ok (t:TypeId) (ti:TI) (h:ty t=some ti):TIok Tryz.prog t ti:=by
 unfold ty at h
 split at h
 ·cases h;exact ⟨by kernel_rfl,Tryz.underlying2,rfl⟩
 ·cases h;exact ⟨by kernel_rfl,Tryz.underlying3,rfl⟩
 ·cases h;exact ⟨by kernel_rfl,Tryz.underlying4,rfl⟩
 ·cases h;exact ⟨by kernel_rfl,Tryz.underlying5,rfl⟩
 ·cases h;exact ⟨by kernel_rfl,(show bH Tryz.prog 7=some [(0,1),(1,1),(2,1),(3,1)] by kernel_rfl),rfl⟩
 ·cases h;exact ⟨by kernel_rfl,Tryz.underlying9,rfl⟩
 ·cases h;exact ⟨by kernel_rfl,Tryz.underlying12,rfl⟩
 ·cases h;exact ⟨by kernel_rfl,(show bH Tryz.prog 13=some [(0,1),(1,1)] by kernel_rfl),rfl⟩
 ·cases h;exact ⟨by kernel_rfl,Tryz.underlying22,rfl⟩
 ·cases h;exact ⟨by kernel_rfl,Tryz.underlying24,rfl⟩
 ·cases h;exact ⟨by kernel_rfl,Tryz.underlying25,rfl⟩
 ·cases h;exact ⟨by kernel_rfl,(show bH Tryz.prog 26=some [(0,1),(1,1)] by kernel_rfl),rfl⟩
 ·cases h;exact ⟨by kernel_rfl,(show bH Tryz.prog 27=some [(0,1),(1,1)] by kernel_rfl),rfl⟩
 ·cases h;exact ⟨by kernel_rfl,⟨_,Tryz.underlying40⟩,rfl⟩
 ·cases h;exact ⟨by kernel_rfl,Tryz.underlying43,rfl⟩
 ·cases h;exact ⟨by kernel_rfl,(show bH Tryz.prog 44=some [(0,1),(1,1),(2,1),(3,1)] by kernel_rfl),rfl⟩
 ·cases h;exact ⟨by kernel_rfl,(show bH Tryz.prog 45=some [(0,1),(1,1),(2,1),(3,1)] by kernel_rfl),rfl⟩
 ·cases h;exact ⟨by kernel_rfl,Tryz.underlying49,rfl⟩
 ·cases h;exact ⟨by kernel_rfl,(show bH Tryz.prog 50=some [(0,1),(1,1),(2,1),(3,1),(4,1)] by kernel_rfl),rfl⟩
 ·cases h;exact ⟨by kernel_rfl,(show bH Tryz.prog 51=some [(0,1),(1,1),(2,1),(3,1),(4,1)] by kernel_rfl),rfl⟩
 ·cases h;exact ⟨by kernel_rfl,(show bH Tryz.prog 52=some [(0,1),(1,1)] by kernel_rfl),rfl⟩
 ·cases h;exact ⟨by kernel_rfl,(show bH Tryz.prog 53=some [(0,1),(1,1)] by kernel_rfl),rfl⟩
 ·cases h;exact ⟨by kernel_rfl,(show bH Tryz.prog 62=some [(0,1),(1,1),(2,1)] by kernel_rfl),rfl⟩
 ·cases h;exact ⟨by kernel_rfl,(show bH Tryz.prog 63=some [(0,1),(1,1),(2,1)] by kernel_rfl),rfl⟩
 ·cases h;exact ⟨by kernel_rfl,Tryz.underlying66,rfl⟩
 ·cases h;exact ⟨by kernel_rfl,(show bH Tryz.prog 71=some [(0,1),(1,1),(2,1)] by kernel_rfl),rfl⟩
 ·cases h;exact ⟨by kernel_rfl,(show bH Tryz.prog 72=some [(0,1),(1,1),(2,1)] by kernel_rfl),rfl⟩
 ·cases h;exact ⟨by kernel_rfl,⟨_,Tryz.underlying74⟩,rfl⟩
 ·cases h;exact ⟨by kernel_rfl,(show bH Tryz.prog 75=some [(0,1),(1,1),(2,1)] by kernel_rfl),rfl⟩
 ·cases h;exact ⟨by kernel_rfl,(show bH Tryz.prog 76=some [(0,1),(1,1),(2,1)] by kernel_rfl),rfl⟩
 ·cases h;exact ⟨by kernel_rfl,Tryz.underlying79,rfl⟩
 ·cases h;exact ⟨by kernel_rfl,⟨_,Tryz.underlying85⟩,rfl⟩
 ·cases h;exact ⟨by kernel_rfl,Tryz.underlying86,rfl⟩
 ·cases h;exact ⟨by kernel_rfl,Tryz.underlying91,rfl⟩
 ·cases h;exact ⟨by kernel_rfl,⟨_,Tryz.underlying94⟩,rfl⟩
 ·cases h;exact ⟨by kernel_rfl,(show bH Tryz.prog 95=some [(0,1),(1,1),(2,1),(3,1),(4,1)] by kernel_rfl),rfl⟩
 ·cases h;exact ⟨by kernel_rfl,(show bH Tryz.prog 96=some [(0,1),(1,1),(2,1),(3,1),(4,1)] by kernel_rfl),rfl⟩
 ·cases h;exact ⟨by kernel_rfl,⟨_,Tryz.underlying99⟩,rfl⟩
 ·cases h;exact ⟨by kernel_rfl,(show bH Tryz.prog 100=some [(0,1),(1,1),(2,1),(3,1),(4,1),(5,1)] by kernel_rfl),rfl⟩
 ·cases h;exact ⟨by kernel_rfl,(show bH Tryz.prog 101=some [(0,1),(1,1),(2,1),(3,1),(4,1),(5,1)] by kernel_rfl),rfl⟩
 ·cases h;exact ⟨by kernel_rfl,(show bH Tryz.prog 103=some [(0,1),(1,1),(2,1)] by kernel_rfl),rfl⟩
 ·cases h;exact ⟨by kernel_rfl,(show bH Tryz.prog 104=some [(0,1),(1,1),(2,1)] by kernel_rfl),rfl⟩
 cases h
noncomputable def E:Env:=⟨Tryz.prog,ty,ty_ok,by kernel_rfl,[(0,fun cs=>∃ m,cs[0]? = some (.int .i64 m))]⟩
@[simp] theorem E_ty2:E.ty 2=some ⟨1,8,.int .i64,[.v (.int .i64 0)]⟩:=rfl
@[simp] theorem E_ty3:E.ty 3=some ⟨1,8,.int .i64,[.v (.int .i64 0)]⟩:=rfl
@[simp] theorem E_ty4:E.ty 4=some ⟨1,1,.bool,[.v (.bool false)]⟩:=rfl
@[simp] theorem E_ty5:E.ty 5=some ⟨1,1,.int .u8,[.v (.int .u8 0)]⟩:=rfl
@[simp] theorem E_ty7:E.ty 7=some ⟨4,24,.struct [(0,1),(1,1),(2,1),(3,1)],[.v (.int .i64 0),.v (.int .i64 0),.v (.bool false),.v (.int .u8 0)]⟩:=rfl
@[simp] theorem E_ty9:E.ty 9=some ⟨1,16,.str,[.v (.string .empty)]⟩:=rfl
@[simp] theorem E_ty12:E.ty 12=some ⟨1,8,.int .u64,[.v (.int .u64 0)]⟩:=rfl
@[simp] theorem E_ty13:E.ty 13=some ⟨2,24,.struct [(0,1),(1,1)],[.v (.string .empty),.v (.int .u64 0)]⟩:=rfl
@[simp] theorem E_ty22:E.ty 22=some ⟨1,24,.slice 5,[.nl true 1 none]⟩:=rfl
@[simp] theorem E_ty24:E.ty 24=some ⟨1,24,.slice 45,[.nl true 4 none]⟩:=rfl
@[simp] theorem E_ty25:E.ty 25=some ⟨1,24,.slice 51,[.nl true 5 none]⟩:=rfl
@[simp] theorem E_ty26:E.ty 26=some ⟨2,48,.struct [(0,1),(1,1)],[.nl true 4 none,.nl true 5 none]⟩:=rfl
@[simp] theorem E_ty27:E.ty 27=some ⟨2,48,.struct [(0,1),(1,1)],[.nl true 4 none,.nl true 5 none]⟩:=rfl
@[simp] theorem E_ty40:E.ty 40=some ⟨1,8,.ptr,[.v (.pointer none)]⟩:=rfl
@[simp] theorem E_ty43:E.ty 43=some ⟨1,24,.slice 3,[.nl true 1 none]⟩:=rfl
@[simp] theorem E_ty44:E.ty 44=some ⟨4,56,.struct [(0,1),(1,1),(2,1),(3,1)],[.v (.int .i64 0),.v (.int .i64 0),.v (.string .empty),.nl true 1 none]⟩:=rfl
@[simp] theorem E_ty45:E.ty 45=some ⟨4,56,.struct [(0,1),(1,1),(2,1),(3,1)],[.v (.int .i64 0),.v (.int .i64 0),.v (.string .empty),.nl true 1 none]⟩:=rfl
@[simp] theorem E_ty49:E.ty 49=some ⟨1,24,.slice 53,[.nl true 2 none]⟩:=rfl
@[simp] theorem E_ty50:E.ty 50=some ⟨5,64,.struct [(0,1),(1,1),(2,1),(3,1),(4,1)],[.v (.string .empty),.nl true 2 none,.v (.int .i64 0),.v (.int .i64 0),.v (.int .i64 0)]⟩:=rfl
@[simp] theorem E_ty51:E.ty 51=some ⟨5,64,.struct [(0,1),(1,1),(2,1),(3,1),(4,1)],[.v (.string .empty),.nl true 2 none,.v (.int .i64 0),.v (.int .i64 0),.v (.int .i64 0)]⟩:=rfl
@[simp] theorem E_ty52:E.ty 52=some ⟨2,24,.struct [(0,1),(1,1)],[.v (.string .empty),.v (.int .i64 0)]⟩:=rfl
@[simp] theorem E_ty53:E.ty 53=some ⟨2,24,.struct [(0,1),(1,1)],[.v (.string .empty),.v (.int .i64 0)]⟩:=rfl
@[simp] theorem E_ty62:E.ty 62=some ⟨3,40,.struct [(0,1),(1,1),(2,1)],[.nl true 1 none,.v (.int .i64 0),.v (.int .i64 0)]⟩:=rfl
@[simp] theorem E_ty63:E.ty 63=some ⟨3,40,.struct [(0,1),(1,1),(2,1)],[.nl true 1 none,.v (.int .i64 0),.v (.int .i64 0)]⟩:=rfl
@[simp] theorem E_ty66:E.ty 66=some ⟨1,24,.slice 4,[.nl true 1 none]⟩:=rfl
@[simp] theorem E_ty71:E.ty 71=some ⟨3,56,.struct [(0,1),(1,1),(2,1)],[.nl true 4 none,.nl true 4 none,.v (.bool false)]⟩:=rfl
@[simp] theorem E_ty72:E.ty 72=some ⟨3,56,.struct [(0,1),(1,1),(2,1)],[.nl true 4 none,.nl true 4 none,.v (.bool false)]⟩:=rfl
@[simp] theorem E_ty74:E.ty 74=some ⟨1,8,.ptr,[.v (.pointer none)]⟩:=rfl
@[simp] theorem E_ty75:E.ty 75=some ⟨3,56,.struct [(0,1),(1,1),(2,1)],[.nl true 4 none,.nl true 4 none,.v (.bool false)]⟩:=rfl
@[simp] theorem E_ty76:E.ty 76=some ⟨3,56,.struct [(0,1),(1,1),(2,1)],[.nl true 4 none,.nl true 4 none,.v (.bool false)]⟩:=rfl
@[simp] theorem E_ty79:E.ty 79=some ⟨1,24,.slice 9,[.nl true 1 none]⟩:=rfl
@[simp] theorem E_ty85:E.ty 85=some ⟨1,8,.ptr,[.v (.pointer none)]⟩:=rfl
@[simp] theorem E_ty86:E.ty 86=some ⟨1,8,.int .u64,[.v (.int .u64 0)]⟩:=rfl
@[simp] theorem E_ty91:E.ty 91=some ⟨1,24,.slice 104,[.nl true 3 none]⟩:=rfl
@[simp] theorem E_ty94:E.ty 94=some ⟨1,8,.ptr,[.v (.pointer none)]⟩:=rfl
@[simp] theorem E_ty95:E.ty 95=some ⟨5,72,.struct [(0,1),(1,1),(2,1),(3,1),(4,1)],[.nl true 3 none,.v (.int .i64 0),.v (.bool false),.v (.int .i64 0),.nl true 4 none]⟩:=rfl
@[simp] theorem E_ty96:E.ty 96=some ⟨5,72,.struct [(0,1),(1,1),(2,1),(3,1),(4,1)],[.nl true 3 none,.v (.int .i64 0),.v (.bool false),.v (.int .i64 0),.nl true 4 none]⟩:=rfl
@[simp] theorem E_ty99:E.ty 99=some ⟨1,8,.ptr,[.v (.pointer none)]⟩:=rfl
@[simp] theorem E_ty100:E.ty 100=some ⟨6,88,.struct [(0,1),(1,1),(2,1),(3,1),(4,1),(5,1)],[.v (.pointer none),.nl true 1 none,.nl true 1 none,.v (.int .i64 0),.v (.string .empty),.v (.bool false)]⟩:=rfl
@[simp] theorem E_ty101:E.ty 101=some ⟨6,88,.struct [(0,1),(1,1),(2,1),(3,1),(4,1),(5,1)],[.v (.pointer none),.nl true 1 none,.nl true 1 none,.v (.int .i64 0),.v (.string .empty),.v (.bool false)]⟩:=rfl
@[simp] theorem E_ty103:E.ty 103=some ⟨3,32,.struct [(0,1),(1,1),(2,1)],[.v (.int .i64 0),.v (.string .empty),.v (.int .i64 0)]⟩:=rfl
@[simp] theorem E_ty104:E.ty 104=some ⟨3,32,.struct [(0,1),(1,1),(2,1)],[.v (.int .i64 0),.v (.string .empty),.v (.int .i64 0)]⟩:=rfl
@[simp] theorem feq_53:aId E 53=some [false,true]:=by kernel_rfl
end Go.Proofs.T
namespace Go.OM
section
variable {α β ρ γ δ:Type} {X:Option α} {r:α} {Φ P Q:Prop} {C:Ctx} {E:Env} {σ τ:St} {S:Exit→St→Prop} {c d:Code} {K:St→Prop} {ops os l:List Oper} {o:Oper} {n id id':Nat} {ks:List Nat} {xs:Array Oper}
theorem f_get {l:List β} {i:Int} {x:β→Option α} {B:Prop} {j:Nat} (k:∀ y,Hg (Φ∧0 ≤ i∧i < l.length∧B∧j < l.length∧l[j]? = some y∧(∀ hl:j < l.length,l[j]'hl=y)) (x y) r P)
  (hj:i.toNat=j:=by first | (simp;done) | (simp;rfl) | rfl) (hB:i < l.length→B:=by first | (intro h;simp at h;exact h) | exact fun _=>trivial):Hg Φ ((aY l i).bind x) r P:=fun f e=>by
 obtain ⟨y,h1,h2⟩:=bS e
 obtain ⟨a,b,c,d⟩:=gS h1
 subst hj
 exact k y ⟨f,a,b,hB b,by omega,c,d⟩ h2
theorem f_at {z:ByteArray} {i:Int} {x:Int→Option α} {j:Nat} (k:∀ y,Hg (Φ∧0 ≤ i∧i < z.size∧j < z.size∧oM z i=y) (x y) r P)
  (hj:i.toNat=j:=by first | (simp;done) | (simp;rfl) | rfl):Hg Φ ((sAt z i).bind x) r P:=fun f e=>by
 obtain ⟨y,h1,h2⟩:=bS e
 obtain ⟨a,b,c⟩:=aJk h1
 subst hj
 exact k y ⟨f,a,b,by omega,c⟩ h2
theorem f_sub {z:ByteArray} {lo hi:Int} {x:ByteArray→Option α} (k:∀ y,Hg (Φ∧0 ≤ lo∧0 ≤ hi∧lo.toNat ≤ hi.toNat∧hi.toNat ≤ z.size∧z.extract lo.toNat hi.toNat=y∧max lo 0 ≤ hi∧lo ≤ hi∧hi ≤ z.size) (x y) r P):Hg Φ ((fD z lo hi).bind x) r P:=fun f e=>by
 obtain ⟨y,h1,h2⟩:=bS e
 exact k y ⟨f,aHp h1⟩ h2
theorem f_cat {z w:ByteArray} {x:ByteArray→Option α} (k:∀ y,Hg (Φ∧z.size + w.size ≤ 9223372036854775807∧z ++ w=y) (x y) r P):Hg Φ ((bK z w).bind x) r P:=fun f e=>by
 obtain ⟨y,h1,h2⟩:=bS e
 exact k y ⟨f,aB h1⟩ h2
theorem f_rem {a b:Int} {x:Int→Option α} {J:Int→Prop} (k:∀ y,Hg (Φ∧(aCd a b=some y)∧J y) (x y) r P) (hJ:∀ y,aCd a b=some y→J y:=by intro y h;have h:=nX h;first | (simp at h;exact h) | exact h):Hg Φ ((aCd a b).bind x) r P:=fun f e=>by
 obtain ⟨y,h1,h2⟩:=bS e
 exact k y ⟨f,h1,hJ y h1⟩ h2
theorem f_shl {kk:IntKind} {a b:Int} {x:Int→Option α} (k:∀ y,Hg (Φ∧¬ b < 0∧kk.wrap (a * 2 ^ (min b.toNat kk.bits))=y) (x y) r P):Hg Φ ((shlI kk a b).bind x) r P:=fun f e=>by
 obtain ⟨y,h1,h2⟩:=bS e
 exact k y ⟨f,aHn h1⟩ h2
theorem f_shr {kk:IntKind} {a b:Int} {x:Int→Option α} (k:∀ y,Hg (Φ∧¬ b < 0∧a.fdiv (2 ^ (min b.toNat kk.bits))=y) (x y) r P):Hg Φ ((shrI kk a b).bind x) r P:=fun f e=>by
 obtain ⟨y,h1,h2⟩:=bS e
 exact k y ⟨f,aHm h1⟩ h2
class Enc (β:Type) where
 all:((β→T)→Prop)→Prop
 pf:∀ P,(∀ f,P f)→all P
instance:Enc Int:=⟨fun P=>P vi∧P (vk .u8),fun _ h=>⟨h _,h _⟩⟩
instance:Enc Bool:=⟨fun P=>P vb,fun _ h=>h _⟩
instance:Enc ByteArray:=⟨fun P=>P vs,fun _ h=>h _⟩
instance:Enc (List Int):=⟨fun P=>P (eSl true 1 vi)∧P (eSl false 1 vi),fun _ h=>⟨h _,h _⟩⟩
instance:Enc (List Bool):=⟨fun P=>P (eSl true 1 vb)∧P (eSl false 1 vb),fun _ h=>⟨h _,h _⟩⟩
instance:Enc (List ByteArray):=⟨fun P=>P (eSl true 1 vs)∧P (eSl false 1 vs),fun _ h=>⟨h _,h _⟩⟩
theorem f_gel {u:β} {l:List β} {i:Int} {x:β→Option α} [en:Enc β] {B:Prop} {A:β→Prop} {j:Nat} (k:∀ y,Hg (Φ∧0 ≤ i∧i < (u :: l).length∧B∧j < (u :: l).length∧(u :: l)[j]? = some y∧(∀ hl:j < (u :: l).length,(u :: l)[j]'hl=y)∧A y) (x y) r P)
  (hj:i.toNat=j:=by first | (simp;done) | (simp;rfl) | rfl) (hB:i < (u :: l).length→B:=by first | (intro h;simp at h;exact h) | exact fun _=>trivial)
  (hA:∀ y,en.all (fun f=>((u :: l).map f)[j]? = some (f y)∧∀ hl:j < ((u :: l).map f).length,((u :: l).map f)[j]'hl=f y)→A y:=by intro y h;simp only [Enc.all,List.map_cons,List.map_nil] at h;exact h):Hg Φ ((aY (u :: l) i).bind x) r P:=fun f e=>by
 obtain ⟨y,h1,h2⟩:=bS e
 obtain ⟨a,b,c,d⟩:=gS h1
 subst hj
 have hm:∀ g:β→T,((u :: l).map g)[i.toNat]? = some (g y):=fun g=>by rw [List.getElem?_map,c];rfl
 exact k y ⟨f,a,b,hB b,by omega,c,d,hA y (en.pf _ fun g=>⟨hm g,fun hl=>(List.getElem?_eq_some_iff.1 (hm g)).2⟩)⟩ h2
instance:Enc GNode:=⟨fun P=>P (GNode.enc true)∧P (GNode.enc false),fun _ h=>⟨h _,h _⟩⟩
instance:Enc GParam:=⟨fun P=>P GParam.enc,fun _ h=>h _⟩
instance:Enc GFn:=⟨fun P=>P (GFn.enc true)∧P (GFn.enc false),fun _ h=>⟨h _,h _⟩⟩
instance:Enc GProgram:=⟨fun P=>P (GProgram.enc true)∧P (GProgram.enc false),fun _ h=>⟨h _,h _⟩⟩
instance:Enc Gl01Cur:=⟨fun P=>P (Gl01Cur.enc true)∧P (Gl01Cur.enc false),fun _ h=>⟨h _,h _⟩⟩
instance:Enc Gpacker:=⟨fun P=>P (Gpacker.enc true)∧P (Gpacker.enc false),fun _ h=>⟨h _,h _⟩⟩
instance:Enc Gl04Pack:=⟨fun P=>P (Gl04Pack.enc true)∧P (Gl04Pack.enc false),fun _ h=>⟨h _,h _⟩⟩
instance:Enc GSign:=⟨fun P=>P GSign.enc,fun _ h=>h _⟩
instance:Enc Gl05Read:=⟨fun P=>P (Gl05Read.enc true)∧P (Gl05Read.enc false),fun _ h=>⟨h _,h _⟩⟩
instance:Enc Gl05Made:=⟨fun P=>P (Gl05Made.enc true)∧P (Gl05Made.enc false),fun _ h=>⟨h _,h _⟩⟩
theorem aJx {l:List β} {j:Nat} {z:β} {x:List β→Option α} [en:Enc β] {A:List β→Prop} (k:∀ y,Hg (Φ∧A y) (x y) r P)
  (hA:∀ y,en.all (fun f=>(l.map f).set j (f z)=y.map f)→A y:=by intro y h;simp [Enc.all] at h;exact h):Hg Φ (bF (l.set j z) x) r P:=fun f e=>by
 obtain ⟨y,h1,h2⟩:=bZ e
 exact k y ⟨f,hA y (en.pf _ fun _=>nW h1)⟩ h2
theorem f_ap0 {m:Nat} {b:List β} {x:List β→Option α} {L:Prop} (k:∀ y,Hg (Φ∧L) (x y) r P)
  (hL:(([]:List β).length + b.length) * m ≤ 140737488355328∧([]:List β).length + b.length ≤ 140737488355328→L:=by first | (intro h;simp at h;exact h) | exact fun _=>trivial):Hg Φ ((bW m [] b).bind x) r P:=fun f e=>by
 obtain ⟨y,h1,h2⟩:=bS e
 obtain ⟨a1,a2,a3⟩:=aS h1
 exact k y ⟨f,hL ⟨a1,a2⟩⟩ h2
theorem f_app {m:Nat} {a b:List β} {x:List β→Option α} [en:Enc β] {L:Prop} {A:List β→Prop} (k:∀ y,Hg (Φ∧L∧A y) (x y) r P)
  (hL:(a.length + b.length) * m ≤ 140737488355328∧a.length + b.length ≤ 140737488355328→L:=by first | (intro h;simp at h;exact h) | exact fun _=>trivial)
  (hA:∀ y,en.all (fun f=>a.map f ++ b.map f=y.map f)→A y:=by intro y h;simp [Enc.all] at h;exact h):Hg Φ ((bW m a b).bind x) r P:=fun f e=>by
 obtain ⟨y,h1,h2⟩:=bS e
 obtain ⟨a1,a2,a3⟩:=aS h1
 exact k y ⟨f,hL ⟨a1,a2⟩,hA y (en.pf _ fun _=>kQ a3)⟩ h2
theorem f_mk {m n:Int} {z:β} {x:List β→Option α} [en:Enc β] {L:Prop} {A:List β→Prop} (k:∀ y,Hg (Φ∧0 ≤ n∧m * n ≤ 140737488355328∧n ≤ 140737488355328∧L∧A y) (x y) r P)
  (hL:0 ≤ n∧m * n ≤ 140737488355328∧n ≤ 140737488355328→L:=by first | (intro h;simp at h;exact h) | exact fun _=>trivial)
  (hA:∀ y,en.all (fun f=>List.replicate n.toNat (f z)=y.map f)→A y:=by intro y h;simp [Enc.all] at h;exact h):Hg Φ ((mkI m n z).bind x) r P:=fun f e=>by
 obtain ⟨y,h1,h2⟩:=bS e
 obtain ⟨a1,a2,a3,a4⟩:=mS h1
 exact k y ⟨f,a1,a2,a3,hL ⟨a1,a2,a3⟩,hA y (en.pf _ fun _=>aL1 a4)⟩ h2
theorem f_sl {l:List β} {lo hi:Int} {x:List β→Option α} [en:Enc β] {A:List β→Prop} (k:∀ y,Hg (Φ∧0 ≤ lo∧0 ≤ hi∧lo.toNat ≤ hi.toNat∧lo.toNat ≤ l.length∧hi.toNat ≤ l.length∧max lo 0 ≤ hi∧lo ≤ hi∧hi ≤ l.length∧A y) (x y) r P)
  (hA:∀ y,en.all (fun f=>((l.map f).take hi.toNat).drop lo.toNat=y.map f)→A y:=by intro y h;simp [Enc.all] at h;exact h):Hg Φ ((fE l lo hi).bind x) r P:=fun f e=>by
 obtain ⟨y,h1,h2⟩:=bS e
 obtain ⟨a,b,c,d,e',f',g,h⟩:=aHc h1
 exact k y ⟨f,a,b,c,by omega,d,f',g,h,hA y (en.pf _ fun _=>aKu e')⟩ h2
theorem f_if {b:Bool} {p q:Option α} {B N:Prop} (k:(b=true→Hg (Φ∧b=true∧B) p r P)∧(¬ b=true→Hg (Φ∧¬ b=true∧N) q r P))
  (hB:b=true→B:=by first | (intro h;simp at h;exact h) | exact fun _=>trivial) (hN:¬ b=true→N:=by first | (intro h;simp at h;exact h) | exact fun _=>trivial):Hg Φ (if b=true then p else q) r P:=fun f e=>by
 by_cases hb:b=true
 ·rw [if_pos hb] at e;exact k.1 hb ⟨f,hb,hB hb⟩ e
 rw [if_neg hb] at e;exact k.2 hb ⟨f,hb,hN hb⟩ e
theorem f_ie {x y:Int} {p q:Option α} {B N:Prop} (k:((x == y)=true→Hg (Φ∧(x == y)=true∧(x != y)=false∧B) p r P)∧(¬ (x == y)=true→Hg (Φ∧(x == y)=false∧(x != y)=true∧N) q r P))
  (hB:(x == y)=true→B:=by first | (intro h;simp at h;exact h) | exact fun _=>trivial) (hN:¬ (x == y)=true→N:=by first | (intro h;simp at h;exact h) | exact fun _=>trivial):Hg Φ (if (x == y)=true then p else q) r P:=fun f e=>by
 by_cases hb:(x == y)=true
 ·rw [if_pos hb] at e;exact k.1 hb ⟨f,hb,by simp only [bne,hb,Bool.not_true],hB hb⟩ e
 rw [if_neg hb] at e;exact k.2 hb ⟨f,by simpa using hb,by simpa using hb,hN hb⟩ e
theorem f_in {x y:Int} {p q:Option α} {B N:Prop} (k:((x != y)=true→Hg (Φ∧(x != y)=true∧(x == y)=false∧B) p r P)∧(¬ (x != y)=true→Hg (Φ∧(x != y)=false∧(x == y)=true∧N) q r P))
  (hB:(x != y)=true→B:=by first | (intro h;simp at h;exact h) | exact fun _=>trivial) (hN:¬ (x != y)=true→N:=by first | (intro h;simp at h;exact h) | exact fun _=>trivial):Hg Φ (if (x != y)=true then p else q) r P:=fun f e=>by
 by_cases hb:(x != y)=true
 ·rw [if_pos hb] at e;exact k.1 hb ⟨f,hb,by simpa using hb,hB hb⟩ e
 rw [if_neg hb] at e;exact k.2 hb ⟨f,by simpa using hb,by simpa using hb,hN hb⟩ e
def Ct (C:Ctx) (n:Nat) (ks kb:List Nat) (inv:γ→St) (v:γ) (σ:St):Prop:=∃ fz,σ.shed C.N fz ks kb=some (inv v)
def Lp (C:Ctx) (n:Nat) (ks kb:List Nat) (inv:γ→St) (s:γ ⊕ δ) (σ:St):Prop:=∃ v,s = .inl v∧Ct C n ks kb inv v σ
def aHy:AV→Bool
 | .t x=>x.own1
 | _=>false
def fzOf (ks:List Nat) (σ τ:St):List Nat:=ks.filter fun n=>aHy (σ.get n) && !aHy (τ.get n)
def upS (ks kb:List Nat) (σ:St) (tm:List (Nat × AV)) (bx:List (Nat × List T)):St:=⟨dW (σ.keep ks kb).tm tm,bB (σ.keep ks kb).bx bx⟩
theorem h_lv {v' v:γ} {kb kc:List Nat} {inv:γ→St} (cx:Cx C n kc:=by assumption) (h:Φ→∃ fz,σ.shed n fz ks kb=some (inv v'):=by intro f;first | (refine ⟨[],?_⟩;simp [f];done) | (refine ⟨[],?_⟩;simp [f, *];done) | (refine ⟨fzOf ks σ (inv v'),?_⟩;simp [f,fzOf,aHy,T.own1];done) | fail):Hg Φ (some v') v (Ct C n ks kb inv v σ):=fun f e=>by
 cases e
 unfold Ct
 rw [cx.1];exact h f
theorem h_ll {v':γ} {v:γ ⊕ δ} {kb kc:List Nat} {inv:γ→St} (cx:Cx C n kc:=by assumption) (h:Φ→∃ fz,σ.shed n fz ks kb=some (inv v'):=by intro f;first | (refine ⟨[],?_⟩;simp [f];done) | (refine ⟨[],?_⟩;simp [f, *];done) | (refine ⟨fzOf ks σ (inv v'),?_⟩;simp [f,fzOf,aHy,T.own1];done) | fail):Hg Φ (some (.inl v')) v (Lp C n ks kb inv v σ):=fun f e=>by
 cases e
 refine ⟨v',rfl,?_⟩
 unfold Ct
 rw [cx.1];exact h f
theorem fS {z:δ} {s:γ ⊕ δ} {out:δ} (k:Hg Φ (some z) out P) (ho:∀ o,s = .inr o→o=out:=by assumption):Hg Φ (some (.inr z)) s P:=fun f e=>k f (congrArg some (ho z (Option.some.inj e).symm))
def cid:Code→Nat
 | .region id _ _=>id
 | .seq c _=>cid c
 | .block _ c=>cid c
 | .loop c=>cid c
 | .cond _ c _=>cid c
 | _=>0
def csz:Code→Nat
 | .seq c d=>csz c + csz d + 1
 | .block _ c=>csz c + 1
 | .loop c=>csz c + 1
 | .cond _ c d=>csz c + csz d + 1
 | _=>1
theorem cH {f F:γ→Option (γ ⊕ δ)} {g0:γ} {out:δ} {inv:γ→St} {kc:List Nat} (i:Nat) (ks kb:List Nat) (tm:γ→List (Nat × AV)) (bx:γ→List (Nat × List T)) (hF:f=F) (k:∀ g s,(∀ o,s = .inr o→o=out)→Hg True (F g) s (O E C c (aO (Lp C n ks kb inv s) S) (inv g)))
  (hi:cid c * 1000 + csz c=i:=by rfl) (cx:Cx C n kc:=by assumption) (hv:∀ v,upS ks kb σ (tm v) (bx v)=inv v:=by intro v;simp [upS,dW,bB];rfl) (hk:Φ→∃ fz,σ.shed n fz ks kb=some (inv g0):=by intro f;first | (refine ⟨[],?_⟩;simp [f];done) | (refine ⟨[],?_⟩;simp [f, *];done) | (refine ⟨fzOf ks σ (inv g0),?_⟩;simp [f,fzOf,aHy,T.own1];done) | fail):Hg Φ (aJ f g0) out (O E C (.loop c) S σ):=fun h e=>by
 subst hF
 obtain ⟨fz,hk⟩:=hk h
 refine O.loopO fz ks kb inv f out g0 e (by rw [cx.1];exact hk) fun g s h1 h2=>(k g s h2 trivial h1).mono fun e σ h3=>?_
 cases e with
 | normal =>
  obtain ⟨v,h4,fz,h5⟩:=h3
  exact ⟨v,fz,h4,h5⟩
 | _=>exact h3
theorem dP {t:Option γ} {x:γ→Option α} {inv:γ→St} {kc:List Nat} (i:Nat) (ks kb:List Nat) (tm:γ→List (Nat × AV)) (bx:γ→List (Nat × List T)) (k:(∀ v,Hg Φ t v (O E C c (aO (Ct C n ks kb inv v) S) σ))∧∀ v,Hg True (x v) r (O E C d S (inv v)))
  (hi:cid c * 1000 + csz c=i:=by rfl) (cx:Cx C n kc:=by assumption) (hv:∀ v,upS ks kb σ (tm v) (bx v)=inv v:=by intro v;simp [upS,dW,bB];rfl):Hg Φ (t.bind x) r (O E C (.seq c d) S σ):=fun h e=>by
 obtain ⟨v,h1,h2⟩:=bS e
 refine O.seq ((k.1 v h h1).mono fun e σ h3=>?_)
 cases e with
 | normal =>
  obtain ⟨fz,h5⟩:=h3
  exact O.shed h5 (k.2 v trivial h2)
 | _=>exact h3
theorem iF {t:Option (γ ⊕ α)} {x:γ ⊕ α→Option α} {inv:γ→St} {kc:List Nat} (i:Nat) (ks kb:List Nat) (tm:γ→List (Nat × AV)) (bx:γ→List (Nat × List T)) (k:(∀ s,(∀ o,s = .inr o→o=r)→Hg Φ t s (O E C c (aO (Lp C n ks kb inv s) S) σ))∧∀ v,Hg True (x (.inl v)) r (O E C d S (inv v)))
  (hi:cid c * 1000 + csz c=i:=by rfl) (cx:Cx C n kc:=by assumption) (hx:∀ z,x (.inr z)=some z:=by intro z;rfl) (hv:∀ v,upS ks kb σ (tm v) (bx v)=inv v:=by intro v;simp [upS,dW,bB];rfl):Hg Φ (t.bind x) r (O E C (.seq c d) S σ):=fun h e=>by
 obtain ⟨s,h1,h2⟩:=bS e
 refine O.seq ((k.1 s (fun z hz=>by rw [hz,hx] at h2;exact Option.some.inj h2) h h1).mono fun e σ h3=>?_)
 cases e with
 | normal =>
  obtain ⟨v,h4,fz,h5⟩:=h3
  subst h4
  exact O.shed h5 (k.2 v trivial h2)
 | _=>exact h3
theorem cK {t:Option γ} {x:γ→Option α} {inv:γ→St} {kc:List Nat} (i:Nat) (ks kb:List Nat) (tm:γ→List (Nat × AV)) (bx:γ→List (Nat × List T)) (k:(∀ v,Hg Φ t v (σ.wps E C.N l l (Ct C n ks kb inv v)))∧∀ v,Hg True (x v) r (O E C d S (inv v)))
  (hi:id=i:=by rfl) (cx:Cx C n kc:=by assumption) (hl:xs.toList=l:=by rfl) (hp:tU kc l=true:=by rfl) (hv:∀ v,upS ks kb σ (tm v) (bx v)=inv v:=by intro v;simp [upS,dW,bB];rfl):Hg Φ (t.bind x) r (O E C (.seq (.region id xs false) d) S σ):=fun h e=>by
 obtain ⟨v,h1,h2⟩:=bS e
 subst hl
 refine O.seq ((O.region (S:=aO (Ct C n ks kb inv v) fun _ _=>False) (cx.2 _ hp) (k.1 v h h1)).mono fun e σ h3=>?_)
 cases e with
 | normal =>
  obtain ⟨fz,h5⟩:=h3
  exact O.shed h5 (k.2 v trivial h2)
 | _=>exact h3.elim
section
variable {g:Operand} {ys:List Operand} {f:FuncId} {args:List Arg} {ms:List (Mode × Operand)} {β1 β2 β3 β4:Type}
theorem h_cc {e:Option β} {x:β→Option α} {res:β→List T} {outs:β→List (List T)} {τ:β→St} (k:∀ y,Hg Φ (x y) r ((τ y).wps E C.N ops os K)) (cx:Cx C n ks) (hc:fA o=some (g,ys)) (hf:σ.fn g=some f) (con:∀ y,Con E f (e=some y) args (res y) (outs y)) (en:Ent E f)
  (hl:args.length=ys.length) (hm:Φ→mB σ ys args=ms) (h1:Φ→∀ y,σ.wants ops o=some true∧rI args (fun pls σ2=>uA (fun s=>s=τ y) (St.land n o.dst (ms.any fun m=>m.1.isBor) pls (res y) (outs y) σ2)) (σ.lend n ms)):Hg Φ (e.bind x) r (σ.wps E C.N ops (o :: os) K):=fun f e'=>by
 obtain ⟨y,he,hx⟩:=bS e'
 have hk:=k y f hx
 have h2:=h1 f y
 exact @aE2 C E σ (τ y) K ops os o n ks g ys _ args (res y) (outs y) ms _ (con y) en he cx hc hl (hm f) ⟨h2.1,hf,h2.2⟩ hk
theorem h_c0 {e:Option Unit} {x:Unit→Option α} {res:List T} {outs:List (List T)} {τ:St} (k:Hg Φ (x ()) r (τ.wps E C.N ops os K)) (cx:Cx C n ks:=by assumption) (hc:fA o=some (g,ys):=by rfl) (hf:σ.fn g=some f:=by rfl) (con:Con E f (e=some ()) args res outs:=by infer_instance) (en:Ent E f:=by infer_instance)
  (hl:args.length=ys.length:=by rfl) (hm:Φ→mB σ ys args=ms:=by first | (intro f;simp [mB,lU,T.own1,f];done) | (intro f;simp [mB,lU,T.own1,f];rfl))
  (h1:Φ→σ.wants ops o=some true∧rI args (fun pls σ2=>uA (fun s=>s=τ) (St.land n o.dst (ms.any fun m=>m.1.isBor) pls res outs σ2)) (σ.lend n ms):=by first | (intro f;simp [f];rfl) | (intro f;simp [f, *];rfl)):Hg Φ (e.bind x) r (σ.wps E C.N ops (o :: os) K) :=
 h_cc (τ:=fun _=>τ) (fun _=>k) cx hc hf (fun _=>con) en hl hm fun f _=>h1 f
theorem h_c2 {e:Option (β1 × β2)} {x:β1 × β2→Option α} {x':β1→β2→Option α} {res:β1→β2→List T} {outs:β1→β2→List (List T)} {τ:β1→β2→St} (k:∀ y z,Hg Φ (x' y z) r ((τ y z).wps E C.N ops os K)) (cx:Cx C n ks:=by assumption) (hc:fA o=some (g,ys):=by rfl) (hf:σ.fn g=some f:=by rfl) (con:∀ y z,Con E f (e=some (y,z)) args (res y z) (outs y z):=by infer_instance) (en:Ent E f:=by infer_instance)
  (hl:args.length=ys.length:=by rfl) (hm:Φ→mB σ ys args=ms:=by first | (intro f;simp [mB,lU,T.own1,f];done) | (intro f;simp [mB,lU,T.own1,f];rfl))
  (h1:Φ→∀ y z,σ.wants ops o=some true∧rI args (fun pls σ2=>uA (fun s=>s=τ y z) (St.land n o.dst (ms.any fun m=>m.1.isBor) pls (res y z) (outs y z) σ2)) (σ.lend n ms):=by first | (intro f y z;simp [f];rfl) | (intro f y z;simp [f, *];rfl)) (hx:∀ y z,x (y,z)=x' y z:=by intro y z;first | (dsimp only;rfl) | rfl):Hg Φ (e.bind x) r (σ.wps E C.N ops (o :: os) K) :=
 h_cc (res:=fun p=>res p.1 p.2) (outs:=fun p=>outs p.1 p.2) (τ:=fun p=>τ p.1 p.2) (fun p=>by have:=hx p.1 p.2;rw [show x p=x' p.1 p.2 from this];exact k p.1 p.2) cx hc hf (fun p=>con p.1 p.2) en hl hm fun f p=>h1 f p.1 p.2
theorem h_c3 {e:Option (β1 × β2 × β3)} {x:β1 × β2 × β3→Option α} {x':β1→β2→β3→Option α} {res:β1→β2→β3→List T} {outs:β1→β2→β3→List (List T)} {τ:β1→β2→β3→St} (k:∀ y z u,Hg Φ (x' y z u) r ((τ y z u).wps E C.N ops os K)) (cx:Cx C n ks:=by assumption) (hc:fA o=some (g,ys):=by rfl) (hf:σ.fn g=some f:=by rfl) (con:∀ y z u,Con E f (e=some (y,z,u)) args (res y z u) (outs y z u):=by infer_instance) (en:Ent E f:=by infer_instance)
  (hl:args.length=ys.length:=by rfl) (hm:Φ→mB σ ys args=ms:=by first | (intro f;simp [mB,lU,T.own1,f];done) | (intro f;simp [mB,lU,T.own1,f];rfl))
  (h1:Φ→∀ y z u,σ.wants ops o=some true∧rI args (fun pls σ2=>uA (fun s=>s=τ y z u) (St.land n o.dst (ms.any fun m=>m.1.isBor) pls (res y z u) (outs y z u) σ2)) (σ.lend n ms):=by first | (intro f y z u;simp [f];rfl) | (intro f y z u;simp [f, *];rfl)) (hx:∀ y z u,x (y,z,u)=x' y z u:=by intro y z u;first | (dsimp only;rfl) | rfl):Hg Φ (e.bind x) r (σ.wps E C.N ops (o :: os) K) :=
 h_cc (res:=fun p=>res p.1 p.2.1 p.2.2) (outs:=fun p=>outs p.1 p.2.1 p.2.2) (τ:=fun p=>τ p.1 p.2.1 p.2.2) (fun p=>by have:=hx p.1 p.2.1 p.2.2;rw [show x p=x' p.1 p.2.1 p.2.2 from this];exact k p.1 p.2.1 p.2.2) cx hc hf (fun p=>con p.1 p.2.1 p.2.2) en hl hm fun f p=>h1 f p.1 p.2.1 p.2.2
theorem aX {fn : Func} (hf : E.P.funcs[f]? = some fn) (hn : (fn.name == "runtime.NumGoroutine") = false := by decide +kernel) (hb : fn.body.isNone = false := by rfl) : Ent E f := ⟨eO hf hn hb⟩
end
theorem sL {N:Nat} {K K':St→Prop} (hK:∀ σ,K σ→K' σ):∀ (os:List Oper) (σ:St),σ.wps E N ops os K→σ.wps E N ops os K'
 | [],σ,h=>hK _ h
 | o :: os,σ,h=>by
  simp only [St.wps] at h ⊢
  split at h
  ·obtain ⟨σ1,h1,h2⟩:=h
   exact ⟨σ1,h1,sL hK os _ h2⟩
  ·split at h
   ·rcases h with ⟨f,hf,he,⟨ms,args,pls,σ2,hms,hl,res,outs,hok,σ1,hb,hr⟩ | ⟨pre,x,xs',y',res,args,σ1,h0,hl,hok,hr⟩⟩ | ⟨f,n,ms,mc,args,pls,σ2,hf,he,hms,hmc,hl,res,outs,hok,σ1,hb,hr⟩
    ·exact .inl ⟨f,hf,he,.inl ⟨ms,args,pls,σ2,hms,hl,res,outs,hok,σ1,hb,sL hK os _ hr⟩⟩
    ·exact .inl ⟨f,hf,he,.inr ⟨pre,x,xs',y',res,args,σ1,h0,hl,hok,sL hK os _ hr⟩⟩
    exact .inr ⟨f,n,ms,mc,args,pls,σ2,hf,he,hms,hmc,hl,res,outs,hok,σ1,hb,sL hK os _ hr⟩
   obtain ⟨σ1,h1,h2⟩:=h
   exact ⟨σ1,h1,sL hK os _ h2⟩
  exact h
def tG:List Operand→List Nat
 | []=>[]
 | .tmp n :: xs=>n :: tG xs
 | .const _ :: xs=>tG xs
 | .func _ :: xs=>tG xs
 | .global _ :: xs=>tG xs
def kK (l:List Oper) (o:Oper):List Nat:=(match o.guard with
 | some (j,_)=>((l[j]?).bind Oper.dst).toList
 | none=>[]) ++ tG o.op.operands.toList
def tdAux:List Oper→List (List Nat)→List (List Nat)
 | [],acc=>acc
 | o :: os,acc=>tdAux os (acc ++ [(List.range acc.length).filter fun j=>o.after.toList.any fun e=>Region.binds .any e && (e.on == j || (decide (e.on < acc.length) && (acc.getD e.on []).contains j))])
def tdOf (l:List Oper):List (List Nat):=tdAux l []
def clB (l:List Oper) (m:Nat):Bool:=(List.range m).all fun i=>match l[i]? with
 | some o=>(kK l o).all fun n=>(List.range m).all fun j=>match (l[j]?).bind Oper.dst with
  | some d=>!(d == n) || (decide (j < i) && ((tdOf l).getD i []).contains j)
  | none=>false
 | none=>false
def frB (l:List Oper) (m:Nat) (tm:List Nat):Bool:=(l.take m).all fun o=>match o.dst with
 | some d=>(tm.all fun e=>!(e == d))
 | none=>false
def ndB:List Oper→Bool
 | []=>true
 | o :: os=>(match o.dst with
  | some d=>os.all fun o'=>!(o'.dst == some d)
  | none=>false) && ndB os
def mOf (l:List Oper):Nat:=((List.range (l.length + 1)).find? fun m=>(List.range l.length).all fun i=>decide (i < m) || ((tdOf l).getD i []).length == i).getD l.length
def drB (l:List Oper) (m:Nat) (tm:List Nat):Bool:=decide (m ≤ l.length) && ndB (l.take m) && frB l m tm && aJr 0 l && aDx (tdOf l) m l.length && tdB (tdOf l) 0 l && clB l m
def owed1 (E:Env) (C:Ctx) (σ:St) (l:List Oper) (dn:List (Nat × AV)) (o:Oper) (e:Nat × AV):Prop :=
 ∀ τ:St,τ.bx=σ.bx→(∀ n ∈ kK l o,look τ.tm n=look (σ.tm ++ dn) n)→(∀ n,look σ.tm n ≠ none→look τ.tm n=look σ.tm n)→look τ.tm e.1=some .u→∀ K:St→Prop,K ⟨put τ.tm e.1 e.2,σ.bx⟩→τ.wps E C.N l [o] K
def Dr (E:Env) (C:Ctx) (σ:St) (l:List Oper) (K:List (Nat × AV)→Prop):List Oper→List (Nat × AV)→Prop
 | [],dn=>K dn
 | o :: os,dn=>∃ e,o.dst=some e.1∧owed1 E C σ l dn o e∧Dr E C σ l K os (dn ++ [e])
theorem Dr.get {K:List (Nat × AV)→Prop}:∀ (os:List Oper) (dn:List (Nat × AV)),Dr E C σ l K os dn→∃ vs,vs.map (fun e=>some e.1)=os.map Oper.dst∧(∀ i o,os[i]? = some o→∃ e,vs[i]? = some e∧owed1 E C σ l (dn ++ vs.take i) o e)∧K (dn ++ vs)
 | [],dn,h=>⟨[],rfl,fun i o h=>by simp at h,by simpa [Dr] using h⟩
 | o :: os,dn,h=>by
  obtain ⟨e,h1,h2,h3⟩:=h
  obtain ⟨vs,q1,q2,q3⟩:=Dr.get os (dn ++ [e]) h3
  refine ⟨e :: vs,by simp [q1,h1],fun i o' hi=>?_,by simpa using q3⟩
  cases i with
  | zero =>
   simp only [List.getElem?_cons_zero,Option.some.injEq] at hi
   subst hi
   exact ⟨e,rfl,by simpa using h2⟩
  | succ i =>
   obtain ⟨e',g1,g2⟩:=q2 i o' (by simpa using hi)
   exact ⟨e',by simpa using g1,by simpa using g2⟩
theorem aDf {p:Nat→Oper→Prop}:∀ (l:List Oper) (n:Nat),(∀ i o,l[i]? = some o→p (n + i) o)→xD p n l
 | [],n,h=>trivial
 | o :: os,n,h=>⟨by simpa using h 0 o rfl,aDf os (n + 1) fun i o' hi=>by
  have:=h (i + 1) o' (by simpa using hi)
  rwa [show n + (i + 1)=n + 1 + i by omega] at this⟩
theorem aGg {tm:List (Nat × AV)} {n:Nat} (h:tm.all (fun e=>!(e.1 == n))=true):look tm n=none:=by
 induction tm with
 | nil=>rfl
 | cons e tm ih =>
  obtain ⟨k,x⟩:=e
  simp only [List.all_cons,Bool.and_eq_true,Bool.not_eq_true',beq_eq_false_iff_ne] at h
  simp only [look,if_neg h.1]
  exact ih h.2
theorem aFa:∀ (l:List (Nat × AV)) (j:Nat) (e:Nat × AV),(l.map Prod.fst).Nodup→l[j]? = some e→look l e.1=some e.2
 | [],j,e,_,h=>by simp at h
 | (k,v) :: l,j,e,hn,h=>by
  simp only [List.map_cons,List.nodup_cons] at hn
  cases j with
  | zero=>simp only [List.getElem?_cons_zero,Option.some.injEq] at h;subst h;simp [look]
  | succ j =>
   simp only [List.getElem?_cons_succ] at h
   have hne:k ≠ e.1:=fun hk=>hn.1 (List.mem_map.2 ⟨e,List.mem_of_getElem? h,hk.symm⟩)
   simp only [look,if_neg hne]
   exact aFa l j e hn.2 h
theorem aKi:∀ (os:List Oper) (vs:List (Nat × AV)),ndB os=true→vs.map (fun e=>some e.1)=os.map Oper.dst→(vs.map Prod.fst).Nodup
 | [],[],_,_=>by simp
 | [],_ :: _,_,h=>by simp at h
 | _ :: _,[],_,h=>by simp at h
 | o :: os,e :: vs,h,hv=>by
  simp only [List.map_cons,List.cons.injEq] at hv
  simp only [ndB,← hv.1,Bool.and_eq_true,List.all_eq_true,Bool.not_eq_true',beq_eq_false_iff_ne] at h
  rw [List.map_cons,List.nodup_cons]
  refine ⟨fun hm=>?_,aKi os vs h.2 hv.2⟩
  obtain ⟨x,hx,he⟩:=List.mem_map.1 hm
  have:some x.1 ∈ os.map Oper.dst:=by rw [← hv.2];exact List.mem_map.2 ⟨x,hx,rfl⟩
  obtain ⟨o',h1,h2⟩:=List.mem_map.1 this
  exact h.1 o' h1 (by rw [h2,he])
theorem O.drawS (m:Nat) (hl:xs.toList=l) (hp:lO C.pin l=true) (hb:drB l m (σ.tm.map Prod.fst)=true) (h:Dr E C σ l (fun vs=>(⟨σ.tm ++ vs,σ.bx⟩:St).wps E C.N l (l.drop m) fun σ'=>S .normal σ') (l.take m) []):O E C (.region id xs true) S σ:=by
 simp only [drB,Bool.and_eq_true,decide_eq_true_eq] at hb
 obtain ⟨⟨⟨⟨⟨⟨hm,hnd⟩,hfr⟩,hord⟩,hlast⟩,htd⟩,hcl⟩:=hb
 obtain ⟨vs,q1,q2,q3⟩:=Dr.get _ _ h
 have hlen:vs.length=m:=by
  have:=congrArg List.length q1
  simp only [List.length_map,List.length_take] at this
  omega
 have hnd':=aKi _ _ hnd q1
 have hfresh:∀ n ∈ vs.map Prod.fst,look σ.tm n=none:=by
  intro n hn
  obtain ⟨x,hx,rfl⟩:=List.mem_map.1 hn
  have:some x.1 ∈ (l.take m).map Oper.dst:=by rw [← q1];exact List.mem_map.2 ⟨x,hx,rfl⟩
  obtain ⟨o',h1,h2⟩:=List.mem_map.1 this
  have h3:=List.all_eq_true.1 hfr o' h1
  simp only [h2,List.all_map] at h3
  exact aGg h3
 refine O.dT hl hp vs (tdOf l) (by omega) (decide_eq_true hnd') hfresh hord (by rw [hlen];exact hlast) htd ?_ fun K hK=>?_
 ·rw [hlen]
  refine aDf _ 0 fun i o hi=>?_
  rw [Nat.zero_add]
  obtain ⟨e,he,how⟩:=q2 i o hi
  have hev:bN vs i=e:=by unfold bN;rw [List.getD_eq_getElem?_getD,he];rfl
  have him:i < m:=by have:=(List.getElem?_eq_some_iff.1 he).1;omega
  intro τ h1 h2 h3 h4 K hK
  rw [hev] at h4 hK
  have hli:l[i]? = some o:=by rw [List.getElem?_take,if_pos him] at hi;exact hi
  have hsl:∀ n ∈ kK l o,∀ j,j < m→∀ x,vs[j]? = some x→x.1=n→j < i∧j ∈ (tdOf l).getD i []:=by
   intro n hn j hj x hx hxn
   have g1:=List.all_eq_true.1 hcl i (List.mem_range.2 him)
   simp only [hli] at g1
   have g2:=List.all_eq_true.1 (List.all_eq_true.1 g1 n hn) j (List.mem_range.2 hj)
   have g3:(l[j]?).bind Oper.dst=some x.1:=by
    have:(vs.map fun e=>some e.1)[j]? = ((l.take m).map Oper.dst)[j]?:=by rw [q1]
    rw [List.getElem?_map,hx,List.getElem?_map,List.getElem?_take,if_pos hj] at this
    cases hlj:l[j]? with
    | none=>rw [hlj] at this;simp at this
    | some y=>rw [hlj] at this;simp at this;simp [← this]
   simp only [g3,hxn,beq_self_eq_true,Bool.not_true,Bool.false_or,Bool.and_eq_true,decide_eq_true_eq,List.contains_iff_mem] at g2
   exact g2
  refine how τ h1 (fun n hn=>?_) (fun n hn=>h2 n fun hk=>hn (hfresh n hk)) h4 K (hK _ (by rw [h1]))
  rw [List.nil_append,mJ]
  by_cases hk:n ∈ vs.map Prod.fst
  ·obtain ⟨x,hx,hxn⟩:=List.mem_map.1 hk
   obtain ⟨j,hj⟩:=List.getElem?_of_mem hx
   have hjm:j < m:=by have:=(List.getElem?_eq_some_iff.1 hj).1;omega
   obtain ⟨g1,g2⟩:=hsl n hn j hjm x hj hxn
   have g3:=h3 j g2
   have hvj:bN vs j=x:=by unfold bN;rw [List.getD_eq_getElem?_getD,hj];rfl
   rw [hvj,hxn] at g3
   rw [g3,hfresh n hk]
   have:=aFa (vs.take i) j x (hnd'.sublist ((List.take_sublist i vs).map _)) (by rw [List.getElem?_take,if_pos g1];exact hj)
   rw [hxn] at this
   exact this.symm
  rw [h2 n hk]
  cases look σ.tm n with
  | some y=>rfl
  | none =>
   refine (rR fun hm=>hk ?_).symm
   obtain ⟨x,hx,hxn⟩:=List.mem_map.1 hm
   exact List.mem_map.2 ⟨x,List.mem_of_mem_take hx,hxn⟩
 rw [hlen]
 exact sL hK _ _ q3
theorem h_dr {kk:List Nat} (k:Hg Φ X r (Dr E C σ l (fun vs=>(⟨σ.tm ++ vs,σ.bx⟩:St).wps E C.N l (l.drop (mOf l)) fun σ'=>S .normal σ') (l.take (mOf l)) [])) (cx:Cx C n ks:=by assumption) (hl:xs.toList=l:=by rfl) (hp:tU ks l=true:=by rfl) (hk:σ.tm.map Prod.fst=kk:=by simp only [List.map_cons,List.map_nil];rfl) (hb:drB l (mOf l) kk=true:=by decide +kernel):Hg Φ X r (O E C (.region id xs true) S σ):=fun f e=>O.drawS _ hl (cx.2 _ hp) (by rw [hk];exact hb) (k f e)
theorem h_dn {K:List (Nat × AV)→Prop} {dn:List (Nat × AV)} (k:Hg Φ X r (K dn)):Hg Φ X r (Dr E C σ l K [] dn):=k
theorem h_dq {K:List (Nat × AV)→Prop} {dn dn':List (Nat × AV)} {d:Nat} {v:AV} {ss:List Nat} (k:Hg Φ X r (Dr E C σ l K os dn')) (cx:Cx C n ks:=by assumption) (hd:o.dst=some d:=by rfl) (hc:fA o=none:=by rfl) (hs:kK l o=ss:=by simp [kK,tG,Op.operands,Call.operands];rfl)
  (h1:Φ→∀ τ:St,τ.bx=σ.bx→(∀ n ∈ ss,look τ.tm n=look (σ.tm ++ dn) n)→(∀ n,look σ.tm n ≠ none→look τ.tm n=look σ.tm n)→look τ.tm d=some .u→τ.stepK E n l o (fun s=>s=⟨put τ.tm d v,σ.bx⟩):=by intro f τ hbx hd hb hf;(try simp [look] at hd);first | (simp [f,hbx,hd,hb,hf,look];rfl) | (simp [f,hbx,hb,hf,look];rfl))
  (hdn:dn ++ [(d,v)]=dn':=by simp only [List.nil_append,List.cons_append];rfl):Hg Φ X r (Dr E C σ l K (o :: os) dn):=fun f e=>by
 subst hs hdn
 exact ⟨(d,v),hd,fun τ h1' h2' h3' h4' K hK=>aK cx.1 (wN hK) hc (h1 f τ h1' h2' h3' h4'),k f e⟩
theorem h_ds {K:List (Nat × AV)→Prop} {dn dn':List (Nat × AV)} {d:Nat} {v:AV} {ss:List Nat} (k:Hg Φ X r (Dr E C σ l K os dn')) (cx:Cx C n ks:=by assumption) (hd:o.dst=some d:=by rfl) (hc:fA o=none:=by rfl) (hs:kK l o=ss:=by simp [kK,tG,Op.operands,Call.operands];rfl)
  (h1:Φ→∀ τ:St,τ.bx=σ.bx→(∀ n ∈ ss,look τ.tm n=look (σ.tm ++ dn) n)→(∀ n,look σ.tm n ≠ none→look τ.tm n=look σ.tm n)→look τ.tm d=some .u→τ.stepK E n l o (fun s=>s=⟨put τ.tm d v,σ.bx⟩):=by intro f τ hbx hd hb hf;(try simp [look] at hd);(simp [f,hbx,hd,hb,hf,look, *];rfl))
  (hdn:dn ++ [(d,v)]=dn':=by simp only [List.nil_append,List.cons_append];rfl):Hg Φ X r (Dr E C σ l K (o :: os) dn):=fun f e=>by
 subst hs hdn
 exact ⟨(d,v),hd,fun τ h1' h2' h3' h4' K hK=>aK cx.1 (wN hK) hc (h1 f τ h1' h2' h3' h4'),k f e⟩
section
variable {g:Operand} {ys:List Operand} {f:FuncId} {args:List Arg} {ms:List (Mode × Operand)} {β1 β2:Type} {KD:List (Nat × AV)→Prop} {dn:List (Nat × AV)} {d:Nat} {ss:List Nat}
def Tk (σ:St) (dn:List (Nat × AV)) (ss:List Nat) (d:Nat) (τ:St):Prop:=τ.bx=σ.bx∧(∀ n ∈ ss,look τ.tm n=look (σ.tm ++ dn) n)∧(∀ n,look σ.tm n ≠ none→look τ.tm n=look σ.tm n)∧look τ.tm d=some .u
theorem h_do {dn':List (Nat × AV)} (k:Hg Φ X r (Dr E C σ l KD os dn')) (cx:Cx C n ks:=by assumption) (hd:o.dst=some d:=by rfl) (hs:kK l o=ss:=by simp [kK,tG,Op.operands,Call.operands];rfl)
  (h1:Φ→∀ τ:St,Tk σ dn ss d τ→τ.wants l o=some false∧τ.put? n (some d) (.tup [])=some ⟨put τ.tm d (.tup []),σ.bx⟩:=by intro f τ hT;have hbx:=hT.1;have hd:=hT.2.1;have hb:=hT.2.2.1;have hf:=hT.2.2.2;clear hT;(try simp [look] at hd);first | (simp [f,hbx,hd,hb,hf,look];done) | (simp [f,hbx,hb,hf,look];done) | (simp [f,hbx,hd,hb,hf,look, *];done) | fail)
  (hdn:dn ++ [(d,.tup [])]=dn':=by simp only [List.nil_append,List.cons_append];rfl):Hg Φ X r (Dr E C σ l KD (o :: os) dn):=fun f e=>by
 subst hs hdn
 refine ⟨(d,.tup []),hd,fun τ h1' h2' h3' h4' K hK=>?_,k f e⟩
 obtain ⟨q1,q2⟩:=h1 f τ ⟨h1',h2',h3',h4'⟩
 exact wO fun K' hK'=>⟨q1,_,by rw [cx.1,hd];exact q2,hK' _ (wN hK)⟩
theorem h_dcc {e:Option β} {x:β→Option α} {res:β→List T} {outs:β→List (List T)} {v:β→AV} {dn':β→List (Nat × AV)} (k:∀ y,Hg Φ (x y) r (Dr E C σ l KD os (dn' y))) (cx:Cx C n ks) (hc:fA o=some (g,ys)) (hd:o.dst=some d) (hs:kK l o=ss) (con:∀ y,Con E f (e=some y) args (res y) (outs y)) (en:Ent E f)
  (hl:args.length=ys.length) (hm:Φ→∀ τ:St,Tk σ dn ss d τ→mB τ ys args=ms)
  (h1:Φ→∀ τ:St,Tk σ dn ss d τ→∀ y,τ.wants l o=some true∧τ.fn g=some f∧rI args (fun pls σ2=>uA (fun s=>s=⟨put τ.tm d (v y),σ.bx⟩) (St.land n (some d) (ms.any fun m=>m.1.isBor) pls (res y) (outs y) σ2)) (τ.lend n ms))
  (hdn:∀ y,dn ++ [(d,v y)]=dn' y):Hg Φ (e.bind x) r (Dr E C σ l KD (o :: os) dn):=fun f e'=>by
 obtain ⟨y,he,hx⟩:=bS e'
 subst hs
 refine ⟨(d,v y),hd,fun τ h1' h2' h3' h4' K hK=>?_,by rw [hdn];exact k y f hx⟩
 have hT:Tk σ dn (kK l o) d τ:=⟨h1',h2',h3',h4'⟩
 exact @aE2 C E τ ⟨put τ.tm d (v y),σ.bx⟩ K l [] o n ks g ys _ args (res y) (outs y) ms _ (con y) en he cx hc hl (hm f τ hT) (by rw [hd];exact h1 f τ hT y) (wN hK)
theorem h_dc1 {e:Option β} {x:β→Option α} {res:β→List T} {outs:β→List (List T)} {v:β→AV} {dn':β→List (Nat × AV)} (k:∀ y,Hg Φ (x y) r (Dr E C σ l KD os (dn' y))) (cx:Cx C n ks:=by assumption) (hc:fA o=some (g,ys):=by rfl) (hf:σ.fn g=some f:=by rfl) (hd:o.dst=some d:=by rfl) (hs:kK l o=ss:=by simp [kK,tG,Op.operands,Call.operands];rfl) (con:∀ y,Con E f (e=some y) args (res y) (outs y):=by infer_instance) (en:Ent E f:=by infer_instance)
  (hl:args.length=ys.length:=by rfl) (hm:Φ→∀ τ:St,Tk σ dn ss d τ→mB τ ys args=ms:=by intro f τ hT;have hbx:=hT.1;have hd:=hT.2.1;have hb:=hT.2.2.1;have hf:=hT.2.2.2;clear hT;(try simp [look] at hd);first | (simp [mB,lU,T.own1,f,hd];done) | (simp [mB,lU,T.own1,f,hd];rfl) | (simp [mB,lU,T.own1,f];done) | fail)
  (h1:Φ→∀ τ:St,Tk σ dn ss d τ→∀ y,τ.wants l o=some true∧τ.fn g=some f∧rI args (fun pls σ2=>uA (fun s=>s=⟨put τ.tm d (v y),σ.bx⟩) (St.land n (some d) (ms.any fun m=>m.1.isBor) pls (res y) (outs y) σ2)) (τ.lend n ms):=by intro f τ hT y;have hbx:=hT.1;have hd:=hT.2.1;have hb:=hT.2.2.1;have hf:=hT.2.2.2;clear hT;(try simp [look] at hd);first | (simp [f,hbx,hd,hb,hf,look];rfl) | (simp [f,hbx,hb,hf,look];rfl) | (simp [f,hbx,hd,hb,hf,look, *];rfl))
  (hdn:∀ y,dn ++ [(d,v y)]=dn' y:=by intro y;simp only [List.nil_append,List.cons_append];rfl):Hg Φ (e.bind x) r (Dr E C σ l KD (o :: os) dn):=h_dcc k cx hc hd hs con en hl hm h1 hdn
theorem h_dc2 {e:Option (β1 × β2)} {x:β1 × β2→Option α} {x':β1→β2→Option α} {res:β1→β2→List T} {outs:β1→β2→List (List T)} {v:β1→β2→AV} {dn':β1→β2→List (Nat × AV)} (k:∀ y z,Hg Φ (x' y z) r (Dr E C σ l KD os (dn' y z))) (cx:Cx C n ks:=by assumption) (hc:fA o=some (g,ys):=by rfl) (hf:σ.fn g=some f:=by rfl) (hd:o.dst=some d:=by rfl) (hs:kK l o=ss:=by simp [kK,tG,Op.operands,Call.operands];rfl) (con:∀ y z,Con E f (e=some (y,z)) args (res y z) (outs y z):=by infer_instance) (en:Ent E f:=by infer_instance)
  (hl:args.length=ys.length:=by rfl) (hm:Φ→∀ τ:St,Tk σ dn ss d τ→mB τ ys args=ms:=by intro f τ hT;have hbx:=hT.1;have hd:=hT.2.1;have hb:=hT.2.2.1;have hf:=hT.2.2.2;clear hT;(try simp [look] at hd);first | (simp [mB,lU,T.own1,f,hd];done) | (simp [mB,lU,T.own1,f,hd];rfl) | (simp [mB,lU,T.own1,f];done) | fail)
  (h1:Φ→∀ τ:St,Tk σ dn ss d τ→∀ y z,τ.wants l o=some true∧τ.fn g=some f∧rI args (fun pls σ2=>uA (fun s=>s=⟨put τ.tm d (v y z),σ.bx⟩) (St.land n (some d) (ms.any fun m=>m.1.isBor) pls (res y z) (outs y z) σ2)) (τ.lend n ms):=by intro f τ hT y z;have hbx:=hT.1;have hd:=hT.2.1;have hb:=hT.2.2.1;have hf:=hT.2.2.2;clear hT;(try simp [look] at hd);first | (simp [f,hbx,hd,hb,hf,look];rfl) | (simp [f,hbx,hb,hf,look];rfl) | (simp [f,hbx,hd,hb,hf,look, *];rfl))
  (hdn:∀ y z,dn ++ [(d,v y z)]=dn' y z:=by intro y z;simp only [List.nil_append,List.cons_append];rfl) (hx:∀ y z,x (y,z)=x' y z:=by intro y z;first | (dsimp only;rfl) | rfl):Hg Φ (e.bind x) r (Dr E C σ l KD (o :: os) dn) :=
 h_dcc (res:=fun p=>res p.1 p.2) (outs:=fun p=>outs p.1 p.2) (v:=fun p=>v p.1 p.2) (dn':=fun p=>dn' p.1 p.2) (fun p=>by have:=hx p.1 p.2;rw [show x p=x' p.1 p.2 from this];exact k p.1 p.2) cx hc hd hs (fun p=>con p.1 p.2) en hl hm (fun f τ hT p=>h1 f τ hT p.1 p.2) fun p=>hdn p.1 p.2
end
def Lv (E:Env) (n:Nat) (rs:List ResultVar) (args:List Arg) (res:List T) (outs:List (List T)) (e:Exit) (σ:St):Prop:=(e = .ret ∨ e = .normal)∧σ.leave E n rs args=some (res,outs)
theorem fW {f:FuncId} {fn:Func} {args:List Arg} {res:List T} {outs:List (List T)} {rs:List ResultVar} (hf:E.P.funcs[f]? = some fn) (k:∀ C,Cx C n []→Hg True X r (O E C c (Lv E n rs args res outs) (wP n args))) (hb:fn.body=some c:=by rfl) (hn:fn.ntmps=n:=by conv=>lhs;whnf) (hr:fn.results.toList=rs:=by conv=>lhs;whnf) (hN:decide (args.length ≤ n)=true:=by rfl):Con E f (X=some r) args res outs:=by
 subst hn hr
 exact ⟨fun h=>oB hf hb (of_decide_eq_true hN) fun C hC hP=>k C ⟨hC,pO (by rw [hP];rfl)⟩ trivial h⟩
theorem h_end {v:α} {rs:List ResultVar} {args:List Arg} {res:List T} {outs:List (List T)} {x:Exit} (h:Φ→v=r→σ.leave E n rs args=some (res,outs):=by intro f e;cases e;first | (simp;done) | (simp [f];done) | (simp [f, *];done) | fail) (hx:x = .ret ∨ x = .normal:=by first | exact .inl rfl | exact .inr rfl):Hg Φ (some v) r (Lv E n rs args res outs x σ):=fun f e=>⟨hx,h f (Option.some.inj e)⟩
end
theorem S {p q:Prop} (k:q) (h:q→p:=by first
 | (show _→Hg _ _ _ (St.wps _ _ _ (_ :: _) _ _);first
  | (show _→Hg _ (bF _ _) _ (St.wps _ _ _ (Oper.mk _ (.store _ _ _) _ _ _ _ :: _) _ _);exact fun k=>aJx k)
  | exact fun k=>h_q k
  | (show _→Hg _ (Option.bind _ _) _ _;first
  | (show _→Hg _ (Option.bind (aY (_ :: _) _) _) _ _;exact fun k=>f_gel k)
  | (show _→Hg _ (Option.bind (aY _ _) _) _ _;exact fun k=>f_get k)
  | (show _→Hg _ (Option.bind (sAt _ _) _) _ _;exact fun k=>f_at k)
  | (show _→Hg _ (Option.bind (fD _ _ _) _) _ _;exact fun k=>f_sub k)
  | (show _→Hg _ (Option.bind (bK _ _) _) _ _;exact fun k=>f_cat k)
  | (show _→Hg _ (Option.bind (aCd _ _) _) _ _;exact fun k=>f_rem k)
  | (show _→Hg _ (Option.bind (shlI _ _ _) _) _ _;exact fun k=>f_shl k)
  | (show _→Hg _ (Option.bind (shrI _ _ _) _) _ _;exact fun k=>f_shr k)
  | (show _→Hg _ (Option.bind (bW _ [] _) _) _ _;exact fun k=>f_ap0 k)
  | (show _→Hg _ (Option.bind (bW _ _ _) _) _ _;exact fun k=>f_app k)
  | (show _→Hg _ (Option.bind (mkI _ _ _) _) _ _;exact fun k=>f_mk k)
  | (show _→Hg _ (Option.bind (fE _ _ _) _) _ _;exact fun k=>f_sl k))
  | (show _→Hg _ (bF _ _) _ _;exact fun k=>aJx k)
  | exact fun k=>h_qs k
  | (show _→Hg _ (Option.bind _ _) _ _;first | exact fun k=>h_c3 k | exact fun k=>h_c2 k | exact fun k=>h_c0 k | exact fun k=>h_c1 k) | exact fun k=>h_off k | exact fun k=>h_lB k | (show _→Hg _ (ite _ _ _) _ _;first | exact fun k=>f_ie k | exact fun k=>f_in k | exact fun k=>f_if k))
 | (show _→Hg _ _ _ (St.wps _ _ _ [] _ _);exact fun k=>h_nil k)
 | (show _→Hg _ _ _ (Dr _ _ _ _ _ (_ :: _) _);first
  | exact fun k=>h_dq k
  | (show _→Hg _ (Option.bind _ _) _ _;first
  | (show _→Hg _ (Option.bind (aY (_ :: _) _) _) _ _;exact fun k=>f_gel k)
  | (show _→Hg _ (Option.bind (aY _ _) _) _ _;exact fun k=>f_get k)
  | (show _→Hg _ (Option.bind (sAt _ _) _) _ _;exact fun k=>f_at k)
  | (show _→Hg _ (Option.bind (fD _ _ _) _) _ _;exact fun k=>f_sub k)
  | (show _→Hg _ (Option.bind (bK _ _) _) _ _;exact fun k=>f_cat k)
  | (show _→Hg _ (Option.bind (aCd _ _) _) _ _;exact fun k=>f_rem k)
  | (show _→Hg _ (Option.bind (shlI _ _ _) _) _ _;exact fun k=>f_shl k)
  | (show _→Hg _ (Option.bind (shrI _ _ _) _) _ _;exact fun k=>f_shr k)
  | (show _→Hg _ (Option.bind (bW _ [] _) _) _ _;exact fun k=>f_ap0 k)
  | (show _→Hg _ (Option.bind (bW _ _ _) _) _ _;exact fun k=>f_app k)
  | (show _→Hg _ (Option.bind (mkI _ _ _) _) _ _;exact fun k=>f_mk k)
  | (show _→Hg _ (Option.bind (fE _ _ _) _) _ _;exact fun k=>f_sl k))
  | (show _→Hg _ (bF _ _) _ _;exact fun k=>aJx k)
  | exact fun k=>h_ds k
  | (show _→Hg _ (Option.bind _ _) _ _;first | exact fun k=>h_dc2 k | exact fun k=>h_dc1 k) | exact fun k=>h_do k | (show _→Hg _ (ite _ _ _) _ _;first | exact fun k=>f_ie k | exact fun k=>f_in k | exact fun k=>f_if k))
 | (show _→Hg _ _ _ (Dr _ _ _ _ _ [] _);exact fun k=>h_dn k)
 | (show _→Hg _ _ _ (O _ _ _ _ _);first
  | (show _→Hg _ _ _ (O _ _ (.seq _ _) _ _);first
   | (show _→Hg _ _ _ (O _ _ (.seq (.region _ _ false) _) _ _);exact fun k=>h_sr k)
   | exact fun k=>h_sq k)
  | (show _→Hg _ _ _ (O _ _ (.region _ _ false) _ _);exact fun k=>h_rg k)
  | (show _→Hg _ _ _ (O _ _ (.region _ _ true) _ _);exact fun k=>h_dr k)
  | (show _→Hg _ (ite _ _ _) _ (O _ _ (.cond _ _ _) _ _);exact fun k=>h_cd k)
  | (show _→Hg _ _ _ (O _ _ (.cond _ _ _) _ _);first | exact fun k=>h_ct k | exact fun k=>h_cf k)
  | (show _→Hg _ _ _ (O _ _ .skip _ _);exact fun k=>h_sk k)
  | (show _→Hg _ _ _ (O _ _ (.block _ _) _ _);exact fun k=>h_bk k)
  | (show _→Hg _ _ _ (O _ _ (.exit _) _ _);exact fun k=>h_ex k)
  | (show _→Hg _ _ _ (O _ _ .ret _ _);exact fun k=>h_rt k)
  | (show _→Hg _ _ _ (O _ _ (.label _) _ _);exact fun k=>h_lb k))
 | (show _→Hg _ _ _ (aO _ _ _ _);first
  | (show _→Hg _ _ _ (aO _ _ .normal _);exact fun k=>h_tn k)
  | (show _→Hg _ _ _ (aO _ _ .ret _);exact fun k=>h_tr k)
  | exact fun k=>h_te k)
 | (show _→Hg _ _ _ (iB _ _ _ _);first
  | (show _→Hg _ _ _ (iB _ _ .normal _);exact fun k=>h_bn k)
  | (show _→Hg _ _ _ (iB _ _ .ret _);exact fun k=>h_br k)
  | exact fun k=>h_be k
  | exact fun k=>h_bd k)
 | (show _→Hg _ (some (Sum.inr _)) _ _;exact fun k=>fS k)
 | (show _→Hg _ (bF _ _) _ _;exact fun k=>aJx k)
 | fail):p:=h k
theorem Z {p:Prop} (h:p:=by first
 | (show Hg _ (some _) _ (Lv _ _ _ _ _ _ _ _);exact h_end)
 | (show Hg _ (some _) _ (Ct _ _ _ _ _ _ _);exact h_lv)
 | (show Hg _ (some (Sum.inl _)) _ (Lp _ _ _ _ _ _ _);exact h_ll)
 | fail):p:=h
end Go.OM
namespace Go.Proofs
open Go.Shelf
def Tryz.lays146_ren:Go.Shelf.Ren:=⟨fun | 146=>102 | 221=>109 | 268=>113 | 138=>114 | 143=>115 | 195=>116 | 197=>117 | 218=>118 | 219=>119 | 260=>120 | 217=>121 | 225=>122 | 224=>123 | 267=>124 | 266=>125 | 314=>126 | n=>n,fun | 9=>9 | 31=>79 | 3=>3 | 4=>4 | 0=>0 | 105=>126 | 21=>21 | 5=>5 | 46=>86 | 119=>130 | 139=>133 | 138=>132 | 146=>135 | 51=>134 | n=>n,fun | 1=>0 | 3=>1 | 4=>2 | n=>n⟩
theorem Tryz.lays146:Go.Proofs.Lays.n146 Tryz.prog Tryz.lays146_ren:={
 mixed:=by kernel_rfl
 f138:=Tryz.func114.trans (congrArg some (by kernel_rfl))
 f143:=Tryz.func115.trans (congrArg some (by kernel_rfl))
 f146:=Tryz.func102.trans (congrArg some (by kernel_rfl))
 f195:=Tryz.func116.trans (congrArg some (by kernel_rfl))
 f197:=Tryz.func117.trans (congrArg some (by kernel_rfl))
 f217:=Tryz.func121.trans (congrArg some (by kernel_rfl))
 f218:=Tryz.func118.trans (congrArg some (by kernel_rfl))
 f219:=Tryz.func119.trans (congrArg some (by kernel_rfl))
 f221:=Tryz.func109.trans (congrArg some (by kernel_rfl))
 f224:=Tryz.func123.trans (congrArg some (by kernel_rfl))
 f225:=Tryz.func122.trans (congrArg some (by kernel_rfl))
 f260:=Tryz.func120.trans (congrArg some (by kernel_rfl))
 f266:=Tryz.func125.trans (congrArg some (by kernel_rfl))
 f267:=Tryz.func124.trans (congrArg some (by kernel_rfl))
 f268:=Tryz.func113.trans (congrArg some (by kernel_rfl))
 f314:=Tryz.func126.trans (congrArg some (by kernel_rfl))
 t0:=Tryz.underlying0
 a0:=Tryz.isAgg0
 z0:=Tryz.sizeOf0
 v0:=Tryz.zeroValue0
 t3:=Tryz.underlying3
 a3:=Tryz.isAgg3
 z3:=Tryz.sizeOf3
 v3:=Tryz.zeroValue3
 t4:=Tryz.underlying4
 a4:=Tryz.isAgg4
 z4:=Tryz.sizeOf4
 v4:=Tryz.zeroValue4
 t5:=Tryz.underlying5
 a5:=Tryz.isAgg5
 z5:=Tryz.sizeOf5
 v5:=Tryz.zeroValue5
 t9:=Tryz.underlying9
 a9:=Tryz.isAgg9
 z9:=Tryz.sizeOf9
 v9:=Tryz.zeroValue9
 t21:=Tryz.underlying21
 a21:=Tryz.isAgg21
 z21:=Tryz.sizeOf21
 v21:=Tryz.zeroValue21
 t31:=Tryz.underlying79
 a31:=Tryz.isAgg79
 z31:=Tryz.sizeOf79
 v31:=Tryz.zeroValue79
 t46:=Tryz.underlying86
 a46:=Tryz.isAgg86
 z46:=Tryz.sizeOf86
 v46:=Tryz.zeroValue86
 t51:=Tryz.underlying134
 a51:=Tryz.isAgg134
 z51:=Tryz.sizeOf134
 v51:=Tryz.zeroValue134
 t105:=Tryz.underlying126
 a105:=Tryz.isAgg126
 z105:=Tryz.sizeOf126
 v105:=Tryz.zeroValue126
 t119:=Tryz.underlying130
 a119:=Tryz.isAgg130
 z119:=Tryz.sizeOf130
 t138:=Tryz.underlying132
 a138:=Tryz.isAgg132
 z138:=Tryz.sizeOf132
 v138:=Tryz.zeroValue132
 t139:=Tryz.underlying133
 a139:=Tryz.isAgg133
 z139:=Tryz.sizeOf133
 v139:=Tryz.zeroValue133
 t146:=Tryz.underlying135
 a146:=Tryz.isAgg135
 z146:=Tryz.sizeOf135
 v146:=Tryz.zeroValue135
 g1:=by kernel_rfl
 g3:=by kernel_rfl
 g4:=by kernel_rfl }
open Go.RowKit Go.Lib in
theorem Tryz.strings_Split (s sep:ByteArray) (m:Int) (w:World) (hs:s.size < 4294967281) (hm:w.cell? ⟨0,0,none⟩=some (.int .i64 m)) (h1:1 ≤ sep.size) :
  Calls Tryz.prog 102 #[.string s,.string sep] w fun e w' =>
   e = .returned (.slice (some ⟨w.heap.size,0,none⟩) (Lib.countB s sep + 1) (Lib.countB s sep + 1))∧w'=w.alloc (.cells ((Lib.splitB sep 0 (Lib.countB s sep) s).map Value.string).toArray 9):=Any.strings_Split Tryz.lays146 (by kernel_rfl) s sep m w hs hm h1
end Go.Proofs
namespace Go.Proofs.T
open Go.OM
theorem ent102:eG E.P 102:=eO Tryz.func102 (by simp [Tryz.f102]) rfl
theorem aDw {w:World} (h:E.Gl w):∃ m,w.cell? ⟨0,0,none⟩=some (.int .i64 m):=by
 obtain ⟨cs,t,fr,h1,m,h2⟩:=h _ (List.mem_singleton.2 rfl)
 refine ⟨m,?_⟩
 have h1':w.heap[0]? = some (.cells cs t fr):=h1
 simp [World.cell?,h1',h2]
theorem xF (s sep:ByteArray) {r0:List ByteArray} (h:strings_Split s sep=some r0):Ok E 102 [.val (vs s),.val (vs sep)] [.sl true 1 (List.map vs r0)] []:=by
 unfold strings_Split at h
 split at h
 case isFalse=>cases h
 rename_i hr
 injection h with h
 subst h
 have:=aJs (E:=E) (f:=102) (ty:=9) (xs:=[.string s,.string sep]) (es:=(Lib.splitB sep 0 (Lib.countB s sep) s).map Value.string) (by simp [TA.OneCell]) fun w hw=>by
  obtain ⟨m,hm⟩:=aDw hw
  have h1:=Tryz.strings_Split s sep m w hr.1 hm hr.2.1
  refine h1.mono fun e w' ⟨h2,h3⟩=>⟨?_,h3⟩
  rw [h2,List.length_map,hr.2.2]
  try rfl
 rw [List.map_map] at this
 exact this
instance e102_:Ent E 102:=⟨ent102⟩
instance c102_ (a0:ByteArray) (a1:ByteArray) {r0:List ByteArray}:Con E 102 (strings_Split a0 a1=some r0) [.val (vs a0),.val (vs a1)] [.sl true 1 (List.map vs r0)] []:=⟨fun h=>xF _ _ h⟩
end Go.Proofs.T
