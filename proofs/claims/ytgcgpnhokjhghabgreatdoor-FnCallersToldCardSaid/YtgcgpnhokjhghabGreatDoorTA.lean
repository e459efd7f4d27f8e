import Derived.Test.YtgcgpnhokjhghabGreatDoorOmC
import Derived.Lib.Split
import Derived.Lib.ItoaNum
import Derived.Test.YtgcgpnhokjhghabGreatDoorProg
import Derived.KernelRfl
import Derived.Shelf.Strconv.Itoa0
import Derived.Shelf.Strings.Search1
import Derived.Shelf.Strings.Search2
import Derived.Shelf.Strings.Search3
import Derived.Shelf.Strings.Count
import Derived.Shelf.LaysM
import Derived.Shelf.Strings.Shaped
import Derived.Shelf.Sort.Plain
import Derived.Shelf.Strings.Split
import Derived.Shelf.Unicode.DecodeSlow
import Derived.Shelf.Slices.In.SortNone
import Derived.Shelf.Slices.In.SortNone2
set_option linter.unusedVariables false
set_option linter.unusedSimpArgs false
set_option linter.unusedVariables false
noncomputable section
namespace Go.OM
def strings_Split (s sep:ByteArray):Option (List ByteArray):=if s.size < 4294967281∧1 ≤ sep.size∧(Lib.splitB sep 0 (Lib.countB s sep) s).length=Lib.countB s sep + 1 then some (Lib.splitB sep 0 (Lib.countB s sep) s) else none
end Go.OM
end
namespace Go.OM
def sort_Ints (l:List Int):Option (List Int):=if l.length < 4611686018427387904 then some (l.mergeSort fun x y=>decide (x ≤ y)) else none
end Go.OM
set_option linter.unusedSimpArgs false
namespace Go.OM
def bL:Nat:=1048576
abbrev vi (n:Int):T:=.v (.int .i64 n)
abbrev vk (k:IntKind) (n:Int):T:=.v (.int k n)
abbrev vb (b:Bool):T:=.v (.bool b)
abbrev vs (z:ByteArray):T:=.v (.string z)
abbrev eSl {α:Type} (o:Bool) (s:Nat) (f:α→T) (l:List α):T:=.sl o s (l.map f)
inductive Row where
 | old (p:Nat)
 | row (l:List Bool)
def Row.enc (H:Nat→Value):Row→T
 | .old p=>.v (H p)
 | .row l=>.sl false 1 (l.map vb)
@[simp] theorem Row.enc_row (H:Nat→Value) (l:List Bool):Row.enc H (.row l) = .sl false 1 (l.map vb):=rfl
@[simp] theorem Row.own (H:Nat→Value) (r:Row):(Row.enc H r).hasOwn=false:=by cases r<;>simp [Row.enc,T.hasOwn];exact cH _ (fun _=>rfl) _
@[simp] theorem Row.ownL (H:Nat→Value) (l:List Row):T.hasOwnL (l.map (Row.enc H))=false:=cH _ (fun r=>Row.own H r) l
@[simp] theorem Row.ro1 (H:Nat→Value) (r:Row):(Row.enc H r).ro=Row.enc H r:=by cases r<;>simp [Row.enc,T.ro];exact (fC _ _ (fun _=>rfl) _)
@[simp] theorem Row.roL (H:Nat→Value) (l:List Row):T.roL (l.map (Row.enc H))=l.map (Row.enc H):=fC _ _ (fun r=>Row.ro1 H r) l
@[simp] theorem Row.cells (H:Nat→Value) (r:Row):(Row.enc H r).cells=[Row.enc H r]:=by cases r<;>rfl
@[simp] theorem Row.withCells (H:Nat→Value) (r:Row) (x:T):(Row.enc H r).withCells [x]=x:=by cases r<;>rfl
@[simp] theorem Row.isCell (H:Nat→Value) (r:Row):(Row.enc H r).isCell=true:=by cases r<;>rfl
@[simp] theorem own_vi (l:List Int):T.hasOwnL (l.map vi)=false:=cH vi (fun _=>rfl) l
@[simp] theorem own_vk (k:IntKind) (l:List Int):T.hasOwnL (l.map (vk k))=false:=cH _ (fun _=>rfl) l
@[simp] theorem own_vb (l:List Bool):T.hasOwnL (l.map vb)=false:=cH _ (fun _=>rfl) l
@[simp] theorem own_vs (l:List ByteArray):T.hasOwnL (l.map vs)=false:=cH _ (fun _=>rfl) l
@[simp] theorem ro_vi (l:List Int):T.roL (l.map vi)=l.map vi:=fC _ _ (fun _=>rfl) l
@[simp] theorem ro_vk (k:IntKind) (l:List Int):T.roL (l.map (vk k))=l.map (vk k):=fC _ _ (fun _=>rfl) l
@[simp] theorem ro_vb (l:List Bool):T.roL (l.map vb)=l.map vb:=fC _ _ (fun _=>rfl) l
@[simp] theorem ro_vs (l:List ByteArray):T.roL (l.map vs)=l.map vs:=fC _ _ (fun _=>rfl) l
@[simp] theorem noRo_vi (l:List Int):T.noRoL (l.map vi)=true:=eJ _ (fun _=>rfl) l
@[simp] theorem noRo_vk (k:IntKind) (l:List Int):T.noRoL (l.map (vk k))=true:=eJ _ (fun _=>rfl) l
@[simp] theorem noRo_vb (l:List Bool):T.noRoL (l.map vb)=true:=eJ _ (fun _=>rfl) l
@[simp] theorem noRo_vs (l:List ByteArray):T.noRoL (l.map vs)=true:=eJ _ (fun _=>rfl) l
@[simp] theorem own_eSl {α:Type} {s:Nat} {f:α→T} (h:∀ l:List α,T.hasOwnL (l.map f)=false) (l:List (List α)):T.hasOwnL (l.map (eSl false s f))=false:=cH _ (fun x=>by simp [h x]) l
@[simp] theorem ro_eSl {α:Type} {o:Bool} {s:Nat} {f:α→T} (h:∀ l:List α,T.roL (l.map f)=l.map f) (l:List (List α)):T.roL (l.map (eSl o s f))=l.map (eSl false s f):=fC _ _ (fun x=>by simp [h x]) l
@[simp] theorem ro_eSl2 {α:Type} {o o':Bool} {s s':Nat} {f:α→T} (h:∀ l:List α,T.roL (l.map f)=l.map f) (l:List (List (List α))):T.roL (l.map (eSl o s (eSl o' s' f)))=l.map (eSl false s (eSl false s' f)):=fC _ _ (fun x=>by simp only [eSl,T.ro];rw [ro_eSl h]) l
@[simp] theorem noRo_eSl {α:Type} {s:Nat} {f:α→T} (h:∀ l:List α,T.noRoL (l.map f)=true) (l:List (List α)):T.noRoL (l.map (eSl true s f))=true:=eJ _ (fun x=>by simp [h x]) l
@[simp] theorem bits_i64:IntKind.bits .i64=64:=rfl
@[simp] theorem bits_u32:IntKind.bits .u32=32:=rfl
def aHq (x y:Int):Option Int:=if y=0 then none else some (Int.tmod x y)
theorem tV {x y z:Int} (h:aHq x y=some z):y ≠ 0∧Int.tmod x y=z:=by
 unfold aHq at h;split at h
 ·cases h
 rename_i hy;injection h with h;exact ⟨hy,h⟩
theorem mD {α:Type} {c:Prop} [Decidable c] {a b:Option α} {r:α} (h:(if c then a else b)=some r):(c∧a=some r) ∨ (¬ c∧b=some r):=by
 by_cases hc:c
 ·rw [if_pos hc] at h;exact .inl ⟨hc,h⟩
 rw [if_neg hc] at h;exact .inr ⟨hc,h⟩
structure GNode where
 Kind:Int
 Num:Int
 Name:ByteArray
 Kids:List Int
 deriving DecidableEq
def GNode.enc (o:Bool) (x:GNode):T:=.agg [vi x.Kind,vi x.Num,vs x.Name,.sl o 1 (List.map vi x.Kids)]
@[simp] theorem GNode.own (x:GNode):(x.enc false).hasOwn=false:=by simp [GNode.enc]
@[simp] theorem GNode.ownT (x:GNode):(x.enc true).hasOwn=true:=by simp [GNode.enc]
@[simp] theorem GNode.ownL (l:List GNode):T.hasOwnL (l.map (GNode.enc false))=false:=cH _ (fun x=>by simp) l
@[simp] theorem GNode.ro1 (o:Bool) (x:GNode):(x.enc o).ro=x.enc false:=by cases o<;>simp [GNode.enc,T.roL_map,Function.comp_def]
@[simp] theorem GNode.roL (o:Bool) (l:List GNode):T.roL (l.map (GNode.enc o))=l.map (GNode.enc false):=fC _ _ (fun x=>by simp) l
@[simp] theorem GNode.noRo (x:GNode):(x.enc true).noRo=true:=by simp [GNode.enc]
@[simp] theorem GNode.noRoL (l:List GNode):T.noRoL (l.map (GNode.enc true))=true:=eJ _ (fun x=>by simp) l
structure GParam where
 Name:ByteArray
 Typ:Int
 deriving DecidableEq
def GParam.enc (x:GParam):T:=.agg [vs x.Name,vi x.Typ]
@[simp] theorem GParam.own (x:GParam):x.enc.hasOwn=false:=by simp [GParam.enc]
@[simp] theorem GParam.ownL (l:List GParam):T.hasOwnL (l.map GParam.enc)=false:=cH _ (fun x=>by simp) l
@[simp] theorem GParam.ro1 (x:GParam):x.enc.ro=x.enc:=by simp [GParam.enc]
@[simp] theorem GParam.roL (l:List GParam):T.roL (l.map GParam.enc)=l.map GParam.enc:=fC _ _ (fun x=>by simp) l
@[simp] theorem GParam.noRo (x:GParam):x.enc.noRo=true:=by simp [GParam.enc]
@[simp] theorem GParam.noRoL (l:List GParam):T.noRoL (l.map GParam.enc)=true:=eJ _ (fun x=>by simp) l
structure GFn where
 Name:ByteArray
 Params:List GParam
 Res:Int
 Body:Int
 Ret:Int
 deriving DecidableEq
def GFn.enc (o:Bool) (x:GFn):T:=.agg [vs x.Name,.sl o 2 (List.map GParam.enc x.Params),vi x.Res,vi x.Body,vi x.Ret]
@[simp] theorem GFn.own (x:GFn):(x.enc false).hasOwn=false:=by simp [GFn.enc]
@[simp] theorem GFn.ownT (x:GFn):(x.enc true).hasOwn=true:=by simp [GFn.enc]
@[simp] theorem GFn.ownL (l:List GFn):T.hasOwnL (l.map (GFn.enc false))=false:=cH _ (fun x=>by simp) l
@[simp] theorem GFn.ro1 (o:Bool) (x:GFn):(x.enc o).ro=x.enc false:=by cases o<;>simp [GFn.enc,T.roL_map,Function.comp_def]
@[simp] theorem GFn.roL (o:Bool) (l:List GFn):T.roL (l.map (GFn.enc o))=l.map (GFn.enc false):=fC _ _ (fun x=>by simp) l
@[simp] theorem GFn.noRo (x:GFn):(x.enc true).noRo=true:=by simp [GFn.enc]
@[simp] theorem GFn.noRoL (l:List GFn):T.noRoL (l.map (GFn.enc true))=true:=eJ _ (fun x=>by simp) l
structure GProgram where
 Nodes:List GNode
 Fns:List GFn
 deriving DecidableEq
def GProgram.enc (o:Bool) (x:GProgram):T:=.agg [.sl o 4 (List.map (GNode.enc o) x.Nodes),.sl o 5 (List.map (GFn.enc o) x.Fns)]
@[simp] theorem GProgram.own (x:GProgram):(x.enc false).hasOwn=false:=by simp [GProgram.enc]
@[simp] theorem GProgram.ownT (x:GProgram):(x.enc true).hasOwn=true:=by simp [GProgram.enc]
@[simp] theorem GProgram.ownL (l:List GProgram):T.hasOwnL (l.map (GProgram.enc false))=false:=cH _ (fun x=>by simp) l
@[simp] theorem GProgram.ro1 (o:Bool) (x:GProgram):(x.enc o).ro=x.enc false:=by cases o<;>simp [GProgram.enc,T.roL_map,Function.comp_def]
@[simp] theorem GProgram.roL (o:Bool) (l:List GProgram):T.roL (l.map (GProgram.enc o))=l.map (GProgram.enc false):=fC _ _ (fun x=>by simp) l
@[simp] theorem GProgram.noRo (x:GProgram):(x.enc true).noRo=true:=by simp [GProgram.enc]
@[simp] theorem GProgram.noRoL (l:List GProgram):T.noRoL (l.map (GProgram.enc true))=true:=eJ _ (fun x=>by simp) l
structure Gl01Cur where
 b:List Int
 i:Int
 h:Int
 deriving DecidableEq
def Gl01Cur.enc (o:Bool) (x:Gl01Cur):T:=.agg [.sl o 1 (List.map (vk .u8) x.b),vi x.i,vi x.h]
@[simp] theorem Gl01Cur.own (x:Gl01Cur):(x.enc false).hasOwn=false:=by simp [Gl01Cur.enc]
@[simp] theorem Gl01Cur.ownT (x:Gl01Cur):(x.enc true).hasOwn=true:=by simp [Gl01Cur.enc]
@[simp] theorem Gl01Cur.ownL (l:List Gl01Cur):T.hasOwnL (l.map (Gl01Cur.enc false))=false:=cH _ (fun x=>by simp) l
@[simp] theorem Gl01Cur.ro1 (o:Bool) (x:Gl01Cur):(x.enc o).ro=x.enc false:=by cases o<;>simp [Gl01Cur.enc,T.roL_map,Function.comp_def]
@[simp] theorem Gl01Cur.roL (o:Bool) (l:List Gl01Cur):T.roL (l.map (Gl01Cur.enc o))=l.map (Gl01Cur.enc false):=fC _ _ (fun x=>by simp) l
@[simp] theorem Gl01Cur.noRo (x:Gl01Cur):(x.enc true).noRo=true:=by simp [Gl01Cur.enc]
@[simp] theorem Gl01Cur.noRoL (l:List Gl01Cur):T.noRoL (l.map (Gl01Cur.enc true))=true:=eJ _ (fun x=>by simp) l
structure Gpacker where
 from_:List GNode
 to_:List GNode
 bad:Bool
 deriving DecidableEq
def Gpacker.enc (o:Bool) (x:Gpacker):T:=.agg [.sl o 4 (List.map (GNode.enc o) x.from_),.sl o 4 (List.map (GNode.enc o) x.to_),vb x.bad]
@[simp] theorem Gpacker.own (x:Gpacker):(x.enc false).hasOwn=false:=by simp [Gpacker.enc]
@[simp] theorem Gpacker.ownT (x:Gpacker):(x.enc true).hasOwn=true:=by simp [Gpacker.enc]
@[simp] theorem Gpacker.ownL (l:List Gpacker):T.hasOwnL (l.map (Gpacker.enc false))=false:=cH _ (fun x=>by simp) l
@[simp] theorem Gpacker.ro1 (o:Bool) (x:Gpacker):(x.enc o).ro=x.enc false:=by cases o<;>simp [Gpacker.enc,T.roL_map,Function.comp_def]
@[simp] theorem Gpacker.roL (o:Bool) (l:List Gpacker):T.roL (l.map (Gpacker.enc o))=l.map (Gpacker.enc false):=fC _ _ (fun x=>by simp) l
@[simp] theorem Gpacker.noRo (x:Gpacker):(x.enc true).noRo=true:=by simp [Gpacker.enc]
@[simp] theorem Gpacker.noRoL (l:List Gpacker):T.noRoL (l.map (Gpacker.enc true))=true:=eJ _ (fun x=>by simp) l
structure Gl04Pack where
 from_:List GNode
 to_:List GNode
 bad:Bool
 deriving DecidableEq
def Gl04Pack.enc (o:Bool) (x:Gl04Pack):T:=.agg [.sl o 4 (List.map (GNode.enc o) x.from_),.sl o 4 (List.map (GNode.enc o) x.to_),vb x.bad]
@[simp] theorem Gl04Pack.own (x:Gl04Pack):(x.enc false).hasOwn=false:=by simp [Gl04Pack.enc]
@[simp] theorem Gl04Pack.ownT (x:Gl04Pack):(x.enc true).hasOwn=true:=by simp [Gl04Pack.enc]
@[simp] theorem Gl04Pack.ownL (l:List Gl04Pack):T.hasOwnL (l.map (Gl04Pack.enc false))=false:=cH _ (fun x=>by simp) l
@[simp] theorem Gl04Pack.ro1 (o:Bool) (x:Gl04Pack):(x.enc o).ro=x.enc false:=by cases o<;>simp [Gl04Pack.enc,T.roL_map,Function.comp_def]
@[simp] theorem Gl04Pack.roL (o:Bool) (l:List Gl04Pack):T.roL (l.map (Gl04Pack.enc o))=l.map (Gl04Pack.enc false):=fC _ _ (fun x=>by simp) l
@[simp] theorem Gl04Pack.noRo (x:Gl04Pack):(x.enc true).noRo=true:=by simp [Gl04Pack.enc]
@[simp] theorem Gl04Pack.noRoL (l:List Gl04Pack):T.noRoL (l.map (Gl04Pack.enc true))=true:=eJ _ (fun x=>by simp) l
structure GVar where
 Name:ByteArray
 Typ:Int
 Node:Int
 deriving DecidableEq
def GVar.enc (x:GVar):T:=.agg [vs x.Name,vi x.Typ,vi x.Node]
@[simp] theorem GVar.own (x:GVar):x.enc.hasOwn=false:=by simp [GVar.enc]
@[simp] theorem GVar.ownL (l:List GVar):T.hasOwnL (l.map GVar.enc)=false:=cH _ (fun x=>by simp) l
@[simp] theorem GVar.ro1 (x:GVar):x.enc.ro=x.enc:=by simp [GVar.enc]
@[simp] theorem GVar.roL (l:List GVar):T.roL (l.map GVar.enc)=l.map GVar.enc:=fC _ _ (fun x=>by simp) l
@[simp] theorem GVar.noRo (x:GVar):x.enc.noRo=true:=by simp [GVar.enc]
@[simp] theorem GVar.noRoL (l:List GVar):T.noRoL (l.map GVar.enc)=true:=eJ _ (fun x=>by simp) l
structure Gl07Seen where
 p:GProgram
 fn:Int
 there:List ByteArray
 bad:Bool
 deriving DecidableEq
def Gl07Seen.enc (o:Bool) (x:Gl07Seen):T:=.agg [.sl o 4 (List.map (GNode.enc o) x.p.Nodes),.sl o 5 (List.map (GFn.enc o) x.p.Fns),vi x.fn,.sl o 1 (List.map vs x.there),vb x.bad]
@[simp] theorem Gl07Seen.own (x:Gl07Seen):(x.enc false).hasOwn=false:=by simp [Gl07Seen.enc]
@[simp] theorem Gl07Seen.ownT (x:Gl07Seen):(x.enc true).hasOwn=true:=by simp [Gl07Seen.enc]
@[simp] theorem Gl07Seen.ownL (l:List Gl07Seen):T.hasOwnL (l.map (Gl07Seen.enc false))=false:=cH _ (fun x=>by simp) l
@[simp] theorem Gl07Seen.ro1 (o:Bool) (x:Gl07Seen):(x.enc o).ro=x.enc false:=by cases o<;>simp [Gl07Seen.enc,T.roL_map,Function.comp_def]
@[simp] theorem Gl07Seen.roL (o:Bool) (l:List Gl07Seen):T.roL (l.map (Gl07Seen.enc o))=l.map (Gl07Seen.enc false):=fC _ _ (fun x=>by simp) l
@[simp] theorem Gl07Seen.noRo (x:Gl07Seen):(x.enc true).noRo=true:=by simp [Gl07Seen.enc]
@[simp] theorem Gl07Seen.noRoL (l:List Gl07Seen):T.noRoL (l.map (Gl07Seen.enc true))=true:=eJ _ (fun x=>by simp) l
structure GSign where
 Kind:Int
 Text:ByteArray
 Num:Int
 deriving DecidableEq
def GSign.enc (x:GSign):T:=.agg [vi x.Kind,vs x.Text,vi x.Num]
@[simp] theorem GSign.own (x:GSign):x.enc.hasOwn=false:=by simp [GSign.enc]
@[simp] theorem GSign.ownL (l:List GSign):T.hasOwnL (l.map GSign.enc)=false:=cH _ (fun x=>by simp) l
@[simp] theorem GSign.ro1 (x:GSign):x.enc.ro=x.enc:=by simp [GSign.enc]
@[simp] theorem GSign.roL (l:List GSign):T.roL (l.map GSign.enc)=l.map GSign.enc:=fC _ _ (fun x=>by simp) l
@[simp] theorem GSign.noRo (x:GSign):x.enc.noRo=true:=by simp [GSign.enc]
@[simp] theorem GSign.noRoL (l:List GSign):T.noRoL (l.map GSign.enc)=true:=eJ _ (fun x=>by simp) l
structure Gl05Read where
 list:List GSign
 at_:Int
 bad:Bool
 deep:Int
 nodes:List GNode
 deriving DecidableEq
def Gl05Read.enc (o:Bool) (x:Gl05Read):T:=.agg [.sl o 3 (List.map GSign.enc x.list),vi x.at_,vb x.bad,vi x.deep,.sl o 4 (List.map (GNode.enc o) x.nodes)]
@[simp] theorem Gl05Read.own (x:Gl05Read):(x.enc false).hasOwn=false:=by simp [Gl05Read.enc]
@[simp] theorem Gl05Read.ownT (x:Gl05Read):(x.enc true).hasOwn=true:=by simp [Gl05Read.enc]
@[simp] theorem Gl05Read.ownL (l:List Gl05Read):T.hasOwnL (l.map (Gl05Read.enc false))=false:=cH _ (fun x=>by simp) l
@[simp] theorem Gl05Read.ro1 (o:Bool) (x:Gl05Read):(x.enc o).ro=x.enc false:=by cases o<;>simp [Gl05Read.enc,T.roL_map,Function.comp_def]
@[simp] theorem Gl05Read.roL (o:Bool) (l:List Gl05Read):T.roL (l.map (Gl05Read.enc o))=l.map (Gl05Read.enc false):=fC _ _ (fun x=>by simp) l
@[simp] theorem Gl05Read.noRo (x:Gl05Read):(x.enc true).noRo=true:=by simp [Gl05Read.enc]
@[simp] theorem Gl05Read.noRoL (l:List Gl05Read):T.noRoL (l.map (Gl05Read.enc true))=true:=eJ _ (fun x=>by simp) l
structure Gl05Made where
 c:Unit
 ints:List ByteArray
 boxes:List ByteArray
 n:Int
 text:ByteArray
 wild:Bool
 deriving DecidableEq
def Gl05Made.enc (o:Bool) (x:Gl05Made):T:=.agg [.v (.pointer none),.sl o 1 (List.map vs x.ints),.sl o 1 (List.map vs x.boxes),vi x.n,vs x.text,vb x.wild]
@[simp] theorem Gl05Made.own (x:Gl05Made):(x.enc false).hasOwn=false:=by simp [Gl05Made.enc]
@[simp] theorem Gl05Made.ownT (x:Gl05Made):(x.enc true).hasOwn=true:=by simp [Gl05Made.enc]
@[simp] theorem Gl05Made.ownL (l:List Gl05Made):T.hasOwnL (l.map (Gl05Made.enc false))=false:=cH _ (fun x=>by simp) l
@[simp] theorem Gl05Made.ro1 (o:Bool) (x:Gl05Made):(x.enc o).ro=x.enc false:=by cases o<;>simp [Gl05Made.enc,T.roL_map,Function.comp_def]
@[simp] theorem Gl05Made.roL (o:Bool) (l:List Gl05Made):T.roL (l.map (Gl05Made.enc o))=l.map (Gl05Made.enc false):=fC _ _ (fun x=>by simp) l
@[simp] theorem Gl05Made.noRo (x:Gl05Made):(x.enc true).noRo=true:=by simp [Gl05Made.enc]
@[simp] theorem Gl05Made.noRoL (l:List Gl05Made):T.noRoL (l.map (Gl05Made.enc true))=true:=eJ _ (fun x=>by simp) l
attribute [simp] GNode.enc GParam.enc GFn.enc GProgram.enc Gl01Cur.enc Gpacker.enc Gl04Pack.enc GVar.enc Gl07Seen.enc GSign.enc Gl05Read.enc Gl05Made.enc
end Go.OM
noncomputable section
namespace Go.OM
def aCn (a0:List Int):Option (Bool) :=
 some (decide ((a0.length:Int) > 1048576))
def jS (a0:List GNode):((List GNode) × Int)→Option (((List GNode) × Int) ⊕ (List GNode)):=fun ⟨a1,i6⟩ =>
 if (decide (i6 < (a0.length:Int)))=true then
  (aP a0 i6).bind fun a2 =>
  (bO 8 [] a2.Kids).bind fun a4 =>
  (bO 56 a1 [a2]).bind fun a3 =>
  some (Sum.inl (a3,IntKind.wrap .i64 (i6 + 1)))
 else
  some (Sum.inr a1)
def nU (a0:List GNode):Option (List GNode) :=
 Option.bind (
  aI (jS a0) ([],(0:Int))) fun a1 =>
 some a1
def kO (p1:GProgram):(Int × GProgram)→Option ((Int × GProgram) ⊕ (GProgram)):=fun ⟨i7,v8⟩ =>
 if (decide (i7 < (p1.Fns.length:Int)))=true then
  (aP p1.Fns i7).bind fun a0 =>
  (bO 24 [] a0.Params).bind fun a2 =>
  (bO 64 v8.Fns [a0]).bind fun a1 =>
  some (Sum.inl (IntKind.wrap .i64 (i7 + 1),(⟨v8.Nodes,a1⟩:GProgram)))
 else
  some (Sum.inr v8)
def jH (p1:GProgram):Option (GProgram) :=
 (nU p1.Nodes).bind fun r2 =>
 Option.bind (
  aI (kO p1) ((0:Int),(⟨r2,[]⟩:GProgram))) fun a0 =>
 some a0
def gW (c1:Gl01Cur):Option (Int × Gl01Cur) :=
 if (decide (c1.i < (c1.b.length:Int)))=true then
  (aP c1.b c1.i).bind fun e7 =>
  some (bits .and .i64 (IntKind.wrap .i64 ((bits .and .i64 (bits .xor .i64 (Int.fdiv (IntKind.wrap .i64 ((IntKind.wrap .i64 (c1.h * 6364136223846793005)) + 1442695040888963407)) (2 ^ 33)) (Int.fdiv (IntKind.wrap .i64 ((IntKind.wrap .i64 (c1.h * 6364136223846793005)) + 1442695040888963407)) (2 ^ 45))) 255) + (IntKind.wrap .i64 e7))) 255,(⟨c1.b,IntKind.wrap .i64 (c1.i + 1),IntKind.wrap .i64 ((IntKind.wrap .i64 (c1.h * 6364136223846793005)) + 1442695040888963407)⟩:Gl01Cur))
 else
  some (bits .and .i64 (bits .xor .i64 (Int.fdiv (IntKind.wrap .i64 ((IntKind.wrap .i64 (c1.h * 6364136223846793005)) + 1442695040888963407)) (2 ^ 33)) (Int.fdiv (IntKind.wrap .i64 ((IntKind.wrap .i64 (c1.h * 6364136223846793005)) + 1442695040888963407)) (2 ^ 45))) 255,(⟨c1.b,c1.i,IntKind.wrap .i64 ((IntKind.wrap .i64 (c1.h * 6364136223846793005)) + 1442695040888963407)⟩:Gl01Cur))
def bX (c1:Gl01Cur) (n2:Int):Option (Int × Gl01Cur) :=
 if (decide (n2 ≤ 0))=true then
  some (0,c1)
 else
  if (decide (n2 ≤ 256))=true then
   (gW c1).bind fun ⟨r7,q8⟩ =>
   (aHq r7 n2).bind fun a0 =>
   some (a0,q8)
  else
   (gW c1).bind fun ⟨a1,a2⟩ =>
   (gW a2).bind fun ⟨a3,a4⟩ =>
   (gW a4).bind fun ⟨a5,a6⟩ =>
   (gW a6).bind fun ⟨a7,a8⟩ =>
   (aHq (IntKind.wrap .i64 ((IntKind.wrap .i64 ((IntKind.wrap .i64 ((IntKind.wrap .i64 (a1 * 16777216)) + (IntKind.wrap .i64 (a3 * 65536)))) + (IntKind.wrap .i64 (a5 * 256)))) + a7)) n2).bind fun a9 =>
   some (a9,a8)
def cF (x1:Int) (a0:Int) (a1:Int):Option (Bool) :=
 Option.bind (
  if (decide (x1 ≥ a0))=true then
   some (decide (x1 ≤ a1))
  else
   some false) fun v8 =>
 some v8
def dS (b1:Int):Option (Bool) :=
 Option.bind (
  if (decide (b1 ≥ 97))=true then
   some (decide (b1 ≤ 122))
  else
   some false) fun v6 =>
 some v6
def pW:Option (List ByteArray) :=
 some [(⟨#[102,110]⟩:ByteArray),(⟨#[108,101,116]⟩:ByteArray),(⟨#[105,102]⟩:ByteArray),(⟨#[101,108,115,101]⟩:ByteArray),(⟨#[119,104,105,108,101]⟩:ByteArray),(⟨#[112,114,105,110,116]⟩:ByteArray),(⟨#[100,111]⟩:ByteArray),(⟨#[110,101,119]⟩:ByteArray),(⟨#[99,108,111,110,101]⟩:ByteArray),(⟨#[109,117,116]⟩:ByteArray),(⟨#[105,110,112,117,116]⟩:ByteArray),(⟨#[105,110,116]⟩:ByteArray),(⟨#[98,111,120]⟩:ByteArray),(⟨#[114,101,116]⟩:ByteArray)]
def iS (s1:ByteArray) (r2:List ByteArray):Int→Option ((Int) ⊕ ((Unit) ⊕ (Bool))):=fun i7 =>
 if (decide (i7 < (r2.length:Int)))=true then
  (aP r2 i7).bind fun a0 =>
  if (sEq a0 s1)=true then
   some (Sum.inr (Sum.inr true))
  else
   some (Sum.inl (IntKind.wrap .i64 (i7 + 1)))
 else
  some (Sum.inr (Sum.inl ()))
def kX (s1:ByteArray):Option (Bool) :=
 (pW ).bind fun r2 =>
 Option.bind (
  aI (iS s1 r2) (0:Int)) fun j6 =>
 match j6 with
 | Sum.inr z=>some z
 | Sum.inl () =>
  some false
def eT (b1:Int):Option (Bool) :=
 Option.bind (
  if (decide (b1 ≥ 48))=true then
   some (decide (b1 ≤ 57))
  else
   some false) fun v6 =>
 some v6
def jY (s1:ByteArray):Int→Option ((Int) ⊕ ((Unit) ⊕ (Bool))):=fun a0 =>
 if (decide (a0 < (s1.size:Int)))=true then
  Option.bind (
   (sAt s1 a0).bind fun a1 =>
   (dS a1).bind fun a2 =>
   if (!a2)=true then
    (eT a1).bind fun a3 =>
    some (!a3)
   else
    some false) fun a4 =>
  if a4=true then
   some (Sum.inr (Sum.inr false))
  else
   some (Sum.inl (IntKind.wrap .i64 (a0 + 1)))
 else
  some (Sum.inr (Sum.inl ()))
def iK (s1:ByteArray):Option (Bool) :=
 Option.bind (
  (cF (s1.size:Int) 1 8).bind fun r4 =>
  if (!r4)=true then
   some true
  else
   (sAt s1 0).bind fun c8 =>
   (dS c8).bind fun r9 =>
   if (!r9)=true then
    some true
   else
    (kX s1).bind fun a0 =>
    some a0) fun a1 =>
 if a1=true then
  some false
 else
  Option.bind (
   aI (jY s1) (0:Int)) fun a2 =>
  match a2 with
  | Sum.inr z=>some z
  | Sum.inl () =>
   some true
def pU (a0:Int):Option (Int × Int) :=
 Option.bind (
  if (a0 == 8)=true then
   some (a0 == 8)
  else
   if (a0 == 13)=true then
    some (a0 == 13)
   else
    if (a0 == 14)=true then
     some (a0 == 14)
    else
     if (a0 == 15)=true then
      some (a0 == 15)
     else
      if (a0 == 18)=true then
       some (a0 == 18)
      else
       some (a0 == 19)) fun a1 =>
 if a1=true then
  some (1,1)
 else
  Option.bind (
   if (a0 == 9)=true then
    some (a0 == 9)
   else
    if (a0 == 10)=true then
     some (a0 == 10)
    else
     if (a0 == 11)=true then
      some (a0 == 11)
     else
      some (a0 == 17)) fun a2 =>
  if a2=true then
   some (2,2)
  else
   if (a0 == 12)=true then
    some (0,3)
   else
    if (a0 == 16)=true then
     some (3,3)
    else
     if (a0 == 20)=true then
      some (0,12)
     else
      some (0,0)
def nV (a0:Int):Option (Bool) :=
 Option.bind (
  if (a0 == 2)=true then
   some (a0 == 2)
  else
   if (a0 == 3)=true then
    some (a0 == 3)
   else
    if (a0 == 4)=true then
     some (a0 == 4)
    else
     if (a0 == 5)=true then
      some (a0 == 5)
     else
      if (a0 == 6)=true then
       some (a0 == 6)
      else
       if (a0 == 12)=true then
        some (a0 == 12)
       else
        if (a0 == 13)=true then
         some (a0 == 13)
        else
         if (a0 == 14)=true then
          some (a0 == 14)
         else
          some (a0 == 15)) fun a1 =>
 if a1=true then
  some true
 else
  some false
def jL (a0:Int):Option (Bool) :=
 (cF a0 1 12).bind fun r2 =>
 some r2
def iQ (a0:Int):Option (Bool) :=
 (cF a0 13 19).bind fun r2 =>
 some r2
def pV (a0:Int) (a2:Int) (a1:Int):Option (Bool) :=
 if (a0 == 20)=true then
  (iQ a1).bind fun r6 =>
  some r6
 else
  Option.bind (
   if (a0 == 16)=true then
    some (a0 == 16)
   else
    some (a0 == 17)) fun a3 =>
  if a3=true then
   if (decide (a2 > 0))=true then
    some (a1 == 20)
   else
    (jL a1).bind fun a4 =>
    some a4
  else
   if (a0 == 19)=true then
    some (a1 == 12)
   else
    (jL a1).bind fun a5 =>
    some a5
def mM (a1:GNode) (a2:Int):Int→Option ((Int) ⊕ ((Unit) ⊕ ((Int) ⊕ ((Unit) ⊕ (Bool))))):=fun a0 =>
 if (decide (a0 < a2))=true then
  (aP a1.Kids a2).bind fun a3 =>
  (aP a1.Kids a0).bind fun a4 =>
  if (a3 == a4)=true then
   some (Sum.inr (Sum.inr (Sum.inr (Sum.inr false))))
  else
   some (Sum.inl (IntKind.wrap .i64 (a0 + 1)))
 else
  some (Sum.inr (Sum.inl ()))
def mN (a0:List GNode) (k2:Int) (a2:GNode):Int→Option ((Int) ⊕ ((Unit) ⊕ (Bool))):=fun a1 =>
 if (decide (a1 < (a2.Kids.length:Int)))=true then
  Option.bind (
   Option.bind (
    (aP a2.Kids a1).bind fun a3 =>
    (cF a3 0 (IntKind.wrap .i64 (k2 - 1))).bind fun a4 =>
    if (!a4)=true then
     some true
    else
     (aP a0 a3).bind fun a5 =>
     (pV a2.Kind a1 a5.Kind).bind fun a6 =>
     some (!a6)) fun a7 =>
   if a7=true then
    some (Sum.inr (Sum.inr (Sum.inr false)))
   else
    aI (mM a2 a1) (0:Int)) fun a8 =>
  match a8 with
  | Sum.inr z=>some z
  | Sum.inl () =>
   some (Sum.inl (IntKind.wrap .i64 (a1 + 1)))
 else
  some (Sum.inr (Sum.inl ()))
def rM (a0:List GNode) (k2:Int):Option (Bool) :=
 Option.bind (
  (cF k2 0 (IntKind.wrap .i64 ((a0.length:Int) - 1))).bind fun r5 =>
  if (!r5)=true then
   some true
  else
   (aP a0 k2).bind fun e9 =>
   (cF e9.Kind 1 20).bind fun a2 =>
   some (!a2)) fun a3 =>
 if a3=true then
  some false
 else
  (aP a0 k2).bind fun a1 =>
  (pU a1.Kind).bind fun ⟨a4,a5⟩ =>
  Option.bind (
   (cF (a1.Kids.length:Int) a4 a5).bind fun a6 =>
   if (!a6)=true then
    some true
   else
    (cF a1.Num 0 1000000000).bind fun a7 =>
    if (!a7)=true then
     some true
    else
     if (a1.Kind != 1)=true then
      some (a1.Num != 0)
     else
      some false) fun a8 =>
  if a8=true then
   some false
  else
   Option.bind (
    (nV a1.Kind).bind fun a9 =>
    if (!(a9 == (!(sEq a1.Name (⟨#[]⟩:ByteArray)))))=true then
     some true
    else
     if (!(sEq a1.Name (⟨#[]⟩:ByteArray)))=true then
      (iK a1.Name).bind fun b0 =>
      some (!b0)
     else
      some false) fun b1 =>
   if b1=true then
    some false
   else
    Option.bind (
     aI (mN a0 k2 a1) (0:Int)) fun b2 =>
    match b2 with
    | Sum.inr z=>some z
    | Sum.inl () =>
     some true
def eG (a1:List GNode) (a2:List Int) (i7:Int):(Int × Int)→Option ((Int × Int) ⊕ (Int)):=fun ⟨a0,a3⟩ =>
 Option.bind (
  if (decide (a0 > 0))=true then
   (aP a1 i7).bind fun a4 =>
   some (decide (a3 < (a4.Kids.length:Int)))
  else
   some false) fun a5 =>
 if a5=true then
  (aP a1 i7).bind fun a6 =>
  (aP a6.Kids a3).bind fun a7 =>
  (aP a2 a7).bind fun a8 =>
  if (decide (IntKind.wrap .i64 (a8 + 1) > a0))=true then
   (aP a1 i7).bind fun a9 =>
   (aP a9.Kids a3).bind fun b0 =>
   (aP a2 b0).bind fun b1 =>
   some (Sum.inl (IntKind.wrap .i64 (b1 + 1),IntKind.wrap .i64 (a3 + 1)))
  else
   some (Sum.inl (a0,IntKind.wrap .i64 (a3 + 1)))
 else
  some (Sum.inr a0)
def jT (a0:List GNode) (k2:Int):((List Int) × Int)→Option (((List Int) × Int) ⊕ (List Int)):=fun ⟨a2,i7⟩ =>
 Option.bind (
  if (decide (i7 ≤ k2))=true then
   some (decide (i7 < (a0.length:Int)))
  else
   some false) fun a6 =>
 if a6=true then
  Option.bind (
   Option.bind (
    Option.bind (
     (rM a0 i7).bind fun a7 =>
     if (!a7)=true then
      some true
     else
      if (decide (i7 > 0))=true then
       (aP a2 (IntKind.wrap .i64 (i7 - 1))).bind fun a8 =>
       some (a8 == 0)
      else
       some false) fun a9 =>
    if a9=true then
     some (0:Int)
    else
     some (1:Int)) fun a3 =>
   Option.bind (
    aI (eG a0 a2 i7) (a3,(0:Int))) fun a1 =>
   Option.bind (
    if (decide (a1 > 10))=true then
     some (0:Int)
    else
     some a1) fun a4 =>
   (bO 8 a2 [a4]).bind fun b0 =>
   some b0) fun a5 =>
  some (Sum.inl (a5,IntKind.wrap .i64 (i7 + 1)))
 else
  some (Sum.inr a2)
def lR (a0:List GNode) (k2:Int):Option (List Int) :=
 Option.bind (
  aI (jT a0 k2) ([],(0:Int))) fun a1 =>
 some a1
def kM (a0:List GNode) (i7:Int):((List Int) × Int)→Option (((List Int) × Int) ⊕ (List Int)):=fun ⟨a1,a2⟩ =>
 (aP a0 i7).bind fun a4 =>
 if (decide (a2 < (a4.Kids.length:Int)))=true then
  (aP a0 i7).bind fun a5 =>
  (aP a5.Kids a2).bind fun a3 =>
  (aP a1 a3).bind fun a6 =>
  bF (List.set a1 a3.toNat (IntKind.wrap .i64 (a6 + 1))) fun a7 =>
  some (Sum.inl (a7,IntKind.wrap .i64 (a2 + 1)))
 else
  some (Sum.inr a1)
def kN (a0:List GNode):((List Int) × Int)→Option (((List Int) × Int) ⊕ (List Int)):=fun ⟨a1,i7⟩ =>
 if (decide (i7 < (a0.length:Int)))=true then
  Option.bind (
   aI (kM a0 i7) (a1,(0:Int))) fun a2 =>
  some (Sum.inl (a2,IntKind.wrap .i64 (i7 + 1)))
 else
  some (Sum.inr a1)
def pT (a0:List GNode):Option (List Int) :=
 (mkI 8 (a0.length:Int) 0).bind fun l2 =>
 Option.bind (
  aI (kN a0) (l2,(0:Int))) fun a1 =>
 some a1
def aBy (p1:GProgram) (a0:ByteArray):Int→Option ((Int) ⊕ ((Unit) ⊕ (Int))):=fun i6 =>
 if (decide (i6 < (p1.Fns.length:Int)))=true then
  (aP p1.Fns i6).bind fun a1 =>
  if (sEq a1.Name a0)=true then
   some (Sum.inr (Sum.inr i6))
  else
   some (Sum.inl (IntKind.wrap .i64 (i6 + 1)))
 else
  some (Sum.inr (Sum.inl ()))
def tS (p1:GProgram) (a0:ByteArray):Option (Int) :=
 Option.bind (
  aI (aBy p1 a0) (0:Int)) fun j5 =>
 match j5 with
 | Sum.inr z=>some z
 | Sum.inl () =>
  some (-1)
def nW (e3:GFn):Int→Option ((Int) ⊕ ((Unit) ⊕ (Bool))):=fun a0 =>
 if (decide (a0 < (e3.Params.length:Int)))=true then
  Option.bind (
   (aP e3.Params a0).bind fun a1 =>
   (iK a1.Name).bind fun a2 =>
   if (!a2)=true then
    some true
   else
    (cF a1.Typ 1 4).bind fun a3 =>
    some (!a3)) fun a4 =>
  if a4=true then
   some (Sum.inr (Sum.inr false))
  else
   some (Sum.inl (IntKind.wrap .i64 (a0 + 1)))
 else
  some (Sum.inr (Sum.inl ()))
def tR (p1:GProgram) (i2:Int):Option (Bool) :=
 (aP p1.Fns i2).bind fun e3 =>
 Option.bind (
  (iK e3.Name).bind fun r6 =>
  if (!r6)=true then
   some true
  else
   (tS p1 e3.Name).bind fun a0 =>
   if (a0 != i2)=true then
    some true
   else
    if (decide ((e3.Params.length:Int) > 3))=true then
     some true
    else
     (cF e3.Res 0 2).bind fun a1 =>
     some (!a1)) fun a2 =>
 if a2=true then
  some false
 else
  Option.bind (
   aI (nW e3) (0:Int)) fun a3 =>
  match a3 with
  | Sum.inr z=>some z
  | Sum.inl () =>
   Option.bind (
    (cF e3.Body 0 (IntKind.wrap .i64 ((p1.Nodes.length:Int) - 1))).bind fun a4 =>
    if (!a4)=true then
     some true
    else
     (aP p1.Nodes e3.Body).bind fun a5 =>
     some (a5.Kind != 20)) fun a6 =>
   if a6=true then
    some false
   else
    if (e3.Res == 0)=true then
     some (e3.Ret == (-1))
    else
     Option.bind (
      (cF e3.Ret 0 (IntKind.wrap .i64 ((p1.Nodes.length:Int) - 1))).bind fun a7 =>
      if a7=true then
       (aP p1.Nodes e3.Ret).bind fun a8 =>
       (jL a8.Kind).bind fun a9 =>
       some a9
      else
       some false) fun b0 =>
     some b0
def dP (p1:GProgram):((List Int) × Int)→Option (((List Int) × Int) ⊕ ((List Int) ⊕ (Bool))):=fun ⟨a0,a1⟩ =>
 if (decide (a1 < (p1.Fns.length:Int)))=true then
  (tR p1 a1).bind fun a5 =>
  if (!a5)=true then
   some (Sum.inr (Sum.inr false))
  else
   (aP p1.Fns a1).bind fun a3 =>
   (aP a0 a3.Body).bind fun a6 =>
   bF (List.set a0 a3.Body.toNat (IntKind.wrap .i64 (a6 + 1000))) fun a2 =>
   (aP p1.Fns a1).bind fun a7 =>
   if (decide (a7.Ret ≥ 0))=true then
    (aP p1.Fns a1).bind fun a4 =>
    (aP a2 a4.Ret).bind fun a8 =>
    bF (List.set a2 a4.Ret.toNat (IntKind.wrap .i64 (a8 + 1000))) fun a9 =>
    some (Sum.inl (a9,IntKind.wrap .i64 (a1 + 1)))
   else
    some (Sum.inl (a2,IntKind.wrap .i64 (a1 + 1)))
 else
  some (Sum.inr (Sum.inl a0))
def fS (a0:List Int):Int→Option ((Int) ⊕ ((Unit) ⊕ (Bool))):=fun a1 =>
 if (decide (a1 < (a0.length:Int)))=true then
  Option.bind (
   (aP a0 a1).bind fun a2 =>
   if (a2 != 1)=true then
    some (a2 != 1000)
   else
    some false) fun a3 =>
  if a3=true then
   some (Sum.inr (Sum.inr false))
  else
   some (Sum.inl (IntKind.wrap .i64 (a1 + 1)))
 else
  some (Sum.inr (Sum.inl ()))
def iJ (p1:GProgram):Option (Bool) :=
 Option.bind (
  (cF (p1.Nodes.length:Int) 1 300).bind fun r4 =>
  if (!r4)=true then
   some true
  else
   (cF (p1.Fns.length:Int) 1 8).bind fun r8 =>
   some (!r8)) fun a2 =>
 if a2=true then
  some false
 else
  (lR p1.Nodes (IntKind.wrap .i64 ((p1.Nodes.length:Int) - 1))).bind fun a1 =>
  (aP a1 (IntKind.wrap .i64 ((a1.length:Int) - 1))).bind fun a3 =>
  if (a3 == 0)=true then
   some false
  else
   (pT p1.Nodes).bind fun a4 =>
   Option.bind (
    aI (dP p1) (a4,(0:Int))) fun a5 =>
   match a5 with
   | Sum.inr z=>some z
   | Sum.inl a0 =>
    Option.bind (
     aI (fS a0) (0:Int)) fun a6 =>
    match a6 with
    | Sum.inr z=>some z
    | Sum.inl () =>
     some true
def nX:Option (List ByteArray) :=
 some [(⟨#[45,62]⟩:ByteArray),(⟨#[61,61]⟩:ByteArray),(⟨#[40]⟩:ByteArray),(⟨#[41]⟩:ByteArray),(⟨#[123]⟩:ByteArray),(⟨#[125]⟩:ByteArray),(⟨#[59]⟩:ByteArray),(⟨#[58]⟩:ByteArray),(⟨#[44]⟩:ByteArray),(⟨#[38]⟩:ByteArray),(⟨#[42]⟩:ByteArray),(⟨#[61]⟩:ByteArray),(⟨#[43]⟩:ByteArray),(⟨#[60]⟩:ByteArray)]
def kP (t1:ByteArray) (a0:Int) (r3:List ByteArray):Int→Option ((Int) ⊕ ((Unit) ⊕ (ByteArray))):=fun i8 =>
 if (decide (i8 < (r3.length:Int)))=true then
  (aP r3 i8).bind fun a1 =>
  Option.bind (
   if (decide (IntKind.wrap .i64 (a0 + (a1.size:Int)) ≤ (t1.size:Int)))=true then
    (eK t1 a0 (IntKind.wrap .i64 (a0 + (a1.size:Int)))).bind fun a2 =>
    (aP r3 i8).bind fun a3 =>
    some (sEq a2 a3)
   else
    some false) fun a4 =>
  if a4=true then
   (aP r3 i8).bind fun a5 =>
   some (Sum.inr (Sum.inr a5))
  else
   some (Sum.inl (IntKind.wrap .i64 (i8 + 1)))
 else
  some (Sum.inr (Sum.inl ()))
def kQ (t1:ByteArray) (a0:Int):Option (ByteArray) :=
 (nX ).bind fun r3 =>
 Option.bind (
  aI (kP t1 a0 r3) (0:Int)) fun j7 =>
 match j7 with
 | Sum.inr z=>some z
 | Sum.inl () =>
  some (⟨#[]⟩:ByteArray)
def kT (t1:ByteArray):Int→Option ((Int) ⊕ (Int)):=fun a0 =>
 Option.bind (
  if (decide (a0 < (t1.size:Int)))=true then
   (sAt t1 a0).bind fun a1 =>
   (dS a1).bind fun a2 =>
   if a2=true then
    some true
   else
    (eT a1).bind fun a3 =>
    some a3
  else
   some false) fun a4 =>
 if a4=true then
  some (Sum.inl (IntKind.wrap .i64 (a0 + 1)))
 else
  some (Sum.inr a0)
def kS (t1:ByteArray) (a1:Int):(Int × Int)→Option ((Int × Int) ⊕ (Int × Int)):=fun ⟨a0,a2⟩ =>
 Option.bind (
  if (decide (a0 < (t1.size:Int)))=true then
   (sAt t1 a0).bind fun a3 =>
   (eT a3).bind fun a4 =>
   if a4=true then
    some (decide (IntKind.wrap .i64 (a0 - a1) ≤ 10))
   else
    some false
  else
   some false) fun a5 =>
 if a5=true then
  (sAt t1 a0).bind fun a6 =>
  some (Sum.inl (IntKind.wrap .i64 (a0 + 1),IntKind.wrap .i64 ((IntKind.wrap .i64 ((IntKind.wrap .i64 (10 * a2)) + (IntKind.wrap .i64 a6))) - 48)))
 else
  some (Sum.inr (a0,a2))
def kU (t1:ByteArray):((List GSign) × Int)→Option (((List GSign) × Int) ⊕ ((List GSign) ⊕ ((List GSign) × Bool))):=fun ⟨a0,a1⟩ =>
 if (decide (a1 < (t1.size:Int)))=true then
  Option.bind (
   (sAt t1 a1).bind fun b0 =>
   if (b0 == 32)=true then
    some true
   else
    some (b0 == 10)) fun b3 =>
  if b3=true then
   some (Sum.inl (a0,IntKind.wrap .i64 (a1 + 1)))
  else
   Option.bind (
    (sAt t1 a1).bind fun b4 =>
    (dS b4).bind fun b5 =>
    if b5=true then
     Option.bind (
      aI (kT t1) a1) fun a7 =>
     if (decide (IntKind.wrap .i64 (a7 - a1) > 8))=true then
      some (Sum.inr (Sum.inr (Sum.inr ([],false))))
     else
      (eK t1 a1 a7).bind fun b6 =>
      (bO 32 a0 [(⟨1,b6,0⟩:GSign)]).bind fun b7 =>
      some (Sum.inr (Sum.inl (b7,a7)))
    else
     some (Sum.inl (a0,a1,a1))) fun b8 =>
   match b8 with
   | Sum.inr z=>some z
   | Sum.inl (a3,a2,b9) =>
    Option.bind (
     (sAt t1 a2).bind fun c0 =>
     (eT c0).bind fun c1 =>
     if c1=true then
      Option.bind (
       aI (kS t1 a2) (b9,(0:Int))) fun ⟨b1,b2⟩ =>
      Option.bind (
       if (decide (IntKind.wrap .i64 (b1 - a2) > 10))=true then
        some true
       else
        some (decide (b2 > 1000000000))) fun c2 =>
      if c2=true then
       some (Sum.inr (Sum.inr (Sum.inr ([],false))))
      else
       (bO 32 a3 [(⟨2,ByteArray.empty,b2⟩:GSign)]).bind fun a8 =>
       some (Sum.inr (Sum.inl (a8,b1)))
     else
      some (Sum.inl (a3,a2))) fun c3 =>
    match c3 with
    | Sum.inr z=>some z
    | Sum.inl (a5,a4) =>
     (kQ t1 a4).bind fun a6 =>
     if (sEq a6 (⟨#[]⟩:ByteArray))=true then
      some (Sum.inr (Sum.inr ([],false)))
     else
      (bO 32 a5 [(⟨3,a6,0⟩:GSign)]).bind fun a9 =>
      some (Sum.inl (a9,IntKind.wrap .i64 (a4 + (a6.size:Int))))
 else
  some (Sum.inr (Sum.inl a0))
def kV (t1:ByteArray):Option ((List GSign) × Bool) :=
 if (decide ((t1.size:Int) > 3000))=true then
  some ([],false)
 else
  Option.bind (
   aI (kU t1) ([],(0:Int))) fun j6 =>
  match j6 with
  | Sum.inr z=>some z
  | Sum.inl a0 =>
   some (a0,true)
def dB (r1:Gl05Read) (a0:Int) (a1:ByteArray):Option (Bool × Gl05Read) :=
 Option.bind (
  if (!r1.bad)=true then
   if (decide (r1.at_ < (r1.list.length:Int)))=true then
    (aP r1.list r1.at_).bind fun a2 =>
    if (a2.Kind == a0)=true then
     some (sEq a2.Text a1)
    else
     some false
   else
    some false
  else
   some false) fun a3 =>
 some (a3,r1)
def aF (r1:Gl05Read) (a0:Int) (a1:ByteArray):Option (Bool × Gl05Read) :=
 (dB r1 a0 a1).bind fun ⟨r4,q5⟩ =>
 if r4=true then
  some (true,(⟨q5.list,IntKind.wrap .i64 (q5.at_ + 1),q5.bad,q5.deep,q5.nodes⟩:Gl05Read))
 else
  some (false,q5)
def bJ (r1:Gl05Read):Option (ByteArray × Gl05Read) :=
 Option.bind (
  if r1.bad=true then
   some true
  else
   if (decide (r1.at_ ≥ (r1.list.length:Int)))=true then
    some true
   else
    (aP r1.list r1.at_).bind fun e8 =>
    if (e8.Kind != 1)=true then
     some true
    else
     (iK e8.Text).bind fun a0 =>
     some (!a0)) fun a1 =>
 if a1=true then
  some ((⟨#[]⟩:ByteArray),(⟨r1.list,r1.at_,true,r1.deep,r1.nodes⟩:Gl05Read))
 else
  (aP r1.list (IntKind.wrap .i64 ((IntKind.wrap .i64 (r1.at_ + 1)) - 1))).bind fun a2 =>
  some (a2.Text,(⟨r1.list,IntKind.wrap .i64 (r1.at_ + 1),r1.bad,r1.deep,r1.nodes⟩:Gl05Read))
def aW (r1:Gl05Read) (a0:ByteArray):Option (Gl05Read) :=
 (aF r1 3 a0).bind fun ⟨r3,q4⟩ =>
 if (!r3)=true then
  some (⟨q4.list,q4.at_,true,q4.deep,q4.nodes⟩:Gl05Read)
 else
  some q4
def dL (r1:Gl05Read):Option (Int × Gl05Read) :=
 (aF r1 1 (⟨#[105,110,116]⟩:ByteArray)).bind fun ⟨r2,q3⟩ =>
 if r2=true then
  some (1,q3)
 else
  (aF q3 1 (⟨#[98,111,120]⟩:ByteArray)).bind fun ⟨r7,q8⟩ =>
  if r7=true then
   some (2,q8)
  else
   (aW q8 (⟨#[38]⟩:ByteArray)).bind fun a3 =>
   Option.bind (
    (aF a3 1 (⟨#[109,117,116]⟩:ByteArray)).bind fun ⟨a4,a1⟩ =>
    if a4=true then
     some ((4:Int),a1)
    else
     some ((3:Int),a1)) fun ⟨a2,a5⟩ =>
   (aF a5 1 (⟨#[98,111,120]⟩:ByteArray)).bind fun ⟨a6,a0⟩ =>
   if (!a6)=true then
    some (a2,(⟨a0.list,a0.at_,true,a0.deep,a0.nodes⟩:Gl05Read))
   else
    some (a2,a0)
def aK (r1:Gl05Read) (x2:GNode):Option (Int × Gl05Read) :=
 Option.bind (
  if r1.bad=true then
   some true
  else
   some (decide ((r1.nodes.length:Int) ≥ 300))) fun v7 =>
 if v7=true then
  some (0,(⟨r1.list,r1.at_,true,r1.deep,r1.nodes⟩:Gl05Read))
 else
  (bO 56 r1.nodes [x2]).bind fun a0 =>
  some (IntKind.wrap .i64 ((a0.length:Int) - 1),(⟨r1.list,r1.at_,r1.bad,r1.deep,a0⟩:Gl05Read))
def eL (r1:Gl05Read):Option (Int × Gl05Read) :=
 (aF r1 1 (⟨#[109,117,116]⟩:ByteArray)).bind fun ⟨r2,q3⟩ =>
 if r2=true then
  (bJ q3).bind fun ⟨r7,q8⟩ =>
  (aK q8 (⟨6,0,r7,[]⟩:GNode)).bind fun ⟨a0,a1⟩ =>
  some (a0,a1)
 else
  (bJ q3).bind fun ⟨a2,a3⟩ =>
  (aK a3 (⟨5,0,a2,[]⟩:GNode)).bind fun ⟨a4,a5⟩ =>
  some (a4,a5)
def cV (a1:Gl05Read→Option (Int × Gl05Read)) (a0:Gl05Read→Option (Int × Gl05Read)) (a2:Gl05Read→Option (Int × Gl05Read)) (a3:Gl05Read→ByteArray→Option (Int × Gl05Read)) (r1:Gl05Read):Option (Int × Gl05Read) :=
 (a0 r1).bind fun ⟨r2,q3⟩ =>
 Option.bind (
  (aF q3 3 (⟨#[60]⟩:ByteArray)).bind fun ⟨r8,q9⟩ =>
  if r8=true then
   some ((10:Int),q9)
  else
   (aF q9 3 (⟨#[61,61]⟩:ByteArray)).bind fun ⟨a7,a5⟩ =>
   if a7=true then
    some ((11:Int),a5)
   else
    some ((0:Int),a5)) fun ⟨a4,a6⟩ =>
 if (a4 != 0)=true then
  (a0 a6).bind fun ⟨a8,a9⟩ =>
  (aK a9 (⟨a4,0,ByteArray.empty,[r2,a8]⟩:GNode)).bind fun ⟨b0,b1⟩ =>
  some (b0,b1)
 else
  some (r2,a6)
def fZ (a0:Gl05Read→Option (Int × Gl05Read)):(Int × Gl05Read)→Option ((Int × Gl05Read) ⊕ (Int × Gl05Read)):=fun ⟨k8,v9⟩ =>
 (aF v9 3 (⟨#[43]⟩:ByteArray)).bind fun ⟨a2,a1⟩ =>
 if a2=true then
  (a0 a1).bind fun ⟨a3,a4⟩ =>
  (aK a4 (⟨9,0,ByteArray.empty,[k8,a3]⟩:GNode)).bind fun ⟨a5,a6⟩ =>
  some (Sum.inl (a5,a6))
 else
  some (Sum.inr (k8,a1))
def dV (a1:Gl05Read→Option (Int × Gl05Read)) (a3:Gl05Read→Option (Int × Gl05Read)) (a0:Gl05Read→Option (Int × Gl05Read)) (a2:Gl05Read→ByteArray→Option (Int × Gl05Read)) (r1:Gl05Read):Option (Int × Gl05Read) :=
 (a0 r1).bind fun ⟨r2,q3⟩ =>
 Option.bind (
  aI (fZ a0) (r2,q3)) fun ⟨a4,a5⟩ =>
 some (a4,a5)
def dF (a0:Gl05Read→Option (Int × Gl05Read)) (a3:Gl05Read→Option (Int × Gl05Read)) (a1:Gl05Read→Option (Int × Gl05Read)) (a2:Gl05Read→ByteArray→Option (Int × Gl05Read)) (r1:Gl05Read):Option (Int × Gl05Read) :=
 Option.bind (
  if r1.bad=true then
   some true
  else
   if (decide (r1.at_ ≥ (r1.list.length:Int)))=true then
    some true
   else
    some (decide (r1.deep > 12))) fun v8 =>
 if v8=true then
  some (0,(⟨r1.list,r1.at_,true,r1.deep,r1.nodes⟩:Gl05Read))
 else
  Option.bind (
   (aP r1.list r1.at_).bind fun b3 =>
   if (b3.Kind == 2)=true then
    (aP r1.list (IntKind.wrap .i64 ((IntKind.wrap .i64 (r1.at_ + 1)) - 1))).bind fun b4 =>
    (aK (⟨r1.list,IntKind.wrap .i64 (r1.at_ + 1),r1.bad,IntKind.wrap .i64 (r1.deep + 1),r1.nodes⟩:Gl05Read) (⟨1,b4.Num,ByteArray.empty,[]⟩:GNode)).bind fun ⟨b5,b6⟩ =>
    some (b5,b6)
   else
    (aF (⟨r1.list,r1.at_,r1.bad,IntKind.wrap .i64 (r1.deep + 1),r1.nodes⟩:Gl05Read) 3 (⟨#[42]⟩:ByteArray)).bind fun ⟨b7,a5⟩ =>
    if b7=true then
     (bJ a5).bind fun ⟨b8,b9⟩ =>
     (aK b9 (⟨3,0,b8,[]⟩:GNode)).bind fun ⟨c0,c1⟩ =>
     some (c0,c1)
    else
     (aF a5 3 (⟨#[38]⟩:ByteArray)).bind fun ⟨c2,a6⟩ =>
     if c2=true then
      (eL a6).bind fun ⟨c3,c4⟩ =>
      some (c3,c4)
     else
      (aF a6 3 (⟨#[40]⟩:ByteArray)).bind fun ⟨c5,a7⟩ =>
      if c5=true then
       (a0 a7).bind fun ⟨c6,c7⟩ =>
       (aW c7 (⟨#[41]⟩:ByteArray)).bind fun c8 =>
       some (c6,c8)
      else
       (aF a7 1 (⟨#[99,108,111,110,101]⟩:ByteArray)).bind fun ⟨c9,a8⟩ =>
       if c9=true then
        (bJ a8).bind fun ⟨d0,d1⟩ =>
        (aK d1 (⟨4,0,d0,[]⟩:GNode)).bind fun ⟨d2,d3⟩ =>
        some (d2,d3)
       else
        (aF a8 1 (⟨#[105,110,112,117,116]⟩:ByteArray)).bind fun ⟨d4,a9⟩ =>
        if d4=true then
         (aK a9 (⟨7,0,ByteArray.empty,[]⟩:GNode)).bind fun ⟨d5,d6⟩ =>
         some (d5,d6)
        else
         (aF a9 1 (⟨#[110,101,119]⟩:ByteArray)).bind fun ⟨d7,b0⟩ =>
         if d7=true then
          (a1 b0).bind fun ⟨d8,d9⟩ =>
          (aK d9 (⟨8,0,ByteArray.empty,[d8]⟩:GNode)).bind fun ⟨e0,e1⟩ =>
          some (e0,e1)
         else
          (bJ b0).bind fun ⟨b1,e2⟩ =>
          (aF e2 3 (⟨#[40]⟩:ByteArray)).bind fun ⟨e3,b2⟩ =>
          if e3=true then
           (a2 b2 b1).bind fun ⟨e4,e5⟩ =>
           some (e4,e5)
          else
           (aK b2 (⟨2,0,b1,[]⟩:GNode)).bind fun ⟨e6,e7⟩ =>
           some (e6,e7)) fun ⟨e8,a4⟩ =>
  some (e8,(⟨a4.list,a4.at_,a4.bad,IntKind.wrap .i64 (a4.deep - 1),a4.nodes⟩:Gl05Read))
def fK (a0:Gl05Read→Option (Int × Gl05Read)):((List Int) × Gl05Read)→Option (((List Int) × Gl05Read) ⊕ ((List Int) × Gl05Read)):=fun ⟨a1,a2⟩ =>
 if (!a2.bad)=true then
  (a0 a2).bind fun ⟨a5,a6⟩ =>
  (bO 8 a1 [a5]).bind fun a3 =>
  (aF a6 3 (⟨#[41]⟩:ByteArray)).bind fun ⟨a7,a4⟩ =>
  if a7=true then
   some (Sum.inr (a3,a4))
  else
   (aW a4 (⟨#[44]⟩:ByteArray)).bind fun a8 =>
   some (Sum.inl (a3,a8))
 else
  some (Sum.inr (a1,a2))
def dH (a0:Gl05Read→Option (Int × Gl05Read)) (a3:Gl05Read→Option (Int × Gl05Read)) (a1:Gl05Read→Option (Int × Gl05Read)) (a2:Gl05Read→ByteArray→Option (Int × Gl05Read)) (r1:Gl05Read) (a5:ByteArray):Option (Int × Gl05Read) :=
 Option.bind (
  (aF r1 3 (⟨#[41]⟩:ByteArray)).bind fun ⟨r6,q7⟩ =>
  if (!r6)=true then
   aI (fK a0) ([],q7)
  else
   some ([],q7)) fun ⟨a4,a6⟩ =>
 (aK a6 (⟨12,0,a5,a4⟩:GNode)).bind fun ⟨a7,a8⟩ =>
 some (a7,a8)
def aA:Nat→(Gl05Read→Option (Int × Gl05Read)) × (Gl05Read→Option (Int × Gl05Read)) × (Gl05Read→Option (Int × Gl05Read)) × (Gl05Read→ByteArray→Option (Int × Gl05Read))
 | 0=>(fun _=>none,fun _=>none,fun _=>none,fun _ _=>none)
 | n + 1=>(cV ((aA n).1) ((aA n).2.1) ((aA n).2.2.1) ((aA n).2.2.2),dV ((aA n).1) ((aA n).2.1) ((aA n).2.2.1) ((aA n).2.2.2),dF ((aA n).1) ((aA n).2.1) ((aA n).2.2.1) ((aA n).2.2.2),dH ((aA n).1) ((aA n).2.1) ((aA n).2.2.1) ((aA n).2.2.2))
def dU:Gl05Read→Option (Int × Gl05Read):=(aA bL).1
def aC6:Gl05Read→Option (Int × Gl05Read):=(aA bL).2.1
def aB0:Gl05Read→Option (Int × Gl05Read):=(aA bL).2.2.1
def aB2:Gl05Read→ByteArray→Option (Int × Gl05Read):=(aA bL).2.2.2
def cB (r1:Gl05Read) (a0:Int) (a1:ByteArray):Option (Int × Gl05Read) :=
 (dU r1).bind fun ⟨r4,q5⟩ =>
 (aW q5 (⟨#[59]⟩:ByteArray)).bind fun q7 =>
 (aK q7 (⟨a0,0,a1,[r4]⟩:GNode)).bind fun ⟨r9,a2⟩ =>
 some (r9,a2)
def eU (a0:Gl05Read→Option (Int × Gl05Read)):((List Int) × Gl05Read)→Option (((List Int) × Gl05Read) ⊕ ((List Int) × Gl05Read)):=fun ⟨a1,v6⟩ =>
 Option.bind (
  if (!v6.bad)=true then
   (dB v6 3 (⟨#[125]⟩:ByteArray)).bind fun ⟨a4,a2⟩ =>
   if (!a4)=true then
    (dB a2 1 (⟨#[114,101,116]⟩:ByteArray)).bind fun ⟨a5,a6⟩ =>
    some (!a5,a6)
   else
    some (false,a2)
  else
   some (false,v6)) fun ⟨a7,a3⟩ =>
 if a7=true then
  (a0 a3).bind fun ⟨a8,a9⟩ =>
  (bO 8 a1 [a8]).bind fun b0 =>
  some (Sum.inl (b0,a9))
 else
  some (Sum.inr (a1,a3))
def cW (a1:Gl05Read→Option ((List Int) × Gl05Read)) (a0:Gl05Read→Option (Int × Gl05Read)) (a2:Gl05Read→Option (Int × Gl05Read)) (r1:Gl05Read):Option ((List Int) × Gl05Read) :=
 Option.bind (
  aI (eU a0) ([],r1)) fun ⟨a3,a4⟩ =>
 some (a3,a4)
def dG (a1:Gl05Read→Option ((List Int) × Gl05Read)) (a2:Gl05Read→Option (Int × Gl05Read)) (a0:Gl05Read→Option (Int × Gl05Read)) (r1:Gl05Read):Option (Int × Gl05Read) :=
 (aF r1 1 (⟨#[108,101,116]⟩:ByteArray)).bind fun ⟨r2,q3⟩ =>
 if r2=true then
  (bJ q3).bind fun ⟨r7,q8⟩ =>
  (aW q8 (⟨#[61]⟩:ByteArray)).bind fun a9 =>
  (cB a9 13 r7).bind fun ⟨b0,b1⟩ =>
  some (b0,b1)
 else
  (aF q3 3 (⟨#[42]⟩:ByteArray)).bind fun ⟨b2,a4⟩ =>
  if b2=true then
   (bJ a4).bind fun ⟨b3,b4⟩ =>
   (aW b4 (⟨#[61]⟩:ByteArray)).bind fun b5 =>
   (cB b5 15 b3).bind fun ⟨b6,b7⟩ =>
   some (b6,b7)
  else
   (aF a4 1 (⟨#[105,102]⟩:ByteArray)).bind fun ⟨b8,a5⟩ =>
   if b8=true then
    (dU a5).bind fun ⟨b9,c0⟩ =>
    (a0 c0).bind fun ⟨c1,c2⟩ =>
    Option.bind (
     (aF c2 1 (⟨#[101,108,115,101]⟩:ByteArray)).bind fun ⟨c3,a3⟩ =>
     if (!c3)=true then
      some (⟨a3.list,a3.at_,true,a3.deep,a3.nodes⟩:Gl05Read)
     else
      some a3) fun c4 =>
    (a0 c4).bind fun ⟨c5,c6⟩ =>
    (aK c6 (⟨16,0,ByteArray.empty,[b9,c1,c5]⟩:GNode)).bind fun ⟨c7,c8⟩ =>
    some (c7,c8)
   else
    (aF a5 1 (⟨#[119,104,105,108,101]⟩:ByteArray)).bind fun ⟨c9,a6⟩ =>
    if c9=true then
     (dU a6).bind fun ⟨d0,d1⟩ =>
     (a0 d1).bind fun ⟨d2,d3⟩ =>
     (aK d3 (⟨17,0,ByteArray.empty,[d0,d2]⟩:GNode)).bind fun ⟨d4,d5⟩ =>
     some (d4,d5)
    else
     (aF a6 1 (⟨#[112,114,105,110,116]⟩:ByteArray)).bind fun ⟨d6,a7⟩ =>
     if d6=true then
      (cB a7 18 (⟨#[]⟩:ByteArray)).bind fun ⟨d7,d8⟩ =>
      some (d7,d8)
     else
      (aF a7 1 (⟨#[100,111]⟩:ByteArray)).bind fun ⟨d9,a8⟩ =>
      if d9=true then
       (cB a8 19 (⟨#[]⟩:ByteArray)).bind fun ⟨e0,e1⟩ =>
       some (e0,e1)
      else
       (bJ a8).bind fun ⟨e2,e3⟩ =>
       (aW e3 (⟨#[61]⟩:ByteArray)).bind fun e4 =>
       (cB e4 14 e2).bind fun ⟨e5,e6⟩ =>
       some (e5,e6)
def cX (a0:Gl05Read→Option ((List Int) × Gl05Read)) (a2:Gl05Read→Option (Int × Gl05Read)) (a1:Gl05Read→Option (Int × Gl05Read)) (r1:Gl05Read):Option (Int × Gl05Read) :=
 Option.bind (
  if (decide (IntKind.wrap .i64 (r1.deep + 1) > 12))=true then
   some (⟨r1.list,r1.at_,true,IntKind.wrap .i64 (r1.deep + 1),r1.nodes⟩:Gl05Read)
  else
   some (⟨r1.list,r1.at_,r1.bad,IntKind.wrap .i64 (r1.deep + 1),r1.nodes⟩:Gl05Read)) fun v7 =>
 (aW v7 (⟨#[123]⟩:ByteArray)).bind fun q8 =>
 (a0 q8).bind fun ⟨a4,a5⟩ =>
 (aW a5 (⟨#[125]⟩:ByteArray)).bind fun a3 =>
 (aK (⟨a3.list,a3.at_,a3.bad,IntKind.wrap .i64 (a3.deep - 1),a3.nodes⟩:Gl05Read) (⟨20,0,ByteArray.empty,a4⟩:GNode)).bind fun ⟨a6,a7⟩ =>
 some (a6,a7)
def aD:Nat→(Gl05Read→Option ((List Int) × Gl05Read)) × (Gl05Read→Option (Int × Gl05Read)) × (Gl05Read→Option (Int × Gl05Read))
 | 0=>(fun _=>none,fun _=>none,fun _=>none)
 | n + 1=>(cW ((aD n).1) ((aD n).2.1) ((aD n).2.2),dG ((aD n).1) ((aD n).2.1) ((aD n).2.2),cX ((aD n).1) ((aD n).2.1) ((aD n).2.2))
def kH:Gl05Read→Option ((List Int) × Gl05Read):=(aD bL).1
def aB1:Gl05Read→Option (Int × Gl05Read):=(aD bL).2.1
def zJ:Gl05Read→Option (Int × Gl05Read):=(aD bL).2.2
def gR:(GFn × Gl05Read)→Option ((GFn × Gl05Read) ⊕ (GFn × Gl05Read)):=fun ⟨a0,a1⟩ =>
 if (!a1.bad)=true then
  (bJ a1).bind fun ⟨a4,a5⟩ =>
  (aW a5 (⟨#[58]⟩:ByteArray)).bind fun a6 =>
  (dL a6).bind fun ⟨a7,a8⟩ =>
  (bO 24 a0.Params [(⟨a4,a7⟩:GParam)]).bind fun a2 =>
  (aF a8 3 (⟨#[41]⟩:ByteArray)).bind fun ⟨a9,a3⟩ =>
  if a9=true then
   some (Sum.inr ((⟨a0.Name,a2,a0.Res,a0.Body,a0.Ret⟩:GFn),a3))
  else
   (aW a3 (⟨#[44]⟩:ByteArray)).bind fun b0 =>
   some (Sum.inl ((⟨a0.Name,a2,a0.Res,a0.Body,a0.Ret⟩:GFn),b0))
 else
  some (Sum.inr (a0,a1))
def gA (r1:Gl05Read):Option (GFn × Gl05Read) :=
 Option.bind (
  (aF r1 1 (⟨#[102,110]⟩:ByteArray)).bind fun ⟨r5,q6⟩ =>
  if (!r5)=true then
   some (⟨q6.list,q6.at_,true,q6.deep,q6.nodes⟩:Gl05Read)
  else
   some q6) fun a7 =>
 (bJ a7).bind fun ⟨a2,a8⟩ =>
 (aW a8 (⟨#[40]⟩:ByteArray)).bind fun a9 =>
 Option.bind (
  (aF a9 3 (⟨#[41]⟩:ByteArray)).bind fun ⟨b0,a3⟩ =>
  if (!b0)=true then
   aI (gR) ((⟨a2,[],0,0,(-1)⟩:GFn),a3)
  else
   some ((⟨a2,[],0,0,(-1)⟩:GFn),a3)) fun ⟨a1,b1⟩ =>
 Option.bind (
  (aF b1 3 (⟨#[45,62]⟩:ByteArray)).bind fun ⟨b2,a4⟩ =>
  if b2=true then
   (dL a4).bind fun ⟨b3,b4⟩ =>
   some ((⟨a1.Name,a1.Params,b3,a1.Body,a1.Ret⟩:GFn),b4)
  else
   some (a1,a4)) fun ⟨a0,b5⟩ =>
 (aW b5 (⟨#[123]⟩:ByteArray)).bind fun b6 =>
 (kH b6).bind fun ⟨b7,b8⟩ =>
 (aK b8 (⟨20,0,ByteArray.empty,b7⟩:GNode)).bind fun ⟨a5,b9⟩ =>
 Option.bind (
  (aF b9 1 (⟨#[114,101,116]⟩:ByteArray)).bind fun ⟨c0,a6⟩ =>
  if c0=true then
   (dU a6).bind fun ⟨c1,c2⟩ =>
   (aW c2 (⟨#[59]⟩:ByteArray)).bind fun c3 =>
   some ((⟨a0.Name,a0.Params,a0.Res,a5,c1⟩:GFn),c3)
  else
   some ((⟨a0.Name,a0.Params,a0.Res,a5,a0.Ret⟩:GFn),a6)) fun ⟨c4,c5⟩ =>
 (aW c5 (⟨#[125]⟩:ByteArray)).bind fun c6 =>
 some (c4,c6)
def eN:(GProgram × Gl05Read)→Option ((GProgram × Gl05Read) ⊕ (GProgram × Gl05Read)):=fun ⟨a1,a0⟩ =>
 Option.bind (
  if (!a0.bad)=true then
   if (decide (a0.at_ < (a0.list.length:Int)))=true then
    some (decide ((a1.Fns.length:Int) ≤ 8))
   else
    some false
  else
   some false) fun a2 =>
 if a2=true then
  (gA a0).bind fun ⟨a3,a4⟩ =>
  (bO 64 a1.Fns [a3]).bind fun a5 =>
  some (Sum.inl ((⟨a1.Nodes,a5⟩:GProgram),a4))
 else
  some (Sum.inr (a1,a0))
def cT (t1:ByteArray):Option (GProgram × Bool) :=
 (kV t1).bind fun ⟨r2,r3⟩ =>
 if (!r3)=true then
  some ((⟨[],[]⟩:GProgram),false)
 else
  Option.bind (
   aI (eN) ((⟨[],[]⟩:GProgram),(⟨r2,0,false,0,[]⟩:Gl05Read))) fun ⟨a1,a0⟩ =>
  Option.bind (
   if a0.bad=true then
    some true
   else
    (iJ (⟨a0.nodes,a1.Fns⟩:GProgram)).bind fun a2 =>
    some (!a2)) fun a3 =>
  if a3=true then
   some ((⟨[],[]⟩:GProgram),false)
  else
   some ((⟨a0.nodes,a1.Fns⟩:GProgram),true)
def gV (c1:Gl01Cur) (n2:Int):Option (Bool × Gl01Cur) :=
 (bX c1 n2).bind fun ⟨r3,q4⟩ =>
 some (r3 == 0,q4)
def dN (m1:Gl05Made) (a0:List ByteArray) (m3:Gl01Cur):Option (ByteArray × Gl01Cur) :=
 (bX m3 (a0.length:Int)).bind fun ⟨r4,q5⟩ =>
 (aP a0 r4).bind fun e7 =>
 some (e7,q5)
def kR (c1:Gl01Cur) (a0:List ByteArray):Option (ByteArray × Gl01Cur) :=
 (bX c1 (a0.length:Int)).bind fun ⟨r3,q4⟩ =>
 (aP a0 r3).bind fun e6 =>
 some (e6,q4)
def eM (m1:Gl05Made) (m2:Gl01Cur):Option (ByteArray × Gl01Cur) :=
 (kR m2 [(⟨#[48]⟩:ByteArray),(⟨#[49]⟩:ByteArray),(⟨#[50]⟩:ByteArray),(⟨#[51]⟩:ByteArray),(⟨#[55]⟩:ByteArray),(⟨#[49,48]⟩:ByteArray),(⟨#[53,48,48,48,48,48,48,48,48]⟩:ByteArray)]).bind fun ⟨r3,q4⟩ =>
 some (r3,q4)
def aR (m1:Gl05Made) (m2:Gl01Cur):Option (ByteArray × Gl01Cur) :=
 (bX m2 5).bind fun ⟨r3,q4⟩ =>
 Option.bind (
  if (decide (r3 < 2))=true then
   some (decide ((m1.ints.length:Int) > 0))
  else
   some false) fun a0 =>
 if a0=true then
  (dN m1 m1.ints q4).bind fun ⟨a1,a2⟩ =>
  some (a1,a2)
 else
  Option.bind (
   if (r3 == 2)=true then
    some (decide ((m1.boxes.length:Int) > 0))
   else
    some false) fun a3 =>
  if a3=true then
   (dN m1 m1.boxes q4).bind fun ⟨a4,a5⟩ =>
   (bN (⟨#[42]⟩:ByteArray) a4).bind fun a6 =>
   some (a6,a5)
  else
   (eM m1 q4).bind fun ⟨a7,a8⟩ =>
   some (a7,a8)
def cY (m1:Gl05Made) (m2:Gl01Cur):Option (ByteArray × Gl01Cur) :=
 (bX m2 7).bind fun ⟨r3,q4⟩ =>
 if (r3 == 0)=true then
  (aR m1 q4).bind fun ⟨r8,q9⟩ =>
  (bN r8 (⟨#[32,43,32]⟩:ByteArray)).bind fun a1 =>
  (aR m1 q9).bind fun ⟨a2,a3⟩ =>
  (bN a1 a2).bind fun a4 =>
  some (a4,a3)
 else
  if (r3 == 1)=true then
   (aR m1 q4).bind fun ⟨a5,a6⟩ =>
   (bN a5 (⟨#[32,60,32]⟩:ByteArray)).bind fun a7 =>
   (aR m1 a6).bind fun ⟨a8,a9⟩ =>
   (bN a7 a8).bind fun b0 =>
   some (b0,a9)
  else
   if (r3 == 2)=true then
    (aR m1 q4).bind fun ⟨b1,b2⟩ =>
    (bN (⟨#[40]⟩:ByteArray) b1).bind fun b3 =>
    (bN b3 (⟨#[32,43,32]⟩:ByteArray)).bind fun b4 =>
    (aR m1 b2).bind fun ⟨b5,b6⟩ =>
    (bN b4 b5).bind fun b7 =>
    (bN b7 (⟨#[41,32,43,32]⟩:ByteArray)).bind fun b8 =>
    (aR m1 b6).bind fun ⟨b9,c0⟩ =>
    (bN b8 b9).bind fun c1 =>
    some (c1,c0)
   else
    if (r3 == 3)=true then
     (aR m1 q4).bind fun ⟨c2,c3⟩ =>
     (bN (⟨#[115,117,109,40]⟩:ByteArray) c2).bind fun c4 =>
     (bN c4 (⟨#[44,32]⟩:ByteArray)).bind fun c5 =>
     (aR m1 c3).bind fun ⟨c6,c7⟩ =>
     (bN c5 c6).bind fun c8 =>
     (bN c8 (⟨#[41]⟩:ByteArray)).bind fun c9 =>
     some (c9,c7)
    else
     if (r3 == 4)=true then
      (gV q4 3).bind fun ⟨d0,a0⟩ =>
      if d0=true then
       some ((⟨#[105,110,112,117,116]⟩:ByteArray),a0)
      else
       (aR m1 a0).bind fun ⟨d1,d2⟩ =>
       some (d1,d2)
     else
      (aR m1 q4).bind fun ⟨d3,d4⟩ =>
      some (d3,d4)
def pM (x1:Int):Option (Int) :=
 if (decide (x1 < 10))=true then
  some (IntKind.wrap .u8 (IntKind.wrap .i64 (48 + x1)))
 else
  some (IntKind.wrap .u8 (IntKind.wrap .i64 ((IntKind.wrap .i64 (97 + x1)) - 10)))
def kY:(Int × ByteArray)→Option ((Int × ByteArray) ⊕ (ByteArray)):=fun ⟨n7,s8⟩ =>
 if (n7 != 0)=true then
  Option.bind (
   if (decide (Int.tmod n7 10 < 0))=true then
    some (IntKind.wrap .i64 (0 - (Int.tmod n7 10)))
   else
    some (Int.tmod n7 10)) fun a0 =>
  (pM a0).bind fun a1 =>
  (bN (tO [a1]) s8).bind fun a2 =>
  some (Sum.inl (IntKind.wrap .i64 (Int.tdiv n7 10),a2))
 else
  some (Sum.inr s8)
def kZ (n1:Int):Option (ByteArray) :=
 if (n1 == 0)=true then
  some (⟨#[48]⟩:ByteArray)
 else
  Option.bind (
   aI (kY) (n1,(⟨#[]⟩:ByteArray))) fun a0 =>
  if (decide (n1 < 0))=true then
   (bN (⟨#[45]⟩:ByteArray) a0).bind fun a1 =>
   some a1
  else
   some a0
def cC (m1:Gl05Made) (s2:ByteArray) (m3:Gl01Cur):Option (ByteArray × Gl05Made × Gl01Cur) :=
 (kZ (IntKind.wrap .i64 (m1.n + 1))).bind fun r4 =>
 (bN s2 r4).bind fun t6 =>
 some (t6,(⟨(),m1.ints,m1.boxes,IntKind.wrap .i64 (m1.n + 1),m1.text,m1.wild⟩:Gl05Made),m3)
def iO (m1:Gl05Made) (b2:ByteArray):((List ByteArray) × Int)→Option (((List ByteArray) × Int) ⊕ (List ByteArray)):=fun ⟨a0,i8⟩ =>
 if (decide (i8 < (m1.boxes.length:Int)))=true then
  Option.bind (
   (aP m1.boxes i8).bind fun a1 =>
   if (!(sEq a1 b2))=true then
    some true
   else
    some m1.wild) fun a2 =>
  if a2=true then
   (aP m1.boxes i8).bind fun a3 =>
   (bO 16 a0 [a3]).bind fun a4 =>
   some (Sum.inl (a4,IntKind.wrap .i64 (i8 + 1)))
  else
   some (Sum.inl (a0,IntKind.wrap .i64 (i8 + 1)))
 else
  some (Sum.inr a0)
def dO (m1:Gl05Made) (b2:ByteArray) (m3:Gl01Cur):Option (Gl05Made × Gl01Cur) :=
 Option.bind (
  aI (iO m1 b2) ([],(0:Int))) fun a0 =>
 some ((⟨(),m1.ints,a0,m1.n,m1.text,m1.wild⟩:Gl05Made),m3)
def gU (m1:Gl05Made) (a3:Bool) (m3:Gl01Cur):Option (Gl05Made × Gl01Cur) :=
 (dN m1 m1.boxes m3).bind fun ⟨r4,q5⟩ =>
 (bX q5 9).bind fun ⟨r7,q8⟩ =>
 if (r7 == 0)=true then
  (cC m1 (⟨#[114]⟩:ByteArray) q8).bind fun ⟨c2,a6,c7⟩ =>
  (bN a6.text (⟨#[108,101,116,32]⟩:ByteArray)).bind fun c8 =>
  (bN c8 c2).bind fun c9 =>
  (bN c9 (⟨#[32,61,32,38]⟩:ByteArray)).bind fun d0 =>
  (bN d0 r4).bind fun d1 =>
  (bN d1 (⟨#[59,32,112,114,105,110,116,32,42]⟩:ByteArray)).bind fun d2 =>
  (bN d2 c2).bind fun d3 =>
  (bN d3 (⟨#[59,32]⟩:ByteArray)).bind fun d4 =>
  some ((⟨(),a6.ints,a6.boxes,a6.n,d4,a6.wild⟩:Gl05Made),c7)
 else
  if (r7 == 1)=true then
   (cC m1 (⟨#[109]⟩:ByteArray) q8).bind fun ⟨c3,a4,d5⟩ =>
   (bN a4.text (⟨#[108,101,116,32]⟩:ByteArray)).bind fun d6 =>
   (bN d6 c3).bind fun d7 =>
   (bN d7 (⟨#[32,61,32,38,109,117,116,32]⟩:ByteArray)).bind fun d8 =>
   (bN d8 r4).bind fun d9 =>
   (bN d9 (⟨#[59,32,42]⟩:ByteArray)).bind fun e0 =>
   (bN e0 c3).bind fun e1 =>
   (bN e1 (⟨#[32,61,32]⟩:ByteArray)).bind fun e2 =>
   (aR a4 d5).bind fun ⟨e3,e4⟩ =>
   (bN e2 e3).bind fun e5 =>
   (bN e5 (⟨#[59,32]⟩:ByteArray)).bind fun e6 =>
   some ((⟨(),a4.ints,a4.boxes,a4.n,e6,a4.wild⟩:Gl05Made),e4)
  else
   if (r7 == 2)=true then
    (bN m1.text (⟨#[100,111,32,115,104,111,119,40,38]⟩:ByteArray)).bind fun e7 =>
    (bN e7 r4).bind fun e8 =>
    (bN e8 (⟨#[41,59,32]⟩:ByteArray)).bind fun e9 =>
    some ((⟨(),m1.ints,m1.boxes,m1.n,e9,m1.wild⟩:Gl05Made),q8)
   else
    if (r7 == 3)=true then
     (bN m1.text (⟨#[100,111,32,98,117,109,112,40,38,109,117,116,32]⟩:ByteArray)).bind fun g0 =>
     (bN g0 r4).bind fun g1 =>
     (bN g1 (⟨#[44,32]⟩:ByteArray)).bind fun g2 =>
     (eM m1 q8).bind fun ⟨g3,g4⟩ =>
     (bN g2 g3).bind fun g5 =>
     (bN g5 (⟨#[41,59,32]⟩:ByteArray)).bind fun g6 =>
     some ((⟨(),m1.ints,m1.boxes,m1.n,g6,m1.wild⟩:Gl05Made),g4)
    else
     if (r7 == 4)=true then
      (cC m1 (⟨#[98]⟩:ByteArray) q8).bind fun ⟨c4,a2,g7⟩ =>
      (bN a2.text (⟨#[108,101,116,32]⟩:ByteArray)).bind fun g8 =>
      (bN g8 c4).bind fun g9 =>
      (bN g9 (⟨#[32,61,32,99,108,111,110,101,32]⟩:ByteArray)).bind fun h0 =>
      (bN h0 r4).bind fun h1 =>
      (bN h1 (⟨#[59,32]⟩:ByteArray)).bind fun c5 =>
      Option.bind (
       (gV g7 3).bind fun ⟨h2,c6⟩ =>
       if h2=true then
        (dO (⟨(),a2.ints,a2.boxes,a2.n,c5,a2.wild⟩:Gl05Made) r4 c6).bind fun ⟨h3,h4⟩ =>
        some (h3,h4)
       else
        some ((⟨(),a2.ints,a2.boxes,a2.n,c5,a2.wild⟩:Gl05Made),c6)) fun ⟨a5,h5⟩ =>
      (bO 16 [] a5.boxes).bind fun j0 =>
      (bO 16 a5.boxes [c4]).bind fun h6 =>
      some ((⟨(),a5.ints,h6,a5.n,a5.text,a5.wild⟩:Gl05Made),h5)
     else
      if (r7 == 5)=true then
       (bN m1.text (⟨#[42]⟩:ByteArray)).bind fun h7 =>
       (bN h7 r4).bind fun h8 =>
       (bN h8 (⟨#[32,61,32]⟩:ByteArray)).bind fun h9 =>
       (cY m1 q8).bind fun ⟨i0,i1⟩ =>
       (bN h9 i0).bind fun i2 =>
       (bN i2 (⟨#[59,32]⟩:ByteArray)).bind fun i3 =>
       some ((⟨(),m1.ints,m1.boxes,m1.n,i3,m1.wild⟩:Gl05Made),i1)
      else
       if (r7 == 6)=true then
        (bN m1.text r4).bind fun i4 =>
        (bN i4 (⟨#[32,61,32,110,101,119,32]⟩:ByteArray)).bind fun i5 =>
        (aR m1 q8).bind fun ⟨i6,i7⟩ =>
        (bN i5 i6).bind fun i8 =>
        (bN i8 (⟨#[59,32]⟩:ByteArray)).bind fun a8 =>
        some ((⟨(),m1.ints,m1.boxes,m1.n,a8,m1.wild⟩:Gl05Made),i7)
       else
        if (r7 == 7)=true then
         if a3=true then
          (bN m1.text (⟨#[100,111,32,101,97,116,40]⟩:ByteArray)).bind fun a9 =>
          (bN a9 r4).bind fun b0 =>
          (bN b0 (⟨#[41,59,32]⟩:ByteArray)).bind fun b1 =>
          (dO (⟨(),m1.ints,m1.boxes,m1.n,b1,m1.wild⟩:Gl05Made) r4 q8).bind fun ⟨b2,b3⟩ =>
          some (b2,b3)
         else
          some (m1,q8)
        else
         if a3=true then
          (cC m1 (⟨#[98]⟩:ByteArray) q8).bind fun ⟨a7,a1,b4⟩ =>
          (bN a1.text (⟨#[108,101,116,32]⟩:ByteArray)).bind fun b5 =>
          (bN b5 a7).bind fun b6 =>
          (bN b6 (⟨#[32,61,32]⟩:ByteArray)).bind fun b7 =>
          (bN b7 r4).bind fun b8 =>
          (bN b8 (⟨#[59,32]⟩:ByteArray)).bind fun b9 =>
          (dO (⟨(),a1.ints,a1.boxes,a1.n,b9,a1.wild⟩:Gl05Made) r4 b4).bind fun ⟨a0,c0⟩ =>
          (bO 16 [] a0.boxes).bind fun i9 =>
          (bO 16 a0.boxes [a7]).bind fun c1 =>
          some ((⟨(),a0.ints,c1,a0.n,a0.text,a0.wild⟩:Gl05Made),c0)
         else
          some (m1,q8)
def gB (a1:Gl05Made→Int→Bool→Gl01Cur→Option (Gl05Made × Gl01Cur)) (a0:Gl05Made→Int→ByteArray→Gl01Cur→Option (Gl05Made × Gl01Cur)) (m1:Gl05Made) (a2:Int) (a8:Bool) (m4:Gl01Cur):Option (Gl05Made × Gl01Cur) :=
 (bX m4 14).bind fun ⟨r5,q6⟩ =>
 Option.bind (
  if (decide (r5 < 2))=true then
   some true
  else
   some ((m1.ints.length:Int) == 0)) fun d8 =>
 if d8=true then
  (cY m1 q6).bind fun ⟨d9,e0⟩ =>
  (cC m1 (⟨#[105]⟩:ByteArray) e0).bind fun ⟨d5,a6,e1⟩ =>
  (bN a6.text (⟨#[108,101,116,32]⟩:ByteArray)).bind fun e2 =>
  (bN e2 d5).bind fun e3 =>
  (bN e3 (⟨#[32,61,32]⟩:ByteArray)).bind fun e4 =>
  (bN e4 d9).bind fun e5 =>
  (bN e5 (⟨#[59,32]⟩:ByteArray)).bind fun e6 =>
  (bO 16 [] a6.ints).bind fun j6 =>
  (bO 16 a6.ints [d5]).bind fun e7 =>
  some ((⟨(),e7,a6.boxes,a6.n,e6,a6.wild⟩:Gl05Made),e1)
 else
  Option.bind (
   if (decide (r5 < 4))=true then
    some true
   else
    some ((m1.boxes.length:Int) == 0)) fun e8 =>
  if e8=true then
   (aR m1 q6).bind fun ⟨e9,g0⟩ =>
   (bN (⟨#[110,101,119,32]⟩:ByteArray) e9).bind fun g1 =>
   Option.bind (
    (gV g0 3).bind fun ⟨g2,d6⟩ =>
    if g2=true then
     (aR m1 d6).bind fun ⟨g3,g4⟩ =>
     (bN (⟨#[109,97,107,101,40]⟩:ByteArray) g3).bind fun g5 =>
     (bN g5 (⟨#[41]⟩:ByteArray)).bind fun g6 =>
     some (g6,m1,g4)
    else
     some (g1,m1,d6)) fun ⟨g7,g8,g9⟩ =>
   (cC g8 (⟨#[98]⟩:ByteArray) g9).bind fun ⟨d7,a7,h0⟩ =>
   (bN a7.text (⟨#[108,101,116,32]⟩:ByteArray)).bind fun h1 =>
   (bN h1 d7).bind fun h2 =>
   (bN h2 (⟨#[32,61,32]⟩:ByteArray)).bind fun h3 =>
   (bN h3 g7).bind fun h4 =>
   (bN h4 (⟨#[59,32]⟩:ByteArray)).bind fun h5 =>
   (bO 16 [] a7.boxes).bind fun j7 =>
   (bO 16 a7.boxes [d7]).bind fun h6 =>
   some ((⟨(),a7.ints,h6,a7.n,h5,a7.wild⟩:Gl05Made),h0)
  else
   if (decide (r5 < 6))=true then
    (bN m1.text (⟨#[112,114,105,110,116,32]⟩:ByteArray)).bind fun h7 =>
    (cY m1 q6).bind fun ⟨h8,h9⟩ =>
    (bN h7 h8).bind fun i0 =>
    (bN i0 (⟨#[59,32]⟩:ByteArray)).bind fun i1 =>
    some ((⟨(),m1.ints,m1.boxes,m1.n,i1,m1.wild⟩:Gl05Made),h9)
   else
    if (r5 == 6)=true then
     (dN m1 m1.ints q6).bind fun ⟨i2,i3⟩ =>
     (bN m1.text i2).bind fun i4 =>
     (bN i4 (⟨#[32,61,32]⟩:ByteArray)).bind fun i5 =>
     (cY m1 i3).bind fun ⟨i6,i7⟩ =>
     (bN i5 i6).bind fun i8 =>
     (bN i8 (⟨#[59,32]⟩:ByteArray)).bind fun i9 =>
     some ((⟨(),m1.ints,m1.boxes,m1.n,i9,m1.wild⟩:Gl05Made),i7)
    else
     Option.bind (
      if (r5 == 7)=true then
       some (decide (a2 > 0))
      else
       some false) fun j0 =>
     if j0=true then
      (bN m1.text (⟨#[105,102,32]⟩:ByteArray)).bind fun j1 =>
      (aR m1 q6).bind fun ⟨j2,j3⟩ =>
      (bN j1 j2).bind fun j4 =>
      (bN j4 (⟨#[32,60,32]⟩:ByteArray)).bind fun j5 =>
      (aR m1 j3).bind fun ⟨a9,b0⟩ =>
      (bN j5 a9).bind fun b1 =>
      (bN b1 (⟨#[32]⟩:ByteArray)).bind fun b2 =>
      (a0 (⟨(),m1.ints,m1.boxes,m1.n,b2,m1.wild⟩:Gl05Made) a2 (⟨#[]⟩:ByteArray) b0).bind fun ⟨a3,b3⟩ =>
      (bN a3.text (⟨#[101,108,115,101,32]⟩:ByteArray)).bind fun b4 =>
      (a0 (⟨(),a3.ints,a3.boxes,a3.n,b4,a3.wild⟩:Gl05Made) a2 (⟨#[]⟩:ByteArray) b3).bind fun ⟨b5,b6⟩ =>
      some (b5,b6)
     else
      Option.bind (
       if (r5 == 8)=true then
        some (decide (a2 > 0))
       else
        some false) fun b7 =>
      if b7=true then
       (cC m1 (⟨#[119]⟩:ByteArray) q6).bind fun ⟨a5,a4,b8⟩ =>
       (bN a4.text (⟨#[108,101,116,32]⟩:ByteArray)).bind fun b9 =>
       (bN b9 a5).bind fun c0 =>
       (bN c0 (⟨#[32,61,32,48,59,32,119,104,105,108,101,32]⟩:ByteArray)).bind fun c1 =>
       (bN c1 a5).bind fun c2 =>
       (bN c2 (⟨#[32,60,32]⟩:ByteArray)).bind fun c3 =>
       (kR b8 [(⟨#[48]⟩:ByteArray),(⟨#[49]⟩:ByteArray),(⟨#[50]⟩:ByteArray),(⟨#[51]⟩:ByteArray)]).bind fun ⟨c4,c5⟩ =>
       (bN c3 c4).bind fun c6 =>
       (bN c6 (⟨#[32]⟩:ByteArray)).bind fun c7 =>
       (bN a5 (⟨#[32,61,32]⟩:ByteArray)).bind fun c8 =>
       (bN c8 a5).bind fun c9 =>
       (bN c9 (⟨#[32,43,32,49,59,32]⟩:ByteArray)).bind fun d0 =>
       (a0 (⟨(),a4.ints,a4.boxes,a4.n,c7,a4.wild⟩:Gl05Made) a2 d0 c5).bind fun ⟨d1,d2⟩ =>
       some (d1,d2)
      else
       (gU m1 a8 q6).bind fun ⟨d3,d4⟩ =>
       some (d3,d4)
def gI (a0:Gl05Made→Int→Bool→Gl01Cur→Option (Gl05Made × Gl01Cur)) (a1:Int):(Int × Gl05Made × Gl01Cur)→Option ((Int × Gl05Made × Gl01Cur) ⊕ (Gl05Made × Gl01Cur)):=fun ⟨a2,a3,a5⟩ =>
 (bX a5 3).bind fun ⟨a6,a4⟩ =>
 if (decide (a2 < a6))=true then
  (a0 a3 (IntKind.wrap .i64 (a1 - 1)) false a4).bind fun ⟨a7,a8⟩ =>
  some (Sum.inl (IntKind.wrap .i64 (a2 + 1),a7,a8))
 else
  some (Sum.inr (a3,a4))
def eV (a0:Gl05Made→Int→Bool→Gl01Cur→Option (Gl05Made × Gl01Cur)) (a1:Gl05Made→Int→ByteArray→Gl01Cur→Option (Gl05Made × Gl01Cur)) (m1:Gl05Made) (a2:Int) (a3:ByteArray) (m4:Gl01Cur):Option (Gl05Made × Gl01Cur) :=
 (bO 16 [] m1.ints).bind fun l5 =>
 (bO 16 [] m1.boxes).bind fun l6 =>
 (bN m1.text (⟨#[123,32]⟩:ByteArray)).bind fun t7 =>
 Option.bind (
  aI (gI a0 a2) ((0:Int),(⟨(),m1.ints,m1.boxes,m1.n,t7,m1.wild⟩:Gl05Made),m4)) fun ⟨a4,a5⟩ =>
 (bN a4.text a3).bind fun a6 =>
 (bN a6 (⟨#[125,32]⟩:ByteArray)).bind fun a7 =>
 some ((⟨(),m1.ints,m1.boxes,a4.n,a7,a4.wild⟩:Gl05Made),a5)
def aU:Nat→(Gl05Made→Int→Bool→Gl01Cur→Option (Gl05Made × Gl01Cur)) × (Gl05Made→Int→ByteArray→Gl01Cur→Option (Gl05Made × Gl01Cur))
 | 0=>(fun _ _ _ _=>none,fun _ _ _ _=>none)
 | n + 1=>(gB ((aU n).1) ((aU n).2),eV ((aU n).1) ((aU n).2))
def tP:Gl05Made→Int→Bool→Gl01Cur→Option (Gl05Made × Gl01Cur):=(aU bL).1
def nS (a0:Int):(Int × Gl05Made × Gl01Cur)→Option ((Int × Gl05Made × Gl01Cur) ⊕ (Gl05Made × Gl01Cur)):=fun ⟨i9,a1,a3⟩ =>
 (bX a3 a0).bind fun ⟨a4,a2⟩ =>
 if (decide (i9 < IntKind.wrap .i64 (2 + a4)))=true then
  (tP a1 2 true a2).bind fun ⟨a5,a6⟩ =>
  some (Sum.inl (IntKind.wrap .i64 (i9 + 1),a5,a6))
 else
  some (Sum.inr (a1,a2))
def pS (c1:Gl01Cur) (a0:Int):Option (ByteArray × Gl01Cur) :=
 (gV c1 6).bind fun ⟨r3,q4⟩ =>
 Option.bind (
  aI (nS a0) ((0:Int),(⟨(),[],[],0,(⟨#[102,110,32,115,117,109,40,97,58,32,105,110,116,44,32,98,58,32,105,110,116,41,32,45,62,32,105,110,116,32,123,32,114,101,116,32,97,32,43,32,98,59,32,125,32,102,110,32,115,104,111,119,40,114,58,32,38,98,111,120,41,32,123,32,112,114,105,110,116,32,42,114,59,32,125,32,102,110,32,98,117,109,112,40,109,58,32,38,109,117,116,32,98,111,120,44,32,110,58,32,105,110,116,41,32,123,32,42,109,32,61,32,42,109,32,43,32,110,59,32,125,32,102,110,32,109,97,107,101,40,110,58,32,105,110,116,41,32,45,62,32,98,111,120,32,123,32,108,101,116,32,118,32,61,32,110,101,119,32,110,59,32,114,101,116,32,118,59,32,125,32,102,110,32,101,97,116,40,98,58,32,98,111,120,41,32,123,32,112,114,105,110,116,32,42,98,59,32,125,32,102,110,32,109,97,105,110,40,41,32,123,32]⟩:ByteArray),r3⟩:Gl05Made),q4)) fun ⟨a1,a2⟩ =>
 (bN a1.text (⟨#[125]⟩:ByteArray)).bind fun a3 =>
 some (a3,a2)
def kL (c1:Gl01Cur):Option (GProgram × Gl01Cur) :=
 (pS c1 9).bind fun ⟨r2,q3⟩ =>
 (cT r2).bind fun ⟨r5,r6⟩ =>
 if (!r6)=true then
  (cT (⟨#[102,110,32,109,97,105,110,40,41,32,123,32,108,101,116,32,97,32,61,32,110,101,119,32,51,59,32,108,101,116,32,98,32,61,32,99,108,111,110,101,32,97,59,32,112,114,105,110,116,32,42,98,59,32,100,111,32,115,104,111,119,40,38,97,41,59,32,125]⟩:ByteArray)).bind fun ⟨a0,a2⟩ =>
  if ((a0.Nodes.length:Int) == 0)=true then
   (cT (⟨#[102,110,32,109,97,105,110,40,41,32,123,32,112,114,105,110,116,32,49,59,32,125]⟩:ByteArray)).bind fun ⟨a1,a3⟩ =>
   some (a1,q3)
  else
   some (a0,q3)
 else
  some (r5,q3)
def nC (c1:Gl01Cur):Option (GProgram × Gl01Cur) :=
 (bX c1 14).bind fun ⟨r2,q3⟩ =>
 (bX q3 200).bind fun ⟨r5,q6⟩ =>
 (kL q6).bind fun ⟨r8,q9⟩ =>
 (jH r8).bind fun a0 =>
 (aHq r5 (a0.Nodes.length:Int)).bind fun a1 =>
 if (r2 == 0)=true then
  (aP a0.Nodes a1).bind fun a7 =>
  bF (List.set a0.Nodes a1.toNat (⟨Int.tmod r5 22,a7.Num,a7.Name,a7.Kids⟩:GNode)) fun b4 =>
  some ((⟨b4,a0.Fns⟩:GProgram),q9)
 else
  if (r2 == 1)=true then
   (aP [(-1),5,1000000001] (Int.tmod r5 3)).bind fun b5 =>
   (aP a0.Nodes a1).bind fun a8 =>
   bF (List.set a0.Nodes a1.toNat (⟨a8.Kind,b5,a8.Name,a8.Kids⟩:GNode)) fun b6 =>
   some ((⟨b6,a0.Fns⟩:GProgram),q9)
  else
   if (r2 == 2)=true then
    (aP [(⟨#[]⟩:ByteArray),(⟨#[97]⟩:ByteArray),(⟨#[76,101,116]⟩:ByteArray),(⟨#[102,110]⟩:ByteArray)] (Int.tmod r5 4)).bind fun b7 =>
    (aP a0.Nodes a1).bind fun a9 =>
    bF (List.set a0.Nodes a1.toNat (⟨a9.Kind,a9.Num,b7,a9.Kids⟩:GNode)) fun b8 =>
    some ((⟨b8,a0.Fns⟩:GProgram),q9)
   else
    if (r2 == 3)=true then
     (aP a0.Nodes a1).bind fun a3 =>
     (bO 8 a3.Kids [Int.tmod r5 9]).bind fun b9 =>
     bF (List.set a0.Nodes a1.toNat (⟨a3.Kind,a3.Num,a3.Name,b9⟩:GNode)) fun c0 =>
     some ((⟨c0,a0.Fns⟩:GProgram),q9)
    else
     if (r2 == 4)=true then
      (aHq r5 (a0.Fns.length:Int)).bind fun b0 =>
      (aP a0.Fns b0).bind fun a4 =>
      bF (List.set a0.Fns b0.toNat (⟨a4.Name,a4.Params,a4.Res,a1,a4.Ret⟩:GFn)) fun c2 =>
      some ((⟨a0.Nodes,c2⟩:GProgram),q9)
     else
      if (r2 == 5)=true then
       (aHq r5 (a0.Fns.length:Int)).bind fun b1 =>
       (aP a0.Fns b1).bind fun a5 =>
       bF (List.set a0.Fns b1.toNat (⟨a5.Name,a5.Params,a5.Res,a5.Body,a1⟩:GFn)) fun c3 =>
       some ((⟨a0.Nodes,c3⟩:GProgram),q9)
      else
       if (r2 == 6)=true then
        (aHq r5 (a0.Fns.length:Int)).bind fun b2 =>
        (aP a0.Fns b2).bind fun a6 =>
        bF (List.set a0.Fns b2.toNat (⟨(⟨#[115,104,111,119]⟩:ByteArray),a6.Params,a6.Res,a6.Body,a6.Ret⟩:GFn)) fun c4 =>
        some ((⟨a0.Nodes,c4⟩:GProgram),q9)
       else
        if (r2 == 7)=true then
         (aHq r5 (a0.Fns.length:Int)).bind fun b3 =>
         (aP a0.Fns b3).bind fun a2 =>
         (bO 24 a2.Params [(⟨(⟨#[122,122]⟩:ByteArray),Int.tmod r5 6⟩:GParam)]).bind fun c5 =>
         bF (List.set a0.Fns b3.toNat (⟨a2.Name,c5,a2.Res,a2.Body,a2.Ret⟩:GFn)) fun c6 =>
         some ((⟨a0.Nodes,c6⟩:GProgram),q9)
        else
         some (a0,q9)
def pL (a0:List Int):(Int × Int)→Option ((Int × Int) ⊕ (Int)):=fun ⟨h5,i6⟩ =>
 Option.bind (
  if (decide (i6 < (a0.length:Int)))=true then
   some (decide (i6 < 4000))
  else
   some false) fun a1 =>
 if a1=true then
  (aP a0 i6).bind fun a2 =>
  some (Sum.inl (bits .and .i64 (IntKind.wrap .i64 ((IntKind.wrap .i64 ((IntKind.wrap .i64 (h5 * 131)) + (IntKind.wrap .i64 a2))) + 7)) 1073741823,IntKind.wrap .i64 (i6 + 1)))
 else
  some (Sum.inr h5)
def nD (a0:List Int):Option (Gl01Cur) :=
 Option.bind (
  aI (pL a0) (IntKind.wrap .i64 (78201 + (a0.length:Int)),(0:Int))) fun a1 =>
 some (⟨a0,0,a1⟩:Gl01Cur)
def pR (a0:List Int):Option (GProgram × Int) :=
 (nD a0).bind fun r2 =>
 (bX r2 5).bind fun ⟨r4,q5⟩ =>
 (nC q5).bind fun ⟨r7,q8⟩ =>
 some (r7,IntKind.wrap .i64 (r4 - 1))
def jV (a0:List Int):Option (GProgram × Int) :=
 (pR a0).bind fun ⟨r2,r3⟩ =>
 some (r2,r3)
def iT (a0:List Int):Option (GProgram) :=
 (nD a0).bind fun r2 =>
 (nC r2).bind fun ⟨r4,q5⟩ =>
 some r4
def mT (l1:List Int) (n2:Int):Int→Option ((Int) ⊕ ((Unit) ⊕ (Bool))):=fun v6 =>
 if (decide (v6 < (l1.length:Int)))=true then
  (aP l1 v6).bind fun a0 =>
  if (a0 == n2)=true then
   some (Sum.inr (Sum.inr true))
  else
   some (Sum.inl (IntKind.wrap .i64 (v6 + 1)))
 else
  some (Sum.inr (Sum.inl ()))
def gF (l1:List Int) (n2:Int):Option (Bool) :=
 Option.bind (
  aI (mT l1 n2) (0:Int)) fun j5 =>
 match j5 with
 | Sum.inr z=>some z
 | Sum.inl () =>
  some false
def eQ (n1:Int) (a1:Int) (a0:Int):Option (Bool) :=
 Option.bind (
  if (decide (n1 ≥ a1))=true then
   some (decide (n1 ≤ a0))
  else
   some false) fun v8 =>
 some v8
def uC (p1:GProgram) (a0:Int):Option (List Int) :=
 (eQ a0 0 (IntKind.wrap .i64 ((p1.Fns.length:Int) - 1))).bind fun r3 =>
 if (!r3)=true then
  some []
 else
  (aP p1.Fns a0).bind fun e7 =>
  (aP p1.Fns a0).bind fun e8 =>
  if (e8.Ret != (-1))=true then
   (aP p1.Fns a0).bind fun a1 =>
   (bO 8 [e7.Body] [a1.Ret]).bind fun a2 =>
   some a2
  else
   some [e7.Body]
def lZ (b1:Int):Option (Bool) :=
 Option.bind (
  if (decide (b1 ≥ 97))=true then
   some (decide (b1 ≤ 122))
  else
   some false) fun v6 =>
 some v6
def oI (b1:Int):Option (Bool) :=
 Option.bind (
  if (decide (b1 ≥ 48))=true then
   some (decide (b1 ≤ 57))
  else
   some false) fun v6 =>
 some v6
def rA (s1:ByteArray) (r6:List ByteArray):Int→Option ((Int) ⊕ ((Unit) ⊕ (Bool))):=fun v8 =>
 if (decide (v8 < (r6.length:Int)))=true then
  (aP r6 v8).bind fun a0 =>
  if (sEq a0 s1)=true then
   some (Sum.inr (Sum.inr true))
  else
   some (Sum.inl (IntKind.wrap .i64 (v8 + 1)))
 else
  some (Sum.inr (Sum.inl ()))
def xS (s1:ByteArray) (a0:ByteArray):Option (Bool) :=
 Option.bind (
  (strings_Split a0 (⟨#[32]⟩:ByteArray)).bind fun r6 =>
  aI (rA s1 r6) (0:Int)) fun j5 =>
 match j5 with
 | Sum.inr z=>some z
 | Sum.inl () =>
  some false
def qK (s1:ByteArray):Option (Bool) :=
 (xS s1 (⟨#[102,110,32,108,101,116,32,105,102,32,101,108,115,101,32,119,104,105,108,101,32,112,114,105,110,116,32,100,111,32,110,101,119,32,99,108,111,110,101,32,109,117,116,32,105,110,112,117,116,32,105,110,116,32,98,111,120,32,114,101,116]⟩:ByteArray)).bind fun r2 =>
 some r2
def mZ (s1:ByteArray):Int→Option ((Int) ⊕ ((Unit) ⊕ (Bool))):=fun a0 =>
 if (decide (a0 < (s1.size:Int)))=true then
  Option.bind (
   (sAt s1 a0).bind fun a1 =>
   (lZ a1).bind fun a2 =>
   if (!a2)=true then
    (oI a1).bind fun a3 =>
    some (!a3)
   else
    some false) fun a4 =>
  if a4=true then
   some (Sum.inr (Sum.inr false))
  else
   some (Sum.inl (IntKind.wrap .i64 (a0 + 1)))
 else
  some (Sum.inr (Sum.inl ()))
def nI (s1:ByteArray):Option (Bool) :=
 Option.bind (
  (eQ (s1.size:Int) 1 8).bind fun r4 =>
  if (!r4)=true then
   some true
  else
   (sAt s1 0).bind fun c8 =>
   (lZ c8).bind fun r9 =>
   some (!r9)) fun a0 =>
 if a0=true then
  some false
 else
  Option.bind (
   aI (mZ s1) (0:Int)) fun a1 =>
  match a1 with
  | Sum.inr z=>some z
  | Sum.inl () =>
   (qK s1).bind fun a2 =>
   some (!a2)
def uB (a0:Int):Option (Int × Int) :=
 Option.bind (
  if (a0 == 8)=true then
   some (a0 == 8)
  else
   if (a0 == 13)=true then
    some (a0 == 13)
   else
    if (a0 == 14)=true then
     some (a0 == 14)
    else
     if (a0 == 15)=true then
      some (a0 == 15)
     else
      if (a0 == 18)=true then
       some (a0 == 18)
      else
       some (a0 == 19)) fun a1 =>
 if a1=true then
  some (1,1)
 else
  Option.bind (
   if (a0 == 9)=true then
    some (a0 == 9)
   else
    if (a0 == 10)=true then
     some (a0 == 10)
    else
     if (a0 == 11)=true then
      some (a0 == 11)
     else
      some (a0 == 17)) fun a2 =>
  if a2=true then
   some (2,2)
  else
   if (a0 == 16)=true then
    some (3,3)
   else
    if (a0 == 12)=true then
     some (0,3)
    else
     if (a0 == 20)=true then
      some (0,12)
     else
      some (0,0)
def nO (a0:Int):Option (Bool) :=
 (eQ a0 1 12).bind fun r2 =>
 some r2
def rT (a0:Int):Option (Bool) :=
 (eQ a0 13 19).bind fun r2 =>
 some r2
def qE (a0:Int) (i2:Int) (a1:Int):Option (Bool) :=
 if (a0 == 20)=true then
  (rT a1).bind fun r6 =>
  some r6
 else
  Option.bind (
   if (a0 == 16)=true then
    some (decide (i2 > 0))
   else
    if (a0 == 17)=true then
     some (decide (i2 > 0))
    else
     some false) fun a2 =>
  if a2=true then
   some (a1 == 20)
  else
   if (a0 == 19)=true then
    some (a1 == 12)
   else
    (nO a1).bind fun a3 =>
    some a3
def qG (a0:Int):Option (Bool) :=
 Option.bind (
  (eQ a0 2 6).bind fun r4 =>
  if r4=true then
   some true
  else
   (eQ a0 12 15).bind fun r8 =>
   some r8) fun a1 =>
 some a1
def mY (a0:List GNode) (k2:Int) (e7:GNode):Int→Option ((Int) ⊕ ((Unit) ⊕ (Bool))):=fun a1 =>
 if (decide (a1 < (e7.Kids.length:Int)))=true then
  (aP e7.Kids a1).bind fun a2 =>
  Option.bind (
   (eQ a2 0 (IntKind.wrap .i64 (k2 - 1))).bind fun a3 =>
   if (!a3)=true then
    some true
   else
    (eS e7.Kids 0 a1).bind fun a4 =>
    (gF a4 a2).bind fun a5 =>
    if a5=true then
     some true
    else
     (aP a0 a2).bind fun a6 =>
     (qE e7.Kind a1 a6.Kind).bind fun a7 =>
     some (!a7)) fun a8 =>
  if a8=true then
   some (Sum.inr (Sum.inr false))
  else
   some (Sum.inl (IntKind.wrap .i64 (a1 + 1)))
 else
  some (Sum.inr (Sum.inl ()))
def rX (a0:List GNode) (k2:Int):Option (Bool) :=
 (eQ k2 0 (IntKind.wrap .i64 ((a0.length:Int) - 1))).bind fun r3 =>
 if (!r3)=true then
  some false
 else
  (aP a0 k2).bind fun e7 =>
  (uB e7.Kind).bind fun ⟨r8,r9⟩ =>
  Option.bind (
   (eQ e7.Kind 1 20).bind fun a1 =>
   if (!a1)=true then
    some true
   else
    (eQ (e7.Kids.length:Int) r8 r9).bind fun a2 =>
    some (!a2)) fun a3 =>
  if a3=true then
   some false
  else
   Option.bind (
    aI (mY a0 k2 e7) (0:Int)) fun a4 =>
   match a4 with
   | Sum.inr z=>some z
   | Sum.inl () =>
    Option.bind (
     if (e7.Kind == 1)=true then
      (eQ e7.Num 0 1000000000).bind fun a5 =>
      if (!a5)=true then
       some true
      else
       some false
     else
      some (e7.Num != 0)) fun a6 =>
    if a6=true then
     some false
    else
     (qG e7.Kind).bind fun a7 =>
     if a7=true then
      (nI e7.Name).bind fun a8 =>
      some a8
     else
      some (sEq e7.Name (⟨#[]⟩:ByteArray))
def kA (a0:List Int) (a3:GNode):(Int × Int)→Option ((Int × Int) ⊕ (Int)):=fun ⟨a1,a2⟩ =>
 if (decide (a2 < (a3.Kids.length:Int)))=true then
  (aP a3.Kids a2).bind fun a5 =>
  (aP a0 a5).bind fun a4 =>
  some (Sum.inl (if IntKind.wrap .i64 (a4 + 1) > a1 then IntKind.wrap .i64 (a4 + 1) else a1,IntKind.wrap .i64 (a2 + 1)))
 else
  some (Sum.inr a1)
def mU (a0:List GNode) (k2:Int):((List Int) × Int)→Option (((List Int) × Int) ⊕ ((List Int) ⊕ ((List Int) × Bool))):=fun ⟨a1,a3⟩ =>
 if (decide (a3 ≤ k2))=true then
  Option.bind (
   (rX a0 a3).bind fun a5 =>
   if (!a5)=true then
    some (Sum.inr (Sum.inr (Sum.inr ([],false))))
   else
    Option.bind (
     (aP a0 a3).bind fun a6 =>
     aI (kA a1 a6) ((1:Int),(0:Int))) fun a4 =>
    if (decide (a4 > 10))=true then
     some (Sum.inr (Sum.inr (Sum.inr ([],false))))
    else
     (bO 8 a1 [a4]).bind fun a7 =>
     some (Sum.inl a7)) fun a8 =>
  match a8 with
  | Sum.inr z=>some z
  | Sum.inl a2 =>
   some (Sum.inl (a2,IntKind.wrap .i64 (a3 + 1)))
 else
  some (Sum.inr (Sum.inl a1))
def rU (a0:List GNode) (k2:Int):Option ((List Int) × Bool) :=
 (eQ k2 0 (IntKind.wrap .i64 ((a0.length:Int) - 1))).bind fun r3 =>
 if (!r3)=true then
  some ([],false)
 else
  Option.bind (
   aI (mU a0 k2) ([],(0:Int))) fun j9 =>
  match j9 with
  | Sum.inr z=>some z
  | Sum.inl a1 =>
   some (a1,true)
def pJ (a0:List GNode) (k2:Int):Option (Int) :=
 (rU a0 k2).bind fun ⟨r3,r4⟩ =>
 if (!r4)=true then
  some 0
 else
  (aP r3 k2).bind fun e8 =>
  some e8
def oG (a2:GNode):((List Int) × Int)→Option (((List Int) × Int) ⊕ (List Int)):=fun ⟨a0,a1⟩ =>
 if (decide (a1 < (a2.Kids.length:Int)))=true then
  (aP a2.Kids a1).bind fun a3 =>
  (gF a0 a3).bind fun a4 =>
  if (!a4)=true then
   (bO 8 a0 [a3]).bind fun a5 =>
   some (Sum.inl (a5,IntKind.wrap .i64 (a1 + 1)))
  else
   some (Sum.inl (a0,IntKind.wrap .i64 (a1 + 1)))
 else
  some (Sum.inr a0)
def oH (a1:List GNode):((List Int) × Int)→Option (((List Int) × Int) ⊕ (List Int)):=fun ⟨a0,i7⟩ =>
 if (decide (i7 < (a0.length:Int)))=true then
  Option.bind (
   (aP a0 i7).bind fun a3 =>
   (aP a1 a3).bind fun a4 =>
   aI (oG a4) (a0,(0:Int))) fun a2 =>
  some (Sum.inl (a2,IntKind.wrap .i64 (i7 + 1)))
 else
  some (Sum.inr a0)
def uA (a0:List GNode) (k2:Int):Option (List Int) :=
 Option.bind (
  aI (oH a0) ([k2],(0:Int))) fun a1 =>
 (sort_Ints a1).bind fun a2 =>
 some a2
def rD (p1:GProgram) (k2:Int):Option (List Int) :=
 (pJ p1.Nodes k2).bind fun r3 =>
 if (r3 == 0)=true then
  some []
 else
  (uA p1.Nodes k2).bind fun r7 =>
  some r7
def lJ (a2:List Int):((List Int) × Int)→Option (((List Int) × Int) ⊕ (List Int)):=fun ⟨a0,a1⟩ =>
 if (decide (a1 < (a2.length:Int)))=true then
  (aP a2 a1).bind fun a3 =>
  (gF a0 a3).bind fun a4 =>
  if (!a4)=true then
   (bO 8 a0 [a3]).bind fun a5 =>
   some (Sum.inl (a5,IntKind.wrap .i64 (a1 + 1)))
  else
   some (Sum.inl (a0,IntKind.wrap .i64 (a1 + 1)))
 else
  some (Sum.inr a0)
def iY (p1:GProgram) (r6:List Int):((List Int) × Int)→Option (((List Int) × Int) ⊕ (List Int)):=fun ⟨a0,v9⟩ =>
 if (decide (v9 < (r6.length:Int)))=true then
  Option.bind (
   (aP r6 v9).bind fun a2 =>
   (rD p1 a2).bind fun a3 =>
   aI (lJ a3) (a0,(0:Int))) fun a1 =>
  some (Sum.inl (a1,IntKind.wrap .i64 (v9 + 1)))
 else
  some (Sum.inr a0)
def qI (p1:GProgram) (a1:Int):Option (List Int) :=
 Option.bind (
  (uC p1 a1).bind fun r6 =>
  aI (iY p1 r6) ([],(0:Int))) fun a0 =>
 (sort_Ints a0).bind fun a2 =>
 some a2
def qL (p1:GProgram) (a0:ByteArray):Int→Option ((Int) ⊕ ((Unit) ⊕ (Int))):=fun v6 =>
 if (decide (v6 < (p1.Fns.length:Int)))=true then
  (aP p1.Fns v6).bind fun a1 =>
  if (sEq a1.Name a0)=true then
   some (Sum.inr (Sum.inr v6))
  else
   some (Sum.inl (IntKind.wrap .i64 (v6 + 1)))
 else
  some (Sum.inr (Sum.inl ()))
def qM (p1:GProgram) (a0:ByteArray):Option (Int) :=
 Option.bind (
  aI (qL p1 a0) (0:Int)) fun j5 =>
 match j5 with
 | Sum.inr z=>some z
 | Sum.inl () =>
  some (-1)
def lM (p1:GProgram) (r6:List Int):((List Int) × Int)→Option (((List Int) × Int) ⊕ (List Int)):=fun ⟨a0,v9⟩ =>
 if (decide (v9 < (r6.length:Int)))=true then
  (aP r6 v9).bind fun a3 =>
  (aP p1.Nodes a3).bind fun a2 =>
  if (a2.Kind == 12)=true then
   (qM p1 a2.Name).bind fun a1 =>
   Option.bind (
    if (decide (a1 ≥ 0))=true then
     (gF a0 a1).bind fun a4 =>
     some (!a4)
    else
     some false) fun a5 =>
   if a5=true then
    (bO 8 a0 [a1]).bind fun a6 =>
    some (Sum.inl (a6,IntKind.wrap .i64 (v9 + 1)))
   else
    some (Sum.inl (a0,IntKind.wrap .i64 (v9 + 1)))
  else
   some (Sum.inl (a0,IntKind.wrap .i64 (v9 + 1)))
 else
  some (Sum.inr a0)
def jJ (p1:GProgram) (a1:Int):Option (List Int) :=
 Option.bind (
  (qI p1 a1).bind fun r6 =>
  aI (lM p1 r6) ([],(0:Int))) fun a0 =>
 some a0
def iE (a2:List Int):((List Int) × Int)→Option (((List Int) × Int) ⊕ (List Int)):=fun ⟨a0,a1⟩ =>
 if (decide (a1 < (a2.length:Int)))=true then
  (aP a2 a1).bind fun a3 =>
  (gF a0 a3).bind fun a4 =>
  if (!a4)=true then
   (bO 8 a0 [a3]).bind fun a5 =>
   some (Sum.inl (a5,IntKind.wrap .i64 (a1 + 1)))
  else
   some (Sum.inl (a0,IntKind.wrap .i64 (a1 + 1)))
 else
  some (Sum.inr a0)
def iF (p1:GProgram):((List Int) × Int)→Option (((List Int) × Int) ⊕ (List Int)):=fun ⟨a0,a2⟩ =>
 if (decide (a2 < (a0.length:Int)))=true then
  Option.bind (
   (aP a0 a2).bind fun a3 =>
   (jJ p1 a3).bind fun a4 =>
   aI (iE a4) (a0,(0:Int))) fun a1 =>
  some (Sum.inl (a1,IntKind.wrap .i64 (a2 + 1)))
 else
  some (Sum.inr a0)
def gG (p1:GProgram) (a1:Int):Option (List Int) :=
 (eQ a1 0 (IntKind.wrap .i64 ((p1.Fns.length:Int) - 1))).bind fun r3 =>
 if (!r3)=true then
  some []
 else
  Option.bind (
   aI (iF p1) ([a1],(0:Int))) fun a0 =>
  (sort_Ints a0).bind fun a2 =>
  some a2
def qH (f2:GFn):Int→Option ((Int) ⊕ ((Unit) ⊕ (Bool))):=fun a0 =>
 if (decide (a0 < (f2.Params.length:Int)))=true then
  (aP f2.Params a0).bind fun a1 =>
  Option.bind (
   (nI a1.Name).bind fun a2 =>
   if (!a2)=true then
    some true
   else
    (eQ a1.Typ 1 4).bind fun a3 =>
    some (!a3)) fun a4 =>
  if a4=true then
   some (Sum.inr (Sum.inr false))
  else
   some (Sum.inl (IntKind.wrap .i64 (a0 + 1)))
 else
  some (Sum.inr (Sum.inl ()))
def wM (p1:GProgram) (f2:GFn):Option (Bool) :=
 Option.bind (
  (nI f2.Name).bind fun r5 =>
  if (!r5)=true then
   some true
  else
   if (decide ((f2.Params.length:Int) > 3))=true then
    some true
   else
    if (f2.Res != 0)=true then
     if (f2.Res != 1)=true then
      some (f2.Res != 2)
     else
      some false
    else
     some false) fun a0 =>
 if a0=true then
  some false
 else
  Option.bind (
   aI (qH f2) (0:Int)) fun a1 =>
  match a1 with
  | Sum.inr z=>some z
  | Sum.inl () =>
   Option.bind (
    (eQ f2.Body 0 (IntKind.wrap .i64 ((p1.Nodes.length:Int) - 1))).bind fun a2 =>
    if (!a2)=true then
     some true
    else
     (aP p1.Nodes f2.Body).bind fun a3 =>
     some (a3.Kind != 20)) fun a4 =>
   if a4=true then
    some false
   else
    if (f2.Res == 0)=true then
     some (f2.Ret == (-1))
    else
     Option.bind (
      (eQ f2.Ret 0 (IntKind.wrap .i64 ((p1.Nodes.length:Int) - 1))).bind fun a5 =>
      if a5=true then
       (aP p1.Nodes f2.Ret).bind fun a6 =>
       (nO a6.Kind).bind fun a7 =>
       some a7
      else
       some false) fun a8 =>
     some a8
def jB (a2:GNode):((List Int) × Int)→Option (((List Int) × Int) ⊕ (List Int)):=fun ⟨a0,a1⟩ =>
 if (decide (a1 < (a2.Kids.length:Int)))=true then
  (aP a2.Kids a1).bind fun a3 =>
  (aP a0 a3).bind fun a4 =>
  bF (List.set a0 a3.toNat (IntKind.wrap .i64 (a4 + 1))) fun a5 =>
  some (Sum.inl (a5,IntKind.wrap .i64 (a1 + 1)))
 else
  some (Sum.inr a0)
def jC (p1:GProgram):((List Int) × Int)→Option (((List Int) × Int) ⊕ (List Int)):=fun ⟨a0,a2⟩ =>
 if (decide (a2 < (p1.Nodes.length:Int)))=true then
  Option.bind (
   (aP p1.Nodes a2).bind fun a3 =>
   aI (jB a3) (a0,(0:Int))) fun a1 =>
  some (Sum.inl (a1,IntKind.wrap .i64 (a2 + 1)))
 else
  some (Sum.inr a0)
def bK (a1:GFn):((List Int) × Int)→Option (((List Int) × Int) ⊕ ((List Int) ⊕ (((List Int) × Int) ⊕ ((List Int) ⊕ (Bool))))):=fun ⟨a0,a2⟩ =>
 if (decide (a2 < ([a1.Body,a1.Ret].length:Int)))=true then
  (aP [a1.Body,a1.Ret] a2).bind fun a3 =>
  if (decide (a3 < 0))=true then
   some (Sum.inl (a0,IntKind.wrap .i64 (a2 + 1)))
  else
   (aP a0 a3).bind fun a4 =>
   if (a4 != 0)=true then
    some (Sum.inr (Sum.inr (Sum.inr (Sum.inr false))))
   else
    (aP a0 a3).bind fun a6 =>
    bF (List.set a0 a3.toNat (-1)) fun a5 =>
    some (Sum.inl (a5,IntKind.wrap .i64 (a2 + 1)))
 else
  some (Sum.inr (Sum.inl a0))
def fX (p1:GProgram):((List Int) × Int)→Option (((List Int) × Int) ⊕ ((List Int) ⊕ (Bool))):=fun ⟨a0,a2⟩ =>
 if (decide (a2 < (p1.Fns.length:Int)))=true then
  Option.bind (
   (aP p1.Fns a2).bind fun a3 =>
   Option.bind (
    (wM p1 a3).bind fun a4 =>
    if (!a4)=true then
     some true
    else
     (qM p1 a3.Name).bind fun a5 =>
     some (a5 != a2)) fun a6 =>
   if a6=true then
    some (Sum.inr (Sum.inr (Sum.inr false)))
   else
    aI (bK a3) (a0,(0:Int))) fun a7 =>
  match a7 with
  | Sum.inr z=>some z
  | Sum.inl a1 =>
   some (Sum.inl (a1,IntKind.wrap .i64 (a2 + 1)))
 else
  some (Sum.inr (Sum.inl a0))
def jA (a0:List Int):Int→Option ((Int) ⊕ ((Unit) ⊕ (Bool))):=fun a2 =>
 if (decide (a2 < (a0.length:Int)))=true then
  (aP a0 a2).bind fun a1 =>
  Option.bind (
   if (a1 != 1)=true then
    some (a1 != (-1))
   else
    some false) fun a3 =>
  if a3=true then
   some (Sum.inr (Sum.inr false))
  else
   some (Sum.inl (IntKind.wrap .i64 (a2 + 1)))
 else
  some (Sum.inr (Sum.inl ()))
def kB (p1:GProgram):Option (Bool) :=
 Option.bind (
  (eQ (p1.Nodes.length:Int) 1 300).bind fun r4 =>
  if (!r4)=true then
   some true
  else
   (eQ (p1.Fns.length:Int) 1 8).bind fun r8 =>
   if (!r8)=true then
    some true
   else
    (pJ p1.Nodes (IntKind.wrap .i64 ((p1.Nodes.length:Int) - 1))).bind fun a2 =>
    some (a2 == 0)) fun a3 =>
 if a3=true then
  some false
 else
  (mkI 8 (p1.Nodes.length:Int) 0).bind fun a4 =>
  Option.bind (
   aI (jC p1) (a4,(0:Int))) fun a0 =>
  Option.bind (
   aI (fX p1) (a0,(0:Int))) fun a5 =>
  match a5 with
  | Sum.inr z=>some z
  | Sum.inl a1 =>
   Option.bind (
    aI (jA a1) (0:Int)) fun a6 =>
   match a6 with
   | Sum.inr z=>some z
   | Sum.inl () =>
    some true
def nH (f1:GFn):Option (GFn) :=
 (bO 24 [] f1.Params).bind fun l2 =>
 some f1
def oJ (l1:List Int):Option (List Int) :=
 (bO 8 [] l1).bind fun l2 =>
 some l1
def iZ (l1:List GNode):((List GNode) × Int)→Option (((List GNode) × Int) ⊕ (List GNode)):=fun ⟨a0,v6⟩ =>
 if (decide (v6 < (l1.length:Int)))=true then
  (aP l1 v6).bind fun a1 =>
  (oJ a1.Kids).bind fun a2 =>
  (bO 56 a0 [(⟨a1.Kind,a1.Num,a1.Name,a2⟩:GNode)]).bind fun a3 =>
  some (Sum.inl (a3,IntKind.wrap .i64 (v6 + 1)))
 else
  some (Sum.inr a0)
def mV (l1:List GNode):Option (List GNode) :=
 Option.bind (
  aI (iZ l1) ([],(0:Int))) fun a0 =>
 some a0
def eR (p1:GProgram):(Int × GProgram)→Option ((Int × GProgram) ⊕ (GProgram)):=fun ⟨v7,v8⟩ =>
 if (decide (v7 < (p1.Fns.length:Int)))=true then
  (aP p1.Fns v7).bind fun a0 =>
  (nH a0).bind fun a1 =>
  (bO 64 v8.Fns [a1]).bind fun a2 =>
  some (Sum.inl (IntKind.wrap .i64 (v7 + 1),(⟨v8.Nodes,a2⟩:GProgram)))
 else
  some (Sum.inr v8)
def fG (p1:GProgram):Option (GProgram) :=
 (mV p1.Nodes).bind fun r2 =>
 Option.bind (
  aI (eR p1) ((0:Int),(⟨r2,[]⟩:GProgram))) fun a0 =>
 some a0
def dZ (a0:Gpacker→Int→Int→Option (Int × Gpacker)) (a2:Int) (a5:GNode):((List Int) × Int × Gpacker)→Option (((List Int) × Int × Gpacker) ⊕ (((List Int) × Gpacker) ⊕ (Int × Gpacker))):=fun ⟨a1,a3,a6⟩ =>
 if (decide (a3 < (a5.Kids.length:Int)))=true then
  (aP a5.Kids a3).bind fun a7 =>
  (a0 a6 a7 (IntKind.wrap .i64 (a2 + 1))).bind fun ⟨a8,a4⟩ =>
  if a4.bad=true then
   some (Sum.inr (Sum.inr ((-1),a4)))
  else
   (bO 8 a1 [a8]).bind fun a9 =>
   some (Sum.inl (a9,IntKind.wrap .i64 (a3 + 1),a4))
 else
  some (Sum.inr (Sum.inl (a1,a6)))
def fW (a0:Gpacker→Int→Int→Option (Int × Gpacker)) (x1:Gpacker) (k2:Int) (a1:Int):Option (Int × Gpacker) :=
 Option.bind (
  if x1.bad=true then
   some true
  else
   (eQ k2 0 (IntKind.wrap .i64 ((x1.from_.length:Int) - 1))).bind fun r8 =>
   if (!r8)=true then
    some true
   else
    if (decide (a1 > 10))=true then
     some true
    else
     some (decide ((x1.to_.length:Int) ≥ 300))) fun a6 =>
 if a6=true then
  some ((-1),(⟨x1.from_,x1.to_,true⟩:Gpacker))
 else
  (aP x1.from_ k2).bind fun a4 =>
  Option.bind (
   aI (dZ a0 a1 a4) ([],(0:Int),x1)) fun a7 =>
  match a7 with
  | Sum.inr z=>some z
  | Sum.inl (a2,a3) =>
   if (decide ((a3.to_.length:Int) ≥ 300))=true then
    some ((-1),(⟨a3.from_,a3.to_,true⟩:Gpacker))
   else
    (bO 56 a3.to_ [(⟨a4.Kind,a4.Num,a4.Name,a2⟩:GNode)]).bind fun a5 =>
    some (IntKind.wrap .i64 ((a5.length:Int) - 1),(⟨a3.from_,a5,a3.bad⟩:Gpacker))
def cE:Nat→Gpacker→Int→Int→Option (Int × Gpacker)
 | 0=>fun _ _ _=>none
 | n + 1=>fW (cE n)
def iX:Gpacker→Int→Int→Option (Int × Gpacker):=(cE bL)
def dD (p1:GProgram):(Int × Gpacker × GProgram)→Option ((Int × Gpacker × GProgram) ⊕ (Gpacker × GProgram)):=fun ⟨v5,v6,v7⟩ =>
 if (decide (v5 < (p1.Fns.length:Int)))=true then
  (aP p1.Fns v5).bind fun a3 =>
  (nH a3).bind fun a0 =>
  (iX v6 a0.Body 1).bind fun ⟨a1,a2⟩ =>
  Option.bind (
   if (decide (a0.Ret ≥ 0))=true then
    (iX a2 a0.Ret 1).bind fun ⟨a4,a5⟩ =>
    some (a5,(⟨a0.Name,a0.Params,a0.Res,a1,a4⟩:GFn))
   else
    some (a2,(⟨a0.Name,a0.Params,a0.Res,a1,a0.Ret⟩:GFn))) fun ⟨a6,a7⟩ =>
  (bO 64 v7.Fns [a7]).bind fun a8 =>
  some (Sum.inl (IntKind.wrap .i64 (v5 + 1),a6,(⟨v7.Nodes,a8⟩:GProgram)))
 else
  some (Sum.inr (v6,v7))
def rW (p1:GProgram):Option (GProgram × Bool) :=
 Option.bind (
  aI (dD p1) ((0:Int),(⟨p1.Nodes,[],false⟩:Gpacker),(⟨[],[]⟩:GProgram))) fun ⟨a0,a1⟩ =>
 if a0.bad=true then
  some ((⟨[],[]⟩:GProgram),false)
 else
  some ((⟨a0.to_,a1.Fns⟩:GProgram),true)
def gP (p1:GProgram) (a2:List Int):(Int × GProgram)→Option ((Int × GProgram) ⊕ (GProgram)):=fun ⟨a0,a1⟩ =>
 if (decide (a0 < (a2.length:Int)))=true then
  (aP a2 a0).bind fun a3 =>
  (aP p1.Fns a3).bind fun a4 =>
  (nH a4).bind fun a5 =>
  (bO 64 a1.Fns [a5]).bind fun a6 =>
  some (Sum.inl (IntKind.wrap .i64 (a0 + 1),(⟨a1.Nodes,a6⟩:GProgram)))
 else
  some (Sum.inr a1)
def oL (p1:GProgram):Option (GProgram × Bool) :=
 (kB p1).bind fun r2 =>
 if (!r2)=true then
  (fG p1).bind fun r6 =>
  some (r6,false)
 else
  (fG p1).bind fun r8 =>
  Option.bind (
   (gG p1 (IntKind.wrap .i64 ((p1.Fns.length:Int) - 1))).bind fun a0 =>
   aI (gP p1 a0) ((0:Int),(⟨r8.Nodes,[]⟩:GProgram))) fun a1 =>
  (rW a1).bind fun ⟨a2,a3⟩ =>
  if (!a3)=true then
   (fG p1).bind fun a4 =>
   some (a4,false)
  else
   some (a2,true)
def rN (a0:List GNode) (k2:Int):Option (Int) :=
 (cF k2 0 (IntKind.wrap .i64 ((a0.length:Int) - 1))).bind fun r3 =>
 if (!r3)=true then
  some 0
 else
  (lR a0 k2).bind fun r7 =>
  (aP r7 k2).bind fun e9 =>
  some e9
def iR (a0:(List GNode)→Int→(List Bool)→Option (List Bool)) (a1:List GNode) (k2:Int):((List Bool) × Int)→Option (((List Bool) × Int) ⊕ (List Bool)):=fun ⟨a2,a3⟩ =>
 (aP a1 k2).bind fun a4 =>
 if (decide (a3 < (a4.Kids.length:Int)))=true then
  (aP a1 k2).bind fun a5 =>
  (aP a5.Kids a3).bind fun a6 =>
  (a0 a1 a6 a2).bind fun a7 =>
  some (Sum.inl (a7,IntKind.wrap .i64 (a3 + 1)))
 else
  some (Sum.inr a2)
def mJ (a0:(List GNode)→Int→(List Bool)→Option (List Bool)) (a2:List GNode) (k2:Int) (a1:List Bool):Option (List Bool) :=
 (aP a1 k2).bind fun e4 =>
 if e4=true then
  some a1
 else
  (aP a1 k2).bind fun e7 =>
  bF (List.set a1 k2.toNat true) fun l8 =>
  aI (iR a0 a2 k2) (l8,(0:Int))
def fF:Nat→(List GNode)→Int→(List Bool)→Option (List Bool)
 | 0=>fun _ _ _=>none
 | n + 1=>mJ (fF n)
def sQ:(List GNode)→Int→(List Bool)→Option (List Bool):=(fF bL)
def nY (q8:List Bool):((List Int) × Int)→Option (((List Int) × Int) ⊕ (List Int)):=fun ⟨a0,a1⟩ =>
 if (decide (a1 < (q8.length:Int)))=true then
  (aP q8 a1).bind fun a2 =>
  if a2=true then
   (bO 8 a0 [a1]).bind fun a3 =>
   some (Sum.inl (a3,IntKind.wrap .i64 (a1 + 1)))
  else
   some (Sum.inl (a0,IntKind.wrap .i64 (a1 + 1)))
 else
  some (Sum.inr a0)
def pG (p1:GProgram) (k2:Int):Option (List Int) :=
 (rN p1.Nodes k2).bind fun r3 =>
 if (r3 == 0)=true then
  some []
 else
  (mkI 1 (p1.Nodes.length:Int) false).bind fun l7 =>
  (sQ p1.Nodes k2 l7).bind fun q8 =>
  Option.bind (
   aI (nY q8) ([],(0:Int))) fun a0 =>
  some a0
def dA (r9:List Int) (a3:List Int):((List Int) × Int × Int)→Option (((List Int) × Int × Int) ⊕ (List Int)):=fun ⟨a0,a1,a2⟩ =>
 Option.bind (
  if (decide (a1 < (r9.length:Int)))=true then
   some true
  else
   some (decide (a2 < (a3.length:Int)))) fun a4 =>
 if a4=true then
  Option.bind (
   if (decide (a2 ≥ (a3.length:Int)))=true then
    some true
   else
    if (decide (a1 < (r9.length:Int)))=true then
     (aP r9 a1).bind fun a5 =>
     (aP a3 a2).bind fun a6 =>
     some (decide (a5 < a6))
    else
     some false) fun a7 =>
  if a7=true then
   (aP r9 a1).bind fun a8 =>
   (bO 8 a0 [a8]).bind fun a9 =>
   some (Sum.inl (a9,IntKind.wrap .i64 (a1 + 1),a2))
  else
   Option.bind (
    Option.bind (
     if (decide (a1 < (r9.length:Int)))=true then
      (aP r9 a1).bind fun b0 =>
      (aP a3 a2).bind fun b1 =>
      some (b0 == b1)
     else
      some false) fun b2 =>
    if b2=true then
     some (IntKind.wrap .i64 (a1 + 1))
    else
     some a1) fun b3 =>
   (aP a3 a2).bind fun b4 =>
   (bO 8 a0 [b4]).bind fun b5 =>
   some (Sum.inl (b5,b3,IntKind.wrap .i64 (a2 + 1)))
 else
  some (Sum.inr a0)
def rI (p1:GProgram) (a1:Int):Option (List Int) :=
 (cF a1 0 (IntKind.wrap .i64 ((p1.Fns.length:Int) - 1))).bind fun r3 =>
 if (!r3)=true then
  some []
 else
  (aP p1.Fns a1).bind fun e8 =>
  (pG p1 e8.Body).bind fun r9 =>
  (aP p1.Fns a1).bind fun a2 =>
  (pG p1 a2.Ret).bind fun a3 =>
  Option.bind (
   aI (dA r9 a3) ([],(0:Int),(0:Int))) fun a0 =>
  some a0
def mG (a0:List Int) (n2:Int):Int→Option ((Int) ⊕ ((Unit) ⊕ (List Int))):=fun i6 =>
 if (decide (i6 < (a0.length:Int)))=true then
  (aP a0 i6).bind fun a1 =>
  if (a1 == n2)=true then
   some (Sum.inr (Sum.inr a0))
  else
   some (Sum.inl (IntKind.wrap .i64 (i6 + 1)))
 else
  some (Sum.inr (Sum.inl ()))
def rH (a0:List Int) (n2:Int):Option (List Int) :=
 Option.bind (
  aI (mG a0 n2) (0:Int)) fun j5 =>
 match j5 with
 | Sum.inr z=>some z
 | Sum.inl () =>
  (bO 8 a0 [n2]).bind fun a1 =>
  some a1
def lD (p1:GProgram) (r3:List Int):((List Int) × Int)→Option (((List Int) × Int) ⊕ (List Int)):=fun ⟨a0,i9⟩ =>
 if (decide (i9 < (r3.length:Int)))=true then
  (aP r3 i9).bind fun a2 =>
  (aP p1.Nodes a2).bind fun a3 =>
  if (a3.Kind != 12)=true then
   some (Sum.inl (a0,IntKind.wrap .i64 (i9 + 1)))
  else
   (aP r3 i9).bind fun a4 =>
   (aP p1.Nodes a4).bind fun a5 =>
   (tS p1 a5.Name).bind fun a1 =>
   if (decide (a1 ≥ 0))=true then
    (rH a0 a1).bind fun a6 =>
    some (Sum.inl (a6,IntKind.wrap .i64 (i9 + 1)))
   else
    some (Sum.inl (a0,IntKind.wrap .i64 (i9 + 1)))
 else
  some (Sum.inr a0)
def jI (p1:GProgram) (a1:Int):Option (List Int) :=
 (rI p1 a1).bind fun r3 =>
 Option.bind (
  aI (lD p1 r3) ([],(0:Int))) fun a0 =>
 some a0
def gY (a3:List Int):((List Bool) × (List Int) × Int)→Option (((List Bool) × (List Int) × Int) ⊕ ((List Bool) × (List Int))):=fun ⟨a0,a1,a2⟩ =>
 if (decide (a2 < (a3.length:Int)))=true then
  (aP a3 a2).bind fun a5 =>
  (aP a0 a5).bind fun a6 =>
  if (!a6)=true then
   (aP a3 a2).bind fun a4 =>
   (aP a0 a4).bind fun b0 =>
   bF (List.set a0 a4.toNat true) fun a7 =>
   (aP a3 a2).bind fun a8 =>
   (bO 8 a1 [a8]).bind fun a9 =>
   some (Sum.inl (a7,a9,IntKind.wrap .i64 (a2 + 1)))
  else
   some (Sum.inl (a0,a1,IntKind.wrap .i64 (a2 + 1)))
 else
  some (Sum.inr (a0,a1))
def gZ (p1:GProgram):((List Bool) × (List Int) × Int)→Option (((List Bool) × (List Int) × Int) ⊕ (List Bool)):=fun ⟨a1,a0,a4⟩ =>
 if (decide (a4 < (a0.length:Int)))=true then
  Option.bind (
   (aP a0 a4).bind fun a5 =>
   (jI p1 a5).bind fun a6 =>
   aI (gY a6) (a1,a0,(0:Int))) fun ⟨a3,a2⟩ =>
  some (Sum.inl (a3,a2,IntKind.wrap .i64 (a4 + 1)))
 else
  some (Sum.inr a1)
def gX (a1:List Bool):((List Int) × Int)→Option (((List Int) × Int) ⊕ (List Int)):=fun ⟨a0,a2⟩ =>
 if (decide (a2 < (a1.length:Int)))=true then
  (aP a1 a2).bind fun a3 =>
  if a3=true then
   (bO 8 a0 [a2]).bind fun a4 =>
   some (Sum.inl (a4,IntKind.wrap .i64 (a2 + 1)))
  else
   some (Sum.inl (a0,IntKind.wrap .i64 (a2 + 1)))
 else
  some (Sum.inr a0)
def gC (p1:GProgram) (a2:Int):Option (List Int) :=
 (cF a2 0 (IntKind.wrap .i64 ((p1.Fns.length:Int) - 1))).bind fun r3 =>
 if (!r3)=true then
  some []
 else
  (mkI 1 (p1.Fns.length:Int) false).bind fun l7 =>
  (aP l7 a2).bind fun e8 =>
  bF (List.set l7 a2.toNat true) fun l9 =>
  Option.bind (
   aI (gZ p1) (l9,[a2],(0:Int))) fun a0 =>
  Option.bind (
   aI (gX a0) ([],(0:Int))) fun a1 =>
  some a1
def cQ (a0:Gl04Pack→Int→Int→Option (Int × Gl04Pack)) (k2:Int) (a1:Int):(Int × GNode × Gl04Pack)→Option ((Int × GNode × Gl04Pack) ⊕ (GNode × Gl04Pack)):=fun ⟨a4,a2,a3⟩ =>
 Option.bind (
  (aP a3.from_ k2).bind fun a5 =>
  if (decide (a4 < (a5.Kids.length:Int)))=true then
   some (!a3.bad)
  else
   some false) fun a6 =>
 if a6=true then
  (aP a3.from_ k2).bind fun a7 =>
  (aP a7.Kids a4).bind fun a8 =>
  (a0 a3 a8 (IntKind.wrap .i64 (a1 + 1))).bind fun ⟨a9,b0⟩ =>
  (bO 8 a2.Kids [a9]).bind fun b1 =>
  some (Sum.inl (IntKind.wrap .i64 (a4 + 1),(⟨a2.Kind,a2.Num,a2.Name,b1⟩:GNode),b0))
 else
  some (Sum.inr (a2,a3))
def cZ (a0:Gl04Pack→Int→Int→Option (Int × Gl04Pack)) (x1:Gl04Pack) (k2:Int) (a1:Int):Option (Int × Gl04Pack) :=
 Option.bind (
  if x1.bad=true then
   some true
  else
   if (decide (a1 > 10))=true then
    some true
   else
    (cF k2 0 (IntKind.wrap .i64 ((x1.from_.length:Int) - 1))).bind fun a5 =>
    if (!a5)=true then
     some true
    else
     some (decide ((x1.to_.length:Int) > 300))) fun a6 =>
 if a6=true then
  some ((-1),(⟨x1.from_,x1.to_,true⟩:Gl04Pack))
 else
  (aP x1.from_ k2).bind fun a2 =>
  Option.bind (
   aI (cQ a0 k2 a1) ((0:Int),(⟨a2.Kind,a2.Num,a2.Name,[]⟩:GNode),x1)) fun ⟨a7,a3⟩ =>
  (bO 56 a3.to_ [a7]).bind fun a4 =>
  some (IntKind.wrap .i64 ((a4.length:Int) - 1),(⟨a3.from_,a4,a3.bad⟩:Gl04Pack))
def bD:Nat→Gl04Pack→Int→Int→Option (Int × Gl04Pack)
 | 0=>fun _ _ _=>none
 | n + 1=>cZ (bD n)
def gK:Gl04Pack→Int→Int→Option (Int × Gl04Pack):=(bD bL)
def dC (p1:GProgram):(Int × GProgram × Gl04Pack)→Option ((Int × GProgram × Gl04Pack) ⊕ (GProgram × Gl04Pack)):=fun ⟨i5,v6,v7⟩ =>
 if (decide (i5 < (p1.Fns.length:Int)))=true then
  (aP p1.Fns i5).bind fun a0 =>
  (bO 24 [] a0.Params).bind fun a8 =>
  (gK v7 a0.Body 1).bind fun ⟨a1,a2⟩ =>
  Option.bind (
   if (decide (a0.Ret ≥ 0))=true then
    (gK a2 a0.Ret 1).bind fun ⟨a3,a4⟩ =>
    some ((⟨a0.Name,a0.Params,a0.Res,a1,a3⟩:GFn),a4)
   else
    some ((⟨a0.Name,a0.Params,a0.Res,a1,a0.Ret⟩:GFn),a2)) fun ⟨a5,a6⟩ =>
  (bO 64 v6.Fns [a5]).bind fun a7 =>
  some (Sum.inl (IntKind.wrap .i64 (i5 + 1),(⟨v6.Nodes,a7⟩:GProgram),a6))
 else
  some (Sum.inr (v6,v7))
def rL (p1:GProgram):Option (GProgram × Bool) :=
 Option.bind (
  aI (dC p1) ((0:Int),(⟨[],[]⟩:GProgram),(⟨p1.Nodes,[],false⟩:Gl04Pack))) fun ⟨a1,a0⟩ =>
 Option.bind (
  if a0.bad=true then
   some true
  else
   some (decide ((a0.to_.length:Int) > 300))) fun a2 =>
 if a2=true then
  some ((⟨[],[]⟩:GProgram),false)
 else
  some ((⟨a0.to_,a1.Fns⟩:GProgram),true)
def jU (p1:GProgram) (r8:List Int):(Int × GProgram)→Option ((Int × GProgram) ⊕ (GProgram)):=fun ⟨a0,a1⟩ =>
 if (decide (a0 < (r8.length:Int)))=true then
  (aP r8 a0).bind fun a2 =>
  (aP p1.Fns a2).bind fun a3 =>
  (bO 64 a1.Fns [a3]).bind fun a4 =>
  some (Sum.inl (IntKind.wrap .i64 (a0 + 1),(⟨a1.Nodes,a4⟩:GProgram)))
 else
  some (Sum.inr a1)
def nZ (p1:GProgram):Option (GProgram × Bool) :=
 (iJ p1).bind fun r2 =>
 if (!r2)=true then
  (jH p1).bind fun r6 =>
  some (r6,false)
 else
  (gC p1 (IntKind.wrap .i64 ((p1.Fns.length:Int) - 1))).bind fun r8 =>
  Option.bind (
   aI (jU p1 r8) ((0:Int),(⟨p1.Nodes,[]⟩:GProgram))) fun a0 =>
  (rL a0).bind fun ⟨a1,a2⟩ =>
  if (!a2)=true then
   (jH p1).bind fun a3 =>
   some (a3,false)
  else
   some (a1,true)
def hE (a0:List Int):Option (GProgram × ByteArray) :=
 (nD a0).bind fun r2 =>
 (bX r2 5).bind fun ⟨r4,q5⟩ =>
 (nC q5).bind fun ⟨r7,q8⟩ =>
 if (decide (r4 < (r7.Fns.length:Int)))=true then
  (aP r7.Fns r4).bind fun a1 =>
  some (r7,a1.Name)
 else
  some (r7,(⟨#[110,111,110,101]⟩:ByteArray))
def gO (a1:List Int) (b2:List Int):Int→Option ((Int) ⊕ ((Unit) ⊕ (Bool))):=fun i8 =>
 if (decide (i8 < (a1.length:Int)))=true then
  (aP a1 i8).bind fun a0 =>
  (aP b2 i8).bind fun a2 =>
  if (a0 != a2)=true then
   some (Sum.inr (Sum.inr false))
  else
   some (Sum.inl (IntKind.wrap .i64 (i8 + 1)))
 else
  some (Sum.inr (Sum.inl ()))
def fQ (a1:List Int) (b2:List Int):Option (Bool) :=
 if ((a1.length:Int) != (b2.length:Int))=true then
  some false
 else
  Option.bind (
   aI (gO a1 b2) (0:Int)) fun j7 =>
  match j7 with
  | Sum.inr z=>some z
  | Sum.inl () =>
   some true
def jD (p1:GProgram) (a1:Int):((List Int) × Int)→Option (((List Int) × Int) ⊕ (List Int)):=fun ⟨a0,v7⟩ =>
 if (decide (v7 < (p1.Fns.length:Int)))=true then
  (jJ p1 v7).bind fun a2 =>
  (gF a2 a1).bind fun a3 =>
  if a3=true then
   (bO 8 a0 [v7]).bind fun a4 =>
   some (Sum.inl (a4,IntKind.wrap .i64 (v7 + 1)))
  else
   some (Sum.inl (a0,IntKind.wrap .i64 (v7 + 1)))
 else
  some (Sum.inr a0)
def nA (p1:GProgram) (a1:Int):Option (List Int) :=
 Option.bind (
  aI (jD p1 a1) ([],(0:Int))) fun a0 =>
 some a0
def eP (a3:Int) (i7:Int) (a2:List Int):((List Int) × Int)→Option (((List Int) × Int) ⊕ (List Int)):=fun ⟨a0,a1⟩ =>
 if (decide (a1 < (a2.length:Int)))=true then
  (aP a2 a1).bind fun a4 =>
  if (a4 == a3)=true then
   (bO 8 a0 [i7]).bind fun a5 =>
   some (Sum.inl (a5,IntKind.wrap .i64 (a1 + 1)))
  else
   some (Sum.inl (a0,IntKind.wrap .i64 (a1 + 1)))
 else
  some (Sum.inr a0)
def iV (p1:GProgram) (a2:Int):((List Int) × Int)→Option (((List Int) × Int) ⊕ (List Int)):=fun ⟨a0,i7⟩ =>
 if (decide (i7 < (p1.Fns.length:Int)))=true then
  Option.bind (
   (jI p1 i7).bind fun a3 =>
   aI (eP a2 i7 a3) (a0,(0:Int))) fun a1 =>
  some (Sum.inl (a1,IntKind.wrap .i64 (i7 + 1)))
 else
  some (Sum.inr a0)
def mO (p1:GProgram) (a1:Int):Option (List Int) :=
 Option.bind (
  aI (iV p1 a1) ([],(0:Int))) fun a0 =>
 some a0
def lL (p1:GProgram) (r2:List Int):((List Int) × Int)→Option (((List Int) × Int) ⊕ (List Int)):=fun ⟨a0,v8⟩ =>
 if (decide (v8 < (p1.Fns.length:Int)))=true then
  (gF r2 v8).bind fun a1 =>
  if (!a1)=true then
   (bO 8 a0 [v8]).bind fun a2 =>
   some (Sum.inl (a2,IntKind.wrap .i64 (v8 + 1)))
  else
   some (Sum.inl (a0,IntKind.wrap .i64 (v8 + 1)))
 else
  some (Sum.inr a0)
def qN (p1:GProgram):Option (List Int) :=
 (gG p1 (IntKind.wrap .i64 ((p1.Fns.length:Int) - 1))).bind fun r2 =>
 Option.bind (
  aI (lL p1 r2) ([],(0:Int))) fun a0 =>
 some a0
def gD (p1:GProgram) (r2:List Int):((List Int) × Int × Int)→Option (((List Int) × Int × Int) ⊕ (List Int)):=fun ⟨a0,a1,i9⟩ =>
 if (decide (i9 < (p1.Fns.length:Int)))=true then
  Option.bind (
   if (decide (a1 < (r2.length:Int)))=true then
    (aP r2 a1).bind fun a2 =>
    some (a2 == i9)
   else
    some false) fun a3 =>
  if a3=true then
   some (Sum.inl (a0,IntKind.wrap .i64 (a1 + 1),IntKind.wrap .i64 (i9 + 1)))
  else
   (bO 8 a0 [i9]).bind fun a4 =>
   some (Sum.inl (a4,a1,IntKind.wrap .i64 (i9 + 1)))
 else
  some (Sum.inr a0)
def pX (p1:GProgram):Option (List Int) :=
 (gC p1 (IntKind.wrap .i64 ((p1.Fns.length:Int) - 1))).bind fun r2 =>
 Option.bind (
  aI (gD p1 r2) ([],(0:Int),(0:Int))) fun a0 =>
 some a0
def fV (a1:List GNode) (b2:List GNode):Int→Option ((Int) ⊕ ((Unit) ⊕ (Bool))):=fun i8 =>
 if (decide (i8 < (a1.length:Int)))=true then
  Option.bind (
   (aP a1 i8).bind fun a0 =>
   (aP b2 i8).bind fun a2 =>
   if (a0.Kind != a2.Kind)=true then
    some true
   else
    if (a0.Num != a2.Num)=true then
     some true
    else
     if (!(sEq a0.Name a2.Name))=true then
      some true
     else
      (fQ a0.Kids a2.Kids).bind fun a3 =>
      some (!a3)) fun a4 =>
  if a4=true then
   some (Sum.inr (Sum.inr false))
  else
   some (Sum.inl (IntKind.wrap .i64 (i8 + 1)))
 else
  some (Sum.inr (Sum.inl ()))
def mR (a1:List GNode) (b2:List GNode):Option (Bool) :=
 if ((a1.length:Int) != (b2.length:Int))=true then
  some false
 else
  Option.bind (
   aI (fV a1 b2) (0:Int)) fun j7 =>
  match j7 with
  | Sum.inr z=>some z
  | Sum.inl () =>
   some true
def fT (a1:GFn) (a4:GFn):Int→Option ((Int) ⊕ ((Unit) ⊕ ((Int) ⊕ ((Unit) ⊕ (Bool))))):=fun a0 =>
 if (decide (a0 < (a1.Params.length:Int)))=true then
  (aP a1.Params a0).bind fun a2 =>
  (aP a4.Params a0).bind fun a3 =>
  if ((!(sEq a2.Name a3.Name)) || (a2.Typ != a3.Typ))=true then
   some (Sum.inr (Sum.inr (Sum.inr (Sum.inr false))))
  else
   some (Sum.inl (IntKind.wrap .i64 (a0 + 1)))
 else
  some (Sum.inr (Sum.inl ()))
def fU (a1:GProgram) (b2:GProgram):Int→Option ((Int) ⊕ ((Unit) ⊕ (Bool))):=fun a3 =>
 if (decide (a3 < (a1.Fns.length:Int)))=true then
  Option.bind (
   (aP a1.Fns a3).bind fun a0 =>
   (aP b2.Fns a3).bind fun a2 =>
   Option.bind (
    if (!(sEq a0.Name a2.Name))=true then
     some true
    else
     if (a0.Res != a2.Res)=true then
      some true
     else
      if (a0.Body != a2.Body)=true then
       some true
      else
       if (a0.Ret != a2.Ret)=true then
        some true
       else
        some ((a0.Params.length:Int) != (a2.Params.length:Int))) fun a4 =>
   if a4=true then
    some (Sum.inr (Sum.inr (Sum.inr false)))
   else
    aI (fT a0 a2) (0:Int)) fun a5 =>
  match a5 with
  | Sum.inr z=>some z
  | Sum.inl () =>
   some (Sum.inl (IntKind.wrap .i64 (a3 + 1)))
 else
  some (Sum.inr (Sum.inl ()))
def mQ (a1:GProgram) (b2:GProgram):Option (Bool) :=
 Option.bind (
  (mR a1.Nodes b2.Nodes).bind fun r5 =>
  if (!r5)=true then
   some true
  else
   some ((a1.Fns.length:Int) != (b2.Fns.length:Int))) fun v9 =>
 if v9=true then
  some false
 else
  Option.bind (
   aI (fU a1 b2) (0:Int)) fun a0 =>
  match a0 with
  | Sum.inr z=>some z
  | Sum.inl () =>
   some true
def mX (a2:GFn):((List GVar) × Int)→Option (((List GVar) × Int) ⊕ (List GVar)):=fun ⟨a0,a1⟩ =>
 if (decide (a1 < (a2.Params.length:Int)))=true then
  (aP a2.Params a1).bind fun a3 =>
  (bO 32 a0 [(⟨a3.Name,a3.Typ,(-1)⟩:GVar)]).bind fun a4 =>
  some (Sum.inl (a4,IntKind.wrap .i64 (a1 + 1)))
 else
  some (Sum.inr a0)
def mW (p1:GProgram) (a2:List Int):((List GVar) × Int)→Option (((List GVar) × Int) ⊕ (List GVar)):=fun ⟨a0,a1⟩ =>
 if (decide (a1 < (a2.length:Int)))=true then
  (aP a2 a1).bind fun a3 =>
  (aP p1.Nodes a3).bind fun a4 =>
  if (a4.Kind == 13)=true then
   (bO 32 a0 [(⟨a4.Name,0,a3⟩:GVar)]).bind fun a5 =>
   some (Sum.inl (a5,IntKind.wrap .i64 (a1 + 1)))
  else
   some (Sum.inl (a0,IntKind.wrap .i64 (a1 + 1)))
 else
  some (Sum.inr a0)
def rV (p1:GProgram) (a2:Int):Option (List GVar) :=
 (eQ a2 0 (IntKind.wrap .i64 ((p1.Fns.length:Int) - 1))).bind fun r3 =>
 if (!r3)=true then
  some []
 else
  Option.bind (
   (aP p1.Fns a2).bind fun a3 =>
   aI (mX a3) ([],(0:Int))) fun a0 =>
  Option.bind (
   (aP p1.Fns a2).bind fun a4 =>
   (rD p1 a4.Body).bind fun a5 =>
   aI (mW p1 a5) (a0,(0:Int))) fun a1 =>
  some a1
def oK (a0:List GVar) (a1:ByteArray):Int→Option ((Int) ⊕ ((Unit) ⊕ (Int))):=fun v6 =>
 if (decide (v6 < (a0.length:Int)))=true then
  (aP a0 v6).bind fun a2 =>
  if (sEq a2.Name a1)=true then
   some (Sum.inr (Sum.inr v6))
  else
   some (Sum.inl (IntKind.wrap .i64 (v6 + 1)))
 else
  some (Sum.inr (Sum.inl ()))
def uE (a0:List GVar) (a1:ByteArray):Option (Int) :=
 Option.bind (
  aI (oK a0 a1) (0:Int)) fun j5 =>
 match j5 with
 | Sum.inr z=>some z
 | Sum.inl () =>
  some (-1)
def lH (r3:List GVar):Int→Option ((Int) ⊕ ((Unit) ⊕ (Bool))):=fun v8 =>
 if (decide (v8 < (r3.length:Int)))=true then
  (aP r3 v8).bind fun a0 =>
  (uE r3 a0.Name).bind fun a1 =>
  if (a1 != v8)=true then
   some (Sum.inr (Sum.inr false))
  else
   some (Sum.inl (IntKind.wrap .i64 (v8 + 1)))
 else
  some (Sum.inr (Sum.inl ()))
def qD (p1:GProgram) (a0:Int):Option (Bool) :=
 (rV p1 a0).bind fun r3 =>
 Option.bind (
  aI (lH r3) (0:Int)) fun j7 =>
 match j7 with
 | Sum.inr z=>some z
 | Sum.inl () =>
  some true
def wI (a0:Int):Option (Bool) :=
 Option.bind (
  (eQ a0 2 6).bind fun r4 =>
  if r4=true then
   some true
  else
   if (a0 == 14)=true then
    some true
   else
    some (a0 == 15)) fun a1 =>
 some a1
def lI (l1:List ByteArray) (s2:ByteArray):Int→Option ((Int) ⊕ ((Unit) ⊕ (Bool))):=fun v6 =>
 if (decide (v6 < (l1.length:Int)))=true then
  (aP l1 v6).bind fun a0 =>
  if (sEq a0 s2)=true then
   some (Sum.inr (Sum.inr true))
  else
   some (Sum.inl (IntKind.wrap .i64 (v6 + 1)))
 else
  some (Sum.inr (Sum.inl ()))
def qF (l1:List ByteArray) (s2:ByteArray):Option (Bool) :=
 Option.bind (
  aI (lI l1 s2) (0:Int)) fun j5 =>
 match j5 with
 | Sum.inr z=>some z
 | Sum.inl () =>
  some false
def nN (a0:GProgram→Int→Int→(List ByteArray)→Option (Bool)) (p1:GProgram) (a4:Int) (e5:GNode):((List ByteArray) × Int)→Option (((List ByteArray) × Int) ⊕ ((Unit) ⊕ (Bool))):=fun ⟨a1,a2⟩ =>
 if (decide (a2 < (e5.Kids.length:Int)))=true then
  (aP e5.Kids a2).bind fun a3 =>
  (a0 p1 a4 a3 a1).bind fun a5 =>
  if (!a5)=true then
   some (Sum.inr (Sum.inr false))
  else
   Option.bind (
    if (e5.Kind == 20)=true then
     (aP p1.Nodes a3).bind fun a6 =>
     some (a6.Kind == 13)
    else
     some false) fun a7 =>
   if a7=true then
    (aP p1.Nodes a3).bind fun a8 =>
    (bO 16 a1 [a8.Name]).bind fun a9 =>
    some (Sum.inl (a9,IntKind.wrap .i64 (a2 + 1)))
   else
    some (Sum.inl (a1,IntKind.wrap .i64 (a2 + 1)))
 else
  some (Sum.inr (Sum.inl ()))
def rS (a0:GProgram→Int→Int→(List ByteArray)→Option (Bool)) (p1:GProgram) (a2:Int) (k3:Int) (a1:List ByteArray):Option (Bool) :=
 (aP p1.Nodes k3).bind fun e5 =>
 Option.bind (
  (wI e5.Kind).bind fun r8 =>
  if r8=true then
   (qF a1 e5.Name).bind fun a4 =>
   some (!a4)
  else
   some false) fun a5 =>
 if a5=true then
  some false
 else
  Option.bind (
   if (e5.Kind == 12)=true then
    (qM p1 e5.Name).bind fun a3 =>
    Option.bind (
     (eQ a3 0 (IntKind.wrap .i64 (a2 - 1))).bind fun a6 =>
     if (!a6)=true then
      some true
     else
      (aP p1.Fns a3).bind fun a7 =>
      some ((a7.Params.length:Int) != (e5.Kids.length:Int))) fun a8 =>
    if a8=true then
     some (Sum.inr false)
    else
     some (Sum.inl ())
   else
    some (Sum.inl ())) fun a9 =>
  match a9 with
  | Sum.inr z=>some z
  | Sum.inl () =>
   (bO 16 [] a1).bind fun b1 =>
   Option.bind (
    aI (nN a0 p1 a2 e5) (a1,(0:Int))) fun b0 =>
   match b0 with
   | Sum.inr z=>some z
   | Sum.inl () =>
    some true
def jN:Nat→GProgram→Int→Int→(List ByteArray)→Option (Bool)
 | 0=>fun _ _ _ _=>none
 | n + 1=>rS (jN n)
def wJ:GProgram→Int→Int→(List ByteArray)→Option (Bool):=(jN bL)
def fE (a2:GFn):((List ByteArray) × Int)→Option (((List ByteArray) × Int) ⊕ (List ByteArray)):=fun ⟨a0,a1⟩ =>
 if (decide (a1 < (a2.Params.length:Int)))=true then
  (aP a2.Params a1).bind fun a3 =>
  (bO 16 a0 [a3.Name]).bind fun a4 =>
  some (Sum.inl (a4,IntKind.wrap .i64 (a1 + 1)))
 else
  some (Sum.inr a0)
def fD (p1:GProgram) (a2:GNode):((List ByteArray) × Int)→Option (((List ByteArray) × Int) ⊕ (List ByteArray)):=fun ⟨a0,a1⟩ =>
 if (decide (a1 < (a2.Kids.length:Int)))=true then
  (aP a2.Kids a1).bind fun a3 =>
  (aP p1.Nodes a3).bind fun a4 =>
  if (a4.Kind == 13)=true then
   (aP p1.Nodes a3).bind fun a5 =>
   (bO 16 a0 [a5.Name]).bind fun a6 =>
   some (Sum.inl (a6,IntKind.wrap .i64 (a1 + 1)))
  else
   some (Sum.inl (a0,IntKind.wrap .i64 (a1 + 1)))
 else
  some (Sum.inr a0)
def iG (p1:GProgram):Int→Option ((Int) ⊕ ((Unit) ⊕ (Bool))):=fun v9 =>
 if (decide (v9 < (p1.Fns.length:Int)))=true then
  Option.bind (
   (aP p1.Fns v9).bind fun a2 =>
   (qD p1 v9).bind fun a3 =>
   if (!a3)=true then
    some (Sum.inr (Sum.inr (Sum.inr false)))
   else
    Option.bind (
     aI (fE a2) ([],(0:Int))) fun a0 =>
    (wJ p1 v9 a2.Body a0).bind fun a4 =>
    if (!a4)=true then
     some (Sum.inr (Sum.inr (Sum.inr false)))
    else
     Option.bind (
      (aP p1.Nodes a2.Body).bind fun a5 =>
      aI (fD p1 a5) (a0,(0:Int))) fun a1 =>
     Option.bind (
      if (decide (a2.Ret ≥ 0))=true then
       (wJ p1 v9 a2.Ret a1).bind fun a6 =>
       some (!a6)
      else
       some false) fun a7 =>
     if a7=true then
      some (Sum.inr (Sum.inr (Sum.inr false)))
     else
      some (Sum.inl ())) fun a8 =>
  match a8 with
  | Sum.inr z=>some z
  | Sum.inl () =>
   some (Sum.inl (IntKind.wrap .i64 (v9 + 1)))
 else
  some (Sum.inr (Sum.inl ()))
def lK (p1:GProgram):Option (Bool) :=
 (kB p1).bind fun r2 =>
 if (!r2)=true then
  some false
 else
  Option.bind (
   aI (iG p1) (0:Int)) fun j8 =>
  match j8 with
  | Sum.inr z=>some z
  | Sum.inl () =>
   some true
def mA (a0:GProgram→Int→Option (Int)) (p1:GProgram) (r6:List Int):(Int × Int)→Option ((Int × Int) ⊕ (Int)):=fun ⟨n8,v9⟩ =>
 if (decide (v9 < (r6.length:Int)))=true then
  (aP r6 v9).bind fun a2 =>
  (a0 p1 a2).bind fun a1 =>
  some (Sum.inl (if a1 > n8 then a1 else n8,IntKind.wrap .i64 (v9 + 1)))
 else
  some (Sum.inr n8)
def qJ (a0:GProgram→Int→Option (Int)) (p1:GProgram) (a1:Int):Option (Int) :=
 Option.bind (
  (jJ p1 a1).bind fun r6 =>
  aI (mA a0 p1 r6) ((0:Int),(0:Int))) fun a2 =>
 some (IntKind.wrap .i64 (a2 + 1))
def fR:Nat→GProgram→Int→Option (Int)
 | 0=>fun _ _=>none
 | n + 1=>qJ (fR n)
def aBk:GProgram→Int→Option (Int):=(fR bL)
def qO (p1:GProgram):Option (Int) :=
 (lK p1).bind fun r2 =>
 if (!r2)=true then
  some 0
 else
  (aBk p1 (IntKind.wrap .i64 ((p1.Fns.length:Int) - 1))).bind fun r6 =>
  some r6
def mL (e7:GFn):((List GVar) × Int)→Option (((List GVar) × Int) ⊕ (List GVar)):=fun ⟨a0,a1⟩ =>
 if (decide (a1 < (e7.Params.length:Int)))=true then
  (aP e7.Params a1).bind fun a2 =>
  (bO 32 a0 [(⟨a2.Name,a2.Typ,(-1)⟩:GVar)]).bind fun a3 =>
  some (Sum.inl (a3,IntKind.wrap .i64 (a1 + 1)))
 else
  some (Sum.inr a0)
def mK (p1:GProgram) (a2:List Int):((List GVar) × Int)→Option (((List GVar) × Int) ⊕ (List GVar)):=fun ⟨a0,a1⟩ =>
 if (decide (a1 < (a2.length:Int)))=true then
  (aP a2 a1).bind fun a4 =>
  (aP p1.Nodes a4).bind fun a5 =>
  if (a5.Kind == 13)=true then
   (aP a2 a1).bind fun a3 =>
   (aP p1.Nodes a3).bind fun a6 =>
   (bO 32 a0 [(⟨a6.Name,0,a3⟩:GVar)]).bind fun a7 =>
   some (Sum.inl (a7,IntKind.wrap .i64 (a1 + 1)))
  else
   some (Sum.inl (a0,IntKind.wrap .i64 (a1 + 1)))
 else
  some (Sum.inr a0)
def rK (p1:GProgram) (a2:Int):Option (List GVar) :=
 (cF a2 0 (IntKind.wrap .i64 ((p1.Fns.length:Int) - 1))).bind fun r3 =>
 if (!r3)=true then
  some []
 else
  (aP p1.Fns a2).bind fun e7 =>
  Option.bind (
   aI (mL e7) ([],(0:Int))) fun a0 =>
  (pG p1 e7.Body).bind fun a3 =>
  Option.bind (
   aI (mK p1 a3) (a0,(0:Int))) fun a1 =>
  some a1
def zK (a0:List GVar) (a1:ByteArray):Int→Option ((Int) ⊕ ((Unit) ⊕ (Int))):=fun i6 =>
 if (decide (i6 < (a0.length:Int)))=true then
  (aP a0 i6).bind fun a2 =>
  if (sEq a2.Name a1)=true then
   some (Sum.inr (Sum.inr i6))
  else
   some (Sum.inl (IntKind.wrap .i64 (i6 + 1)))
 else
  some (Sum.inr (Sum.inl ()))
def xH (a0:List GVar) (a1:ByteArray):Option (Int) :=
 Option.bind (
  aI (zK a0 a1) (0:Int)) fun j5 =>
 match j5 with
 | Sum.inr z=>some z
 | Sum.inl () =>
  some (-1)
def mI (a0:List ByteArray) (s2:ByteArray):Int→Option ((Int) ⊕ ((Unit) ⊕ (Bool))):=fun i6 =>
 if (decide (i6 < (a0.length:Int)))=true then
  (aP a0 i6).bind fun a1 =>
  if (sEq a1 s2)=true then
   some (Sum.inr (Sum.inr true))
  else
   some (Sum.inl (IntKind.wrap .i64 (i6 + 1)))
 else
  some (Sum.inr (Sum.inl ()))
def pF (a0:List ByteArray) (s2:ByteArray):Option (Bool) :=
 Option.bind (
  aI (mI a0 s2) (0:Int)) fun j5 =>
 match j5 with
 | Sum.inr z=>some z
 | Sum.inl () =>
  some false
def dJ (a0:Gl07Seen→Int→Option (Gl07Seen)) (e3:GNode):(Int × Gl07Seen)→Option ((Int × Gl07Seen) ⊕ (Gl07Seen)):=fun ⟨i7,v8⟩ =>
 if (decide (i7 < (e3.Kids.length:Int)))=true then
  (aP e3.Kids i7).bind fun a1 =>
  (a0 v8 a1).bind fun a2 =>
  some (Sum.inl (IntKind.wrap .i64 (i7 + 1),a2))
 else
  some (Sum.inr v8)
def fI (a0:Gl07Seen→Int→Option (Gl07Seen)) (s1:Gl07Seen) (k2:Int):Option (Gl07Seen) :=
 (aP s1.p.Nodes k2).bind fun e3 =>
 Option.bind (
  aI (dJ a0 e3) ((0:Int),s1)) fun a1 =>
 Option.bind (
  if (e3.Kind == 2)=true then
   some (e3.Kind == 2)
  else
   if (e3.Kind == 3)=true then
    some (e3.Kind == 3)
   else
    if (e3.Kind == 4)=true then
     some (e3.Kind == 4)
    else
     if (e3.Kind == 5)=true then
      some (e3.Kind == 5)
     else
      some (e3.Kind == 6)) fun a3 =>
 if a3=true then
  if a1.bad=true then
   some (⟨a1.p,a1.fn,a1.there,true⟩:Gl07Seen)
  else
   (pF a1.there e3.Name).bind fun a4 =>
   some (⟨a1.p,a1.fn,a1.there,!a4⟩:Gl07Seen)
 else
  if (e3.Kind == 12)=true then
   (tS a1.p e3.Name).bind fun a2 =>
   if a1.bad=true then
    some (⟨a1.p,a1.fn,a1.there,true⟩:Gl07Seen)
   else
    if (decide (a2 < 0))=true then
     some (⟨a1.p,a1.fn,a1.there,true⟩:Gl07Seen)
    else
     if (decide (a2 ≥ a1.fn))=true then
      some (⟨a1.p,a1.fn,a1.there,true⟩:Gl07Seen)
     else
      (aP a1.p.Fns a2).bind fun a5 =>
      some (⟨a1.p,a1.fn,a1.there,(a5.Params.length:Int) != (e3.Kids.length:Int)⟩:Gl07Seen)
  else
   some a1
def cL:Nat→Gl07Seen→Int→Option (Gl07Seen)
 | 0=>fun _ _=>none
 | n + 1=>fI (cL n)
def gQ:Gl07Seen→Int→Option (Gl07Seen):=(cL bL)
def dK (a0:Gl07Seen→Int→Option (Gl07Seen)) (k2:Int):(Int × Gl07Seen)→Option ((Int × Gl07Seen) ⊕ (Gl07Seen)):=fun ⟨i3,v4⟩ =>
 (aP v4.p.Nodes k2).bind fun e8 =>
 if (decide (i3 < (e8.Kids.length:Int)))=true then
  (aP v4.p.Nodes k2).bind fun a1 =>
  (aP a1.Kids i3).bind fun a2 =>
  (a0 v4 a2).bind fun a3 =>
  some (Sum.inl (IntKind.wrap .i64 (i3 + 1),a3))
 else
  some (Sum.inr v4)
def fJ (a1:Gl07Seen→Int→Option (Gl07Seen)) (a0:Gl07Seen→Int→Option (Gl07Seen)) (s1:Gl07Seen) (k2:Int):Option (Gl07Seen) :=
 aI (dK a0 k2) ((0:Int),s1)
def eD (a0:Gl07Seen→Int→Option (Gl07Seen)) (e3:GNode):(Int × Gl07Seen)→Option ((Int × Gl07Seen) ⊕ (Gl07Seen)):=fun ⟨a1,a2⟩ =>
 if (decide (a1 < (e3.Kids.length:Int)))=true then
  (aP e3.Kids a1).bind fun a4 =>
  (a0 a2 a4).bind fun a3 =>
  some (Sum.inl (IntKind.wrap .i64 (a1 + 1),(⟨a3.p,a3.fn,a2.there,a3.bad⟩:Gl07Seen)))
 else
  some (Sum.inr a2)
def fY (a0:Gl07Seen→Int→Option (Gl07Seen)) (a1:Gl07Seen→Int→Option (Gl07Seen)) (s1:Gl07Seen) (k2:Int):Option (Gl07Seen) :=
 (aP s1.p.Nodes k2).bind fun e3 =>
 (aP e3.Kids 0).bind fun e4 =>
 (gQ s1 e4).bind fun q5 =>
 if (e3.Kind == 13)=true then
  (bO 16 [] q5.there).bind fun l9 =>
  (bO 16 q5.there [e3.Name]).bind fun a2 =>
  some (⟨q5.p,q5.fn,a2,q5.bad⟩:Gl07Seen)
 else
  Option.bind (
   if (e3.Kind == 14)=true then
    some (e3.Kind == 14)
   else
    some (e3.Kind == 15)) fun a3 =>
  if a3=true then
   if q5.bad=true then
    some (⟨q5.p,q5.fn,q5.there,true⟩:Gl07Seen)
   else
    (pF q5.there e3.Name).bind fun a4 =>
    some (⟨q5.p,q5.fn,q5.there,!a4⟩:Gl07Seen)
  else
   Option.bind (
    if (e3.Kind == 16)=true then
     some (e3.Kind == 16)
    else
     some (e3.Kind == 17)) fun a5 =>
   if a5=true then
    aI (eD a0 e3) ((1:Int),q5)
   else
    some q5
def aM:Nat→(Gl07Seen→Int→Option (Gl07Seen)) × (Gl07Seen→Int→Option (Gl07Seen))
 | 0=>(fun _ _=>none,fun _ _=>none)
 | n + 1=>(fJ ((aM n).1) ((aM n).2),fY ((aM n).1) ((aM n).2))
def nR:Gl07Seen→Int→Option (Gl07Seen):=(aM bL).1
def aAz:Gl07Seen→Int→Option (Gl07Seen):=(aM bL).2
def dX (a1:List GVar):Int→Option ((Int) ⊕ ((Unit) ⊕ ((Unit) ⊕ ((Int) ⊕ ((Unit) ⊕ (Bool)))))):=fun a0 =>
 if (decide (a0 < (a1.length:Int)))=true then
  (aP a1 a0).bind fun a2 =>
  (xH a1 a2.Name).bind fun a3 =>
  if (a3 != a0)=true then
   some (Sum.inr (Sum.inr (Sum.inr (Sum.inr (Sum.inr false)))))
  else
   some (Sum.inl (IntKind.wrap .i64 (a0 + 1)))
 else
  some (Sum.inr (Sum.inl ()))
def dW (p1:GProgram) (i9:Int):(Int × Gl07Seen)→Option ((Int × Gl07Seen) ⊕ (Gl07Seen)):=fun ⟨a1,a0⟩ =>
 (aP p1.Fns i9).bind fun a2 =>
 if (decide (a1 < (a2.Params.length:Int)))=true then
  (aP p1.Fns i9).bind fun a3 =>
  (aP a3.Params a1).bind fun a4 =>
  (bO 16 a0.there [a4.Name]).bind fun a5 =>
  some (Sum.inl (IntKind.wrap .i64 (a1 + 1),(⟨a0.p,a0.fn,a5,a0.bad⟩:Gl07Seen)))
 else
  some (Sum.inr a0)
def fB (p1:GProgram):Int→Option ((Int) ⊕ ((Unit) ⊕ (Bool))):=fun i9 =>
 if (decide (i9 < (p1.Fns.length:Int)))=true then
  Option.bind (
   (rK p1 i9).bind fun a1 =>
   Option.bind (
    aI (dX a1) (0:Int)) fun a2 =>
   match a2 with
   | Sum.inr z=>some z
   | Sum.inl () =>
    Option.bind (
     aI (dW p1 i9) ((0:Int),(⟨p1,i9,[],false⟩:Gl07Seen))) fun a3 =>
    (aP p1.Fns i9).bind fun a4 =>
    (nR a3 a4.Body).bind fun a0 =>
    Option.bind (
     (aP p1.Fns i9).bind fun a5 =>
     if (decide (a5.Ret ≥ 0))=true then
      (aP p1.Fns i9).bind fun a6 =>
      (gQ a0 a6.Ret).bind fun a7 =>
      some a7
     else
      some a0) fun a8 =>
    if a8.bad=true then
     some (Sum.inr (Sum.inr (Sum.inr false)))
    else
     some (Sum.inl ())) fun a9 =>
  match a9 with
  | Sum.inr z=>some z
  | Sum.inl () =>
   some (Sum.inl (IntKind.wrap .i64 (i9 + 1)))
 else
  some (Sum.inr (Sum.inl ()))
def kW (p1:GProgram):Option (Bool) :=
 (iJ p1).bind fun r2 =>
 if (!r2)=true then
  some false
 else
  Option.bind (
   aI (fB p1) (0:Int)) fun j8 =>
  match j8 with
  | Sum.inr z=>some z
  | Sum.inl () =>
   some true
def iU (a2:Int) (a3:List Int):((List Int) × Int)→Option (((List Int) × Int) ⊕ (List Int)):=fun ⟨a0,a1⟩ =>
 if (decide (a1 < (a3.length:Int)))=true then
  Option.bind (
   (aP a3 a1).bind fun a4 =>
   if (decide (a4 < a2))=true then
    (aP a0 a4).bind fun a5 =>
    (aP a0 a2).bind fun a6 =>
    some (decide (IntKind.wrap .i64 (a5 + 1) > a6))
   else
    some false) fun a7 =>
  if a7=true then
   (aP a3 a1).bind fun a8 =>
   (aP a0 a8).bind fun a9 =>
   (aP a0 a2).bind fun b1 =>
   bF (List.set a0 a2.toNat (IntKind.wrap .i64 (a9 + 1))) fun b0 =>
   some (Sum.inl (b0,IntKind.wrap .i64 (a1 + 1)))
  else
   some (Sum.inl (a0,IntKind.wrap .i64 (a1 + 1)))
 else
  some (Sum.inr a0)
def lC (p1:GProgram):((List Int) × Int)→Option (((List Int) × Int) ⊕ (List Int)):=fun ⟨a0,a2⟩ =>
 if (decide (a2 < (p1.Fns.length:Int)))=true then
  Option.bind (
   (aP a0 a2).bind fun a5 =>
   bF (List.set a0 a2.toNat 1) fun a3 =>
   (jI p1 a2).bind fun a4 =>
   aI (iU a2 a4) (a3,(0:Int))) fun a1 =>
  some (Sum.inl (a1,IntKind.wrap .i64 (a2 + 1)))
 else
  some (Sum.inr a0)
def pY (p1:GProgram):Option (Int) :=
 (kW p1).bind fun r2 =>
 if (!r2)=true then
  some 0
 else
  (mkI 8 (p1.Fns.length:Int) 0).bind fun l6 =>
  Option.bind (
   aI (lC p1) (l6,(0:Int))) fun a0 =>
  (aP a0 (IntKind.wrap .i64 ((a0.length:Int) - 1))).bind fun a1 =>
  some a1
def mB (p1:GProgram) (a0:ByteArray):(Int × Int)→Option ((Int × Int) ⊕ (Int)):=fun ⟨n6,v7⟩ =>
 if (decide (v7 < (p1.Nodes.length:Int)))=true then
  (aP p1.Nodes v7).bind fun a1 =>
  Option.bind (
   if (a1.Kind == 12)=true then
    some (sEq a1.Name a0)
   else
    some false) fun a2 =>
  if a2=true then
   some (Sum.inl (IntKind.wrap .i64 (n6 + 1),IntKind.wrap .i64 (v7 + 1)))
  else
   some (Sum.inl (n6,IntKind.wrap .i64 (v7 + 1)))
 else
  some (Sum.inr n6)
def nB (p1:GProgram) (a0:ByteArray):Option (Int) :=
 Option.bind (
  aI (mB p1 a0) ((0:Int),(0:Int))) fun a1 =>
 some a1
def lW (p1:GProgram) (a0:ByteArray):(Int × Int)→Option ((Int × Int) ⊕ (Int)):=fun ⟨n6,i7⟩ =>
 if (decide (i7 < (p1.Nodes.length:Int)))=true then
  Option.bind (
   (aP p1.Nodes i7).bind fun a1 =>
   if (a1.Kind == 12)=true then
    some (sEq a1.Name a0)
   else
    some false) fun a2 =>
  if a2=true then
   some (Sum.inl (IntKind.wrap .i64 (n6 + 1),IntKind.wrap .i64 (i7 + 1)))
  else
   some (Sum.inl (n6,IntKind.wrap .i64 (i7 + 1)))
 else
  some (Sum.inr n6)
def mP (p1:GProgram) (a0:ByteArray):Option (Int) :=
 Option.bind (
  aI (lW p1 a0) ((0:Int),(0:Int))) fun a1 =>
 some a1
def iD (a0:List Int):Option (Bool) :=
 (aCn a0).bind fun r2 =>
 if r2=true then
  some true
 else
  (jV a0).bind fun ⟨r6,r7⟩ =>
  (iT a0).bind fun r9 =>
  (oL r9).bind fun ⟨a3,a4⟩ =>
  (nZ r9).bind fun ⟨a5,a6⟩ =>
  (hE a0).bind fun ⟨a1,a2⟩ =>
  Option.bind (
   (jJ r6 r7).bind fun a7 =>
   (jI r6 r7).bind fun a8 =>
   (fQ a7 a8).bind fun a9 =>
   if a9=true then
    (nA r6 r7).bind fun b0 =>
    (mO r6 r7).bind fun b1 =>
    (fQ b0 b1).bind fun b2 =>
    if b2=true then
     (gG r6 r7).bind fun b3 =>
     (gC r6 r7).bind fun b4 =>
     (fQ b3 b4).bind fun b5 =>
     if b5=true then
      (qN r6).bind fun b6 =>
      (pX r6).bind fun b7 =>
      (fQ b6 b7).bind fun b8 =>
      if b8=true then
       if (a4 == a6)=true then
        (mQ a3 a5).bind fun b9 =>
        if b9=true then
         (qO r6).bind fun c0 =>
         (pY r6).bind fun c1 =>
         if (c0 == c1)=true then
          (nB a1 a2).bind fun c2 =>
          (mP a1 a2).bind fun c3 =>
          some (c2 == c3)
         else
          some false
        else
         some false
       else
        some false
      else
       some false
     else
      some false
    else
     some false
   else
    some false) fun c4 =>
  some c4
end Go.OM
end
set_option maxRecDepth 100000
set_option maxHeartbeats 8000000
namespace Go.Proofs.T
open Go.OM
noncomputable def ty:TypeId→Option TI
 | 2=>some ⟨1,8,.int .i64,[.v (.int .i64 0)]⟩
 | 3=>some ⟨1,8,.int .i64,[.v (.int .i64 0)]⟩
 | 4=>some ⟨1,1,.bool,[.v (.bool false)]⟩
 | 5=>some ⟨1,1,.int .u8,[.v (.int .u8 0)]⟩
 | 7=>some ⟨4,24,.struct [(0,1),(1,1),(2,1),(3,1)],[.v (.int .i64 0),.v (.int .i64 0),.v (.bool false),.v (.int .u8 0)]⟩
 | 9=>some ⟨1,16,.str,[.v (.string .empty)]⟩
 | 12=>some ⟨1,8,.int .u64,[.v (.int .u64 0)]⟩
 | 13=>some ⟨2,24,.struct [(0,1),(1,1)],[.v (.string .empty),.v (.int .u64 0)]⟩
 | 22=>some ⟨1,24,.slice 5,[.nl true 1 none]⟩
 | 24=>some ⟨1,24,.slice 53,[.nl true 4 none]⟩
 | 25=>some ⟨1,24,.slice 49,[.nl true 5 none]⟩
 | 26=>some ⟨2,48,.struct [(0,1),(1,1)],[.nl true 4 none,.nl true 5 none]⟩
 | 27=>some ⟨2,48,.struct [(0,1),(1,1)],[.nl true 4 none,.nl true 5 none]⟩
 | 36=>some ⟨1,24,.slice 3,[.nl true 1 none]⟩
 | 43=>some ⟨1,8,.ptr,[.v (.pointer none)]⟩
 | 47=>some ⟨1,24,.slice 61,[.nl true 2 none]⟩
 | 48=>some ⟨5,64,.struct [(0,1),(1,1),(2,1),(3,1),(4,1)],[.v (.string .empty),.nl true 2 none,.v (.int .i64 0),.v (.int .i64 0),.v (.int .i64 0)]⟩
 | 49=>some ⟨5,64,.struct [(0,1),(1,1),(2,1),(3,1),(4,1)],[.v (.string .empty),.nl true 2 none,.v (.int .i64 0),.v (.int .i64 0),.v (.int .i64 0)]⟩
 | 52=>some ⟨4,56,.struct [(0,1),(1,1),(2,1),(3,1)],[.v (.int .i64 0),.v (.int .i64 0),.v (.string .empty),.nl true 1 none]⟩
 | 53=>some ⟨4,56,.struct [(0,1),(1,1),(2,1),(3,1)],[.v (.int .i64 0),.v (.int .i64 0),.v (.string .empty),.nl true 1 none]⟩
 | 58=>some ⟨1,24,.slice 4,[.nl true 1 none]⟩
 | 60=>some ⟨2,24,.struct [(0,1),(1,1)],[.v (.string .empty),.v (.int .i64 0)]⟩
 | 61=>some ⟨2,24,.struct [(0,1),(1,1)],[.v (.string .empty),.v (.int .i64 0)]⟩
 | 63=>some ⟨1,24,.slice 9,[.nl true 1 none]⟩
 | 64=>some ⟨3,40,.struct [(0,1),(1,1),(2,1)],[.nl true 1 none,.v (.int .i64 0),.v (.int .i64 0)]⟩
 | 65=>some ⟨3,40,.struct [(0,1),(1,1),(2,1)],[.nl true 1 none,.v (.int .i64 0),.v (.int .i64 0)]⟩
 | 69=>some ⟨3,56,.struct [(0,1),(1,1),(2,1)],[.nl true 4 none,.nl true 4 none,.v (.bool false)]⟩
 | 70=>some ⟨3,56,.struct [(0,1),(1,1),(2,1)],[.nl true 4 none,.nl true 4 none,.v (.bool false)]⟩
 | 75=>some ⟨1,8,.ptr,[.v (.pointer none)]⟩
 | 76=>some ⟨3,56,.struct [(0,1),(1,1),(2,1)],[.nl true 4 none,.nl true 4 none,.v (.bool false)]⟩
 | 77=>some ⟨3,56,.struct [(0,1),(1,1),(2,1)],[.nl true 4 none,.nl true 4 none,.v (.bool false)]⟩
 | 80=>some ⟨1,24,.slice 84,[.nl true 3 none]⟩
 | 83=>some ⟨3,32,.struct [(0,1),(1,1),(2,1)],[.v (.string .empty),.v (.int .i64 0),.v (.int .i64 0)]⟩
 | 84=>some ⟨3,32,.struct [(0,1),(1,1),(2,1)],[.v (.string .empty),.v (.int .i64 0),.v (.int .i64 0)]⟩
 | 85=>some ⟨1,8,.ptr,[.v (.pointer none)]⟩
 | 86=>some ⟨5,88,.struct [(0,2),(2,1),(3,1),(4,1)],[.nl true 4 none,.nl true 5 none,.v (.int .i64 0),.nl true 1 none,.v (.bool false)]⟩
 | 87=>some ⟨5,88,.struct [(0,2),(2,1),(3,1),(4,1)],[.nl true 4 none,.nl true 5 none,.v (.int .i64 0),.nl true 1 none,.v (.bool false)]⟩
 | 96=>some ⟨1,8,.ptr,[.v (.pointer none)]⟩
 | 98=>some ⟨1,8,.int .u64,[.v (.int .u64 0)]⟩
 | 103=>some ⟨1,24,.slice 132,[.nl true 3 none]⟩
 | 106=>some ⟨1,8,.ptr,[.v (.pointer none)]⟩
 | 107=>some ⟨5,72,.struct [(0,1),(1,1),(2,1),(3,1),(4,1)],[.nl true 3 none,.v (.int .i64 0),.v (.bool false),.v (.int .i64 0),.nl true 4 none]⟩
 | 108=>some ⟨5,72,.struct [(0,1),(1,1),(2,1),(3,1),(4,1)],[.nl true 3 none,.v (.int .i64 0),.v (.bool false),.v (.int .i64 0),.nl true 4 none]⟩
 | 110=>some ⟨1,8,.ptr,[.v (.pointer none)]⟩
 | 112=>some ⟨6,88,.struct [(0,1),(1,1),(2,1),(3,1),(4,1),(5,1)],[.v (.pointer none),.nl true 1 none,.nl true 1 none,.v (.int .i64 0),.v (.string .empty),.v (.bool false)]⟩
 | 113=>some ⟨6,88,.struct [(0,1),(1,1),(2,1),(3,1),(4,1),(5,1)],[.v (.pointer none),.nl true 1 none,.nl true 1 none,.v (.int .i64 0),.v (.string .empty),.v (.bool false)]⟩
 | 131=>some ⟨3,32,.struct [(0,1),(1,1),(2,1)],[.v (.int .i64 0),.v (.string .empty),.v (.int .i64 0)]⟩
 | 132=>some ⟨3,32,.struct [(0,1),(1,1),(2,1)],[.v (.int .i64 0),.v (.string .empty),.v (.int .i64 0)]⟩
 | _=>none
theorem ty_ok (t:TypeId) (ti:TI) (h:ty t=some ti):TIok Tryz.prog t ti:=by
 unfold ty at h;split at h
 ·cases h;exact ⟨by kernel_rfl,Tryz.underlying2,rfl⟩
 ·cases h;exact ⟨by kernel_rfl,Tryz.underlying3,rfl⟩
 ·cases h;exact ⟨by kernel_rfl,Tryz.underlying4,rfl⟩
 ·cases h;exact ⟨by kernel_rfl,Tryz.underlying5,rfl⟩
 ·cases h;exact ⟨by kernel_rfl,(show bH Tryz.prog 7=some [(0,1),(1,1),(2,1),(3,1)] by kernel_rfl),rfl⟩
 ·cases h;exact ⟨by kernel_rfl,Tryz.underlying9,rfl⟩
 ·cases h;exact ⟨by kernel_rfl,Tryz.underlying12,rfl⟩
 ·cases h;exact ⟨by kernel_rfl,(show bH Tryz.prog 13=some [(0,1),(1,1)] by kernel_rfl),rfl⟩
 ·cases h;exact ⟨by kernel_rfl,Tryz.underlying22,rfl⟩
 ·cases h;exact ⟨by kernel_rfl,Tryz.underlying24,rfl⟩
 ·cases h;exact ⟨by kernel_rfl,Tryz.underlying25,rfl⟩
 ·cases h;exact ⟨by kernel_rfl,(show bH Tryz.prog 26=some [(0,1),(1,1)] by kernel_rfl),rfl⟩
 ·cases h;exact ⟨by kernel_rfl,(show bH Tryz.prog 27=some [(0,1),(1,1)] by kernel_rfl),rfl⟩
 ·cases h;exact ⟨by kernel_rfl,Tryz.underlying36,rfl⟩
 ·cases h;exact ⟨by kernel_rfl,⟨_,Tryz.underlying43⟩,rfl⟩
 ·cases h;exact ⟨by kernel_rfl,Tryz.underlying47,rfl⟩
 ·cases h;exact ⟨by kernel_rfl,(show bH Tryz.prog 48=some [(0,1),(1,1),(2,1),(3,1),(4,1)] by kernel_rfl),rfl⟩
 ·cases h;exact ⟨by kernel_rfl,(show bH Tryz.prog 49=some [(0,1),(1,1),(2,1),(3,1),(4,1)] by kernel_rfl),rfl⟩
 ·cases h;exact ⟨by kernel_rfl,(show bH Tryz.prog 52=some [(0,1),(1,1),(2,1),(3,1)] by kernel_rfl),rfl⟩
 ·cases h;exact ⟨by kernel_rfl,(show bH Tryz.prog 53=some [(0,1),(1,1),(2,1),(3,1)] by kernel_rfl),rfl⟩
 ·cases h;exact ⟨by kernel_rfl,Tryz.underlying58,rfl⟩
 ·cases h;exact ⟨by kernel_rfl,(show bH Tryz.prog 60=some [(0,1),(1,1)] by kernel_rfl),rfl⟩
 ·cases h;exact ⟨by kernel_rfl,(show bH Tryz.prog 61=some [(0,1),(1,1)] by kernel_rfl),rfl⟩
 ·cases h;exact ⟨by kernel_rfl,Tryz.underlying63,rfl⟩
 ·cases h;exact ⟨by kernel_rfl,(show bH Tryz.prog 64=some [(0,1),(1,1),(2,1)] by kernel_rfl),rfl⟩
 ·cases h;exact ⟨by kernel_rfl,(show bH Tryz.prog 65=some [(0,1),(1,1),(2,1)] by kernel_rfl),rfl⟩
 ·cases h;exact ⟨by kernel_rfl,(show bH Tryz.prog 69=some [(0,1),(1,1),(2,1)] by kernel_rfl),rfl⟩
 ·cases h;exact ⟨by kernel_rfl,(show bH Tryz.prog 70=some [(0,1),(1,1),(2,1)] by kernel_rfl),rfl⟩
 ·cases h;exact ⟨by kernel_rfl,⟨_,Tryz.underlying75⟩,rfl⟩
 ·cases h;exact ⟨by kernel_rfl,(show bH Tryz.prog 76=some [(0,1),(1,1),(2,1)] by kernel_rfl),rfl⟩
 ·cases h;exact ⟨by kernel_rfl,(show bH Tryz.prog 77=some [(0,1),(1,1),(2,1)] by kernel_rfl),rfl⟩
 ·cases h;exact ⟨by kernel_rfl,Tryz.underlying80,rfl⟩
 ·cases h;exact ⟨by kernel_rfl,(show bH Tryz.prog 83=some [(0,1),(1,1),(2,1)] by kernel_rfl),rfl⟩
 ·cases h;exact ⟨by kernel_rfl,(show bH Tryz.prog 84=some [(0,1),(1,1),(2,1)] by kernel_rfl),rfl⟩
 ·cases h;exact ⟨by kernel_rfl,⟨_,Tryz.underlying85⟩,rfl⟩
 ·cases h;exact ⟨by kernel_rfl,(show bH Tryz.prog 86=some [(0,2),(2,1),(3,1),(4,1)] by kernel_rfl),rfl⟩
 ·cases h;exact ⟨by kernel_rfl,(show bH Tryz.prog 87=some [(0,2),(2,1),(3,1),(4,1)] by kernel_rfl),rfl⟩
 ·cases h;exact ⟨by kernel_rfl,⟨_,Tryz.underlying96⟩,rfl⟩
 ·cases h;exact ⟨by kernel_rfl,Tryz.underlying98,rfl⟩
 ·cases h;exact ⟨by kernel_rfl,Tryz.underlying103,rfl⟩
 ·cases h;exact ⟨by kernel_rfl,⟨_,Tryz.underlying106⟩,rfl⟩
 ·cases h;exact ⟨by kernel_rfl,(show bH Tryz.prog 107=some [(0,1),(1,1),(2,1),(3,1),(4,1)] by kernel_rfl),rfl⟩
 ·cases h;exact ⟨by kernel_rfl,(show bH Tryz.prog 108=some [(0,1),(1,1),(2,1),(3,1),(4,1)] by kernel_rfl),rfl⟩
 ·cases h;exact ⟨by kernel_rfl,⟨_,Tryz.underlying110⟩,rfl⟩
 ·cases h;exact ⟨by kernel_rfl,(show bH Tryz.prog 112=some [(0,1),(1,1),(2,1),(3,1),(4,1),(5,1)] by kernel_rfl),rfl⟩
 ·cases h;exact ⟨by kernel_rfl,(show bH Tryz.prog 113=some [(0,1),(1,1),(2,1),(3,1),(4,1),(5,1)] by kernel_rfl),rfl⟩
 ·cases h;exact ⟨by kernel_rfl,(show bH Tryz.prog 131=some [(0,1),(1,1),(2,1)] by kernel_rfl),rfl⟩
 ·cases h;exact ⟨by kernel_rfl,(show bH Tryz.prog 132=some [(0,1),(1,1),(2,1)] by kernel_rfl),rfl⟩
 cases h
noncomputable def E:Env:=⟨Tryz.prog,ty,ty_ok,by kernel_rfl,[(0,fun cs=>∃ m,cs[0]? = some (.int .i64 m))]⟩
@[simp] theorem E_ty2:E.ty 2=some ⟨1,8,.int .i64,[.v (.int .i64 0)]⟩:=rfl
@[simp] theorem E_ty3:E.ty 3=some ⟨1,8,.int .i64,[.v (.int .i64 0)]⟩:=rfl
@[simp] theorem E_ty4:E.ty 4=some ⟨1,1,.bool,[.v (.bool false)]⟩:=rfl
@[simp] theorem E_ty5:E.ty 5=some ⟨1,1,.int .u8,[.v (.int .u8 0)]⟩:=rfl
@[simp] theorem E_ty7:E.ty 7=some ⟨4,24,.struct [(0,1),(1,1),(2,1),(3,1)],[.v (.int .i64 0),.v (.int .i64 0),.v (.bool false),.v (.int .u8 0)]⟩:=rfl
@[simp] theorem E_ty9:E.ty 9=some ⟨1,16,.str,[.v (.string .empty)]⟩:=rfl
@[simp] theorem E_ty12:E.ty 12=some ⟨1,8,.int .u64,[.v (.int .u64 0)]⟩:=rfl
@[simp] theorem E_ty13:E.ty 13=some ⟨2,24,.struct [(0,1),(1,1)],[.v (.string .empty),.v (.int .u64 0)]⟩:=rfl
@[simp] theorem E_ty22:E.ty 22=some ⟨1,24,.slice 5,[.nl true 1 none]⟩:=rfl
@[simp] theorem E_ty24:E.ty 24=some ⟨1,24,.slice 53,[.nl true 4 none]⟩:=rfl
@[simp] theorem E_ty25:E.ty 25=some ⟨1,24,.slice 49,[.nl true 5 none]⟩:=rfl
@[simp] theorem E_ty26:E.ty 26=some ⟨2,48,.struct [(0,1),(1,1)],[.nl true 4 none,.nl true 5 none]⟩:=rfl
@[simp] theorem E_ty27:E.ty 27=some ⟨2,48,.struct [(0,1),(1,1)],[.nl true 4 none,.nl true 5 none]⟩:=rfl
@[simp] theorem E_ty36:E.ty 36=some ⟨1,24,.slice 3,[.nl true 1 none]⟩:=rfl
@[simp] theorem E_ty43:E.ty 43=some ⟨1,8,.ptr,[.v (.pointer none)]⟩:=rfl
@[simp] theorem E_ty47:E.ty 47=some ⟨1,24,.slice 61,[.nl true 2 none]⟩:=rfl
@[simp] theorem E_ty48:E.ty 48=some ⟨5,64,.struct [(0,1),(1,1),(2,1),(3,1),(4,1)],[.v (.string .empty),.nl true 2 none,.v (.int .i64 0),.v (.int .i64 0),.v (.int .i64 0)]⟩:=rfl
@[simp] theorem E_ty49:E.ty 49=some ⟨5,64,.struct [(0,1),(1,1),(2,1),(3,1),(4,1)],[.v (.string .empty),.nl true 2 none,.v (.int .i64 0),.v (.int .i64 0),.v (.int .i64 0)]⟩:=rfl
@[simp] theorem E_ty52:E.ty 52=some ⟨4,56,.struct [(0,1),(1,1),(2,1),(3,1)],[.v (.int .i64 0),.v (.int .i64 0),.v (.string .empty),.nl true 1 none]⟩:=rfl
@[simp] theorem E_ty53:E.ty 53=some ⟨4,56,.struct [(0,1),(1,1),(2,1),(3,1)],[.v (.int .i64 0),.v (.int .i64 0),.v (.string .empty),.nl true 1 none]⟩:=rfl
@[simp] theorem E_ty58:E.ty 58=some ⟨1,24,.slice 4,[.nl true 1 none]⟩:=rfl
@[simp] theorem E_ty60:E.ty 60=some ⟨2,24,.struct [(0,1),(1,1)],[.v (.string .empty),.v (.int .i64 0)]⟩:=rfl
@[simp] theorem E_ty61:E.ty 61=some ⟨2,24,.struct [(0,1),(1,1)],[.v (.string .empty),.v (.int .i64 0)]⟩:=rfl
@[simp] theorem E_ty63:E.ty 63=some ⟨1,24,.slice 9,[.nl true 1 none]⟩:=rfl
@[simp] theorem E_ty64:E.ty 64=some ⟨3,40,.struct [(0,1),(1,1),(2,1)],[.nl true 1 none,.v (.int .i64 0),.v (.int .i64 0)]⟩:=rfl
@[simp] theorem E_ty65:E.ty 65=some ⟨3,40,.struct [(0,1),(1,1),(2,1)],[.nl true 1 none,.v (.int .i64 0),.v (.int .i64 0)]⟩:=rfl
@[simp] theorem E_ty69:E.ty 69=some ⟨3,56,.struct [(0,1),(1,1),(2,1)],[.nl true 4 none,.nl true 4 none,.v (.bool false)]⟩:=rfl
@[simp] theorem E_ty70:E.ty 70=some ⟨3,56,.struct [(0,1),(1,1),(2,1)],[.nl true 4 none,.nl true 4 none,.v (.bool false)]⟩:=rfl
@[simp] theorem E_ty75:E.ty 75=some ⟨1,8,.ptr,[.v (.pointer none)]⟩:=rfl
@[simp] theorem E_ty76:E.ty 76=some ⟨3,56,.struct [(0,1),(1,1),(2,1)],[.nl true 4 none,.nl true 4 none,.v (.bool false)]⟩:=rfl
@[simp] theorem E_ty77:E.ty 77=some ⟨3,56,.struct [(0,1),(1,1),(2,1)],[.nl true 4 none,.nl true 4 none,.v (.bool false)]⟩:=rfl
@[simp] theorem E_ty80:E.ty 80=some ⟨1,24,.slice 84,[.nl true 3 none]⟩:=rfl
@[simp] theorem E_ty83:E.ty 83=some ⟨3,32,.struct [(0,1),(1,1),(2,1)],[.v (.string .empty),.v (.int .i64 0),.v (.int .i64 0)]⟩:=rfl
@[simp] theorem E_ty84:E.ty 84=some ⟨3,32,.struct [(0,1),(1,1),(2,1)],[.v (.string .empty),.v (.int .i64 0),.v (.int .i64 0)]⟩:=rfl
@[simp] theorem E_ty85:E.ty 85=some ⟨1,8,.ptr,[.v (.pointer none)]⟩:=rfl
@[simp] theorem E_ty86:E.ty 86=some ⟨5,88,.struct [(0,2),(2,1),(3,1),(4,1)],[.nl true 4 none,.nl true 5 none,.v (.int .i64 0),.nl true 1 none,.v (.bool false)]⟩:=rfl
@[simp] theorem E_ty87:E.ty 87=some ⟨5,88,.struct [(0,2),(2,1),(3,1),(4,1)],[.nl true 4 none,.nl true 5 none,.v (.int .i64 0),.nl true 1 none,.v (.bool false)]⟩:=rfl
@[simp] theorem E_ty96:E.ty 96=some ⟨1,8,.ptr,[.v (.pointer none)]⟩:=rfl
@[simp] theorem E_ty98:E.ty 98=some ⟨1,8,.int .u64,[.v (.int .u64 0)]⟩:=rfl
@[simp] theorem E_ty103:E.ty 103=some ⟨1,24,.slice 132,[.nl true 3 none]⟩:=rfl
@[simp] theorem E_ty106:E.ty 106=some ⟨1,8,.ptr,[.v (.pointer none)]⟩:=rfl
@[simp] theorem E_ty107:E.ty 107=some ⟨5,72,.struct [(0,1),(1,1),(2,1),(3,1),(4,1)],[.nl true 3 none,.v (.int .i64 0),.v (.bool false),.v (.int .i64 0),.nl true 4 none]⟩:=rfl
@[simp] theorem E_ty108:E.ty 108=some ⟨5,72,.struct [(0,1),(1,1),(2,1),(3,1),(4,1)],[.nl true 3 none,.v (.int .i64 0),.v (.bool false),.v (.int .i64 0),.nl true 4 none]⟩:=rfl
@[simp] theorem E_ty110:E.ty 110=some ⟨1,8,.ptr,[.v (.pointer none)]⟩:=rfl
@[simp] theorem E_ty112:E.ty 112=some ⟨6,88,.struct [(0,1),(1,1),(2,1),(3,1),(4,1),(5,1)],[.v (.pointer none),.nl true 1 none,.nl true 1 none,.v (.int .i64 0),.v (.string .empty),.v (.bool false)]⟩:=rfl
@[simp] theorem E_ty113:E.ty 113=some ⟨6,88,.struct [(0,1),(1,1),(2,1),(3,1),(4,1),(5,1)],[.v (.pointer none),.nl true 1 none,.nl true 1 none,.v (.int .i64 0),.v (.string .empty),.v (.bool false)]⟩:=rfl
@[simp] theorem E_ty131:E.ty 131=some ⟨3,32,.struct [(0,1),(1,1),(2,1)],[.v (.int .i64 0),.v (.string .empty),.v (.int .i64 0)]⟩:=rfl
@[simp] theorem E_ty132:E.ty 132=some ⟨3,32,.struct [(0,1),(1,1),(2,1)],[.v (.int .i64 0),.v (.string .empty),.v (.int .i64 0)]⟩:=rfl
@[simp] theorem feq_61:aO8 E 61=some [false,true]:=by kernel_rfl
end Go.Proofs.T
namespace Go.OM
section
variable {α β ρ γ δ:Type} {X:Option α} {r:α} {Φ P Q:Prop} {C:Ctx} {E:Env} {σ τ:St} {S:Exit→St→Prop} {c d:Code} {K:St→Prop} {ops os l:List Oper} {o:Oper} {n id id':Nat} {ks:List Nat} {xs:Array Oper}
theorem aRl {l:List β} {i:Int} {x:β→Option α} {B:Prop} {j:Nat} (k:∀ y,Hg (Φ∧0 ≤ i∧i < l.length∧B∧j < l.length∧l[j]? = some y∧(∀ hl:j < l.length,l[j]'hl=y)) (x y) r P)
  (hj:i.toNat=j:=by first | (simp;done) | (simp;rfl) | rfl) (hB:i < l.length→B:=by first | (intro h;simp at h;exact h) | exact fun _=>trivial):Hg Φ ((aP l i).bind x) r P:=fun f e=>by
 obtain ⟨y,h1,h2⟩:=bS e;obtain ⟨a,b,c,d⟩:=gS h1;subst hj;exact k y ⟨f,a,b,hB b,by omega,c,d⟩ h2
theorem f_at {z:ByteArray} {i:Int} {x:Int→Option α} {j:Nat} (k:∀ y,Hg (Φ∧0 ≤ i∧i < z.size∧j < z.size∧sC z i=y) (x y) r P)
  (hj:i.toNat=j:=by first | (simp;done) | (simp;rfl) | rfl):Hg Φ ((sAt z i).bind x) r P:=fun f e=>by
 obtain ⟨y,h1,h2⟩:=bS e;obtain ⟨a,b,c⟩:=aPl h1;subst hj;exact k y ⟨f,a,b,by omega,c⟩ h2
theorem aRh {z:ByteArray} {lo hi:Int} {x:ByteArray→Option α} (k:∀ y,Hg (Φ∧0 ≤ lo∧0 ≤ hi∧lo.toNat ≤ hi.toNat∧hi.toNat ≤ z.size∧z.extract lo.toNat hi.toNat=y∧max lo 0 ≤ hi∧lo ≤ hi∧hi ≤ z.size) (x y) r P):Hg Φ ((eK z lo hi).bind x) r P:=fun f e=>by
 obtain ⟨y,h1,h2⟩:=bS e;exact k y ⟨f,aNf h1⟩ h2
theorem aRn {z w:ByteArray} {x:ByteArray→Option α} (k:∀ y,Hg (Φ∧z.size + w.size ≤ 9223372036854775807∧z ++ w=y) (x y) r P):Hg Φ ((bN z w).bind x) r P:=fun f e=>by
 obtain ⟨y,h1,h2⟩:=bS e;exact k y ⟨f,aC h1⟩ h2
theorem aRk {a b:Int} {x:Int→Option α} {J:Int→Prop} (k:∀ y,Hg (Φ∧(aHq a b=some y)∧J y) (x y) r P) (hJ:∀ y,aHq a b=some y→J y:=by intro y h;have h:=tV h;first | (simp at h;exact h) | exact h):Hg Φ ((aHq a b).bind x) r P:=fun f e=>by
 obtain ⟨y,h1,h2⟩:=bS e;exact k y ⟨f,h1,hJ y h1⟩ h2
theorem aRj {kk:IntKind} {a b:Int} {x:Int→Option α} (k:∀ y,Hg (Φ∧¬ b < 0∧kk.wrap (a * 2 ^ (min b.toNat kk.bits))=y) (x y) r P):Hg Φ ((shlI kk a b).bind x) r P:=fun f e=>by
 obtain ⟨y,h1,h2⟩:=bS e;exact k y ⟨f,aNd h1⟩ h2
theorem aRi {kk:IntKind} {a b:Int} {x:Int→Option α} (k:∀ y,Hg (Φ∧¬ b < 0∧a.fdiv (2 ^ (min b.toNat kk.bits))=y) (x y) r P):Hg Φ ((shrI kk a b).bind x) r P:=fun f e=>by
 obtain ⟨y,h1,h2⟩:=bS e;exact k y ⟨f,aNc h1⟩ h2
class Enc (β:Type) where
 all:((β→T)→Prop)→Prop
 pf:∀ P,(∀ f,P f)→all P
instance:Enc Int:=⟨fun P=>P vi∧P (vk .u8),fun _ h=>⟨h _,h _⟩⟩
instance:Enc Bool:=⟨fun P=>P vb,fun _ h=>h _⟩
instance:Enc ByteArray:=⟨fun P=>P vs,fun _ h=>h _⟩
instance:Enc (List Int):=⟨fun P=>P (eSl true 1 vi)∧P (eSl false 1 vi),fun _ h=>⟨h _,h _⟩⟩
instance:Enc (List Bool):=⟨fun P=>P (eSl true 1 vb)∧P (eSl false 1 vb),fun _ h=>⟨h _,h _⟩⟩
instance:Enc (List (List Bool)):=⟨fun P=>P (eSl true 1 (eSl true 1 vb))∧P (eSl false 1 (eSl false 1 vb)),fun _ h=>⟨h _,h _⟩⟩
instance:Enc (List ByteArray):=⟨fun P=>P (eSl true 1 vs)∧P (eSl false 1 vs),fun _ h=>⟨h _,h _⟩⟩
theorem aRm {u:β} {l:List β} {i:Int} {x:β→Option α} [en:Enc β] {B:Prop} {A:β→Prop} {j:Nat} (k:∀ y,Hg (Φ∧0 ≤ i∧i < (u :: l).length∧B∧j < (u :: l).length∧(u :: l)[j]? = some y∧(∀ hl:j < (u :: l).length,(u :: l)[j]'hl=y)∧A y) (x y) r P)
  (hj:i.toNat=j:=by first | (simp;done) | (simp;rfl) | rfl) (hB:i < (u :: l).length→B:=by first | (intro h;simp at h;exact h) | exact fun _=>trivial)
  (hA:∀ y,en.all (fun f=>((u :: l).map f)[j]? = some (f y)∧∀ hl:j < ((u :: l).map f).length,((u :: l).map f)[j]'hl=f y)→A y:=by intro y h;simp only [Enc.all,List.map_cons,List.map_nil] at h;exact h):Hg Φ ((aP (u :: l) i).bind x) r P:=fun f e=>by
 obtain ⟨y,h1,h2⟩:=bS e;obtain ⟨a,b,c,d⟩:=gS h1;subst hj;have hm:∀ g:β→T,((u :: l).map g)[i.toNat]? = some (g y):=fun g=>by rw [List.getElem?_map,c];rfl
 exact k y ⟨f,a,b,hB b,by omega,c,d,hA y (en.pf _ fun g=>⟨hm g,fun hl=>(List.getElem?_eq_some_iff.1 (hm g)).2⟩)⟩ h2
instance:Enc GNode:=⟨fun P=>P (GNode.enc true)∧P (GNode.enc false),fun _ h=>⟨h _,h _⟩⟩
instance:Enc GParam:=⟨fun P=>P GParam.enc,fun _ h=>h _⟩
instance:Enc GFn:=⟨fun P=>P (GFn.enc true)∧P (GFn.enc false),fun _ h=>⟨h _,h _⟩⟩
instance:Enc GProgram:=⟨fun P=>P (GProgram.enc true)∧P (GProgram.enc false),fun _ h=>⟨h _,h _⟩⟩
instance:Enc Gl01Cur:=⟨fun P=>P (Gl01Cur.enc true)∧P (Gl01Cur.enc false),fun _ h=>⟨h _,h _⟩⟩
instance:Enc Gpacker:=⟨fun P=>P (Gpacker.enc true)∧P (Gpacker.enc false),fun _ h=>⟨h _,h _⟩⟩
instance:Enc Gl04Pack:=⟨fun P=>P (Gl04Pack.enc true)∧P (Gl04Pack.enc false),fun _ h=>⟨h _,h _⟩⟩
instance:Enc GVar:=⟨fun P=>P GVar.enc,fun _ h=>h _⟩
instance:Enc Gl07Seen:=⟨fun P=>P (Gl07Seen.enc true)∧P (Gl07Seen.enc false),fun _ h=>⟨h _,h _⟩⟩
instance:Enc GSign:=⟨fun P=>P GSign.enc,fun _ h=>h _⟩
instance:Enc Gl05Read:=⟨fun P=>P (Gl05Read.enc true)∧P (Gl05Read.enc false),fun _ h=>⟨h _,h _⟩⟩
instance:Enc Gl05Made:=⟨fun P=>P (Gl05Made.enc true)∧P (Gl05Made.enc false),fun _ h=>⟨h _,h _⟩⟩
theorem aQ2 {l:List β} {j:Nat} {z:β} {x:List β→Option α} [en:Enc β] {A:List β→Prop} (k:∀ y,Hg (Φ∧A y) (x y) r P)
  (hA:∀ y,en.all (fun f=>(l.map f).set j (f z)=y.map f)→A y:=by intro y h;simp [Enc.all] at h;exact h):Hg Φ (bF (l.set j z) x) r P:=fun f e=>by
 obtain ⟨y,h1,h2⟩:=bZ e;exact k y ⟨f,hA y (en.pf _ fun _=>qT h1)⟩ h2
theorem aRp {m:Nat} {b:List β} {x:List β→Option α} {L:Prop} (k:∀ y,Hg (Φ∧L) (x y) r P)
  (hL:(([]:List β).length + b.length) * m ≤ 140737488355328∧([]:List β).length + b.length ≤ 140737488355328→L:=by first | (intro h;simp at h;exact h) | exact fun _=>trivial):Hg Φ ((bO m [] b).bind x) r P:=fun f e=>by
 obtain ⟨y,h1,h2⟩:=bS e;obtain ⟨a1,a2,a3⟩:=aS h1;exact k y ⟨f,hL ⟨a1,a2⟩⟩ h2
theorem aRo {m:Nat} {a b:List β} {x:List β→Option α} [en:Enc β] {L:Prop} {A:List β→Prop} (k:∀ y,Hg (Φ∧L∧A y) (x y) r P)
  (hL:(a.length + b.length) * m ≤ 140737488355328∧a.length + b.length ≤ 140737488355328→L:=by first | (intro h;simp at h;exact h) | exact fun _=>trivial)
  (hA:∀ y,en.all (fun f=>a.map f ++ b.map f=y.map f)→A y:=by intro y h;simp [Enc.all] at h;exact h):Hg Φ ((bO m a b).bind x) r P:=fun f e=>by
 obtain ⟨y,h1,h2⟩:=bS e;obtain ⟨a1,a2,a3⟩:=aS h1;exact k y ⟨f,hL ⟨a1,a2⟩,hA y (en.pf _ fun _=>kG a3)⟩ h2
theorem f_mk {m n:Int} {z:β} {x:List β→Option α} [en:Enc β] {L:Prop} {A:List β→Prop} (k:∀ y,Hg (Φ∧0 ≤ n∧m * n ≤ 140737488355328∧n ≤ 140737488355328∧L∧A y) (x y) r P)
  (hL:0 ≤ n∧m * n ≤ 140737488355328∧n ≤ 140737488355328→L:=by first | (intro h;simp at h;exact h) | exact fun _=>trivial)
  (hA:∀ y,en.all (fun f=>List.replicate n.toNat (f z)=y.map f)→A y:=by intro y h;simp [Enc.all] at h;exact h):Hg Φ ((mkI m n z).bind x) r P:=fun f e=>by
 obtain ⟨y,h1,h2⟩:=bS e;obtain ⟨a1,a2,a3,a4⟩:=mS h1;exact k y ⟨f,a1,a2,a3,hL ⟨a1,a2,a3⟩,hA y (en.pf _ fun _=>aR9 a4)⟩ h2
theorem f_sl {l:List β} {lo hi:Int} {x:List β→Option α} [en:Enc β] {A:List β→Prop} (k:∀ y,Hg (Φ∧0 ≤ lo∧0 ≤ hi∧lo.toNat ≤ hi.toNat∧lo.toNat ≤ l.length∧hi.toNat ≤ l.length∧max lo 0 ≤ hi∧lo ≤ hi∧hi ≤ l.length∧A y) (x y) r P)
  (hA:∀ y,en.all (fun f=>((l.map f).take hi.toNat).drop lo.toNat=y.map f)→A y:=by intro y h;simp [Enc.all] at h;exact h):Hg Φ ((eS l lo hi).bind x) r P:=fun f e=>by
 obtain ⟨y,h1,h2⟩:=bS e;obtain ⟨a,b,c,d,e',f',g,h⟩:=aN2 h1;exact k y ⟨f,a,b,c,by omega,d,f',g,h,hA y (en.pf _ fun _=>aR3 e')⟩ h2
theorem f_if {b:Bool} {p q:Option α} {B N:Prop} (k:(b=true→Hg (Φ∧b=true∧B) p r P)∧(¬ b=true→Hg (Φ∧¬ b=true∧N) q r P))
  (hB:b=true→B:=by first | (intro h;simp at h;exact h) | exact fun _=>trivial) (hN:¬ b=true→N:=by first | (intro h;simp at h;exact h) | exact fun _=>trivial):Hg Φ (if b=true then p else q) r P:=fun f e=>by
 by_cases hb:b=true
 ·rw [if_pos hb] at e;exact k.1 hb ⟨f,hb,hB hb⟩ e
 rw [if_neg hb] at e;exact k.2 hb ⟨f,hb,hN hb⟩ e
theorem f_ie {x y:Int} {p q:Option α} {B N:Prop} (k:((x == y)=true→Hg (Φ∧(x == y)=true∧(x != y)=false∧B) p r P)∧(¬ (x == y)=true→Hg (Φ∧(x == y)=false∧(x != y)=true∧N) q r P))
  (hB:(x == y)=true→B:=by first | (intro h;simp at h;exact h) | exact fun _=>trivial) (hN:¬ (x == y)=true→N:=by first | (intro h;simp at h;exact h) | exact fun _=>trivial):Hg Φ (if (x == y)=true then p else q) r P:=fun f e=>by
 by_cases hb:(x == y)=true
 ·rw [if_pos hb] at e;exact k.1 hb ⟨f,hb,by simp only [bne,hb,Bool.not_true],hB hb⟩ e
 rw [if_neg hb] at e;exact k.2 hb ⟨f,by simpa using hb,by simpa using hb,hN hb⟩ e
theorem f_in {x y:Int} {p q:Option α} {B N:Prop} (k:((x != y)=true→Hg (Φ∧(x != y)=true∧(x == y)=false∧B) p r P)∧(¬ (x != y)=true→Hg (Φ∧(x != y)=false∧(x == y)=true∧N) q r P))
  (hB:(x != y)=true→B:=by first | (intro h;simp at h;exact h) | exact fun _=>trivial) (hN:¬ (x != y)=true→N:=by first | (intro h;simp at h;exact h) | exact fun _=>trivial):Hg Φ (if (x != y)=true then p else q) r P:=fun f e=>by
 by_cases hb:(x != y)=true
 ·rw [if_pos hb] at e;exact k.1 hb ⟨f,hb,by simpa using hb,hB hb⟩ e
 rw [if_neg hb] at e;exact k.2 hb ⟨f,by simpa using hb,by simpa using hb,hN hb⟩ e
def Ct (C:Ctx) (n:Nat) (ks kb:List Nat) (inv:γ→St) (v:γ) (σ:St):Prop:=∃ fz,σ.shed C.N fz ks kb=some (inv v)
def Lp (C:Ctx) (n:Nat) (ks kb:List Nat) (inv:γ→St) (s:γ ⊕ δ) (σ:St):Prop:=∃ v,s = .inl v∧Ct C n ks kb inv v σ
def aNs:AV→Bool
 | .t x=>x.own1
 | _=>false
def fzOf (ks:List Nat) (σ τ:St):List Nat:=ks.filter fun n=>aNs (σ.get n) && !aNs (τ.get n)
def upS (ks kb:List Nat) (σ:St) (tm:List (Nat × AV)) (bx:List (Nat × List T)):St:=⟨cN (σ.keep ks kb).tm tm,aX (σ.keep ks kb).bx bx⟩
theorem h_lv {v' v:γ} {kb kc:List Nat} {inv:γ→St} (cx:Cx C n kc:=by assumption) (h:Φ→∃ fz,σ.shed n fz ks kb=some (inv v'):=by intro f;first | (refine ⟨[],?_⟩;simp [f];done) | (refine ⟨[],?_⟩;simp [f, *];done) | (refine ⟨fzOf ks σ (inv v'),?_⟩;simp [f,fzOf,aNs,T.own1,T.ro,T.roL];done) | fail):Hg Φ (some v') v (Ct C n ks kb inv v σ):=fun f e=>by
 cases e;unfold Ct;rw [cx.1];exact h f
theorem h_ll {v':γ} {v:γ ⊕ δ} {kb kc:List Nat} {inv:γ→St} (cx:Cx C n kc:=by assumption) (h:Φ→∃ fz,σ.shed n fz ks kb=some (inv v'):=by intro f;first | (refine ⟨[],?_⟩;simp [f];done) | (refine ⟨[],?_⟩;simp [f, *];done) | (refine ⟨fzOf ks σ (inv v'),?_⟩;simp [f,fzOf,aNs,T.own1,T.ro,T.roL];done) | fail):Hg Φ (some (.inl v')) v (Lp C n ks kb inv v σ):=fun f e=>by
 cases e;refine ⟨v',rfl,?_⟩;unfold Ct;rw [cx.1];exact h f
theorem eY {z:δ} {s:γ ⊕ δ} {out:δ} (k:Hg Φ (some z) out P) (ho:∀ o,s = .inr o→o=out:=by assumption):Hg Φ (some (.inr z)) s P:=fun f e=>k f (congrArg some (ho z (Option.some.inj e).symm))
def cid:Code→Nat
 | .region id _ _=>id
 | .seq c _=>cid c
 | .block _ c=>cid c
 | .loop c=>cid c
 | .cond _ c _=>cid c
 | _=>0
def csz:Code→Nat
 | .seq c d=>csz c + csz d + 1
 | .block _ c=>csz c + 1
 | .loop c=>csz c + 1
 | .cond _ c d=>csz c + csz d + 1
 | _=>1
theorem bG {f F:γ→Option (γ ⊕ δ)} {g0:γ} {out:δ} {inv:γ→St} {kc:List Nat} (i:Nat) (ks kb:List Nat) (tm:γ→List (Nat × AV)) (bx:γ→List (Nat × List T)) (hF:f=F) (k:∀ g s,(∀ o,s = .inr o→o=out)→Hg True (F g) s (O E C c (aO (Lp C n ks kb inv s) S) (inv g)))
  (hi:cid c * 1000 + csz c=i:=by rfl) (cx:Cx C n kc:=by assumption) (hv:∀ v,upS ks kb σ (tm v) (bx v)=inv v:=by intro v;simp [upS,cN,aX];rfl) (hk:Φ→∃ fz,σ.shed n fz ks kb=some (inv g0):=by intro f;first | (refine ⟨[],?_⟩;simp [f];done) | (refine ⟨[],?_⟩;simp [f, *];done) | (refine ⟨fzOf ks σ (inv g0),?_⟩;simp [f,fzOf,aNs,T.own1,T.ro,T.roL];done) | fail):Hg Φ (aI f g0) out (O E C (.loop c) S σ):=fun h e=>by
 subst hF;obtain ⟨fz,hk⟩:=hk h;refine O.loopO fz ks kb inv f out g0 e (by rw [cx.1];exact hk) fun g s h1 h2=>(k g s h2 trivial h1).mono fun e σ h3=>?_
 cases e with
 | normal =>
  obtain ⟨v,h4,fz,h5⟩:=h3;exact ⟨v,fz,h4,h5⟩
 | _=>exact h3
theorem cG {t:Option γ} {x:γ→Option α} {inv:γ→St} {kc:List Nat} (i:Nat) (ks kb:List Nat) (tm:γ→List (Nat × AV)) (bx:γ→List (Nat × List T)) (k:(∀ v,Hg Φ t v (O E C c (aO (Ct C n ks kb inv v) S) σ))∧∀ v,Hg True (x v) r (O E C d S (inv v)))
  (hi:cid c * 1000 + csz c=i:=by rfl) (cx:Cx C n kc:=by assumption) (hv:∀ v,upS ks kb σ (tm v) (bx v)=inv v:=by intro v;simp [upS,cN,aX];rfl):Hg Φ (t.bind x) r (O E C (.seq c d) S σ):=fun h e=>by
 obtain ⟨v,h1,h2⟩:=bS e;refine O.seq ((k.1 v h h1).mono fun e σ h3=>?_);cases e with
 | normal =>
  obtain ⟨fz,h5⟩:=h3;exact O.shed h5 (k.2 v trivial h2)
 | _=>exact h3
theorem eW {t:Option (γ ⊕ α)} {x:γ ⊕ α→Option α} {inv:γ→St} {kc:List Nat} (i:Nat) (ks kb:List Nat) (tm:γ→List (Nat × AV)) (bx:γ→List (Nat × List T)) (k:(∀ s,(∀ o,s = .inr o→o=r)→Hg Φ t s (O E C c (aO (Lp C n ks kb inv s) S) σ))∧∀ v,Hg True (x (.inl v)) r (O E C d S (inv v)))
  (hi:cid c * 1000 + csz c=i:=by rfl) (cx:Cx C n kc:=by assumption) (hx:∀ z,x (.inr z)=some z:=by intro z;rfl) (hv:∀ v,upS ks kb σ (tm v) (bx v)=inv v:=by intro v;simp [upS,cN,aX];rfl):Hg Φ (t.bind x) r (O E C (.seq c d) S σ):=fun h e=>by
 obtain ⟨s,h1,h2⟩:=bS e;refine O.seq ((k.1 s (fun z hz=>by rw [hz,hx] at h2;exact Option.some.inj h2) h h1).mono fun e σ h3=>?_)
 cases e with
 | normal =>
  obtain ⟨v,h4,fz,h5⟩:=h3;subst h4;exact O.shed h5 (k.2 v trivial h2)
 | _=>exact h3
theorem cR {t:Option γ} {x:γ→Option α} {inv:γ→St} {kc:List Nat} (i:Nat) (ks kb:List Nat) (tm:γ→List (Nat × AV)) (bx:γ→List (Nat × List T)) (k:(∀ v,Hg Φ t v (σ.wps E C.N l l (Ct C n ks kb inv v)))∧∀ v,Hg True (x v) r (O E C d S (inv v)))
  (hi:id=i:=by rfl) (cx:Cx C n kc:=by assumption) (hl:xs.toList=l:=by rfl) (hp:yK kc l=true:=by rfl) (hv:∀ v,upS ks kb σ (tm v) (bx v)=inv v:=by intro v;simp [upS,cN,aX];rfl):Hg Φ (t.bind x) r (O E C (.seq (.region id xs false) d) S σ):=fun h e=>by
 obtain ⟨v,h1,h2⟩:=bS e;subst hl;refine O.seq ((O.region (S:=aO (Ct C n ks kb inv v) fun _ _=>False) (cx.2 _ hp) (k.1 v h h1)).mono fun e σ h3=>?_);cases e with
 | normal =>
  obtain ⟨fz,h5⟩:=h3;exact O.shed h5 (k.2 v trivial h2)
 | _=>exact h3.elim
section
variable {g:Operand} {ys:List Operand} {f:FuncId} {args:List Arg} {ms:List (Mode × Operand)} {β1 β2 β3 β4:Type}
theorem h_cc {e:Option β} {x:β→Option α} {res:β→List T} {outs:β→List (List T)} {τ:β→St} (k:∀ y,Hg Φ (x y) r ((τ y).wps E C.N ops os K)) (cx:Cx C n ks) (hc:fN o=some (g,ys)) (hf:σ.fn g=some f) (con:∀ y,Con E f (e=some y) args (res y) (outs y)) (en:Ent E f)
  (hl:args.length=ys.length) (hm:Φ→pI σ ys args=ms) (h1:Φ→∀ y,σ.wants ops o=some true∧vO args (fun pls σ2=>zB (fun s=>s=τ y) (St.land n o.dst (ms.any fun m=>m.1.isBor) pls (res y) (outs y) σ2)) (σ.lend n ms)):Hg Φ (e.bind x) r (σ.wps E C.N ops (o :: os) K):=fun f e'=>by
 obtain ⟨y,he,hx⟩:=bS e';have hk:=k y f hx;have h2:=h1 f y;exact @aJl C E σ (τ y) K ops os o n ks g ys _ args (res y) (outs y) ms _ (con y) en he cx hc hl (hm f) ⟨h2.1,hf,h2.2⟩ hk
theorem h_c0 {e:Option Unit} {x:Unit→Option α} {res:List T} {outs:List (List T)} {τ:St} (k:Hg Φ (x ()) r (τ.wps E C.N ops os K)) (cx:Cx C n ks:=by assumption) (hc:fN o=some (g,ys):=by rfl) (hf:σ.fn g=some f:=by first | rfl | (simp;done) | (simp;rfl)) (con:Con E f (e=some ()) args res outs:=by infer_instance) (en:Ent E f:=by infer_instance)
  (hl:args.length=ys.length:=by rfl) (hm:Φ→pI σ ys args=ms:=by first | (intro f;simp [pI,pC,T.own1,f];done) | (intro f;simp [pI,pC,T.own1,f];rfl))
  (h1:Φ→σ.wants ops o=some true∧vO args (fun pls σ2=>zB (fun s=>s=τ) (St.land n o.dst (ms.any fun m=>m.1.isBor) pls res outs σ2)) (σ.lend n ms):=by first | (intro f;simp [f];rfl) | (intro f;simp [f, *];rfl)):Hg Φ (e.bind x) r (σ.wps E C.N ops (o :: os) K) :=
 h_cc (τ:=fun _=>τ) (fun _=>k) cx hc hf (fun _=>con) en hl hm fun f _=>h1 f
theorem h_c2 {e:Option (β1 × β2)} {x:β1 × β2→Option α} {x':β1→β2→Option α} {res:β1→β2→List T} {outs:β1→β2→List (List T)} {τ:β1→β2→St} (k:∀ y z,Hg Φ (x' y z) r ((τ y z).wps E C.N ops os K)) (cx:Cx C n ks:=by assumption) (hc:fN o=some (g,ys):=by rfl) (hf:σ.fn g=some f:=by first | rfl | (simp;done) | (simp;rfl)) (con:∀ y z,Con E f (e=some (y,z)) args (res y z) (outs y z):=by infer_instance) (en:Ent E f:=by infer_instance)
  (hl:args.length=ys.length:=by rfl) (hm:Φ→pI σ ys args=ms:=by first | (intro f;simp [pI,pC,T.own1,f];done) | (intro f;simp [pI,pC,T.own1,f];rfl))
  (h1:Φ→∀ y z,σ.wants ops o=some true∧vO args (fun pls σ2=>zB (fun s=>s=τ y z) (St.land n o.dst (ms.any fun m=>m.1.isBor) pls (res y z) (outs y z) σ2)) (σ.lend n ms):=by first | (intro f y z;simp [f];rfl) | (intro f y z;simp [f, *];rfl)) (hx:∀ y z,x (y,z)=x' y z:=by intro y z;first | (dsimp only;rfl) | rfl):Hg Φ (e.bind x) r (σ.wps E C.N ops (o :: os) K) :=
 h_cc (res:=fun p=>res p.1 p.2) (outs:=fun p=>outs p.1 p.2) (τ:=fun p=>τ p.1 p.2) (fun p=>by have:=hx p.1 p.2;rw [show x p=x' p.1 p.2 from this];exact k p.1 p.2) cx hc hf (fun p=>con p.1 p.2) en hl hm fun f p=>h1 f p.1 p.2
theorem h_c3 {e:Option (β1 × β2 × β3)} {x:β1 × β2 × β3→Option α} {x':β1→β2→β3→Option α} {res:β1→β2→β3→List T} {outs:β1→β2→β3→List (List T)} {τ:β1→β2→β3→St} (k:∀ y z u,Hg Φ (x' y z u) r ((τ y z u).wps E C.N ops os K)) (cx:Cx C n ks:=by assumption) (hc:fN o=some (g,ys):=by rfl) (hf:σ.fn g=some f:=by first | rfl | (simp;done) | (simp;rfl)) (con:∀ y z u,Con E f (e=some (y,z,u)) args (res y z u) (outs y z u):=by infer_instance) (en:Ent E f:=by infer_instance)
  (hl:args.length=ys.length:=by rfl) (hm:Φ→pI σ ys args=ms:=by first | (intro f;simp [pI,pC,T.own1,f];done) | (intro f;simp [pI,pC,T.own1,f];rfl))
  (h1:Φ→∀ y z u,σ.wants ops o=some true∧vO args (fun pls σ2=>zB (fun s=>s=τ y z u) (St.land n o.dst (ms.any fun m=>m.1.isBor) pls (res y z u) (outs y z u) σ2)) (σ.lend n ms):=by first | (intro f y z u;simp [f];rfl) | (intro f y z u;simp [f, *];rfl)) (hx:∀ y z u,x (y,z,u)=x' y z u:=by intro y z u;first | (dsimp only;rfl) | rfl):Hg Φ (e.bind x) r (σ.wps E C.N ops (o :: os) K) :=
 h_cc (res:=fun p=>res p.1 p.2.1 p.2.2) (outs:=fun p=>outs p.1 p.2.1 p.2.2) (τ:=fun p=>τ p.1 p.2.1 p.2.2) (fun p=>by have:=hx p.1 p.2.1 p.2.2;rw [show x p=x' p.1 p.2.1 p.2.2 from this];exact k p.1 p.2.1 p.2.2) cx hc hf (fun p=>con p.1 p.2.1 p.2.2) en hl hm fun f p=>h1 f p.1 p.2.1 p.2.2
class ConIO (E:Env) (f:FuncId) (p:Prop) (args:outParam (List Arg)) (res:outParam (List T)) (i:outParam Nat) (y':outParam T):Prop where
 ok:p→OkIO E f args res [] [(i,y')]
def aRe:Nat→List Operand→Option (List Operand × Operand × List Operand)
 | 0,x :: xs=>some ([],x,xs)
 | i + 1,x :: xs=>(aRe i xs).map fun r=>(x :: r.1,r.2)
 | _,[]=>none
theorem aO1:∀ {i:Nat} {l pre xs:List Operand} {x:Operand},aRe i l=some (pre,x,xs)→l=pre ++ x :: xs∧pre.length=i
 | 0,y :: ys,pre,xs,x,h=>by
  simp only [aRe,Option.some.injEq,Prod.mk.injEq] at h;obtain ⟨rfl,rfl,rfl⟩:=h;exact ⟨rfl,rfl⟩
 | i + 1,y :: ys,pre,xs,x,h=>by
  simp only [aRe,Option.map_eq_some_iff,Prod.mk.injEq] at h;obtain ⟨⟨p',x',xs'⟩,h1,rfl,h2⟩:=h;simp only [Prod.mk.injEq] at h2;obtain ⟨rfl,rfl⟩:=h2;obtain ⟨rfl,rfl⟩:=aO1 h1;exact ⟨rfl,rfl⟩
 | 0,[],_,_,_,h=>by simp [aRe] at h
 | _ + 1,[],_,_,_,h=>by simp [aRe] at h
theorem h_io {e:Option β1} {x:β1→Option α} {res:List T} {i:Nat} {y':β1→T} {τ:β1→St} {pre zs:List Operand} {z:Operand} (k:∀ y,Hg Φ (x y) r ((τ y).wps E C.N ops os K)) (cx:Cx C n ks:=by assumption) (hc:fN o=some (g,ys):=by rfl) (hf:σ.fn g=some f:=by first | rfl | (simp;done) | (simp;rfl)) (con:∀ y,ConIO E f (e=some y) args res i (y' y):=by infer_instance) (en:Ent E f:=by infer_instance)
  (hs:aRe i ys=some (pre,z,zs):=by rfl) (h1:Φ→∀ y,σ.wants ops o=some true∧ioK args (fun s=>s=τ y) (σ.callIO n o.dst pre z zs (y' y) res):=by first | (intro f y;simp [f];rfl) | (intro f y;simp [f, *];rfl)):Hg Φ (e.bind x) r (σ.wps E C.N ops (o :: os) K):=fun f e'=>by
 obtain ⟨y,he,hx⟩:=bS e';have hk:=k y f hx;obtain ⟨hw,h2⟩:=h1 f y;obtain ⟨h3,h4⟩:=aO1 hs;refine aCt pre (by rw [hc,h3]) en.ok (by rw [h4];exact (con y).ok he) fun K' hK=>⟨hw,hf,?_⟩
 rw [cx.1];unfold ioK at h2 ⊢;split at h2
 ·obtain ⟨h5,h6⟩:=h2;rename_i z' hz;exact ⟨h5,hK _ (by rw [h6];exact hk)⟩
 exact h2
theorem aY {fn : Func} (hf : E.P.funcs[f]? = some fn) (hn : (fn.name == "runtime.NumGoroutine") = false := by decide +kernel) (hb : fn.body.isNone = false := by rfl) : Ent E f := ⟨eO hf hn hb⟩
end
theorem xD {N:Nat} {K K':St→Prop} (hK:∀ σ,K σ→K' σ):∀ (os:List Oper) (σ:St),σ.wps E N ops os K→σ.wps E N ops os K'
 | [],σ,h=>hK _ h
 | o :: os,σ,h=>by
  simp only [St.wps] at h ⊢;split at h
  ·obtain ⟨σ1,h1,h2⟩:=h;exact ⟨σ1,h1,xD hK os _ h2⟩
  ·split at h
   ·rcases h with ⟨f,hf,he,⟨ms,args,pls,σ2,hms,hl,res,outs,hok,σ1,hb,hr⟩ | ⟨pre,x,xs',y',res,args,σ1,h0,hl,hok,hr⟩⟩ | ⟨f,n,ms,mc,args,pls,σ2,hf,he,hms,hmc,hl,res,outs,hok,σ1,hb,hr⟩
    ·exact .inl ⟨f,hf,he,.inl ⟨ms,args,pls,σ2,hms,hl,res,outs,hok,σ1,hb,xD hK os _ hr⟩⟩
    ·exact .inl ⟨f,hf,he,.inr ⟨pre,x,xs',y',res,args,σ1,h0,hl,hok,xD hK os _ hr⟩⟩
    exact .inr ⟨f,n,ms,mc,args,pls,σ2,hf,he,hms,hmc,hl,res,outs,hok,σ1,hb,xD hK os _ hr⟩
   obtain ⟨σ1,h1,h2⟩:=h;exact ⟨σ1,h1,xD hK os _ h2⟩
  exact h
def yC:List Operand→List Nat
 | []=>[]
 | .tmp n :: xs=>n :: yC xs
 | .const _ :: xs=>yC xs
 | .func _ :: xs=>yC xs
 | .global _ :: xs=>yC xs
def nE (l:List Oper) (o:Oper):List Nat:=(match o.guard with
 | some (j,_)=>((l[j]?).bind Oper.dst).toList
 | none=>[]) ++ yC o.op.operands.toList
def tdAux:List Oper→List (List Nat)→List (List Nat)
 | [],acc=>acc
 | o :: os,acc=>tdAux os (acc ++ [(List.range acc.length).filter fun j=>o.after.toList.any fun e=>Region.binds .any e && (e.on == j || (decide (e.on < acc.length) && (acc.getD e.on []).contains j))])
def tdOf (l:List Oper):List (List Nat):=tdAux l []
def clB (l:List Oper) (m:Nat):Bool:=(List.range m).all fun i=>match l[i]? with
 | some o=>(nE l o).all fun n=>(List.range m).all fun j=>match (l[j]?).bind Oper.dst with
  | some d=>!(d == n) || (decide (j < i) && ((tdOf l).getD i []).contains j)
  | none=>false
 | none=>false
def frB (l:List Oper) (m:Nat) (tm:List Nat):Bool:=(l.take m).all fun o=>match o.dst with
 | some d=>(tm.all fun e=>!(e == d))
 | none=>false
def ndB:List Oper→Bool
 | []=>true
 | o :: os=>(match o.dst with
  | some d=>os.all fun o'=>!(o'.dst == some d)
  | none=>false) && ndB os
def mOf (l:List Oper):Nat:=((List.range (l.length + 1)).find? fun m=>(List.range l.length).all fun i=>decide (i < m) || ((tdOf l).getD i []).length == i).getD l.length
def drB (l:List Oper) (m:Nat) (tm:List Nat):Bool:=decide (m ≤ l.length) && ndB (l.take m) && frB l m tm && aPt 0 l && aJe (tdOf l) m l.length && tdB (tdOf l) 0 l && clB l m
def owed1 (E:Env) (C:Ctx) (σ:St) (l:List Oper) (dn:List (Nat × AV)) (o:Oper) (e:Nat × AV):Prop :=
 ∀ τ:St,τ.bx=σ.bx→(∀ n ∈ nE l o,look τ.tm n=look (σ.tm ++ dn) n)→(∀ n,look σ.tm n ≠ none→look τ.tm n=look σ.tm n)→look τ.tm e.1=some .u→∀ K:St→Prop,K ⟨put τ.tm e.1 e.2,σ.bx⟩→τ.wps E C.N l [o] K
def Dr (E:Env) (C:Ctx) (σ:St) (l:List Oper) (K:List (Nat × AV)→Prop):List Oper→List (Nat × AV)→Prop
 | [],dn=>K dn
 | o :: os,dn=>∃ e,o.dst=some e.1∧owed1 E C σ l dn o e∧Dr E C σ l K os (dn ++ [e])
theorem Dr.get {K:List (Nat × AV)→Prop}:∀ (os:List Oper) (dn:List (Nat × AV)),Dr E C σ l K os dn→∃ vs,vs.map (fun e=>some e.1)=os.map Oper.dst∧(∀ i o,os[i]? = some o→∃ e,vs[i]? = some e∧owed1 E C σ l (dn ++ vs.take i) o e)∧K (dn ++ vs)
 | [],dn,h=>⟨[],rfl,fun i o h=>by simp at h,by simpa [Dr] using h⟩
 | o :: os,dn,h=>by
  obtain ⟨e,h1,h2,h3⟩:=h;obtain ⟨vs,q1,q2,q3⟩:=Dr.get os (dn ++ [e]) h3;refine ⟨e :: vs,by simp [q1,h1],fun i o' hi=>?_,by simpa using q3⟩
  cases i with
  | zero =>
   simp only [List.getElem?_cons_zero,Option.some.injEq] at hi;subst hi;exact ⟨e,rfl,by simpa using h2⟩
  | succ i =>
   obtain ⟨e',g1,g2⟩:=q2 i o' (by simpa using hi)
   exact ⟨e',by simpa using g1,by simpa using g2⟩
theorem aIy {p:Nat→Oper→Prop}:∀ (l:List Oper) (n:Nat),(∀ i o,l[i]? = some o→p (n + i) o)→aC4 p n l
 | [],n,h=>trivial
 | o :: os,n,h=>⟨by simpa using h 0 o rfl,aIy os (n + 1) fun i o' hi=>by
  have:=h (i + 1) o' (by simpa using hi)
  rwa [show n + (i + 1)=n + 1 + i by omega] at this⟩
theorem aMa {tm:List (Nat × AV)} {n:Nat} (h:tm.all (fun e=>!(e.1 == n))=true):look tm n=none:=by
 induction tm with
 | nil=>rfl
 | cons e tm ih =>
  obtain ⟨k,x⟩:=e;simp only [List.all_cons,Bool.and_eq_true,Bool.not_eq_true',beq_eq_false_iff_ne] at h;simp only [look,if_neg h.1];exact ih h.2
theorem aKv:∀ (l:List (Nat × AV)) (j:Nat) (e:Nat × AV),(l.map Prod.fst).Nodup→l[j]? = some e→look l e.1=some e.2
 | [],j,e,_,h=>by simp at h
 | (k,v) :: l,j,e,hn,h=>by
  simp only [List.map_cons,List.nodup_cons] at hn;cases j with
  | zero=>simp only [List.getElem?_cons_zero,Option.some.injEq] at h;subst h;simp [look]
  | succ j =>
   simp only [List.getElem?_cons_succ] at h;have hne:k ≠ e.1:=fun hk=>hn.1 (List.mem_map.2 ⟨e,List.mem_of_getElem? h,hk.symm⟩);simp only [look,if_neg hne];exact aKv l j e hn.2 h
theorem aQn:∀ (os:List Oper) (vs:List (Nat × AV)),ndB os=true→vs.map (fun e=>some e.1)=os.map Oper.dst→(vs.map Prod.fst).Nodup
 | [],[],_,_=>by simp
 | [],_ :: _,_,h=>by simp at h
 | _ :: _,[],_,h=>by simp at h
 | o :: os,e :: vs,h,hv=>by
  simp only [List.map_cons,List.cons.injEq] at hv;simp only [ndB,← hv.1,Bool.and_eq_true,List.all_eq_true,Bool.not_eq_true',beq_eq_false_iff_ne] at h;rw [List.map_cons,List.nodup_cons];refine ⟨fun hm=>?_,aQn os vs h.2 hv.2⟩;obtain ⟨x,hx,he⟩:=List.mem_map.1 hm;have:some x.1 ∈ os.map Oper.dst:=by rw [← hv.2];exact List.mem_map.2 ⟨x,hx,rfl⟩
  obtain ⟨o',h1,h2⟩:=List.mem_map.1 this;exact h.1 o' h1 (by rw [h2,he])
theorem O.drawS (m:Nat) (hl:xs.toList=l) (hp:oX C.pin l=true) (hb:drB l m (σ.tm.map Prod.fst)=true) (h:Dr E C σ l (fun vs=>(⟨σ.tm ++ vs,σ.bx⟩:St).wps E C.N l (l.drop m) fun σ'=>S .normal σ') (l.take m) []):O E C (.region id xs true) S σ:=by
 simp only [drB,Bool.and_eq_true,decide_eq_true_eq] at hb;obtain ⟨⟨⟨⟨⟨⟨hm,hnd⟩,hfr⟩,hord⟩,hlast⟩,htd⟩,hcl⟩:=hb;obtain ⟨vs,q1,q2,q3⟩:=Dr.get _ _ h;have hlen:vs.length=m:=by
  have:=congrArg List.length q1;simp only [List.length_map,List.length_take] at this;omega
 have hnd':=aQn _ _ hnd q1;have hfresh:∀ n ∈ vs.map Prod.fst,look σ.tm n=none:=by
  intro n hn;obtain ⟨x,hx,rfl⟩:=List.mem_map.1 hn;have:some x.1 ∈ (l.take m).map Oper.dst:=by rw [← q1];exact List.mem_map.2 ⟨x,hx,rfl⟩
  obtain ⟨o',h1,h2⟩:=List.mem_map.1 this;have h3:=List.all_eq_true.1 hfr o' h1;simp only [h2,List.all_map] at h3;exact aMa h3
 refine O.dT hl hp vs (tdOf l) (by omega) (decide_eq_true hnd') hfresh hord (by rw [hlen];exact hlast) htd ?_ fun K hK=>?_
 ·rw [hlen];refine aIy _ 0 fun i o hi=>?_;rw [Nat.zero_add];obtain ⟨e,he,how⟩:=q2 i o hi;have hev:bQ vs i=e:=by unfold bQ;rw [List.getD_eq_getElem?_getD,he];rfl
  have him:i < m:=by have:=(List.getElem?_eq_some_iff.1 he).1;omega
  intro τ h1 h2 h3 h4 K hK;rw [hev] at h4 hK;have hli:l[i]? = some o:=by rw [List.getElem?_take,if_pos him] at hi;exact hi
  have hsl:∀ n ∈ nE l o,∀ j,j < m→∀ x,vs[j]? = some x→x.1=n→j < i∧j ∈ (tdOf l).getD i []:=by
   intro n hn j hj x hx hxn;have g1:=List.all_eq_true.1 hcl i (List.mem_range.2 him);simp only [hli] at g1;have g2:=List.all_eq_true.1 (List.all_eq_true.1 g1 n hn) j (List.mem_range.2 hj);have g3:(l[j]?).bind Oper.dst=some x.1:=by
    have:(vs.map fun e=>some e.1)[j]? = ((l.take m).map Oper.dst)[j]?:=by rw [q1]
    rw [List.getElem?_map,hx,List.getElem?_map,List.getElem?_take,if_pos hj] at this;cases hlj:l[j]? with
    | none=>rw [hlj] at this;simp at this
    | some y=>rw [hlj] at this;simp at this;simp [← this]
   simp only [g3,hxn,beq_self_eq_true,Bool.not_true,Bool.false_or,Bool.and_eq_true,decide_eq_true_eq,List.contains_iff_mem] at g2;exact g2
  refine how τ h1 (fun n hn=>?_) (fun n hn=>h2 n fun hk=>hn (hfresh n hk)) h4 K (hK _ (by rw [h1]))
  rw [List.nil_append,pP];by_cases hk:n ∈ vs.map Prod.fst
  ·obtain ⟨x,hx,hxn⟩:=List.mem_map.1 hk;obtain ⟨j,hj⟩:=List.getElem?_of_mem hx;have hjm:j < m:=by have:=(List.getElem?_eq_some_iff.1 hj).1;omega
   obtain ⟨g1,g2⟩:=hsl n hn j hjm x hj hxn;have g3:=h3 j g2;have hvj:bQ vs j=x:=by unfold bQ;rw [List.getD_eq_getElem?_getD,hj];rfl
   rw [hvj,hxn] at g3;rw [g3,hfresh n hk];have:=aKv (vs.take i) j x (hnd'.sublist ((List.take_sublist i vs).map _)) (by rw [List.getElem?_take,if_pos g1];exact hj)
   rw [hxn] at this;exact this.symm
  rw [h2 n hk];cases look σ.tm n with
  | some y=>rfl
  | none =>
   refine (wD fun hm=>hk ?_).symm;obtain ⟨x,hx,hxn⟩:=List.mem_map.1 hm;exact List.mem_map.2 ⟨x,List.mem_of_mem_take hx,hxn⟩
 rw [hlen];exact xD hK _ _ q3
theorem h_dr {kk:List Nat} (k:Hg Φ X r (Dr E C σ l (fun vs=>(⟨σ.tm ++ vs,σ.bx⟩:St).wps E C.N l (l.drop (mOf l)) fun σ'=>S .normal σ') (l.take (mOf l)) [])) (cx:Cx C n ks:=by assumption) (hl:xs.toList=l:=by rfl) (hp:yK ks l=true:=by rfl) (hk:σ.tm.map Prod.fst=kk:=by simp only [List.map_cons,List.map_nil];rfl) (hb:drB l (mOf l) kk=true:=by decide +kernel):Hg Φ X r (O E C (.region id xs true) S σ):=fun f e=>O.drawS _ hl (cx.2 _ hp) (by rw [hk];exact hb) (k f e)
theorem h_dn {K:List (Nat × AV)→Prop} {dn:List (Nat × AV)} (k:Hg Φ X r (K dn)):Hg Φ X r (Dr E C σ l K [] dn):=k
theorem h_dq {K:List (Nat × AV)→Prop} {dn dn':List (Nat × AV)} {d:Nat} {v:AV} {ss:List Nat} (k:Hg Φ X r (Dr E C σ l K os dn')) (cx:Cx C n ks:=by assumption) (hd:o.dst=some d:=by rfl) (hc:fN o=none:=by rfl) (hs:nE l o=ss:=by simp [nE,yC,Op.operands,Call.operands];rfl)
  (h1:Φ→∀ τ:St,τ.bx=σ.bx→(∀ n ∈ ss,look τ.tm n=look (σ.tm ++ dn) n)→(∀ n,look σ.tm n ≠ none→look τ.tm n=look σ.tm n)→look τ.tm d=some .u→τ.stepK E n l o (fun s=>s=⟨put τ.tm d v,σ.bx⟩):=by intro f τ hbx hd hb hf;(try simp [look] at hd);first | (simp [f,hbx,hd,hb,hf,look];rfl) | (simp [f,hbx,hb,hf,look];rfl))
  (hdn:dn ++ [(d,v)]=dn':=by simp only [List.nil_append,List.cons_append];rfl):Hg Φ X r (Dr E C σ l K (o :: os) dn):=fun f e=>by
 subst hs hdn;exact ⟨(d,v),hd,fun τ h1' h2' h3' h4' K hK=>aH cx.1 (wN hK) hc (h1 f τ h1' h2' h3' h4'),k f e⟩
theorem h_ds {K:List (Nat × AV)→Prop} {dn dn':List (Nat × AV)} {d:Nat} {v:AV} {ss:List Nat} (k:Hg Φ X r (Dr E C σ l K os dn')) (cx:Cx C n ks:=by assumption) (hd:o.dst=some d:=by rfl) (hc:fN o=none:=by rfl) (hs:nE l o=ss:=by simp [nE,yC,Op.operands,Call.operands];rfl)
  (h1:Φ→∀ τ:St,τ.bx=σ.bx→(∀ n ∈ ss,look τ.tm n=look (σ.tm ++ dn) n)→(∀ n,look σ.tm n ≠ none→look τ.tm n=look σ.tm n)→look τ.tm d=some .u→τ.stepK E n l o (fun s=>s=⟨put τ.tm d v,σ.bx⟩):=by intro f τ hbx hd hb hf;(try simp [look] at hd);(simp [f,hbx,hd,hb,hf,look, *];rfl))
  (hdn:dn ++ [(d,v)]=dn':=by simp only [List.nil_append,List.cons_append];rfl):Hg Φ X r (Dr E C σ l K (o :: os) dn):=fun f e=>by
 subst hs hdn;exact ⟨(d,v),hd,fun τ h1' h2' h3' h4' K hK=>aH cx.1 (wN hK) hc (h1 f τ h1' h2' h3' h4'),k f e⟩
section
variable {g:Operand} {ys:List Operand} {f:FuncId} {args:List Arg} {ms:List (Mode × Operand)} {β1 β2:Type} {KD:List (Nat × AV)→Prop} {dn:List (Nat × AV)} {d:Nat} {ss:List Nat}
def Tk (σ:St) (dn:List (Nat × AV)) (ss:List Nat) (d:Nat) (τ:St):Prop:=τ.bx=σ.bx∧(∀ n ∈ ss,look τ.tm n=look (σ.tm ++ dn) n)∧(∀ n,look σ.tm n ≠ none→look τ.tm n=look σ.tm n)∧look τ.tm d=some .u
theorem h_do {dn':List (Nat × AV)} (k:Hg Φ X r (Dr E C σ l KD os dn')) (cx:Cx C n ks:=by assumption) (hd:o.dst=some d:=by rfl) (hs:nE l o=ss:=by simp [nE,yC,Op.operands,Call.operands];rfl)
  (h1:Φ→∀ τ:St,Tk σ dn ss d τ→τ.wants l o=some false∧τ.put? n (some d) (.tup [])=some ⟨put τ.tm d (.tup []),σ.bx⟩:=by intro f τ hT;have hbx:=hT.1;have hd:=hT.2.1;have hb:=hT.2.2.1;have hf:=hT.2.2.2;clear hT;(try simp [look] at hd);first | (simp [f,hbx,hd,hb,hf,look];done) | (simp [f,hbx,hb,hf,look];done) | (simp [f,hbx,hd,hb,hf,look, *];done) | fail)
  (hdn:dn ++ [(d,.tup [])]=dn':=by simp only [List.nil_append,List.cons_append];rfl):Hg Φ X r (Dr E C σ l KD (o :: os) dn):=fun f e=>by
 subst hs hdn;refine ⟨(d,.tup []),hd,fun τ h1' h2' h3' h4' K hK=>?_,k f e⟩;obtain ⟨q1,q2⟩:=h1 f τ ⟨h1',h2',h3',h4'⟩;exact wO fun K' hK'=>⟨q1,_,by rw [cx.1,hd];exact q2,hK' _ (wN hK)⟩
theorem h_dcc {e:Option β} {x:β→Option α} {res:β→List T} {outs:β→List (List T)} {v:β→AV} {dn':β→List (Nat × AV)} (k:∀ y,Hg Φ (x y) r (Dr E C σ l KD os (dn' y))) (cx:Cx C n ks) (hc:fN o=some (g,ys)) (hd:o.dst=some d) (hs:nE l o=ss) (con:∀ y,Con E f (e=some y) args (res y) (outs y)) (en:Ent E f)
  (hl:args.length=ys.length) (hm:Φ→∀ τ:St,Tk σ dn ss d τ→pI τ ys args=ms)
  (h1:Φ→∀ τ:St,Tk σ dn ss d τ→∀ y,τ.wants l o=some true∧τ.fn g=some f∧vO args (fun pls σ2=>zB (fun s=>s=⟨put τ.tm d (v y),σ.bx⟩) (St.land n (some d) (ms.any fun m=>m.1.isBor) pls (res y) (outs y) σ2)) (τ.lend n ms))
  (hdn:∀ y,dn ++ [(d,v y)]=dn' y):Hg Φ (e.bind x) r (Dr E C σ l KD (o :: os) dn):=fun f e'=>by
 obtain ⟨y,he,hx⟩:=bS e';subst hs;refine ⟨(d,v y),hd,fun τ h1' h2' h3' h4' K hK=>?_,by rw [hdn];exact k y f hx⟩
 have hT:Tk σ dn (nE l o) d τ:=⟨h1',h2',h3',h4'⟩;exact @aJl C E τ ⟨put τ.tm d (v y),σ.bx⟩ K l [] o n ks g ys _ args (res y) (outs y) ms _ (con y) en he cx hc hl (hm f τ hT) (by rw [hd];exact h1 f τ hT y) (wN hK)
theorem h_dc1 {e:Option β} {x:β→Option α} {res:β→List T} {outs:β→List (List T)} {v:β→AV} {dn':β→List (Nat × AV)} (k:∀ y,Hg Φ (x y) r (Dr E C σ l KD os (dn' y))) (cx:Cx C n ks:=by assumption) (hc:fN o=some (g,ys):=by rfl) (hf:σ.fn g=some f:=by first | rfl | (simp;done) | (simp;rfl)) (hd:o.dst=some d:=by rfl) (hs:nE l o=ss:=by simp [nE,yC,Op.operands,Call.operands];rfl) (con:∀ y,Con E f (e=some y) args (res y) (outs y):=by infer_instance) (en:Ent E f:=by infer_instance)
  (hl:args.length=ys.length:=by rfl) (hm:Φ→∀ τ:St,Tk σ dn ss d τ→pI τ ys args=ms:=by intro f τ hT;have hbx:=hT.1;have hd:=hT.2.1;have hb:=hT.2.2.1;have hf:=hT.2.2.2;clear hT;(try simp [look] at hd);first | (simp [pI,pC,T.own1,f,hd];done) | (simp [pI,pC,T.own1,f,hd];rfl) | (simp [pI,pC,T.own1,f];done) | fail)
  (h1:Φ→∀ τ:St,Tk σ dn ss d τ→∀ y,τ.wants l o=some true∧τ.fn g=some f∧vO args (fun pls σ2=>zB (fun s=>s=⟨put τ.tm d (v y),σ.bx⟩) (St.land n (some d) (ms.any fun m=>m.1.isBor) pls (res y) (outs y) σ2)) (τ.lend n ms):=by intro f τ hT y;have hbx:=hT.1;have hd:=hT.2.1;have hb:=hT.2.2.1;have hf:=hT.2.2.2;clear hT;(try simp [look] at hd);first | (simp [f,hbx,hd,hb,hf,look];rfl) | (simp [f,hbx,hb,hf,look];rfl) | (simp [f,hbx,hd,hb,hf,look, *];rfl))
  (hdn:∀ y,dn ++ [(d,v y)]=dn' y:=by intro y;simp only [List.nil_append,List.cons_append];rfl):Hg Φ (e.bind x) r (Dr E C σ l KD (o :: os) dn):=h_dcc k cx hc hd hs con en hl hm h1 hdn
theorem h_dc2 {e:Option (β1 × β2)} {x:β1 × β2→Option α} {x':β1→β2→Option α} {res:β1→β2→List T} {outs:β1→β2→List (List T)} {v:β1→β2→AV} {dn':β1→β2→List (Nat × AV)} (k:∀ y z,Hg Φ (x' y z) r (Dr E C σ l KD os (dn' y z))) (cx:Cx C n ks:=by assumption) (hc:fN o=some (g,ys):=by rfl) (hf:σ.fn g=some f:=by first | rfl | (simp;done) | (simp;rfl)) (hd:o.dst=some d:=by rfl) (hs:nE l o=ss:=by simp [nE,yC,Op.operands,Call.operands];rfl) (con:∀ y z,Con E f (e=some (y,z)) args (res y z) (outs y z):=by infer_instance) (en:Ent E f:=by infer_instance)
  (hl:args.length=ys.length:=by rfl) (hm:Φ→∀ τ:St,Tk σ dn ss d τ→pI τ ys args=ms:=by intro f τ hT;have hbx:=hT.1;have hd:=hT.2.1;have hb:=hT.2.2.1;have hf:=hT.2.2.2;clear hT;(try simp [look] at hd);first | (simp [pI,pC,T.own1,f,hd];done) | (simp [pI,pC,T.own1,f,hd];rfl) | (simp [pI,pC,T.own1,f];done) | fail)
  (h1:Φ→∀ τ:St,Tk σ dn ss d τ→∀ y z,τ.wants l o=some true∧τ.fn g=some f∧vO args (fun pls σ2=>zB (fun s=>s=⟨put τ.tm d (v y z),σ.bx⟩) (St.land n (some d) (ms.any fun m=>m.1.isBor) pls (res y z) (outs y z) σ2)) (τ.lend n ms):=by intro f τ hT y z;have hbx:=hT.1;have hd:=hT.2.1;have hb:=hT.2.2.1;have hf:=hT.2.2.2;clear hT;(try simp [look] at hd);first | (simp [f,hbx,hd,hb,hf,look];rfl) | (simp [f,hbx,hb,hf,look];rfl) | (simp [f,hbx,hd,hb,hf,look, *];rfl))
  (hdn:∀ y z,dn ++ [(d,v y z)]=dn' y z:=by intro y z;simp only [List.nil_append,List.cons_append];rfl) (hx:∀ y z,x (y,z)=x' y z:=by intro y z;first | (dsimp only;rfl) | rfl):Hg Φ (e.bind x) r (Dr E C σ l KD (o :: os) dn) :=
 h_dcc (res:=fun p=>res p.1 p.2) (outs:=fun p=>outs p.1 p.2) (v:=fun p=>v p.1 p.2) (dn':=fun p=>dn' p.1 p.2) (fun p=>by have:=hx p.1 p.2;rw [show x p=x' p.1 p.2 from this];exact k p.1 p.2) cx hc hd hs (fun p=>con p.1 p.2) en hl hm (fun f τ hT p=>h1 f τ hT p.1 p.2) fun p=>hdn p.1 p.2
end
def Lv (E:Env) (n:Nat) (rs:List ResultVar) (args:List Arg) (res:List T) (outs:List (List T)) (e:Exit) (σ:St):Prop:=(e = .ret ∨ e = .normal)∧σ.leave E n rs args=some (res,outs)
theorem eZ {f:FuncId} {fn:Func} {args:List Arg} {res:List T} {outs:List (List T)} {rs:List ResultVar} (hf:E.P.funcs[f]? = some fn) (k:∀ C,Cx C n []→Hg True X r (O E C c (Lv E n rs args res outs) (aBn n args))) (hb:fn.body=some c:=by rfl) (hn:fn.ntmps=n:=by conv=>lhs;whnf) (hr:fn.results.toList=rs:=by conv=>lhs;whnf) (hN:decide (args.length ≤ n)=true:=by rfl):Con E f (X=some r) args res outs:=by
 subst hn hr;exact ⟨fun h=>oB hf hb (of_decide_eq_true hN) fun C hC hP=>k C ⟨hC,pO (by rw [hP];rfl)⟩ trivial h⟩
theorem h_end {v:α} {rs:List ResultVar} {args:List Arg} {res:List T} {outs:List (List T)} {x:Exit} (h:Φ→v=r→σ.leave E n rs args=some (res,outs):=by intro f e;cases e;first | (simp;done) | (simp [f];done) | (simp [f, *];done) | fail) (hx:x = .ret ∨ x = .normal:=by first | exact .inl rfl | exact .inr rfl):Hg Φ (some v) r (Lv E n rs args res outs x σ):=fun f e=>⟨hx,h f (Option.some.inj e)⟩
end
theorem S {p q:Prop} (k:q) (h:q→p:=by first
 | (show _→Hg _ _ _ (St.wps _ _ _ (_ :: _) _ _);first
  | (show _→Hg _ (bF _ _) _ (St.wps _ _ _ (Oper.mk _ (.store _ _ _) _ _ _ _ :: _) _ _);exact fun k=>aQ2 k)
  | exact fun k=>h_q k
  | (show _→Hg _ (Option.bind _ _) _ _;first
  | (show _→Hg _ (Option.bind (aP (_ :: _) _) _) _ _;exact fun k=>aRm k)
  | (show _→Hg _ (Option.bind (aP _ _) _) _ _;exact fun k=>aRl k)
  | (show _→Hg _ (Option.bind (sAt _ _) _) _ _;exact fun k=>f_at k)
  | (show _→Hg _ (Option.bind (eK _ _ _) _) _ _;exact fun k=>aRh k)
  | (show _→Hg _ (Option.bind (bN _ _) _) _ _;exact fun k=>aRn k)
  | (show _→Hg _ (Option.bind (aHq _ _) _) _ _;exact fun k=>aRk k)
  | (show _→Hg _ (Option.bind (shlI _ _ _) _) _ _;exact fun k=>aRj k)
  | (show _→Hg _ (Option.bind (shrI _ _ _) _) _ _;exact fun k=>aRi k)
  | (show _→Hg _ (Option.bind (bO _ [] _) _) _ _;exact fun k=>aRp k)
  | (show _→Hg _ (Option.bind (bO _ _ _) _) _ _;exact fun k=>aRo k)
  | (show _→Hg _ (Option.bind (mkI _ _ _) _) _ _;exact fun k=>f_mk k)
  | (show _→Hg _ (Option.bind (eS _ _ _) _) _ _;exact fun k=>f_sl k))
  | (show _→Hg _ (bF _ _) _ _;exact fun k=>aQ2 k)
  | exact fun k=>h_qs k
  | (show _→Hg _ (Option.bind _ _) _ _;first | exact fun k=>h_c3 k | exact fun k=>h_c2 k | exact fun k=>h_c0 k | exact fun k=>h_c1 k | exact fun k=>h_io k) | exact fun k=>h_off k | exact fun k=>h_lB k | (show _→Hg _ (ite _ _ _) _ _;first | exact fun k=>f_ie k | exact fun k=>f_in k | exact fun k=>f_if k))
 | (show _→Hg _ _ _ (St.wps _ _ _ [] _ _);exact fun k=>h_nil k)
 | (show _→Hg _ _ _ (Dr _ _ _ _ _ (_ :: _) _);first
  | exact fun k=>h_dq k
  | (show _→Hg _ (Option.bind _ _) _ _;first
  | (show _→Hg _ (Option.bind (aP (_ :: _) _) _) _ _;exact fun k=>aRm k)
  | (show _→Hg _ (Option.bind (aP _ _) _) _ _;exact fun k=>aRl k)
  | (show _→Hg _ (Option.bind (sAt _ _) _) _ _;exact fun k=>f_at k)
  | (show _→Hg _ (Option.bind (eK _ _ _) _) _ _;exact fun k=>aRh k)
  | (show _→Hg _ (Option.bind (bN _ _) _) _ _;exact fun k=>aRn k)
  | (show _→Hg _ (Option.bind (aHq _ _) _) _ _;exact fun k=>aRk k)
  | (show _→Hg _ (Option.bind (shlI _ _ _) _) _ _;exact fun k=>aRj k)
  | (show _→Hg _ (Option.bind (shrI _ _ _) _) _ _;exact fun k=>aRi k)
  | (show _→Hg _ (Option.bind (bO _ [] _) _) _ _;exact fun k=>aRp k)
  | (show _→Hg _ (Option.bind (bO _ _ _) _) _ _;exact fun k=>aRo k)
  | (show _→Hg _ (Option.bind (mkI _ _ _) _) _ _;exact fun k=>f_mk k)
  | (show _→Hg _ (Option.bind (eS _ _ _) _) _ _;exact fun k=>f_sl k))
  | (show _→Hg _ (bF _ _) _ _;exact fun k=>aQ2 k)
  | exact fun k=>h_ds k
  | (show _→Hg _ (Option.bind _ _) _ _;first | exact fun k=>h_dc2 k | exact fun k=>h_dc1 k) | exact fun k=>h_do k | (show _→Hg _ (ite _ _ _) _ _;first | exact fun k=>f_ie k | exact fun k=>f_in k | exact fun k=>f_if k))
 | (show _→Hg _ _ _ (Dr _ _ _ _ _ [] _);exact fun k=>h_dn k)
 | (show _→Hg _ _ _ (O _ _ _ _ _);first
  | (show _→Hg _ _ _ (O _ _ (.seq _ _) _ _);first
   | (show _→Hg _ _ _ (O _ _ (.seq (.region _ _ false) _) _ _);exact fun k=>h_sr k)
   | exact fun k=>h_sq k)
  | (show _→Hg _ _ _ (O _ _ (.region _ _ false) _ _);exact fun k=>h_rg k)
  | (show _→Hg _ _ _ (O _ _ (.region _ _ true) _ _);exact fun k=>h_dr k)
  | (show _→Hg _ (ite _ _ _) _ (O _ _ (.cond _ _ _) _ _);exact fun k=>h_cd k)
  | (show _→Hg _ _ _ (O _ _ (.cond _ _ _) _ _);first | exact fun k=>h_ct k | exact fun k=>h_cf k)
  | (show _→Hg _ _ _ (O _ _ .skip _ _);exact fun k=>h_sk k)
  | (show _→Hg _ _ _ (O _ _ (.block _ _) _ _);exact fun k=>h_bk k)
  | (show _→Hg _ _ _ (O _ _ (.exit _) _ _);exact fun k=>h_ex k)
  | (show _→Hg _ _ _ (O _ _ .ret _ _);exact fun k=>h_rt k)
  | (show _→Hg _ _ _ (O _ _ (.label _) _ _);exact fun k=>h_lb k))
 | (show _→Hg _ _ _ (aO _ _ _ _);first
  | (show _→Hg _ _ _ (aO _ _ .normal _);exact fun k=>h_tn k)
  | (show _→Hg _ _ _ (aO _ _ .ret _);exact fun k=>h_tr k)
  | exact fun k=>h_te k)
 | (show _→Hg _ _ _ (iB _ _ _ _);first
  | (show _→Hg _ _ _ (iB _ _ .normal _);exact fun k=>h_bn k)
  | (show _→Hg _ _ _ (iB _ _ .ret _);exact fun k=>h_br k)
  | exact fun k=>h_be k
  | exact fun k=>h_bd k)
 | (show _→Hg _ (some (Sum.inr _)) _ _;exact fun k=>eY k)
 | (show _→Hg _ (bF _ _) _ _;exact fun k=>aQ2 k)
 | (show _→Hg _ (Option.bind _ _) _ _;first
  | (show _→Hg _ (Option.bind (aP (_ :: _) _) _) _ _;exact fun k=>aRm k)
  | (show _→Hg _ (Option.bind (aP _ _) _) _ _;exact fun k=>aRl k)
  | (show _→Hg _ (Option.bind (sAt _ _) _) _ _;exact fun k=>f_at k)
  | (show _→Hg _ (Option.bind (eK _ _ _) _) _ _;exact fun k=>aRh k)
  | (show _→Hg _ (Option.bind (bN _ _) _) _ _;exact fun k=>aRn k)
  | (show _→Hg _ (Option.bind (aHq _ _) _) _ _;exact fun k=>aRk k)
  | (show _→Hg _ (Option.bind (shlI _ _ _) _) _ _;exact fun k=>aRj k)
  | (show _→Hg _ (Option.bind (shrI _ _ _) _) _ _;exact fun k=>aRi k)
  | (show _→Hg _ (Option.bind (bO _ [] _) _) _ _;exact fun k=>aRp k)
  | (show _→Hg _ (Option.bind (bO _ _ _) _) _ _;exact fun k=>aRo k)
  | (show _→Hg _ (Option.bind (mkI _ _ _) _) _ _;exact fun k=>f_mk k)
  | (show _→Hg _ (Option.bind (eS _ _ _) _) _ _;exact fun k=>f_sl k))
 | fail):p:=h k
theorem Z {p:Prop} (h:p:=by first
 | (show Hg _ (some _) _ (Lv _ _ _ _ _ _ _ _);exact h_end)
 | (show Hg _ (some _) _ (Ct _ _ _ _ _ _ _);exact h_lv)
 | (show Hg _ (some (Sum.inl _)) _ (Lp _ _ _ _ _ _ _);exact h_ll)
 | fail):p:=h
end Go.OM
namespace Go.Proofs
open Go.Shelf
def Tryz.lays191_ren:Go.Shelf.Ren:=⟨fun | 191=>42 | 189=>62 | 125=>82 | 257=>81 | 128=>112 | 129=>113 | 294=>103 | 295=>104 | 296=>105 | 297=>106 | 298=>107 | 299=>108 | 216=>109 | 300=>110 | 301=>111 | 328=>135 | 329=>136 | 330=>137 | 331=>138 | 332=>139 | 215=>140 | 343=>150 | n=>n,fun | 28=>36 | 0=>0 | 3=>3 | 46=>98 | 51=>128 | 53=>130 | 4=>4 | 183=>120 | 182=>119 | 131=>125 | 5=>5 | 9=>9 | 218=>147 | 222=>151 | 228=>155 | 229=>116 | n=>n,fun | n=>n⟩
theorem Tryz.lays191:Go.Proofs.Lays.n191 Tryz.prog Tryz.lays191_ren:={
 mixed:=by kernel_rfl
 f125:=Tryz.func82.trans (congrArg some (by kernel_rfl))
 f128:=Tryz.func112.trans (congrArg some (by kernel_rfl))
 f129:=Tryz.func113.trans (congrArg some (by kernel_rfl))
 f189:=Tryz.func62.trans (congrArg some (by kernel_rfl))
 f191:=Tryz.func42.trans (congrArg some (by kernel_rfl))
 f215:=Tryz.func140.trans (congrArg some (by kernel_rfl))
 f216:=Tryz.func109.trans (congrArg some (by kernel_rfl))
 f257:=Tryz.func81.trans (congrArg some (by kernel_rfl))
 f294:=Tryz.func103.trans (congrArg some (by kernel_rfl))
 f295:=Tryz.func104.trans (congrArg some (by kernel_rfl))
 f296:=Tryz.func105.trans (congrArg some (by kernel_rfl))
 f297:=Tryz.func106.trans (congrArg some (by kernel_rfl))
 f298:=Tryz.func107.trans (congrArg some (by kernel_rfl))
 f299:=Tryz.func108.trans (congrArg some (by kernel_rfl))
 f300:=Tryz.func110.trans (congrArg some (by kernel_rfl))
 f301:=Tryz.func111.trans (congrArg some (by kernel_rfl))
 f328:=Tryz.func135.trans (congrArg some (by kernel_rfl))
 f329:=Tryz.func136.trans (congrArg some (by kernel_rfl))
 f330:=Tryz.func137.trans (congrArg some (by kernel_rfl))
 f331:=Tryz.func138.trans (congrArg some (by kernel_rfl))
 f332:=Tryz.func139.trans (congrArg some (by kernel_rfl))
 f343:=Tryz.func150.trans (congrArg some (by kernel_rfl))
 t0:=Tryz.underlying0
 a0:=Tryz.isAgg0
 z0:=Tryz.sizeOf0
 v0:=Tryz.zeroValue0
 t3:=Tryz.underlying3
 a3:=Tryz.isAgg3
 z3:=Tryz.sizeOf3
 v3:=Tryz.zeroValue3
 t4:=Tryz.underlying4
 a4:=Tryz.isAgg4
 z4:=Tryz.sizeOf4
 v4:=Tryz.zeroValue4
 t5:=Tryz.underlying5
 a5:=Tryz.isAgg5
 z5:=Tryz.sizeOf5
 v5:=Tryz.zeroValue5
 t9:=Tryz.underlying9
 a9:=Tryz.isAgg9
 z9:=Tryz.sizeOf9
 v9:=Tryz.zeroValue9
 t28:=Tryz.underlying36
 a28:=Tryz.isAgg36
 z28:=Tryz.sizeOf36
 v28:=Tryz.zeroValue36
 t46:=Tryz.underlying98
 a46:=Tryz.isAgg98
 z46:=Tryz.sizeOf98
 v46:=Tryz.zeroValue98
 t51:=Tryz.underlying128
 a51:=Tryz.isAgg128
 z51:=Tryz.sizeOf128
 v51:=Tryz.zeroValue128
 t53:=Tryz.underlying130
 a53:=Tryz.isAgg130
 z53:=Tryz.sizeOf130
 v53:=Tryz.zeroValue130
 t131:=Tryz.underlying125
 a131:=Tryz.isAgg125
 z131:=Tryz.sizeOf125
 v131:=Tryz.zeroValue125
 t182:=Tryz.underlying119
 a182:=Tryz.isAgg119
 z182:=Tryz.sizeOf119
 v182:=Tryz.zeroValue119
 t183:=Tryz.underlying120
 a183:=Tryz.isAgg120
 z183:=Tryz.sizeOf120
 v183:=Tryz.zeroValue120
 t218:=Tryz.underlying147
 a218:=Tryz.isAgg147
 z218:=Tryz.sizeOf147
 v218:=Tryz.zeroValue147
 t222:=Tryz.underlying151
 a222:=Tryz.isAgg151
 z222:=Tryz.sizeOf151
 v222:=Tryz.zeroValue151
 t228:=Tryz.underlying155
 a228:=Tryz.isAgg155
 z228:=Tryz.sizeOf155
 v228:=Tryz.zeroValue155
 t229:=Tryz.underlying116
 a229:=Tryz.isAgg116
 z229:=Tryz.sizeOf116
 v229:=Tryz.zeroValue116 }
open Go.Sort Go.RowKit in
theorem Tryz.sort_Ints (blk off cap:Nat) (zs:List Int) (w:World) (hH:Holds (Value.int .i64) w blk off zs.toArray) (hblk:blk < w.heap.size) (hsz:zs.length < 4611686018427387904) :
  Calls Tryz.prog 42 #[.slice (some ⟨blk,off,none⟩) zs.length cap] w fun e w' =>
   e = .returned (.tuple #[])∧∃ n os,w'=grow (putRow (Value.int .i64) (Sort.ahead w n) blk off (zs.mergeSort fun x y=>decide (x ≤ y)).toArray) os:=Any.sort_Ints Tryz.lays191 blk off cap zs w hH hblk hsz
def Tryz.lays146_ren:Go.Shelf.Ren:=⟨fun | 146=>149 | 221=>155 | 268=>158 | 138=>159 | 143=>160 | 195=>161 | 197=>162 | 218=>163 | 219=>164 | 260=>165 | 217=>166 | 225=>167 | 224=>168 | 267=>169 | 266=>170 | 314=>171 | n=>n,fun | 9=>9 | 31=>63 | 3=>3 | 4=>4 | 0=>0 | 105=>163 | 21=>21 | 5=>5 | 46=>98 | 119=>167 | 139=>170 | 138=>169 | 146=>171 | 51=>128 | n=>n,fun | 1=>0 | 3=>1 | 4=>2 | n=>n⟩
theorem Tryz.lays146:Go.Proofs.Lays.n146 Tryz.prog Tryz.lays146_ren:={
 mixed:=by kernel_rfl
 f138:=Tryz.func159.trans (congrArg some (by kernel_rfl))
 f143:=Tryz.func160.trans (congrArg some (by kernel_rfl))
 f146:=Tryz.func149.trans (congrArg some (by kernel_rfl))
 f195:=Tryz.func161.trans (congrArg some (by kernel_rfl))
 f197:=Tryz.func162.trans (congrArg some (by kernel_rfl))
 f217:=Tryz.func166.trans (congrArg some (by kernel_rfl))
 f218:=Tryz.func163.trans (congrArg some (by kernel_rfl))
 f219:=Tryz.func164.trans (congrArg some (by kernel_rfl))
 f221:=Tryz.func155.trans (congrArg some (by kernel_rfl))
 f224:=Tryz.func168.trans (congrArg some (by kernel_rfl))
 f225:=Tryz.func167.trans (congrArg some (by kernel_rfl))
 f260:=Tryz.func165.trans (congrArg some (by kernel_rfl))
 f266:=Tryz.func170.trans (congrArg some (by kernel_rfl))
 f267:=Tryz.func169.trans (congrArg some (by kernel_rfl))
 f268:=Tryz.func158.trans (congrArg some (by kernel_rfl))
 f314:=Tryz.func171.trans (congrArg some (by kernel_rfl))
 t0:=Tryz.underlying0
 a0:=Tryz.isAgg0
 z0:=Tryz.sizeOf0
 v0:=Tryz.zeroValue0
 t3:=Tryz.underlying3
 a3:=Tryz.isAgg3
 z3:=Tryz.sizeOf3
 v3:=Tryz.zeroValue3
 t4:=Tryz.underlying4
 a4:=Tryz.isAgg4
 z4:=Tryz.sizeOf4
 v4:=Tryz.zeroValue4
 t5:=Tryz.underlying5
 a5:=Tryz.isAgg5
 z5:=Tryz.sizeOf5
 v5:=Tryz.zeroValue5
 t9:=Tryz.underlying9
 a9:=Tryz.isAgg9
 z9:=Tryz.sizeOf9
 v9:=Tryz.zeroValue9
 t21:=Tryz.underlying21
 a21:=Tryz.isAgg21
 z21:=Tryz.sizeOf21
 v21:=Tryz.zeroValue21
 t31:=Tryz.underlying63
 a31:=Tryz.isAgg63
 z31:=Tryz.sizeOf63
 v31:=Tryz.zeroValue63
 t46:=Tryz.underlying98
 a46:=Tryz.isAgg98
 z46:=Tryz.sizeOf98
 v46:=Tryz.zeroValue98
 t51:=Tryz.underlying128
 a51:=Tryz.isAgg128
 z51:=Tryz.sizeOf128
 v51:=Tryz.zeroValue128
 t105:=Tryz.underlying163
 a105:=Tryz.isAgg163
 z105:=Tryz.sizeOf163
 v105:=Tryz.zeroValue163
 t119:=Tryz.underlying167
 a119:=Tryz.isAgg167
 z119:=Tryz.sizeOf167
 t138:=Tryz.underlying169
 a138:=Tryz.isAgg169
 z138:=Tryz.sizeOf169
 v138:=Tryz.zeroValue169
 t139:=Tryz.underlying170
 a139:=Tryz.isAgg170
 z139:=Tryz.sizeOf170
 v139:=Tryz.zeroValue170
 t146:=Tryz.underlying171
 a146:=Tryz.isAgg171
 z146:=Tryz.sizeOf171
 v146:=Tryz.zeroValue171
 g1:=by kernel_rfl
 g3:=by kernel_rfl
 g4:=by kernel_rfl }
open Go.RowKit Go.Lib in
theorem Tryz.strings_Split (s sep:ByteArray) (m:Int) (w:World) (hs:s.size < 4294967281) (hm:w.cell? ⟨0,0,none⟩=some (.int .i64 m)) (h1:1 ≤ sep.size) :
  Calls Tryz.prog 149 #[.string s,.string sep] w fun e w' =>
   e = .returned (.slice (some ⟨w.heap.size,0,none⟩) (Lib.countB s sep + 1) (Lib.countB s sep + 1))∧w'=w.alloc (.cells ((Lib.splitB sep 0 (Lib.countB s sep) s).map Value.string).toArray 9):=Any.strings_Split Tryz.lays146 (by kernel_rfl) s sep m w hs hm h1
open Go.RowKit Go.Sort in
theorem Tryz.sort_Ints_none (p:Option Addr) (cap:Nat) (w:World) :
  Calls Tryz.prog 42 #[.slice p 0 cap] w fun e w'=>e = .returned (.tuple #[])∧w'=w:=Any.sort_Ints_none Tryz.lays191 p cap w
end Go.Proofs
namespace Go.Proofs.T
open Go.OM
theorem ent149:dR E.P 149:=eO Tryz.func149 (by simp [Tryz.f149]) rfl
theorem aJd {w:World} (h:E.Gl w):∃ m,w.cell? ⟨0,0,none⟩=some (.int .i64 m):=by
 obtain ⟨cs,t,fr,h1,m,h2⟩:=h _ (List.mem_singleton.2 rfl);refine ⟨m,?_⟩;have h1':w.heap[0]? = some (.cells cs t fr):=h1;simp [World.cell?,h1',h2]
theorem aC5 (s sep:ByteArray) {r0:List ByteArray} (h:strings_Split s sep=some r0):Ok E 149 [.val (vs s),.val (vs sep)] [.sl true 1 (List.map vs r0)] []:=by
 unfold strings_Split at h;split at h
 case isFalse=>cases h
 rename_i hr;injection h with h
 subst h;have:=aPv (E:=E) (f:=149) (ty:=9) (xs:=[.string s,.string sep]) (es:=(Lib.splitB sep 0 (Lib.countB s sep) s).map Value.string) (by simp [TA.OneCell]) fun w hw=>by
  obtain ⟨m,hm⟩:=aJd hw;have h1:=Tryz.strings_Split s sep m w hr.1 hm hr.2.1;refine h1.mono fun e w' ⟨h2,h3⟩=>⟨?_,h3⟩;rw [h2,List.length_map,hr.2.2];try rfl
 rw [List.map_map] at this;exact this
theorem ent42:dR E.P 42:=eO Tryz.func42 (by simp [Tryz.f42]) rfl
theorem aHm (l:List Int) {r0:List Int} (h:sort_Ints l=some r0):OkIO E 42 [.val (.sl true 1 (List.map vi l))] [] [] [(0,.sl true 1 (List.map vi r0))]:=by
 unfold sort_Ints at h;split at h
 case isFalse=>cases h
 rename_i hr;injection h with h
 subst h;exact aPu (fun blk off cap zs w h1 h2 h3=>Tryz.sort_Ints blk off cap zs w h1 h2 h3) (fun p cap w=>Tryz.sort_Ints_none p cap w) l hr
instance e42_:Ent E 42:=⟨ent42⟩
instance c42_ (l:List Int) {r0:List Int}:ConIO E 42 (sort_Ints l=some r0) [.val (.sl true 1 (List.map vi l))] [] 0 (.sl true 1 (List.map vi r0)):=⟨fun h=>aHm l h⟩
instance e149_:Ent E 149:=⟨ent149⟩
instance c149_ (a0:ByteArray) (a1:ByteArray) {r0:List ByteArray}:Con E 149 (strings_Split a0 a1=some r0) [.val (vs a0),.val (vs a1)] [.sl true 1 (List.map vs r0)] []:=⟨fun h=>aC5 _ _ h⟩
end Go.Proofs.T
