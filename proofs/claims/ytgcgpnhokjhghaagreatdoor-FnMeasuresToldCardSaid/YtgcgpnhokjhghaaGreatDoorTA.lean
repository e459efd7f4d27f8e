import Derived.Test.YtgcgpnhokjhghaaGreatDoorOmC
import Derived.Lib.Split
import Derived.Lib.ItoaNum
import Derived.Test.YtgcgpnhokjhghaaGreatDoorProg
import Derived.KernelRfl
import Derived.Shelf.Strconv.Itoa0
import Derived.Shelf.Strconv.Itoa1
import Derived.Shelf.LaysM
import Derived.Shelf.Strconv.Itoa2
import Derived.Shelf.Strconv.Itoa3
import Derived.Shelf.Strings.Search1
import Derived.Shelf.Strings.Search2
import Derived.Shelf.Strings.Search3
import Derived.Shelf.Strings.Count
import Derived.Shelf.Strings.Shaped
import Derived.Shelf.Sort.Plain
import Derived.Shelf.Strings.Split
import Derived.Shelf.Unicode.DecodeSlow
import Derived.Shelf.Slices.In.SortNone
import Derived.Shelf.Slices.In.SortNone2
set_option linter.unusedVariables false
set_option linter.unusedSimpArgs false
set_option linter.unusedVariables false
noncomputable section
namespace Go.OM
def strconv_Itoa (n:Int):Option ByteArray:=if -9223372036854775808 ≤ n∧n ≤ 9223372036854775807 then some ⟨(Lib.itoa n).toArray⟩ else none
def strings_Split (s sep:ByteArray):Option (List ByteArray):=if s.size < 4294967281∧1 ≤ sep.size∧(Lib.splitB sep 0 (Lib.countB s sep) s).length=Lib.countB s sep + 1 then some (Lib.splitB sep 0 (Lib.countB s sep) s) else none
end Go.OM
end
namespace Go.OM
def sort_Ints (l:List Int):Option (List Int):=if l.length < 4611686018427387904 then some (l.mergeSort fun x y=>decide (x ≤ y)) else none
end Go.OM
set_option linter.unusedSimpArgs false
namespace Go.OM
def eX:Nat:=1048576
abbrev vi (n:Int):T:=.v (.int .i64 n)
abbrev vk (k:IntKind) (n:Int):T:=.v (.int k n)
abbrev vb (b:Bool):T:=.v (.bool b)
abbrev vs (z:ByteArray):T:=.v (.string z)
abbrev eSl {α:Type} (o:Bool) (s:Nat) (f:α→T) (l:List α):T:=.sl o s (l.map f)
@[simp] theorem own_vi (l:List Int):T.hasOwnL (l.map vi)=false:=cR vi (fun _=>rfl) l
@[simp] theorem own_vk (k:IntKind) (l:List Int):T.hasOwnL (l.map (vk k))=false:=cR _ (fun _=>rfl) l
@[simp] theorem own_vb (l:List Bool):T.hasOwnL (l.map vb)=false:=cR _ (fun _=>rfl) l
@[simp] theorem own_vs (l:List ByteArray):T.hasOwnL (l.map vs)=false:=cR _ (fun _=>rfl) l
@[simp] theorem ro_vi (l:List Int):T.roL (l.map vi)=l.map vi:=iH _ _ (fun _=>rfl) l
@[simp] theorem ro_vk (k:IntKind) (l:List Int):T.roL (l.map (vk k))=l.map (vk k):=iH _ _ (fun _=>rfl) l
@[simp] theorem ro_vb (l:List Bool):T.roL (l.map vb)=l.map vb:=iH _ _ (fun _=>rfl) l
@[simp] theorem ro_vs (l:List ByteArray):T.roL (l.map vs)=l.map vs:=iH _ _ (fun _=>rfl) l
@[simp] theorem noRo_vi (l:List Int):T.noRoL (l.map vi)=true:=eP _ (fun _=>rfl) l
@[simp] theorem noRo_vk (k:IntKind) (l:List Int):T.noRoL (l.map (vk k))=true:=eP _ (fun _=>rfl) l
@[simp] theorem noRo_vb (l:List Bool):T.noRoL (l.map vb)=true:=eP _ (fun _=>rfl) l
@[simp] theorem noRo_vs (l:List ByteArray):T.noRoL (l.map vs)=true:=eP _ (fun _=>rfl) l
@[simp] theorem own_eSl {α:Type} {s:Nat} {f:α→T} (h:∀ l:List α,T.hasOwnL (l.map f)=false) (l:List (List α)):T.hasOwnL (l.map (eSl false s f))=false:=cR _ (fun x=>by simp [h x]) l
@[simp] theorem ro_eSl {α:Type} {o:Bool} {s:Nat} {f:α→T} (h:∀ l:List α,T.roL (l.map f)=l.map f) (l:List (List α)):T.roL (l.map (eSl o s f))=l.map (eSl false s f):=iH _ _ (fun x=>by simp [h x]) l
@[simp] theorem noRo_eSl {α:Type} {s:Nat} {f:α→T} (h:∀ l:List α,T.noRoL (l.map f)=true) (l:List (List α)):T.noRoL (l.map (eSl true s f))=true:=eP _ (fun x=>by simp [h x]) l
@[simp] theorem bits_i64:IntKind.bits .i64=64:=rfl
@[simp] theorem bits_u32:IntKind.bits .u32=32:=rfl
def aCt (x y:Int):Option Int:=if y=0 then none else some (Int.tmod x y)
theorem pP {x y z:Int} (h:aCt x y=some z):y ≠ 0∧Int.tmod x y=z:=by
 unfold aCt at h
 split at h
 ·cases h
 rename_i hy;injection h with h;exact ⟨hy,h⟩
theorem oR {α:Type} {c:Prop} [Decidable c] {a b:Option α} {r:α} (h:(if c then a else b)=some r):(c∧a=some r) ∨ (¬ c∧b=some r):=by
 by_cases hc:c
 ·rw [if_pos hc] at h;exact .inl ⟨hc,h⟩
 rw [if_neg hc] at h;exact .inr ⟨hc,h⟩
structure GNode where
 Kind:Int
 Num:Int
 Name:ByteArray
 Kids:List Int
 deriving DecidableEq
def GNode.enc (o:Bool) (x:GNode):T:=.agg [vi x.Kind,vi x.Num,vs x.Name,.sl o 1 (List.map vi x.Kids)]
@[simp] theorem GNode.own (x:GNode):(x.enc false).hasOwn=false:=by simp [GNode.enc]
@[simp] theorem GNode.ownT (x:GNode):(x.enc true).hasOwn=true:=by simp [GNode.enc]
@[simp] theorem GNode.ownL (l:List GNode):T.hasOwnL (l.map (GNode.enc false))=false:=cR _ (fun x=>by simp) l
@[simp] theorem GNode.ro1 (o:Bool) (x:GNode):(x.enc o).ro=x.enc false:=by cases o<;>simp [GNode.enc,T.roL_map,Function.comp_def]
@[simp] theorem GNode.roL (o:Bool) (l:List GNode):T.roL (l.map (GNode.enc o))=l.map (GNode.enc false):=iH _ _ (fun x=>by simp) l
@[simp] theorem GNode.noRo (x:GNode):(x.enc true).noRo=true:=by simp [GNode.enc]
@[simp] theorem GNode.noRoL (l:List GNode):T.noRoL (l.map (GNode.enc true))=true:=eP _ (fun x=>by simp) l
structure GParam where
 Name:ByteArray
 Typ:Int
 deriving DecidableEq
def GParam.enc (x:GParam):T:=.agg [vs x.Name,vi x.Typ]
@[simp] theorem GParam.own (x:GParam):x.enc.hasOwn=false:=by simp [GParam.enc]
@[simp] theorem GParam.ownL (l:List GParam):T.hasOwnL (l.map GParam.enc)=false:=cR _ (fun x=>by simp) l
@[simp] theorem GParam.ro1 (x:GParam):x.enc.ro=x.enc:=by simp [GParam.enc]
@[simp] theorem GParam.roL (l:List GParam):T.roL (l.map GParam.enc)=l.map GParam.enc:=iH _ _ (fun x=>by simp) l
@[simp] theorem GParam.noRo (x:GParam):x.enc.noRo=true:=by simp [GParam.enc]
@[simp] theorem GParam.noRoL (l:List GParam):T.noRoL (l.map GParam.enc)=true:=eP _ (fun x=>by simp) l
structure GFn where
 Name:ByteArray
 Params:List GParam
 Res:Int
 Body:Int
 Ret:Int
 deriving DecidableEq
def GFn.enc (o:Bool) (x:GFn):T:=.agg [vs x.Name,.sl o 2 (List.map GParam.enc x.Params),vi x.Res,vi x.Body,vi x.Ret]
@[simp] theorem GFn.own (x:GFn):(x.enc false).hasOwn=false:=by simp [GFn.enc]
@[simp] theorem GFn.ownT (x:GFn):(x.enc true).hasOwn=true:=by simp [GFn.enc]
@[simp] theorem GFn.ownL (l:List GFn):T.hasOwnL (l.map (GFn.enc false))=false:=cR _ (fun x=>by simp) l
@[simp] theorem GFn.ro1 (o:Bool) (x:GFn):(x.enc o).ro=x.enc false:=by cases o<;>simp [GFn.enc,T.roL_map,Function.comp_def]
@[simp] theorem GFn.roL (o:Bool) (l:List GFn):T.roL (l.map (GFn.enc o))=l.map (GFn.enc false):=iH _ _ (fun x=>by simp) l
@[simp] theorem GFn.noRo (x:GFn):(x.enc true).noRo=true:=by simp [GFn.enc]
@[simp] theorem GFn.noRoL (l:List GFn):T.noRoL (l.map (GFn.enc true))=true:=eP _ (fun x=>by simp) l
structure GProgram where
 Nodes:List GNode
 Fns:List GFn
 deriving DecidableEq
def GProgram.enc (o:Bool) (x:GProgram):T:=.agg [.sl o 4 (List.map (GNode.enc o) x.Nodes),.sl o 5 (List.map (GFn.enc o) x.Fns)]
@[simp] theorem GProgram.own (x:GProgram):(x.enc false).hasOwn=false:=by simp [GProgram.enc]
@[simp] theorem GProgram.ownT (x:GProgram):(x.enc true).hasOwn=true:=by simp [GProgram.enc]
@[simp] theorem GProgram.ownL (l:List GProgram):T.hasOwnL (l.map (GProgram.enc false))=false:=cR _ (fun x=>by simp) l
@[simp] theorem GProgram.ro1 (o:Bool) (x:GProgram):(x.enc o).ro=x.enc false:=by cases o<;>simp [GProgram.enc,T.roL_map,Function.comp_def]
@[simp] theorem GProgram.roL (o:Bool) (l:List GProgram):T.roL (l.map (GProgram.enc o))=l.map (GProgram.enc false):=iH _ _ (fun x=>by simp) l
@[simp] theorem GProgram.noRo (x:GProgram):(x.enc true).noRo=true:=by simp [GProgram.enc]
@[simp] theorem GProgram.noRoL (l:List GProgram):T.noRoL (l.map (GProgram.enc true))=true:=eP _ (fun x=>by simp) l
structure GMeasure where
 Fns:Int
 Nodes:Int
 Steps:Int
 Values:Int
 Blocks:Int
 Lets:Int
 News:Int
 Lends:Int
 Deep:Int
 deriving DecidableEq
def GMeasure.enc (x:GMeasure):T:=.agg [vi x.Fns,vi x.Nodes,vi x.Steps,vi x.Values,vi x.Blocks,vi x.Lets,vi x.News,vi x.Lends,vi x.Deep]
@[simp] theorem GMeasure.own (x:GMeasure):x.enc.hasOwn=false:=by simp [GMeasure.enc]
@[simp] theorem GMeasure.ownL (l:List GMeasure):T.hasOwnL (l.map GMeasure.enc)=false:=cR _ (fun x=>by simp) l
@[simp] theorem GMeasure.ro1 (x:GMeasure):x.enc.ro=x.enc:=by simp [GMeasure.enc]
@[simp] theorem GMeasure.roL (l:List GMeasure):T.roL (l.map GMeasure.enc)=l.map GMeasure.enc:=iH _ _ (fun x=>by simp) l
@[simp] theorem GMeasure.noRo (x:GMeasure):x.enc.noRo=true:=by simp [GMeasure.enc]
@[simp] theorem GMeasure.noRoL (l:List GMeasure):T.noRoL (l.map GMeasure.enc)=true:=eP _ (fun x=>by simp) l
structure Gl01Cur where
 b:List Int
 i:Int
 h:Int
 deriving DecidableEq
def Gl01Cur.enc (o:Bool) (x:Gl01Cur):T:=.agg [.sl o 1 (List.map (vk .u8) x.b),vi x.i,vi x.h]
@[simp] theorem Gl01Cur.own (x:Gl01Cur):(x.enc false).hasOwn=false:=by simp [Gl01Cur.enc]
@[simp] theorem Gl01Cur.ownT (x:Gl01Cur):(x.enc true).hasOwn=true:=by simp [Gl01Cur.enc]
@[simp] theorem Gl01Cur.ownL (l:List Gl01Cur):T.hasOwnL (l.map (Gl01Cur.enc false))=false:=cR _ (fun x=>by simp) l
@[simp] theorem Gl01Cur.ro1 (o:Bool) (x:Gl01Cur):(x.enc o).ro=x.enc false:=by cases o<;>simp [Gl01Cur.enc,T.roL_map,Function.comp_def]
@[simp] theorem Gl01Cur.roL (o:Bool) (l:List Gl01Cur):T.roL (l.map (Gl01Cur.enc o))=l.map (Gl01Cur.enc false):=iH _ _ (fun x=>by simp) l
@[simp] theorem Gl01Cur.noRo (x:Gl01Cur):(x.enc true).noRo=true:=by simp [Gl01Cur.enc]
@[simp] theorem Gl01Cur.noRoL (l:List Gl01Cur):T.noRoL (l.map (Gl01Cur.enc true))=true:=eP _ (fun x=>by simp) l
structure GSign where
 Kind:Int
 Text:ByteArray
 Num:Int
 deriving DecidableEq
def GSign.enc (x:GSign):T:=.agg [vi x.Kind,vs x.Text,vi x.Num]
@[simp] theorem GSign.own (x:GSign):x.enc.hasOwn=false:=by simp [GSign.enc]
@[simp] theorem GSign.ownL (l:List GSign):T.hasOwnL (l.map GSign.enc)=false:=cR _ (fun x=>by simp) l
@[simp] theorem GSign.ro1 (x:GSign):x.enc.ro=x.enc:=by simp [GSign.enc]
@[simp] theorem GSign.roL (l:List GSign):T.roL (l.map GSign.enc)=l.map GSign.enc:=iH _ _ (fun x=>by simp) l
@[simp] theorem GSign.noRo (x:GSign):x.enc.noRo=true:=by simp [GSign.enc]
@[simp] theorem GSign.noRoL (l:List GSign):T.noRoL (l.map GSign.enc)=true:=eP _ (fun x=>by simp) l
structure Gl05Read where
 list:List GSign
 at_:Int
 bad:Bool
 deep:Int
 nodes:List GNode
 deriving DecidableEq
def Gl05Read.enc (o:Bool) (x:Gl05Read):T:=.agg [.sl o 3 (List.map GSign.enc x.list),vi x.at_,vb x.bad,vi x.deep,.sl o 4 (List.map (GNode.enc o) x.nodes)]
@[simp] theorem Gl05Read.own (x:Gl05Read):(x.enc false).hasOwn=false:=by simp [Gl05Read.enc]
@[simp] theorem Gl05Read.ownT (x:Gl05Read):(x.enc true).hasOwn=true:=by simp [Gl05Read.enc]
@[simp] theorem Gl05Read.ownL (l:List Gl05Read):T.hasOwnL (l.map (Gl05Read.enc false))=false:=cR _ (fun x=>by simp) l
@[simp] theorem Gl05Read.ro1 (o:Bool) (x:Gl05Read):(x.enc o).ro=x.enc false:=by cases o<;>simp [Gl05Read.enc,T.roL_map,Function.comp_def]
@[simp] theorem Gl05Read.roL (o:Bool) (l:List Gl05Read):T.roL (l.map (Gl05Read.enc o))=l.map (Gl05Read.enc false):=iH _ _ (fun x=>by simp) l
@[simp] theorem Gl05Read.noRo (x:Gl05Read):(x.enc true).noRo=true:=by simp [Gl05Read.enc]
@[simp] theorem Gl05Read.noRoL (l:List Gl05Read):T.noRoL (l.map (Gl05Read.enc true))=true:=eP _ (fun x=>by simp) l
structure Gl05Made where
 c:Unit
 ints:List ByteArray
 boxes:List ByteArray
 n:Int
 text:ByteArray
 wild:Bool
 deriving DecidableEq
def Gl05Made.enc (o:Bool) (x:Gl05Made):T:=.agg [.v (.pointer none),.sl o 1 (List.map vs x.ints),.sl o 1 (List.map vs x.boxes),vi x.n,vs x.text,vb x.wild]
@[simp] theorem Gl05Made.own (x:Gl05Made):(x.enc false).hasOwn=false:=by simp [Gl05Made.enc]
@[simp] theorem Gl05Made.ownT (x:Gl05Made):(x.enc true).hasOwn=true:=by simp [Gl05Made.enc]
@[simp] theorem Gl05Made.ownL (l:List Gl05Made):T.hasOwnL (l.map (Gl05Made.enc false))=false:=cR _ (fun x=>by simp) l
@[simp] theorem Gl05Made.ro1 (o:Bool) (x:Gl05Made):(x.enc o).ro=x.enc false:=by cases o<;>simp [Gl05Made.enc,T.roL_map,Function.comp_def]
@[simp] theorem Gl05Made.roL (o:Bool) (l:List Gl05Made):T.roL (l.map (Gl05Made.enc o))=l.map (Gl05Made.enc false):=iH _ _ (fun x=>by simp) l
@[simp] theorem Gl05Made.noRo (x:Gl05Made):(x.enc true).noRo=true:=by simp [Gl05Made.enc]
@[simp] theorem Gl05Made.noRoL (l:List Gl05Made):T.noRoL (l.map (Gl05Made.enc true))=true:=eP _ (fun x=>by simp) l
attribute [simp] GNode.enc GParam.enc GFn.enc GProgram.enc GMeasure.enc Gl01Cur.enc GSign.enc Gl05Read.enc Gl05Made.enc
end Go.OM
noncomputable section
namespace Go.OM
def xR (a0:List Int):Option (Bool) :=
 some (decide ((a0.length:Int) > 1048576))
def mA (a0:List Int):(Int × Int)→Option ((Int × Int) ⊕ (Int)):=fun ⟨h5,i6⟩ =>
 Option.bind (
  if (decide (i6 < (a0.length:Int)))=true then
   some (decide (i6 < 4000))
  else
   some false) fun a1 =>
 if a1=true then
  (bD a0 i6).bind fun a2 =>
  some (Sum.inl (bits .and .i64 (IntKind.wrap .i64 ((IntKind.wrap .i64 ((IntKind.wrap .i64 (h5 * 131)) + (IntKind.wrap .i64 a2))) + 7)) 1073741823,IntKind.wrap .i64 (i6 + 1)))
 else
  some (Sum.inr h5)
def iS (a0:List Int):Option (Gl01Cur) :=
 Option.bind (
  aJ (mA a0) (IntKind.wrap .i64 (78201 + (a0.length:Int)),(0:Int))) fun a1 =>
 some (⟨a0,0,a1⟩:Gl01Cur)
def fI (c1:Gl01Cur):Option (Int × Gl01Cur) :=
 if (decide (c1.i < (c1.b.length:Int)))=true then
  (bD c1.b c1.i).bind fun e7 =>
  some (bits .and .i64 (IntKind.wrap .i64 ((bits .and .i64 (bits .xor .i64 (Int.fdiv (IntKind.wrap .i64 ((IntKind.wrap .i64 (c1.h * 6364136223846793005)) + 1442695040888963407)) (2 ^ 33)) (Int.fdiv (IntKind.wrap .i64 ((IntKind.wrap .i64 (c1.h * 6364136223846793005)) + 1442695040888963407)) (2 ^ 45))) 255) + (IntKind.wrap .i64 e7))) 255,(⟨c1.b,IntKind.wrap .i64 (c1.i + 1),IntKind.wrap .i64 ((IntKind.wrap .i64 (c1.h * 6364136223846793005)) + 1442695040888963407)⟩:Gl01Cur))
 else
  some (bits .and .i64 (bits .xor .i64 (Int.fdiv (IntKind.wrap .i64 ((IntKind.wrap .i64 (c1.h * 6364136223846793005)) + 1442695040888963407)) (2 ^ 33)) (Int.fdiv (IntKind.wrap .i64 ((IntKind.wrap .i64 (c1.h * 6364136223846793005)) + 1442695040888963407)) (2 ^ 45))) 255,(⟨c1.b,c1.i,IntKind.wrap .i64 ((IntKind.wrap .i64 (c1.h * 6364136223846793005)) + 1442695040888963407)⟩:Gl01Cur))
def bN (c1:Gl01Cur) (n2:Int):Option (Int × Gl01Cur) :=
 if (decide (n2 ≤ 0))=true then
  some (0,c1)
 else
  if (decide (n2 ≤ 256))=true then
   (fI c1).bind fun ⟨r7,q8⟩ =>
   (aCt r7 n2).bind fun a0 =>
   some (a0,q8)
  else
   (fI c1).bind fun ⟨a1,a2⟩ =>
   (fI a2).bind fun ⟨a3,a4⟩ =>
   (fI a4).bind fun ⟨a5,a6⟩ =>
   (fI a6).bind fun ⟨a7,a8⟩ =>
   (aCt (IntKind.wrap .i64 ((IntKind.wrap .i64 ((IntKind.wrap .i64 ((IntKind.wrap .i64 (a1 * 16777216)) + (IntKind.wrap .i64 (a3 * 65536)))) + (IntKind.wrap .i64 (a5 * 256)))) + a7)) n2).bind fun a9 =>
   some (a9,a8)
def gR (a0:List GNode):((List GNode) × Int)→Option (((List GNode) × Int) ⊕ (List GNode)):=fun ⟨a1,i6⟩ =>
 if (decide (i6 < (a0.length:Int)))=true then
  (bD a0 i6).bind fun a2 =>
  (cE 8 [] a2.Kids).bind fun a4 =>
  (cE 56 a1 [a2]).bind fun a3 =>
  some (Sum.inl (a3,IntKind.wrap .i64 (i6 + 1)))
 else
  some (Sum.inr a1)
def kN (a0:List GNode):Option (List GNode) :=
 Option.bind (
  aJ (gR a0) ([],(0:Int))) fun a1 =>
 some a1
def iN (p1:GProgram):(Int × GProgram)→Option ((Int × GProgram) ⊕ (GProgram)):=fun ⟨i7,v8⟩ =>
 if (decide (i7 < (p1.Fns.length:Int)))=true then
  (bD p1.Fns i7).bind fun a0 =>
  (cE 24 [] a0.Params).bind fun a2 =>
  (cE 64 v8.Fns [a0]).bind fun a1 =>
  some (Sum.inl (IntKind.wrap .i64 (i7 + 1),(⟨v8.Nodes,a1⟩:GProgram)))
 else
  some (Sum.inr v8)
def mK (p1:GProgram):Option (GProgram) :=
 (kN p1.Nodes).bind fun r2 =>
 Option.bind (
  aJ (iN p1) ((0:Int),(⟨r2,[]⟩:GProgram))) fun a0 =>
 some a0
def bV (x1:Int) (a0:Int) (a1:Int):Option (Bool) :=
 Option.bind (
  if (decide (x1 ≥ a0))=true then
   some (decide (x1 ≤ a1))
  else
   some false) fun v8 =>
 some v8
def cZ (b1:Int):Option (Bool) :=
 Option.bind (
  if (decide (b1 ≥ 97))=true then
   some (decide (b1 ≤ 122))
  else
   some false) fun v6 =>
 some v6
def mL:Option (List ByteArray) :=
 some [(⟨#[102,110]⟩:ByteArray),(⟨#[108,101,116]⟩:ByteArray),(⟨#[105,102]⟩:ByteArray),(⟨#[101,108,115,101]⟩:ByteArray),(⟨#[119,104,105,108,101]⟩:ByteArray),(⟨#[112,114,105,110,116]⟩:ByteArray),(⟨#[100,111]⟩:ByteArray),(⟨#[110,101,119]⟩:ByteArray),(⟨#[99,108,111,110,101]⟩:ByteArray),(⟨#[109,117,116]⟩:ByteArray),(⟨#[105,110,112,117,116]⟩:ByteArray),(⟨#[105,110,116]⟩:ByteArray),(⟨#[98,111,120]⟩:ByteArray),(⟨#[114,101,116]⟩:ByteArray)]
def fZ (s1:ByteArray) (r2:List ByteArray):Int→Option ((Int) ⊕ ((Unit) ⊕ (Bool))):=fun i7 =>
 if (decide (i7 < (r2.length:Int)))=true then
  (bD r2 i7).bind fun a0 =>
  if (sEq a0 s1)=true then
   some (Sum.inr (Sum.inr true))
  else
   some (Sum.inl (IntKind.wrap .i64 (i7 + 1)))
 else
  some (Sum.inr (Sum.inl ()))
def iX (s1:ByteArray):Option (Bool) :=
 (mL ).bind fun r2 =>
 Option.bind (
  aJ (fZ s1 r2) (0:Int)) fun j6 =>
 match j6 with
 | Sum.inr z=>some z
 | Sum.inl () =>
  some false
def dM (b1:Int):Option (Bool) :=
 Option.bind (
  if (decide (b1 ≥ 48))=true then
   some (decide (b1 ≤ 57))
  else
   some false) fun v6 =>
 some v6
def gZ (s1:ByteArray):Int→Option ((Int) ⊕ ((Unit) ⊕ (Bool))):=fun a0 =>
 if (decide (a0 < (s1.size:Int)))=true then
  Option.bind (
   (sAt s1 a0).bind fun a1 =>
   (cZ a1).bind fun a2 =>
   if (!a2)=true then
    (dM a1).bind fun a3 =>
    some (!a3)
   else
    some false) fun a4 =>
  if a4=true then
   some (Sum.inr (Sum.inr false))
  else
   some (Sum.inl (IntKind.wrap .i64 (a0 + 1)))
 else
  some (Sum.inr (Sum.inl ()))
def fP (s1:ByteArray):Option (Bool) :=
 Option.bind (
  (bV (s1.size:Int) 1 8).bind fun r4 =>
  if (!r4)=true then
   some true
  else
   (sAt s1 0).bind fun c8 =>
   (cZ c8).bind fun r9 =>
   if (!r9)=true then
    some true
   else
    (iX s1).bind fun a0 =>
    some a0) fun a1 =>
 if a1=true then
  some false
 else
  Option.bind (
   aJ (gZ s1) (0:Int)) fun a2 =>
  match a2 with
  | Sum.inr z=>some z
  | Sum.inl () =>
   some true
def mI (a0:Int):Option (Int × Int) :=
 Option.bind (
  if (a0 == 8)=true then
   some (a0 == 8)
  else
   if (a0 == 13)=true then
    some (a0 == 13)
   else
    if (a0 == 14)=true then
     some (a0 == 14)
    else
     if (a0 == 15)=true then
      some (a0 == 15)
     else
      if (a0 == 18)=true then
       some (a0 == 18)
      else
       some (a0 == 19)) fun a1 =>
 if a1=true then
  some (1,1)
 else
  Option.bind (
   if (a0 == 9)=true then
    some (a0 == 9)
   else
    if (a0 == 10)=true then
     some (a0 == 10)
    else
     if (a0 == 11)=true then
      some (a0 == 11)
     else
      some (a0 == 17)) fun a2 =>
  if a2=true then
   some (2,2)
  else
   if (a0 == 12)=true then
    some (0,3)
   else
    if (a0 == 16)=true then
     some (3,3)
    else
     if (a0 == 20)=true then
      some (0,12)
     else
      some (0,0)
def kO (a0:Int):Option (Bool) :=
 Option.bind (
  if (a0 == 2)=true then
   some (a0 == 2)
  else
   if (a0 == 3)=true then
    some (a0 == 3)
   else
    if (a0 == 4)=true then
     some (a0 == 4)
    else
     if (a0 == 5)=true then
      some (a0 == 5)
     else
      if (a0 == 6)=true then
       some (a0 == 6)
      else
       if (a0 == 12)=true then
        some (a0 == 12)
       else
        if (a0 == 13)=true then
         some (a0 == 13)
        else
         if (a0 == 14)=true then
          some (a0 == 14)
         else
          some (a0 == 15)) fun a1 =>
 if a1=true then
  some true
 else
  some false
def fH (a0:Int):Option (Bool) :=
 (bV a0 1 12).bind fun r2 =>
 some r2
def eG (a0:Int):Option (Bool) :=
 (bV a0 13 19).bind fun r2 =>
 some r2
def mJ (a0:Int) (a2:Int) (a1:Int):Option (Bool) :=
 if (a0 == 20)=true then
  (eG a1).bind fun r6 =>
  some r6
 else
  Option.bind (
   if (a0 == 16)=true then
    some (a0 == 16)
   else
    some (a0 == 17)) fun a3 =>
  if a3=true then
   if (decide (a2 > 0))=true then
    some (a1 == 20)
   else
    (fH a1).bind fun a4 =>
    some a4
  else
   if (a0 == 19)=true then
    some (a1 == 12)
   else
    (fH a1).bind fun a5 =>
    some a5
def jS (a1:GNode) (a2:Int):Int→Option ((Int) ⊕ ((Unit) ⊕ ((Int) ⊕ ((Unit) ⊕ (Bool))))):=fun a0 =>
 if (decide (a0 < a2))=true then
  (bD a1.Kids a2).bind fun a3 =>
  (bD a1.Kids a0).bind fun a4 =>
  if (a3 == a4)=true then
   some (Sum.inr (Sum.inr (Sum.inr (Sum.inr false))))
  else
   some (Sum.inl (IntKind.wrap .i64 (a0 + 1)))
 else
  some (Sum.inr (Sum.inl ()))
def jT (a0:List GNode) (k2:Int) (a2:GNode):Int→Option ((Int) ⊕ ((Unit) ⊕ (Bool))):=fun a1 =>
 if (decide (a1 < (a2.Kids.length:Int)))=true then
  Option.bind (
   Option.bind (
    (bD a2.Kids a1).bind fun a3 =>
    (bV a3 0 (IntKind.wrap .i64 (k2 - 1))).bind fun a4 =>
    if (!a4)=true then
     some true
    else
     (bD a0 a3).bind fun a5 =>
     (mJ a2.Kind a1 a5.Kind).bind fun a6 =>
     some (!a6)) fun a7 =>
   if a7=true then
    some (Sum.inr (Sum.inr (Sum.inr false)))
   else
    aJ (jS a2 a1) (0:Int)) fun a8 =>
  match a8 with
  | Sum.inr z=>some z
  | Sum.inl () =>
   some (Sum.inl (IntKind.wrap .i64 (a1 + 1)))
 else
  some (Sum.inr (Sum.inl ()))
def nT (a0:List GNode) (k2:Int):Option (Bool) :=
 Option.bind (
  (bV k2 0 (IntKind.wrap .i64 ((a0.length:Int) - 1))).bind fun r5 =>
  if (!r5)=true then
   some true
  else
   (bD a0 k2).bind fun e9 =>
   (bV e9.Kind 1 20).bind fun a2 =>
   some (!a2)) fun a3 =>
 if a3=true then
  some false
 else
  (bD a0 k2).bind fun a1 =>
  (mI a1.Kind).bind fun ⟨a4,a5⟩ =>
  Option.bind (
   (bV (a1.Kids.length:Int) a4 a5).bind fun a6 =>
   if (!a6)=true then
    some true
   else
    (bV a1.Num 0 1000000000).bind fun a7 =>
    if (!a7)=true then
     some true
    else
     if (a1.Kind != 1)=true then
      some (a1.Num != 0)
     else
      some false) fun a8 =>
  if a8=true then
   some false
  else
   Option.bind (
    (kO a1.Kind).bind fun a9 =>
    if (!(a9 == (!(sEq a1.Name (⟨#[]⟩:ByteArray)))))=true then
     some true
    else
     if (!(sEq a1.Name (⟨#[]⟩:ByteArray)))=true then
      (fP a1.Name).bind fun b0 =>
      some (!b0)
     else
      some false) fun b1 =>
   if b1=true then
    some false
   else
    Option.bind (
     aJ (jT a0 k2 a1) (0:Int)) fun b2 =>
    match b2 with
    | Sum.inr z=>some z
    | Sum.inl () =>
     some true
def dF (a1:List GNode) (a2:List Int) (i7:Int):(Int × Int)→Option ((Int × Int) ⊕ (Int)):=fun ⟨a0,a3⟩ =>
 Option.bind (
  if (decide (a0 > 0))=true then
   (bD a1 i7).bind fun a4 =>
   some (decide (a3 < (a4.Kids.length:Int)))
  else
   some false) fun a5 =>
 if a5=true then
  (bD a1 i7).bind fun a6 =>
  (bD a6.Kids a3).bind fun a7 =>
  (bD a2 a7).bind fun a8 =>
  if (decide (IntKind.wrap .i64 (a8 + 1) > a0))=true then
   (bD a1 i7).bind fun a9 =>
   (bD a9.Kids a3).bind fun b0 =>
   (bD a2 b0).bind fun b1 =>
   some (Sum.inl (IntKind.wrap .i64 (b1 + 1),IntKind.wrap .i64 (a3 + 1)))
  else
   some (Sum.inl (a0,IntKind.wrap .i64 (a3 + 1)))
 else
  some (Sum.inr a0)
def gT (a0:List GNode) (k2:Int):((List Int) × Int)→Option (((List Int) × Int) ⊕ (List Int)):=fun ⟨a2,i7⟩ =>
 Option.bind (
  if (decide (i7 ≤ k2))=true then
   some (decide (i7 < (a0.length:Int)))
  else
   some false) fun a6 =>
 if a6=true then
  Option.bind (
   Option.bind (
    Option.bind (
     (nT a0 i7).bind fun a7 =>
     if (!a7)=true then
      some true
     else
      if (decide (i7 > 0))=true then
       (bD a2 (IntKind.wrap .i64 (i7 - 1))).bind fun a8 =>
       some (a8 == 0)
      else
       some false) fun a9 =>
    if a9=true then
     some (0:Int)
    else
     some (1:Int)) fun a3 =>
   Option.bind (
    aJ (dF a0 a2 i7) (a3,(0:Int))) fun a1 =>
   Option.bind (
    if (decide (a1 > 10))=true then
     some (0:Int)
    else
     some a1) fun a4 =>
   (cE 8 a2 [a4]).bind fun b0 =>
   some b0) fun a5 =>
  some (Sum.inl (a5,IntKind.wrap .i64 (i7 + 1)))
 else
  some (Sum.inr a2)
def jD (a0:List GNode) (k2:Int):Option (List Int) :=
 Option.bind (
  aJ (gT a0 k2) ([],(0:Int))) fun a1 =>
 some a1
def iL (a0:List GNode) (i7:Int):((List Int) × Int)→Option (((List Int) × Int) ⊕ (List Int)):=fun ⟨a1,a2⟩ =>
 (bD a0 i7).bind fun a4 =>
 if (decide (a2 < (a4.Kids.length:Int)))=true then
  (bD a0 i7).bind fun a5 =>
  (bD a5.Kids a2).bind fun a3 =>
  (bD a1 a3).bind fun a6 =>
  bO (List.set a1 a3.toNat (IntKind.wrap .i64 (a6 + 1))) fun a7 =>
  some (Sum.inl (a7,IntKind.wrap .i64 (a2 + 1)))
 else
  some (Sum.inr a1)
def iM (a0:List GNode):((List Int) × Int)→Option (((List Int) × Int) ⊕ (List Int)):=fun ⟨a1,i7⟩ =>
 if (decide (i7 < (a0.length:Int)))=true then
  Option.bind (
   aJ (iL a0 i7) (a1,(0:Int))) fun a2 =>
  some (Sum.inl (a2,IntKind.wrap .i64 (i7 + 1)))
 else
  some (Sum.inr a1)
def mH (a0:List GNode):Option (List Int) :=
 (mkI 8 (a0.length:Int) 0).bind fun l2 =>
 Option.bind (
  aJ (iM a0) (l2,(0:Int))) fun a1 =>
 some a1
def wS (p1:GProgram) (a0:ByteArray):Int→Option ((Int) ⊕ ((Unit) ⊕ (Int))):=fun i6 =>
 if (decide (i6 < (p1.Fns.length:Int)))=true then
  (bD p1.Fns i6).bind fun a1 =>
  if (sEq a1.Name a0)=true then
   some (Sum.inr (Sum.inr i6))
  else
   some (Sum.inl (IntKind.wrap .i64 (i6 + 1)))
 else
  some (Sum.inr (Sum.inl ()))
def uG (p1:GProgram) (a0:ByteArray):Option (Int) :=
 Option.bind (
  aJ (wS p1 a0) (0:Int)) fun j5 =>
 match j5 with
 | Sum.inr z=>some z
 | Sum.inl () =>
  some (-1)
def kP (e3:GFn):Int→Option ((Int) ⊕ ((Unit) ⊕ (Bool))):=fun a0 =>
 if (decide (a0 < (e3.Params.length:Int)))=true then
  Option.bind (
   (bD e3.Params a0).bind fun a1 =>
   (fP a1.Name).bind fun a2 =>
   if (!a2)=true then
    some true
   else
    (bV a1.Typ 1 4).bind fun a3 =>
    some (!a3)) fun a4 =>
  if a4=true then
   some (Sum.inr (Sum.inr false))
  else
   some (Sum.inl (IntKind.wrap .i64 (a0 + 1)))
 else
  some (Sum.inr (Sum.inl ()))
def pL (p1:GProgram) (i2:Int):Option (Bool) :=
 (bD p1.Fns i2).bind fun e3 =>
 Option.bind (
  (fP e3.Name).bind fun r6 =>
  if (!r6)=true then
   some true
  else
   (uG p1 e3.Name).bind fun a0 =>
   if (a0 != i2)=true then
    some true
   else
    if (decide ((e3.Params.length:Int) > 3))=true then
     some true
    else
     (bV e3.Res 0 2).bind fun a1 =>
     some (!a1)) fun a2 =>
 if a2=true then
  some false
 else
  Option.bind (
   aJ (kP e3) (0:Int)) fun a3 =>
  match a3 with
  | Sum.inr z=>some z
  | Sum.inl () =>
   Option.bind (
    (bV e3.Body 0 (IntKind.wrap .i64 ((p1.Nodes.length:Int) - 1))).bind fun a4 =>
    if (!a4)=true then
     some true
    else
     (bD p1.Nodes e3.Body).bind fun a5 =>
     some (a5.Kind != 20)) fun a6 =>
   if a6=true then
    some false
   else
    if (e3.Res == 0)=true then
     some (e3.Ret == (-1))
    else
     Option.bind (
      (bV e3.Ret 0 (IntKind.wrap .i64 ((p1.Nodes.length:Int) - 1))).bind fun a7 =>
      if a7=true then
       (bD p1.Nodes e3.Ret).bind fun a8 =>
       (fH a8.Kind).bind fun a9 =>
       some a9
      else
       some false) fun b0 =>
     some b0
def cX (p1:GProgram):((List Int) × Int)→Option (((List Int) × Int) ⊕ ((List Int) ⊕ (Bool))):=fun ⟨a0,a1⟩ =>
 if (decide (a1 < (p1.Fns.length:Int)))=true then
  (pL p1 a1).bind fun a5 =>
  if (!a5)=true then
   some (Sum.inr (Sum.inr false))
  else
   (bD p1.Fns a1).bind fun a3 =>
   (bD a0 a3.Body).bind fun a6 =>
   bO (List.set a0 a3.Body.toNat (IntKind.wrap .i64 (a6 + 1000))) fun a2 =>
   (bD p1.Fns a1).bind fun a7 =>
   if (decide (a7.Ret ≥ 0))=true then
    (bD p1.Fns a1).bind fun a4 =>
    (bD a2 a4.Ret).bind fun a8 =>
    bO (List.set a2 a4.Ret.toNat (IntKind.wrap .i64 (a8 + 1000))) fun a9 =>
    some (Sum.inl (a9,IntKind.wrap .i64 (a1 + 1)))
   else
    some (Sum.inl (a2,IntKind.wrap .i64 (a1 + 1)))
 else
  some (Sum.inr (Sum.inl a0))
def eH (a0:List Int):Int→Option ((Int) ⊕ ((Unit) ⊕ (Bool))):=fun a1 =>
 if (decide (a1 < (a0.length:Int)))=true then
  Option.bind (
   (bD a0 a1).bind fun a2 =>
   if (a2 != 1)=true then
    some (a2 != 1000)
   else
    some false) fun a3 =>
  if a3=true then
   some (Sum.inr (Sum.inr false))
  else
   some (Sum.inl (IntKind.wrap .i64 (a1 + 1)))
 else
  some (Sum.inr (Sum.inl ()))
def gY (p1:GProgram):Option (Bool) :=
 Option.bind (
  (bV (p1.Nodes.length:Int) 1 300).bind fun r4 =>
  if (!r4)=true then
   some true
  else
   (bV (p1.Fns.length:Int) 1 8).bind fun r8 =>
   some (!r8)) fun a2 =>
 if a2=true then
  some false
 else
  (jD p1.Nodes (IntKind.wrap .i64 ((p1.Nodes.length:Int) - 1))).bind fun a1 =>
  (bD a1 (IntKind.wrap .i64 ((a1.length:Int) - 1))).bind fun a3 =>
  if (a3 == 0)=true then
   some false
  else
   (mH p1.Nodes).bind fun a4 =>
   Option.bind (
    aJ (cX p1) (a4,(0:Int))) fun a5 =>
   match a5 with
   | Sum.inr z=>some z
   | Sum.inl a0 =>
    Option.bind (
     aJ (eH a0) (0:Int)) fun a6 =>
    match a6 with
    | Sum.inr z=>some z
    | Sum.inl () =>
     some true
def kQ:Option (List ByteArray) :=
 some [(⟨#[45,62]⟩:ByteArray),(⟨#[61,61]⟩:ByteArray),(⟨#[40]⟩:ByteArray),(⟨#[41]⟩:ByteArray),(⟨#[123]⟩:ByteArray),(⟨#[125]⟩:ByteArray),(⟨#[59]⟩:ByteArray),(⟨#[58]⟩:ByteArray),(⟨#[44]⟩:ByteArray),(⟨#[38]⟩:ByteArray),(⟨#[42]⟩:ByteArray),(⟨#[61]⟩:ByteArray),(⟨#[43]⟩:ByteArray),(⟨#[60]⟩:ByteArray)]
def iP (t1:ByteArray) (a0:Int) (r3:List ByteArray):Int→Option ((Int) ⊕ ((Unit) ⊕ (ByteArray))):=fun i8 =>
 if (decide (i8 < (r3.length:Int)))=true then
  (bD r3 i8).bind fun a1 =>
  Option.bind (
   if (decide (IntKind.wrap .i64 (a0 + (a1.size:Int)) ≤ (t1.size:Int)))=true then
    (gB t1 a0 (IntKind.wrap .i64 (a0 + (a1.size:Int)))).bind fun a2 =>
    (bD r3 i8).bind fun a3 =>
    some (sEq a2 a3)
   else
    some false) fun a4 =>
  if a4=true then
   (bD r3 i8).bind fun a5 =>
   some (Sum.inr (Sum.inr a5))
  else
   some (Sum.inl (IntKind.wrap .i64 (i8 + 1)))
 else
  some (Sum.inr (Sum.inl ()))
def iQ (t1:ByteArray) (a0:Int):Option (ByteArray) :=
 (kQ ).bind fun r3 =>
 Option.bind (
  aJ (iP t1 a0 r3) (0:Int)) fun j7 =>
 match j7 with
 | Sum.inr z=>some z
 | Sum.inl () =>
  some (⟨#[]⟩:ByteArray)
def iU (t1:ByteArray):Int→Option ((Int) ⊕ (Int)):=fun a0 =>
 Option.bind (
  if (decide (a0 < (t1.size:Int)))=true then
   (sAt t1 a0).bind fun a1 =>
   (cZ a1).bind fun a2 =>
   if a2=true then
    some true
   else
    (dM a1).bind fun a3 =>
    some a3
  else
   some false) fun a4 =>
 if a4=true then
  some (Sum.inl (IntKind.wrap .i64 (a0 + 1)))
 else
  some (Sum.inr a0)
def iT (t1:ByteArray) (a1:Int):(Int × Int)→Option ((Int × Int) ⊕ (Int × Int)):=fun ⟨a0,a2⟩ =>
 Option.bind (
  if (decide (a0 < (t1.size:Int)))=true then
   (sAt t1 a0).bind fun a3 =>
   (dM a3).bind fun a4 =>
   if a4=true then
    some (decide (IntKind.wrap .i64 (a0 - a1) ≤ 10))
   else
    some false
  else
   some false) fun a5 =>
 if a5=true then
  (sAt t1 a0).bind fun a6 =>
  some (Sum.inl (IntKind.wrap .i64 (a0 + 1),IntKind.wrap .i64 ((IntKind.wrap .i64 ((IntKind.wrap .i64 (10 * a2)) + (IntKind.wrap .i64 a6))) - 48)))
 else
  some (Sum.inr (a0,a2))
def iV (t1:ByteArray):((List GSign) × Int)→Option (((List GSign) × Int) ⊕ ((List GSign) ⊕ ((List GSign) × Bool))):=fun ⟨a0,a1⟩ =>
 if (decide (a1 < (t1.size:Int)))=true then
  Option.bind (
   (sAt t1 a1).bind fun b0 =>
   if (b0 == 32)=true then
    some true
   else
    some (b0 == 10)) fun b3 =>
  if b3=true then
   some (Sum.inl (a0,IntKind.wrap .i64 (a1 + 1)))
  else
   Option.bind (
    (sAt t1 a1).bind fun b4 =>
    (cZ b4).bind fun b5 =>
    if b5=true then
     Option.bind (
      aJ (iU t1) a1) fun a7 =>
     if (decide (IntKind.wrap .i64 (a7 - a1) > 8))=true then
      some (Sum.inr (Sum.inr (Sum.inr ([],false))))
     else
      (gB t1 a1 a7).bind fun b6 =>
      (cE 32 a0 [(⟨1,b6,0⟩:GSign)]).bind fun b7 =>
      some (Sum.inr (Sum.inl (b7,a7)))
    else
     some (Sum.inl (a0,a1,a1))) fun b8 =>
   match b8 with
   | Sum.inr z=>some z
   | Sum.inl (a3,a2,b9) =>
    Option.bind (
     (sAt t1 a2).bind fun c0 =>
     (dM c0).bind fun c1 =>
     if c1=true then
      Option.bind (
       aJ (iT t1 a2) (b9,(0:Int))) fun ⟨b1,b2⟩ =>
      Option.bind (
       if (decide (IntKind.wrap .i64 (b1 - a2) > 10))=true then
        some true
       else
        some (decide (b2 > 1000000000))) fun c2 =>
      if c2=true then
       some (Sum.inr (Sum.inr (Sum.inr ([],false))))
      else
       (cE 32 a3 [(⟨2,ByteArray.empty,b2⟩:GSign)]).bind fun a8 =>
       some (Sum.inr (Sum.inl (a8,b1)))
     else
      some (Sum.inl (a3,a2))) fun c3 =>
    match c3 with
    | Sum.inr z=>some z
    | Sum.inl (a5,a4) =>
     (iQ t1 a4).bind fun a6 =>
     if (sEq a6 (⟨#[]⟩:ByteArray))=true then
      some (Sum.inr (Sum.inr ([],false)))
     else
      (cE 32 a5 [(⟨3,a6,0⟩:GSign)]).bind fun a9 =>
      some (Sum.inl (a9,IntKind.wrap .i64 (a4 + (a6.size:Int))))
 else
  some (Sum.inr (Sum.inl a0))
def iW (t1:ByteArray):Option ((List GSign) × Bool) :=
 if (decide ((t1.size:Int) > 3000))=true then
  some ([],false)
 else
  Option.bind (
   aJ (iV t1) ([],(0:Int))) fun j6 =>
  match j6 with
  | Sum.inr z=>some z
  | Sum.inl a0 =>
   some (a0,true)
def cL (r1:Gl05Read) (a0:Int) (a1:ByteArray):Option (Bool × Gl05Read) :=
 Option.bind (
  if (!r1.bad)=true then
   if (decide (r1.at_ < (r1.list.length:Int)))=true then
    (bD r1.list r1.at_).bind fun a2 =>
    if (a2.Kind == a0)=true then
     some (sEq a2.Text a1)
    else
     some false
   else
    some false
  else
   some false) fun a3 =>
 some (a3,r1)
def aE (r1:Gl05Read) (a0:Int) (a1:ByteArray):Option (Bool × Gl05Read) :=
 (cL r1 a0 a1).bind fun ⟨r4,q5⟩ =>
 if r4=true then
  some (true,(⟨q5.list,IntKind.wrap .i64 (q5.at_ + 1),q5.bad,q5.deep,q5.nodes⟩:Gl05Read))
 else
  some (false,q5)
def aX (r1:Gl05Read):Option (ByteArray × Gl05Read) :=
 Option.bind (
  if r1.bad=true then
   some true
  else
   if (decide (r1.at_ ≥ (r1.list.length:Int)))=true then
    some true
   else
    (bD r1.list r1.at_).bind fun e8 =>
    if (e8.Kind != 1)=true then
     some true
    else
     (fP e8.Text).bind fun a0 =>
     some (!a0)) fun a1 =>
 if a1=true then
  some ((⟨#[]⟩:ByteArray),(⟨r1.list,r1.at_,true,r1.deep,r1.nodes⟩:Gl05Read))
 else
  (bD r1.list (IntKind.wrap .i64 ((IntKind.wrap .i64 (r1.at_ + 1)) - 1))).bind fun a2 =>
  some (a2.Text,(⟨r1.list,IntKind.wrap .i64 (r1.at_ + 1),r1.bad,r1.deep,r1.nodes⟩:Gl05Read))
def aO (r1:Gl05Read) (a0:ByteArray):Option (Gl05Read) :=
 (aE r1 3 a0).bind fun ⟨r3,q4⟩ =>
 if (!r3)=true then
  some (⟨q4.list,q4.at_,true,q4.deep,q4.nodes⟩:Gl05Read)
 else
  some q4
def cT (r1:Gl05Read):Option (Int × Gl05Read) :=
 (aE r1 1 (⟨#[105,110,116]⟩:ByteArray)).bind fun ⟨r2,q3⟩ =>
 if r2=true then
  some (1,q3)
 else
  (aE q3 1 (⟨#[98,111,120]⟩:ByteArray)).bind fun ⟨r7,q8⟩ =>
  if r7=true then
   some (2,q8)
  else
   (aO q8 (⟨#[38]⟩:ByteArray)).bind fun a3 =>
   Option.bind (
    (aE a3 1 (⟨#[109,117,116]⟩:ByteArray)).bind fun ⟨a4,a1⟩ =>
    if a4=true then
     some ((4:Int),a1)
    else
     some ((3:Int),a1)) fun ⟨a2,a5⟩ =>
   (aE a5 1 (⟨#[98,111,120]⟩:ByteArray)).bind fun ⟨a6,a0⟩ =>
   if (!a6)=true then
    some (a2,(⟨a0.list,a0.at_,true,a0.deep,a0.nodes⟩:Gl05Read))
   else
    some (a2,a0)
def aG (r1:Gl05Read) (x2:GNode):Option (Int × Gl05Read) :=
 Option.bind (
  if r1.bad=true then
   some true
  else
   some (decide ((r1.nodes.length:Int) ≥ 300))) fun v7 =>
 if v7=true then
  some (0,(⟨r1.list,r1.at_,true,r1.deep,r1.nodes⟩:Gl05Read))
 else
  (cE 56 r1.nodes [x2]).bind fun a0 =>
  some (IntKind.wrap .i64 ((a0.length:Int) - 1),(⟨r1.list,r1.at_,r1.bad,r1.deep,a0⟩:Gl05Read))
def dH (r1:Gl05Read):Option (Int × Gl05Read) :=
 (aE r1 1 (⟨#[109,117,116]⟩:ByteArray)).bind fun ⟨r2,q3⟩ =>
 if r2=true then
  (aX q3).bind fun ⟨r7,q8⟩ =>
  (aG q8 (⟨6,0,r7,[]⟩:GNode)).bind fun ⟨a0,a1⟩ =>
  some (a0,a1)
 else
  (aX q3).bind fun ⟨a2,a3⟩ =>
  (aG a3 (⟨5,0,a2,[]⟩:GNode)).bind fun ⟨a4,a5⟩ =>
  some (a4,a5)
def cF (a1:Gl05Read→Option (Int × Gl05Read)) (a0:Gl05Read→Option (Int × Gl05Read)) (a2:Gl05Read→Option (Int × Gl05Read)) (a3:Gl05Read→ByteArray→Option (Int × Gl05Read)) (r1:Gl05Read):Option (Int × Gl05Read) :=
 (a0 r1).bind fun ⟨r2,q3⟩ =>
 Option.bind (
  (aE q3 3 (⟨#[60]⟩:ByteArray)).bind fun ⟨r8,q9⟩ =>
  if r8=true then
   some ((10:Int),q9)
  else
   (aE q9 3 (⟨#[61,61]⟩:ByteArray)).bind fun ⟨a7,a5⟩ =>
   if a7=true then
    some ((11:Int),a5)
   else
    some ((0:Int),a5)) fun ⟨a4,a6⟩ =>
 if (a4 != 0)=true then
  (a0 a6).bind fun ⟨a8,a9⟩ =>
  (aG a9 (⟨a4,0,ByteArray.empty,[r2,a8]⟩:GNode)).bind fun ⟨b0,b1⟩ =>
  some (b0,b1)
 else
  some (r2,a6)
def eK (a0:Gl05Read→Option (Int × Gl05Read)):(Int × Gl05Read)→Option ((Int × Gl05Read) ⊕ (Int × Gl05Read)):=fun ⟨k8,v9⟩ =>
 (aE v9 3 (⟨#[43]⟩:ByteArray)).bind fun ⟨a2,a1⟩ =>
 if a2=true then
  (a0 a1).bind fun ⟨a3,a4⟩ =>
  (aG a4 (⟨9,0,ByteArray.empty,[k8,a3]⟩:GNode)).bind fun ⟨a5,a6⟩ =>
  some (Sum.inl (a5,a6))
 else
  some (Sum.inr (k8,a1))
def dC (a1:Gl05Read→Option (Int × Gl05Read)) (a3:Gl05Read→Option (Int × Gl05Read)) (a0:Gl05Read→Option (Int × Gl05Read)) (a2:Gl05Read→ByteArray→Option (Int × Gl05Read)) (r1:Gl05Read):Option (Int × Gl05Read) :=
 (a0 r1).bind fun ⟨r2,q3⟩ =>
 Option.bind (
  aJ (eK a0) (r2,q3)) fun ⟨a4,a5⟩ =>
 some (a4,a5)
def cO (a0:Gl05Read→Option (Int × Gl05Read)) (a3:Gl05Read→Option (Int × Gl05Read)) (a1:Gl05Read→Option (Int × Gl05Read)) (a2:Gl05Read→ByteArray→Option (Int × Gl05Read)) (r1:Gl05Read):Option (Int × Gl05Read) :=
 Option.bind (
  if r1.bad=true then
   some true
  else
   if (decide (r1.at_ ≥ (r1.list.length:Int)))=true then
    some true
   else
    some (decide (r1.deep > 12))) fun v8 =>
 if v8=true then
  some (0,(⟨r1.list,r1.at_,true,r1.deep,r1.nodes⟩:Gl05Read))
 else
  Option.bind (
   (bD r1.list r1.at_).bind fun b3 =>
   if (b3.Kind == 2)=true then
    (bD r1.list (IntKind.wrap .i64 ((IntKind.wrap .i64 (r1.at_ + 1)) - 1))).bind fun b4 =>
    (aG (⟨r1.list,IntKind.wrap .i64 (r1.at_ + 1),r1.bad,IntKind.wrap .i64 (r1.deep + 1),r1.nodes⟩:Gl05Read) (⟨1,b4.Num,ByteArray.empty,[]⟩:GNode)).bind fun ⟨b5,b6⟩ =>
    some (b5,b6)
   else
    (aE (⟨r1.list,r1.at_,r1.bad,IntKind.wrap .i64 (r1.deep + 1),r1.nodes⟩:Gl05Read) 3 (⟨#[42]⟩:ByteArray)).bind fun ⟨b7,a5⟩ =>
    if b7=true then
     (aX a5).bind fun ⟨b8,b9⟩ =>
     (aG b9 (⟨3,0,b8,[]⟩:GNode)).bind fun ⟨c0,c1⟩ =>
     some (c0,c1)
    else
     (aE a5 3 (⟨#[38]⟩:ByteArray)).bind fun ⟨c2,a6⟩ =>
     if c2=true then
      (dH a6).bind fun ⟨c3,c4⟩ =>
      some (c3,c4)
     else
      (aE a6 3 (⟨#[40]⟩:ByteArray)).bind fun ⟨c5,a7⟩ =>
      if c5=true then
       (a0 a7).bind fun ⟨c6,c7⟩ =>
       (aO c7 (⟨#[41]⟩:ByteArray)).bind fun c8 =>
       some (c6,c8)
      else
       (aE a7 1 (⟨#[99,108,111,110,101]⟩:ByteArray)).bind fun ⟨c9,a8⟩ =>
       if c9=true then
        (aX a8).bind fun ⟨d0,d1⟩ =>
        (aG d1 (⟨4,0,d0,[]⟩:GNode)).bind fun ⟨d2,d3⟩ =>
        some (d2,d3)
       else
        (aE a8 1 (⟨#[105,110,112,117,116]⟩:ByteArray)).bind fun ⟨d4,a9⟩ =>
        if d4=true then
         (aG a9 (⟨7,0,ByteArray.empty,[]⟩:GNode)).bind fun ⟨d5,d6⟩ =>
         some (d5,d6)
        else
         (aE a9 1 (⟨#[110,101,119]⟩:ByteArray)).bind fun ⟨d7,b0⟩ =>
         if d7=true then
          (a1 b0).bind fun ⟨d8,d9⟩ =>
          (aG d9 (⟨8,0,ByteArray.empty,[d8]⟩:GNode)).bind fun ⟨e0,e1⟩ =>
          some (e0,e1)
         else
          (aX b0).bind fun ⟨b1,e2⟩ =>
          (aE e2 3 (⟨#[40]⟩:ByteArray)).bind fun ⟨e3,b2⟩ =>
          if e3=true then
           (a2 b2 b1).bind fun ⟨e4,e5⟩ =>
           some (e4,e5)
          else
           (aG b2 (⟨2,0,b1,[]⟩:GNode)).bind fun ⟨e6,e7⟩ =>
           some (e6,e7)) fun ⟨e8,a4⟩ =>
  some (e8,(⟨a4.list,a4.at_,a4.bad,IntKind.wrap .i64 (a4.deep - 1),a4.nodes⟩:Gl05Read))
def dX (a0:Gl05Read→Option (Int × Gl05Read)):((List Int) × Gl05Read)→Option (((List Int) × Gl05Read) ⊕ ((List Int) × Gl05Read)):=fun ⟨a1,a2⟩ =>
 if (!a2.bad)=true then
  (a0 a2).bind fun ⟨a5,a6⟩ =>
  (cE 8 a1 [a5]).bind fun a3 =>
  (aE a6 3 (⟨#[41]⟩:ByteArray)).bind fun ⟨a7,a4⟩ =>
  if a7=true then
   some (Sum.inr (a3,a4))
  else
   (aO a4 (⟨#[44]⟩:ByteArray)).bind fun a8 =>
   some (Sum.inl (a3,a8))
 else
  some (Sum.inr (a1,a2))
def cQ (a0:Gl05Read→Option (Int × Gl05Read)) (a3:Gl05Read→Option (Int × Gl05Read)) (a1:Gl05Read→Option (Int × Gl05Read)) (a2:Gl05Read→ByteArray→Option (Int × Gl05Read)) (r1:Gl05Read) (a5:ByteArray):Option (Int × Gl05Read) :=
 Option.bind (
  (aE r1 3 (⟨#[41]⟩:ByteArray)).bind fun ⟨r6,q7⟩ =>
  if (!r6)=true then
   aJ (dX a0) ([],q7)
  else
   some ([],q7)) fun ⟨a4,a6⟩ =>
 (aG a6 (⟨12,0,a5,a4⟩:GNode)).bind fun ⟨a7,a8⟩ =>
 some (a7,a8)
def aA:Nat→(Gl05Read→Option (Int × Gl05Read)) × (Gl05Read→Option (Int × Gl05Read)) × (Gl05Read→Option (Int × Gl05Read)) × (Gl05Read→ByteArray→Option (Int × Gl05Read))
 | 0=>(fun _=>none,fun _=>none,fun _=>none,fun _ _=>none)
 | n + 1=>(cF ((aA n).1) ((aA n).2.1) ((aA n).2.2.1) ((aA n).2.2.2),dC ((aA n).1) ((aA n).2.1) ((aA n).2.2.1) ((aA n).2.2.2),cO ((aA n).1) ((aA n).2.1) ((aA n).2.2.1) ((aA n).2.2.2),cQ ((aA n).1) ((aA n).2.1) ((aA n).2.2.1) ((aA n).2.2.2))
def dB:Gl05Read→Option (Int × Gl05Read):=(aA eX).1
def xB:Gl05Read→Option (Int × Gl05Read):=(aA eX).2.1
def vN:Gl05Read→Option (Int × Gl05Read):=(aA eX).2.2.1
def vP:Gl05Read→ByteArray→Option (Int × Gl05Read):=(aA eX).2.2.2
def bQ (r1:Gl05Read) (a0:Int) (a1:ByteArray):Option (Int × Gl05Read) :=
 (dB r1).bind fun ⟨r4,q5⟩ =>
 (aO q5 (⟨#[59]⟩:ByteArray)).bind fun q7 =>
 (aG q7 (⟨a0,0,a1,[r4]⟩:GNode)).bind fun ⟨r9,a2⟩ =>
 some (r9,a2)
def dO (a0:Gl05Read→Option (Int × Gl05Read)):((List Int) × Gl05Read)→Option (((List Int) × Gl05Read) ⊕ ((List Int) × Gl05Read)):=fun ⟨a1,v6⟩ =>
 Option.bind (
  if (!v6.bad)=true then
   (cL v6 3 (⟨#[125]⟩:ByteArray)).bind fun ⟨a4,a2⟩ =>
   if (!a4)=true then
    (cL a2 1 (⟨#[114,101,116]⟩:ByteArray)).bind fun ⟨a5,a6⟩ =>
    some (!a5,a6)
   else
    some (false,a2)
  else
   some (false,v6)) fun ⟨a7,a3⟩ =>
 if a7=true then
  (a0 a3).bind fun ⟨a8,a9⟩ =>
  (cE 8 a1 [a8]).bind fun b0 =>
  some (Sum.inl (b0,a9))
 else
  some (Sum.inr (a1,a3))
def cG (a1:Gl05Read→Option ((List Int) × Gl05Read)) (a0:Gl05Read→Option (Int × Gl05Read)) (a2:Gl05Read→Option (Int × Gl05Read)) (r1:Gl05Read):Option ((List Int) × Gl05Read) :=
 Option.bind (
  aJ (dO a0) ([],r1)) fun ⟨a3,a4⟩ =>
 some (a3,a4)
def cP (a1:Gl05Read→Option ((List Int) × Gl05Read)) (a2:Gl05Read→Option (Int × Gl05Read)) (a0:Gl05Read→Option (Int × Gl05Read)) (r1:Gl05Read):Option (Int × Gl05Read) :=
 (aE r1 1 (⟨#[108,101,116]⟩:ByteArray)).bind fun ⟨r2,q3⟩ =>
 if r2=true then
  (aX q3).bind fun ⟨r7,q8⟩ =>
  (aO q8 (⟨#[61]⟩:ByteArray)).bind fun a9 =>
  (bQ a9 13 r7).bind fun ⟨b0,b1⟩ =>
  some (b0,b1)
 else
  (aE q3 3 (⟨#[42]⟩:ByteArray)).bind fun ⟨b2,a4⟩ =>
  if b2=true then
   (aX a4).bind fun ⟨b3,b4⟩ =>
   (aO b4 (⟨#[61]⟩:ByteArray)).bind fun b5 =>
   (bQ b5 15 b3).bind fun ⟨b6,b7⟩ =>
   some (b6,b7)
  else
   (aE a4 1 (⟨#[105,102]⟩:ByteArray)).bind fun ⟨b8,a5⟩ =>
   if b8=true then
    (dB a5).bind fun ⟨b9,c0⟩ =>
    (a0 c0).bind fun ⟨c1,c2⟩ =>
    Option.bind (
     (aE c2 1 (⟨#[101,108,115,101]⟩:ByteArray)).bind fun ⟨c3,a3⟩ =>
     if (!c3)=true then
      some (⟨a3.list,a3.at_,true,a3.deep,a3.nodes⟩:Gl05Read)
     else
      some a3) fun c4 =>
    (a0 c4).bind fun ⟨c5,c6⟩ =>
    (aG c6 (⟨16,0,ByteArray.empty,[b9,c1,c5]⟩:GNode)).bind fun ⟨c7,c8⟩ =>
    some (c7,c8)
   else
    (aE a5 1 (⟨#[119,104,105,108,101]⟩:ByteArray)).bind fun ⟨c9,a6⟩ =>
    if c9=true then
     (dB a6).bind fun ⟨d0,d1⟩ =>
     (a0 d1).bind fun ⟨d2,d3⟩ =>
     (aG d3 (⟨17,0,ByteArray.empty,[d0,d2]⟩:GNode)).bind fun ⟨d4,d5⟩ =>
     some (d4,d5)
    else
     (aE a6 1 (⟨#[112,114,105,110,116]⟩:ByteArray)).bind fun ⟨d6,a7⟩ =>
     if d6=true then
      (bQ a7 18 (⟨#[]⟩:ByteArray)).bind fun ⟨d7,d8⟩ =>
      some (d7,d8)
     else
      (aE a7 1 (⟨#[100,111]⟩:ByteArray)).bind fun ⟨d9,a8⟩ =>
      if d9=true then
       (bQ a8 19 (⟨#[]⟩:ByteArray)).bind fun ⟨e0,e1⟩ =>
       some (e0,e1)
      else
       (aX a8).bind fun ⟨e2,e3⟩ =>
       (aO e3 (⟨#[61]⟩:ByteArray)).bind fun e4 =>
       (bQ e4 14 e2).bind fun ⟨e5,e6⟩ =>
       some (e5,e6)
def cH (a0:Gl05Read→Option ((List Int) × Gl05Read)) (a2:Gl05Read→Option (Int × Gl05Read)) (a1:Gl05Read→Option (Int × Gl05Read)) (r1:Gl05Read):Option (Int × Gl05Read) :=
 Option.bind (
  if (decide (IntKind.wrap .i64 (r1.deep + 1) > 12))=true then
   some (⟨r1.list,r1.at_,true,IntKind.wrap .i64 (r1.deep + 1),r1.nodes⟩:Gl05Read)
  else
   some (⟨r1.list,r1.at_,r1.bad,IntKind.wrap .i64 (r1.deep + 1),r1.nodes⟩:Gl05Read)) fun v7 =>
 (aO v7 (⟨#[123]⟩:ByteArray)).bind fun q8 =>
 (a0 q8).bind fun ⟨a4,a5⟩ =>
 (aO a5 (⟨#[125]⟩:ByteArray)).bind fun a3 =>
 (aG (⟨a3.list,a3.at_,a3.bad,IntKind.wrap .i64 (a3.deep - 1),a3.nodes⟩:Gl05Read) (⟨20,0,ByteArray.empty,a4⟩:GNode)).bind fun ⟨a6,a7⟩ =>
 some (a6,a7)
def aC:Nat→(Gl05Read→Option ((List Int) × Gl05Read)) × (Gl05Read→Option (Int × Gl05Read)) × (Gl05Read→Option (Int × Gl05Read))
 | 0=>(fun _=>none,fun _=>none,fun _=>none)
 | n + 1=>(cG ((aC n).1) ((aC n).2.1) ((aC n).2.2),cP ((aC n).1) ((aC n).2.1) ((aC n).2.2),cH ((aC n).1) ((aC n).2.1) ((aC n).2.2))
def iG:Gl05Read→Option ((List Int) × Gl05Read):=(aC eX).1
def vO:Gl05Read→Option (Int × Gl05Read):=(aC eX).2.1
def uF:Gl05Read→Option (Int × Gl05Read):=(aC eX).2.2
def fE:(GFn × Gl05Read)→Option ((GFn × Gl05Read) ⊕ (GFn × Gl05Read)):=fun ⟨a0,a1⟩ =>
 if (!a1.bad)=true then
  (aX a1).bind fun ⟨a4,a5⟩ =>
  (aO a5 (⟨#[58]⟩:ByteArray)).bind fun a6 =>
  (cT a6).bind fun ⟨a7,a8⟩ =>
  (cE 24 a0.Params [(⟨a4,a7⟩:GParam)]).bind fun a2 =>
  (aE a8 3 (⟨#[41]⟩:ByteArray)).bind fun ⟨a9,a3⟩ =>
  if a9=true then
   some (Sum.inr ((⟨a0.Name,a2,a0.Res,a0.Body,a0.Ret⟩:GFn),a3))
  else
   (aO a3 (⟨#[44]⟩:ByteArray)).bind fun b0 =>
   some (Sum.inl ((⟨a0.Name,a2,a0.Res,a0.Body,a0.Ret⟩:GFn),b0))
 else
  some (Sum.inr (a0,a1))
def eL (r1:Gl05Read):Option (GFn × Gl05Read) :=
 Option.bind (
  (aE r1 1 (⟨#[102,110]⟩:ByteArray)).bind fun ⟨r5,q6⟩ =>
  if (!r5)=true then
   some (⟨q6.list,q6.at_,true,q6.deep,q6.nodes⟩:Gl05Read)
  else
   some q6) fun a7 =>
 (aX a7).bind fun ⟨a2,a8⟩ =>
 (aO a8 (⟨#[40]⟩:ByteArray)).bind fun a9 =>
 Option.bind (
  (aE a9 3 (⟨#[41]⟩:ByteArray)).bind fun ⟨b0,a3⟩ =>
  if (!b0)=true then
   aJ (fE) ((⟨a2,[],0,0,(-1)⟩:GFn),a3)
  else
   some ((⟨a2,[],0,0,(-1)⟩:GFn),a3)) fun ⟨a1,b1⟩ =>
 Option.bind (
  (aE b1 3 (⟨#[45,62]⟩:ByteArray)).bind fun ⟨b2,a4⟩ =>
  if b2=true then
   (cT a4).bind fun ⟨b3,b4⟩ =>
   some ((⟨a1.Name,a1.Params,b3,a1.Body,a1.Ret⟩:GFn),b4)
  else
   some (a1,a4)) fun ⟨a0,b5⟩ =>
 (aO b5 (⟨#[123]⟩:ByteArray)).bind fun b6 =>
 (iG b6).bind fun ⟨b7,b8⟩ =>
 (aG b8 (⟨20,0,ByteArray.empty,b7⟩:GNode)).bind fun ⟨a5,b9⟩ =>
 Option.bind (
  (aE b9 1 (⟨#[114,101,116]⟩:ByteArray)).bind fun ⟨c0,a6⟩ =>
  if c0=true then
   (dB a6).bind fun ⟨c1,c2⟩ =>
   (aO c2 (⟨#[59]⟩:ByteArray)).bind fun c3 =>
   some ((⟨a0.Name,a0.Params,a0.Res,a5,c1⟩:GFn),c3)
  else
   some ((⟨a0.Name,a0.Params,a0.Res,a5,a0.Ret⟩:GFn),a6)) fun ⟨c4,c5⟩ =>
 (aO c5 (⟨#[125]⟩:ByteArray)).bind fun c6 =>
 some (c4,c6)
def dJ:(GProgram × Gl05Read)→Option ((GProgram × Gl05Read) ⊕ (GProgram × Gl05Read)):=fun ⟨a1,a0⟩ =>
 Option.bind (
  if (!a0.bad)=true then
   if (decide (a0.at_ < (a0.list.length:Int)))=true then
    some (decide ((a1.Fns.length:Int) ≤ 8))
   else
    some false
  else
   some false) fun a2 =>
 if a2=true then
  (eL a0).bind fun ⟨a3,a4⟩ =>
  (cE 64 a1.Fns [a3]).bind fun a5 =>
  some (Sum.inl ((⟨a1.Nodes,a5⟩:GProgram),a4))
 else
  some (Sum.inr (a1,a0))
def cC (t1:ByteArray):Option (GProgram × Bool) :=
 (iW t1).bind fun ⟨r2,r3⟩ =>
 if (!r3)=true then
  some ((⟨[],[]⟩:GProgram),false)
 else
  Option.bind (
   aJ (dJ) ((⟨[],[]⟩:GProgram),(⟨r2,0,false,0,[]⟩:Gl05Read))) fun ⟨a1,a0⟩ =>
  Option.bind (
   if a0.bad=true then
    some true
   else
    (gY (⟨a0.nodes,a1.Fns⟩:GProgram)).bind fun a2 =>
    some (!a2)) fun a3 =>
  if a3=true then
   some ((⟨[],[]⟩:GProgram),false)
  else
   some ((⟨a0.nodes,a1.Fns⟩:GProgram),true)
def eF (c1:Gl01Cur) (n2:Int):Option (Bool × Gl01Cur) :=
 (bN c1 n2).bind fun ⟨r3,q4⟩ =>
 some (r3 == 0,q4)
def cV (m1:Gl05Made) (a0:List ByteArray) (m3:Gl01Cur):Option (ByteArray × Gl01Cur) :=
 (bN m3 (a0.length:Int)).bind fun ⟨r4,q5⟩ =>
 (bD a0 r4).bind fun e7 =>
 some (e7,q5)
def iR (c1:Gl01Cur) (a0:List ByteArray):Option (ByteArray × Gl01Cur) :=
 (bN c1 (a0.length:Int)).bind fun ⟨r3,q4⟩ =>
 (bD a0 r3).bind fun e6 =>
 some (e6,q4)
def dI (m1:Gl05Made) (m2:Gl01Cur):Option (ByteArray × Gl01Cur) :=
 (iR m2 [(⟨#[48]⟩:ByteArray),(⟨#[49]⟩:ByteArray),(⟨#[50]⟩:ByteArray),(⟨#[51]⟩:ByteArray),(⟨#[55]⟩:ByteArray),(⟨#[49,48]⟩:ByteArray),(⟨#[53,48,48,48,48,48,48,48,48]⟩:ByteArray)]).bind fun ⟨r3,q4⟩ =>
 some (r3,q4)
def aK (m1:Gl05Made) (m2:Gl01Cur):Option (ByteArray × Gl01Cur) :=
 (bN m2 5).bind fun ⟨r3,q4⟩ =>
 Option.bind (
  if (decide (r3 < 2))=true then
   some (decide ((m1.ints.length:Int) > 0))
  else
   some false) fun a0 =>
 if a0=true then
  (cV m1 m1.ints q4).bind fun ⟨a1,a2⟩ =>
  some (a1,a2)
 else
  Option.bind (
   if (r3 == 2)=true then
    some (decide ((m1.boxes.length:Int) > 0))
   else
    some false) fun a3 =>
  if a3=true then
   (cV m1 m1.boxes q4).bind fun ⟨a4,a5⟩ =>
   (bC (⟨#[42]⟩:ByteArray) a4).bind fun a6 =>
   some (a6,a5)
  else
   (dI m1 q4).bind fun ⟨a7,a8⟩ =>
   some (a7,a8)
def cJ (m1:Gl05Made) (m2:Gl01Cur):Option (ByteArray × Gl01Cur) :=
 (bN m2 7).bind fun ⟨r3,q4⟩ =>
 if (r3 == 0)=true then
  (aK m1 q4).bind fun ⟨r8,q9⟩ =>
  (bC r8 (⟨#[32,43,32]⟩:ByteArray)).bind fun a1 =>
  (aK m1 q9).bind fun ⟨a2,a3⟩ =>
  (bC a1 a2).bind fun a4 =>
  some (a4,a3)
 else
  if (r3 == 1)=true then
   (aK m1 q4).bind fun ⟨a5,a6⟩ =>
   (bC a5 (⟨#[32,60,32]⟩:ByteArray)).bind fun a7 =>
   (aK m1 a6).bind fun ⟨a8,a9⟩ =>
   (bC a7 a8).bind fun b0 =>
   some (b0,a9)
  else
   if (r3 == 2)=true then
    (aK m1 q4).bind fun ⟨b1,b2⟩ =>
    (bC (⟨#[40]⟩:ByteArray) b1).bind fun b3 =>
    (bC b3 (⟨#[32,43,32]⟩:ByteArray)).bind fun b4 =>
    (aK m1 b2).bind fun ⟨b5,b6⟩ =>
    (bC b4 b5).bind fun b7 =>
    (bC b7 (⟨#[41,32,43,32]⟩:ByteArray)).bind fun b8 =>
    (aK m1 b6).bind fun ⟨b9,c0⟩ =>
    (bC b8 b9).bind fun c1 =>
    some (c1,c0)
   else
    if (r3 == 3)=true then
     (aK m1 q4).bind fun ⟨c2,c3⟩ =>
     (bC (⟨#[115,117,109,40]⟩:ByteArray) c2).bind fun c4 =>
     (bC c4 (⟨#[44,32]⟩:ByteArray)).bind fun c5 =>
     (aK m1 c3).bind fun ⟨c6,c7⟩ =>
     (bC c5 c6).bind fun c8 =>
     (bC c8 (⟨#[41]⟩:ByteArray)).bind fun c9 =>
     some (c9,c7)
    else
     if (r3 == 4)=true then
      (eF q4 3).bind fun ⟨d0,a0⟩ =>
      if d0=true then
       some ((⟨#[105,110,112,117,116]⟩:ByteArray),a0)
      else
       (aK m1 a0).bind fun ⟨d1,d2⟩ =>
       some (d1,d2)
     else
      (aK m1 q4).bind fun ⟨d3,d4⟩ =>
      some (d3,d4)
def mB (x1:Int):Option (Int) :=
 if (decide (x1 < 10))=true then
  some (IntKind.wrap .u8 (IntKind.wrap .i64 (48 + x1)))
 else
  some (IntKind.wrap .u8 (IntKind.wrap .i64 ((IntKind.wrap .i64 (97 + x1)) - 10)))
def iY:(Int × ByteArray)→Option ((Int × ByteArray) ⊕ (ByteArray)):=fun ⟨n7,s8⟩ =>
 if (n7 != 0)=true then
  Option.bind (
   if (decide (Int.tmod n7 10 < 0))=true then
    some (IntKind.wrap .i64 (0 - (Int.tmod n7 10)))
   else
    some (Int.tmod n7 10)) fun a0 =>
  (mB a0).bind fun a1 =>
  (bC (pI [a1]) s8).bind fun a2 =>
  some (Sum.inl (IntKind.wrap .i64 (Int.tdiv n7 10),a2))
 else
  some (Sum.inr s8)
def fK (n1:Int):Option (ByteArray) :=
 if (n1 == 0)=true then
  some (⟨#[48]⟩:ByteArray)
 else
  Option.bind (
   aJ (iY) (n1,(⟨#[]⟩:ByteArray))) fun a0 =>
  if (decide (n1 < 0))=true then
   (bC (⟨#[45]⟩:ByteArray) a0).bind fun a1 =>
   some a1
  else
   some a0
def bR (m1:Gl05Made) (s2:ByteArray) (m3:Gl01Cur):Option (ByteArray × Gl05Made × Gl01Cur) :=
 (fK (IntKind.wrap .i64 (m1.n + 1))).bind fun r4 =>
 (bC s2 r4).bind fun t6 =>
 some (t6,(⟨(),m1.ints,m1.boxes,IntKind.wrap .i64 (m1.n + 1),m1.text,m1.wild⟩:Gl05Made),m3)
def fU (m1:Gl05Made) (b2:ByteArray):((List ByteArray) × Int)→Option (((List ByteArray) × Int) ⊕ (List ByteArray)):=fun ⟨a0,i8⟩ =>
 if (decide (i8 < (m1.boxes.length:Int)))=true then
  Option.bind (
   (bD m1.boxes i8).bind fun a1 =>
   if (!(sEq a1 b2))=true then
    some true
   else
    some m1.wild) fun a2 =>
  if a2=true then
   (bD m1.boxes i8).bind fun a3 =>
   (cE 16 a0 [a3]).bind fun a4 =>
   some (Sum.inl (a4,IntKind.wrap .i64 (i8 + 1)))
  else
   some (Sum.inl (a0,IntKind.wrap .i64 (i8 + 1)))
 else
  some (Sum.inr a0)
def cW (m1:Gl05Made) (b2:ByteArray) (m3:Gl01Cur):Option (Gl05Made × Gl01Cur) :=
 Option.bind (
  aJ (fU m1 b2) ([],(0:Int))) fun a0 =>
 some ((⟨(),m1.ints,a0,m1.n,m1.text,m1.wild⟩:Gl05Made),m3)
def fG (m1:Gl05Made) (a3:Bool) (m3:Gl01Cur):Option (Gl05Made × Gl01Cur) :=
 (cV m1 m1.boxes m3).bind fun ⟨r4,q5⟩ =>
 (bN q5 9).bind fun ⟨r7,q8⟩ =>
 if (r7 == 0)=true then
  (bR m1 (⟨#[114]⟩:ByteArray) q8).bind fun ⟨c2,a6,c7⟩ =>
  (bC a6.text (⟨#[108,101,116,32]⟩:ByteArray)).bind fun c8 =>
  (bC c8 c2).bind fun c9 =>
  (bC c9 (⟨#[32,61,32,38]⟩:ByteArray)).bind fun d0 =>
  (bC d0 r4).bind fun d1 =>
  (bC d1 (⟨#[59,32,112,114,105,110,116,32,42]⟩:ByteArray)).bind fun d2 =>
  (bC d2 c2).bind fun d3 =>
  (bC d3 (⟨#[59,32]⟩:ByteArray)).bind fun d4 =>
  some ((⟨(),a6.ints,a6.boxes,a6.n,d4,a6.wild⟩:Gl05Made),c7)
 else
  if (r7 == 1)=true then
   (bR m1 (⟨#[109]⟩:ByteArray) q8).bind fun ⟨c3,a4,d5⟩ =>
   (bC a4.text (⟨#[108,101,116,32]⟩:ByteArray)).bind fun d6 =>
   (bC d6 c3).bind fun d7 =>
   (bC d7 (⟨#[32,61,32,38,109,117,116,32]⟩:ByteArray)).bind fun d8 =>
   (bC d8 r4).bind fun d9 =>
   (bC d9 (⟨#[59,32,42]⟩:ByteArray)).bind fun e0 =>
   (bC e0 c3).bind fun e1 =>
   (bC e1 (⟨#[32,61,32]⟩:ByteArray)).bind fun e2 =>
   (aK a4 d5).bind fun ⟨e3,e4⟩ =>
   (bC e2 e3).bind fun e5 =>
   (bC e5 (⟨#[59,32]⟩:ByteArray)).bind fun e6 =>
   some ((⟨(),a4.ints,a4.boxes,a4.n,e6,a4.wild⟩:Gl05Made),e4)
  else
   if (r7 == 2)=true then
    (bC m1.text (⟨#[100,111,32,115,104,111,119,40,38]⟩:ByteArray)).bind fun e7 =>
    (bC e7 r4).bind fun e8 =>
    (bC e8 (⟨#[41,59,32]⟩:ByteArray)).bind fun e9 =>
    some ((⟨(),m1.ints,m1.boxes,m1.n,e9,m1.wild⟩:Gl05Made),q8)
   else
    if (r7 == 3)=true then
     (bC m1.text (⟨#[100,111,32,98,117,109,112,40,38,109,117,116,32]⟩:ByteArray)).bind fun g0 =>
     (bC g0 r4).bind fun g1 =>
     (bC g1 (⟨#[44,32]⟩:ByteArray)).bind fun g2 =>
     (dI m1 q8).bind fun ⟨g3,g4⟩ =>
     (bC g2 g3).bind fun g5 =>
     (bC g5 (⟨#[41,59,32]⟩:ByteArray)).bind fun g6 =>
     some ((⟨(),m1.ints,m1.boxes,m1.n,g6,m1.wild⟩:Gl05Made),g4)
    else
     if (r7 == 4)=true then
      (bR m1 (⟨#[98]⟩:ByteArray) q8).bind fun ⟨c4,a2,g7⟩ =>
      (bC a2.text (⟨#[108,101,116,32]⟩:ByteArray)).bind fun g8 =>
      (bC g8 c4).bind fun g9 =>
      (bC g9 (⟨#[32,61,32,99,108,111,110,101,32]⟩:ByteArray)).bind fun h0 =>
      (bC h0 r4).bind fun h1 =>
      (bC h1 (⟨#[59,32]⟩:ByteArray)).bind fun c5 =>
      Option.bind (
       (eF g7 3).bind fun ⟨h2,c6⟩ =>
       if h2=true then
        (cW (⟨(),a2.ints,a2.boxes,a2.n,c5,a2.wild⟩:Gl05Made) r4 c6).bind fun ⟨h3,h4⟩ =>
        some (h3,h4)
       else
        some ((⟨(),a2.ints,a2.boxes,a2.n,c5,a2.wild⟩:Gl05Made),c6)) fun ⟨a5,h5⟩ =>
      (cE 16 [] a5.boxes).bind fun j0 =>
      (cE 16 a5.boxes [c4]).bind fun h6 =>
      some ((⟨(),a5.ints,h6,a5.n,a5.text,a5.wild⟩:Gl05Made),h5)
     else
      if (r7 == 5)=true then
       (bC m1.text (⟨#[42]⟩:ByteArray)).bind fun h7 =>
       (bC h7 r4).bind fun h8 =>
       (bC h8 (⟨#[32,61,32]⟩:ByteArray)).bind fun h9 =>
       (cJ m1 q8).bind fun ⟨i0,i1⟩ =>
       (bC h9 i0).bind fun i2 =>
       (bC i2 (⟨#[59,32]⟩:ByteArray)).bind fun i3 =>
       some ((⟨(),m1.ints,m1.boxes,m1.n,i3,m1.wild⟩:Gl05Made),i1)
      else
       if (r7 == 6)=true then
        (bC m1.text r4).bind fun i4 =>
        (bC i4 (⟨#[32,61,32,110,101,119,32]⟩:ByteArray)).bind fun i5 =>
        (aK m1 q8).bind fun ⟨i6,i7⟩ =>
        (bC i5 i6).bind fun i8 =>
        (bC i8 (⟨#[59,32]⟩:ByteArray)).bind fun a8 =>
        some ((⟨(),m1.ints,m1.boxes,m1.n,a8,m1.wild⟩:Gl05Made),i7)
       else
        if (r7 == 7)=true then
         if a3=true then
          (bC m1.text (⟨#[100,111,32,101,97,116,40]⟩:ByteArray)).bind fun a9 =>
          (bC a9 r4).bind fun b0 =>
          (bC b0 (⟨#[41,59,32]⟩:ByteArray)).bind fun b1 =>
          (cW (⟨(),m1.ints,m1.boxes,m1.n,b1,m1.wild⟩:Gl05Made) r4 q8).bind fun ⟨b2,b3⟩ =>
          some (b2,b3)
         else
          some (m1,q8)
        else
         if a3=true then
          (bR m1 (⟨#[98]⟩:ByteArray) q8).bind fun ⟨a7,a1,b4⟩ =>
          (bC a1.text (⟨#[108,101,116,32]⟩:ByteArray)).bind fun b5 =>
          (bC b5 a7).bind fun b6 =>
          (bC b6 (⟨#[32,61,32]⟩:ByteArray)).bind fun b7 =>
          (bC b7 r4).bind fun b8 =>
          (bC b8 (⟨#[59,32]⟩:ByteArray)).bind fun b9 =>
          (cW (⟨(),a1.ints,a1.boxes,a1.n,b9,a1.wild⟩:Gl05Made) r4 b4).bind fun ⟨a0,c0⟩ =>
          (cE 16 [] a0.boxes).bind fun i9 =>
          (cE 16 a0.boxes [a7]).bind fun c1 =>
          some ((⟨(),a0.ints,c1,a0.n,a0.text,a0.wild⟩:Gl05Made),c0)
         else
          some (m1,q8)
def eM (a1:Gl05Made→Int→Bool→Gl01Cur→Option (Gl05Made × Gl01Cur)) (a0:Gl05Made→Int→ByteArray→Gl01Cur→Option (Gl05Made × Gl01Cur)) (m1:Gl05Made) (a2:Int) (a8:Bool) (m4:Gl01Cur):Option (Gl05Made × Gl01Cur) :=
 (bN m4 14).bind fun ⟨r5,q6⟩ =>
 Option.bind (
  if (decide (r5 < 2))=true then
   some true
  else
   some ((m1.ints.length:Int) == 0)) fun d8 =>
 if d8=true then
  (cJ m1 q6).bind fun ⟨d9,e0⟩ =>
  (bR m1 (⟨#[105]⟩:ByteArray) e0).bind fun ⟨d5,a6,e1⟩ =>
  (bC a6.text (⟨#[108,101,116,32]⟩:ByteArray)).bind fun e2 =>
  (bC e2 d5).bind fun e3 =>
  (bC e3 (⟨#[32,61,32]⟩:ByteArray)).bind fun e4 =>
  (bC e4 d9).bind fun e5 =>
  (bC e5 (⟨#[59,32]⟩:ByteArray)).bind fun e6 =>
  (cE 16 [] a6.ints).bind fun j6 =>
  (cE 16 a6.ints [d5]).bind fun e7 =>
  some ((⟨(),e7,a6.boxes,a6.n,e6,a6.wild⟩:Gl05Made),e1)
 else
  Option.bind (
   if (decide (r5 < 4))=true then
    some true
   else
    some ((m1.boxes.length:Int) == 0)) fun e8 =>
  if e8=true then
   (aK m1 q6).bind fun ⟨e9,g0⟩ =>
   (bC (⟨#[110,101,119,32]⟩:ByteArray) e9).bind fun g1 =>
   Option.bind (
    (eF g0 3).bind fun ⟨g2,d6⟩ =>
    if g2=true then
     (aK m1 d6).bind fun ⟨g3,g4⟩ =>
     (bC (⟨#[109,97,107,101,40]⟩:ByteArray) g3).bind fun g5 =>
     (bC g5 (⟨#[41]⟩:ByteArray)).bind fun g6 =>
     some (g6,m1,g4)
    else
     some (g1,m1,d6)) fun ⟨g7,g8,g9⟩ =>
   (bR g8 (⟨#[98]⟩:ByteArray) g9).bind fun ⟨d7,a7,h0⟩ =>
   (bC a7.text (⟨#[108,101,116,32]⟩:ByteArray)).bind fun h1 =>
   (bC h1 d7).bind fun h2 =>
   (bC h2 (⟨#[32,61,32]⟩:ByteArray)).bind fun h3 =>
   (bC h3 g7).bind fun h4 =>
   (bC h4 (⟨#[59,32]⟩:ByteArray)).bind fun h5 =>
   (cE 16 [] a7.boxes).bind fun j7 =>
   (cE 16 a7.boxes [d7]).bind fun h6 =>
   some ((⟨(),a7.ints,h6,a7.n,h5,a7.wild⟩:Gl05Made),h0)
  else
   if (decide (r5 < 6))=true then
    (bC m1.text (⟨#[112,114,105,110,116,32]⟩:ByteArray)).bind fun h7 =>
    (cJ m1 q6).bind fun ⟨h8,h9⟩ =>
    (bC h7 h8).bind fun i0 =>
    (bC i0 (⟨#[59,32]⟩:ByteArray)).bind fun i1 =>
    some ((⟨(),m1.ints,m1.boxes,m1.n,i1,m1.wild⟩:Gl05Made),h9)
   else
    if (r5 == 6)=true then
     (cV m1 m1.ints q6).bind fun ⟨i2,i3⟩ =>
     (bC m1.text i2).bind fun i4 =>
     (bC i4 (⟨#[32,61,32]⟩:ByteArray)).bind fun i5 =>
     (cJ m1 i3).bind fun ⟨i6,i7⟩ =>
     (bC i5 i6).bind fun i8 =>
     (bC i8 (⟨#[59,32]⟩:ByteArray)).bind fun i9 =>
     some ((⟨(),m1.ints,m1.boxes,m1.n,i9,m1.wild⟩:Gl05Made),i7)
    else
     Option.bind (
      if (r5 == 7)=true then
       some (decide (a2 > 0))
      else
       some false) fun j0 =>
     if j0=true then
      (bC m1.text (⟨#[105,102,32]⟩:ByteArray)).bind fun j1 =>
      (aK m1 q6).bind fun ⟨j2,j3⟩ =>
      (bC j1 j2).bind fun j4 =>
      (bC j4 (⟨#[32,60,32]⟩:ByteArray)).bind fun j5 =>
      (aK m1 j3).bind fun ⟨a9,b0⟩ =>
      (bC j5 a9).bind fun b1 =>
      (bC b1 (⟨#[32]⟩:ByteArray)).bind fun b2 =>
      (a0 (⟨(),m1.ints,m1.boxes,m1.n,b2,m1.wild⟩:Gl05Made) a2 (⟨#[]⟩:ByteArray) b0).bind fun ⟨a3,b3⟩ =>
      (bC a3.text (⟨#[101,108,115,101,32]⟩:ByteArray)).bind fun b4 =>
      (a0 (⟨(),a3.ints,a3.boxes,a3.n,b4,a3.wild⟩:Gl05Made) a2 (⟨#[]⟩:ByteArray) b3).bind fun ⟨b5,b6⟩ =>
      some (b5,b6)
     else
      Option.bind (
       if (r5 == 8)=true then
        some (decide (a2 > 0))
       else
        some false) fun b7 =>
      if b7=true then
       (bR m1 (⟨#[119]⟩:ByteArray) q6).bind fun ⟨a5,a4,b8⟩ =>
       (bC a4.text (⟨#[108,101,116,32]⟩:ByteArray)).bind fun b9 =>
       (bC b9 a5).bind fun c0 =>
       (bC c0 (⟨#[32,61,32,48,59,32,119,104,105,108,101,32]⟩:ByteArray)).bind fun c1 =>
       (bC c1 a5).bind fun c2 =>
       (bC c2 (⟨#[32,60,32]⟩:ByteArray)).bind fun c3 =>
       (iR b8 [(⟨#[48]⟩:ByteArray),(⟨#[49]⟩:ByteArray),(⟨#[50]⟩:ByteArray),(⟨#[51]⟩:ByteArray)]).bind fun ⟨c4,c5⟩ =>
       (bC c3 c4).bind fun c6 =>
       (bC c6 (⟨#[32]⟩:ByteArray)).bind fun c7 =>
       (bC a5 (⟨#[32,61,32]⟩:ByteArray)).bind fun c8 =>
       (bC c8 a5).bind fun c9 =>
       (bC c9 (⟨#[32,43,32,49,59,32]⟩:ByteArray)).bind fun d0 =>
       (a0 (⟨(),a4.ints,a4.boxes,a4.n,c7,a4.wild⟩:Gl05Made) a2 d0 c5).bind fun ⟨d1,d2⟩ =>
       some (d1,d2)
      else
       (fG m1 a8 q6).bind fun ⟨d3,d4⟩ =>
       some (d3,d4)
def eT (a0:Gl05Made→Int→Bool→Gl01Cur→Option (Gl05Made × Gl01Cur)) (a1:Int):(Int × Gl05Made × Gl01Cur)→Option ((Int × Gl05Made × Gl01Cur) ⊕ (Gl05Made × Gl01Cur)):=fun ⟨a2,a3,a5⟩ =>
 (bN a5 3).bind fun ⟨a6,a4⟩ =>
 if (decide (a2 < a6))=true then
  (a0 a3 (IntKind.wrap .i64 (a1 - 1)) false a4).bind fun ⟨a7,a8⟩ =>
  some (Sum.inl (IntKind.wrap .i64 (a2 + 1),a7,a8))
 else
  some (Sum.inr (a3,a4))
def dP (a0:Gl05Made→Int→Bool→Gl01Cur→Option (Gl05Made × Gl01Cur)) (a1:Gl05Made→Int→ByteArray→Gl01Cur→Option (Gl05Made × Gl01Cur)) (m1:Gl05Made) (a2:Int) (a3:ByteArray) (m4:Gl01Cur):Option (Gl05Made × Gl01Cur) :=
 (cE 16 [] m1.ints).bind fun l5 =>
 (cE 16 [] m1.boxes).bind fun l6 =>
 (bC m1.text (⟨#[123,32]⟩:ByteArray)).bind fun t7 =>
 Option.bind (
  aJ (eT a0 a2) ((0:Int),(⟨(),m1.ints,m1.boxes,m1.n,t7,m1.wild⟩:Gl05Made),m4)) fun ⟨a4,a5⟩ =>
 (bC a4.text a3).bind fun a6 =>
 (bC a6 (⟨#[125,32]⟩:ByteArray)).bind fun a7 =>
 some ((⟨(),m1.ints,m1.boxes,a4.n,a7,a4.wild⟩:Gl05Made),a5)
def aM:Nat→(Gl05Made→Int→Bool→Gl01Cur→Option (Gl05Made × Gl01Cur)) × (Gl05Made→Int→ByteArray→Gl01Cur→Option (Gl05Made × Gl01Cur))
 | 0=>(fun _ _ _ _=>none,fun _ _ _ _=>none)
 | n + 1=>(eM ((aM n).1) ((aM n).2),dP ((aM n).1) ((aM n).2))
def pJ:Gl05Made→Int→Bool→Gl01Cur→Option (Gl05Made × Gl01Cur):=(aM eX).1
def kM (a0:Int):(Int × Gl05Made × Gl01Cur)→Option ((Int × Gl05Made × Gl01Cur) ⊕ (Gl05Made × Gl01Cur)):=fun ⟨i9,a1,a3⟩ =>
 (bN a3 a0).bind fun ⟨a4,a2⟩ =>
 if (decide (i9 < IntKind.wrap .i64 (2 + a4)))=true then
  (pJ a1 2 true a2).bind fun ⟨a5,a6⟩ =>
  some (Sum.inl (IntKind.wrap .i64 (i9 + 1),a5,a6))
 else
  some (Sum.inr (a1,a2))
def mG (c1:Gl01Cur) (a0:Int):Option (ByteArray × Gl01Cur) :=
 (eF c1 6).bind fun ⟨r3,q4⟩ =>
 Option.bind (
  aJ (kM a0) ((0:Int),(⟨(),[],[],0,(⟨#[102,110,32,115,117,109,40,97,58,32,105,110,116,44,32,98,58,32,105,110,116,41,32,45,62,32,105,110,116,32,123,32,114,101,116,32,97,32,43,32,98,59,32,125,32,102,110,32,115,104,111,119,40,114,58,32,38,98,111,120,41,32,123,32,112,114,105,110,116,32,42,114,59,32,125,32,102,110,32,98,117,109,112,40,109,58,32,38,109,117,116,32,98,111,120,44,32,110,58,32,105,110,116,41,32,123,32,42,109,32,61,32,42,109,32,43,32,110,59,32,125,32,102,110,32,109,97,107,101,40,110,58,32,105,110,116,41,32,45,62,32,98,111,120,32,123,32,108,101,116,32,118,32,61,32,110,101,119,32,110,59,32,114,101,116,32,118,59,32,125,32,102,110,32,101,97,116,40,98,58,32,98,111,120,41,32,123,32,112,114,105,110,116,32,42,98,59,32,125,32,102,110,32,109,97,105,110,40,41,32,123,32]⟩:ByteArray),r3⟩:Gl05Made),q4)) fun ⟨a1,a2⟩ =>
 (bC a1.text (⟨#[125]⟩:ByteArray)).bind fun a3 =>
 some (a3,a2)
def iK (c1:Gl01Cur):Option (GProgram × Gl01Cur) :=
 (mG c1 9).bind fun ⟨r2,q3⟩ =>
 (cC r2).bind fun ⟨r5,r6⟩ =>
 if (!r6)=true then
  (cC (⟨#[102,110,32,109,97,105,110,40,41,32,123,32,108,101,116,32,97,32,61,32,110,101,119,32,51,59,32,108,101,116,32,98,32,61,32,99,108,111,110,101,32,97,59,32,112,114,105,110,116,32,42,98,59,32,100,111,32,115,104,111,119,40,38,97,41,59,32,125]⟩:ByteArray)).bind fun ⟨a0,a2⟩ =>
  if ((a0.Nodes.length:Int) == 0)=true then
   (cC (⟨#[102,110,32,109,97,105,110,40,41,32,123,32,112,114,105,110,116,32,49,59,32,125]⟩:ByteArray)).bind fun ⟨a1,a3⟩ =>
   some (a1,q3)
  else
   some (a0,q3)
 else
  some (r5,q3)
def iO (c1:Gl01Cur):Option (GProgram × Gl01Cur) :=
 (bN c1 14).bind fun ⟨r2,q3⟩ =>
 (bN q3 200).bind fun ⟨r5,q6⟩ =>
 (iK q6).bind fun ⟨r8,q9⟩ =>
 (mK r8).bind fun a0 =>
 (aCt r5 (a0.Nodes.length:Int)).bind fun a1 =>
 if (r2 == 0)=true then
  (bD a0.Nodes a1).bind fun a7 =>
  bO (List.set a0.Nodes a1.toNat (⟨Int.tmod r5 22,a7.Num,a7.Name,a7.Kids⟩:GNode)) fun b4 =>
  some ((⟨b4,a0.Fns⟩:GProgram),q9)
 else
  if (r2 == 1)=true then
   (bD [(-1),5,1000000001] (Int.tmod r5 3)).bind fun b5 =>
   (bD a0.Nodes a1).bind fun a8 =>
   bO (List.set a0.Nodes a1.toNat (⟨a8.Kind,b5,a8.Name,a8.Kids⟩:GNode)) fun b6 =>
   some ((⟨b6,a0.Fns⟩:GProgram),q9)
  else
   if (r2 == 2)=true then
    (bD [(⟨#[]⟩:ByteArray),(⟨#[97]⟩:ByteArray),(⟨#[76,101,116]⟩:ByteArray),(⟨#[102,110]⟩:ByteArray)] (Int.tmod r5 4)).bind fun b7 =>
    (bD a0.Nodes a1).bind fun a9 =>
    bO (List.set a0.Nodes a1.toNat (⟨a9.Kind,a9.Num,b7,a9.Kids⟩:GNode)) fun b8 =>
    some ((⟨b8,a0.Fns⟩:GProgram),q9)
   else
    if (r2 == 3)=true then
     (bD a0.Nodes a1).bind fun a3 =>
     (cE 8 a3.Kids [Int.tmod r5 9]).bind fun b9 =>
     bO (List.set a0.Nodes a1.toNat (⟨a3.Kind,a3.Num,a3.Name,b9⟩:GNode)) fun c0 =>
     some ((⟨c0,a0.Fns⟩:GProgram),q9)
    else
     if (r2 == 4)=true then
      (aCt r5 (a0.Fns.length:Int)).bind fun b0 =>
      (bD a0.Fns b0).bind fun a4 =>
      bO (List.set a0.Fns b0.toNat (⟨a4.Name,a4.Params,a4.Res,a1,a4.Ret⟩:GFn)) fun c2 =>
      some ((⟨a0.Nodes,c2⟩:GProgram),q9)
     else
      if (r2 == 5)=true then
       (aCt r5 (a0.Fns.length:Int)).bind fun b1 =>
       (bD a0.Fns b1).bind fun a5 =>
       bO (List.set a0.Fns b1.toNat (⟨a5.Name,a5.Params,a5.Res,a5.Body,a1⟩:GFn)) fun c3 =>
       some ((⟨a0.Nodes,c3⟩:GProgram),q9)
      else
       if (r2 == 6)=true then
        (aCt r5 (a0.Fns.length:Int)).bind fun b2 =>
        (bD a0.Fns b2).bind fun a6 =>
        bO (List.set a0.Fns b2.toNat (⟨(⟨#[115,104,111,119]⟩:ByteArray),a6.Params,a6.Res,a6.Body,a6.Ret⟩:GFn)) fun c4 =>
        some ((⟨a0.Nodes,c4⟩:GProgram),q9)
       else
        if (r2 == 7)=true then
         (aCt r5 (a0.Fns.length:Int)).bind fun b3 =>
         (bD a0.Fns b3).bind fun a2 =>
         (cE 24 a2.Params [(⟨(⟨#[122,122]⟩:ByteArray),Int.tmod r5 6⟩:GParam)]).bind fun c5 =>
         bO (List.set a0.Fns b3.toNat (⟨a2.Name,c5,a2.Res,a2.Body,a2.Ret⟩:GFn)) fun c6 =>
         some ((⟨a0.Nodes,c6⟩:GProgram),q9)
        else
         some (a0,q9)
def fJ (a0:List Int):Option (GProgram × Int) :=
 (iS a0).bind fun r2 =>
 (bN r2 22).bind fun ⟨r4,q5⟩ =>
 (iO q5).bind fun ⟨r7,q8⟩ =>
 some (r7,r4)
def mF (a0:List Int):Option (GProgram × Int) :=
 (iS a0).bind fun r2 =>
 (bN r2 5).bind fun ⟨r4,q5⟩ =>
 (iO q5).bind fun ⟨r7,q8⟩ =>
 some (r7,IntKind.wrap .i64 (r4 - 1))
def gU (a0:List Int):Option (GProgram × Int) :=
 (mF a0).bind fun ⟨r2,r3⟩ =>
 some (r2,r3)
def gA (a0:List Int):Option (GProgram) :=
 (iS a0).bind fun r2 =>
 (iO r2).bind fun ⟨r4,q5⟩ =>
 some r4
def fY (p1:GProgram) (a0:Int):(Int × Int)→Option ((Int × Int) ⊕ (Int)):=fun ⟨n6,i7⟩ =>
 if (decide (i7 < (p1.Nodes.length:Int)))=true then
  (bD p1.Nodes i7).bind fun a1 =>
  if (a1.Kind == a0)=true then
   some (Sum.inl (IntKind.wrap .i64 (n6 + 1),IntKind.wrap .i64 (i7 + 1)))
  else
   some (Sum.inl (n6,IntKind.wrap .i64 (i7 + 1)))
 else
  some (Sum.inr n6)
def cD (p1:GProgram) (a0:Int):Option (Int) :=
 Option.bind (
  aJ (fY p1 a0) ((0:Int),(0:Int))) fun a1 =>
 some a1
def lR (a0:List GNode) (k2:Int):Option (Int) :=
 (bV k2 0 (IntKind.wrap .i64 ((a0.length:Int) - 1))).bind fun r3 =>
 if (!r3)=true then
  some 0
 else
  (jD a0 k2).bind fun r7 =>
  (bD r7 k2).bind fun e9 =>
  some e9
def dS (p1:GProgram):(Int × GMeasure)→Option ((Int × GMeasure) ⊕ (GMeasure)):=fun ⟨a3,a0⟩ =>
 if (decide (a3 < (p1.Nodes.length:Int)))=true then
  Option.bind (
   (bD p1.Nodes a3).bind fun a5 =>
   (fH a5.Kind).bind fun a6 =>
   if a6=true then
    some (⟨a0.Fns,a0.Nodes,a0.Steps,IntKind.wrap .i64 (a0.Values + 1),a0.Blocks,a0.Lets,a0.News,a0.Lends,a0.Deep⟩:GMeasure)
   else
    some a0) fun a1 =>
  Option.bind (
   (bD p1.Nodes a3).bind fun a7 =>
   (eG a7.Kind).bind fun a8 =>
   if a8=true then
    some (⟨a1.Fns,a1.Nodes,IntKind.wrap .i64 (a1.Steps + 1),a1.Values,a1.Blocks,a1.Lets,a1.News,a1.Lends,a1.Deep⟩:GMeasure)
   else
    some a1) fun a2 =>
  (lR p1.Nodes a3).bind fun a4 =>
  if (decide (a4 > a2.Deep))=true then
   some (Sum.inl (IntKind.wrap .i64 (a3 + 1),(⟨a2.Fns,a2.Nodes,a2.Steps,a2.Values,a2.Blocks,a2.Lets,a2.News,a2.Lends,a4⟩:GMeasure)))
  else
   some (Sum.inl (IntKind.wrap .i64 (a3 + 1),a2))
 else
  some (Sum.inr a0)
def jH (p1:GProgram):Option (GMeasure) :=
 (gY p1).bind fun r2 =>
 if (!r2)=true then
  some (⟨0,0,0,0,0,0,0,0,0⟩:GMeasure)
 else
  (cD p1 20).bind fun r6 =>
  (cD p1 13).bind fun r8 =>
  (cD p1 8).bind fun a0 =>
  (cD p1 5).bind fun a1 =>
  (cD p1 6).bind fun a2 =>
  Option.bind (
   aJ (dS p1) ((0:Int),(⟨(p1.Fns.length:Int),(p1.Nodes.length:Int),0,0,r6,r8,a0,IntKind.wrap .i64 (a1 + a2),0⟩:GMeasure))) fun a3 =>
  some a3
def dY (a0:List Int):Option (GMeasure) :=
 (iS a0).bind fun r2 =>
 (iO r2).bind fun ⟨r4,q5⟩ =>
 (jH r4).bind fun r7 =>
 (eF q5 4).bind fun ⟨r9,a1⟩ =>
 if r9=true then
  some (⟨r7.Fns,r7.Nodes,r7.Steps,r7.Values,r7.Blocks,r7.Lets,r7.News,r7.Lends,(-1)⟩:GMeasure)
 else
  some r7
def pX (p1:GProgram) (a0:Int):(Int × Int)→Option ((Int × Int) ⊕ (Int)):=fun ⟨n6,v7⟩ =>
 if (decide (v7 < (p1.Nodes.length:Int)))=true then
  (bD p1.Nodes v7).bind fun a1 =>
  if (a1.Kind == a0)=true then
   some (Sum.inl (IntKind.wrap .i64 (n6 + 1),IntKind.wrap .i64 (v7 + 1)))
  else
   some (Sum.inl (n6,IntKind.wrap .i64 (v7 + 1)))
 else
  some (Sum.inr n6)
def dN (p1:GProgram) (a0:Int):Option (Int) :=
 Option.bind (
  aJ (pX p1 a0) ((0:Int),(0:Int))) fun a1 =>
 some a1
def fQ (n1:Int) (a1:Int) (a0:Int):Option (Bool) :=
 Option.bind (
  if (decide (n1 ≥ a1))=true then
   some (decide (n1 ≤ a0))
  else
   some false) fun v8 =>
 some v8
def pV (p1:GProgram) (a0:Int):Option (List Int) :=
 (fQ a0 0 (IntKind.wrap .i64 ((p1.Fns.length:Int) - 1))).bind fun r3 =>
 if (!r3)=true then
  some []
 else
  (bD p1.Fns a0).bind fun e7 =>
  (bD p1.Fns a0).bind fun e8 =>
  if (e8.Ret != (-1))=true then
   (bD p1.Fns a0).bind fun a1 =>
   (cE 8 [e7.Body] [a1.Ret]).bind fun a2 =>
   some a2
  else
   some [e7.Body]
def jU (l1:List Int) (n2:Int):Int→Option ((Int) ⊕ ((Unit) ⊕ (Bool))):=fun v6 =>
 if (decide (v6 < (l1.length:Int)))=true then
  (bD l1 v6).bind fun a0 =>
  if (a0 == n2)=true then
   some (Sum.inr (Sum.inr true))
  else
   some (Sum.inl (IntKind.wrap .i64 (v6 + 1)))
 else
  some (Sum.inr (Sum.inl ()))
def kF (l1:List Int) (n2:Int):Option (Bool) :=
 Option.bind (
  aJ (jU l1 n2) (0:Int)) fun j5 =>
 match j5 with
 | Sum.inr z=>some z
 | Sum.inl () =>
  some false
def jM (b1:Int):Option (Bool) :=
 Option.bind (
  if (decide (b1 ≥ 97))=true then
   some (decide (b1 ≤ 122))
  else
   some false) fun v6 =>
 some v6
def kU (b1:Int):Option (Bool) :=
 Option.bind (
  if (decide (b1 ≥ 48))=true then
   some (decide (b1 ≤ 57))
  else
   some false) fun v6 =>
 some v6
def nK (s1:ByteArray) (r6:List ByteArray):Int→Option ((Int) ⊕ ((Unit) ⊕ (Bool))):=fun v8 =>
 if (decide (v8 < (r6.length:Int)))=true then
  (bD r6 v8).bind fun a0 =>
  if (sEq a0 s1)=true then
   some (Sum.inr (Sum.inr true))
  else
   some (Sum.inl (IntKind.wrap .i64 (v8 + 1)))
 else
  some (Sum.inr (Sum.inl ()))
def sS (s1:ByteArray) (a0:ByteArray):Option (Bool) :=
 Option.bind (
  (strings_Split a0 (⟨#[32]⟩:ByteArray)).bind fun r6 =>
  aJ (nK s1 r6) (0:Int)) fun j5 =>
 match j5 with
 | Sum.inr z=>some z
 | Sum.inl () =>
  some false
def mU (s1:ByteArray):Option (Bool) :=
 (sS s1 (⟨#[102,110,32,108,101,116,32,105,102,32,101,108,115,101,32,119,104,105,108,101,32,112,114,105,110,116,32,100,111,32,110,101,119,32,99,108,111,110,101,32,109,117,116,32,105,110,112,117,116,32,105,110,116,32,98,111,120,32,114,101,116]⟩:ByteArray)).bind fun r2 =>
 some r2
def jY (s1:ByteArray):Int→Option ((Int) ⊕ ((Unit) ⊕ (Bool))):=fun a0 =>
 if (decide (a0 < (s1.size:Int)))=true then
  Option.bind (
   (sAt s1 a0).bind fun a1 =>
   (jM a1).bind fun a2 =>
   if (!a2)=true then
    (kU a1).bind fun a3 =>
    some (!a3)
   else
    some false) fun a4 =>
  if a4=true then
   some (Sum.inr (Sum.inr false))
  else
   some (Sum.inl (IntKind.wrap .i64 (a0 + 1)))
 else
  some (Sum.inr (Sum.inl ()))
def kH (s1:ByteArray):Option (Bool) :=
 Option.bind (
  (fQ (s1.size:Int) 1 8).bind fun r4 =>
  if (!r4)=true then
   some true
  else
   (sAt s1 0).bind fun c8 =>
   (jM c8).bind fun r9 =>
   some (!r9)) fun a0 =>
 if a0=true then
  some false
 else
  Option.bind (
   aJ (jY s1) (0:Int)) fun a1 =>
  match a1 with
  | Sum.inr z=>some z
  | Sum.inl () =>
   (mU s1).bind fun a2 =>
   some (!a2)
def pU (a0:Int):Option (Int × Int) :=
 Option.bind (
  if (a0 == 8)=true then
   some (a0 == 8)
  else
   if (a0 == 13)=true then
    some (a0 == 13)
   else
    if (a0 == 14)=true then
     some (a0 == 14)
    else
     if (a0 == 15)=true then
      some (a0 == 15)
     else
      if (a0 == 18)=true then
       some (a0 == 18)
      else
       some (a0 == 19)) fun a1 =>
 if a1=true then
  some (1,1)
 else
  Option.bind (
   if (a0 == 9)=true then
    some (a0 == 9)
   else
    if (a0 == 10)=true then
     some (a0 == 10)
    else
     if (a0 == 11)=true then
      some (a0 == 11)
     else
      some (a0 == 17)) fun a2 =>
  if a2=true then
   some (2,2)
  else
   if (a0 == 16)=true then
    some (3,3)
   else
    if (a0 == 12)=true then
     some (0,3)
    else
     if (a0 == 20)=true then
      some (0,12)
     else
      some (0,0)
def lV (a0:Int):Option (Bool) :=
 (fQ a0 13 19).bind fun r2 =>
 some r2
def jA (a0:Int):Option (Bool) :=
 (fQ a0 1 12).bind fun r2 =>
 some r2
def mP (a0:Int) (i2:Int) (a1:Int):Option (Bool) :=
 if (a0 == 20)=true then
  (lV a1).bind fun r6 =>
  some r6
 else
  Option.bind (
   if (a0 == 16)=true then
    some (decide (i2 > 0))
   else
    if (a0 == 17)=true then
     some (decide (i2 > 0))
    else
     some false) fun a2 =>
  if a2=true then
   some (a1 == 20)
  else
   if (a0 == 19)=true then
    some (a1 == 12)
   else
    (jA a1).bind fun a3 =>
    some a3
def mQ (a0:Int):Option (Bool) :=
 Option.bind (
  (fQ a0 2 6).bind fun r4 =>
  if r4=true then
   some true
  else
   (fQ a0 12 15).bind fun r8 =>
   some r8) fun a1 =>
 some a1
def jX (a0:List GNode) (k2:Int) (e7:GNode):Int→Option ((Int) ⊕ ((Unit) ⊕ (Bool))):=fun a1 =>
 if (decide (a1 < (e7.Kids.length:Int)))=true then
  (bD e7.Kids a1).bind fun a2 =>
  Option.bind (
   (fQ a2 0 (IntKind.wrap .i64 (k2 - 1))).bind fun a3 =>
   if (!a3)=true then
    some true
   else
    (gK e7.Kids 0 a1).bind fun a4 =>
    (kF a4 a2).bind fun a5 =>
    if a5=true then
     some true
    else
     (bD a0 a2).bind fun a6 =>
     (mP e7.Kind a1 a6.Kind).bind fun a7 =>
     some (!a7)) fun a8 =>
  if a8=true then
   some (Sum.inr (Sum.inr false))
  else
   some (Sum.inl (IntKind.wrap .i64 (a1 + 1)))
 else
  some (Sum.inr (Sum.inl ()))
def nW (a0:List GNode) (k2:Int):Option (Bool) :=
 (fQ k2 0 (IntKind.wrap .i64 ((a0.length:Int) - 1))).bind fun r3 =>
 if (!r3)=true then
  some false
 else
  (bD a0 k2).bind fun e7 =>
  (pU e7.Kind).bind fun ⟨r8,r9⟩ =>
  Option.bind (
   (fQ e7.Kind 1 20).bind fun a1 =>
   if (!a1)=true then
    some true
   else
    (fQ (e7.Kids.length:Int) r8 r9).bind fun a2 =>
    some (!a2)) fun a3 =>
  if a3=true then
   some false
  else
   Option.bind (
    aJ (jX a0 k2 e7) (0:Int)) fun a4 =>
   match a4 with
   | Sum.inr z=>some z
   | Sum.inl () =>
    Option.bind (
     if (e7.Kind == 1)=true then
      (fQ e7.Num 0 1000000000).bind fun a5 =>
      if (!a5)=true then
       some true
      else
       some false
     else
      some (e7.Num != 0)) fun a6 =>
    if a6=true then
     some false
    else
     (mQ e7.Kind).bind fun a7 =>
     if a7=true then
      (kH e7.Name).bind fun a8 =>
      some a8
     else
      some (sEq e7.Name (⟨#[]⟩:ByteArray))
def hO (a0:List Int) (a3:GNode):(Int × Int)→Option ((Int × Int) ⊕ (Int)):=fun ⟨a1,a2⟩ =>
 if (decide (a2 < (a3.Kids.length:Int)))=true then
  (bD a3.Kids a2).bind fun a5 =>
  (bD a0 a5).bind fun a4 =>
  some (Sum.inl (if IntKind.wrap .i64 (a4 + 1) > a1 then IntKind.wrap .i64 (a4 + 1) else a1,IntKind.wrap .i64 (a2 + 1)))
 else
  some (Sum.inr a1)
def jV (a0:List GNode) (k2:Int):((List Int) × Int)→Option (((List Int) × Int) ⊕ ((List Int) ⊕ ((List Int) × Bool))):=fun ⟨a1,a3⟩ =>
 if (decide (a3 ≤ k2))=true then
  Option.bind (
   (nW a0 a3).bind fun a5 =>
   if (!a5)=true then
    some (Sum.inr (Sum.inr (Sum.inr ([],false))))
   else
    Option.bind (
     (bD a0 a3).bind fun a6 =>
     aJ (hO a1 a6) ((1:Int),(0:Int))) fun a4 =>
    if (decide (a4 > 10))=true then
     some (Sum.inr (Sum.inr (Sum.inr ([],false))))
    else
     (cE 8 a1 [a4]).bind fun a7 =>
     some (Sum.inl a7)) fun a8 =>
  match a8 with
  | Sum.inr z=>some z
  | Sum.inl a2 =>
   some (Sum.inl (a2,IntKind.wrap .i64 (a3 + 1)))
 else
  some (Sum.inr (Sum.inl a1))
def kG (a0:List GNode) (k2:Int):Option ((List Int) × Bool) :=
 (fQ k2 0 (IntKind.wrap .i64 ((a0.length:Int) - 1))).bind fun r3 =>
 if (!r3)=true then
  some ([],false)
 else
  Option.bind (
   aJ (jV a0 k2) ([],(0:Int))) fun j9 =>
  match j9 with
  | Sum.inr z=>some z
  | Sum.inl a1 =>
   some (a1,true)
def lW (a0:List GNode) (k2:Int):Option (Int) :=
 (kG a0 k2).bind fun ⟨r3,r4⟩ =>
 if (!r4)=true then
  some 0
 else
  (bD r3 k2).bind fun e8 =>
  some e8
def jK (a2:GNode):((List Int) × Int)→Option (((List Int) × Int) ⊕ (List Int)):=fun ⟨a0,a1⟩ =>
 if (decide (a1 < (a2.Kids.length:Int)))=true then
  (bD a2.Kids a1).bind fun a3 =>
  (kF a0 a3).bind fun a4 =>
  if (!a4)=true then
   (cE 8 a0 [a3]).bind fun a5 =>
   some (Sum.inl (a5,IntKind.wrap .i64 (a1 + 1)))
  else
   some (Sum.inl (a0,IntKind.wrap .i64 (a1 + 1)))
 else
  some (Sum.inr a0)
def jL (a1:List GNode):((List Int) × Int)→Option (((List Int) × Int) ⊕ (List Int)):=fun ⟨a0,i7⟩ =>
 if (decide (i7 < (a0.length:Int)))=true then
  Option.bind (
   (bD a0 i7).bind fun a3 =>
   (bD a1 a3).bind fun a4 =>
   aJ (jK a4) (a0,(0:Int))) fun a2 =>
  some (Sum.inl (a2,IntKind.wrap .i64 (i7 + 1)))
 else
  some (Sum.inr a0)
def pT (a0:List GNode) (k2:Int):Option (List Int) :=
 Option.bind (
  aJ (jL a0) ([k2],(0:Int))) fun a1 =>
 (sort_Ints a1).bind fun a2 =>
 some a2
def pW (p1:GProgram) (k2:Int):Option (List Int) :=
 (lW p1.Nodes k2).bind fun r3 =>
 if (r3 == 0)=true then
  some []
 else
  (pT p1.Nodes k2).bind fun r7 =>
  some r7
def gD (a2:List Int):((List Int) × Int)→Option (((List Int) × Int) ⊕ (List Int)):=fun ⟨a0,a1⟩ =>
 if (decide (a1 < (a2.length:Int)))=true then
  (bD a2 a1).bind fun a3 =>
  (kF a0 a3).bind fun a4 =>
  if (!a4)=true then
   (cE 8 a0 [a3]).bind fun a5 =>
   some (Sum.inl (a5,IntKind.wrap .i64 (a1 + 1)))
  else
   some (Sum.inl (a0,IntKind.wrap .i64 (a1 + 1)))
 else
  some (Sum.inr a0)
def eR (p1:GProgram) (r6:List Int):((List Int) × Int)→Option (((List Int) × Int) ⊕ (List Int)):=fun ⟨a0,v9⟩ =>
 if (decide (v9 < (r6.length:Int)))=true then
  Option.bind (
   (bD r6 v9).bind fun a2 =>
   (pW p1 a2).bind fun a3 =>
   aJ (gD a3) (a0,(0:Int))) fun a1 =>
  some (Sum.inl (a1,IntKind.wrap .i64 (v9 + 1)))
 else
  some (Sum.inr a0)
def mT (p1:GProgram) (a1:Int):Option (List Int) :=
 Option.bind (
  (pV p1 a1).bind fun r6 =>
  aJ (eR p1 r6) ([],(0:Int))) fun a0 =>
 (sort_Ints a0).bind fun a2 =>
 some a2
def mV (p1:GProgram) (a0:Int):Option (Int) :=
 (mT p1 a0).bind fun r3 =>
 some (r3.length:Int)
def fX (a0:(List GNode)→Int→(List Bool)→Option (List Bool)) (a1:List GNode) (k2:Int):((List Bool) × Int)→Option (((List Bool) × Int) ⊕ (List Bool)):=fun ⟨a2,a3⟩ =>
 (bD a1 k2).bind fun a4 =>
 if (decide (a3 < (a4.Kids.length:Int)))=true then
  (bD a1 k2).bind fun a5 =>
  (bD a5.Kids a3).bind fun a6 =>
  (a0 a1 a6 a2).bind fun a7 =>
  some (Sum.inl (a7,IntKind.wrap .i64 (a3 + 1)))
 else
  some (Sum.inr a2)
def jR (a0:(List GNode)→Int→(List Bool)→Option (List Bool)) (a2:List GNode) (k2:Int) (a1:List Bool):Option (List Bool) :=
 (bD a1 k2).bind fun e4 =>
 if e4=true then
  some a1
 else
  (bD a1 k2).bind fun e7 =>
  bO (List.set a1 k2.toNat true) fun l8 =>
  aJ (fX a0 a2 k2) (l8,(0:Int))
def dR:Nat→(List GNode)→Int→(List Bool)→Option (List Bool)
 | 0=>fun _ _ _=>none
 | n + 1=>jR (dR n)
def rK:(List GNode)→Int→(List Bool)→Option (List Bool):=(dR eX)
def jG (q8:List Bool):((List Int) × Int)→Option (((List Int) × Int) ⊕ (List Int)):=fun ⟨a0,a1⟩ =>
 if (decide (a1 < (q8.length:Int)))=true then
  (bD q8 a1).bind fun a2 =>
  if a2=true then
   (cE 8 a0 [a1]).bind fun a3 =>
   some (Sum.inl (a3,IntKind.wrap .i64 (a1 + 1)))
  else
   some (Sum.inl (a0,IntKind.wrap .i64 (a1 + 1)))
 else
  some (Sum.inr a0)
def nO (p1:GProgram) (k2:Int):Option (List Int) :=
 (lR p1.Nodes k2).bind fun r3 =>
 if (r3 == 0)=true then
  some []
 else
  (mkI 1 (p1.Nodes.length:Int) false).bind fun l7 =>
  (rK p1.Nodes k2 l7).bind fun q8 =>
  Option.bind (
   aJ (jG q8) ([],(0:Int))) fun a0 =>
  some a0
def cK (r9:List Int) (a3:List Int):((List Int) × Int × Int)→Option (((List Int) × Int × Int) ⊕ (List Int)):=fun ⟨a0,a1,a2⟩ =>
 Option.bind (
  if (decide (a1 < (r9.length:Int)))=true then
   some true
  else
   some (decide (a2 < (a3.length:Int)))) fun a4 =>
 if a4=true then
  Option.bind (
   if (decide (a2 ≥ (a3.length:Int)))=true then
    some true
   else
    if (decide (a1 < (r9.length:Int)))=true then
     (bD r9 a1).bind fun a5 =>
     (bD a3 a2).bind fun a6 =>
     some (decide (a5 < a6))
    else
     some false) fun a7 =>
  if a7=true then
   (bD r9 a1).bind fun a8 =>
   (cE 8 a0 [a8]).bind fun a9 =>
   some (Sum.inl (a9,IntKind.wrap .i64 (a1 + 1),a2))
  else
   Option.bind (
    Option.bind (
     if (decide (a1 < (r9.length:Int)))=true then
      (bD r9 a1).bind fun b0 =>
      (bD a3 a2).bind fun b1 =>
      some (b0 == b1)
     else
      some false) fun b2 =>
    if b2=true then
     some (IntKind.wrap .i64 (a1 + 1))
    else
     some a1) fun b3 =>
   (bD a3 a2).bind fun b4 =>
   (cE 8 a0 [b4]).bind fun b5 =>
   some (Sum.inl (b5,b3,IntKind.wrap .i64 (a2 + 1)))
 else
  some (Sum.inr a0)
def nR (p1:GProgram) (a1:Int):Option (List Int) :=
 (bV a1 0 (IntKind.wrap .i64 ((p1.Fns.length:Int) - 1))).bind fun r3 =>
 if (!r3)=true then
  some []
 else
  (bD p1.Fns a1).bind fun e8 =>
  (nO p1 e8.Body).bind fun r9 =>
  (bD p1.Fns a1).bind fun a2 =>
  (nO p1 a2.Ret).bind fun a3 =>
  Option.bind (
   aJ (cK r9 a3) ([],(0:Int),(0:Int))) fun a0 =>
  some a0
def mM (p1:GProgram) (a0:Int):Option (Int) :=
 (nR p1 a0).bind fun r3 =>
 some (r3.length:Int)
def mR (f2:GFn):Int→Option ((Int) ⊕ ((Unit) ⊕ (Bool))):=fun a0 =>
 if (decide (a0 < (f2.Params.length:Int)))=true then
  (bD f2.Params a0).bind fun a1 =>
  Option.bind (
   (kH a1.Name).bind fun a2 =>
   if (!a2)=true then
    some true
   else
    (fQ a1.Typ 1 4).bind fun a3 =>
    some (!a3)) fun a4 =>
  if a4=true then
   some (Sum.inr (Sum.inr false))
  else
   some (Sum.inl (IntKind.wrap .i64 (a0 + 1)))
 else
  some (Sum.inr (Sum.inl ()))
def rU (p1:GProgram) (f2:GFn):Option (Bool) :=
 Option.bind (
  (kH f2.Name).bind fun r5 =>
  if (!r5)=true then
   some true
  else
   if (decide ((f2.Params.length:Int) > 3))=true then
    some true
   else
    if (f2.Res != 0)=true then
     if (f2.Res != 1)=true then
      some (f2.Res != 2)
     else
      some false
    else
     some false) fun a0 =>
 if a0=true then
  some false
 else
  Option.bind (
   aJ (mR f2) (0:Int)) fun a1 =>
  match a1 with
  | Sum.inr z=>some z
  | Sum.inl () =>
   Option.bind (
    (fQ f2.Body 0 (IntKind.wrap .i64 ((p1.Nodes.length:Int) - 1))).bind fun a2 =>
    if (!a2)=true then
     some true
    else
     (bD p1.Nodes f2.Body).bind fun a3 =>
     some (a3.Kind != 20)) fun a4 =>
   if a4=true then
    some false
   else
    if (f2.Res == 0)=true then
     some (f2.Ret == (-1))
    else
     Option.bind (
      (fQ f2.Ret 0 (IntKind.wrap .i64 ((p1.Nodes.length:Int) - 1))).bind fun a5 =>
      if a5=true then
       (bD p1.Nodes f2.Ret).bind fun a6 =>
       (jA a6.Kind).bind fun a7 =>
       some a7
      else
       some false) fun a8 =>
     some a8
def mW (p1:GProgram) (a0:ByteArray):Int→Option ((Int) ⊕ ((Unit) ⊕ (Int))):=fun v6 =>
 if (decide (v6 < (p1.Fns.length:Int)))=true then
  (bD p1.Fns v6).bind fun a1 =>
  if (sEq a1.Name a0)=true then
   some (Sum.inr (Sum.inr v6))
  else
   some (Sum.inl (IntKind.wrap .i64 (v6 + 1)))
 else
  some (Sum.inr (Sum.inl ()))
def rV (p1:GProgram) (a0:ByteArray):Option (Int) :=
 Option.bind (
  aJ (mW p1 a0) (0:Int)) fun j5 =>
 match j5 with
 | Sum.inr z=>some z
 | Sum.inl () =>
  some (-1)
def gF (a2:GNode):((List Int) × Int)→Option (((List Int) × Int) ⊕ (List Int)):=fun ⟨a0,a1⟩ =>
 if (decide (a1 < (a2.Kids.length:Int)))=true then
  (bD a2.Kids a1).bind fun a3 =>
  (bD a0 a3).bind fun a4 =>
  bO (List.set a0 a3.toNat (IntKind.wrap .i64 (a4 + 1))) fun a5 =>
  some (Sum.inl (a5,IntKind.wrap .i64 (a1 + 1)))
 else
  some (Sum.inr a0)
def gG (p1:GProgram):((List Int) × Int)→Option (((List Int) × Int) ⊕ (List Int)):=fun ⟨a0,a2⟩ =>
 if (decide (a2 < (p1.Nodes.length:Int)))=true then
  Option.bind (
   (bD p1.Nodes a2).bind fun a3 =>
   aJ (gF a3) (a0,(0:Int))) fun a1 =>
  some (Sum.inl (a1,IntKind.wrap .i64 (a2 + 1)))
 else
  some (Sum.inr a0)
def aY (a1:GFn):((List Int) × Int)→Option (((List Int) × Int) ⊕ ((List Int) ⊕ (((List Int) × Int) ⊕ ((List Int) ⊕ (Bool))))):=fun ⟨a0,a2⟩ =>
 if (decide (a2 < ([a1.Body,a1.Ret].length:Int)))=true then
  (bD [a1.Body,a1.Ret] a2).bind fun a3 =>
  if (decide (a3 < 0))=true then
   some (Sum.inl (a0,IntKind.wrap .i64 (a2 + 1)))
  else
   (bD a0 a3).bind fun a4 =>
   if (a4 != 0)=true then
    some (Sum.inr (Sum.inr (Sum.inr (Sum.inr false))))
   else
    (bD a0 a3).bind fun a6 =>
    bO (List.set a0 a3.toNat (-1)) fun a5 =>
    some (Sum.inl (a5,IntKind.wrap .i64 (a2 + 1)))
 else
  some (Sum.inr (Sum.inl a0))
def eI (p1:GProgram):((List Int) × Int)→Option (((List Int) × Int) ⊕ ((List Int) ⊕ (Bool))):=fun ⟨a0,a2⟩ =>
 if (decide (a2 < (p1.Fns.length:Int)))=true then
  Option.bind (
   (bD p1.Fns a2).bind fun a3 =>
   Option.bind (
    (rU p1 a3).bind fun a4 =>
    if (!a4)=true then
     some true
    else
     (rV p1 a3.Name).bind fun a5 =>
     some (a5 != a2)) fun a6 =>
   if a6=true then
    some (Sum.inr (Sum.inr (Sum.inr false)))
   else
    aJ (aY a3) (a0,(0:Int))) fun a7 =>
  match a7 with
  | Sum.inr z=>some z
  | Sum.inl a1 =>
   some (Sum.inl (a1,IntKind.wrap .i64 (a2 + 1)))
 else
  some (Sum.inr (Sum.inl a0))
def gE (a0:List Int):Int→Option ((Int) ⊕ ((Unit) ⊕ (Bool))):=fun a2 =>
 if (decide (a2 < (a0.length:Int)))=true then
  (bD a0 a2).bind fun a1 =>
  Option.bind (
   if (a1 != 1)=true then
    some (a1 != (-1))
   else
    some false) fun a3 =>
  if a3=true then
   some (Sum.inr (Sum.inr false))
  else
   some (Sum.inl (IntKind.wrap .i64 (a2 + 1)))
 else
  some (Sum.inr (Sum.inl ()))
def jW (p1:GProgram):Option (Bool) :=
 Option.bind (
  (fQ (p1.Nodes.length:Int) 1 300).bind fun r4 =>
  if (!r4)=true then
   some true
  else
   (fQ (p1.Fns.length:Int) 1 8).bind fun r8 =>
   if (!r8)=true then
    some true
   else
    (lW p1.Nodes (IntKind.wrap .i64 ((p1.Nodes.length:Int) - 1))).bind fun a2 =>
    some (a2 == 0)) fun a3 =>
 if a3=true then
  some false
 else
  (mkI 8 (p1.Nodes.length:Int) 0).bind fun a4 =>
  Option.bind (
   aJ (gG p1) (a4,(0:Int))) fun a0 =>
  Option.bind (
   aJ (eI p1) (a0,(0:Int))) fun a5 =>
  match a5 with
  | Sum.inr z=>some z
  | Sum.inl a1 =>
   Option.bind (
    aJ (gE a1) (0:Int)) fun a6 =>
   match a6 with
   | Sum.inr z=>some z
   | Sum.inl () =>
    some true
def dV (p1:GProgram):(Int × GMeasure)→Option ((Int × GMeasure) ⊕ (GMeasure)):=fun ⟨v9,a0⟩ =>
 if (decide (v9 < (p1.Nodes.length:Int)))=true then
  (bD p1.Nodes v9).bind fun a1 =>
  (lV a1.Kind).bind fun a2 =>
  if a2=true then
   some (Sum.inl (IntKind.wrap .i64 (v9 + 1),(⟨a0.Fns,a0.Nodes,IntKind.wrap .i64 (a0.Steps + 1),a0.Values,a0.Blocks,a0.Lets,a0.News,a0.Lends,a0.Deep⟩:GMeasure)))
  else
   (jA a1.Kind).bind fun a3 =>
   if a3=true then
    some (Sum.inl (IntKind.wrap .i64 (v9 + 1),(⟨a0.Fns,a0.Nodes,a0.Steps,IntKind.wrap .i64 (a0.Values + 1),a0.Blocks,a0.Lets,a0.News,a0.Lends,a0.Deep⟩:GMeasure)))
   else
    some (Sum.inl (IntKind.wrap .i64 (v9 + 1),a0))
 else
  some (Sum.inr a0)
def dU (a2:List Int):(Int × GMeasure)→Option ((Int × GMeasure) ⊕ (GMeasure)):=fun ⟨a1,a0⟩ =>
 if (decide (a1 < (a2.length:Int)))=true then
  (bD a2 a1).bind fun a3 =>
  some (Sum.inl (IntKind.wrap .i64 (a1 + 1),(⟨a0.Fns,a0.Nodes,a0.Steps,a0.Values,a0.Blocks,a0.Lets,a0.News,a0.Lends,if a3 > a0.Deep then a3 else a0.Deep⟩:GMeasure)))
 else
  some (Sum.inr a0)
def kV (p1:GProgram):Option (GMeasure) :=
 (jW p1).bind fun r2 =>
 if (!r2)=true then
  some (⟨0,0,0,0,0,0,0,0,0⟩:GMeasure)
 else
  Option.bind (
   aJ (dV p1) ((0:Int),(⟨(p1.Fns.length:Int),(p1.Nodes.length:Int),0,0,0,0,0,0,0⟩:GMeasure))) fun a0 =>
  (dN p1 20).bind fun a1 =>
  (dN p1 13).bind fun a2 =>
  (dN p1 8).bind fun a3 =>
  (dN p1 5).bind fun a4 =>
  (dN p1 6).bind fun a5 =>
  (kG p1.Nodes (IntKind.wrap .i64 ((p1.Nodes.length:Int) - 1))).bind fun ⟨a6,a8⟩ =>
  Option.bind (
   aJ (dU a6) ((0:Int),(⟨a0.Fns,a0.Nodes,a0.Steps,a0.Values,a1,a2,a3,IntKind.wrap .i64 (a4 + a5),a0.Deep⟩:GMeasure))) fun a7 =>
  some a7
def mX (n1:Int):Option (ByteArray) :=
 (strconv_Itoa n1).bind fun r2 =>
 some r2
def bA (s1:ByteArray) (n2:Int):Option (ByteArray) :=
 (bC s1 (⟨#[32]⟩:ByteArray)).bind fun t3 =>
 (mX (if 0 > n2 then 0 else n2)).bind fun r4 =>
 (bC t3 r4).bind fun t6 =>
 some t6
def fC (m1:GMeasure):Option (ByteArray) :=
 (bA (⟨#[102,110,115]⟩:ByteArray) m1.Fns).bind fun r3 =>
 (bA (⟨#[32,110,111,100,101,115]⟩:ByteArray) m1.Nodes).bind fun r5 =>
 (bC r3 r5).bind fun t7 =>
 (bA (⟨#[32,115,116,101,112,115]⟩:ByteArray) m1.Steps).bind fun r8 =>
 (bC t7 r8).bind fun a0 =>
 (bA (⟨#[32,118,97,108,117,101,115]⟩:ByteArray) m1.Values).bind fun a1 =>
 (bC a0 a1).bind fun a2 =>
 (bA (⟨#[32,98,108,111,99,107,115]⟩:ByteArray) m1.Blocks).bind fun a3 =>
 (bC a2 a3).bind fun a4 =>
 (bA (⟨#[32,108,101,116,115]⟩:ByteArray) m1.Lets).bind fun a5 =>
 (bC a4 a5).bind fun a6 =>
 (bA (⟨#[32,110,101,119,115]⟩:ByteArray) m1.News).bind fun a7 =>
 (bC a6 a7).bind fun a8 =>
 (bA (⟨#[32,108,101,110,100,115]⟩:ByteArray) m1.Lends).bind fun a9 =>
 (bC a8 a9).bind fun b0 =>
 (bA (⟨#[32,100,101,101,112]⟩:ByteArray) m1.Deep).bind fun b1 =>
 (bC b0 b1).bind fun b2 =>
 (bC b2 (⟨#[10]⟩:ByteArray)).bind fun b3 =>
 some b3
def dA (n1:Int):Option (ByteArray) :=
 if (decide (n1 < 0))=true then
  some (⟨#[48]⟩:ByteArray)
 else
  (fK n1).bind fun r4 =>
  some r4
def eY (m1:GMeasure):Option (ByteArray) :=
 (dA m1.Fns).bind fun r3 =>
 (bC (⟨#[102,110,115,32]⟩:ByteArray) r3).bind fun t5 =>
 (bC t5 (⟨#[32,110,111,100,101,115,32]⟩:ByteArray)).bind fun t6 =>
 (dA m1.Nodes).bind fun r7 =>
 (bC t6 r7).bind fun t9 =>
 (bC t9 (⟨#[32,115,116,101,112,115,32]⟩:ByteArray)).bind fun a0 =>
 (dA m1.Steps).bind fun a1 =>
 (bC a0 a1).bind fun a2 =>
 (bC a2 (⟨#[32,118,97,108,117,101,115,32]⟩:ByteArray)).bind fun a3 =>
 (dA m1.Values).bind fun a4 =>
 (bC a3 a4).bind fun a5 =>
 (bC a5 (⟨#[32,98,108,111,99,107,115,32]⟩:ByteArray)).bind fun a6 =>
 (dA m1.Blocks).bind fun a7 =>
 (bC a6 a7).bind fun a8 =>
 (bC a8 (⟨#[32,108,101,116,115,32]⟩:ByteArray)).bind fun a9 =>
 (dA m1.Lets).bind fun b0 =>
 (bC a9 b0).bind fun b1 =>
 (bC b1 (⟨#[32,110,101,119,115,32]⟩:ByteArray)).bind fun b2 =>
 (dA m1.News).bind fun b3 =>
 (bC b2 b3).bind fun b4 =>
 (bC b4 (⟨#[32,108,101,110,100,115,32]⟩:ByteArray)).bind fun b5 =>
 (dA m1.Lends).bind fun b6 =>
 (bC b5 b6).bind fun b7 =>
 (bC b7 (⟨#[32,100,101,101,112,32]⟩:ByteArray)).bind fun b8 =>
 (dA m1.Deep).bind fun b9 =>
 (bC b8 b9).bind fun c0 =>
 (bC c0 (⟨#[10]⟩:ByteArray)).bind fun c1 =>
 some c1
def eQ (a0:List Int):Option (Bool) :=
 (xR a0).bind fun r2 =>
 if r2=true then
  some true
 else
  (fJ a0).bind fun ⟨r6,r7⟩ =>
  (gU a0).bind fun ⟨r9,a3⟩ =>
  (gA a0).bind fun a4 =>
  (dY a0).bind fun a5 =>
  Option.bind (
   (dN r6 r7).bind fun a6 =>
   (cD r6 r7).bind fun a7 =>
   if (a6 == a7)=true then
    (mV r9 a3).bind fun a8 =>
    (mM r9 a3).bind fun a9 =>
    if (a8 == a9)=true then
     (kV a4).bind fun a1 =>
     (jH a4).bind fun a2 =>
     if ((a1.Fns == a2.Fns) && ((a1.Nodes == a2.Nodes) && ((a1.Steps == a2.Steps) && ((a1.Values == a2.Values) && ((a1.Blocks == a2.Blocks) && ((a1.Lets == a2.Lets) && ((a1.News == a2.News) && ((a1.Lends == a2.Lends) && (a1.Deep == a2.Deep)))))))))=true then
      (fC a5).bind fun b0 =>
      (eY a5).bind fun b1 =>
      some (sEq b0 b1)
     else
      some false
    else
     some false
   else
    some false) fun b2 =>
  some b2
end Go.OM
end
set_option maxRecDepth 100000
set_option maxHeartbeats 8000000
namespace Go.Proofs.T
open Go.OM
noncomputable def ty:TypeId→Option TI
 | 2=>some ⟨1,8,.int .i64,[.v (.int .i64 0)]⟩
 | 3=>some ⟨1,8,.int .i64,[.v (.int .i64 0)]⟩
 | 4=>some ⟨1,1,.bool,[.v (.bool false)]⟩
 | 5=>some ⟨1,1,.int .u8,[.v (.int .u8 0)]⟩
 | 7=>some ⟨4,24,.struct [(0,1),(1,1),(2,1),(3,1)],[.v (.int .i64 0),.v (.int .i64 0),.v (.bool false),.v (.int .u8 0)]⟩
 | 9=>some ⟨1,16,.str,[.v (.string .empty)]⟩
 | 12=>some ⟨1,8,.int .u64,[.v (.int .u64 0)]⟩
 | 13=>some ⟨2,24,.struct [(0,1),(1,1)],[.v (.string .empty),.v (.int .u64 0)]⟩
 | 22=>some ⟨1,24,.slice 5,[.nl true 1 none]⟩
 | 24=>some ⟨1,24,.slice 44,[.nl true 4 none]⟩
 | 25=>some ⟨1,24,.slice 60,[.nl true 5 none]⟩
 | 26=>some ⟨2,48,.struct [(0,1),(1,1)],[.nl true 4 none,.nl true 5 none]⟩
 | 27=>some ⟨2,48,.struct [(0,1),(1,1)],[.nl true 4 none,.nl true 5 none]⟩
 | 31=>some ⟨9,72,.struct [(0,1),(1,1),(2,1),(3,1),(4,1),(5,1),(6,1),(7,1),(8,1)],[.v (.int .i64 0),.v (.int .i64 0),.v (.int .i64 0),.v (.int .i64 0),.v (.int .i64 0),.v (.int .i64 0),.v (.int .i64 0),.v (.int .i64 0),.v (.int .i64 0)]⟩
 | 32=>some ⟨9,72,.struct [(0,1),(1,1),(2,1),(3,1),(4,1),(5,1),(6,1),(7,1),(8,1)],[.v (.int .i64 0),.v (.int .i64 0),.v (.int .i64 0),.v (.int .i64 0),.v (.int .i64 0),.v (.int .i64 0),.v (.int .i64 0),.v (.int .i64 0),.v (.int .i64 0)]⟩
 | 37=>some ⟨1,8,.ptr,[.v (.pointer none)]⟩
 | 42=>some ⟨1,24,.slice 3,[.nl true 1 none]⟩
 | 43=>some ⟨4,56,.struct [(0,1),(1,1),(2,1),(3,1)],[.v (.int .i64 0),.v (.int .i64 0),.v (.string .empty),.nl true 1 none]⟩
 | 44=>some ⟨4,56,.struct [(0,1),(1,1),(2,1),(3,1)],[.v (.int .i64 0),.v (.int .i64 0),.v (.string .empty),.nl true 1 none]⟩
 | 52=>some ⟨1,8,.func,[.v .nilFunc]⟩
 | 53=>some ⟨3,40,.struct [(0,1),(1,1),(2,1)],[.nl true 1 none,.v (.int .i64 0),.v (.int .i64 0)]⟩
 | 54=>some ⟨3,40,.struct [(0,1),(1,1),(2,1)],[.nl true 1 none,.v (.int .i64 0),.v (.int .i64 0)]⟩
 | 57=>some ⟨1,24,.slice 9,[.nl true 1 none]⟩
 | 58=>some ⟨1,24,.slice 62,[.nl true 2 none]⟩
 | 59=>some ⟨5,64,.struct [(0,1),(1,1),(2,1),(3,1),(4,1)],[.v (.string .empty),.nl true 2 none,.v (.int .i64 0),.v (.int .i64 0),.v (.int .i64 0)]⟩
 | 60=>some ⟨5,64,.struct [(0,1),(1,1),(2,1),(3,1),(4,1)],[.v (.string .empty),.nl true 2 none,.v (.int .i64 0),.v (.int .i64 0),.v (.int .i64 0)]⟩
 | 61=>some ⟨2,24,.struct [(0,1),(1,1)],[.v (.string .empty),.v (.int .i64 0)]⟩
 | 62=>some ⟨2,24,.struct [(0,1),(1,1)],[.v (.string .empty),.v (.int .i64 0)]⟩
 | 72=>some ⟨1,8,.int .u64,[.v (.int .u64 0)]⟩
 | 77=>some ⟨1,24,.slice 4,[.nl true 1 none]⟩
 | 83=>some ⟨1,24,.slice 99,[.nl true 3 none]⟩
 | 86=>some ⟨1,8,.ptr,[.v (.pointer none)]⟩
 | 87=>some ⟨5,72,.struct [(0,1),(1,1),(2,1),(3,1),(4,1)],[.nl true 3 none,.v (.int .i64 0),.v (.bool false),.v (.int .i64 0),.nl true 4 none]⟩
 | 88=>some ⟨5,72,.struct [(0,1),(1,1),(2,1),(3,1),(4,1)],[.nl true 3 none,.v (.int .i64 0),.v (.bool false),.v (.int .i64 0),.nl true 4 none]⟩
 | 90=>some ⟨1,8,.ptr,[.v (.pointer none)]⟩
 | 91=>some ⟨6,88,.struct [(0,1),(1,1),(2,1),(3,1),(4,1),(5,1)],[.v (.pointer none),.nl true 1 none,.nl true 1 none,.v (.int .i64 0),.v (.string .empty),.v (.bool false)]⟩
 | 92=>some ⟨6,88,.struct [(0,1),(1,1),(2,1),(3,1),(4,1),(5,1)],[.v (.pointer none),.nl true 1 none,.nl true 1 none,.v (.int .i64 0),.v (.string .empty),.v (.bool false)]⟩
 | 98=>some ⟨3,32,.struct [(0,1),(1,1),(2,1)],[.v (.int .i64 0),.v (.string .empty),.v (.int .i64 0)]⟩
 | 99=>some ⟨3,32,.struct [(0,1),(1,1),(2,1)],[.v (.int .i64 0),.v (.string .empty),.v (.int .i64 0)]⟩
 | _=>none
theorem ty_ok (t:TypeId) (ti:TI) (h:ty t=some ti):TIok Tryz.prog t ti:=by
 unfold ty at h
 split at h
 ·cases h;exact ⟨by kernel_rfl,Tryz.underlying2,rfl⟩
 ·cases h;exact ⟨by kernel_rfl,Tryz.underlying3,rfl⟩
 ·cases h;exact ⟨by kernel_rfl,Tryz.underlying4,rfl⟩
 ·cases h;exact ⟨by kernel_rfl,Tryz.underlying5,rfl⟩
 ·cases h;exact ⟨by kernel_rfl,(show bJ Tryz.prog 7=some [(0,1),(1,1),(2,1),(3,1)] by kernel_rfl),rfl⟩
 ·cases h;exact ⟨by kernel_rfl,Tryz.underlying9,rfl⟩
 ·cases h;exact ⟨by kernel_rfl,Tryz.underlying12,rfl⟩
 ·cases h;exact ⟨by kernel_rfl,(show bJ Tryz.prog 13=some [(0,1),(1,1)] by kernel_rfl),rfl⟩
 ·cases h;exact ⟨by kernel_rfl,Tryz.underlying22,rfl⟩
 ·cases h;exact ⟨by kernel_rfl,Tryz.underlying24,rfl⟩
 ·cases h;exact ⟨by kernel_rfl,Tryz.underlying25,rfl⟩
 ·cases h;exact ⟨by kernel_rfl,(show bJ Tryz.prog 26=some [(0,1),(1,1)] by kernel_rfl),rfl⟩
 ·cases h;exact ⟨by kernel_rfl,(show bJ Tryz.prog 27=some [(0,1),(1,1)] by kernel_rfl),rfl⟩
 ·cases h;exact ⟨by kernel_rfl,(show bJ Tryz.prog 31=some [(0,1),(1,1),(2,1),(3,1),(4,1),(5,1),(6,1),(7,1),(8,1)] by kernel_rfl),rfl⟩
 ·cases h;exact ⟨by kernel_rfl,(show bJ Tryz.prog 32=some [(0,1),(1,1),(2,1),(3,1),(4,1),(5,1),(6,1),(7,1),(8,1)] by kernel_rfl),rfl⟩
 ·cases h;exact ⟨by kernel_rfl,⟨_,Tryz.underlying37⟩,rfl⟩
 ·cases h;exact ⟨by kernel_rfl,Tryz.underlying42,rfl⟩
 ·cases h;exact ⟨by kernel_rfl,(show bJ Tryz.prog 43=some [(0,1),(1,1),(2,1),(3,1)] by kernel_rfl),rfl⟩
 ·cases h;exact ⟨by kernel_rfl,(show bJ Tryz.prog 44=some [(0,1),(1,1),(2,1),(3,1)] by kernel_rfl),rfl⟩
 ·cases h;exact ⟨by kernel_rfl,⟨_,_,_,Tryz.underlying52⟩,rfl⟩
 ·cases h;exact ⟨by kernel_rfl,(show bJ Tryz.prog 53=some [(0,1),(1,1),(2,1)] by kernel_rfl),rfl⟩
 ·cases h;exact ⟨by kernel_rfl,(show bJ Tryz.prog 54=some [(0,1),(1,1),(2,1)] by kernel_rfl),rfl⟩
 ·cases h;exact ⟨by kernel_rfl,Tryz.underlying57,rfl⟩
 ·cases h;exact ⟨by kernel_rfl,Tryz.underlying58,rfl⟩
 ·cases h;exact ⟨by kernel_rfl,(show bJ Tryz.prog 59=some [(0,1),(1,1),(2,1),(3,1),(4,1)] by kernel_rfl),rfl⟩
 ·cases h;exact ⟨by kernel_rfl,(show bJ Tryz.prog 60=some [(0,1),(1,1),(2,1),(3,1),(4,1)] by kernel_rfl),rfl⟩
 ·cases h;exact ⟨by kernel_rfl,(show bJ Tryz.prog 61=some [(0,1),(1,1)] by kernel_rfl),rfl⟩
 ·cases h;exact ⟨by kernel_rfl,(show bJ Tryz.prog 62=some [(0,1),(1,1)] by kernel_rfl),rfl⟩
 ·cases h;exact ⟨by kernel_rfl,Tryz.underlying72,rfl⟩
 ·cases h;exact ⟨by kernel_rfl,Tryz.underlying77,rfl⟩
 ·cases h;exact ⟨by kernel_rfl,Tryz.underlying83,rfl⟩
 ·cases h;exact ⟨by kernel_rfl,⟨_,Tryz.underlying86⟩,rfl⟩
 ·cases h;exact ⟨by kernel_rfl,(show bJ Tryz.prog 87=some [(0,1),(1,1),(2,1),(3,1),(4,1)] by kernel_rfl),rfl⟩
 ·cases h;exact ⟨by kernel_rfl,(show bJ Tryz.prog 88=some [(0,1),(1,1),(2,1),(3,1),(4,1)] by kernel_rfl),rfl⟩
 ·cases h;exact ⟨by kernel_rfl,⟨_,Tryz.underlying90⟩,rfl⟩
 ·cases h;exact ⟨by kernel_rfl,(show bJ Tryz.prog 91=some [(0,1),(1,1),(2,1),(3,1),(4,1),(5,1)] by kernel_rfl),rfl⟩
 ·cases h;exact ⟨by kernel_rfl,(show bJ Tryz.prog 92=some [(0,1),(1,1),(2,1),(3,1),(4,1),(5,1)] by kernel_rfl),rfl⟩
 ·cases h;exact ⟨by kernel_rfl,(show bJ Tryz.prog 98=some [(0,1),(1,1),(2,1)] by kernel_rfl),rfl⟩
 ·cases h;exact ⟨by kernel_rfl,(show bJ Tryz.prog 99=some [(0,1),(1,1),(2,1)] by kernel_rfl),rfl⟩
 cases h
noncomputable def E:Env:=⟨Tryz.prog,ty,ty_ok,by kernel_rfl,[(3,fun cs=>∃ m,cs[0]? = some (.int .i64 m)),(0,fun cs=>cs=((Lib.pow10Tab.map fun z=>Value.int .u64 z).toArray))]⟩
@[simp] theorem E_ty2:E.ty 2=some ⟨1,8,.int .i64,[.v (.int .i64 0)]⟩:=rfl
@[simp] theorem E_ty3:E.ty 3=some ⟨1,8,.int .i64,[.v (.int .i64 0)]⟩:=rfl
@[simp] theorem E_ty4:E.ty 4=some ⟨1,1,.bool,[.v (.bool false)]⟩:=rfl
@[simp] theorem E_ty5:E.ty 5=some ⟨1,1,.int .u8,[.v (.int .u8 0)]⟩:=rfl
@[simp] theorem E_ty7:E.ty 7=some ⟨4,24,.struct [(0,1),(1,1),(2,1),(3,1)],[.v (.int .i64 0),.v (.int .i64 0),.v (.bool false),.v (.int .u8 0)]⟩:=rfl
@[simp] theorem E_ty9:E.ty 9=some ⟨1,16,.str,[.v (.string .empty)]⟩:=rfl
@[simp] theorem E_ty12:E.ty 12=some ⟨1,8,.int .u64,[.v (.int .u64 0)]⟩:=rfl
@[simp] theorem E_ty13:E.ty 13=some ⟨2,24,.struct [(0,1),(1,1)],[.v (.string .empty),.v (.int .u64 0)]⟩:=rfl
@[simp] theorem E_ty22:E.ty 22=some ⟨1,24,.slice 5,[.nl true 1 none]⟩:=rfl
@[simp] theorem E_ty24:E.ty 24=some ⟨1,24,.slice 44,[.nl true 4 none]⟩:=rfl
@[simp] theorem E_ty25:E.ty 25=some ⟨1,24,.slice 60,[.nl true 5 none]⟩:=rfl
@[simp] theorem E_ty26:E.ty 26=some ⟨2,48,.struct [(0,1),(1,1)],[.nl true 4 none,.nl true 5 none]⟩:=rfl
@[simp] theorem E_ty27:E.ty 27=some ⟨2,48,.struct [(0,1),(1,1)],[.nl true 4 none,.nl true 5 none]⟩:=rfl
@[simp] theorem E_ty31:E.ty 31=some ⟨9,72,.struct [(0,1),(1,1),(2,1),(3,1),(4,1),(5,1),(6,1),(7,1),(8,1)],[.v (.int .i64 0),.v (.int .i64 0),.v (.int .i64 0),.v (.int .i64 0),.v (.int .i64 0),.v (.int .i64 0),.v (.int .i64 0),.v (.int .i64 0),.v (.int .i64 0)]⟩:=rfl
@[simp] theorem E_ty32:E.ty 32=some ⟨9,72,.struct [(0,1),(1,1),(2,1),(3,1),(4,1),(5,1),(6,1),(7,1),(8,1)],[.v (.int .i64 0),.v (.int .i64 0),.v (.int .i64 0),.v (.int .i64 0),.v (.int .i64 0),.v (.int .i64 0),.v (.int .i64 0),.v (.int .i64 0),.v (.int .i64 0)]⟩:=rfl
@[simp] theorem E_ty37:E.ty 37=some ⟨1,8,.ptr,[.v (.pointer none)]⟩:=rfl
@[simp] theorem E_ty42:E.ty 42=some ⟨1,24,.slice 3,[.nl true 1 none]⟩:=rfl
@[simp] theorem E_ty43:E.ty 43=some ⟨4,56,.struct [(0,1),(1,1),(2,1),(3,1)],[.v (.int .i64 0),.v (.int .i64 0),.v (.string .empty),.nl true 1 none]⟩:=rfl
@[simp] theorem E_ty44:E.ty 44=some ⟨4,56,.struct [(0,1),(1,1),(2,1),(3,1)],[.v (.int .i64 0),.v (.int .i64 0),.v (.string .empty),.nl true 1 none]⟩:=rfl
@[simp] theorem E_ty52:E.ty 52=some ⟨1,8,.func,[.v .nilFunc]⟩:=rfl
@[simp] theorem E_ty53:E.ty 53=some ⟨3,40,.struct [(0,1),(1,1),(2,1)],[.nl true 1 none,.v (.int .i64 0),.v (.int .i64 0)]⟩:=rfl
@[simp] theorem E_ty54:E.ty 54=some ⟨3,40,.struct [(0,1),(1,1),(2,1)],[.nl true 1 none,.v (.int .i64 0),.v (.int .i64 0)]⟩:=rfl
@[simp] theorem E_ty57:E.ty 57=some ⟨1,24,.slice 9,[.nl true 1 none]⟩:=rfl
@[simp] theorem E_ty58:E.ty 58=some ⟨1,24,.slice 62,[.nl true 2 none]⟩:=rfl
@[simp] theorem E_ty59:E.ty 59=some ⟨5,64,.struct [(0,1),(1,1),(2,1),(3,1),(4,1)],[.v (.string .empty),.nl true 2 none,.v (.int .i64 0),.v (.int .i64 0),.v (.int .i64 0)]⟩:=rfl
@[simp] theorem E_ty60:E.ty 60=some ⟨5,64,.struct [(0,1),(1,1),(2,1),(3,1),(4,1)],[.v (.string .empty),.nl true 2 none,.v (.int .i64 0),.v (.int .i64 0),.v (.int .i64 0)]⟩:=rfl
@[simp] theorem E_ty61:E.ty 61=some ⟨2,24,.struct [(0,1),(1,1)],[.v (.string .empty),.v (.int .i64 0)]⟩:=rfl
@[simp] theorem E_ty62:E.ty 62=some ⟨2,24,.struct [(0,1),(1,1)],[.v (.string .empty),.v (.int .i64 0)]⟩:=rfl
@[simp] theorem E_ty72:E.ty 72=some ⟨1,8,.int .u64,[.v (.int .u64 0)]⟩:=rfl
@[simp] theorem E_ty77:E.ty 77=some ⟨1,24,.slice 4,[.nl true 1 none]⟩:=rfl
@[simp] theorem E_ty83:E.ty 83=some ⟨1,24,.slice 99,[.nl true 3 none]⟩:=rfl
@[simp] theorem E_ty86:E.ty 86=some ⟨1,8,.ptr,[.v (.pointer none)]⟩:=rfl
@[simp] theorem E_ty87:E.ty 87=some ⟨5,72,.struct [(0,1),(1,1),(2,1),(3,1),(4,1)],[.nl true 3 none,.v (.int .i64 0),.v (.bool false),.v (.int .i64 0),.nl true 4 none]⟩:=rfl
@[simp] theorem E_ty88:E.ty 88=some ⟨5,72,.struct [(0,1),(1,1),(2,1),(3,1),(4,1)],[.nl true 3 none,.v (.int .i64 0),.v (.bool false),.v (.int .i64 0),.nl true 4 none]⟩:=rfl
@[simp] theorem E_ty90:E.ty 90=some ⟨1,8,.ptr,[.v (.pointer none)]⟩:=rfl
@[simp] theorem E_ty91:E.ty 91=some ⟨6,88,.struct [(0,1),(1,1),(2,1),(3,1),(4,1),(5,1)],[.v (.pointer none),.nl true 1 none,.nl true 1 none,.v (.int .i64 0),.v (.string .empty),.v (.bool false)]⟩:=rfl
@[simp] theorem E_ty92:E.ty 92=some ⟨6,88,.struct [(0,1),(1,1),(2,1),(3,1),(4,1),(5,1)],[.v (.pointer none),.nl true 1 none,.nl true 1 none,.v (.int .i64 0),.v (.string .empty),.v (.bool false)]⟩:=rfl
@[simp] theorem E_ty98:E.ty 98=some ⟨3,32,.struct [(0,1),(1,1),(2,1)],[.v (.int .i64 0),.v (.string .empty),.v (.int .i64 0)]⟩:=rfl
@[simp] theorem E_ty99:E.ty 99=some ⟨3,32,.struct [(0,1),(1,1),(2,1)],[.v (.int .i64 0),.v (.string .empty),.v (.int .i64 0)]⟩:=rfl
@[simp] theorem feq_32:aIw E 32=some [true,true,true,true,true,true,true,true,true]:=by kernel_rfl
end Go.Proofs.T
namespace Go.OM
section
variable {α β ρ γ δ:Type} {X:Option α} {r:α} {Φ P Q:Prop} {C:Ctx} {E:Env} {σ τ:St} {S:Exit→St→Prop} {c d:Code} {K:St→Prop} {ops os l:List Oper} {o:Oper} {n id id':Nat} {ks:List Nat} {xs:Array Oper}
theorem aM1 {l:List β} {i:Int} {x:β→Option α} {B:Prop} {j:Nat} (k:∀ y,Hg (Φ∧0 ≤ i∧i < l.length∧B∧j < l.length∧l[j]? = some y∧(∀ hl:j < l.length,l[j]'hl=y)) (x y) r P)
  (hj:i.toNat=j:=by first | (simp;done) | (simp;rfl) | rfl) (hB:i < l.length→B:=by first | (intro h;simp at h;exact h) | exact fun _=>trivial):Hg Φ ((bD l i).bind x) r P:=fun f e=>by
 obtain ⟨y,h1,h2⟩:=bS e
 obtain ⟨a,b,c,d⟩:=gS h1
 subst hj
 exact k y ⟨f,a,b,hB b,by omega,c,d⟩ h2
theorem f_at {z:ByteArray} {i:Int} {x:Int→Option α} {j:Nat} (k:∀ y,Hg (Φ∧0 ≤ i∧i < z.size∧j < z.size∧oC z i=y) (x y) r P)
  (hj:i.toNat=j:=by first | (simp;done) | (simp;rfl) | rfl):Hg Φ ((sAt z i).bind x) r P:=fun f e=>by
 obtain ⟨y,h1,h2⟩:=bS e
 obtain ⟨a,b,c⟩:=aK3 h1
 subst hj
 exact k y ⟨f,a,b,by omega,c⟩ h2
theorem aLx {z:ByteArray} {lo hi:Int} {x:ByteArray→Option α} (k:∀ y,Hg (Φ∧0 ≤ lo∧0 ≤ hi∧lo.toNat ≤ hi.toNat∧hi.toNat ≤ z.size∧z.extract lo.toNat hi.toNat=y∧max lo 0 ≤ hi∧lo ≤ hi∧hi ≤ z.size) (x y) r P):Hg Φ ((gB z lo hi).bind x) r P:=fun f e=>by
 obtain ⟨y,h1,h2⟩:=bS e
 exact k y ⟨f,aI5 h1⟩ h2
theorem aM3 {z w:ByteArray} {x:ByteArray→Option α} (k:∀ y,Hg (Φ∧z.size + w.size ≤ 9223372036854775807∧z ++ w=y) (x y) r P):Hg Φ ((bC z w).bind x) r P:=fun f e=>by
 obtain ⟨y,h1,h2⟩:=bS e
 exact k y ⟨f,aB h1⟩ h2
theorem aM0 {a b:Int} {x:Int→Option α} {J:Int→Prop} (k:∀ y,Hg (Φ∧(aCt a b=some y)∧J y) (x y) r P) (hJ:∀ y,aCt a b=some y→J y:=by intro y h;have h:=pP h;first | (simp at h;exact h) | exact h):Hg Φ ((aCt a b).bind x) r P:=fun f e=>by
 obtain ⟨y,h1,h2⟩:=bS e
 exact k y ⟨f,h1,hJ y h1⟩ h2
theorem aLz {kk:IntKind} {a b:Int} {x:Int→Option α} (k:∀ y,Hg (Φ∧¬ b < 0∧kk.wrap (a * 2 ^ (min b.toNat kk.bits))=y) (x y) r P):Hg Φ ((shlI kk a b).bind x) r P:=fun f e=>by
 obtain ⟨y,h1,h2⟩:=bS e
 exact k y ⟨f,aI2 h1⟩ h2
theorem aLy {kk:IntKind} {a b:Int} {x:Int→Option α} (k:∀ y,Hg (Φ∧¬ b < 0∧a.fdiv (2 ^ (min b.toNat kk.bits))=y) (x y) r P):Hg Φ ((shrI kk a b).bind x) r P:=fun f e=>by
 obtain ⟨y,h1,h2⟩:=bS e
 exact k y ⟨f,aI0 h1⟩ h2
class Enc (β:Type) where
 all:((β→T)→Prop)→Prop
 pf:∀ P,(∀ f,P f)→all P
instance:Enc Int:=⟨fun P=>P vi∧P (vk .u8),fun _ h=>⟨h _,h _⟩⟩
instance:Enc Bool:=⟨fun P=>P vb,fun _ h=>h _⟩
instance:Enc ByteArray:=⟨fun P=>P vs,fun _ h=>h _⟩
instance:Enc (List Int):=⟨fun P=>P (eSl true 1 vi)∧P (eSl false 1 vi),fun _ h=>⟨h _,h _⟩⟩
instance:Enc (List Bool):=⟨fun P=>P (eSl true 1 vb)∧P (eSl false 1 vb),fun _ h=>⟨h _,h _⟩⟩
instance:Enc (List ByteArray):=⟨fun P=>P (eSl true 1 vs)∧P (eSl false 1 vs),fun _ h=>⟨h _,h _⟩⟩
theorem aM2 {u:β} {l:List β} {i:Int} {x:β→Option α} [en:Enc β] {B:Prop} {A:β→Prop} {j:Nat} (k:∀ y,Hg (Φ∧0 ≤ i∧i < (u :: l).length∧B∧j < (u :: l).length∧(u :: l)[j]? = some y∧(∀ hl:j < (u :: l).length,(u :: l)[j]'hl=y)∧A y) (x y) r P)
  (hj:i.toNat=j:=by first | (simp;done) | (simp;rfl) | rfl) (hB:i < (u :: l).length→B:=by first | (intro h;simp at h;exact h) | exact fun _=>trivial)
  (hA:∀ y,en.all (fun f=>((u :: l).map f)[j]? = some (f y)∧∀ hl:j < ((u :: l).map f).length,((u :: l).map f)[j]'hl=f y)→A y:=by intro y h;simp only [Enc.all,List.map_cons,List.map_nil] at h;exact h):Hg Φ ((bD (u :: l) i).bind x) r P:=fun f e=>by
 obtain ⟨y,h1,h2⟩:=bS e
 obtain ⟨a,b,c,d⟩:=gS h1
 subst hj
 have hm:∀ g:β→T,((u :: l).map g)[i.toNat]? = some (g y):=fun g=>by rw [List.getElem?_map,c];rfl
 exact k y ⟨f,a,b,hB b,by omega,c,d,hA y (en.pf _ fun g=>⟨hm g,fun hl=>(List.getElem?_eq_some_iff.1 (hm g)).2⟩)⟩ h2
instance:Enc GNode:=⟨fun P=>P (GNode.enc true)∧P (GNode.enc false),fun _ h=>⟨h _,h _⟩⟩
instance:Enc GParam:=⟨fun P=>P GParam.enc,fun _ h=>h _⟩
instance:Enc GFn:=⟨fun P=>P (GFn.enc true)∧P (GFn.enc false),fun _ h=>⟨h _,h _⟩⟩
instance:Enc GProgram:=⟨fun P=>P (GProgram.enc true)∧P (GProgram.enc false),fun _ h=>⟨h _,h _⟩⟩
instance:Enc GMeasure:=⟨fun P=>P GMeasure.enc,fun _ h=>h _⟩
instance:Enc Gl01Cur:=⟨fun P=>P (Gl01Cur.enc true)∧P (Gl01Cur.enc false),fun _ h=>⟨h _,h _⟩⟩
instance:Enc GSign:=⟨fun P=>P GSign.enc,fun _ h=>h _⟩
instance:Enc Gl05Read:=⟨fun P=>P (Gl05Read.enc true)∧P (Gl05Read.enc false),fun _ h=>⟨h _,h _⟩⟩
instance:Enc Gl05Made:=⟨fun P=>P (Gl05Made.enc true)∧P (Gl05Made.enc false),fun _ h=>⟨h _,h _⟩⟩
theorem aKi {l:List β} {j:Nat} {z:β} {x:List β→Option α} [en:Enc β] {A:List β→Prop} (k:∀ y,Hg (Φ∧A y) (x y) r P)
  (hA:∀ y,en.all (fun f=>(l.map f).set j (f z)=y.map f)→A y:=by intro y h;simp [Enc.all] at h;exact h):Hg Φ (bO (l.set j z) x) r P:=fun f e=>by
 obtain ⟨y,h1,h2⟩:=bZ e
 exact k y ⟨f,hA y (en.pf _ fun _=>nB h1)⟩ h2
theorem aM5 {m:Nat} {b:List β} {x:List β→Option α} {L:Prop} (k:∀ y,Hg (Φ∧L) (x y) r P)
  (hL:(([]:List β).length + b.length) * m ≤ 140737488355328∧([]:List β).length + b.length ≤ 140737488355328→L:=by first | (intro h;simp at h;exact h) | exact fun _=>trivial):Hg Φ ((cE m [] b).bind x) r P:=fun f e=>by
 obtain ⟨y,h1,h2⟩:=bS e
 obtain ⟨a1,a2,a3⟩:=aS h1
 exact k y ⟨f,hL ⟨a1,a2⟩⟩ h2
theorem aM4 {m:Nat} {a b:List β} {x:List β→Option α} [en:Enc β] {L:Prop} {A:List β→Prop} (k:∀ y,Hg (Φ∧L∧A y) (x y) r P)
  (hL:(a.length + b.length) * m ≤ 140737488355328∧a.length + b.length ≤ 140737488355328→L:=by first | (intro h;simp at h;exact h) | exact fun _=>trivial)
  (hA:∀ y,en.all (fun f=>a.map f ++ b.map f=y.map f)→A y:=by intro y h;simp [Enc.all] at h;exact h):Hg Φ ((cE m a b).bind x) r P:=fun f e=>by
 obtain ⟨y,h1,h2⟩:=bS e
 obtain ⟨a1,a2,a3⟩:=aS h1
 exact k y ⟨f,hL ⟨a1,a2⟩,hA y (en.pf _ fun _=>lY a3)⟩ h2
theorem f_mk {m n:Int} {z:β} {x:List β→Option α} [en:Enc β] {L:Prop} {A:List β→Prop} (k:∀ y,Hg (Φ∧0 ≤ n∧m * n ≤ 140737488355328∧n ≤ 140737488355328∧L∧A y) (x y) r P)
  (hL:0 ≤ n∧m * n ≤ 140737488355328∧n ≤ 140737488355328→L:=by first | (intro h;simp at h;exact h) | exact fun _=>trivial)
  (hA:∀ y,en.all (fun f=>List.replicate n.toNat (f z)=y.map f)→A y:=by intro y h;simp [Enc.all] at h;exact h):Hg Φ ((mkI m n z).bind x) r P:=fun f e=>by
 obtain ⟨y,h1,h2⟩:=bS e
 obtain ⟨a1,a2,a3,a4⟩:=mS h1
 exact k y ⟨f,a1,a2,a3,hL ⟨a1,a2,a3⟩,hA y (en.pf _ fun _=>aIc a4)⟩ h2
theorem f_sl {l:List β} {lo hi:Int} {x:List β→Option α} [en:Enc β] {A:List β→Prop} (k:∀ y,Hg (Φ∧0 ≤ lo∧0 ≤ hi∧lo.toNat ≤ hi.toNat∧lo.toNat ≤ l.length∧hi.toNat ≤ l.length∧max lo 0 ≤ hi∧lo ≤ hi∧hi ≤ l.length∧A y) (x y) r P)
  (hA:∀ y,en.all (fun f=>((l.map f).take hi.toNat).drop lo.toNat=y.map f)→A y:=by intro y h;simp [Enc.all] at h;exact h):Hg Φ ((gK l lo hi).bind x) r P:=fun f e=>by
 obtain ⟨y,h1,h2⟩:=bS e
 obtain ⟨a,b,c,d,e',f',g,h⟩:=aHp h1
 exact k y ⟨f,a,b,c,by omega,d,f',g,h,hA y (en.pf _ fun _=>aLl e')⟩ h2
theorem f_if {b:Bool} {p q:Option α} {B N:Prop} (k:(b=true→Hg (Φ∧b=true∧B) p r P)∧(¬ b=true→Hg (Φ∧¬ b=true∧N) q r P))
  (hB:b=true→B:=by first | (intro h;simp at h;exact h) | exact fun _=>trivial) (hN:¬ b=true→N:=by first | (intro h;simp at h;exact h) | exact fun _=>trivial):Hg Φ (if b=true then p else q) r P:=fun f e=>by
 by_cases hb:b=true
 ·rw [if_pos hb] at e;exact k.1 hb ⟨f,hb,hB hb⟩ e
 rw [if_neg hb] at e;exact k.2 hb ⟨f,hb,hN hb⟩ e
theorem f_ie {x y:Int} {p q:Option α} {B N:Prop} (k:((x == y)=true→Hg (Φ∧(x == y)=true∧(x != y)=false∧B) p r P)∧(¬ (x == y)=true→Hg (Φ∧(x == y)=false∧(x != y)=true∧N) q r P))
  (hB:(x == y)=true→B:=by first | (intro h;simp at h;exact h) | exact fun _=>trivial) (hN:¬ (x == y)=true→N:=by first | (intro h;simp at h;exact h) | exact fun _=>trivial):Hg Φ (if (x == y)=true then p else q) r P:=fun f e=>by
 by_cases hb:(x == y)=true
 ·rw [if_pos hb] at e;exact k.1 hb ⟨f,hb,by simp only [bne,hb,Bool.not_true],hB hb⟩ e
 rw [if_neg hb] at e;exact k.2 hb ⟨f,by simpa using hb,by simpa using hb,hN hb⟩ e
theorem f_in {x y:Int} {p q:Option α} {B N:Prop} (k:((x != y)=true→Hg (Φ∧(x != y)=true∧(x == y)=false∧B) p r P)∧(¬ (x != y)=true→Hg (Φ∧(x != y)=false∧(x == y)=true∧N) q r P))
  (hB:(x != y)=true→B:=by first | (intro h;simp at h;exact h) | exact fun _=>trivial) (hN:¬ (x != y)=true→N:=by first | (intro h;simp at h;exact h) | exact fun _=>trivial):Hg Φ (if (x != y)=true then p else q) r P:=fun f e=>by
 by_cases hb:(x != y)=true
 ·rw [if_pos hb] at e;exact k.1 hb ⟨f,hb,by simpa using hb,hB hb⟩ e
 rw [if_neg hb] at e;exact k.2 hb ⟨f,by simpa using hb,by simpa using hb,hN hb⟩ e
def Ct (C:Ctx) (n:Nat) (ks kb:List Nat) (inv:γ→St) (v:γ) (σ:St):Prop:=∃ fz,σ.shed C.N fz ks kb=some (inv v)
def Lp (C:Ctx) (n:Nat) (ks kb:List Nat) (inv:γ→St) (s:γ ⊕ δ) (σ:St):Prop:=∃ v,s = .inl v∧Ct C n ks kb inv v σ
def aIg:AV→Bool
 | .t x=>x.own1
 | _=>false
def fzOf (ks:List Nat) (σ τ:St):List Nat:=ks.filter fun n=>aIg (σ.get n) && !aIg (τ.get n)
def upS (ks kb:List Nat) (σ:St) (tm:List (Nat × AV)) (bx:List (Nat × List T)):St:=⟨gV (σ.keep ks kb).tm tm,bP (σ.keep ks kb).bx bx⟩
theorem h_lv {v' v:γ} {kb kc:List Nat} {inv:γ→St} (cx:Cx C n kc:=by assumption) (h:Φ→∃ fz,σ.shed n fz ks kb=some (inv v'):=by intro f;first | (refine ⟨[],?_⟩;simp [f];done) | (refine ⟨[],?_⟩;simp [f, *];done) | (refine ⟨fzOf ks σ (inv v'),?_⟩;simp [f,fzOf,aIg,T.own1];done) | fail):Hg Φ (some v') v (Ct C n ks kb inv v σ):=fun f e=>by
 cases e
 unfold Ct
 rw [cx.1];exact h f
theorem h_ll {v':γ} {v:γ ⊕ δ} {kb kc:List Nat} {inv:γ→St} (cx:Cx C n kc:=by assumption) (h:Φ→∃ fz,σ.shed n fz ks kb=some (inv v'):=by intro f;first | (refine ⟨[],?_⟩;simp [f];done) | (refine ⟨[],?_⟩;simp [f, *];done) | (refine ⟨fzOf ks σ (inv v'),?_⟩;simp [f,fzOf,aIg,T.own1];done) | fail):Hg Φ (some (.inl v')) v (Lp C n ks kb inv v σ):=fun f e=>by
 cases e
 refine ⟨v',rfl,?_⟩
 unfold Ct
 rw [cx.1];exact h f
theorem gW {z:δ} {s:γ ⊕ δ} {out:δ} (k:Hg Φ (some z) out P) (ho:∀ o,s = .inr o→o=out:=by assumption):Hg Φ (some (.inr z)) s P:=fun f e=>k f (congrArg some (ho z (Option.some.inj e).symm))
def cid:Code→Nat
 | .region id _ _=>id
 | .seq c _=>cid c
 | .block _ c=>cid c
 | .loop c=>cid c
 | .cond _ c _=>cid c
 | _=>0
def csz:Code→Nat
 | .seq c d=>csz c + csz d + 1
 | .block _ c=>csz c + 1
 | .loop c=>csz c + 1
 | .cond _ c d=>csz c + csz d + 1
 | _=>1
theorem dG {f F:γ→Option (γ ⊕ δ)} {g0:γ} {out:δ} {inv:γ→St} {kc:List Nat} (i:Nat) (ks kb:List Nat) (tm:γ→List (Nat × AV)) (bx:γ→List (Nat × List T)) (hF:f=F) (k:∀ g s,(∀ o,s = .inr o→o=out)→Hg True (F g) s (O E C c (aQ (Lp C n ks kb inv s) S) (inv g)))
  (hi:cid c * 1000 + csz c=i:=by rfl) (cx:Cx C n kc:=by assumption) (hv:∀ v,upS ks kb σ (tm v) (bx v)=inv v:=by intro v;simp [upS,gV,bP];rfl) (hk:Φ→∃ fz,σ.shed n fz ks kb=some (inv g0):=by intro f;first | (refine ⟨[],?_⟩;simp [f];done) | (refine ⟨[],?_⟩;simp [f, *];done) | (refine ⟨fzOf ks σ (inv g0),?_⟩;simp [f,fzOf,aIg,T.own1];done) | fail):Hg Φ (aJ f g0) out (O E C (.loop c) S σ):=fun h e=>by
 subst hF
 obtain ⟨fz,hk⟩:=hk h
 refine O.loopO fz ks kb inv f out g0 e (by rw [cx.1];exact hk) fun g s h1 h2=>(k g s h2 trivial h1).mono fun e σ h3=>?_
 cases e with
 | normal =>
  obtain ⟨v,h4,fz,h5⟩:=h3
  exact ⟨v,fz,h4,h5⟩
 | _=>exact h3
theorem eJ {t:Option γ} {x:γ→Option α} {inv:γ→St} {kc:List Nat} (i:Nat) (ks kb:List Nat) (tm:γ→List (Nat × AV)) (bx:γ→List (Nat × List T)) (k:(∀ v,Hg Φ t v (O E C c (aQ (Ct C n ks kb inv v) S) σ))∧∀ v,Hg True (x v) r (O E C d S (inv v)))
  (hi:cid c * 1000 + csz c=i:=by rfl) (cx:Cx C n kc:=by assumption) (hv:∀ v,upS ks kb σ (tm v) (bx v)=inv v:=by intro v;simp [upS,gV,bP];rfl):Hg Φ (t.bind x) r (O E C (.seq c d) S σ):=fun h e=>by
 obtain ⟨v,h1,h2⟩:=bS e
 refine O.seq ((k.1 v h h1).mono fun e σ h3=>?_)
 cases e with
 | normal =>
  obtain ⟨fz,h5⟩:=h3
  exact O.shed h5 (k.2 v trivial h2)
 | _=>exact h3
theorem jZ {t:Option (γ ⊕ α)} {x:γ ⊕ α→Option α} {inv:γ→St} {kc:List Nat} (i:Nat) (ks kb:List Nat) (tm:γ→List (Nat × AV)) (bx:γ→List (Nat × List T)) (k:(∀ s,(∀ o,s = .inr o→o=r)→Hg Φ t s (O E C c (aQ (Lp C n ks kb inv s) S) σ))∧∀ v,Hg True (x (.inl v)) r (O E C d S (inv v)))
  (hi:cid c * 1000 + csz c=i:=by rfl) (cx:Cx C n kc:=by assumption) (hx:∀ z,x (.inr z)=some z:=by intro z;rfl) (hv:∀ v,upS ks kb σ (tm v) (bx v)=inv v:=by intro v;simp [upS,gV,bP];rfl):Hg Φ (t.bind x) r (O E C (.seq c d) S σ):=fun h e=>by
 obtain ⟨s,h1,h2⟩:=bS e
 refine O.seq ((k.1 s (fun z hz=>by rw [hz,hx] at h2;exact Option.some.inj h2) h h1).mono fun e σ h3=>?_)
 cases e with
 | normal =>
  obtain ⟨v,h4,fz,h5⟩:=h3
  subst h4
  exact O.shed h5 (k.2 v trivial h2)
 | _=>exact h3
theorem dL {t:Option γ} {x:γ→Option α} {inv:γ→St} {kc:List Nat} (i:Nat) (ks kb:List Nat) (tm:γ→List (Nat × AV)) (bx:γ→List (Nat × List T)) (k:(∀ v,Hg Φ t v (σ.wps E C.N l l (Ct C n ks kb inv v)))∧∀ v,Hg True (x v) r (O E C d S (inv v)))
  (hi:id=i:=by rfl) (cx:Cx C n kc:=by assumption) (hl:xs.toList=l:=by rfl) (hp:tI kc l=true:=by rfl) (hv:∀ v,upS ks kb σ (tm v) (bx v)=inv v:=by intro v;simp [upS,gV,bP];rfl):Hg Φ (t.bind x) r (O E C (.seq (.region id xs false) d) S σ):=fun h e=>by
 obtain ⟨v,h1,h2⟩:=bS e
 subst hl
 refine O.seq ((O.region (S:=aQ (Ct C n ks kb inv v) fun _ _=>False) (cx.2 _ hp) (k.1 v h h1)).mono fun e σ h3=>?_)
 cases e with
 | normal =>
  obtain ⟨fz,h5⟩:=h3
  exact O.shed h5 (k.2 v trivial h2)
 | _=>exact h3.elim
section
variable {g:Operand} {ys:List Operand} {f:FuncId} {args:List Arg} {ms:List (Mode × Operand)} {β1 β2 β3 β4:Type}
theorem h_cc {e:Option β} {x:β→Option α} {res:β→List T} {outs:β→List (List T)} {τ:β→St} (k:∀ y,Hg Φ (x y) r ((τ y).wps E C.N ops os K)) (cx:Cx C n ks) (hc:eD o=some (g,ys)) (hf:σ.fn g=some f) (con:∀ y,Con E f (e=some y) args (res y) (outs y)) (en:Ent E f)
  (hl:args.length=ys.length) (hm:Φ→lU σ ys args=ms) (h1:Φ→∀ y,σ.wants ops o=some true∧rB args (fun pls σ2=>uB (fun s=>s=τ y) (St.land n o.dst (ms.any fun m=>m.1.isBor) pls (res y) (outs y) σ2)) (σ.lend n ms)):Hg Φ (e.bind x) r (σ.wps E C.N ops (o :: os) K):=fun f e'=>by
 obtain ⟨y,he,hx⟩:=bS e'
 have hk:=k y f hx
 have h2:=h1 f y
 exact @aEj C E σ (τ y) K ops os o n ks g ys _ args (res y) (outs y) ms _ (con y) en he cx hc hl (hm f) ⟨h2.1,hf,h2.2⟩ hk
theorem h_c0 {e:Option Unit} {x:Unit→Option α} {res:List T} {outs:List (List T)} {τ:St} (k:Hg Φ (x ()) r (τ.wps E C.N ops os K)) (cx:Cx C n ks:=by assumption) (hc:eD o=some (g,ys):=by rfl) (hf:σ.fn g=some f:=by first | rfl | (simp;done) | (simp;rfl)) (con:Con E f (e=some ()) args res outs:=by infer_instance) (en:Ent E f:=by infer_instance)
  (hl:args.length=ys.length:=by rfl) (hm:Φ→lU σ ys args=ms:=by first | (intro f;simp [lU,lP,T.own1,f];done) | (intro f;simp [lU,lP,T.own1,f];rfl))
  (h1:Φ→σ.wants ops o=some true∧rB args (fun pls σ2=>uB (fun s=>s=τ) (St.land n o.dst (ms.any fun m=>m.1.isBor) pls res outs σ2)) (σ.lend n ms):=by first | (intro f;simp [f];rfl) | (intro f;simp [f, *];rfl)):Hg Φ (e.bind x) r (σ.wps E C.N ops (o :: os) K) :=
 h_cc (τ:=fun _=>τ) (fun _=>k) cx hc hf (fun _=>con) en hl hm fun f _=>h1 f
theorem h_c2 {e:Option (β1 × β2)} {x:β1 × β2→Option α} {x':β1→β2→Option α} {res:β1→β2→List T} {outs:β1→β2→List (List T)} {τ:β1→β2→St} (k:∀ y z,Hg Φ (x' y z) r ((τ y z).wps E C.N ops os K)) (cx:Cx C n ks:=by assumption) (hc:eD o=some (g,ys):=by rfl) (hf:σ.fn g=some f:=by first | rfl | (simp;done) | (simp;rfl)) (con:∀ y z,Con E f (e=some (y,z)) args (res y z) (outs y z):=by infer_instance) (en:Ent E f:=by infer_instance)
  (hl:args.length=ys.length:=by rfl) (hm:Φ→lU σ ys args=ms:=by first | (intro f;simp [lU,lP,T.own1,f];done) | (intro f;simp [lU,lP,T.own1,f];rfl))
  (h1:Φ→∀ y z,σ.wants ops o=some true∧rB args (fun pls σ2=>uB (fun s=>s=τ y z) (St.land n o.dst (ms.any fun m=>m.1.isBor) pls (res y z) (outs y z) σ2)) (σ.lend n ms):=by first | (intro f y z;simp [f];rfl) | (intro f y z;simp [f, *];rfl)) (hx:∀ y z,x (y,z)=x' y z:=by intro y z;first | (dsimp only;rfl) | rfl):Hg Φ (e.bind x) r (σ.wps E C.N ops (o :: os) K) :=
 h_cc (res:=fun p=>res p.1 p.2) (outs:=fun p=>outs p.1 p.2) (τ:=fun p=>τ p.1 p.2) (fun p=>by have:=hx p.1 p.2;rw [show x p=x' p.1 p.2 from this];exact k p.1 p.2) cx hc hf (fun p=>con p.1 p.2) en hl hm fun f p=>h1 f p.1 p.2
theorem h_c3 {e:Option (β1 × β2 × β3)} {x:β1 × β2 × β3→Option α} {x':β1→β2→β3→Option α} {res:β1→β2→β3→List T} {outs:β1→β2→β3→List (List T)} {τ:β1→β2→β3→St} (k:∀ y z u,Hg Φ (x' y z u) r ((τ y z u).wps E C.N ops os K)) (cx:Cx C n ks:=by assumption) (hc:eD o=some (g,ys):=by rfl) (hf:σ.fn g=some f:=by first | rfl | (simp;done) | (simp;rfl)) (con:∀ y z u,Con E f (e=some (y,z,u)) args (res y z u) (outs y z u):=by infer_instance) (en:Ent E f:=by infer_instance)
  (hl:args.length=ys.length:=by rfl) (hm:Φ→lU σ ys args=ms:=by first | (intro f;simp [lU,lP,T.own1,f];done) | (intro f;simp [lU,lP,T.own1,f];rfl))
  (h1:Φ→∀ y z u,σ.wants ops o=some true∧rB args (fun pls σ2=>uB (fun s=>s=τ y z u) (St.land n o.dst (ms.any fun m=>m.1.isBor) pls (res y z u) (outs y z u) σ2)) (σ.lend n ms):=by first | (intro f y z u;simp [f];rfl) | (intro f y z u;simp [f, *];rfl)) (hx:∀ y z u,x (y,z,u)=x' y z u:=by intro y z u;first | (dsimp only;rfl) | rfl):Hg Φ (e.bind x) r (σ.wps E C.N ops (o :: os) K) :=
 h_cc (res:=fun p=>res p.1 p.2.1 p.2.2) (outs:=fun p=>outs p.1 p.2.1 p.2.2) (τ:=fun p=>τ p.1 p.2.1 p.2.2) (fun p=>by have:=hx p.1 p.2.1 p.2.2;rw [show x p=x' p.1 p.2.1 p.2.2 from this];exact k p.1 p.2.1 p.2.2) cx hc hf (fun p=>con p.1 p.2.1 p.2.2) en hl hm fun f p=>h1 f p.1 p.2.1 p.2.2
theorem aZ {fn : Func} (hf : E.P.funcs[f]? = some fn) (hn : (fn.name == "runtime.NumGoroutine") = false := by decide +kernel) (hb : fn.body.isNone = false := by rfl) : Ent E f := ⟨eO hf hn hb⟩
end
theorem sI {N:Nat} {K K':St→Prop} (hK:∀ σ,K σ→K' σ):∀ (os:List Oper) (σ:St),σ.wps E N ops os K→σ.wps E N ops os K'
 | [],σ,h=>hK _ h
 | o :: os,σ,h=>by
  simp only [St.wps] at h ⊢
  split at h
  ·obtain ⟨σ1,h1,h2⟩:=h
   exact ⟨σ1,h1,sI hK os _ h2⟩
  ·split at h
   ·rcases h with ⟨f,hf,he,⟨ms,args,pls,σ2,hms,hl,res,outs,hok,σ1,hb,hr⟩ | ⟨pre,x,xs',y',res,args,σ1,h0,hl,hok,hr⟩⟩ | ⟨f,n,ms,mc,args,pls,σ2,hf,he,hms,hmc,hl,res,outs,hok,σ1,hb,hr⟩
    ·exact .inl ⟨f,hf,he,.inl ⟨ms,args,pls,σ2,hms,hl,res,outs,hok,σ1,hb,sI hK os _ hr⟩⟩
    ·exact .inl ⟨f,hf,he,.inr ⟨pre,x,xs',y',res,args,σ1,h0,hl,hok,sI hK os _ hr⟩⟩
    exact .inr ⟨f,n,ms,mc,args,pls,σ2,hf,he,hms,hmc,hl,res,outs,hok,σ1,hb,sI hK os _ hr⟩
   obtain ⟨σ1,h1,h2⟩:=h
   exact ⟨σ1,h1,sI hK os _ h2⟩
  exact h
def sZ:List Operand→List Nat
 | []=>[]
 | .tmp n :: xs=>n :: sZ xs
 | .const _ :: xs=>sZ xs
 | .func _ :: xs=>sZ xs
 | .global _ :: xs=>sZ xs
def kC (l:List Oper) (o:Oper):List Nat:=(match o.guard with
 | some (j,_)=>((l[j]?).bind Oper.dst).toList
 | none=>[]) ++ sZ o.op.operands.toList
def tdAux:List Oper→List (List Nat)→List (List Nat)
 | [],acc=>acc
 | o :: os,acc=>tdAux os (acc ++ [(List.range acc.length).filter fun j=>o.after.toList.any fun e=>Region.binds .any e && (e.on == j || (decide (e.on < acc.length) && (acc.getD e.on []).contains j))])
def tdOf (l:List Oper):List (List Nat):=tdAux l []
def clB (l:List Oper) (m:Nat):Bool:=(List.range m).all fun i=>match l[i]? with
 | some o=>(kC l o).all fun n=>(List.range m).all fun j=>match (l[j]?).bind Oper.dst with
  | some d=>!(d == n) || (decide (j < i) && ((tdOf l).getD i []).contains j)
  | none=>false
 | none=>false
def frB (l:List Oper) (m:Nat) (tm:List Nat):Bool:=(l.take m).all fun o=>match o.dst with
 | some d=>(tm.all fun e=>!(e == d))
 | none=>false
def ndB:List Oper→Bool
 | []=>true
 | o :: os=>(match o.dst with
  | some d=>os.all fun o'=>!(o'.dst == some d)
  | none=>false) && ndB os
def mOf (l:List Oper):Nat:=((List.range (l.length + 1)).find? fun m=>(List.range l.length).all fun i=>decide (i < m) || ((tdOf l).getD i []).length == i).getD l.length
def drB (l:List Oper) (m:Nat) (tm:List Nat):Bool:=decide (m ≤ l.length) && ndB (l.take m) && frB l m tm && aL6 0 l && aH3 (tdOf l) m l.length && tdB (tdOf l) 0 l && clB l m
def owed1 (E:Env) (C:Ctx) (σ:St) (l:List Oper) (dn:List (Nat × AV)) (o:Oper) (e:Nat × AV):Prop :=
 ∀ τ:St,τ.bx=σ.bx→(∀ n ∈ kC l o,look τ.tm n=look (σ.tm ++ dn) n)→(∀ n,look σ.tm n ≠ none→look τ.tm n=look σ.tm n)→look τ.tm e.1=some .u→∀ K:St→Prop,K ⟨put τ.tm e.1 e.2,σ.bx⟩→τ.wps E C.N l [o] K
def Dr (E:Env) (C:Ctx) (σ:St) (l:List Oper) (K:List (Nat × AV)→Prop):List Oper→List (Nat × AV)→Prop
 | [],dn=>K dn
 | o :: os,dn=>∃ e,o.dst=some e.1∧owed1 E C σ l dn o e∧Dr E C σ l K os (dn ++ [e])
theorem Dr.get {K:List (Nat × AV)→Prop}:∀ (os:List Oper) (dn:List (Nat × AV)),Dr E C σ l K os dn→∃ vs,vs.map (fun e=>some e.1)=os.map Oper.dst∧(∀ i o,os[i]? = some o→∃ e,vs[i]? = some e∧owed1 E C σ l (dn ++ vs.take i) o e)∧K (dn ++ vs)
 | [],dn,h=>⟨[],rfl,fun i o h=>by simp at h,by simpa [Dr] using h⟩
 | o :: os,dn,h=>by
  obtain ⟨e,h1,h2,h3⟩:=h
  obtain ⟨vs,q1,q2,q3⟩:=Dr.get os (dn ++ [e]) h3
  refine ⟨e :: vs,by simp [q1,h1],fun i o' hi=>?_,by simpa using q3⟩
  cases i with
  | zero =>
   simp only [List.getElem?_cons_zero,Option.some.injEq] at hi
   subst hi
   exact ⟨e,rfl,by simpa using h2⟩
  | succ i =>
   obtain ⟨e',g1,g2⟩:=q2 i o' (by simpa using hi)
   exact ⟨e',by simpa using g1,by simpa using g2⟩
theorem aDu {p:Nat→Oper→Prop}:∀ (l:List Oper) (n:Nat),(∀ i o,l[i]? = some o→p (n + i) o)→zP p n l
 | [],n,h=>trivial
 | o :: os,n,h=>⟨by simpa using h 0 o rfl,aDu os (n + 1) fun i o' hi=>by
  have:=h (i + 1) o' (by simpa using hi)
  rwa [show n + (i + 1)=n + 1 + i by omega] at this⟩
theorem aH0 {tm:List (Nat × AV)} {n:Nat} (h:tm.all (fun e=>!(e.1 == n))=true):look tm n=none:=by
 induction tm with
 | nil=>rfl
 | cons e tm ih =>
  obtain ⟨k,x⟩:=e
  simp only [List.all_cons,Bool.and_eq_true,Bool.not_eq_true',beq_eq_false_iff_ne] at h
  simp only [look,if_neg h.1]
  exact ih h.2
theorem aFo:∀ (l:List (Nat × AV)) (j:Nat) (e:Nat × AV),(l.map Prod.fst).Nodup→l[j]? = some e→look l e.1=some e.2
 | [],j,e,_,h=>by simp at h
 | (k,v) :: l,j,e,hn,h=>by
  simp only [List.map_cons,List.nodup_cons] at hn
  cases j with
  | zero=>simp only [List.getElem?_cons_zero,Option.some.injEq] at h;subst h;simp [look]
  | succ j =>
   simp only [List.getElem?_cons_succ] at h
   have hne:k ≠ e.1:=fun hk=>hn.1 (List.mem_map.2 ⟨e,List.mem_of_getElem? h,hk.symm⟩)
   simp only [look,if_neg hne]
   exact aFo l j e hn.2 h
theorem aL7:∀ (os:List Oper) (vs:List (Nat × AV)),ndB os=true→vs.map (fun e=>some e.1)=os.map Oper.dst→(vs.map Prod.fst).Nodup
 | [],[],_,_=>by simp
 | [],_ :: _,_,h=>by simp at h
 | _ :: _,[],_,h=>by simp at h
 | o :: os,e :: vs,h,hv=>by
  simp only [List.map_cons,List.cons.injEq] at hv
  simp only [ndB,← hv.1,Bool.and_eq_true,List.all_eq_true,Bool.not_eq_true',beq_eq_false_iff_ne] at h
  rw [List.map_cons,List.nodup_cons]
  refine ⟨fun hm=>?_,aL7 os vs h.2 hv.2⟩
  obtain ⟨x,hx,he⟩:=List.mem_map.1 hm
  have:some x.1 ∈ os.map Oper.dst:=by rw [← hv.2];exact List.mem_map.2 ⟨x,hx,rfl⟩
  obtain ⟨o',h1,h2⟩:=List.mem_map.1 this
  exact h.1 o' h1 (by rw [h2,he])
theorem O.drawS (m:Nat) (hl:xs.toList=l) (hp:lO C.pin l=true) (hb:drB l m (σ.tm.map Prod.fst)=true) (h:Dr E C σ l (fun vs=>(⟨σ.tm ++ vs,σ.bx⟩:St).wps E C.N l (l.drop m) fun σ'=>S .normal σ') (l.take m) []):O E C (.region id xs true) S σ:=by
 simp only [drB,Bool.and_eq_true,decide_eq_true_eq] at hb
 obtain ⟨⟨⟨⟨⟨⟨hm,hnd⟩,hfr⟩,hord⟩,hlast⟩,htd⟩,hcl⟩:=hb
 obtain ⟨vs,q1,q2,q3⟩:=Dr.get _ _ h
 have hlen:vs.length=m:=by
  have:=congrArg List.length q1
  simp only [List.length_map,List.length_take] at this
  omega
 have hnd':=aL7 _ _ hnd q1
 have hfresh:∀ n ∈ vs.map Prod.fst,look σ.tm n=none:=by
  intro n hn
  obtain ⟨x,hx,rfl⟩:=List.mem_map.1 hn
  have:some x.1 ∈ (l.take m).map Oper.dst:=by rw [← q1];exact List.mem_map.2 ⟨x,hx,rfl⟩
  obtain ⟨o',h1,h2⟩:=List.mem_map.1 this
  have h3:=List.all_eq_true.1 hfr o' h1
  simp only [h2,List.all_map] at h3
  exact aH0 h3
 refine O.dT hl hp vs (tdOf l) (by omega) (decide_eq_true hnd') hfresh hord (by rw [hlen];exact hlast) htd ?_ fun K hK=>?_
 ·rw [hlen]
  refine aDu _ 0 fun i o hi=>?_
  rw [Nat.zero_add]
  obtain ⟨e,he,how⟩:=q2 i o hi
  have hev:bM vs i=e:=by unfold bM;rw [List.getD_eq_getElem?_getD,he];rfl
  have him:i < m:=by have:=(List.getElem?_eq_some_iff.1 he).1;omega
  intro τ h1 h2 h3 h4 K hK
  rw [hev] at h4 hK
  have hli:l[i]? = some o:=by rw [List.getElem?_take,if_pos him] at hi;exact hi
  have hsl:∀ n ∈ kC l o,∀ j,j < m→∀ x,vs[j]? = some x→x.1=n→j < i∧j ∈ (tdOf l).getD i []:=by
   intro n hn j hj x hx hxn
   have g1:=List.all_eq_true.1 hcl i (List.mem_range.2 him)
   simp only [hli] at g1
   have g2:=List.all_eq_true.1 (List.all_eq_true.1 g1 n hn) j (List.mem_range.2 hj)
   have g3:(l[j]?).bind Oper.dst=some x.1:=by
    have:(vs.map fun e=>some e.1)[j]? = ((l.take m).map Oper.dst)[j]?:=by rw [q1]
    rw [List.getElem?_map,hx,List.getElem?_map,List.getElem?_take,if_pos hj] at this
    cases hlj:l[j]? with
    | none=>rw [hlj] at this;simp at this
    | some y=>rw [hlj] at this;simp at this;simp [← this]
   simp only [g3,hxn,beq_self_eq_true,Bool.not_true,Bool.false_or,Bool.and_eq_true,decide_eq_true_eq,List.contains_iff_mem] at g2
   exact g2
  refine how τ h1 (fun n hn=>?_) (fun n hn=>h2 n fun hk=>hn (hfresh n hk)) h4 K (hK _ (by rw [h1]))
  rw [List.nil_append,mE]
  by_cases hk:n ∈ vs.map Prod.fst
  ·obtain ⟨x,hx,hxn⟩:=List.mem_map.1 hk
   obtain ⟨j,hj⟩:=List.getElem?_of_mem hx
   have hjm:j < m:=by have:=(List.getElem?_eq_some_iff.1 hj).1;omega
   obtain ⟨g1,g2⟩:=hsl n hn j hjm x hj hxn
   have g3:=h3 j g2
   have hvj:bM vs j=x:=by unfold bM;rw [List.getD_eq_getElem?_getD,hj];rfl
   rw [hvj,hxn] at g3
   rw [g3,hfresh n hk]
   have:=aFo (vs.take i) j x (hnd'.sublist ((List.take_sublist i vs).map _)) (by rw [List.getElem?_take,if_pos g1];exact hj)
   rw [hxn] at this
   exact this.symm
  rw [h2 n hk]
  cases look σ.tm n with
  | some y=>rfl
  | none =>
   refine (rQ fun hm=>hk ?_).symm
   obtain ⟨x,hx,hxn⟩:=List.mem_map.1 hm
   exact List.mem_map.2 ⟨x,List.mem_of_mem_take hx,hxn⟩
 rw [hlen]
 exact sI hK _ _ q3
theorem h_dr {kk:List Nat} (k:Hg Φ X r (Dr E C σ l (fun vs=>(⟨σ.tm ++ vs,σ.bx⟩:St).wps E C.N l (l.drop (mOf l)) fun σ'=>S .normal σ') (l.take (mOf l)) [])) (cx:Cx C n ks:=by assumption) (hl:xs.toList=l:=by rfl) (hp:tI ks l=true:=by rfl) (hk:σ.tm.map Prod.fst=kk:=by simp only [List.map_cons,List.map_nil];rfl) (hb:drB l (mOf l) kk=true:=by decide +kernel):Hg Φ X r (O E C (.region id xs true) S σ):=fun f e=>O.drawS _ hl (cx.2 _ hp) (by rw [hk];exact hb) (k f e)
theorem h_dn {K:List (Nat × AV)→Prop} {dn:List (Nat × AV)} (k:Hg Φ X r (K dn)):Hg Φ X r (Dr E C σ l K [] dn):=k
theorem h_dq {K:List (Nat × AV)→Prop} {dn dn':List (Nat × AV)} {d:Nat} {v:AV} {ss:List Nat} (k:Hg Φ X r (Dr E C σ l K os dn')) (cx:Cx C n ks:=by assumption) (hd:o.dst=some d:=by rfl) (hc:eD o=none:=by rfl) (hs:kC l o=ss:=by simp [kC,sZ,Op.operands,Call.operands];rfl)
  (h1:Φ→∀ τ:St,τ.bx=σ.bx→(∀ n ∈ ss,look τ.tm n=look (σ.tm ++ dn) n)→(∀ n,look σ.tm n ≠ none→look τ.tm n=look σ.tm n)→look τ.tm d=some .u→τ.stepK E n l o (fun s=>s=⟨put τ.tm d v,σ.bx⟩):=by intro f τ hbx hd hb hf;(try simp [look] at hd);first | (simp [f,hbx,hd,hb,hf,look];rfl) | (simp [f,hbx,hb,hf,look];rfl))
  (hdn:dn ++ [(d,v)]=dn':=by simp only [List.nil_append,List.cons_append];rfl):Hg Φ X r (Dr E C σ l K (o :: os) dn):=fun f e=>by
 subst hs hdn
 exact ⟨(d,v),hd,fun τ h1' h2' h3' h4' K hK=>aI cx.1 (wN hK) hc (h1 f τ h1' h2' h3' h4'),k f e⟩
theorem h_ds {K:List (Nat × AV)→Prop} {dn dn':List (Nat × AV)} {d:Nat} {v:AV} {ss:List Nat} (k:Hg Φ X r (Dr E C σ l K os dn')) (cx:Cx C n ks:=by assumption) (hd:o.dst=some d:=by rfl) (hc:eD o=none:=by rfl) (hs:kC l o=ss:=by simp [kC,sZ,Op.operands,Call.operands];rfl)
  (h1:Φ→∀ τ:St,τ.bx=σ.bx→(∀ n ∈ ss,look τ.tm n=look (σ.tm ++ dn) n)→(∀ n,look σ.tm n ≠ none→look τ.tm n=look σ.tm n)→look τ.tm d=some .u→τ.stepK E n l o (fun s=>s=⟨put τ.tm d v,σ.bx⟩):=by intro f τ hbx hd hb hf;(try simp [look] at hd);(simp [f,hbx,hd,hb,hf,look, *];rfl))
  (hdn:dn ++ [(d,v)]=dn':=by simp only [List.nil_append,List.cons_append];rfl):Hg Φ X r (Dr E C σ l K (o :: os) dn):=fun f e=>by
 subst hs hdn
 exact ⟨(d,v),hd,fun τ h1' h2' h3' h4' K hK=>aI cx.1 (wN hK) hc (h1 f τ h1' h2' h3' h4'),k f e⟩
section
variable {g:Operand} {ys:List Operand} {f:FuncId} {args:List Arg} {ms:List (Mode × Operand)} {β1 β2:Type} {KD:List (Nat × AV)→Prop} {dn:List (Nat × AV)} {d:Nat} {ss:List Nat}
def Tk (σ:St) (dn:List (Nat × AV)) (ss:List Nat) (d:Nat) (τ:St):Prop:=τ.bx=σ.bx∧(∀ n ∈ ss,look τ.tm n=look (σ.tm ++ dn) n)∧(∀ n,look σ.tm n ≠ none→look τ.tm n=look σ.tm n)∧look τ.tm d=some .u
theorem h_do {dn':List (Nat × AV)} (k:Hg Φ X r (Dr E C σ l KD os dn')) (cx:Cx C n ks:=by assumption) (hd:o.dst=some d:=by rfl) (hs:kC l o=ss:=by simp [kC,sZ,Op.operands,Call.operands];rfl)
  (h1:Φ→∀ τ:St,Tk σ dn ss d τ→τ.wants l o=some false∧τ.put? n (some d) (.tup [])=some ⟨put τ.tm d (.tup []),σ.bx⟩:=by intro f τ hT;have hbx:=hT.1;have hd:=hT.2.1;have hb:=hT.2.2.1;have hf:=hT.2.2.2;clear hT;(try simp [look] at hd);first | (simp [f,hbx,hd,hb,hf,look];done) | (simp [f,hbx,hb,hf,look];done) | (simp [f,hbx,hd,hb,hf,look, *];done) | fail)
  (hdn:dn ++ [(d,.tup [])]=dn':=by simp only [List.nil_append,List.cons_append];rfl):Hg Φ X r (Dr E C σ l KD (o :: os) dn):=fun f e=>by
 subst hs hdn
 refine ⟨(d,.tup []),hd,fun τ h1' h2' h3' h4' K hK=>?_,k f e⟩
 obtain ⟨q1,q2⟩:=h1 f τ ⟨h1',h2',h3',h4'⟩
 exact wO fun K' hK'=>⟨q1,_,by rw [cx.1,hd];exact q2,hK' _ (wN hK)⟩
theorem h_dcc {e:Option β} {x:β→Option α} {res:β→List T} {outs:β→List (List T)} {v:β→AV} {dn':β→List (Nat × AV)} (k:∀ y,Hg Φ (x y) r (Dr E C σ l KD os (dn' y))) (cx:Cx C n ks) (hc:eD o=some (g,ys)) (hd:o.dst=some d) (hs:kC l o=ss) (con:∀ y,Con E f (e=some y) args (res y) (outs y)) (en:Ent E f)
  (hl:args.length=ys.length) (hm:Φ→∀ τ:St,Tk σ dn ss d τ→lU τ ys args=ms)
  (h1:Φ→∀ τ:St,Tk σ dn ss d τ→∀ y,τ.wants l o=some true∧τ.fn g=some f∧rB args (fun pls σ2=>uB (fun s=>s=⟨put τ.tm d (v y),σ.bx⟩) (St.land n (some d) (ms.any fun m=>m.1.isBor) pls (res y) (outs y) σ2)) (τ.lend n ms))
  (hdn:∀ y,dn ++ [(d,v y)]=dn' y):Hg Φ (e.bind x) r (Dr E C σ l KD (o :: os) dn):=fun f e'=>by
 obtain ⟨y,he,hx⟩:=bS e'
 subst hs
 refine ⟨(d,v y),hd,fun τ h1' h2' h3' h4' K hK=>?_,by rw [hdn];exact k y f hx⟩
 have hT:Tk σ dn (kC l o) d τ:=⟨h1',h2',h3',h4'⟩
 exact @aEj C E τ ⟨put τ.tm d (v y),σ.bx⟩ K l [] o n ks g ys _ args (res y) (outs y) ms _ (con y) en he cx hc hl (hm f τ hT) (by rw [hd];exact h1 f τ hT y) (wN hK)
theorem h_dc1 {e:Option β} {x:β→Option α} {res:β→List T} {outs:β→List (List T)} {v:β→AV} {dn':β→List (Nat × AV)} (k:∀ y,Hg Φ (x y) r (Dr E C σ l KD os (dn' y))) (cx:Cx C n ks:=by assumption) (hc:eD o=some (g,ys):=by rfl) (hf:σ.fn g=some f:=by first | rfl | (simp;done) | (simp;rfl)) (hd:o.dst=some d:=by rfl) (hs:kC l o=ss:=by simp [kC,sZ,Op.operands,Call.operands];rfl) (con:∀ y,Con E f (e=some y) args (res y) (outs y):=by infer_instance) (en:Ent E f:=by infer_instance)
  (hl:args.length=ys.length:=by rfl) (hm:Φ→∀ τ:St,Tk σ dn ss d τ→lU τ ys args=ms:=by intro f τ hT;have hbx:=hT.1;have hd:=hT.2.1;have hb:=hT.2.2.1;have hf:=hT.2.2.2;clear hT;(try simp [look] at hd);first | (simp [lU,lP,T.own1,f,hd];done) | (simp [lU,lP,T.own1,f,hd];rfl) | (simp [lU,lP,T.own1,f];done) | fail)
  (h1:Φ→∀ τ:St,Tk σ dn ss d τ→∀ y,τ.wants l o=some true∧τ.fn g=some f∧rB args (fun pls σ2=>uB (fun s=>s=⟨put τ.tm d (v y),σ.bx⟩) (St.land n (some d) (ms.any fun m=>m.1.isBor) pls (res y) (outs y) σ2)) (τ.lend n ms):=by intro f τ hT y;have hbx:=hT.1;have hd:=hT.2.1;have hb:=hT.2.2.1;have hf:=hT.2.2.2;clear hT;(try simp [look] at hd);first | (simp [f,hbx,hd,hb,hf,look];rfl) | (simp [f,hbx,hb,hf,look];rfl) | (simp [f,hbx,hd,hb,hf,look, *];rfl))
  (hdn:∀ y,dn ++ [(d,v y)]=dn' y:=by intro y;simp only [List.nil_append,List.cons_append];rfl):Hg Φ (e.bind x) r (Dr E C σ l KD (o :: os) dn):=h_dcc k cx hc hd hs con en hl hm h1 hdn
theorem h_dc2 {e:Option (β1 × β2)} {x:β1 × β2→Option α} {x':β1→β2→Option α} {res:β1→β2→List T} {outs:β1→β2→List (List T)} {v:β1→β2→AV} {dn':β1→β2→List (Nat × AV)} (k:∀ y z,Hg Φ (x' y z) r (Dr E C σ l KD os (dn' y z))) (cx:Cx C n ks:=by assumption) (hc:eD o=some (g,ys):=by rfl) (hf:σ.fn g=some f:=by first | rfl | (simp;done) | (simp;rfl)) (hd:o.dst=some d:=by rfl) (hs:kC l o=ss:=by simp [kC,sZ,Op.operands,Call.operands];rfl) (con:∀ y z,Con E f (e=some (y,z)) args (res y z) (outs y z):=by infer_instance) (en:Ent E f:=by infer_instance)
  (hl:args.length=ys.length:=by rfl) (hm:Φ→∀ τ:St,Tk σ dn ss d τ→lU τ ys args=ms:=by intro f τ hT;have hbx:=hT.1;have hd:=hT.2.1;have hb:=hT.2.2.1;have hf:=hT.2.2.2;clear hT;(try simp [look] at hd);first | (simp [lU,lP,T.own1,f,hd];done) | (simp [lU,lP,T.own1,f,hd];rfl) | (simp [lU,lP,T.own1,f];done) | fail)
  (h1:Φ→∀ τ:St,Tk σ dn ss d τ→∀ y z,τ.wants l o=some true∧τ.fn g=some f∧rB args (fun pls σ2=>uB (fun s=>s=⟨put τ.tm d (v y z),σ.bx⟩) (St.land n (some d) (ms.any fun m=>m.1.isBor) pls (res y z) (outs y z) σ2)) (τ.lend n ms):=by intro f τ hT y z;have hbx:=hT.1;have hd:=hT.2.1;have hb:=hT.2.2.1;have hf:=hT.2.2.2;clear hT;(try simp [look] at hd);first | (simp [f,hbx,hd,hb,hf,look];rfl) | (simp [f,hbx,hb,hf,look];rfl) | (simp [f,hbx,hd,hb,hf,look, *];rfl))
  (hdn:∀ y z,dn ++ [(d,v y z)]=dn' y z:=by intro y z;simp only [List.nil_append,List.cons_append];rfl) (hx:∀ y z,x (y,z)=x' y z:=by intro y z;first | (dsimp only;rfl) | rfl):Hg Φ (e.bind x) r (Dr E C σ l KD (o :: os) dn) :=
 h_dcc (res:=fun p=>res p.1 p.2) (outs:=fun p=>outs p.1 p.2) (v:=fun p=>v p.1 p.2) (dn':=fun p=>dn' p.1 p.2) (fun p=>by have:=hx p.1 p.2;rw [show x p=x' p.1 p.2 from this];exact k p.1 p.2) cx hc hd hs (fun p=>con p.1 p.2) en hl hm (fun f τ hT p=>h1 f τ hT p.1 p.2) fun p=>hdn p.1 p.2
end
def Lv (E:Env) (n:Nat) (rs:List ResultVar) (args:List Arg) (res:List T) (outs:List (List T)) (e:Exit) (σ:St):Prop:=(e = .ret ∨ e = .normal)∧σ.leave E n rs args=some (res,outs)
theorem iA {f:FuncId} {fn:Func} {args:List Arg} {res:List T} {outs:List (List T)} {rs:List ResultVar} (hf:E.P.funcs[f]? = some fn) (k:∀ C,Cx C n []→Hg True X r (O E C c (Lv E n rs args res outs) (wH n args))) (hb:fn.body=some c:=by rfl) (hn:fn.ntmps=n:=by conv=>lhs;whnf) (hr:fn.results.toList=rs:=by conv=>lhs;whnf) (hN:decide (args.length ≤ n)=true:=by rfl):Con E f (X=some r) args res outs:=by
 subst hn hr
 exact ⟨fun h=>oB hf hb (of_decide_eq_true hN) fun C hC hP=>k C ⟨hC,pO (by rw [hP];rfl)⟩ trivial h⟩
theorem h_end {v:α} {rs:List ResultVar} {args:List Arg} {res:List T} {outs:List (List T)} {x:Exit} (h:Φ→v=r→σ.leave E n rs args=some (res,outs):=by intro f e;cases e;first | (simp;done) | (simp [f];done) | (simp [f, *];done) | fail) (hx:x = .ret ∨ x = .normal:=by first | exact .inl rfl | exact .inr rfl):Hg Φ (some v) r (Lv E n rs args res outs x σ):=fun f e=>⟨hx,h f (Option.some.inj e)⟩
end
theorem S {p q:Prop} (k:q) (h:q→p:=by first
 | (show _→Hg _ _ _ (St.wps _ _ _ (_ :: _) _ _);first
  | (show _→Hg _ (bO _ _) _ (St.wps _ _ _ (Oper.mk _ (.store _ _ _) _ _ _ _ :: _) _ _);exact fun k=>aKi k)
  | exact fun k=>h_q k
  | (show _→Hg _ (Option.bind _ _) _ _;first
  | (show _→Hg _ (Option.bind (bD (_ :: _) _) _) _ _;exact fun k=>aM2 k)
  | (show _→Hg _ (Option.bind (bD _ _) _) _ _;exact fun k=>aM1 k)
  | (show _→Hg _ (Option.bind (sAt _ _) _) _ _;exact fun k=>f_at k)
  | (show _→Hg _ (Option.bind (gB _ _ _) _) _ _;exact fun k=>aLx k)
  | (show _→Hg _ (Option.bind (bC _ _) _) _ _;exact fun k=>aM3 k)
  | (show _→Hg _ (Option.bind (aCt _ _) _) _ _;exact fun k=>aM0 k)
  | (show _→Hg _ (Option.bind (shlI _ _ _) _) _ _;exact fun k=>aLz k)
  | (show _→Hg _ (Option.bind (shrI _ _ _) _) _ _;exact fun k=>aLy k)
  | (show _→Hg _ (Option.bind (cE _ [] _) _) _ _;exact fun k=>aM5 k)
  | (show _→Hg _ (Option.bind (cE _ _ _) _) _ _;exact fun k=>aM4 k)
  | (show _→Hg _ (Option.bind (mkI _ _ _) _) _ _;exact fun k=>f_mk k)
  | (show _→Hg _ (Option.bind (gK _ _ _) _) _ _;exact fun k=>f_sl k))
  | (show _→Hg _ (bO _ _) _ _;exact fun k=>aKi k)
  | exact fun k=>h_qs k
  | (show _→Hg _ (Option.bind _ _) _ _;first | exact fun k=>h_c3 k | exact fun k=>h_c2 k | exact fun k=>h_c0 k | exact fun k=>h_c1 k) | exact fun k=>h_off k | exact fun k=>h_lB k | (show _→Hg _ (ite _ _ _) _ _;first | exact fun k=>f_ie k | exact fun k=>f_in k | exact fun k=>f_if k))
 | (show _→Hg _ _ _ (St.wps _ _ _ [] _ _);exact fun k=>h_nil k)
 | (show _→Hg _ _ _ (Dr _ _ _ _ _ (_ :: _) _);first
  | exact fun k=>h_dq k
  | (show _→Hg _ (Option.bind _ _) _ _;first
  | (show _→Hg _ (Option.bind (bD (_ :: _) _) _) _ _;exact fun k=>aM2 k)
  | (show _→Hg _ (Option.bind (bD _ _) _) _ _;exact fun k=>aM1 k)
  | (show _→Hg _ (Option.bind (sAt _ _) _) _ _;exact fun k=>f_at k)
  | (show _→Hg _ (Option.bind (gB _ _ _) _) _ _;exact fun k=>aLx k)
  | (show _→Hg _ (Option.bind (bC _ _) _) _ _;exact fun k=>aM3 k)
  | (show _→Hg _ (Option.bind (aCt _ _) _) _ _;exact fun k=>aM0 k)
  | (show _→Hg _ (Option.bind (shlI _ _ _) _) _ _;exact fun k=>aLz k)
  | (show _→Hg _ (Option.bind (shrI _ _ _) _) _ _;exact fun k=>aLy k)
  | (show _→Hg _ (Option.bind (cE _ [] _) _) _ _;exact fun k=>aM5 k)
  | (show _→Hg _ (Option.bind (cE _ _ _) _) _ _;exact fun k=>aM4 k)
  | (show _→Hg _ (Option.bind (mkI _ _ _) _) _ _;exact fun k=>f_mk k)
  | (show _→Hg _ (Option.bind (gK _ _ _) _) _ _;exact fun k=>f_sl k))
  | (show _→Hg _ (bO _ _) _ _;exact fun k=>aKi k)
  | exact fun k=>h_ds k
  | (show _→Hg _ (Option.bind _ _) _ _;first | exact fun k=>h_dc2 k | exact fun k=>h_dc1 k) | exact fun k=>h_do k | (show _→Hg _ (ite _ _ _) _ _;first | exact fun k=>f_ie k | exact fun k=>f_in k | exact fun k=>f_if k))
 | (show _→Hg _ _ _ (Dr _ _ _ _ _ [] _);exact fun k=>h_dn k)
 | (show _→Hg _ _ _ (O _ _ _ _ _);first
  | (show _→Hg _ _ _ (O _ _ (.seq _ _) _ _);first
   | (show _→Hg _ _ _ (O _ _ (.seq (.region _ _ false) _) _ _);exact fun k=>h_sr k)
   | exact fun k=>h_sq k)
  | (show _→Hg _ _ _ (O _ _ (.region _ _ false) _ _);exact fun k=>h_rg k)
  | (show _→Hg _ _ _ (O _ _ (.region _ _ true) _ _);exact fun k=>h_dr k)
  | (show _→Hg _ (ite _ _ _) _ (O _ _ (.cond _ _ _) _ _);exact fun k=>h_cd k)
  | (show _→Hg _ _ _ (O _ _ (.cond _ _ _) _ _);first | exact fun k=>h_ct k | exact fun k=>h_cf k)
  | (show _→Hg _ _ _ (O _ _ .skip _ _);exact fun k=>h_sk k)
  | (show _→Hg _ _ _ (O _ _ (.block _ _) _ _);exact fun k=>h_bk k)
  | (show _→Hg _ _ _ (O _ _ (.exit _) _ _);exact fun k=>h_ex k)
  | (show _→Hg _ _ _ (O _ _ .ret _ _);exact fun k=>h_rt k)
  | (show _→Hg _ _ _ (O _ _ (.label _) _ _);exact fun k=>h_lb k))
 | (show _→Hg _ _ _ (aQ _ _ _ _);first
  | (show _→Hg _ _ _ (aQ _ _ .normal _);exact fun k=>h_tn k)
  | (show _→Hg _ _ _ (aQ _ _ .ret _);exact fun k=>h_tr k)
  | exact fun k=>h_te k)
 | (show _→Hg _ _ _ (iB _ _ _ _);first
  | (show _→Hg _ _ _ (iB _ _ .normal _);exact fun k=>h_bn k)
  | (show _→Hg _ _ _ (iB _ _ .ret _);exact fun k=>h_br k)
  | exact fun k=>h_be k
  | exact fun k=>h_bd k)
 | (show _→Hg _ (some (Sum.inr _)) _ _;exact fun k=>gW k)
 | (show _→Hg _ (bO _ _) _ _;exact fun k=>aKi k)
 | (show _→Hg _ (Option.bind _ _) _ _;first
  | (show _→Hg _ (Option.bind (bD (_ :: _) _) _) _ _;exact fun k=>aM2 k)
  | (show _→Hg _ (Option.bind (bD _ _) _) _ _;exact fun k=>aM1 k)
  | (show _→Hg _ (Option.bind (sAt _ _) _) _ _;exact fun k=>f_at k)
  | (show _→Hg _ (Option.bind (gB _ _ _) _) _ _;exact fun k=>aLx k)
  | (show _→Hg _ (Option.bind (bC _ _) _) _ _;exact fun k=>aM3 k)
  | (show _→Hg _ (Option.bind (aCt _ _) _) _ _;exact fun k=>aM0 k)
  | (show _→Hg _ (Option.bind (shlI _ _ _) _) _ _;exact fun k=>aLz k)
  | (show _→Hg _ (Option.bind (shrI _ _ _) _) _ _;exact fun k=>aLy k)
  | (show _→Hg _ (Option.bind (cE _ [] _) _) _ _;exact fun k=>aM5 k)
  | (show _→Hg _ (Option.bind (cE _ _ _) _) _ _;exact fun k=>aM4 k)
  | (show _→Hg _ (Option.bind (mkI _ _ _) _) _ _;exact fun k=>f_mk k)
  | (show _→Hg _ (Option.bind (gK _ _ _) _) _ _;exact fun k=>f_sl k))
 | fail):p:=h k
theorem Z {p:Prop} (h:p:=by first
 | (show Hg _ (some _) _ (Lv _ _ _ _ _ _ _ _);exact h_end)
 | (show Hg _ (some _) _ (Ct _ _ _ _ _ _ _);exact h_lv)
 | (show Hg _ (some (Sum.inl _)) _ (Lp _ _ _ _ _ _ _);exact h_ll)
 | fail):p:=h
end Go.OM
namespace Go.Proofs
open Go.Shelf
def Tryz.laysM171_ren:Go.Shelf.Ren:=⟨fun | 171=>52 | 243=>67 | 246=>83 | 283=>112 | 284=>113 | 285=>114 | 286=>115 | 129=>109 | 317=>129 | 318=>130 | 319=>131 | 320=>132 | 337=>138 | 338=>139 | n=>n,fun | 3=>3 | 9=>9 | 2=>2 | 4=>4 | 171=>126 | 0=>0 | 53=>123 | 37=>22 | 5=>5 | 173=>128 | 212=>139 | 51=>121 | 20=>20 | 213=>140 | 46=>72 | 232=>148 | 233=>149 | n=>n,fun | 17=>0 | 18=>1 | 19=>2 | n=>n⟩
theorem Tryz.laysM171:Go.Proofs.LaysM.n171 Tryz.prog Tryz.laysM171_ren:={
 mixed:=by kernel_rfl
 f129:=Tryz.func109.trans (congrArg some (by kernel_rfl))
 f171:=Tryz.func52.trans (congrArg some (by kernel_rfl))
 f243:=Tryz.func67.trans (congrArg some (by kernel_rfl))
 f246:=Tryz.func83.trans (congrArg some (by kernel_rfl))
 f283:=Tryz.func112.trans (congrArg some (by kernel_rfl))
 f284:=Tryz.func113.trans (congrArg some (by kernel_rfl))
 f285:=Tryz.func114.trans (congrArg some (by kernel_rfl))
 f286:=Tryz.func115.trans (congrArg some (by kernel_rfl))
 f317:=Tryz.func129.trans (congrArg some (by kernel_rfl))
 f318:=Tryz.func130.trans (congrArg some (by kernel_rfl))
 f319:=Tryz.func131.trans (congrArg some (by kernel_rfl))
 f320:=Tryz.func132.trans (congrArg some (by kernel_rfl))
 f337:=Tryz.func138.trans (congrArg some (by kernel_rfl))
 f338:=Tryz.func139.trans (congrArg some (by kernel_rfl))
 t0:=Tryz.underlying0
 a0:=Tryz.isAgg0
 z0:=Tryz.sizeOf0
 v0:=Tryz.zeroValue0
 t2:=Tryz.underlying2
 a2:=Tryz.isAgg2
 z2:=Tryz.sizeOf2
 v2:=Tryz.zeroValue2
 t3:=Tryz.underlying3
 a3:=Tryz.isAgg3
 z3:=Tryz.sizeOf3
 v3:=Tryz.zeroValue3
 t4:=Tryz.underlying4
 a4:=Tryz.isAgg4
 z4:=Tryz.sizeOf4
 v4:=Tryz.zeroValue4
 t5:=Tryz.underlying5
 a5:=Tryz.isAgg5
 z5:=Tryz.sizeOf5
 v5:=Tryz.zeroValue5
 t9:=Tryz.underlying9
 a9:=Tryz.isAgg9
 z9:=Tryz.sizeOf9
 v9:=Tryz.zeroValue9
 t20:=Tryz.underlying20
 a20:=Tryz.isAgg20
 z20:=Tryz.sizeOf20
 v20:=Tryz.zeroValue20
 t37:=Tryz.underlying22
 a37:=Tryz.isAgg22
 z37:=Tryz.sizeOf22
 v37:=Tryz.zeroValue22
 t46:=Tryz.underlying72
 a46:=Tryz.isAgg72
 z46:=Tryz.sizeOf72
 v46:=Tryz.zeroValue72
 t51:=Tryz.underlying121
 a51:=Tryz.isAgg121
 z51:=Tryz.sizeOf121
 v51:=Tryz.zeroValue121
 t53:=Tryz.underlying123
 a53:=Tryz.isAgg123
 z53:=Tryz.sizeOf123
 v53:=Tryz.zeroValue123
 t171:=Tryz.underlying126
 a171:=Tryz.isAgg126
 z171:=Tryz.sizeOf126
 v171:=Tryz.zeroValue126
 t173:=Tryz.underlying128
 a173:=Tryz.isAgg128
 z173:=Tryz.sizeOf128
 v173:=Tryz.zeroValue128
 t212:=Tryz.underlying139
 a212:=Tryz.isAgg139
 z212:=Tryz.sizeOf139
 v212:=Tryz.zeroValue139
 t213:=Tryz.underlying140
 a213:=Tryz.isAgg140
 z213:=Tryz.sizeOf140
 t232:=Tryz.underlying148
 a232:=Tryz.isAgg148
 z232:=Tryz.sizeOf148
 v232:=Tryz.zeroValue148
 t233:=Tryz.underlying149
 a233:=Tryz.isAgg149
 z233:=Tryz.sizeOf149
 v233:=Tryz.zeroValue149
 g17:=by kernel_rfl
 g18:=by kernel_rfl
 g19:=by kernel_rfl
 i0:=by kernel_rfl
 i2:=by kernel_rfl
 i3:=by kernel_rfl
 i4:=by kernel_rfl
 i5:=by kernel_rfl
 i9:=by kernel_rfl
 i20:=by kernel_rfl
 i37:=by kernel_rfl
 i46:=by kernel_rfl
 i51:=by kernel_rfl
 i53:=by kernel_rfl
 i171:=by kernel_rfl
 i173:=by kernel_rfl
 i212:=by kernel_rfl
 i232:=by kernel_rfl
 i233:=by kernel_rfl
 m17:=by kernel_rfl
 m18:=by kernel_rfl
 m19:=by kernel_rfl }
open Go.RowKit Go.Sort Go.Lib in
theorem Tryz.strconv_Itoa (n : Int) (h0 : -9223372036854775808 ≤ n) (h1 : n ≤ 9223372036854775807) (w : World) (htab : Lib.TabIs Tryz.prog w "internal/strconv.uint64pow10" .u64 Lib.pow10Tab) :
  Calls Tryz.prog 52 #[.int .i64 n] w fun e w'=>e = .returned (.string ⟨(Lib.itoa n).toArray⟩)∧∃ k os,w'=grow (w.drewN k) os:=Any.strconv_Itoa Tryz.laysM171 n h0 h1 w htab
def Tryz.lays191_ren:Go.Shelf.Ren:=⟨fun | 191=>41 | 189=>58 | 125=>73 | 257=>72 | 128=>108 | 129=>109 | 294=>99 | 295=>100 | 296=>101 | 297=>102 | 298=>103 | 299=>104 | 216=>105 | 300=>106 | 301=>107 | 328=>122 | 329=>123 | 330=>124 | 331=>125 | 332=>126 | 215=>127 | 343=>136 | n=>n,fun | 28=>42 | 0=>0 | 3=>3 | 46=>72 | 51=>121 | 53=>123 | 4=>4 | 183=>113 | 182=>112 | 131=>118 | 5=>5 | 9=>9 | 218=>130 | 222=>134 | 228=>142 | 229=>80 | n=>n,fun | n=>n⟩
theorem Tryz.lays191:Go.Proofs.Lays.n191 Tryz.prog Tryz.lays191_ren:={
 mixed:=by kernel_rfl
 f125:=Tryz.func73.trans (congrArg some (by kernel_rfl))
 f128:=Tryz.func108.trans (congrArg some (by kernel_rfl))
 f129:=Tryz.func109.trans (congrArg some (by kernel_rfl))
 f189:=Tryz.func58.trans (congrArg some (by kernel_rfl))
 f191:=Tryz.func41.trans (congrArg some (by kernel_rfl))
 f215:=Tryz.func127.trans (congrArg some (by kernel_rfl))
 f216:=Tryz.func105.trans (congrArg some (by kernel_rfl))
 f257:=Tryz.func72.trans (congrArg some (by kernel_rfl))
 f294:=Tryz.func99.trans (congrArg some (by kernel_rfl))
 f295:=Tryz.func100.trans (congrArg some (by kernel_rfl))
 f296:=Tryz.func101.trans (congrArg some (by kernel_rfl))
 f297:=Tryz.func102.trans (congrArg some (by kernel_rfl))
 f298:=Tryz.func103.trans (congrArg some (by kernel_rfl))
 f299:=Tryz.func104.trans (congrArg some (by kernel_rfl))
 f300:=Tryz.func106.trans (congrArg some (by kernel_rfl))
 f301:=Tryz.func107.trans (congrArg some (by kernel_rfl))
 f328:=Tryz.func122.trans (congrArg some (by kernel_rfl))
 f329:=Tryz.func123.trans (congrArg some (by kernel_rfl))
 f330:=Tryz.func124.trans (congrArg some (by kernel_rfl))
 f331:=Tryz.func125.trans (congrArg some (by kernel_rfl))
 f332:=Tryz.func126.trans (congrArg some (by kernel_rfl))
 f343:=Tryz.func136.trans (congrArg some (by kernel_rfl))
 t0:=Tryz.underlying0
 a0:=Tryz.isAgg0
 z0:=Tryz.sizeOf0
 v0:=Tryz.zeroValue0
 t3:=Tryz.underlying3
 a3:=Tryz.isAgg3
 z3:=Tryz.sizeOf3
 v3:=Tryz.zeroValue3
 t4:=Tryz.underlying4
 a4:=Tryz.isAgg4
 z4:=Tryz.sizeOf4
 v4:=Tryz.zeroValue4
 t5:=Tryz.underlying5
 a5:=Tryz.isAgg5
 z5:=Tryz.sizeOf5
 v5:=Tryz.zeroValue5
 t9:=Tryz.underlying9
 a9:=Tryz.isAgg9
 z9:=Tryz.sizeOf9
 v9:=Tryz.zeroValue9
 t28:=Tryz.underlying42
 a28:=Tryz.isAgg42
 z28:=Tryz.sizeOf42
 v28:=Tryz.zeroValue42
 t46:=Tryz.underlying72
 a46:=Tryz.isAgg72
 z46:=Tryz.sizeOf72
 v46:=Tryz.zeroValue72
 t51:=Tryz.underlying121
 a51:=Tryz.isAgg121
 z51:=Tryz.sizeOf121
 v51:=Tryz.zeroValue121
 t53:=Tryz.underlying123
 a53:=Tryz.isAgg123
 z53:=Tryz.sizeOf123
 v53:=Tryz.zeroValue123
 t131:=Tryz.underlying118
 a131:=Tryz.isAgg118
 z131:=Tryz.sizeOf118
 v131:=Tryz.zeroValue118
 t182:=Tryz.underlying112
 a182:=Tryz.isAgg112
 z182:=Tryz.sizeOf112
 v182:=Tryz.zeroValue112
 t183:=Tryz.underlying113
 a183:=Tryz.isAgg113
 z183:=Tryz.sizeOf113
 v183:=Tryz.zeroValue113
 t218:=Tryz.underlying130
 a218:=Tryz.isAgg130
 z218:=Tryz.sizeOf130
 v218:=Tryz.zeroValue130
 t222:=Tryz.underlying134
 a222:=Tryz.isAgg134
 z222:=Tryz.sizeOf134
 v222:=Tryz.zeroValue134
 t228:=Tryz.underlying142
 a228:=Tryz.isAgg142
 z228:=Tryz.sizeOf142
 v228:=Tryz.zeroValue142
 t229:=Tryz.underlying80
 a229:=Tryz.isAgg80
 z229:=Tryz.sizeOf80
 v229:=Tryz.zeroValue80 }
open Go.Sort Go.RowKit in
theorem Tryz.sort_Ints (blk off cap:Nat) (zs:List Int) (w:World) (hH:Holds (Value.int .i64) w blk off zs.toArray) (hblk:blk < w.heap.size) (hsz:zs.length < 4611686018427387904) :
  Calls Tryz.prog 41 #[.slice (some ⟨blk,off,none⟩) zs.length cap] w fun e w' =>
   e = .returned (.tuple #[])∧∃ n os,w'=grow (putRow (Value.int .i64) (Sort.ahead w n) blk off (zs.mergeSort fun x y=>decide (x ≤ y)).toArray) os:=Any.sort_Ints Tryz.lays191 blk off cap zs w hH hblk hsz
def Tryz.lays146_ren:Go.Shelf.Ren:=⟨fun | 146=>128 | 221=>137 | 268=>142 | 138=>143 | 143=>144 | 195=>145 | 197=>146 | 218=>147 | 219=>148 | 260=>149 | 217=>150 | 225=>151 | 224=>152 | 267=>153 | 266=>154 | 314=>155 | n=>n,fun | 9=>9 | 31=>57 | 3=>3 | 4=>4 | 0=>0 | 105=>150 | 21=>21 | 5=>5 | 46=>72 | 119=>153 | 139=>156 | 138=>155 | 146=>157 | 51=>121 | n=>n,fun | 1=>3 | 3=>4 | 4=>5 | n=>n⟩
theorem Tryz.lays146:Go.Proofs.Lays.n146 Tryz.prog Tryz.lays146_ren:={
 mixed:=by kernel_rfl
 f138:=Tryz.func143.trans (congrArg some (by kernel_rfl))
 f143:=Tryz.func144.trans (congrArg some (by kernel_rfl))
 f146:=Tryz.func128.trans (congrArg some (by kernel_rfl))
 f195:=Tryz.func145.trans (congrArg some (by kernel_rfl))
 f197:=Tryz.func146.trans (congrArg some (by kernel_rfl))
 f217:=Tryz.func150.trans (congrArg some (by kernel_rfl))
 f218:=Tryz.func147.trans (congrArg some (by kernel_rfl))
 f219:=Tryz.func148.trans (congrArg some (by kernel_rfl))
 f221:=Tryz.func137.trans (congrArg some (by kernel_rfl))
 f224:=Tryz.func152.trans (congrArg some (by kernel_rfl))
 f225:=Tryz.func151.trans (congrArg some (by kernel_rfl))
 f260:=Tryz.func149.trans (congrArg some (by kernel_rfl))
 f266:=Tryz.func154.trans (congrArg some (by kernel_rfl))
 f267:=Tryz.func153.trans (congrArg some (by kernel_rfl))
 f268:=Tryz.func142.trans (congrArg some (by kernel_rfl))
 f314:=Tryz.func155.trans (congrArg some (by kernel_rfl))
 t0:=Tryz.underlying0
 a0:=Tryz.isAgg0
 z0:=Tryz.sizeOf0
 v0:=Tryz.zeroValue0
 t3:=Tryz.underlying3
 a3:=Tryz.isAgg3
 z3:=Tryz.sizeOf3
 v3:=Tryz.zeroValue3
 t4:=Tryz.underlying4
 a4:=Tryz.isAgg4
 z4:=Tryz.sizeOf4
 v4:=Tryz.zeroValue4
 t5:=Tryz.underlying5
 a5:=Tryz.isAgg5
 z5:=Tryz.sizeOf5
 v5:=Tryz.zeroValue5
 t9:=Tryz.underlying9
 a9:=Tryz.isAgg9
 z9:=Tryz.sizeOf9
 v9:=Tryz.zeroValue9
 t21:=Tryz.underlying21
 a21:=Tryz.isAgg21
 z21:=Tryz.sizeOf21
 v21:=Tryz.zeroValue21
 t31:=Tryz.underlying57
 a31:=Tryz.isAgg57
 z31:=Tryz.sizeOf57
 v31:=Tryz.zeroValue57
 t46:=Tryz.underlying72
 a46:=Tryz.isAgg72
 z46:=Tryz.sizeOf72
 v46:=Tryz.zeroValue72
 t51:=Tryz.underlying121
 a51:=Tryz.isAgg121
 z51:=Tryz.sizeOf121
 v51:=Tryz.zeroValue121
 t105:=Tryz.underlying150
 a105:=Tryz.isAgg150
 z105:=Tryz.sizeOf150
 v105:=Tryz.zeroValue150
 t119:=Tryz.underlying153
 a119:=Tryz.isAgg153
 z119:=Tryz.sizeOf153
 t138:=Tryz.underlying155
 a138:=Tryz.isAgg155
 z138:=Tryz.sizeOf155
 v138:=Tryz.zeroValue155
 t139:=Tryz.underlying156
 a139:=Tryz.isAgg156
 z139:=Tryz.sizeOf156
 v139:=Tryz.zeroValue156
 t146:=Tryz.underlying157
 a146:=Tryz.isAgg157
 z146:=Tryz.sizeOf157
 v146:=Tryz.zeroValue157
 g1:=by kernel_rfl
 g3:=by kernel_rfl
 g4:=by kernel_rfl }
open Go.RowKit Go.Lib in
theorem Tryz.strings_Split (s sep:ByteArray) (m:Int) (w:World) (hs:s.size < 4294967281) (hm:w.cell? ⟨3,0,none⟩=some (.int .i64 m)) (h1:1 ≤ sep.size) :
  Calls Tryz.prog 128 #[.string s,.string sep] w fun e w' =>
   e = .returned (.slice (some ⟨w.heap.size,0,none⟩) (Lib.countB s sep + 1) (Lib.countB s sep + 1))∧w'=w.alloc (.cells ((Lib.splitB sep 0 (Lib.countB s sep) s).map Value.string).toArray 9):=Any.strings_Split Tryz.lays146 (by kernel_rfl) s sep m w hs hm h1
open Go.RowKit Go.Sort in
theorem Tryz.sort_Ints_none (p:Option Addr) (cap:Nat) (w:World) :
  Calls Tryz.prog 41 #[.slice p 0 cap] w fun e w'=>e = .returned (.tuple #[])∧w'=w:=Any.sort_Ints_none Tryz.lays191 p cap w
end Go.Proofs
namespace Go.Proofs.T
open Go.OM
theorem ent128:cN E.P 128:=eO Tryz.func128 (by simp [Tryz.f128]) rfl
theorem aEc {w:World} (h:E.Gl w):∃ m,w.cell? ⟨3,0,none⟩=some (.int .i64 m):=by
 obtain ⟨cs,t,fr,h1,m,h2⟩:=h _ (List.mem_cons_self ..)
 refine ⟨m,?_⟩
 have h1':w.heap[3]? = some (.cells cs t fr):=h1
 simp [World.cell?,h1',h2]
theorem wZ (s sep:ByteArray) {r0:List ByteArray} (h:strings_Split s sep=some r0):Ok E 128 [.val (vs s),.val (vs sep)] [.sl true 1 (List.map vs r0)] []:=by
 unfold strings_Split at h
 split at h
 case isFalse=>cases h
 rename_i hr
 injection h with h
 subst h
 have:=aKb (E:=E) (f:=128) (ty:=9) (xs:=[.string s,.string sep]) (es:=(Lib.splitB sep 0 (Lib.countB s sep) s).map Value.string) (by simp [TA.OneCell]) fun w hw=>by
  obtain ⟨m,hm⟩:=aEc hw
  have h1:=Tryz.strings_Split s sep m w hr.1 hm hr.2.1
  refine h1.mono fun e w' ⟨h2,h3⟩=>⟨?_,h3⟩
  rw [h2,List.length_map,hr.2.2]
  try rfl
 rw [List.map_map] at this
 exact this
theorem ent41:cN E.P 41:=eO Tryz.func41 (by simp [Tryz.f41]) rfl
theorem wT (l:List Int) {r0:List Int} (h:sort_Ints l=some r0):OkIO E 41 [.val (.sl true 1 (List.map vi l))] [] [] [(0,.sl true 1 (List.map vi r0))]:=by
 unfold sort_Ints at h
 split at h
 case isFalse=>cases h
 rename_i hr
 injection h with h
 subst h
 exact aK9 (fun blk off cap zs w h1 h2 h3=>Tryz.sort_Ints blk off cap zs w h1 h2 h3) (fun p cap w=>Tryz.sort_Ints_none p cap w) l hr
theorem ent52:cN E.P 52:=eO Tryz.func52 (by simp [Tryz.f52]) rfl
theorem pow10_named : Tryz.prog.globalNamed "internal/strconv.uint64pow10" = some 0 := by kernel_rfl
theorem aIf {w : World} (h : E.Gl w) : Lib.TabIs Tryz.prog w "internal/strconv.uint64pow10" .u64 Lib.pow10Tab := by
 obtain ⟨cs,t,fr,h1,h2⟩:=h _ (List.mem_cons_of_mem _ (List.mem_singleton.2 rfl))
 unfold Lib.TabIs World.var?
 rw [pow10_named]
 have h1':w.heap[0]? = some (.cells cs t fr):=h1
 simp only [Option.bind_some,h1']
 exact congrArg some h2
theorem yC (n:Int) {r0:ByteArray} (h:strconv_Itoa n=some r0):Ok E 52 [.val (vi n)] [vs r0] []:=by
 unfold strconv_Itoa at h
 split at h
 case isFalse=>cases h
 rename_i hr
 injection h with h
 subst h
 exact aKa (xs:=[.int .i64 n]) (rs:=[.string ⟨(Lib.itoa n).toArray⟩]) (by simp [TA.OneCell]) fun w hw=>Tryz.strconv_Itoa n hr.1 hr.2 w (aIf hw)
instance e52_:Ent E 52:=⟨ent52⟩
instance c52_ (a0:Int) {r0:ByteArray}:Con E 52 (strconv_Itoa a0=some r0) [.val (vi a0)] [vs r0] []:=⟨fun h=>yC _ h⟩
instance e128_:Ent E 128:=⟨ent128⟩
instance c128_ (a0:ByteArray) (a1:ByteArray) {r0:List ByteArray}:Con E 128 (strings_Split a0 a1=some r0) [.val (vs a0),.val (vs a1)] [.sl true 1 (List.map vs r0)] []:=⟨fun h=>wZ _ _ h⟩
end Go.Proofs.T
