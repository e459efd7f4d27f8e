import Derived.Orders
import Derived.Tactics
import Derived.Below
import Derived.Laws.Append
import Derived.Laws.CopyRow
import Derived.Deep.Draws
import Derived.Laws.Small
import Derived.Laws.StructEq
import Derived.Laws.Cells
import Derived.Laws.MakeOwn
set_option linter.unusedVariables false
set_option linter.unusedSimpArgs false
set_option linter.unusedVariables false
namespace Go.OM
inductive T where
 | v (x:Value)
 | agg (cs:List T)
 | sl (own:Bool) (sz:Nat) (es:List T)
 | dead
 | clo (f:Nat) (cs:List T)
 | pt (cs:List T)
 deriving Inhabited
inductive TA where
 | v (x:Value)
 | agg (cs:List TA)
 | nl (own:Bool) (sz:Nat) (A:Option Addr)
 | sl (own:Bool) (sz:Nat) (b off cap:Nat) (es:List TA)
 | dead (x:Value)
 | clo (f:Nat) (cs:List TA)
 | pt (b off:Nat) (cs:List TA)
 deriving Inhabited
namespace T
def cells:T→List T
 | .agg cs=>cs
 | t=>[t]
def isCell:T→Bool
 | .agg _=>false
 | _=>true
mutual
def ro:T→T
 | .v x=>.v x
 | .agg cs=>.agg (roL cs)
 | .sl _ s es=>.sl false s (roL es)
 | .dead=>.dead
 | .clo f cs=>.clo f cs
 | .pt cs=>.pt cs
def roL:List T→List T
 | []=>[]
 | t :: ts=>t.ro :: roL ts
end
mutual
def hasOwn:T→Bool
 | .v _=>false
 | .agg cs=>hasOwnL cs
 | .sl o _ es=>o || hasOwnL es
 | .dead=>false
 | .clo _ _=>false
 | .pt _=>false
def hasOwnL:List T→Bool
 | []=>false
 | t :: ts=>t.hasOwn || hasOwnL ts
end
theorem roL_map (l:List T):roL l=l.map ro:=by
 induction l with
 | nil=>rfl
 | cons t ts ih=>simp [roL,ih]
end T
namespace TA
mutual
def er:TA→T
 | .v x=>.v x
 | .agg cs=>.agg (erL cs)
 | .nl o s _=>.sl o s []
 | .sl o s _ _ _ es=>.sl o s (erL es)
 | .dead _=>.dead
 | .clo f cs=>.clo f (erL cs)
 | .pt _ _ cs=>.pt (erL cs)
def erL:List TA→List T
 | []=>[]
 | t :: ts=>t.er :: erL ts
end
theorem erL_map (l:List TA):erL l=l.map er:=by
 induction l with
 | nil=>rfl
 | cons t ts ih=>simp [erL,ih]
def cells:TA→List TA
 | .agg cs=>cs
 | t=>[t]
def isCell:TA→Bool
 | .agg _=>false
 | _=>true
def isLeaf:TA→Bool
 | .agg _=>false
 | .clo _ _=>false
 | _=>true
def leaf:TA→Value
 | .v x=>x
 | .agg _=>undef
 | .nl _ _ A=>.slice A 0 0
 | .sl _ _ b off cap es=>.slice (some ⟨b,off,none⟩) es.length cap
 | .dead x=>x
 | .clo _ _=>undef
 | .pt b off _=>.pointer (some ⟨b,off,none⟩)
def capOk:TA→Bool
 | .agg cs=>cs.all isLeaf
 | t=>t.isLeaf
def capV:TA→Value
 | .agg cs=>.agg (cs.map leaf).toArray
 | t=>t.leaf
def val1:TA→Value
 | .v x=>x
 | .agg _=>undef
 | .nl _ _ A=>.slice A 0 0
 | .sl _ _ b off cap es=>.slice (some ⟨b,off,none⟩) es.length cap
 | .dead x=>x
 | .clo f cs=>.func (.func f) #[] (cs.map capV).toArray
 | .pt b off _=>.pointer (some ⟨b,off,none⟩)
def vals (l:List TA):List Value:=l.map val1
def val:TA→Value
 | .agg cs=>.agg (vals cs).toArray
 | t=>t.val1
mutual
def ro:TA→TA
 | .v x=>.v x
 | .agg cs=>.agg (roL cs)
 | .nl _ s A=>.nl false s A
 | .sl _ s b off cap es=>.sl false s b off cap (roL es)
 | .dead x=>.dead x
 | .clo f cs=>.clo f cs
 | .pt b off cs=>.pt b off cs
def roL:List TA→List TA
 | []=>[]
 | t :: ts=>t.ro :: roL ts
end
theorem roL_map (l:List TA):roL l=l.map ro:=by
 induction l with
 | nil=>rfl
 | cons t ts ih=>simp [roL,ih]
mutual
def cnt (k:Nat):TA→Nat
 | .v _=>0
 | .agg cs=>cntL k cs
 | .nl _ _ _=>0
 | .sl o _ b _ _ es=>(if o=true∧b=k then 1 else 0) + cntL k es
 | .dead _=>0
 | .clo _ _=>0
 | .pt _ _ _=>0
def cntL (k:Nat):List TA→Nat
 | []=>0
 | t :: ts=>t.cnt k + cntL k ts
end
theorem cntL_append (k:Nat) (a b:List TA):cntL k (a ++ b)=cntL k a + cntL k b:=by
 induction a with
 | nil=>simp [cntL]
 | cons t ts ih=>simp [cntL,ih];omega
theorem cntL_cells (k:Nat) (t:TA):cntL k t.cells=t.cnt k:=by
 cases t<;>simp [cells,cntL,cnt]
def Mem (h:Array Obj) (own:Bool) (b off room:Nat) (vs:List Value):Prop :=
 ∃ cs ety fr,h[b]? = some (.cells cs ety fr)∧(own=true→off + room ≤ cs.size∧fr=(0,0))∧∀ j u,vs[j]? = some u→cs[off + j]? = some u
def OneCell:Value→Prop
 | .agg _=>False
 | .tuple _=>False
 | _=>True
mutual
def Holds (Z:Nat→Prop) (h:Array Obj):TA→Prop
 | .v x=>OneCell x
 | .agg cs=>HoldsL Z h cs∧∀ c ∈ cs,c.isCell=true
 | .nl o _ A=>o=true→A=none
 | .sl o s b off cap es=>Mem h o b off (cap * s) (vals (es.flatMap cells))∧es.length ≤ cap∧(o=false→Z b∧∀ k,cntL k es=0)∧HoldsL Z h es∧(∀ e ∈ es,e.cells.length=s)
 | .dead x=>OneCell x
 | .clo _ cs=>HoldsL Z h cs∧(∀ k,cntL k cs=0)∧cs.all capOk=true
 | .pt b off cs=>Z b∧Mem h false b off 0 (vals cs)∧HoldsL Z h cs∧(∀ k,cntL k cs=0)∧cs.all isCell=true
def HoldsL (Z:Nat→Prop) (h:Array Obj):List TA→Prop
 | []=>True
 | t :: ts=>t.Holds Z h∧HoldsL Z h ts
end
theorem holdsL_iff {Z:Nat→Prop} {h:Array Obj} {l:List TA}:HoldsL Z h l ↔ ∀ t ∈ l,t.Holds Z h:=by
 induction l with
 | nil=>simp [HoldsL]
 | cons t ts ih=>simp [HoldsL,ih]
theorem Mem.frame {h h':Array Obj} {o:Bool} {b off room:Nat} {vs:List Value} (hm:Mem h o b off room vs) (he:h'[b]? = h[b]?):Mem h' o b off room vs:=by
 obtain ⟨cs,ety,fr,h1,h2,h3⟩:=hm;exact ⟨cs,ety,fr,he.trans h1,h2,h3⟩
theorem Mem.lt {h:Array Obj} {o:Bool} {b off room:Nat} {vs:List Value} (hm:Mem h o b off room vs):b < h.size:=by
 obtain ⟨cs,ety,fr,h1,_⟩:=hm;exact (Array.getElem?_eq_some_iff.1 h1).1
mutual
theorem Holds.frame {Z Z':Nat→Prop} {h h':Array Obj}:∀ (t:TA),t.Holds Z h→(∀ b,Z b→Z' b)→(∀ b,(0 < t.cnt b ∨ Z b)→h'[b]? = h[b]?)→t.Holds Z' h'
 | .v x,H,hz,hf=>by simpa [Holds] using H
 | .agg cs,H,hz,hf=>by
  simp only [Holds] at H ⊢;exact ⟨HoldsL.frame cs H.1 hz (by simpa [cnt] using hf),H.2⟩
 | .nl _ _ _,H,hz,hf=>by simpa [Holds] using H
 | .dead x,H,hz,hf=>by simpa [Holds] using H
 | .clo _ cs,H,hz,hf=>by
  simp only [Holds] at H ⊢;exact ⟨HoldsL.frame cs H.1 hz (fun k hk=>hf k (by
   rcases hk with hk | hk
   ·rw [H.2.1 k] at hk;omega
   exact .inr hk)),H.2⟩
 | .pt b off cs,H,hz,hf=>by
  simp only [Holds] at H ⊢;exact ⟨hz b H.1,H.2.1.frame (hf b (.inr H.1)),HoldsL.frame cs H.2.2.1 hz (fun k hk=>hf k (by
   rcases hk with hk | hk
   ·rw [H.2.2.2.1 k] at hk;omega
   exact .inr hk)),H.2.2.2⟩
 | .sl o s b off cap es,H,hz,hf=>by
  simp only [Holds] at H ⊢;obtain ⟨h1,h2,h3,h4,h5⟩:=H;refine ⟨h1.frame (hf b ?_),h2,fun ho=>⟨hz _ (h3 ho).1,(h3 ho).2⟩,HoldsL.frame es h4 hz (fun k hk=>hf k ?_),h5⟩
  ·cases o with
   | true=>left;simp [cnt];omega
   | false=>right;exact (h3 rfl).1
  rcases hk with hk | hk
  ·left;simp only [cnt];omega
  right;exact hk
theorem HoldsL.frame {Z Z':Nat→Prop} {h h':Array Obj}:∀ (l:List TA),HoldsL Z h l→(∀ b,Z b→Z' b)→(∀ b,(0 < cntL b l ∨ Z b)→h'[b]? = h[b]?)→HoldsL Z' h' l
 | [],H,hz,hf=>by simp [HoldsL]
 | t :: ts,H,hz,hf=>by
  simp only [HoldsL] at H ⊢;refine ⟨Holds.frame t H.1 hz (fun k hk=>hf k ?_),HoldsL.frame ts H.2 hz (fun k hk=>hf k ?_)⟩
  ·rcases hk with hk | hk
   ·left;simp only [cntL];omega
   right;exact hk
  rcases hk with hk | hk
  ·left;simp only [cntL];omega
  right;exact hk
end
mutual
theorem Holds.lt {Z:Nat→Prop} {h:Array Obj} {k:Nat}:∀ (t:TA),t.Holds Z h→0 < t.cnt k→k < h.size
 | .v x,H,hk=>by simp [cnt] at hk
 | .agg cs,H,hk=>by simp only [Holds,cnt] at H hk;exact HoldsL.lt cs H.1 hk
 | .nl _ _ _,H,hk=>by simp [cnt] at hk
 | .dead x,H,hk=>by simp [cnt] at hk
 | .clo _ _,H,hk=>by simp [cnt] at hk
 | .pt _ _ _,H,hk=>by simp [cnt] at hk
 | .sl o s b off cap es,H,hk=>by
  simp only [Holds] at H;simp only [cnt] at hk;by_cases hb:o=true∧b=k
  ·rw [← hb.2];exact H.1.lt
  rw [if_neg hb] at hk;exact HoldsL.lt es H.2.2.2.1 (by omega)
theorem HoldsL.lt {Z:Nat→Prop} {h:Array Obj} {k:Nat}:∀ (l:List TA),HoldsL Z h l→0 < cntL k l→k < h.size
 | [],H,hk=>by simp [cntL] at hk
 | t :: ts,H,hk=>by
  simp only [HoldsL,cntL] at H hk;by_cases h0:0 < t.cnt k
  ·exact Holds.lt t H.1 h0
  exact HoldsL.lt ts H.2 (by omega)
end
theorem isCell_ro (t:TA):t.ro.isCell=t.isCell:=by cases t<;>simp [ro,isCell]
theorem val1_ro (t:TA):t.ro.val1=t.val1:=by cases t<;>simp [ro,val1,roL_map]
theorem aLb (t:TA):t.ro.cells=t.cells.map ro:=by cases t<;>simp [ro,cells,roL_map]
theorem vals_ro (l:List TA):vals (l.map ro)=vals l:=by
 simp only [vals,List.map_map];exact List.map_congr_left fun t _=>val1_ro t
theorem val_ro (t:TA):t.ro.val=t.val:=by
 cases t<;>simp [ro,val,val1,roL_map,vals_ro]
theorem aRg (l:List TA):(l.map ro).flatMap cells=(l.flatMap cells).map ro:=by
 induction l with
 | nil=>rfl
 | cons t ts ih=>simp [aLb,ih]
mutual
theorem cnt_ro (k:Nat):∀ t:TA,t.ro.cnt k=0
 | .v _=>by simp [ro,cnt]
 | .agg cs=>by simp [ro,cnt,cntL_ro]
 | .nl _ _ _=>by simp [ro,cnt]
 | .sl ..=>by simp [ro,cnt,cntL_ro]
 | .dead _=>by simp [ro,cnt]
 | .clo _ _=>by simp [ro,cnt]
 | .pt _ _ _=>by simp [ro,cnt]
theorem cntL_ro (k:Nat):∀ l:List TA,cntL k (roL l)=0
 | []=>by simp [roL,cntL]
 | t :: ts=>by simp [roL,cntL,cnt_ro,cntL_ro]
end
mutual
theorem er_ro:∀ t:TA,t.ro.er=t.er.ro
 | .v _=>by simp [ro,er,T.ro]
 | .agg cs=>by simp [ro,er,T.ro,erL_ro]
 | .nl _ _ _=>by simp [ro,er,T.ro,T.roL]
 | .sl ..=>by simp [ro,er,T.ro,erL_ro]
 | .dead _=>by simp [ro,er,T.ro]
 | .clo _ _=>by simp [ro,er,T.ro]
 | .pt _ _ _=>by simp [ro,er,T.ro]
theorem erL_ro:∀ l:List TA,erL (roL l)=T.roL (erL l)
 | []=>by simp [roL,erL,T.roL]
 | t :: ts=>by simp [roL,erL,T.roL,er_ro,erL_ro]
end
mutual
theorem Holds.ro {Z Z':Nat→Prop} {h:Array Obj}:∀ (t:TA),t.Holds Z h→(∀ b,Z b→Z' b)→(∀ b,0 < t.cnt b→Z' b)→t.ro.Holds Z' h
 | .v x,H,hz,hf=>by simpa [Holds,TA.ro] using H
 | .agg cs,H,hz,hf=>by
  simp only [Holds,TA.ro] at H ⊢;refine ⟨HoldsL.ro cs H.1 hz (by simpa [cnt] using hf),fun c hc=>?_⟩
  rw [roL_map] at hc;obtain ⟨d,hd,rfl⟩:=List.mem_map.1 hc;rw [isCell_ro];exact H.2 d hd
 | .nl _ _ _,H,hz,hf=>by simp [Holds,TA.ro]
 | .dead x,H,hz,hf=>by simpa [Holds,TA.ro] using H
 | .clo _ cs,H,hz,hf=>by
  simp only [Holds,TA.ro] at H ⊢;exact ⟨HoldsL.frame cs H.1 hz (fun _ _=>rfl),H.2⟩
 | .pt b off cs,H,hz,hf=>by
  simp only [Holds,TA.ro] at H ⊢;exact ⟨hz b H.1,H.2.1,HoldsL.frame cs H.2.2.1 hz (fun _ _=>rfl),H.2.2.2⟩
 | .sl o s b off cap es,H,hz,hf=>by
  simp only [Holds,TA.ro] at H ⊢;obtain ⟨h1,h2,h3,h4,h5⟩:=H;refine ⟨?_,by rw [roL_map,List.length_map];exact h2,fun _=>⟨?_,fun k=>cntL_ro k es⟩,HoldsL.ro es h4 hz (fun k hk=>hf k (by simp only [cnt];omega)),fun e he=>?_⟩
  ·rw [roL_map,aRg,vals_ro];obtain ⟨cs,ety,fr,g1,g2,g3⟩:=h1;exact ⟨cs,ety,fr,g1,(fun hh=>nomatch hh),g3⟩
  ·cases o with
   | true=>exact hf b (by simp [cnt];omega)
   | false=>exact hz _ (h3 rfl).1
  rw [roL_map] at he;obtain ⟨d,hd,rfl⟩:=List.mem_map.1 he;rw [aLb,List.length_map];exact h5 d hd
theorem HoldsL.ro {Z Z':Nat→Prop} {h:Array Obj}:∀ (l:List TA),HoldsL Z h l→(∀ b,Z b→Z' b)→(∀ b,0 < cntL b l→Z' b)→HoldsL Z' h (roL l)
 | [],H,hz,hf=>by simp [HoldsL,TA.roL]
 | t :: ts,H,hz,hf=>by
  simp only [HoldsL,TA.roL] at H ⊢;exact ⟨Holds.ro t H.1 hz (fun k hk=>hf k (by simp only [cntL];omega)),HoldsL.ro ts H.2 hz (fun k hk=>hf k (by simp only [cntL];omega))⟩
end
mutual
theorem cnt_of_noOwn (k:Nat):∀ t:TA,t.er.hasOwn=false→t.cnt k=0
 | .v _,_=>by simp [cnt]
 | .agg cs,h=>by simp only [er,T.hasOwn] at h;simp only [cnt];exact cntL_of_noOwn k cs h
 | .nl _ _ _,_=>by simp [cnt]
 | .sl o s b off cap es,h=>by
  simp only [er,T.hasOwn,Bool.or_eq_false_iff] at h;simp [cnt,h.1,cntL_of_noOwn k es h.2]
 | .dead _,_=>by simp [cnt]
 | .clo _ _,_=>by simp [cnt]
 | .pt _ _ _,_=>by simp [cnt]
theorem cntL_of_noOwn (k:Nat):∀ l:List TA,T.hasOwnL (erL l)=false→cntL k l=0
 | [],_=>by simp [cntL]
 | t :: ts,h=>by
  simp only [erL,T.hasOwnL,Bool.or_eq_false_iff] at h;simp [cntL,cnt_of_noOwn k t h.1,cntL_of_noOwn k ts h.2]
end
theorem er_cells (t:TA):t.er.cells=erL t.cells:=by cases t<;>simp [er,T.cells,cells,erL]
end TA
end Go.OM
set_option linter.unusedSimpArgs false
namespace Go.OM
def rg:Nat→Nat→List Nat
 | _,0=>[]
 | a,n + 1=>a :: rg (a + 1) n
@[simp] theorem rg_zero (a:Nat):rg a 0=[]:=rfl
@[simp] theorem rg_succ (a n:Nat):rg a (n + 1)=a :: rg (a + 1) n:=rfl
end Go.OM
namespace Go.OM
def look {α:Type}:List (Nat × α)→Nat→Option α
 | [],_=>none
 | (m,x) :: l,n=>if m=n then some x else look l n
def put {α:Type}:List (Nat × α)→Nat→α→List (Nat × α)
 | [],n,x=>[(n,x)]
 | (m,y) :: l,n,x=>if m=n then (n,x) :: l else (m,y) :: put l n x
section
variable {α β:Type}
theorem iC (l:List (Nat × α)) (n m:Nat) (x:α):look (put l n x) m=if m=n then some x else look l m:=by
 induction l with
 | nil =>
  by_cases h:m=n
  ·simp [put,look,h]
  simp [put,look,h,Ne.symm h]
 | cons e l ih =>
  obtain ⟨k,y⟩:=e;simp only [put];by_cases h:k=n
  ·subst h;by_cases h2:m=k
   ·simp [look,h2]
   simp [look,h2,Ne.symm h2]
  rw [if_neg h];simp only [look,ih];by_cases h2:k=m
  ·subst h2;simp [h]
  simp [h2]
theorem bR (l:List (Nat × α)) (n:Nat) (x:α):look (put l n x) n=some x:=by rw [iC];simp
theorem cM (l:List (Nat × α)) {n m:Nat} (x:α) (h:m ≠ n):look (put l n x) m=look l m:=by rw [iC,if_neg h]
theorem bU (f:α→β) (l:List (Nat × α)) (n:Nat):look (l.map fun e=>(e.1,f e.2)) n=(look l n).map f:=by
 induction l with
 | nil=>rfl
 | cons e l ih=>obtain ⟨k,y⟩:=e;simp only [List.map_cons,look];split<;>simp [ih]
theorem pH (f:α→β) (l:List (Nat × α)) (n:Nat) (x:α):(put l n x).map (fun e=>(e.1,f e.2))=put (l.map fun e=>(e.1,f e.2)) n (f x):=by
 induction l with
 | nil=>rfl
 | cons e l ih=>obtain ⟨k,y⟩:=e;simp only [put,List.map_cons];split<;>simp [ih]
def tot (f:α→Nat):List (Nat × α)→Nat
 | []=>0
 | e :: l=>f e.2 + tot f l
theorem eF (f:α→Nat) {l:List (Nat × α)} {n:Nat} {x y:α} (h:look l n=some y):tot f (put l n x) + f y=tot f l + f x:=by
 induction l with
 | nil=>simp [look] at h
 | cons e l ih =>
  obtain ⟨k,z⟩:=e;simp only [look] at h;simp only [put];split
  ·rename_i hk;rw [if_pos hk] at h;injection h with h
   subst h;simp only [tot];omega
  rename_i hk;rw [if_neg hk] at h;have:=ih h;simp only [tot];omega
theorem aHc (f:α→Nat) {l:List (Nat × α)} {n:Nat} {x:α} (h:look l n=none):tot f (put l n x)=tot f l + f x:=by
 induction l with
 | nil=>simp [put,tot]
 | cons e l ih =>
  obtain ⟨k,z⟩:=e;simp only [look] at h;simp only [put];split
  ·rename_i hk;rw [if_pos hk] at h;cases h
  rename_i hk;rw [if_neg hk] at h;have:=ih h;simp only [tot];omega
theorem bT (f:α→Nat) {l:List (Nat × α)} {n:Nat} {y:α} (h:look l n=some y):f y ≤ tot f l:=by
 have:=eF f (x:=y) h;induction l with
 | nil=>simp [look] at h
 | cons e l ih =>
  obtain ⟨k,z⟩:=e;simp only [look] at h;simp only [tot];split at h
  ·injection h with h;subst h;omega
  have:=ih h (eF f h);omega
theorem uQ (f:β→Nat) (g:α→β) (l:List (Nat × α)):tot f (l.map fun e=>(e.1,g e.2))=tot (fun x=>f (g x)) l:=by
 induction l with
 | nil=>rfl
 | cons e l ih=>simp [tot,ih]
end
section
variable {α β:Type}
theorem sU {f:α→List β} {s:Nat} {es:List α} (hs:∀ e ∈ es,(f e).length=s) (i j:Nat) (hj:j < s):(es.flatMap f)[i * s + j]? = (es[i]?).bind fun e=>(f e)[j]?:=by
 induction es generalizing i with
 | nil=>simp
 | cons e es ih =>
  have he:=hs e (by simp)
  cases i with
  | zero =>
   simp only [List.flatMap_cons,Nat.zero_mul,Nat.zero_add,List.getElem?_cons_zero,Option.bind_some];rw [List.getElem?_append_left (by omega)]
  | succ i =>
   simp only [List.flatMap_cons,List.getElem?_cons_succ];rw [List.getElem?_append_right (by rw [he,Nat.succ_mul];omega),he,show (i + 1) * s + j - s=i * s + j by rw [Nat.succ_mul];omega]
   exact ih (fun e h=>hs e (by simp [h])) i
theorem iL {f:α→List β} {s:Nat} {es:List α} (hs:∀ e ∈ es,(f e).length=s):(es.flatMap f).length=es.length * s:=by
 induction es with
 | nil=>simp
 | cons e es ih =>
  simp only [List.flatMap_cons,List.length_append,List.length_cons,hs e (by simp),ih (fun e h=>hs e (by simp [h])),Nat.succ_mul]
  omega
end
def wrL:Array Value→Nat→List Value→Array Value
 | c,_,[]=>c
 | c,o,v :: vs=>wrL (c.setIfInBounds o v) (o + 1) vs
theorem uP (c:Array Value) (o:Nat) (vs:List Value):(wrL c o vs).size=c.size:=by
 induction vs generalizing c o with
 | nil=>rfl
 | cons v vs ih=>simp [wrL,ih]
theorem vQ (c:Array Value) (o:Nat) (vs:List Value) (j:Nat) (h:o + vs.length ≤ c.size):(wrL c o vs)[j]? = if o ≤ j∧j < o + vs.length then vs[j - o]? else c[j]?:=by
 induction vs generalizing c o with
 | nil=>simp [wrL];intros;omega
 | cons v vs ih =>
  simp only [wrL];simp only [List.length_cons] at h;rw [ih _ _ (by simp;omega)]
  by_cases h1:o + 1 ≤ j∧j < o + 1 + vs.length
  ·rw [if_pos h1,if_pos (by simp only [List.length_cons];omega)]
   rw [show j - o=(j - (o + 1)) + 1 by omega,List.getElem?_cons_succ]
  rw [if_neg h1];by_cases h2:j=o
  ·subst h2;rw [if_pos (by simp only [List.length_cons];omega),Nat.sub_self,Array.getElem?_setIfInBounds_self_of_lt (by omega)]
   rfl
  rw [if_neg (by simp only [List.length_cons];omega)]
  rw [Array.getElem?_setIfInBounds_ne (by omega)]
def wr (h:Array Obj) (b o:Nat) (vs:List Value):Array Obj:=h.modify b fun
 | .cells c e fr=>.cells (wrL c o vs) e fr
 | x=>x
theorem uO (h:Array Obj) (b o:Nat) (vs:List Value) {k:Nat} (hk:k ≠ b):(wr h b o vs)[k]? = h[k]?:=by
 simp only [wr,Array.getElem?_modify];rw [if_neg (Ne.symm hk)]
theorem sY {h:Array Obj} {b:Nat} {c:Array Value} {e:TypeId} {fr:Nat × Nat} (o:Nat) (vs:List Value) (hb:h[b]? = some (.cells c e fr)):(wr h b o vs)[b]? = some (.cells (wrL c o vs) e fr):=by
 simp only [wr,Array.getElem?_modify,if_true,hb,Option.map_some]
theorem aFp (h:Array Obj) (b o:Nat) (vs:List Value):(wr h b o vs).size=h.size:=by simp [wr]
inductive Root where
 | slot (n:Nat)
 | box (n:Nat)
 deriving DecidableEq
abbrev Path:=List (Nat × Nat)
namespace T
def withCells:T→List T→T
 | .agg _,l=>.agg l
 | _,l=>l.headD .dead
def getP:List T→Nat→Path→Nat→Option (List T)
 | cs,o,[],k=>if o + k ≤ cs.length then some ((cs.drop o).take k) else none
 | cs,o,(i,o') :: p,k=>match cs[o]? with
  | some (.sl true _ es)=>match es[i]? with
   | some e=>getP e.cells o' p k
   | none=>none
  | _=>none
def setP:List T→Nat→Path→List T→List T
 | cs,o,[],new=>cs.take o ++ new ++ cs.drop (o + new.length)
 | cs,o,(i,o') :: p,new=>match cs[o]? with
  | some (.sl true s es)=>match es[i]? with
   | some e=>cs.set o (.sl true s (es.set i (e.withCells (setP e.cells o' p new))))
   | none=>cs
  | _=>cs
end T
def aBs:Option (Nat × Nat)→Nat→Nat
 | some b,q=>if b.1=q then 1 else 0
 | none,_=>0
theorem sD (b o:Nat):aBs (some (b,o)) b=1:=by simp [aBs]
theorem aOn {b q:Nat} (o:Nat) (h:b ≠ q):aBs (some (b,o)) q=0:=by simp [aBs,h]
namespace TA
def withCells:TA→List TA→TA
 | .agg _,l=>.agg l
 | _,l=>l.headD (.dead undef)
def getP:List TA→Nat→Path→Nat→Option (List TA)
 | cs,o,[],k=>if o + k ≤ cs.length then some ((cs.drop o).take k) else none
 | cs,o,(i,o') :: p,k=>match cs[o]? with
  | some (.sl true _ _ _ _ es)=>match es[i]? with
   | some e=>getP e.cells o' p k
   | none=>none
  | _=>none
def setP:List TA→Nat→Path→List TA→List TA
 | cs,o,[],new=>cs.take o ++ new ++ cs.drop (o + new.length)
 | cs,o,(i,o') :: p,new=>match cs[o]? with
  | some (.sl true s b off cap es)=>match es[i]? with
   | some e=>cs.set o (.sl true s b off cap (es.set i (e.withCells (setP e.cells o' p new))))
   | none=>cs
  | _=>cs
def addrP:Option (Nat × Nat)→List TA→Nat→Path→Option (Nat × Nat)
 | base,_,o,[]=>base.map fun b=>(b.1,b.2 + o)
 | _,cs,o,(i,o') :: p=>match cs[o]? with
  | some (.sl true s b off _ es)=>match es[i]? with
   | some e=>addrP (some (b,off + i * s)) e.cells o' p
   | none=>none
  | _=>none
theorem cells_withCells {e:TA} {l:List TA} (h:l.length=e.cells.length) (hc:∀ c ∈ l,c.isCell=true):(e.withCells l).cells=l:=by
 cases e with
 | agg cs=>rfl
 | _ =>
  simp only [cells,List.length_cons,List.length_nil] at h;obtain ⟨x,rfl⟩:=List.length_eq_one_iff.1 h;have:=hc x (by simp)
  cases x<;>simp_all [withCells,cells,isCell]
theorem isCell_mem_cells {Z:Nat→Prop} {h:Array Obj} {e:TA} (he:e.Holds Z h):∀ c ∈ e.cells,c.isCell=true:=by
 cases e with
 | agg cs=>simp only [Holds] at he;exact he.2
 | _=>simp [cells,isCell]
theorem holds_cells {Z:Nat→Prop} {h:Array Obj} {e:TA} (he:e.Holds Z h):HoldsL Z h e.cells:=by
 cases e with
 | agg cs=>simp only [Holds] at he;exact he.1
 | _=>simpa [cells,HoldsL] using he
theorem holds_withCells {Z:Nat→Prop} {h:Array Obj} {e:TA} {l:List TA} (hl:l.length=e.cells.length) (hc:∀ c ∈ l,c.isCell=true) (hh:HoldsL Z h l):(e.withCells l).Holds Z h:=by
 cases e with
 | agg cs=>simp only [withCells,Holds];exact ⟨hh,hc⟩
 | _ =>
  simp only [cells,List.length_cons,List.length_nil] at hl;obtain ⟨x,rfl⟩:=List.length_eq_one_iff.1 hl;simpa [withCells,HoldsL] using hh
theorem cnt_withCells (k:Nat) {e:TA} {l:List TA} (hl:l.length=e.cells.length):(e.withCells l).cnt k=cntL k l:=by
 cases e with
 | agg cs=>simp [withCells,cnt]
 | _ =>
  simp only [cells,List.length_cons,List.length_nil] at hl;obtain ⟨x,rfl⟩:=List.length_eq_one_iff.1 hl;simp [withCells,cntL]
theorem oQ (k:Nat) {l:List TA} {i:Nat} {x y:TA} (h:l[i]? = some y):cntL k (l.set i x) + y.cnt k=cntL k l + x.cnt k:=by
 induction l generalizing i with
 | nil=>simp at h
 | cons t ts ih =>
  cases i with
  | zero=>simp only [List.getElem?_cons_zero,Option.some.injEq] at h;subst h;simp only [List.set_cons_zero,cntL];omega
  | succ i=>simp only [List.getElem?_cons_succ] at h;have:=ih h;simp only [List.set_cons_succ,cntL];omega
theorem cnt_le_cntL (k:Nat) {l:List TA} {i:Nat} {y:TA} (h:l[i]? = some y):y.cnt k ≤ cntL k l:=by
 have:=oQ k (x:=.dead undef) h;simp [cnt] at this;omega
theorem holdsL_get {Z:Nat→Prop} {h:Array Obj} {l:List TA} (hl:HoldsL Z h l) {i:Nat} {y:TA} (hy:l[i]? = some y):y.Holds Z h:=holdsL_iff.1 hl y (List.mem_of_getElem? hy)
theorem addr_range:∀ (p:Path) (base:Option (Nat × Nat)) (cs:List TA) (o k:Nat) (old:List TA) (b off:Nat),getP cs o p k=some old→addrP base cs o p=some (b,off) →
  (∃ o0,base=some (b,o0)∧o0 ≤ off∧off + k ≤ o0 + cs.length∧p=[]) ∨ (0 < cntL b cs)
 | [],base,cs,o,k,old,b,off,hg,ha=>by
  simp only [getP] at hg;simp only [addrP] at ha;split at hg
  ·obtain ⟨x,hx,hx2⟩:=Option.map_eq_some_iff.1 ha;obtain ⟨b0,o0⟩:=x;simp only [Prod.mk.injEq] at hx2;obtain ⟨rfl,rfl⟩:=hx2;exact .inl ⟨o0,hx,by omega,by omega,rfl⟩
  cases hg
 | (i,o') :: p,base,cs,o,k,old,b,off,hg,ha=>by
  right;simp only [getP] at hg;simp only [addrP] at ha;split at hg
  ·rename_i s b1 off1 cap es hcs;split at hg
   ·rename_i e he;rw [hcs] at ha;simp only [he] at ha;have hc:=cnt_le_cntL b hcs;simp only [cnt] at hc;rcases addr_range p _ _ _ _ _ _ _ hg ha with ⟨o0,hb,_⟩ | h
    ·injection hb with hb
     injection hb with hb _
     subst hb;simp at hc;omega
    have:=cnt_le_cntL b he;rw [cntL_cells] at h;omega
   cases hg
  cases hg
theorem getP_length:∀ (p:Path) (cs:List TA) (o k:Nat) (old:List TA),getP cs o p k=some old→old.length=k
 | [],cs,o,k,old,hg=>by
  simp only [getP] at hg;split at hg
  ·injection hg with hg;subst hg;simp;omega
  cases hg
 | (i,o') :: p,cs,o,k,old,hg=>by
  simp only [getP] at hg;split at hg
  ·split at hg
   ·exact getP_length p _ _ _ _ hg
   cases hg
  cases hg
theorem vU {l:List TA} {o k:Nat} (h:o + k ≤ l.length):l=l.take o ++ (l.drop o).take k ++ l.drop (o + k):=by
 rw [List.append_assoc,← List.drop_drop,List.take_append_drop,List.take_append_drop]
theorem vals_append (a b:List TA):vals (a ++ b)=vals a ++ vals b:=by simp [vals]
theorem vals_length (a:List TA):(vals a).length=a.length:=by simp [vals]
theorem vals_get (a:List TA) (j:Nat):(vals a)[j]? = (a[j]?).map val1:=by simp [vals]
theorem aFf {α:Type} {l new:List α} {o k:Nat} (h:o + k ≤ l.length) (hk:new.length=k) (j:Nat) :
  (l.take o ++ new ++ l.drop (o + k))[j]? = if o ≤ j∧j < o + k then new[j - o]? else l[j]?:=by
 have h1:(l.take o).length=o:=by simp;omega
 rcases Nat.lt_or_ge j o with hj | hj
 ·rw [if_neg (by omega),List.append_assoc,List.getElem?_append_left (by omega),List.getElem?_take,if_pos hj]
 rcases Nat.lt_or_ge j (o + k) with hj2 | hj2
 ·rw [if_pos ⟨hj,hj2⟩,List.append_assoc,List.getElem?_append_right (by omega),List.getElem?_append_left (by omega),h1]
 rw [if_neg (by omega),List.getElem?_append_right (by simp;omega),List.getElem?_drop]
 congr 1
 simp;omega
theorem store_place {Z:Nat→Prop} {h:Array Obj}:∀ (p:Path) (base:Option (Nat × Nat)) (cs:List TA) (o k:Nat) (old new:List TA) (b off:Nat),
  getP cs o p k=some old→addrP base cs o p=some (b,off)→new.length=k →
  HoldsL Z h cs→(∀ c ∈ cs,c.isCell=true)→(∀ b0 o0,base=some (b0,o0)→Mem h true b0 o0 cs.length (vals cs)) →
  (∀ q,cntL q cs + aBs base q ≤ 1)→¬ Z b →
  HoldsL Z (wr h b off (vals new)) new→(∀ c ∈ new,c.isCell=true) →
  HoldsL Z (wr h b off (vals new)) (setP cs o p new)∧(∀ c ∈ setP cs o p new,c.isCell=true)∧(setP cs o p new).length=cs.length ∧
  (∀ b0 o0,base=some (b0,o0)→Mem (wr h b off (vals new)) true b0 o0 cs.length (vals (setP cs o p new))) ∧
  (∀ q,cntL q (setP cs o p new) + cntL q old=cntL q cs + cntL q new)
 | [],base,cs,o,k,old,new,b,off,hg,ha,hk,hH,hC,hM,hU,hZ,hN,hNC=>by
  simp only [getP] at hg;simp only [addrP] at ha;split at hg
  case isFalse=>cases hg
  rename_i hle;injection hg with hg
  obtain ⟨x,hx,hx2⟩:=Option.map_eq_some_iff.1 ha;obtain ⟨b0,o0⟩:=x;simp only [Prod.mk.injEq] at hx2;obtain ⟨rfl,rfl⟩:=hx2;have hsplit:=vU hle;have hmem:∀ c ∈ cs.take o ++ new ++ cs.drop (o + new.length),c ∈ cs ∨ c ∈ new:=by
   intro c hc;simp only [List.mem_append] at hc;rcases hc with (hc | hc) | hc
   ·exact .inl (List.mem_of_mem_take hc)
   ·exact .inr hc
   exact .inl (List.mem_of_mem_drop hc)
  have hold:HoldsL Z (wr h b0 (o0 + o) (vals new)) cs:=HoldsL.frame cs hH (fun _ hz=>hz) (fun q hq=>uO _ _ _ _ (fun e=>by
   subst e;have:=hU q;rw [hx,sD] at this;rcases hq with hq | hq
   ·omega
   exact hZ hq))
  refine ⟨?_,?_,?_,?_,?_⟩
  ·simp only [setP];rw [holdsL_iff] at hold hN ⊢;intro c hc;rcases hmem c hc with hc | hc
   ·exact hold c hc
   exact hN c hc
  ·intro c hc;rcases hmem c hc with hc | hc
   ·exact hC c hc
   exact hNC c hc
  ·simp only [setP,List.length_append,List.length_take,List.length_drop];omega
  ·intro b1 o1 hb1;rw [hx] at hb1;injection hb1 with hb1
   injection hb1 with e1 e2
   subst e1;subst e2;obtain ⟨c,ety,fr,g1,g2,g3⟩:=hM _ _ hx;have hroom:=(g2 rfl).1;refine ⟨_,ety,fr,sY _ _ g1,fun _=>⟨by rw [uP];exact hroom,(g2 rfl).2⟩,fun j u hj=>?_⟩
   rw [vQ _ _ _ _ (by rw [vals_length];omega),vals_length,hk]
   simp only [setP,hk,vals_get] at hj;rw [aFf hle hk] at hj;by_cases hjo:o ≤ j∧j < o + k
   ·rw [if_pos hjo] at hj;rw [if_pos (by omega),show o0 + j - (o0 + o)=j - o by omega,vals_get]
    exact hj
   rw [if_neg hjo] at hj;rw [if_neg (by omega)]
   exact g3 j u (by rw [vals_get];exact hj)
  intro q;subst hg;simp only [setP,hk]
  conv=>rhs;rw [hsplit]
  simp only [cntL_append];omega
 | (i,o') :: p,base,cs,o,k,old,new,b,off,hg,ha,hk,hH,hC,hM,hU,hZ,hN,hNC=>by
  simp only [getP] at hg;simp only [addrP] at ha;split at hg
  case h_2=>cases hg
  rename_i s b1 off1 cap es hcs;split at hg
  case h_2=>cases hg
  rename_i e he;rw [hcs] at ha;simp only [he] at ha;have hsl:=holdsL_get hH hcs;simp only [Holds] at hsl;obtain ⟨hm,hle,_,hHes,hsz⟩:=hsl;have heH:=holdsL_get hHes he;have hcnt:=fun q=>cnt_le_cntL q hcs;have hcnte:=fun q=>cnt_le_cntL q he;have hU1:∀ q,cntL q e.cells + aBs (some (b1,off1 + i * s)) q ≤ 1:=by
   intro q;have h1:=hcnt q;have h2:=hcnte q;have h3:=hU q;simp only [cnt] at h1;rw [cntL_cells];by_cases hq:b1=q
   ·subst hq;rw [sD];simp at h1;omega
   rw [aOn _ hq];omega
  have hlt:i < es.length:=(List.getElem?_eq_some_iff.1 he).1;have hsz1:e.cells.length=s:=hsz e (List.mem_of_getElem? he);have hM1:∀ b0 o0,some (b1,off1 + i * s)=some (b0,o0)→Mem h true b0 o0 e.cells.length (vals e.cells):=by
   intro b0 o0 h0;injection h0 with h0
   injection h0 with e1 e2
   subst e1;subst e2;obtain ⟨c,ety,fr,g1,g2,g3⟩:=hm;refine ⟨c,ety,fr,g1,fun _=>⟨?_,(g2 rfl).2⟩,fun j u hj=>?_⟩
   ·have:=(g2 rfl).1;have h5:(i + 1) * s ≤ cap * s:=Nat.mul_le_mul_right _ (by omega)
    rw [Nat.succ_mul] at h5;omega
   have hj2:j < s:=by
    have:=(List.getElem?_eq_some_iff.1 hj).1;rw [vals_length] at this;omega
   rw [Nat.add_assoc];refine g3 _ u ?_;rw [vals_get,sU hsz i j hj2,he];rw [vals_get] at hj;exact hj
  obtain ⟨r1,r2,r3,r4,r5⟩:=store_place p _ _ _ _ _ _ _ _ hg ha hk (holds_cells heH) (isCell_mem_cells heH) hM1 hU1 hZ hN hNC;have hrange:=addr_range p _ _ _ _ _ _ _ hg ha
  -- the block that is written belongs to this cell
  have hbc:0 < (TA.sl true s b1 off1 cap es).cnt b:=by
   simp only [cnt];rcases hrange with ⟨o0,h0,_⟩ | h0
   ·injection h0 with h0
    injection h0 with h0 _
    subst h0;simp;omega
   rw [cntL_cells] at h0;have:=hcnte b;omega
  have hset:(setP cs o ((i,o') :: p) new)=cs.set o (.sl true s b1 off1 cap (es.set i (e.withCells (setP e.cells o' p new)))):=by
   simp only [setP,hcs,he]
  have hcells:(e.withCells (setP e.cells o' p new)).cells=setP e.cells o' p new:=cells_withCells r3 r2;have hsz':∀ x ∈ es.set i (e.withCells (setP e.cells o' p new)),x.cells.length=s:=by
   intro x hx;rcases List.mem_or_eq_of_mem_set hx with hx | hx
   ·exact hsz x hx
   rw [hx,hcells,r3,hsz1]
  have hother:∀ (j:Nat) x,es[j]? = some x→j ≠ i→x.Holds Z (wr h b off (vals new)):=by
   intro j x hj hji;refine Holds.frame x (holdsL_get hHes hj) (fun _ hz=>hz) (fun q hq=>uO _ _ _ _ (fun e2=>?_));subst e2;rcases hq with hq | hq
   ·have h1:=hU q;have h2:=hcnt q;simp only [cnt] at h2;have h3:=oQ q (x:=.dead undef) he;have h4:=cnt_le_cntL q (l:=es.set i (.dead undef)) (i:=j) (y:=x) (by rw [List.getElem?_set_ne (Ne.symm hji)];exact hj)
    simp only [cnt] at h3;rcases hrange with ⟨o0,h0,_⟩ | h0
    ·injection h0 with h0
     injection h0 with h0 _
     subst h0;simp at h2;omega
    rw [cntL_cells] at h0;omega
   exact hZ hq
  have hnewsl:(TA.sl true s b1 off1 cap (es.set i (e.withCells (setP e.cells o' p new)))).Holds Z (wr h b off (vals new)):=by
   simp only [Holds];refine ⟨?_,by rw [List.length_set];exact hle,(fun hh=>nomatch hh),?_,hsz'⟩
   ·obtain ⟨c,ety,fr,g1,g2,g3⟩:=hm;obtain ⟨c',ety',fr',g1',g2',g3'⟩:=r4 _ _ rfl
    -- other cells of this row
    have hsame:∀ j,(j < i * s ∨ i * s + s ≤ j)→c'[off1 + j]? = c[off1 + j]?:=by
     intro j hj;by_cases hb:b1=b
     ·subst hb;rw [sY _ _ g1] at g1';injection g1' with g1'
      injection g1' with g1' _ _
      subst g1';have hz2:off1 + i * s ≤ off∧off + k ≤ off1 + i * s + s:=by
       rcases hrange with ⟨o0,h0,h1,h2,_⟩ | h0
       ·injection h0 with h0
        injection h0 with _ h0
        subst h0;omega
       have:=hU1 b1;rw [sD] at this;omega
      have hroom:=(g2 rfl).1;have h5:(i + 1) * s ≤ cap * s:=Nat.mul_le_mul_right _ (by omega)
      rw [Nat.succ_mul] at h5;rw [vQ _ _ _ _ (by rw [vals_length];omega),vals_length,if_neg (by omega)]
     rw [uO _ _ _ _ hb,g1] at g1';injection g1' with g1'
     injection g1' with g1' _ _
     rw [← g1']
    have hcsz:off1 + cap * s ≤ c'.size∧fr'=(0,0):=by
     by_cases hb:b1=b
     ·subst hb;rw [sY _ _ g1] at g1';injection g1' with g1'
      injection g1' with e1 e2 e3
      subst e1;subst e3;rw [uP];exact g2 rfl
     rw [uO _ _ _ _ hb,g1] at g1';injection g1' with g1'
     injection g1' with e1 e2 e3
     subst e1;subst e3;exact g2 rfl
    refine ⟨c',ety',fr',g1',fun _=>hcsz,fun j u hj=>?_⟩;rw [vals_get] at hj;by_cases hs0:s=0
    ·subst hs0;have hl:((es.set i (e.withCells (setP e.cells o' p new))).flatMap cells).length=0:=by rw [iL hsz'];simp
     rw [List.length_eq_zero_iff.1 hl] at hj;simp at hj
    have hjd:j=(j / s) * s + j % s:=by rw [Nat.mul_comm];exact (Nat.div_add_mod j s).symm
    have hjm:j % s < s:=Nat.mod_lt _ (by omega)
    by_cases hji:j / s=i
    ·rw [hjd,sU hsz' _ _ hjm,hji,List.getElem?_set_self hlt] at hj;simp only [Option.bind_some,hcells] at hj;have:=g3' (j % s) u (by rw [vals_get];exact hj)
     have hj3:j=i * s + j % s:=by rw [← hji];exact hjd
     rw [show off1 + j=off1 + i * s + j % s by omega]
     exact this
    rw [hjd,sU hsz' _ _ hjm,List.getElem?_set_ne (Ne.symm hji),← sU hsz _ _ hjm,← hjd] at hj;rw [hsame j ?_]
    ·exact g3 j u (by rw [vals_get];exact hj)
    rcases Nat.lt_or_gt_of_ne hji with hlt2 | hgt
    ·left;have:(j / s + 1) * s ≤ i * s:=Nat.mul_le_mul_right _ hlt2;rw [Nat.succ_mul] at this;omega
    right;have:(i + 1) * s ≤ (j / s) * s:=Nat.mul_le_mul_right _ hgt;rw [Nat.succ_mul] at this;omega
   rw [holdsL_iff];intro x hx;obtain ⟨j,hj⟩:=List.mem_iff_getElem?.1 hx;by_cases hji:j=i
   ·subst hji;rw [List.getElem?_set_self hlt] at hj;injection hj with hj
    subst hj;exact holds_withCells r3 r2 r1
   rw [List.getElem?_set_ne (Ne.symm hji)] at hj;exact hother j x hj hji
  have hcntset:∀ q,(TA.sl true s b1 off1 cap (es.set i (e.withCells (setP e.cells o' p new)))).cnt q + cntL q old=(TA.sl true s b1 off1 cap es).cnt q + cntL q new:=by
   intro q;have h1:=r5 q;rw [cntL_cells] at h1;have h2:=oQ q (x:=e.withCells (setP e.cells o' p new)) he;rw [cnt_withCells q r3] at h2;simp only [cnt];omega
  have holt:o < cs.length:=(List.getElem?_eq_some_iff.1 hcs).1;rw [hset];refine ⟨?_,?_,by simp,?_,?_⟩
  ·rw [holdsL_iff];intro x hx;obtain ⟨j,hj⟩:=List.mem_iff_getElem?.1 hx;by_cases hjo:j=o
   ·subst hjo;rw [List.getElem?_set_self holt] at hj;injection hj with hj
    subst hj;exact hnewsl
   rw [List.getElem?_set_ne (Ne.symm hjo)] at hj;refine Holds.frame x (holdsL_get hH hj) (fun _ hz=>hz) (fun q hq=>uO _ _ _ _ (fun e2=>?_));subst e2;rcases hq with hq | hq
   ·have h1:=hU q;have h3:=oQ q (x:=.dead undef) hcs;have h4:=cnt_le_cntL q (l:=cs.set o (.dead undef)) (i:=j) (y:=x) (by rw [List.getElem?_set_ne (Ne.symm hjo)];exact hj)
    rw [show (TA.dead undef).cnt q=0 from by simp [cnt]] at h3
    omega
   exact hZ hq
  ·intro c hc;rcases List.mem_or_eq_of_mem_set hc with hc | hc
   ·exact hC c hc
   rw [hc];rfl
  ·intro b0 o0 hb0;obtain ⟨c,ety,fr,g1,g2,g3⟩:=hM _ _ hb0;have hne:b0 ≠ b:=by
    intro e2;subst e2;have h1:=hU b0;rw [hb0,sD] at h1;have h2:=hcnt b0;omega
   refine ⟨c,ety,fr,by rw [uO _ _ _ _ hne];exact g1,g2,fun j u hj=>g3 j u ?_⟩
   rw [vals_get] at hj ⊢;by_cases hjo:j=o
   ·subst hjo;rw [List.getElem?_set_self holt] at hj;rw [hcs];simpa [val1] using hj
   rw [List.getElem?_set_ne (Ne.symm hjo)] at hj;exact hj
  intro q;have h1:=hcntset q;have h2:=oQ q (x:=TA.sl true s b1 off1 cap (es.set i (e.withCells (setP e.cells o' p new)))) hcs;omega
end TA
end Go.OM
namespace Go.OM
inductive Cap where
 | bx (n:Nat)
 | ro (x:T)
inductive CapA where
 | bx (n:Nat)
 | ro (x:TA)
def CapA.er:CapA→Cap
 | .bx n=>.bx n
 | .ro x=>.ro x.er
def CapA.at (r:Root):CapA→Bool
 | .bx n=>decide (r = .box n)
 | .ro _=>false
def Cap.at (r:Root):Cap→Bool
 | .bx n=>decide (r = .box n)
 | .ro _=>false
theorem CapA.er_at (r:Root) (c:CapA):c.er.at r=c.at r:=by cases c<;>rfl
theorem CapA.any_at (r:Root) (xs:List CapA):(xs.map CapA.er).any (Cap.at r)=xs.any (CapA.at r):=by
 rw [List.any_map];exact congrArg (fun f=>xs.any f) (funext fun c=>CapA.er_at r c)
inductive AV where
 | u
 | t (x:T)
 | tup (xs:List T)
 | al (r:Root) (o:Nat) (p:Path) (k:Option Nat)
 | ref (r:Root) (o:Nat) (p:Path)
 | rop (cs:List T) (o:Nat)
 | clo (f:Nat) (xs:List Cap)
 deriving Inhabited
inductive AVA where
 | u
 | t (x:TA)
 | tup (xs:List TA)
 | al (r:Root) (o:Nat) (p:Path) (k:Option Nat)
 | ref (r:Root) (o:Nat) (p:Path)
 | rop (b off:Nat) (cs:List TA) (o:Nat)
 | clo (f:Nat) (xs:List CapA)
 deriving Inhabited
structure BoxA where
 b:Nat
 off:Nat
 cs:List TA
structure St where
 tm:List (Nat × AV)
 bx:List (Nat × List T)
structure StA where
 tm:List (Nat × AVA)
 bx:List (Nat × BoxA)
 hd:List TA
namespace AVA
def er:AVA→AV
 | .u=>.u
 | .t x=>.t x.er
 | .tup xs=>.tup (TA.erL xs)
 | .al r o p k=>.al r o p k
 | .ref r o p=>.ref r o p
 | .rop _ _ cs o=>.rop (TA.erL cs) o
 | .clo f xs=>.clo f (xs.map CapA.er)
def cnt (k:Nat):AVA→Nat
 | .t x=>x.cnt k
 | .tup xs=>TA.cntL k xs
 | _=>0
def kill (r:Root):AVA→AVA
 | .al r' o p k=>if r'=r then .u else .al r' o p k
 | .ref r' o p=>if r'=r∧p ≠ [] then .u else .ref r' o p
 | x=>x
def killAll (r:Root):AVA→AVA
 | .al r' o p k=>if r'=r then .u else .al r' o p k
 | .ref r' o p=>if r'=r then .u else .ref r' o p
 | .clo f xs=>if xs.any (CapA.at r)=true then .u else .clo f xs
 | x=>x
theorem cnt_kill (r:Root) (k:Nat) (x:AVA):(x.kill r).cnt k=x.cnt k:=by
 cases x<;>simp only [kill]<;>first | rfl | (split<;>rfl)
theorem cnt_killAll (r:Root) (k:Nat) (x:AVA):(x.killAll r).cnt k=x.cnt k:=by
 cases x<;>simp only [killAll]<;>first | rfl | (split<;>rfl)
end AVA
namespace AV
def kill (r:Root):AV→AV
 | .al r' o p k=>if r'=r then .u else .al r' o p k
 | .ref r' o p=>if r'=r∧p ≠ [] then .u else .ref r' o p
 | x=>x
def killAll (r:Root):AV→AV
 | .al r' o p k=>if r'=r then .u else .al r' o p k
 | .ref r' o p=>if r'=r then .u else .ref r' o p
 | .clo f xs=>if xs.any (Cap.at r)=true then .u else .clo f xs
 | x=>x
def hasOwn:AV→Bool
 | .t x=>x.hasOwn
 | _=>false
end AV
theorem AVA.er_kill (r:Root) (x:AVA):(x.kill r).er=x.er.kill r:=by
 cases x with
 | al r' o p k=>by_cases h:r'=r<;>simp [kill,AVA.er,AV.kill,h]
 | ref r' o p=>by_cases h:r'=r∧p ≠ []<;>simp [kill,AVA.er,AV.kill,h]
 | _=>rfl
theorem AVA.er_killAll (r:Root) (x:AVA):(x.killAll r).er=x.er.killAll r:=by
 cases x with
 | al r' o p k=>by_cases h:r'=r<;>simp [killAll,AVA.er,AV.killAll,h]
 | ref r' o p=>by_cases h:r'=r<;>simp [killAll,AVA.er,AV.killAll,h]
 | clo f xs =>
  by_cases h:xs.any (CapA.at r)=true<;>simp only [killAll,AVA.er,AV.killAll,CapA.any_at,h,if_true,if_false]<;>rfl
 | _=>rfl
def BoxA.cnt (k:Nat) (x:BoxA):Nat:=(if x.b=k then 1 else 0) + TA.cntL k x.cs
namespace StA
def er (s:StA):St:=⟨s.tm.map fun e=>(e.1,e.2.er),s.bx.map fun e=>(e.1,TA.erL e.2.cs)⟩
def cnt (k:Nat) (s:StA):Nat:=tot (AVA.cnt k) s.tm + tot (BoxA.cnt k) s.bx + TA.cntL k s.hd
def rootCells (s:StA):Root→Option (Option (Nat × Nat) × List TA)
 | .slot n=>match look s.tm n with
  | some (.t x)=>some (none,x.cells)
  | _=>none
 | .box n=>(look s.bx n).map fun x=>(some (x.b,x.off),x.cs)
def kill (r:Root) (s:StA):StA:=⟨s.tm.map fun e=>(e.1,e.2.kill r),s.bx,s.hd⟩
def killAll (r:Root) (s:StA):StA:=⟨s.tm.map fun e=>(e.1,e.2.killAll r),s.bx,s.hd⟩
end StA
namespace St
def kill (r:Root) (s:St):St:=⟨s.tm.map fun e=>(e.1,e.2.kill r),s.bx⟩
def killAll (r:Root) (s:St):St:=⟨s.tm.map fun e=>(e.1,e.2.killAll r),s.bx⟩
def free (s:St) (d:Nat):Bool:=match look s.tm d with
 | some x=>!x.hasOwn
 | none=>true
def set (s:St) (d:Nat) (x:AV):St:=if s.free d=true then ⟨put s.tm d x,s.bx⟩ else ⟨put (s.kill (.slot d)).tm d x,s.bx⟩
def get (s:St) (n:Nat):AV:=(look s.tm n).getD .u
end St
def StA.set (s:StA) (d:Nat) (x:AVA):StA:=if s.er.free d=true then ⟨put s.tm d x,s.bx,s.hd⟩ else ⟨put (s.kill (.slot d)).tm d x,s.bx,s.hd⟩
theorem StA.er_kill (r:Root) (s:StA):(s.kill r).er=s.er.kill r:=by
 simp [StA.kill,StA.er,St.kill,AVA.er_kill]
theorem StA.er_killAll (r:Root) (s:StA):(s.killAll r).er=s.er.killAll r:=by
 simp [StA.killAll,StA.er,St.killAll,AVA.er_killAll]
theorem StA.er_set (s:StA) (d:Nat) (x:AVA):(s.set d x).er=s.er.set d x.er:=by
 unfold StA.set St.set;by_cases h:s.er.free d=true
 ·rw [if_pos h,if_pos h];simp [StA.er,pH]
 rw [if_neg h,if_neg h];have:=StA.er_kill (.slot d) s;simp only [StA.er,St.kill,St.mk.injEq] at this;simp only [StA.er,pH,St.kill,this.1]
theorem nF (s:StA) (n:Nat):look s.er.tm n=(look s.tm n).map AVA.er:=bU _ _ _
theorem lY (s:StA) (n:Nat):look s.er.bx n=(look s.bx n).map fun x=>TA.erL x.cs:=bU (fun x:BoxA=>TA.erL x.cs) s.bx n
theorem StA.cnt_kill (k:Nat) (r:Root) (s:StA):(s.kill r).cnt k=s.cnt k:=by
 simp only [StA.cnt,StA.kill,uQ,AVA.cnt_kill]
theorem StA.cnt_killAll (k:Nat) (r:Root) (s:StA):(s.killAll r).cnt k=s.cnt k:=by
 simp only [StA.cnt,StA.killAll,uQ,AVA.cnt_killAll]
theorem yJ (s:StA) (r r':Root):(s.kill r).rootCells r'=s.rootCells r':=by
 cases r' with
 | slot n =>
  simp only [StA.rootCells,StA.kill,bU];cases look s.tm n with
  | none=>rfl
  | some x =>
   cases x with
   | al r1 o p k=>by_cases h:r1=r<;>simp [AVA.kill,h]
   | ref r1 o p=>simp only [Option.map_some,AVA.kill];split<;>(rename_i hh;split at hh<;>simp_all)
   | _=>rfl
 | box n=>rfl
theorem tU (s:StA) (r r':Root):(s.killAll r).rootCells r'=s.rootCells r':=by
 cases r' with
 | slot n =>
  simp only [StA.rootCells,StA.killAll,bU];cases look s.tm n with
  | none=>rfl
  | some x =>
   cases x with
   | al r1 o p k=>by_cases h:r1=r<;>simp [AVA.killAll,h]
   | ref r1 o p=>simp only [Option.map_some,AVA.killAll];split<;>(rename_i hh;split at hh<;>simp_all)
   | clo f xs=>simp only [Option.map_some,AVA.killAll];split<;>(rename_i hh;split at hh<;>simp_all)
   | _=>rfl
 | box n=>rfl
def oY:Option Nat→List TA→Value
 | none,[x]=>x.val1
 | none,_=>undef
 | some _,l=>.agg (TA.vals l).toArray
def CapA.Ok (s:StA) (Z:Nat→Prop) (h:Array Obj):CapA→Value→Prop
 | .bx n,v=>∃ base cs ad,s.rootCells (.box n)=some (base,cs)∧TA.addrP base cs 0 []=some ad∧v = .pointer (some ⟨ad.1,ad.2,none⟩)
 | .ro x,v=>v=x.val∧x.Holds Z h∧∀ k,x.cnt k=0
def CapA.OkL (s:StA) (Z:Nat→Prop) (h:Array Obj):List CapA→List Value→Prop
 | [],[]=>True
 | c :: cs,v :: vs=>c.Ok s Z h v∧OkL s Z h cs vs
 | _,_=>False
def ValOk (s:StA) (Z:Nat→Prop) (h:Array Obj):AVA→Value→Prop
 | .u,_=>True
 | .t x,v=>v=x.val∧x.Holds Z h
 | .tup xs,v=>v = .tuple (xs.map TA.val).toArray∧TA.HoldsL Z h xs
 | .al r o p k,v=>∃ base cs l,s.rootCells r=some (base,cs)∧TA.getP cs o p (k.getD 1)=some l∧T.hasOwnL (TA.erL l)=true∧v=oY k l
 | .ref r o p,v=>∃ base cs ad,s.rootCells r=some (base,cs)∧TA.addrP base cs o p=some ad∧v = .pointer (some ⟨ad.1,ad.2,none⟩)
 | .rop b off cs o,v=>v = .pointer (some ⟨b,off + o,none⟩)∧Z b∧TA.Mem h false b off 0 (TA.vals cs)∧TA.HoldsL Z h cs∧(∀ k,TA.cntL k cs=0)∧∀ c ∈ cs,c.isCell=true
 | .clo f xs,v=>∃ vs:List Value,v = .func (.func f) #[] vs.toArray∧CapA.OkL s Z h xs vs
def AVA.isRef:AVA→Root→Nat→Path→Prop
 | .ref r o p,r',o',p'=>AVA.ref r o p = .ref r' o' p'
 | .clo _ xs,r',o',p'=>(o'=0∧p'=[])∧∃ n,r' = .box n∧CapA.bx n ∈ xs
 | _,_,_,_=>False
structure Ctx where
 N:Nat
 w0:World
 Z0:Nat→Prop
 F:Nat→Prop
 PB:List (Nat × Nat × Nat)
 PK:List (Nat × Nat × Nat × Nat)
 pin:List (Nat × Value)
def Ctx.Fz (C:Ctx) (k:Nat):Prop:=C.F k∧∀ x ∈ C.PB,x.1 ≠ k
def aBu (h h':Array Obj) (b off n:Nat):Prop :=
 ∃ c c' e fr,h[b]? = some (.cells c e fr)∧h'[b]? = some (.cells c' e fr)∧c'.size=c.size∧∀ j,(j < off ∨ off + n ≤ j)→c'[j]? = c[j]?
structure SRel (C:Ctx) (Z:Nat→Prop) (s:StA) (a:Act) (w:World):Prop where
 defers:a.defers=[]
 size:a.tmps.size=C.N
 tm:∀ n x,look s.tm n=some x→ValOk s Z w.heap x (a.tmps.getD n undef)
 bx:∀ n x,look s.bx n=some x→TA.Mem w.heap true x.b x.off x.cs.length (TA.vals x.cs)∧TA.HoldsL Z w.heap x.cs∧∀ c ∈ x.cs,c.isCell=true
 uniq:∀ k,s.cnt k ≤ 1
 notZ:∀ k,0 < s.cnt k→¬ Z k
 lt:∀ k,0 < s.cnt k→k < w.heap.size
 zlt:∀ k,Z k→k < w.heap.size
 own:∀ k,0 < s.cnt k→C.F k ∨ C.w0.heap.size ≤ k
 z0:∀ k,C.Z0 k→Z k
 zext:∀ k,Z k→C.Z0 k ∨ C.w0.heap.size ≤ k ∨ C.Fz k
 os:w.os=C.w0.os
 tape:w.tape=C.w0.tape
 output:w.output=C.w0.output
 grown:C.w0.heap.size ≤ w.heap.size
 kept:∀ k,k < C.w0.heap.size→¬ C.F k→w.heap[k]? = C.w0.heap[k]?
 part:∀ x ∈ C.PB,aBu C.w0.heap w.heap x.1 x.2.1 x.2.2
 pbx:∀ x ∈ C.PB,∀ n y,look s.bx n=some y→y.b=x.1→y.off=x.2.1∧y.cs.length ≤ x.2.2
 pbo:∀ x ∈ C.PB,∀ n y,look s.tm n=some y→y.cnt x.1=0
 pbi:∀ x ∈ C.PB,∀ n y,look s.bx n=some y→TA.cntL x.1 y.cs=0
 hand:TA.HoldsL Z w.heap s.hd
 pbh:∀ x ∈ C.PB,TA.cntL x.1 s.hd=0
 pk:∀ x ∈ C.PK,C.N ≤ x.1∧∃ cs,look s.bx x.1=some ⟨x.2.1,x.2.2.1,cs⟩∧cs.length=x.2.2.2
theorem aIr {s:StA} {n:Nat} {x:AVA} (h:look s.tm n=some x) (k:Nat):x.cnt k ≤ s.cnt k:=by
 have:=bT (AVA.cnt k) h;simp only [StA.cnt];omega
theorem wV {s:StA} {n:Nat} {x:BoxA} (h:look s.bx n=some x) (k:Nat):x.cnt k ≤ s.cnt k:=by
 have:=bT (BoxA.cnt k) h;simp only [StA.cnt];omega
theorem AVA.isRef_slot {x:AVA} {r:Root} {o n:Nat} {p:Path} (h:x.isRef r o p) (e:r = .slot n):x = .ref (.slot n) o p:=by
 cases x with
 | ref r1 o1 p1=>subst e;exact h
 | clo f xs=>obtain ⟨_,m,h1,_⟩:=h;rw [h1] at e;cases e
 | _=>exact h.elim
theorem CapA.OkL.keep {s s':StA} {Z Z':Nat→Prop} {h h':Array Obj} (hz:∀ b,Z b→Z' b) (hf:∀ b,Z b→h'[b]? = h[b]?):∀ (xs:List CapA) (vs:List Value),
  (∀ n,CapA.bx n ∈ xs→∀ base cs ad,s.rootCells (.box n)=some (base,cs)→TA.addrP base cs 0 []=some ad→∃ base' cs',s'.rootCells (.box n)=some (base',cs')∧TA.addrP base' cs' 0 []=some ad) →
  CapA.OkL s Z h xs vs→CapA.OkL s' Z' h' xs vs
 | [],[],_,_=>trivial
 | [],_ :: _,_,H=>H.elim
 | _ :: _,[],_,H=>H.elim
 | c :: cs,v :: vs,hb,H=>by
  refine ⟨?_,CapA.OkL.keep hz hf cs vs (fun n hn=>hb n (by simp [hn])) H.2⟩
  cases c with
  | bx n =>
   obtain ⟨base,l,ad,h1,h2,h3⟩:=H.1;obtain ⟨base',l',g1,g2⟩:=hb n (by simp) base l ad h1 h2
   exact ⟨base',l',ad,g1,g2,h3⟩
  | ro x =>
   obtain ⟨h1,h2,h3⟩:=H.1;exact ⟨h1,TA.Holds.frame x h2 hz (fun k hk=>hf k (by
    rcases hk with hk | hk
    ·rw [h3 k] at hk;omega
    exact hk)),h3⟩
theorem ValOk.keep {s s':StA} {Z Z':Nat→Prop} {h h':Array Obj} {x:AVA} {v:Value} (H:ValOk s Z h x v) (hz:∀ b,Z b→Z' b) (hf:∀ b,(0 < x.cnt b ∨ Z b)→h'[b]? = h[b]?)
  (hal:∀ r o p k,x = .al r o p k→∀ base cs l,s.rootCells r=some (base,cs)→TA.getP cs o p (k.getD 1)=some l→T.hasOwnL (TA.erL l)=true→s'.rootCells r=s.rootCells r)
  (href:∀ r o p,x.isRef r o p→∀ base cs ad,s.rootCells r=some (base,cs)→TA.addrP base cs o p=some ad→∃ base' cs',s'.rootCells r=some (base',cs')∧TA.addrP base' cs' o p=some ad):ValOk s' Z' h' x v:=by
 cases x with
 | u=>trivial
 | t x=>exact ⟨H.1,TA.Holds.frame x H.2 hz (by simpa [AVA.cnt] using hf)⟩
 | tup xs=>exact ⟨H.1,TA.HoldsL.frame xs H.2 hz (by simpa [AVA.cnt] using hf)⟩
 | al r o p k =>
  obtain ⟨base,cs,l,h1,h2,h3,h4⟩:=H;exact ⟨base,cs,l,(hal r o p k rfl base cs l h1 h2 h3).trans h1,h2,h3,h4⟩
 | ref r o p =>
  obtain ⟨base,cs,ad,h1,h2,h3⟩:=H;obtain ⟨base',cs',g1,g2⟩:=href r o p rfl base cs ad h1 h2;exact ⟨base',cs',ad,g1,g2,h3⟩
 | rop b off cs o =>
  obtain ⟨h1,h2,h3,h4,h5,h6⟩:=H;refine ⟨h1,hz b h2,h3.frame (hf b (.inr h2)),TA.HoldsL.frame cs h4 hz (fun q hq=>hf q ?_),h5,h6⟩;rcases hq with hq | hq
  ·rw [h5 q] at hq;omega
  exact .inr hq
 | clo f xs =>
  obtain ⟨vs,h1,h2⟩:=H;exact ⟨vs,h1,CapA.OkL.keep hz (fun b hb=>hf b (.inr hb)) xs vs (fun n hn base cs ad=>href (.box n) 0 [] ⟨⟨rfl,rfl⟩,n,rfl,hn⟩ base cs ad) h2⟩
theorem aMm:∀ (p:Path) (cs:List TA) (o k:Nat) (l:List TA),TA.getP cs o p k=some l→T.hasOwnL (TA.erL cs)=false→p=[]∧T.hasOwnL (TA.erL l)=false
 | [],cs,o,k,l,h,hn=>by
  refine ⟨rfl,?_⟩;simp only [TA.getP] at h;split at h
  ·injection h with h
   subst h;have key:∀ (l:List TA),T.hasOwnL (TA.erL l)=true ↔ ∃ t ∈ l,t.er.hasOwn=true:=by
    intro l;induction l with
    | nil=>simp [TA.erL,T.hasOwnL]
    | cons t ts ih=>simp [TA.erL,T.hasOwnL,ih]
   cases hc:T.hasOwnL (TA.erL ((cs.drop o).take k)) with
   | false=>rfl
   | true =>
    obtain ⟨t,ht,ht2⟩:=(key _).1 hc;have:T.hasOwnL (TA.erL cs)=true:=(key _).2 ⟨t,List.mem_of_mem_drop (List.mem_of_mem_take ht),ht2⟩;rw [hn] at this;cases this
  cases h
 | (i,o') :: p,cs,o,k,l,h,hn=>by
  exfalso;simp only [TA.getP] at h;split at h
  ·rename_i s b off cap es hcs;have key:∀ (l:List TA) (j:Nat) (t:TA),l[j]? = some t→T.hasOwnL (TA.erL l)=false→t.er.hasOwn=false:=by
    intro l;induction l with
    | nil=>intro j t hj;simp at hj
    | cons y ys ih =>
     intro j t hj hl;simp only [TA.erL,T.hasOwnL,Bool.or_eq_false_iff] at hl;cases j with
     | zero=>simp only [List.getElem?_cons_zero,Option.some.injEq] at hj;subst hj;exact hl.1
     | succ j=>simp only [List.getElem?_cons_succ] at hj;exact ih j t hj hl.2
   have:=key cs o _ hcs hn;simp [TA.er,T.hasOwn] at this
  cases h
theorem aK1 {base:Option (Nat × Nat)}:∀ (p:Path) (cs:List TA) (o:Nat) (ad:Nat × Nat),TA.addrP base cs o p=some ad→T.hasOwnL (TA.erL cs)=false→p=[] 
 | [],_,_,_,_,_=>rfl
 | (i,o') :: p,cs,o,ad,h,hn=>by
  exfalso;simp only [TA.addrP] at h;split at h
  ·rename_i s b off cap es hcs;have key:∀ (l:List TA) (j:Nat) (t:TA),l[j]? = some t→T.hasOwnL (TA.erL l)=false→t.er.hasOwn=false:=by
    intro l;induction l with
    | nil=>intro j t hj;simp at hj
    | cons y ys ih =>
     intro j t hj hl;simp only [TA.erL,T.hasOwnL,Bool.or_eq_false_iff] at hl;cases j with
     | zero=>simp only [List.getElem?_cons_zero,Option.some.injEq] at hj;subst hj;exact hl.1
     | succ j=>simp only [List.getElem?_cons_succ] at hj;exact ih j t hj hl.2
   have:=key cs o _ hcs hn;simp [TA.er,T.hasOwn] at this
  cases h
theorem vA (x:TA):T.hasOwnL (TA.erL x.cells)=x.er.hasOwn:=by
 cases x<;>simp [TA.cells,TA.erL,T.hasOwnL,TA.er,T.hasOwn]
theorem aMe {r r':Root} {o:Nat} {p:Path} {k:Option Nat} {y:AVA} (h:y.kill r = .al r' o p k):y = .al r' o p k∧r' ≠ r:=by
 cases y with
 | al r1 o1 p1 k1 =>
  simp only [AVA.kill] at h;split at h
  ·cases h
  rename_i hne;injection h with e1 e2 e3 e4;subst e1;subst e2;subst e3;subst e4;exact ⟨rfl,hne⟩
 | ref r1 o1 p1=>simp only [AVA.kill] at h;split at h<;>cases h
 | _=>simp [AVA.kill] at h
theorem aJf {r r':Root} {o:Nat} {p:Path} {y:AVA} (h:y.kill r = .ref r' o p):y = .ref r' o p∧¬ (r'=r∧p ≠ []):=by
 cases y with
 | ref r1 o1 p1 =>
  simp only [AVA.kill] at h;split at h
  ·cases h
  rename_i hne;injection h with e1 e2 e3;subst e1;subst e2;subst e3;exact ⟨rfl,hne⟩
 | al r1 o1 p1 k1=>simp only [AVA.kill] at h;split at h<;>cases h
 | _=>simp [AVA.kill] at h
theorem ValOk.kill {s s':StA} {Z:Nat→Prop} {h:Array Obj} {x:AVA} {v:Value} (r:Root) (H:ValOk s Z h x v) (hr:∀ r',s'.rootCells r'=s.rootCells r'):ValOk s' Z h (x.kill r) v:=by
 cases x with
 | al r' o p k =>
  simp only [AVA.kill];split
  ·trivial
  exact H.keep (fun _ hz=>hz) (fun _ _=>rfl) (fun r o p k e base cs l h1 h2 h3=>hr _) (fun r o p e base cs ad h1 h2=>⟨base,cs,(hr _).trans h1,h2⟩)
 | ref r' o p =>
  simp only [AVA.kill];split
  ·trivial
  exact H.keep (fun _ hz=>hz) (fun _ _=>rfl) (fun r o p k e base cs l h1 h2 h3=>hr _) (fun r o p e base cs ad h1 h2=>⟨base,cs,(hr _).trans h1,h2⟩)
 | u=>trivial
 | t x=>exact H
 | tup xs=>exact H
 | rop b off cs o=>exact H
 | clo f xs=>exact H.keep (fun _ hz=>hz) (fun _ _=>rfl) (fun r o p k e=>by cases e) (fun r o p e base cs ad h1 h2=>⟨base,cs,(hr _).trans h1,h2⟩)
theorem SRel.kill {C:Ctx} {Z:Nat→Prop} {s:StA} {a:Act} {w:World} (H:SRel C Z s a w) (r:Root):SRel C Z (s.kill r) a w where
 defers:=H.defers
 size:=H.size
 tm:=fun n x hx=>by
  simp only [StA.kill,bU] at hx;obtain ⟨y,hy,rfl⟩:=Option.map_eq_some_iff.1 hx;exact (H.tm n y hy).kill r (yJ s r)
 bx:=H.bx
 uniq:=fun k=>by rw [StA.cnt_kill];exact H.uniq k
 notZ:=fun k hk=>H.notZ k (by rwa [StA.cnt_kill] at hk)
 lt:=fun k hk=>H.lt k (by rwa [StA.cnt_kill] at hk)
 zlt:=H.zlt
 own:=fun k hk=>H.own k (by rwa [StA.cnt_kill] at hk)
 z0:=H.z0
 zext:=H.zext
 os:=H.os
 tape:=H.tape
 output:=H.output
 grown:=H.grown
 kept:=H.kept
 part:=H.part
 pbx:=H.pbx
 pbo:=fun x hx n y hy=>by
  simp only [StA.kill,bU] at hy;obtain ⟨z,hz,rfl⟩:=Option.map_eq_some_iff.1 hy;rw [AVA.cnt_kill];exact H.pbo x hx n z hz
 pbi:=H.pbi
 hand:=H.hand
 pbh:=H.pbh
 pk:=H.pk
structure Grow (w w':World):Prop where
 os:w'.os=w.os
 tape:w'.tape=w.tape
 output:w'.output=w.output
 size:w.heap.size ≤ w'.heap.size
 block:∀ k,k < w.heap.size→w'.heap[k]? = w.heap[k]?
theorem Grow.refl (w:World):Grow w w:=⟨rfl,rfl,rfl,Nat.le_refl _,fun _ _=>rfl⟩
theorem Grow.trans {a b c:World} (h:Grow a b) (k:Grow b c):Grow a c :=
 ⟨k.os.trans h.os,k.tape.trans h.tape,k.output.trans h.output,Nat.le_trans h.size k.size,fun i hi=>(k.block i (by have:=h.size;omega)).trans (h.block i hi)⟩
variable {C:Ctx} {Z:Nat→Prop} {s:StA} {a:Act} {w w':World}
theorem ValOk.lt {x:AVA} {v:Value} {h:Array Obj} (H:ValOk s Z h x v) {k:Nat} (hk:0 < x.cnt k):k < h.size:=by
 cases x with
 | t x=>exact TA.Holds.lt x H.2 hk
 | tup xs=>exact TA.HoldsL.lt xs H.2 hk
 | _=>simp [AVA.cnt] at hk
theorem SRel.grow (H:SRel C Z s a w) (g:Grow w w'):SRel C Z s a w' where
 defers:=H.defers
 size:=H.size
 tm:=fun n x hx=>(H.tm n x hx).keep (fun _ hz=>hz) (fun k hk=>g.block k (by
   rcases hk with hk | hk
   ·exact (H.tm n x hx).lt hk
   exact H.zlt k hk)) (fun _ _ _ _ _ _ _ _ _ _ _=>rfl) (fun r o p e base cs ad h1 h2=>⟨base,cs,h1,h2⟩)
 bx:=fun n x hx=>by
  obtain ⟨h1,h2,h3⟩:=H.bx n x hx;refine ⟨h1.frame (g.block _ h1.lt),TA.HoldsL.frame _ h2 (fun _ hz=>hz) (fun k hk=>g.block k ?_),h3⟩;rcases hk with hk | hk
  ·exact TA.HoldsL.lt _ h2 hk
  exact H.zlt k hk
 uniq:=H.uniq
 notZ:=H.notZ
 lt:=fun k hk=>Nat.lt_of_lt_of_le (H.lt k hk) g.size
 zlt:=fun k hk=>Nat.lt_of_lt_of_le (H.zlt k hk) g.size
 own:=H.own
 z0:=H.z0
 zext:=H.zext
 os:=g.os.trans H.os
 tape:=g.tape.trans H.tape
 output:=g.output.trans H.output
 grown:=Nat.le_trans H.grown g.size
 kept:=fun k hk hf=>(g.block k (Nat.lt_of_lt_of_le hk H.grown)).trans (H.kept k hk hf)
 part:=fun x hx=>by
  obtain ⟨c,c',e,fr,h1,h2,h3⟩:=H.part x hx;exact ⟨c,c',e,fr,h1,(g.block _ (by exact (Array.getElem?_eq_some_iff.1 h2).1)).trans h2,h3⟩
 pbx:=H.pbx
 pbo:=H.pbo
 pbi:=H.pbi
 hand:=TA.HoldsL.frame _ H.hand (fun _ hz=>hz) (fun k hk=>g.block k (by
  rcases hk with hk | hk
  ·exact TA.HoldsL.lt _ H.hand hk
  exact H.zlt k hk))
 pbh:=H.pbh
 pk:=H.pk
theorem SRel.drewN (H:SRel C Z s a w) (n:Nat):SRel C Z s a { w with drawn:=n }:=H.grow ⟨rfl,rfl,rfl,Nat.le_refl _,fun _ _=>rfl⟩
end Go.OM
namespace Go.OM
variable {C:Ctx} {Z:Nat→Prop} {s:StA} {a:Act} {w w':World}
def StA.push (s:StA) (x:List TA):StA:=⟨s.tm,s.bx,x ++ s.hd⟩
theorem StA.er_push (s:StA) (x:List TA):(s.push x).er=s.er:=rfl
theorem StA.cnt_push (k:Nat) (s:StA) (x:List TA):(s.push x).cnt k=s.cnt k + TA.cntL k x:=by
 simp only [StA.cnt,StA.push,TA.cntL_append];omega
theorem yI (s:StA) (x:List TA) (r:Root):(s.push x).rootCells r=s.rootCells r:=by cases r<;>rfl
theorem ValOk.push {x:AVA} {v:Value} {h:Array Obj} {y:List TA} (H:ValOk s Z h x v):ValOk (s.push y) Z h x v :=
 H.keep (fun _ hz=>hz) (fun _ _=>rfl) (fun r _ _ _ _ _ _ _ _ _ _=>yI s y r) (fun r o p e base cs ad h1 h2=>⟨base,cs,(yI s y r).trans h1,h2⟩)
theorem holdsL_append {h:Array Obj} {x y:List TA}:TA.HoldsL Z h (x ++ y) ↔ TA.HoldsL Z h x∧TA.HoldsL Z h y:=by
 simp only [TA.holdsL_iff,List.mem_append];exact ⟨fun H=>⟨fun t ht=>H t (.inl ht),fun t ht=>H t (.inr ht)⟩,fun H t ht=>ht.elim (H.1 t) (H.2 t)⟩
theorem SRel.newHand {Z':Nat→Prop} (H:SRel C Z s a w) (x:List TA) (hz:∀ k,Z k→Z' k) (hz2:∀ k,Z' k→Z k ∨ C.w0.heap.size ≤ k ∨ C.Fz k) (hzl:∀ k,Z' k→k < w.heap.size) (hx:TA.HoldsL Z' w.heap x)
  (hu:∀ k,TA.cntL k x ≤ 1) (hf:∀ k,0 < TA.cntL k x→s.cnt k=0∧¬ Z' k∧(C.F k ∨ C.w0.heap.size ≤ k)) (hs:∀ k,0 < s.cnt k→¬ Z' k) (hp:∀ y ∈ C.PB,TA.cntL y.1 x=0):SRel C Z' (s.push x) a w where
 defers:=H.defers
 size:=H.size
 tm:=fun n y hy=>((H.tm n y hy).keep hz (fun _ _=>rfl) (fun _ _ _ _ _ _ _ _ _ _ _=>rfl) (fun r o p e base cs ad h1 h2=>⟨base,cs,h1,h2⟩)).push
 bx:=fun n y hy=>by
  obtain ⟨h1,h2,h3⟩:=H.bx n y hy;exact ⟨h1,TA.HoldsL.frame _ h2 hz (fun _ _=>rfl),h3⟩
 uniq:=fun k=>by
  rw [StA.cnt_push];have h1:=hu k;have h2:=H.uniq k;by_cases h0:0 < TA.cntL k x
  ·have:=(hf k h0).1;omega
  omega
 notZ:=fun k hk=>by
  rw [StA.cnt_push] at hk;by_cases h0:0 < TA.cntL k x
  ·exact (hf k h0).2.1
  exact hs k (by omega)
 lt:=fun k hk=>by
  rw [StA.cnt_push] at hk;by_cases h0:0 < TA.cntL k x
  ·exact TA.HoldsL.lt x hx h0
  exact H.lt k (by omega)
 zlt:=hzl
 own:=fun k hk=>by
  rw [StA.cnt_push] at hk;by_cases h0:0 < TA.cntL k x
  ·exact (hf k h0).2.2
  exact H.own k (by omega)
 z0:=fun k hk=>hz k (H.z0 k hk)
 zext:=fun k hk=>(hz2 k hk).elim (H.zext k) .inr
 pk:=H.pk
 os:=H.os
 tape:=H.tape
 output:=H.output
 grown:=H.grown
 kept:=H.kept
 part:=H.part
 pbx:=H.pbx
 pbo:=H.pbo
 pbi:=H.pbi
 hand:=holdsL_append.2 ⟨hx,TA.HoldsL.frame _ H.hand hz (fun _ _=>rfl)⟩
 pbh:=fun y hy=>by simp only [StA.push,TA.cntL_append,hp y hy,H.pbh y hy]
theorem gM {d:Nat} {x:AVA} {r:Root} (hr:r ≠ .slot d):(StA.mk (put s.tm d x) s.bx s.hd).rootCells r=s.rootCells r:=by
 cases r with
 | slot n =>
  have hn:n ≠ d:=fun e=>hr (by rw [e])
  simp only [StA.rootCells,cM _ _ hn]
 | box n=>rfl
def aQg (s:StA) (d:Nat):Prop:=∀ (n:Nat) (y:AVA),look s.tm n=some y→n ≠ d→(∀ o p k,y ≠ .al (.slot d) o p k)∧(∀ o p,y ≠ .ref (.slot d) o p)
theorem aA0 {d:Nat} (H:SRel C Z s a w) (hf:s.er.free d=true):aQg s d:=by
 intro n y hy _;have hv:=H.tm n y hy;have hfree:∀ x,look s.tm d=some (.t x)→x.er.hasOwn=false:=by
  intro x hx;simp only [St.free,nF,hx,Option.map_some,AVA.er,AV.hasOwn,Bool.not_eq_true'] at hf;exact hf
 refine ⟨fun o p k e=>?_,fun o p e=>?_⟩
 ·subst e;obtain ⟨base,cs,l,h1,h2,h3,_⟩:=hv;simp only [StA.rootCells] at h1;split at h1
  ·rename_i x hx;injection h1 with h1
   injection h1 with _ h1
   subst h1;have:=(aMm _ _ _ _ _ h2 (by rw [vA];exact hfree x hx)).2
   rw [this] at h3;cases h3
  cases h1
 subst e;obtain ⟨base,cs,ad,h1,h2,_⟩:=hv;simp only [StA.rootCells] at h1;split at h1
 ·rename_i x hx;injection h1 with h1
  injection h1 with hb h1
  subst h1;subst hb;have:=aK1 _ _ _ _ h2 (by rw [vA];exact hfree x hx)
  subst this;simp [TA.addrP] at h2
 cases h1
theorem aF5 (H:SRel C Z s a w) (d:Nat):aQg (s.kill (.slot d)) d:=by
 intro n y hy _;have hv:=(H.kill (.slot d)).tm n y hy;simp only [StA.kill,bU] at hy;obtain ⟨z,hz,rfl⟩:=Option.map_eq_some_iff.1 hy;refine ⟨fun o p k e=>(aMe e).2 rfl,fun o p e=>?_⟩;obtain ⟨e1,e2⟩:=aJf e;rw [e] at hv;obtain ⟨base,cs,ad,h1,h2,_⟩:=hv;simp only [StA.rootCells] at h1;split at h1
 ·injection h1 with h1
  injection h1 with hb h1
  subst h1;subst hb;apply e2;refine ⟨rfl,fun hp=>?_⟩;subst hp;simp [TA.addrP] at h2
 cases h1
theorem SRel.put {d:Nat} {x:AVA} {v:Value} {hd':List TA} (H:SRel C Z s a w) (hd:d < C.N) (hn:aQg s d) (hx:ValOk ⟨Go.OM.put s.tm d x,s.bx,hd'⟩ Z w.heap x v)
  (hc:∀ k,x.cnt k + TA.cntL k hd' ≤ TA.cntL k s.hd) (hh:TA.HoldsL Z w.heap hd'):SRel C Z ⟨Go.OM.put s.tm d x,s.bx,hd'⟩ (a.put (some d) v) w:=by
 have htot:∀ k,tot (AVA.cnt k) (Go.OM.put s.tm d x) ≤ tot (AVA.cnt k) s.tm + x.cnt k:=by
  intro k;cases h:look s.tm d with
  | none=>rw [aHc _ h];omega
  | some y=>have:=eF (AVA.cnt k) (x:=x) h;omega
 have hcnt:∀ k,(StA.mk (Go.OM.put s.tm d x) s.bx hd').cnt k ≤ s.cnt k:=by
  intro k;have h1:=htot k;have h2:=hc k;simp only [StA.cnt];omega
 exact {
  defers:=H.defers
  size:=by simp [Act.put,H.size]
  tm:=fun n y hy=>by
   rw [iC] at hy;by_cases hnd:n=d
   ·subst hnd;rw [if_pos rfl] at hy;injection hy with hy
    subst hy;have:(a.put (some n) v).tmps.getD n undef=v:=by
     simp [Act.put,H.size,hd]
    rw [this];exact hx
   rw [if_neg hnd] at hy;have:(a.put (some d) v).tmps.getD n undef=a.tmps.getD n undef:=by
    simp [Act.put,Array.getElem?_setIfInBounds_ne (Ne.symm hnd)]
   rw [this];refine (H.tm n y hy).keep (fun _ hz=>hz) (fun _ _=>rfl) (fun r o p k e base cs l h1 h2 h3=>?_) (fun r o p e base cs ad h1 h2=>⟨base,cs,?_,h2⟩)
   ·have hr:r ≠ .slot d:=fun e2=>(hn n y hy hnd).1 o p k (by rw [e,e2])
    exact gM (s:=⟨s.tm,s.bx,hd'⟩) hr
   have hr:r ≠ .slot d:=fun e2=>(hn n y hy hnd).2 o p (AVA.isRef_slot e e2);exact (gM (s:=⟨s.tm,s.bx,hd'⟩) hr).trans h1
  bx:=H.bx
  uniq:=fun k=>Nat.le_trans (hcnt k) (H.uniq k)
  notZ:=fun k hk=>H.notZ k (Nat.lt_of_lt_of_le hk (hcnt k))
  lt:=fun k hk=>H.lt k (Nat.lt_of_lt_of_le hk (hcnt k))
  zlt:=H.zlt
  own:=fun k hk=>H.own k (Nat.lt_of_lt_of_le hk (hcnt k))
  z0:=H.z0
  zext:=H.zext
  pk:=H.pk
  os:=H.os
  tape:=H.tape
  output:=H.output
  grown:=H.grown
  kept:=H.kept
  part:=H.part
  pbx:=H.pbx
  pbo:=fun y hy n z hz=>by
   rw [iC] at hz;by_cases hnd:n=d
   ·rw [if_pos hnd] at hz;injection hz with hz
    subst hz;have h1:=hc y.1;have h2:=H.pbh y hy;omega
   rw [if_neg hnd] at hz;exact H.pbo y hy n z hz
  pbi:=H.pbi
  hand:=hh
  pbh:=fun y hy=>by
   have h1:=hc y.1;have h2:=H.pbh y hy;show TA.cntL y.1 hd'=0;omega }
theorem ValOk.relook {s':StA} {x:AVA} {v:Value} {h:Array Obj} {d:Nat} (H:ValOk s Z h x v) (hr:∀ r,r ≠ .slot d→s'.rootCells r=s.rootCells r)
  (h1:∀ o p k,x ≠ .al (.slot d) o p k) (h2:∀ o p,x ≠ .ref (.slot d) o p):ValOk s' Z h x v :=
 H.keep (fun _ hz=>hz) (fun _ _=>rfl) (fun r o p k e base cs l _ _ _=>hr r (fun e2=>h1 o p k (by rw [e,e2]))) (fun r o p e base cs ad g1 g2=>⟨base,cs,(hr r (fun e2=>h2 o p (AVA.isRef_slot e e2))).trans g1,g2⟩)
def AV.into (d:Nat):AV→Bool
 | .al (.slot n) _ _ _=>n == d
 | .ref (.slot n) _ _=>n == d
 | _=>false
theorem aGk {d:Nat} {x:AVA} (h:x.er.into d=false):(∀ o p k,x ≠ .al (.slot d) o p k)∧(∀ o p,x ≠ .ref (.slot d) o p):=by
 refine ⟨fun o p k e=>?_,fun o p e=>?_⟩<;>subst e<;>simp [AVA.er,AV.into] at h
theorem SRel.set {d:Nat} {x:AVA} {v:Value} {hd':List TA} (H:SRel C Z s a w) (hd:d < C.N) (hx:ValOk s Z w.heap x v) (hi:x.er.into d=false)
  (hc:∀ k,x.cnt k + TA.cntL k hd' ≤ TA.cntL k s.hd) (hh:TA.HoldsL Z w.heap hd'):∃ s',s'.er=s.er.set d x.er∧s'.hd=hd'∧SRel C Z s' (a.put (some d) v) w:=by
 unfold St.set;by_cases hf:s.er.free d=true
 ·refine ⟨⟨Go.OM.put s.tm d x,s.bx,hd'⟩,?_,rfl,H.put hd (aA0 H hf) ?_ hc hh⟩
  ·rw [if_pos hf];simp [StA.er,pH]
  exact hx.relook (d:=d) (fun r hr=>gM (s:=⟨s.tm,s.bx,hd'⟩) hr) (aGk hi).1 (aGk hi).2
 refine ⟨⟨Go.OM.put (s.kill (.slot d)).tm d x,s.bx,hd'⟩,?_,rfl,(H.kill (.slot d)).put hd (aF5 H d) ?_ hc hh⟩
 ·rw [if_neg hf];have:=StA.er_kill (.slot d) s;simp only [StA.er,St.kill,St.mk.injEq] at this;simp only [StA.er,pH,St.kill,this.1]
 refine hx.relook (d:=d) (fun r hr=>?_) (aGk hi).1 (aGk hi).2;rw [← yJ s (.slot d)];exact gM (s:=⟨(s.kill (.slot d)).tm,s.bx,hd'⟩) hr
theorem SRel.takeSlot {n:Nat} {x:TA} (H:SRel C Z s a w) (hn:n < C.N) (hx:look s.tm n=some (.t x)) :
  ∃ s',s'.er=s.er.set n .u∧s'.hd=x :: s.hd∧SRel C Z s' a w∧x.Holds Z w.heap∧a.tmps.getD n undef=x.val:=by
 have key:∀ (s:StA),SRel C Z s a w→look s.tm n=some (.t x)→aQg s n→SRel C Z ⟨Go.OM.put s.tm n .u,s.bx,x :: s.hd⟩ a w:=by
  intro s H hx hnr;have hcnt:∀ k,(StA.mk (Go.OM.put s.tm n .u) s.bx (x :: s.hd)).cnt k=s.cnt k:=by
   intro k;have:=eF (AVA.cnt k) (x:=.u) hx;simp only [AVA.cnt] at this;simp only [StA.cnt,TA.cntL];omega
  exact {
   defers:=H.defers
   size:=H.size
   tm:=fun m y hy=>by
    rw [iC] at hy;by_cases hmn:m=n
    ·rw [if_pos hmn] at hy;injection hy with hy
     subst hy
     trivial
    rw [if_neg hmn] at hy;refine (H.tm m y hy).keep (fun _ hz=>hz) (fun _ _=>rfl) (fun r o p k e base cs l h1 h2 h3=>?_) (fun r o p e base cs ad h1 h2=>⟨base,cs,?_,h2⟩)
    ·have hr:r ≠ .slot n:=fun e2=>(hnr m y hy hmn).1 o p k (by rw [e,e2])
     exact gM (s:=⟨s.tm,s.bx,x :: s.hd⟩) hr
    have hr:r ≠ .slot n:=fun e2=>(hnr m y hy hmn).2 o p (AVA.isRef_slot e e2);exact (gM (s:=⟨s.tm,s.bx,x :: s.hd⟩) hr).trans h1
   bx:=H.bx
   uniq:=fun k=>by rw [hcnt];exact H.uniq k
   notZ:=fun k hk=>H.notZ k (by rwa [hcnt] at hk)
   lt:=fun k hk=>H.lt k (by rwa [hcnt] at hk)
   zlt:=H.zlt
   own:=fun k hk=>H.own k (by rwa [hcnt] at hk)
   z0:=H.z0
   zext:=H.zext
   pk:=H.pk
   os:=H.os
   tape:=H.tape
   output:=H.output
   grown:=H.grown
   kept:=H.kept
   part:=H.part
   pbx:=H.pbx
   pbo:=fun y hy m z hz=>by
    rw [iC] at hz;by_cases hmn:m=n
    ·rw [if_pos hmn] at hz;injection hz with hz
     subst hz
     rfl
    rw [if_neg hmn] at hz;exact H.pbo y hy m z hz
   pbi:=H.pbi
   hand:=by
    simp only [TA.HoldsL];exact ⟨(H.tm n _ hx).2,H.hand⟩
   pbh:=fun y hy=>by
    have h1:=H.pbo y hy n _ hx;have h2:=H.pbh y hy;simp only [AVA.cnt] at h1;simp only [TA.cntL];omega }
 have hv:=H.tm n _ hx;unfold St.set;by_cases hf:s.er.free n=true
 ·refine ⟨_,?_,rfl,key s H hx (aA0 H hf),hv.2,hv.1⟩;rw [if_pos hf];simp only [StA.er,pH];rfl
 have hx':look (s.kill (.slot n)).tm n=some (.t x):=by
  simp only [StA.kill,bU,hx,Option.map_some];rfl
 refine ⟨_,?_,rfl,key (s.kill (.slot n)) (H.kill _) hx' (aF5 H n),hv.2,hv.1⟩;rw [if_neg hf];have:=StA.er_kill (.slot n) s;simp only [StA.er,St.kill,St.mk.injEq] at this;simp only [StA.er,pH,St.kill,this.1];rfl
theorem SRel.drop {hd':List TA} (H:SRel C Z s a w) (hc:∀ k,TA.cntL k hd' ≤ TA.cntL k s.hd) (hh:TA.HoldsL Z w.heap hd'):SRel C Z ⟨s.tm,s.bx,hd'⟩ a w:=by
 have hcnt:∀ k,(StA.mk s.tm s.bx hd').cnt k ≤ s.cnt k:=by
  intro k;have:=hc k;simp only [StA.cnt];omega
 exact {
  defers:=H.defers
  size:=H.size
  tm:=fun n y hy=>(H.tm n y hy).keep (fun _ hz=>hz) (fun _ _=>rfl) (fun r _ _ _ _ _ _ _ _ _ _=>by cases r<;>rfl) (fun r o p e base cs ad h1 h2=>⟨base,cs,by cases r<;>exact h1,h2⟩)
  bx:=H.bx
  uniq:=fun k=>Nat.le_trans (hcnt k) (H.uniq k)
  notZ:=fun k hk=>H.notZ k (Nat.lt_of_lt_of_le hk (hcnt k))
  lt:=fun k hk=>H.lt k (Nat.lt_of_lt_of_le hk (hcnt k))
  zlt:=H.zlt
  own:=fun k hk=>H.own k (Nat.lt_of_lt_of_le hk (hcnt k))
  z0:=H.z0
  zext:=H.zext
  pk:=H.pk
  os:=H.os
  tape:=H.tape
  output:=H.output
  grown:=H.grown
  kept:=H.kept
  part:=H.part
  pbx:=H.pbx
  pbo:=H.pbo
  pbi:=H.pbi
  hand:=hh
  pbh:=fun y hy=>by
   have h1:=hc y.1;have h2:=H.pbh y hy;show TA.cntL y.1 hd'=0;omega }
end Go.OM
namespace Go.OM
namespace TA
theorem swap_place {Z:Nat→Prop} {h:Array Obj}:∀ (p:Path) (cs:List TA) (o k:Nat) (old new:List TA),getP cs o p k=some old→new.length=k→vals new=vals old →
  HoldsL Z h cs→(∀ c ∈ cs,c.isCell=true)→HoldsL Z h new→(∀ c ∈ new,c.isCell=true) →
  HoldsL Z h (setP cs o p new)∧(∀ c ∈ setP cs o p new,c.isCell=true)∧(setP cs o p new).length=cs.length∧vals (setP cs o p new)=vals cs ∧
  (∀ q,cntL q (setP cs o p new) + cntL q old=cntL q cs + cntL q new)
 | [],cs,o,k,old,new,hg,hk,hv,hH,hC,hN,hNC=>by
  simp only [getP] at hg;split at hg
  case isFalse=>cases hg
  rename_i hle;injection hg with hg
  have hsplit:=vU hle;have hmem:∀ c ∈ cs.take o ++ new ++ cs.drop (o + new.length),c ∈ cs ∨ c ∈ new:=by
   intro c hc;simp only [List.mem_append] at hc;rcases hc with (hc | hc) | hc
   ·exact .inl (List.mem_of_mem_take hc)
   ·exact .inr hc
   exact .inl (List.mem_of_mem_drop hc)
  refine ⟨?_,?_,?_,?_,?_⟩
  ·simp only [setP];rw [holdsL_iff] at hH hN ⊢;intro c hc;exact (hmem c hc).elim (hH c) (hN c)
  ·intro c hc;exact (hmem c hc).elim (hC c) (hNC c)
  ·simp only [setP,List.length_append,List.length_take,List.length_drop];omega
  ·simp only [setP,hk,vals_append,hv];subst hg
   conv=>rhs;rw [hsplit]
   simp only [vals_append]
  intro q;subst hg;simp only [setP,hk]
  conv=>rhs;rw [hsplit]
  simp only [cntL_append];omega
 | (i,o') :: p,cs,o,k,old,new,hg,hk,hv,hH,hC,hN,hNC=>by
  simp only [getP] at hg;split at hg
  case h_2=>cases hg
  rename_i s b1 off1 cap es hcs;split at hg
  case h_2=>cases hg
  rename_i e he;have hsl:=holdsL_get hH hcs;simp only [Holds] at hsl;obtain ⟨hm,hle,_,hHes,hsz⟩:=hsl;have heH:=holdsL_get hHes he;obtain ⟨r1,r2,r3,r4,r5⟩:=swap_place p _ _ _ _ _ hg hk hv (holds_cells heH) (isCell_mem_cells heH) hN hNC;have hset:(setP cs o ((i,o') :: p) new)=cs.set o (.sl true s b1 off1 cap (es.set i (e.withCells (setP e.cells o' p new)))):=by simp only [setP,hcs,he]
  have hcells:(e.withCells (setP e.cells o' p new)).cells=setP e.cells o' p new:=cells_withCells r3 r2;have hlt:i < es.length:=(List.getElem?_eq_some_iff.1 he).1;have hsz1:e.cells.length=s:=hsz e (List.mem_of_getElem? he);have hsz':∀ x ∈ es.set i (e.withCells (setP e.cells o' p new)),x.cells.length=s:=by
   intro x hx;rcases List.mem_or_eq_of_mem_set hx with hx | hx
   ·exact hsz x hx
   rw [hx,hcells,r3,hsz1]
  have hflat:vals ((es.set i (e.withCells (setP e.cells o' p new))).flatMap cells)=vals (es.flatMap cells):=by
   have key:∀ (l:List TA) (i:Nat) (e e':TA),l[i]? = some e→vals e'.cells=vals e.cells→vals ((l.set i e').flatMap cells)=vals (l.flatMap cells):=by
    intro l;induction l with
    | nil=>intro i e e' h;simp at h
    | cons t ts ih =>
     intro i e e' h hvv;cases i with
     | zero=>simp only [List.getElem?_cons_zero,Option.some.injEq] at h;subst h;simp [vals_append,hvv]
     | succ i=>simp only [List.getElem?_cons_succ] at h;simp [vals_append,ih i e e' h hvv]
   exact key es i e _ he (by rw [hcells,r4])
  have holt:o < cs.length:=(List.getElem?_eq_some_iff.1 hcs).1;rw [hset];refine ⟨?_,?_,by simp,?_,?_⟩
  ·rw [holdsL_iff];intro x hx;rcases List.mem_or_eq_of_mem_set hx with hx | hx
   ·exact holdsL_iff.1 hH x hx
   rw [hx];simp only [Holds];refine ⟨by rw [hflat];exact hm,by rw [List.length_set];exact hle,(fun hh=>nomatch hh),?_,hsz'⟩
   rw [holdsL_iff];intro y hy;rcases List.mem_or_eq_of_mem_set hy with hy | hy
   ·exact holdsL_iff.1 hHes y hy
   rw [hy];exact holds_withCells r3 r2 r1
  ·intro c hc;rcases List.mem_or_eq_of_mem_set hc with hc | hc
   ·exact hC c hc
   rw [hc];rfl
  ·simp only [vals,List.map_set];apply List.ext_getElem?;intro j;by_cases hj:j=o
   ·subst hj;rw [List.getElem?_set_self (by simpa using holt),List.getElem?_map,hcs]
    simp [val1]
   rw [List.getElem?_set_ne (Ne.symm hj)]
  intro q;have h1:=r5 q;rw [cntL_cells] at h1;have h2:=oQ q (x:=e.withCells (setP e.cells o' p new)) he;rw [cnt_withCells q r3] at h2;have h3:=oQ q (x:=TA.sl true s b1 off1 cap (es.set i (e.withCells (setP e.cells o' p new)))) hcs;simp only [cnt] at h3;omega
def bury (c:TA):TA:=if c.er.hasOwn=true then .dead c.val1 else c
theorem bury_val (c:TA):c.bury.val1=c.val1:=by unfold bury;split<;>rfl
theorem bury_cnt (k:Nat) (c:TA):c.bury.cnt k=0:=by
 unfold bury;split
 ·simp [cnt]
 rename_i h;exact cnt_of_noOwn k c (by simpa using h)
theorem oneCell_val1 {Z:Nat→Prop} {h:Array Obj} {c:TA} (hc:c.isCell=true) (hh:c.Holds Z h):OneCell c.val1:=by
 cases c<;>simp_all [isCell,Holds,val1,OneCell]
theorem bury_holds {Z:Nat→Prop} {h:Array Obj} {c:TA} (hc:c.isCell=true) (hh:c.Holds Z h):c.bury.Holds Z h:=by
 unfold bury;split
 ·simp only [Holds];exact oneCell_val1 hc hh
 exact hh
theorem bury_isCell {c:TA} (hc:c.isCell=true):c.bury.isCell=true:=by
 unfold bury;split
 ·rfl
 exact hc
end TA
def T.bury (c:T):T:=if c.hasOwn=true then .dead else c
theorem TA.er_bury (c:TA):c.bury.er=c.er.bury:=by
 unfold TA.bury T.bury;split<;>simp [TA.er]
namespace TA
theorem er_get:∀ (p:Path) (cs:List TA) (o k:Nat) (l:List T),T.getP (erL cs) o p k=some l→∃ l',getP cs o p k=some l'∧erL l'=l
 | [],cs,o,k,l,h=>by
  simp only [T.getP,erL_map,List.length_map] at h;split at h
  ·rename_i hle;injection h with h
   exact ⟨_,by simp only [getP];rw [if_pos hle],by rw [← h,erL_map];simp⟩
  cases h
 | (i,o') :: p,cs,o,k,l,h=>by
  simp only [T.getP,erL_map,List.getElem?_map] at h;cases hcs:cs[o]? with
  | none=>simp [hcs] at h
  | some c =>
   simp only [hcs,Option.map_some] at h;cases c with
   | sl ow s b off cap es =>
    simp only [er] at h;cases ow with
    | false=>simp at h
    | true =>
     simp only [erL_map,List.getElem?_map] at h;cases he:es[i]? with
     | none=>simp [he] at h
     | some e =>
      simp only [he,Option.map_some] at h;rw [er_cells] at h;obtain ⟨l',h1,h2⟩:=er_get p _ _ _ _ h;exact ⟨l',by simp only [getP,hcs,he];exact h1,h2⟩
   | nl ow s A=>cases ow<;>simp [er] at h
   | v x=>simp [er] at h
   | agg cs=>simp [er] at h
   | dead x=>simp [er] at h
   | clo f cs=>simp [er] at h
   | pt b off cs=>simp [er] at h
theorem er_withCells (e:TA) (l:List TA):(e.withCells l).er=e.er.withCells (erL l):=by
 cases e with
 | agg cs=>rfl
 | _=>cases l<;>simp [withCells,T.withCells,er,erL]
theorem er_set:∀ (p:Path) (cs:List TA) (o:Nat) (new:List TA),erL (setP cs o p new)=T.setP (erL cs) o p (erL new)
 | [],cs,o,new=>by simp [setP,T.setP,erL_map]
 | (i,o') :: p,cs,o,new=>by
  simp only [setP,T.setP,erL_map,List.getElem?_map];cases hcs:cs[o]? with
  | none=>simp
  | some c =>
   simp only [Option.map_some];cases c with
   | sl ow s b off cap es =>
    cases ow with
    | false=>simp [er]
    | true =>
     simp only [er,erL_map,List.getElem?_map];cases he:es[i]? with
     | none=>simp
     | some e =>
      simp only [Option.map_some,List.map_set,er,erL_map]
      congr 2
      rw [er_withCells,er_cells,er_set p];simp only [erL_map]
   | nl ow s A=>cases ow<;>simp [er]
   | v x=>simp [er]
   | agg cs=>simp [er]
   | dead x=>simp [er]
   | clo f cs=>simp [er]
   | pt b off cs=>simp [er]
theorem er_len (l:List TA):(erL l).length=l.length:=by simp [erL_map]
theorem setP_length (new:List TA):∀ (p:Path) (cs:List TA) (o k:Nat) (old:List TA),getP cs o p k=some old→new.length=k→(setP cs o p new).length=cs.length:=by
 intro p cs o k old hg hk;cases p with
 | nil =>
  simp only [getP] at hg;split at hg
  ·simp only [setP,List.length_append,List.length_take,List.length_drop];omega
  cases hg
 | cons x p =>
  simp only [setP];split
  ·split<;>simp
  rfl
theorem setP_isCell (new:List TA) (hnc:∀ c ∈ new,c.isCell=true):∀ (p:Path) (cs:List TA) (o:Nat),(∀ c ∈ cs,c.isCell=true)→∀ c ∈ setP cs o p new,c.isCell=true:=by
 intro p cs o hcs c hc;cases p with
 | nil =>
  simp only [setP,List.mem_append] at hc;rcases hc with (hc | hc) | hc
  ·exact hcs c (List.mem_of_mem_take hc)
  ·exact hnc c hc
  exact hcs c (List.mem_of_mem_drop hc)
 | cons x p =>
  simp only [setP] at hc;split at hc
  ·split at hc
   ·rcases List.mem_or_eq_of_mem_set hc with hc | hc
    ·exact hcs c hc
    rw [hc];rfl
   exact hcs c hc
  exact hcs c hc
theorem aNt:∀ (l:List TA) (j:Nat) (t:TA),l[j]? = some t→T.hasOwnL (erL l)=false→t.er.hasOwn=false:=by
 intro l;induction l with
 | nil=>intro j t hj;simp at hj
 | cons y ys ih =>
  intro j t hj hl;simp only [erL,T.hasOwnL,Bool.or_eq_false_iff] at hl;cases j with
  | zero=>simp only [List.getElem?_cons_zero,Option.some.injEq] at hj;subst hj;exact hl.1
  | succ j=>simp only [List.getElem?_cons_succ] at hj;exact ih j t hj hl.2
theorem addr_keep {Z:Nat→Prop} {h:Array Obj}:∀ (p:Path) (base:Option (Nat × Nat)) (cs:List TA) (o k:Nat) (old new:List TA) (o2:Nat) (p2:Path) (ad:Nat × Nat),getP cs o p k=some old→new.length=k →
  T.hasOwnL (erL old)=false→(∀ c ∈ new,c.isCell=true)→HoldsL Z h cs→addrP base cs o2 p2=some ad→addrP base (setP cs o p new) o2 p2=some ad
 | _,base,cs,o,k,old,new,o2,[],ad,hg,hk,hno,hnc,hcc,ha=>by
  simpa [addrP] using ha
 | [],base,cs,o,k,old,new,o2,(i2,o3) :: p2,ad,hg,hk,hno,hnc,hcc,ha=>by
  simp only [getP] at hg;split at hg
  case isFalse=>cases hg
  rename_i hle;injection hg with hg
  simp only [addrP] at ha ⊢;simp only [setP];rw [hk,aFf hle hk];by_cases hr:o ≤ o2∧o2 < o + k
  ·exfalso;split at ha
   ·rename_i s b off cap es hcs;have hin:old[o2 - o]? = some (.sl true s b off cap es):=by
     rw [← hg,List.getElem?_take,if_pos (by omega),List.getElem?_drop,show o + (o2 - o)=o2 by omega];exact hcs
    have:=aNt _ _ _ hin hno;simp [er,T.hasOwn] at this
   cases ha
  rw [if_neg hr];exact ha
 | (i,o') :: p,base,cs,o,k,old,new,o2,(i2,o3) :: p2,ad,hg,hk,hno,hnc,hcc,ha=>by
  simp only [getP] at hg;split at hg
  case h_2=>cases hg
  rename_i s b1 off1 cap es hcs;split at hg
  case h_2=>cases hg
  rename_i e he;have hset:(setP cs o ((i,o') :: p) new)=cs.set o (.sl true s b1 off1 cap (es.set i (e.withCells (setP e.cells o' p new)))):=by simp only [setP,hcs,he]
  rw [hset];simp only [addrP] at ha ⊢;have holt:o < cs.length:=(List.getElem?_eq_some_iff.1 hcs).1;by_cases ho:o2=o
  ·subst ho;rw [List.getElem?_set_self holt];rw [hcs] at ha;simp only at ha ⊢;have hlt:i < es.length:=(List.getElem?_eq_some_iff.1 he).1;by_cases hi:i2=i
   ·subst hi;rw [List.getElem?_set_self hlt];simp only [he] at ha;simp only;have hsl:=holdsL_get hcc hcs;simp only [Holds] at hsl;have heH:=holdsL_get hsl.2.2.2.1 he;rw [cells_withCells (setP_length new p _ _ _ _ hg hk) (setP_isCell new hnc p _ _ (isCell_mem_cells heH))];exact addr_keep p _ _ _ _ _ _ _ p2 ad hg hk hno hnc (holds_cells heH) ha
   rw [List.getElem?_set_ne (Ne.symm hi)];exact ha
  rw [List.getElem?_set_ne (Ne.symm ho)];exact ha
end TA
end Go.OM
namespace Go.OM
variable {C:Ctx} {Z:Nat→Prop} {s:StA} {a:Act} {w w':World}
theorem AVA.cnt_t (k:Nat) (y:TA):(AVA.t y).cnt k=y.cnt k:=rfl
theorem AVA.cnt_u (k:Nat):AVA.u.cnt k=0:=rfl
def AVA.killK (full:Bool) (r:Root) (x:AVA):AVA:=if full=true then x.kill r else match x with
 | .al r' o p k=>if r'=r then .u else .al r' o p k
 | x=>x
def AV.killK (full:Bool) (r:Root) (x:AV):AV:=if full=true then x.kill r else match x with
 | .al r' o p k=>if r'=r then .u else .al r' o p k
 | x=>x
theorem AVA.er_killK (full:Bool) (r:Root) (x:AVA):(x.killK full r).er=x.er.killK full r:=by
 unfold AVA.killK AV.killK;cases full with
 | true=>simp [AVA.er_kill]
 | false =>
  cases x with
  | al r' o p k=>by_cases h:r'=r<;>simp [AVA.er,h]
  | _=>rfl
theorem AVA.cnt_killK (full:Bool) (r:Root) (k:Nat) (x:AVA):(x.killK full r).cnt k=x.cnt k:=by
 unfold AVA.killK;cases full with
 | true=>simp [AVA.cnt_kill]
 | false =>
  cases x with
  | al r' o p k=>by_cases h:r'=r<;>simp [AVA.cnt,h]
  | _=>rfl
theorem AVA.killK_t {full:Bool} {r:Root} {x:AVA} {y:TA}:x.killK full r = .t y ↔ x = .t y:=by
 unfold AVA.killK;cases full with
 | true =>
  simp only [if_true];cases x with
  | al r' o p k=>by_cases h:r'=r<;>simp [AVA.kill,h]
  | ref r' o p=>by_cases h:r'=r∧p ≠ []<;>simp [AVA.kill,h]
  | _=>simp [AVA.kill]
 | false =>
  simp only [Bool.false_eq_true,if_false];cases x with
  | al r' o p k=>by_cases h:r'=r<;>simp [h]
  | _=>simp
theorem aHd (full:Bool) (r:Root) (k:Nat) (l:List (Nat × AVA)):tot (AVA.cnt k) (l.map fun e=>(e.1,e.2.killK full r))=tot (AVA.cnt k) l:=by
 rw [uQ];exact congrArg (fun f=>tot f l) (funext fun x=>AVA.cnt_killK full r k x)
def StA.setRoot (s:StA) (full:Bool) (r:Root) (cs' hd':List TA):StA :=
 match r with
 | .slot n=>match look (s.tm.map fun e=>(e.1,e.2.killK full r)) n with
  | some (AVA.t x)=>⟨put (s.tm.map fun e=>(e.1,e.2.killK full r)) n (.t (x.withCells cs')),s.bx,hd'⟩
  | _=>⟨s.tm.map fun e=>(e.1,e.2.killK full r),s.bx,hd'⟩
 | .box n=>match look s.bx n with
  | some x=>⟨s.tm.map fun e=>(e.1,e.2.killK full r),put s.bx n ⟨x.b,x.off,cs'⟩,hd'⟩
  | none=>⟨s.tm.map fun e=>(e.1,e.2.killK full r),s.bx,hd'⟩
def St.setRoot (s:St) (full:Bool) (r:Root) (cs':List T):St :=
 match r with
 | .slot n=>match look (s.tm.map fun e=>(e.1,e.2.killK full r)) n with
  | some (AV.t x)=>⟨put (s.tm.map fun e=>(e.1,e.2.killK full r)) n (.t (x.withCells cs')),s.bx⟩
  | _=>⟨s.tm.map fun e=>(e.1,e.2.killK full r),s.bx⟩
 | .box n=>match look s.bx n with
  | some _=>⟨s.tm.map fun e=>(e.1,e.2.killK full r),put s.bx n cs'⟩
  | none=>⟨s.tm.map fun e=>(e.1,e.2.killK full r),s.bx⟩
def St.rootCells (s:St):Root→Option (List T)
 | .slot n=>match look s.tm n with
  | some (.t x)=>some x.cells
  | _=>none
 | .box n=>look s.bx n
theorem StA.er_rootCells (s:StA) (r:Root):s.er.rootCells r=(s.rootCells r).map fun x=>TA.erL x.2:=by
 cases r with
 | slot n =>
  simp only [St.rootCells,StA.rootCells,nF];cases look s.tm n with
  | none=>rfl
  | some x=>cases x<;>simp [AVA.er,TA.er_cells]
 | box n =>
  simp only [St.rootCells,StA.rootCells,lY];cases look s.bx n<;>rfl
theorem StA.er_setRoot (s:StA) (full:Bool) (r:Root) (cs' hd':List TA):(s.setRoot full r cs' hd').er=s.er.setRoot full r (TA.erL cs'):=by
 have htm:(s.tm.map fun e=>(e.1,e.2.killK full r)).map (fun e=>(e.1,e.2.er))=s.er.tm.map fun e=>(e.1,e.2.killK full r):=by
  simp [StA.er,AVA.er_killK]
 have hlook:∀ n,look (s.er.tm.map fun e=>(e.1,e.2.killK full r)) n=(look (s.tm.map fun e=>(e.1,e.2.killK full r)) n).map AVA.er:=by
  intro n;rw [← htm];exact bU AVA.er _ n
 cases r with
 | slot n =>
  simp only [StA.setRoot,St.setRoot,hlook];cases hx:look (s.tm.map fun e=>(e.1,e.2.killK full (.slot n))) n with
  | none=>exact congrArg (fun l=>St.mk l s.er.bx) htm
  | some x =>
   cases x with
   | t x =>
    refine (congrArg (fun l=>St.mk l s.er.bx) (pH AVA.er _ n (.t (x.withCells cs')))).trans ?_;rw [htm];simp only [AVA.er,TA.er_withCells,Option.map_some]
   | _=>exact congrArg (fun l=>St.mk l s.er.bx) htm
 | box n =>
  simp only [StA.setRoot,St.setRoot,lY];cases hx:look s.bx n with
  | none=>exact congrArg (fun l=>St.mk l s.er.bx) htm
  | some x =>
   refine (congrArg (fun l=>St.mk _ l) (pH (fun x:BoxA=>TA.erL x.cs) s.bx n ⟨x.b,x.off,cs'⟩)).trans ?_;exact congrArg (fun l=>St.mk l (put s.er.bx n (TA.erL cs'))) htm
theorem aFq {x:TA} {l:List TA} (hl:l.length=x.cells.length) (hc:∀ c ∈ l,c.isCell=true) (hv:TA.vals l=TA.vals x.cells):(x.withCells l).val=x.val:=by
 cases x with
 | agg cs=>simp only [TA.withCells,TA.val];rw [hv];rfl
 | _ =>
  simp only [TA.cells,List.length_cons,List.length_nil] at hl;obtain ⟨y,rfl⟩:=List.length_eq_one_iff.1 hl;have hy:=hc y (by simp)
  simp only [TA.vals,TA.cells,List.map_cons,List.map_nil,List.cons.injEq,and_true] at hv;simp only [TA.withCells,List.headD_cons];cases y<;>first | (simp [TA.isCell] at hy;done) | (simp only [TA.val];exact hv)
theorem cK {full:Bool} {r r':Root} {cs' hd':List TA} (hne:r' ≠ r):(s.setRoot full r cs' hd').rootCells r'=s.rootCells r':=by
 have hk:∀ n,(match look (s.tm.map fun e=>(e.1,e.2.killK full r)) n with | some (.t x)=>some (none,x.cells) | _=>none)=(match look s.tm n with | some (.t x)=>(some (none,x.cells):Option (Option (Nat × Nat) × List TA)) | _=>none):=by
  intro n;rw [bU];cases hx:look s.tm n with
  | none=>rfl
  | some x =>
   simp only [Option.map_some];cases hy:x.killK full r with
   | t y=>rw [AVA.killK_t.1 hy]
   | _ =>
    cases x with
    | t z=>rw [AVA.killK_t.2 rfl] at hy;cases hy
    | _=>rfl
 cases r with
 | slot n =>
  simp only [StA.setRoot];split
  ·cases r' with
   | slot m =>
    have hm:m ≠ n:=fun e=>hne (by rw [e])
    simp only [StA.rootCells,cM _ _ hm];exact hk m
   | box m=>rfl
  cases r' with
  | slot m=>exact hk m
  | box m=>rfl
 | box n =>
  simp only [StA.setRoot];split
  ·cases r' with
   | slot m=>exact hk m
   | box m =>
    have hm:m ≠ n:=fun e=>hne (by rw [e])
    simp only [StA.rootCells,cM _ _ hm]
  cases r' with
  | slot m=>exact hk m
  | box m=>rfl
theorem SRel.upd {full:Bool} {r:Root} {base:Option (Nat × Nat)} {cs cs' hd':List TA} {h':Array Obj} {b:Nat} (H:SRel C Z s a w) (hr:s.rootCells r=some (base,cs))
  (hsz:h'.size=w.heap.size) (hb:∀ k,k ≠ b→h'[k]? = w.heap[k]?) (hbo:h'=w.heap ∨ 0 < aBs base b + TA.cntL b cs)
  (hlen:cs'.length=cs.length) (hH:TA.HoldsL Z h' cs') (hC:∀ c ∈ cs',c.isCell=true)
  (hM:∀ b0 o0,base=some (b0,o0)→TA.Mem h' true b0 o0 cs.length (TA.vals cs')) (hv:base=none→TA.vals cs'=TA.vals cs)
  (hcnt:∀ k,TA.cntL k cs' + TA.cntL k hd' ≤ TA.cntL k cs + TA.cntL k s.hd) (hhd:TA.HoldsL Z h' hd')
  (hout:∀ off n,base=some (b,off)→cs.length ≤ n→h'=w.heap ∨ aBu w.heap h' b off n)
  (href:full=false→∀ o p ad,TA.addrP base cs o p=some ad→TA.addrP base cs' o p=some ad) :
  SRel C Z (s.setRoot full r cs' hd') a { w with heap:=h' }:=by
 -- where the root stands
 have hin:∀ k,aBs base k + TA.cntL k cs ≤ s.cnt k:=by
  intro k;cases r with
  | slot n =>
   simp only [StA.rootCells] at hr;split at hr
   ·rename_i x hx;injection hr with hr
    injection hr with e1 e2
    subst e1;subst e2;have:=aIr hx k;simp only [AVA.cnt] at this;simp only [aBs,TA.cntL_cells];omega
   cases hr
  | box n =>
   simp only [StA.rootCells] at hr;obtain ⟨x,hx,hx2⟩:=Option.map_eq_some_iff.1 hr;injection hx2 with e1 e2
   subst e1;subst e2;have:=wV hx k;simp only [BoxA.cnt] at this;simp only [aBs];omega
 have hbz:¬ (h'=w.heap)→¬ Z b:=fun hne=>H.notZ b (by
  have h1:=hin b;rcases hbo with h | h
  ·exact absurd h hne
  omega)
 have hzk:∀ k,Z k→h'[k]? = w.heap[k]?:=by
  intro k hk;by_cases hh:h'=w.heap
  ·rw [hh]
  exact hb k (fun e=>hbz hh (e ▸ hk))
 -- blocks that others own are as they were
 have hoth:∀ k n,0 < n→n + (aBs base k + TA.cntL k cs) ≤ s.cnt k→h'[k]? = w.heap[k]?:=by
  intro k n hn hle;by_cases hk:k=b
  ·subst hk;rcases hbo with h | h
   ·rw [h]
   have:=H.uniq k;omega
  exact hb k hk
 have hcntS:∀ k,(s.setRoot full r cs' hd').cnt k ≤ s.cnt k:=by
  intro k;have hc:=hcnt k;cases r with
  | slot n =>
   simp only [StA.rootCells] at hr;split at hr
   ·rename_i x hx;injection hr with hr
    injection hr with e1 e2
    subst e1;subst e2;have hlk:look (s.tm.map fun e=>(e.1,e.2.killK full (.slot n))) n=some (.t x):=by
     rw [bU,hx];simp only [Option.map_some];rw [AVA.killK_t.2 rfl]
    simp only [StA.setRoot,hlk,StA.cnt];have:=eF (AVA.cnt k) (x:=.t (x.withCells cs')) hlk;rw [aHd,AVA.cnt_t,AVA.cnt_t,TA.cnt_withCells k hlen] at this;rw [TA.cntL_cells] at hc;omega
   cases hr
  | box n =>
   simp only [StA.rootCells] at hr;obtain ⟨x,hx,hx2⟩:=Option.map_eq_some_iff.1 hr;injection hx2 with e1 e2
   subst e1;subst e2;simp only [StA.setRoot,hx,StA.cnt];have:=eF (BoxA.cnt k) (x:=⟨x.b,x.off,cs'⟩) hx;simp only [BoxA.cnt] at this;have h2:=aHd full (.box n) k s.tm;have h9:tot (fun x=>BoxA.cnt k x) s.bx=tot (BoxA.cnt k) s.bx:=rfl;have h10:tot (fun x:BoxA=>(if x.b=k then 1 else 0) + TA.cntL k x.cs) s.bx=tot (BoxA.cnt k) s.bx:=rfl;have h11:∀ l,tot (fun x:BoxA=>(if x.b=k then 1 else 0) + TA.cntL k x.cs) l=tot (BoxA.cnt k) l:=fun _=>rfl;omega
  -- the root itself, behind
 have hself:(s.setRoot full r cs' hd').rootCells r=some (base,cs'):=by
  cases r with
  | slot n =>
   simp only [StA.rootCells] at hr;split at hr
   ·rename_i x hx;injection hr with hr
    injection hr with e1 e2
    subst e1;subst e2;have hlk:look (s.tm.map fun e=>(e.1,e.2.killK full (.slot n))) n=some (.t x):=by
     rw [bU,hx];simp only [Option.map_some];rw [AVA.killK_t.2 rfl]
    simp only [StA.setRoot,hlk,StA.rootCells,bR];rw [TA.cells_withCells hlen hC]
   cases hr
  | box n =>
   simp only [StA.rootCells] at hr;obtain ⟨x,hx,hx2⟩:=Option.map_eq_some_iff.1 hr;injection hx2 with e1 e2
   subst e1;subst e2;simp only [StA.setRoot,hx,StA.rootCells,bR,Option.map_some]
 -- what a slot held, other than the root's
 have hval:∀ n y,look s.tm n=some y→(r = .slot n→False)→ValOk (s.setRoot full r cs' hd') Z h' (y.killK full r) (a.tmps.getD n undef):=by
  intro n y hy hnr;have hv:=H.tm n y hy;have hfr:∀ k,(0 < y.cnt k ∨ Z k)→h'[k]? = w.heap[k]?:=by
   intro k hk;rcases hk with hk | hk
   ·refine hoth k (y.cnt k) hk ?_
    -- two places of one state
    cases r with
    | slot m =>
     simp only [StA.rootCells] at hr;split at hr
     ·rename_i x hx;injection hr with hr
      injection hr with e1 e2
      subst e1;subst e2;have h1:=eF (AVA.cnt k) (x:=.u) hx;have h2:look (Go.OM.put s.tm m .u) n=some y:=by rw [cM _ _ (fun e=>hnr (by rw [e]))];exact hy
      have h3:=bT (AVA.cnt k) h2;rw [AVA.cnt_t,AVA.cnt_u] at h1;simp only [aBs,TA.cntL_cells,StA.cnt];omega
     cases hr
    | box m =>
     simp only [StA.rootCells] at hr;obtain ⟨x,hx,hx2⟩:=Option.map_eq_some_iff.1 hr;injection hx2 with e1 e2
     subst e1;subst e2;have h1:=bT (AVA.cnt k) hy;have h2:=bT (BoxA.cnt k) hx;simp only [BoxA.cnt] at h2;have h11:∀ l,tot (fun x:BoxA=>(if x.b=k then 1 else 0) + TA.cntL k x.cs) l=tot (BoxA.cnt k) l:=fun _=>rfl;simp only [aBs,StA.cnt];omega
   exact hzk k hk
  unfold AVA.killK;cases full with
  | true =>
   simp only [if_true];cases y with
   | al r' o p k =>
    simp only [AVA.kill];split
    ·trivial
    rename_i hne;exact hv.keep (fun _ hz=>hz) hfr (fun r1 o p k e base cs l h1 h2 h3=>cK (by injection e with e;rw [← e];exact hne)) (fun r1 o p e=>by cases e)
   | ref r' o p =>
    simp only [AVA.kill];split
    ·trivial
    rename_i hne;refine hv.keep (fun _ hz=>hz) hfr (fun r1 o p k e=>by cases e) (fun r1 o1 p1 e base1 cs1 ad h1 h2=>?_)
    injection e with e1 e2 e3
    subst e1;subst e2;subst e3;by_cases hrr:r'=r
    ·subst hrr;have hp:p=[]:=by
      cases p with
      | nil=>rfl
      | cons z zs=>exact absurd ⟨rfl,by simp⟩ hne
     subst hp;rw [hr] at h1;injection h1 with h1
     injection h1 with e1 e2
     subst e1;subst e2;exact ⟨base,cs',hself,by simpa [TA.addrP] using h2⟩
    exact ⟨base1,cs1,(cK hrr).trans h1,h2⟩
   | u=>trivial
   | t x=>exact hv.keep (fun _ hz=>hz) hfr (fun r1 o p k e=>by cases e) (fun r1 o p e=>by cases e)
   | tup xs=>exact hv.keep (fun _ hz=>hz) hfr (fun r1 o p k e=>by cases e) (fun r1 o p e=>by cases e)
   | rop b off cs o=>exact hv.keep (fun _ hz=>hz) hfr (fun r1 o p k e=>by cases e) (fun r1 o p e=>by cases e)
   | clo f xs=>exact hv.keep (fun _ hz=>hz) hfr (fun r1 o p k e=>by cases e) (fun r1 o p e base1 cs1 ad h1 h2=>by
     obtain ⟨⟨rfl,rfl⟩,m,rfl,hm⟩:=e;by_cases hrr:Root.box m=r
     ·subst hrr;rw [hr] at h1;injection h1 with h1
      injection h1 with e1 e2
      subst e1;subst e2;exact ⟨base,cs',hself,by simpa [TA.addrP] using h2⟩
     exact ⟨base1,cs1,(cK hrr).trans h1,h2⟩)
  | false =>
   simp only [Bool.false_eq_true,if_false];cases y with
   | al r' o p k =>
    simp only;split
    ·trivial
    rename_i hne;exact hv.keep (fun _ hz=>hz) hfr (fun r1 o p k e base cs l h1 h2 h3=>cK (by injection e with e;rw [← e];exact hne)) (fun r1 o p e=>by cases e)
   | ref r' o p =>
    refine hv.keep (fun _ hz=>hz) hfr (fun r1 o p k e=>by cases e) (fun r1 o1 p1 e base1 cs1 ad h1 h2=>?_)
    injection e with e1 e2 e3
    subst e1;subst e2;subst e3;by_cases hrr:r'=r
    ·subst hrr;rw [hr] at h1;injection h1 with h1
     injection h1 with e1 e2
     subst e1;subst e2;exact ⟨base,cs',hself,href rfl _ _ _ h2⟩
    exact ⟨base1,cs1,(cK hrr).trans h1,h2⟩
   | u=>trivial
   | t x=>exact hv.keep (fun _ hz=>hz) hfr (fun r1 o p k e=>by cases e) (fun r1 o p e=>by cases e)
   | tup xs=>exact hv.keep (fun _ hz=>hz) hfr (fun r1 o p k e=>by cases e) (fun r1 o p e=>by cases e)
   | rop b off cs o=>exact hv.keep (fun _ hz=>hz) hfr (fun r1 o p k e=>by cases e) (fun r1 o p e=>by cases e)
   | clo f xs=>exact hv.keep (fun _ hz=>hz) hfr (fun r1 o p k e=>by cases e) (fun r1 o p e base1 cs1 ad h1 h2=>by
     obtain ⟨⟨rfl,rfl⟩,m,rfl,hm⟩:=e;by_cases hrr:Root.box m=r
     ·subst hrr;rw [hr] at h1;injection h1 with h1
      injection h1 with e1 e2
      subst e1;subst e2;exact ⟨base,cs',hself,by simpa [TA.addrP] using h2⟩
     exact ⟨base1,cs1,(cK hrr).trans h1,h2⟩)
 have hPB0:∀ x ∈ C.PB,TA.cntL x.1 cs=0:=by
  intro x hx;cases r with
  | slot n =>
   simp only [StA.rootCells] at hr;split at hr
   ·rename_i y hy;injection hr with hr
    injection hr with e1 e2
    subst e1;subst e2;have:=H.pbo x hx n _ hy;simpa [TA.cntL_cells,AVA.cnt] using this
   cases hr
  | box n =>
   simp only [StA.rootCells] at hr;obtain ⟨y,hy,hy2⟩:=Option.map_eq_some_iff.1 hr;injection hy2 with e1 e2
   subst e1;subst e2;exact H.pbi x hx n y hy
 have hPB':∀ x ∈ C.PB,TA.cntL x.1 cs'=0∧TA.cntL x.1 hd'=0:=by
  intro x hx;have h1:=hcnt x.1;have h2:=hPB0 x hx;have h3:=H.pbh x hx;omega
 exact {
  defers:=H.defers
  size:=H.size
  tm:=fun n y hy=>by
   cases r with
   | slot m =>
    simp only [StA.rootCells] at hr;split at hr
    ·rename_i x hx;injection hr with hr
     injection hr with e1 e2
     subst e1;subst e2;have hlk:look (s.tm.map fun e=>(e.1,e.2.killK full (.slot m))) m=some (.t x):=by
      rw [bU,hx];simp only [Option.map_some];rw [AVA.killK_t.2 rfl]
     by_cases hnm:n=m
     ·subst hnm;simp only [StA.setRoot,hlk,bR] at hy;injection hy with hy
      subst hy;have hv0:=H.tm n _ hx;refine ⟨?_,TA.holds_withCells hlen hC hH⟩;rw [aFq hlen hC (hv rfl)];exact hv0.1
     simp only [StA.setRoot,hlk,cM _ _ hnm,bU] at hy;obtain ⟨z,hz,rfl⟩:=Option.map_eq_some_iff.1 hy;exact hval n z hz (fun e=>hnm (by injection e with e;exact e.symm))
    cases hr
   | box m =>
    have hy':look (s.tm.map fun e=>(e.1,e.2.killK full (.box m))) n=some y:=by
     simp only [StA.setRoot] at hy;split at hy<;>exact hy
    rw [bU] at hy';obtain ⟨z,hz,rfl⟩:=Option.map_eq_some_iff.1 hy';exact hval n z hz (fun e=>by cases e)
  bx:=fun n y hy=>by
   have hold:∀ n y,look s.bx n=some y→(r = .box n→False)→TA.Mem h' true y.b y.off y.cs.length (TA.vals y.cs)∧TA.HoldsL Z h' y.cs∧∀ c ∈ y.cs,c.isCell=true:=by
    intro n y hyy hnr;obtain ⟨g1,g2,g3⟩:=H.bx n y hyy;have hfr:∀ k,(0 < BoxA.cnt k y ∨ Z k)→h'[k]? = w.heap[k]?:=by
     intro k hk;rcases hk with hk | hk
     ·refine hoth k _ hk ?_;cases r with
      | slot m =>
       simp only [StA.rootCells] at hr;split at hr
       ·rename_i x hx;injection hr with hr
        injection hr with e1 e2
        subst e1;subst e2;have h1:=bT (AVA.cnt k) hx;have h2:=bT (BoxA.cnt k) hyy;rw [AVA.cnt_t] at h1;simp only [aBs,TA.cntL_cells,StA.cnt];omega
       cases hr
      | box m =>
       simp only [StA.rootCells] at hr;obtain ⟨x,hx,hx2⟩:=Option.map_eq_some_iff.1 hr;injection hx2 with e1 e2
       subst e1;subst e2;have hmn:n ≠ m:=fun e=>hnr (by rw [e])
       have h1:=eF (BoxA.cnt k) (x:=⟨0,0,[]⟩) hx;have h2:look (Go.OM.put s.bx m ⟨0,0,[]⟩) n=some y:=by rw [cM _ _ hmn];exact hyy
       have h3:=bT (BoxA.cnt k) h2;by_cases hk0:k=0
       ·-- the stand-in counts block 0
        subst hk0;have key:∀ (l:List (Nat × BoxA)),look l m=some x→look l n=some y→BoxA.cnt 0 y + BoxA.cnt 0 x ≤ tot (BoxA.cnt 0) l:=by
         intro l;induction l with
         | nil=>intro h;simp [look] at h
         | cons e l ih =>
          obtain ⟨q,z⟩:=e;intro h1 h2;simp only [look] at h1 h2;simp only [tot];by_cases e1:q=m
          ·rw [if_pos e1] at h1;injection h1 with h1
           subst h1;rw [if_neg (fun e2=>hmn (e2.symm.trans e1))] at h2;have:=bT (BoxA.cnt 0) h2;omega
          rw [if_neg e1] at h1;by_cases e2:q=n
          ·rw [if_pos e2] at h2;injection h2 with h2
           subst h2;have:=bT (BoxA.cnt 0) h1;omega
          rw [if_neg e2] at h2;have:=ih h1 h2;omega
        have:=key _ hx hyy;simp only [BoxA.cnt] at this;simp only [aBs,StA.cnt,BoxA.cnt];have h11:∀ l,tot (fun x:BoxA=>(if x.b=0 then 1 else 0) + TA.cntL 0 x.cs) l=tot (BoxA.cnt 0) l:=fun _=>rfl;have h12:=h11 s.bx;omega
       have h4:BoxA.cnt k ⟨0,0,[]⟩=0:=by simp [BoxA.cnt,TA.cntL,Ne.symm hk0]
       have h5:BoxA.cnt k x=(if x.b=k then 1 else 0) + TA.cntL k x.cs:=rfl;simp only [aBs,StA.cnt];omega
     exact hzk k hk
    refine ⟨g1.frame (hfr _ (.inl ?_)),TA.HoldsL.frame _ g2 (fun _ hz=>hz) (fun k hk=>hfr k ?_),g3⟩
    ·simp [BoxA.cnt];omega
    rcases hk with hk | hk
    ·left;simp only [BoxA.cnt];omega
    exact .inr hk
   cases r with
   | slot m =>
    have hy':look s.bx n=some y:=by
     simp only [StA.setRoot] at hy;split at hy<;>exact hy
    exact hold n y hy' (fun e=>by cases e)
   | box m =>
    simp only [StA.rootCells] at hr;obtain ⟨x,hx,hx2⟩:=Option.map_eq_some_iff.1 hr;injection hx2 with e1 e2
    subst e1;subst e2;simp only [StA.setRoot,hx] at hy;by_cases hnm:n=m
    ·subst hnm;rw [bR] at hy;injection hy with hy
     subst hy;exact ⟨by have:=hM _ _ rfl;rw [hlen];exact this,hH,hC⟩
    rw [cM _ _ hnm] at hy;exact hold n y hy (fun e=>hnm (by injection e with e;exact e.symm))
  uniq:=fun k=>Nat.le_trans (hcntS k) (H.uniq k)
  notZ:=fun k hk=>H.notZ k (Nat.lt_of_lt_of_le hk (hcntS k))
  lt:=fun k hk=>by show k < h'.size;rw [hsz];exact H.lt k (Nat.lt_of_lt_of_le hk (hcntS k))
  zlt:=fun k hk=>by show k < h'.size;rw [hsz];exact H.zlt k hk
  own:=fun k hk=>H.own k (Nat.lt_of_lt_of_le hk (hcntS k))
  z0:=H.z0
  zext:=H.zext
  pk:=fun x hx=>by
   obtain ⟨q1,cs0,q2,q3⟩:=H.pk x hx;refine ⟨q1,?_⟩;cases r with
   | slot m=>exact ⟨cs0,by simp only [StA.setRoot];split<;>exact q2,q3⟩
   | box m =>
    simp only [StA.rootCells] at hr;obtain ⟨y,hy,hy2⟩:=Option.map_eq_some_iff.1 hr;injection hy2 with e1 e2
    subst e1;subst e2;by_cases hnm:x.1=m
    ·subst hnm;rw [q2] at hy;injection hy with hy
     subst hy;exact ⟨cs',by simp only [StA.setRoot,q2,bR],hlen.trans q3⟩
    exact ⟨cs0,by simp only [StA.setRoot,hy];rw [cM _ _ hnm];exact q2,q3⟩
  os:=H.os
  tape:=H.tape
  output:=H.output
  grown:=by show _ ≤ h'.size;rw [hsz];exact H.grown
  kept:=fun k hk hf=>by
   show h'[k]? = _;by_cases hkb:k=b
   ·subst hkb;rcases hbo with h | h
    ·rw [h];exact H.kept k hk hf
    exfalso;have h1:=hin k;rcases H.own k (by omega) with h2 | h2
    ·exact hf h2
    omega
   rw [hb k hkb];exact H.kept k hk hf
  part:=fun x hx=>by
   show aBu C.w0.heap h' x.1 x.2.1 x.2.2;by_cases hxb:x.1=b
   ·rcases hbo with h | h
    ·rw [h];exact H.part x hx
    have h0:=hPB0 x hx;rw [hxb] at h0;cases base with
    | none=>simp [aBs] at h;omega
    | some b0 =>
     obtain ⟨b0,o0⟩:=b0;have hbb:b0=b:=by
      by_cases e:b0=b
      ·exact e
      rw [aOn _ e] at h;omega
     subst hbb;cases r with
     | slot n =>
      simp only [StA.rootCells] at hr;split at hr
      ·injection hr with hr
       injection hr with hr _
       cases hr
      cases hr
     | box n =>
      simp only [StA.rootCells] at hr;obtain ⟨y,hy,hy2⟩:=Option.map_eq_some_iff.1 hr;injection hy2 with e1 e2
      injection e1 with e1
      injection e1 with e1 e3
      subst e1;subst e2;subst e3;obtain ⟨p1,p2⟩:=H.pbx x hx n y hy hxb.symm;rcases hout y.off x.2.2 rfl p2 with h3 | h3
      ·rw [h3];exact H.part x hx
      obtain ⟨c,c',e,fr,q1,q2,q3,q4⟩:=H.part x hx;obtain ⟨d,d',e',fr',t1,t2,t3,t4⟩:=h3;rw [← hxb] at t1 t2;rw [q2] at t1;injection t1 with t1
      injection t1 with t1a t1b t1c
      subst t1a;subst t1b;subst t1c;refine ⟨c,d',e,fr,q1,t2,t3.trans q3,fun j hj=>?_⟩;rw [t4 j (by rw [p1];exact hj)]
      exact q4 j hj
   obtain ⟨c,c',e,fr,q1,q2,q3⟩:=H.part x hx;exact ⟨c,c',e,fr,q1,(hb _ hxb).trans q2,q3⟩
  pbx:=fun x hx n y hy hb1=>by
   cases r with
   | slot m =>
    have hy':look s.bx n=some y:=by
     simp only [StA.setRoot] at hy;split at hy<;>exact hy
    exact H.pbx x hx n y hy' hb1
   | box m =>
    simp only [StA.rootCells] at hr;obtain ⟨z,hz,hx2⟩:=Option.map_eq_some_iff.1 hr;injection hx2 with e1 e2
    subst e1;subst e2;simp only [StA.setRoot,hz] at hy;by_cases hnm:n=m
    ·subst hnm;rw [bR] at hy;injection hy with hy
     subst hy;have:=H.pbx x hx n z hz hb1;exact ⟨this.1,by show cs'.length ≤ _;rw [hlen];exact this.2⟩
    rw [cM _ _ hnm] at hy;exact H.pbx x hx n y hy hb1
  pbo:=fun x hx n y hy=>by
   cases r with
   | slot m =>
    simp only [StA.rootCells] at hr;split at hr
    ·rename_i z hz;injection hr with hr
     injection hr with e1 e2
     subst e1;subst e2;have hlk:look (s.tm.map fun e=>(e.1,e.2.killK full (.slot m))) m=some (.t z):=by
      rw [bU,hz];simp only [Option.map_some];rw [AVA.killK_t.2 rfl]
     by_cases hnm:n=m
     ·subst hnm;simp only [StA.setRoot,hlk,bR] at hy;injection hy with hy
      subst hy;simp only [AVA.cnt];rw [TA.cnt_withCells _ hlen];exact (hPB' x hx).1
     simp only [StA.setRoot,hlk,cM _ _ hnm,bU] at hy;obtain ⟨q,hq,rfl⟩:=Option.map_eq_some_iff.1 hy;rw [AVA.cnt_killK];exact H.pbo x hx n q hq
    cases hr
   | box m =>
    have hy':look (s.tm.map fun e=>(e.1,e.2.killK full (.box m))) n=some y:=by
     simp only [StA.setRoot] at hy;split at hy<;>exact hy
    rw [bU] at hy';obtain ⟨q,hq,rfl⟩:=Option.map_eq_some_iff.1 hy';rw [AVA.cnt_killK];exact H.pbo x hx n q hq
  pbi:=fun x hx n y hy=>by
   cases r with
   | slot m =>
    have hy':look s.bx n=some y:=by
     simp only [StA.setRoot] at hy;split at hy<;>exact hy
    exact H.pbi x hx n y hy'
   | box m =>
    simp only [StA.rootCells] at hr;obtain ⟨z,hz,hx2⟩:=Option.map_eq_some_iff.1 hr;injection hx2 with e1 e2
    subst e1;subst e2;simp only [StA.setRoot,hz] at hy;by_cases hnm:n=m
    ·subst hnm;rw [bR] at hy;injection hy with hy
     subst hy;exact (hPB' x hx).1
    rw [cM _ _ hnm] at hy;exact H.pbi x hx n y hy
  hand:=by
   have:(s.setRoot full r cs' hd').hd=hd':=by
    cases r<;>simp only [StA.setRoot]<;>split<;>rfl
   rw [this];exact hhd
  pbh:=fun x hx=>by
   have:(s.setRoot full r cs' hd').hd=hd':=by
    cases r<;>simp only [StA.setRoot]<;>split<;>rfl
   rw [this];exact (hPB' x hx).2 }
end Go.OM
namespace Go.OM
variable {C:Ctx} {Z:Nat→Prop} {s:StA} {a:Act} {w w':World}
theorem gL {r:Root} {base:Option (Nat × Nat)} {cs:List TA} (H:SRel C Z s a w) (hr:s.rootCells r=some (base,cs)) :
  TA.HoldsL Z w.heap cs∧(∀ c ∈ cs,c.isCell=true)∧(∀ b0 o0,base=some (b0,o0)→TA.Mem w.heap true b0 o0 cs.length (TA.vals cs))∧(∀ q,TA.cntL q cs + aBs base q ≤ s.cnt q):=by
 cases r with
 | slot n =>
  simp only [StA.rootCells] at hr;split at hr
  ·rename_i x hx;injection hr with hr
   injection hr with e1 e2
   subst e1;subst e2;have hv:=H.tm n _ hx;refine ⟨TA.holds_cells hv.2,TA.isCell_mem_cells hv.2,(fun _ _ h=>nomatch h),fun q=>?_⟩;have:=aIr hx q;rw [AVA.cnt_t] at this;simp only [aBs,TA.cntL_cells];omega
  cases hr
 | box n =>
  simp only [StA.rootCells] at hr;obtain ⟨x,hx,hx2⟩:=Option.map_eq_some_iff.1 hr;injection hx2 with e1 e2
  subst e1;subst e2;obtain ⟨h1,h2,h3⟩:=H.bx n x hx;refine ⟨h2,h3,fun b0 o0 h=>?_,fun q=>?_⟩
  ·injection h with h
   injection h with e1 e2
   subst e1;subst e2;exact h1
  have:=wV hx q;simp only [BoxA.cnt] at this;simp only [aBs];omega
theorem pK (s:StA) (full:Bool) (r:Root) (cs' hd':List TA):(s.setRoot full r cs' hd').hd=hd':=by
 cases r<;>simp only [StA.setRoot]<;>split<;>rfl
theorem rE {h:Array Obj}:∀ (p:Path) (cs:List TA) (o k:Nat) (l:List TA),TA.getP cs o p k=some l→TA.HoldsL Z h cs→(∀ c ∈ cs,c.isCell=true) →
  TA.HoldsL Z h l∧∀ c ∈ l,c.isCell=true
 | [],cs,o,k,l,hg,hH,hC=>by
  simp only [TA.getP] at hg;split at hg
  ·injection hg with hg
   subst hg;exact ⟨TA.holdsL_iff.2 fun t ht=>TA.holdsL_iff.1 hH t (List.mem_of_mem_drop (List.mem_of_mem_take ht)),fun c hc=>hC c (List.mem_of_mem_drop (List.mem_of_mem_take hc))⟩
  cases hg
 | (i,o') :: p,cs,o,k,l,hg,hH,hC=>by
  simp only [TA.getP] at hg;split at hg
  ·rename_i s b off cap es hcs;split at hg
   ·rename_i e he;have hsl:=TA.holdsL_get hH hcs;simp only [TA.Holds] at hsl;have heH:=TA.holdsL_get hsl.2.2.2.1 he;exact rE p _ _ _ _ hg (TA.holds_cells heH) (TA.isCell_mem_cells heH)
   cases hg
  cases hg
theorem iM {h:Array Obj} {l:List TA} (hl:TA.HoldsL Z h l) (hc:∀ c ∈ l,c.isCell=true):TA.HoldsL Z h (l.map TA.bury)∧(∀ c ∈ l.map TA.bury,c.isCell=true)∧TA.vals (l.map TA.bury)=TA.vals l∧∀ k,TA.cntL k (l.map TA.bury)=0:=by
 refine ⟨?_,?_,?_,?_⟩
 ·rw [TA.holdsL_iff];intro t ht;obtain ⟨c,hcm,rfl⟩:=List.mem_map.1 ht;exact TA.bury_holds (hc c hcm) (TA.holdsL_iff.1 hl c hcm)
 ·intro t ht;obtain ⟨c,hcm,rfl⟩:=List.mem_map.1 ht;exact TA.bury_isCell (hc c hcm)
 ·simp only [TA.vals,List.map_map];exact List.map_congr_left fun t _=>TA.bury_val t
 intro k;induction l with
 | nil=>simp [TA.cntL]
 | cons t ts ih =>
  simp only [TA.HoldsL] at hl;simp only [List.map_cons,TA.cntL,TA.bury_cnt,Nat.zero_add];exact ih hl.2 (fun c h=>hc c (by simp [h]))
theorem SRel.takePlace {r:Root} {base:Option (Nat × Nat)} {cs l:List TA} {o k:Nat} {p:Path} (H:SRel C Z s a w) (hr:s.rootCells r=some (base,cs)) (hg:TA.getP cs o p k=some l) :
  SRel C Z (s.setRoot true r (TA.setP cs o p (l.map TA.bury)) (l ++ s.hd)) a w∧TA.HoldsL Z w.heap l∧(∀ c ∈ l,c.isCell=true):=by
 obtain ⟨h1,h2,h3,h4⟩:=gL H hr;obtain ⟨g1,g2⟩:=rE p _ _ _ _ hg h1 h2;obtain ⟨b1,b2,b3,b4⟩:=iM g1 g2;obtain ⟨r1,r2,r3,r4,r5⟩:=TA.swap_place p cs o k l (l.map TA.bury) hg (by rw [List.length_map];exact TA.getP_length _ _ _ _ _ hg) b3 h1 h2 b1 b2
 refine ⟨?_,g1,g2⟩;have:=H.upd (full:=true) (hd':=l ++ s.hd) (h':=w.heap) (b:=0) hr rfl (fun _ _=>rfl) (.inl rfl) r3 r1 r2 (fun b0 o0 hb=>by rw [r4];exact h3 b0 o0 hb) (fun _=>r4)
  (fun q=>by have:=r5 q;rw [b4] at this;rw [TA.cntL_append];omega) (holdsL_append.2 ⟨g1,H.hand⟩) (fun _ _ _ _=>.inl rfl) (fun h=>by cases h)
 exact this
theorem SRel.storePlace {r:Root} {base:Option (Nat × Nat)} {cs old new hd':List TA} {o k:Nat} {p:Path} {ad:Nat × Nat} {full:Bool} (H:SRel C Z s a w) (hr:s.rootCells r=some (base,cs)) (hg:TA.getP cs o p k=some old)
  (ha:TA.addrP base cs o p=some ad) (hk:new.length=k) (hk0:0 < k) (hnew:TA.HoldsL Z w.heap new) (hnc:∀ c ∈ new,c.isCell=true)
  (hcnt:∀ q,TA.cntL q new + TA.cntL q hd' ≤ TA.cntL q s.hd) (hhd:TA.HoldsL Z w.heap hd')
  (hfull:full=false→T.hasOwnL (TA.erL old)=false) :
  SRel C Z (s.setRoot full r (TA.setP cs o p new) hd') a { w with heap:=wr w.heap ad.1 ad.2 (TA.vals new) }:=by
 obtain ⟨h1,h2,h3,h4⟩:=gL H hr;have hrange:=TA.addr_range p base cs o k old ad.1 ad.2 hg ha;have hown:0 < aBs base ad.1 + TA.cntL ad.1 cs:=by
  rcases hrange with ⟨o0,hb,_⟩ | h
  ·rw [hb,sD];omega
  omega
 have hcnt1:0 < s.cnt ad.1:=by have:=h4 ad.1;omega
 have hnz:¬ Z ad.1:=H.notZ _ hcnt1;have hhand:TA.cntL ad.1 s.hd=0:=by
  have hu:=H.uniq ad.1
  -- the root's and the hand's counts add up
  have:aBs base ad.1 + TA.cntL ad.1 cs + TA.cntL ad.1 s.hd ≤ s.cnt ad.1:=by
   cases r with
   | slot n =>
    simp only [StA.rootCells] at hr;split at hr
    ·rename_i x hx;injection hr with hr
     injection hr with e1 e2
     subst e1;subst e2;have:=bT (AVA.cnt ad.1) hx;rw [AVA.cnt_t] at this;simp only [aBs,TA.cntL_cells,StA.cnt];omega
    cases hr
   | box n =>
    simp only [StA.rootCells] at hr;obtain ⟨x,hx,hx2⟩:=Option.map_eq_some_iff.1 hr;injection hx2 with e1 e2
    subst e1;subst e2;have h5:=bT (BoxA.cnt ad.1) hx;have h6:BoxA.cnt ad.1 x=(if x.b=ad.1 then 1 else 0) + TA.cntL ad.1 x.cs:=rfl;simp only [aBs,StA.cnt];omega
  omega
 have hnew':TA.HoldsL Z (wr w.heap ad.1 ad.2 (TA.vals new)) new:=TA.HoldsL.frame _ hnew (fun _ hz=>hz) (fun q hq=>uO _ _ _ _ (fun e=>by
  subst e;rcases hq with hq | hq
  ·have:=hcnt ad.1;omega
  exact hnz hq))
 have hhd':TA.HoldsL Z (wr w.heap ad.1 ad.2 (TA.vals new)) hd':=TA.HoldsL.frame _ hhd (fun _ hz=>hz) (fun q hq=>uO _ _ _ _ (fun e=>by
  subst e;rcases hq with hq | hq
  ·have:=hcnt ad.1;omega
  exact hnz hq))
 obtain ⟨r1,r2,r3,r4,r5⟩:=TA.store_place p base cs o k old new ad.1 ad.2 hg ha hk h1 h2 h3 (fun q=>Nat.le_trans (h4 q) (H.uniq q)) hnz hnew' hnc;refine H.upd (b:=ad.1) hr (aFp _ _ _ _) (fun q hq=>uO _ _ _ _ hq) (.inr hown) r3 r1 r2 r4 (fun hb=>?_) (fun q=>?_) hhd' (fun off n hb hn=>.inr ?_) (fun hf o2 p2 ad2 ha2=>?_)
 ·-- no base: the place is deeper
  cases p with
  | nil=>rw [hb] at ha;simp [TA.addrP] at ha
  | cons x p =>
   obtain ⟨i,o'⟩:=x;simp only [TA.getP] at hg;simp only [TA.setP];split at hg
   ·rename_i s b off cap es hcs;split at hg
    ·rename_i e he;have holt:o < cs.length:=(List.getElem?_eq_some_iff.1 hcs).1;simp only [TA.vals,List.map_set];apply List.ext_getElem?;intro j;by_cases hj:j=o
     ·subst hj;rw [List.getElem?_set_self (by simpa using holt),List.getElem?_map,hcs]
      simp [TA.val1]
     rw [List.getElem?_set_ne (Ne.symm hj)]
    cases hg
   cases hg
 ·have h5:=r5 q;have h6:=hcnt q;omega
 ·rcases hrange with ⟨o0,hb0,q1,q2,q3⟩ | h
  ·rw [hb] at hb0;injection hb0 with hb0
   injection hb0 with _ hb0
   subst hb0;obtain ⟨c,ety,fr,t1,t2,t3⟩:=h3 _ _ hb;refine ⟨c,_,ety,fr,t1,sY _ _ t1,uP _ _ _,fun j hj=>?_⟩;have:=(t2 rfl).1;rw [vQ _ _ _ _ (by rw [TA.vals_length];omega),TA.vals_length,if_neg (by omega)]
  exfalso;have h5:=h4 ad.1;rw [hb,sD] at h5;have:=H.uniq ad.1;omega
 exact TA.addr_keep p base cs o k old new o2 p2 ad2 hg hk (hfull hf) hnc h1 ha2
theorem tY {h:Array Obj}:∀ (p:Path) (base:Option (Nat × Nat)) (cs:List TA) (o k:Nat) (l:List TA) (ad:Nat × Nat),TA.getP cs o p k=some l→TA.addrP base cs o p=some ad→TA.HoldsL Z h cs →
  (∀ b0 o0,base=some (b0,o0)→TA.Mem h true b0 o0 cs.length (TA.vals cs))→∃ c ety,h[ad.1]? = some (.cells c ety (0,0))∧ad.2 + k ≤ c.size∧∀ j u,(TA.vals l)[j]? = some u→c[ad.2 + j]? = some u
 | [],base,cs,o,k,l,ad,hg,ha,hH,hM=>by
  simp only [TA.getP] at hg;split at hg
  case isFalse=>cases hg
  rename_i hle;injection hg with hg
  simp only [TA.addrP] at ha;obtain ⟨x,hx,rfl⟩:=Option.map_eq_some_iff.1 ha;obtain ⟨b0,o0⟩:=x;obtain ⟨c,ety,fr,g1,g2,g3⟩:=hM _ _ hx;obtain ⟨g2a,g2b⟩:=g2 rfl;subst g2b;refine ⟨c,ety,g1,by simp only;omega,fun j u hj=>?_⟩
  subst hg;simp only;rw [Nat.add_assoc];refine g3 (o + j) u ?_;rw [TA.vals_get] at hj ⊢;rw [List.getElem?_take] at hj;split at hj
  ·rw [List.getElem?_drop] at hj;exact hj
  cases hj
 | (i,o') :: p,base,cs,o,k,l,ad,hg,ha,hH,hM=>by
  simp only [TA.getP] at hg;simp only [TA.addrP] at ha;split at hg
  case h_2=>cases hg
  rename_i s b1 off1 cap es hcs;split at hg
  case h_2=>cases hg
  rename_i e he;rw [hcs] at ha;simp only [he] at ha;have hsl:=TA.holdsL_get hH hcs;simp only [TA.Holds] at hsl;obtain ⟨hm,hle,_,hHes,hsz⟩:=hsl;have heH:=TA.holdsL_get hHes he;have hlt:i < es.length:=(List.getElem?_eq_some_iff.1 he).1;have hsz1:e.cells.length=s:=hsz e (List.mem_of_getElem? he);refine tY p _ _ _ _ _ _ hg ha (TA.holds_cells heH) (fun b0 o0 h0=>?_);injection h0 with h0
  injection h0 with e1 e2
  subst e1;subst e2;obtain ⟨c,ety,fr,g1,g2,g3⟩:=hm;refine ⟨c,ety,fr,g1,fun _=>⟨?_,(g2 rfl).2⟩,fun j u hj=>?_⟩
  ·have:=(g2 rfl).1;have h5:(i + 1) * s ≤ cap * s:=Nat.mul_le_mul_right _ (by omega)
   rw [Nat.succ_mul] at h5;omega
  have hj2:j < s:=by
   have:=(List.getElem?_eq_some_iff.1 hj).1;rw [TA.vals_length] at this;omega
  rw [Nat.add_assoc];refine g3 _ u ?_;rw [TA.vals_get,sU hsz i j hj2,he];rw [TA.vals_get] at hj;exact hj
theorem zP {P:Program} {b off:Nat} {c:Array Value} {ety:TypeId} (vs:List Value) (hb:w.heap[b]? = some (.cells c ety (0,0))) (hl:off + vs.length ≤ c.size) (h1:∀ v ∈ vs,TA.OneCell v) :
  (storeCells ⟨b,off,none⟩ vs).run P w = .ok () { w with heap:=wr w.heap b off vs }:=by
 have key:∀ (vs:List Value) (i:Nat) (w:World) (c:Array Value),w.heap[b]? = some (.cells c ety (0,0))→off + i + vs.length ≤ c.size→(∀ v ∈ vs,TA.OneCell v) →
   (storeCells ⟨b,off,none⟩ vs i).run P w = .ok () { w with heap:=wr w.heap b (off + i) vs }:=by
  intro vs;induction vs with
  | nil =>
   intro i w c hb hl _;simp only [storeCells];have:wr w.heap b (off + i) []=w.heap:=by
    apply Array.ext_getElem?;intro j;by_cases hj:j=b
    ·subst hj;rw [sY _ _ hb,hb];rfl
    rw [uO _ _ _ _ hj]
   rw [this];rfl
  | cons v vs ih =>
   intro i w c hb hl h1;have hi:off + i < c.size:=by simp only [List.length_cons] at hl;omega
   have hadd:(⟨b,off,none⟩:Addr).add i=⟨b,off + i,none⟩:=by unfold Addr.add;split<;>simp_all
   have hcell:w.cell? ⟨b,off + i,none⟩=some c[off + i]:=by simp [World.cell?,hb,hi]
   have hfro:w.frozen? ⟨b,off + i,none⟩=false:=by simp [World.frozen?,hb]
   have hset:w.setCell ⟨b,off + i,none⟩ v = { w with heap:=wr w.heap b (off + i) [v] }:=by
    simp only [World.setCell,wr,wrL]
    congr 1
   have hst:(store ((⟨b,off,none⟩:Addr).add i) v).run P w = .ok () { w with heap:=wr w.heap b (off + i) [v] }:=by
    rw [hadd,← hset];have hov:=h1 v (by simp)
    cases v<;>first | (simp [TA.OneCell] at hov;done) | simp [store,Sem.run,hcell,hfro]
   have hb2:(wr w.heap b (off + i) [v])[b]? = some (.cells (wrL c (off + i) [v]) ety (0,0)):=sY _ _ hb;have h2:=ih (i + 1) { w with heap:=wr w.heap b (off + i) [v] } (wrL c (off + i) [v]) hb2 (by rw [uP];simp only [List.length_cons] at hl;omega) (fun x hx=>h1 x (by simp [hx]))
   simp only [storeCells,Sem.run_bind,hst,Result.andThen_ok,h2]
   congr 2
   apply Array.ext_getElem?;intro j;by_cases hj:j=b
   ·subst hj;rw [sY _ _ hb2,sY _ _ hb]
    rfl
   rw [uO _ _ _ _ hj,uO _ _ _ _ hj,uO _ _ _ _ hj]
 have:=key vs 0 w c hb (by omega) h1
 simpa using this
end Go.OM
namespace Go.OM
inductive TK where
 | int (k:IntKind)
 | bool
 | str
 | slice (e:TypeId)
 | struct (offs:List (Nat × Nat))
 | ptr
 | func
 | iface
structure TI where
 size:Nat
 bytes:Nat
 kind:TK
 zero:List TA
def TK.isStruct:TK→Bool
 | .struct _=>true
 | _=>false
def TI.kk (ti:TI):Option Nat:=if ti.kind.isStruct=true then some ti.size else none
def TI.zv (ti:TI):Value:=if ti.kind.isStruct=true then .agg (TA.vals ti.zero).toArray else (TA.vals ti.zero).headD undef
def uN:TA→Bool
 | .v (.int _ _)=>true
 | .v (.bool _)=>true
 | .v (.string _)=>true
 | .v .nilFunc=>true
 | .v .nilIface=>true
 | .v (.pointer none)=>true
 | .nl true _ none=>true
 | _=>false
def TI.wf (ti:TI):Bool:=ti.zero.length == ti.size && ti.zero.all uN && (ti.kind.isStruct || ti.size == 1)
def bH (P:Program) (t:TypeId):Option (List (Nat × Nat)):=match P.underlying t with
 | some (.struct fs)=>fs.toList.mapM fun f=>match P.info? f.type with
  | some i=>if i.size=0 then none else some (f.offset,i.size)
  | none=>none
 | _=>none
def aJ1 (P:Program) (t:TypeId):TK→Prop
 | .int k=>P.underlying t=some (.int k)
 | .bool=>P.underlying t=some .bool
 | .str=>P.underlying t=some .string
 | .slice e=>P.underlying t=some (.slice e)
 | .struct offs=>bH P t=some offs
 | .ptr=>∃ e,P.underlying t=some (.pointer e)
 | .func=>∃ a b c,P.underlying t=some (.func a b c)
 | .iface=>∃ ms,P.underlying t=some (.interface ms)
def TIok (P:Program) (t:TypeId) (ti:TI):Prop :=
 (P.info? t).map (fun i=>(i.zero,i.size,i.bytes))=some (some ti.zv,ti.size,ti.bytes)∧aJ1 P t ti.kind∧ti.wf=true
structure Env where
 P:Program
 ty:TypeId→Option TI
 ok:∀ t ti,ty t=some ti→TIok P t ti
 mixed:P.follows .mixedOrders=true
 gl:List (Nat × (Array Value→Prop)):=[]
section
variable {P:Program} {t:TypeId} {ti:TI} (w:World)
theorem TIok.info (h:TIok P t ti):∃ i,P.info? t=some i∧i.zero=some ti.zv∧i.size=ti.size∧i.bytes=ti.bytes:=by
 obtain ⟨i,hi,he⟩:=Option.map_eq_some_iff.1 h.1;simp only [Prod.mk.injEq] at he;exact ⟨i,hi,he.1,he.2.1,he.2.2⟩
theorem TIok.und (h:TIok P t ti):∃ d,P.underlying t=some d∧((match d with | .struct _=>true | .array ..=>true | _=>false)=ti.kind.isStruct):=by
 have hk:=h.2.1;cases hh:ti.kind<;>rw [hh] at hk<;>simp only [aJ1] at hk
 case struct offs =>
  unfold bH at hk;split at hk
  ·rename_i fs hfs;exact ⟨_,hfs,rfl⟩
  cases hk
 case ptr=>obtain ⟨e,he⟩:=hk;exact ⟨_,he,rfl⟩
 case func=>obtain ⟨a,b,c,he⟩:=hk;exact ⟨_,he,rfl⟩
 case iface=>obtain ⟨a,he⟩:=hk;exact ⟨_,he,rfl⟩
 all_goals exact ⟨_,hk,rfl⟩
theorem TIok.run_isAgg (h:TIok P t ti):(isAgg t).run P w = .ok ti.kind.isStruct w:=by
 obtain ⟨d,hd,hs⟩:=h.und;unfold isAgg;simp only [Sem.run_bind,run_underlying hd,Result.andThen_ok];rw [← hs];cases d<;>rfl
theorem TIok.run_sizeOf (h:TIok P t ti):(sizeOf t).run P w = .ok ti.size w:=by
 obtain ⟨i,hi,_,hs,_⟩:=h.info;simp [sizeOf,typeInfo,hi,hs]
theorem TIok.run_zero (h:TIok P t ti):(zeroValue t).run P w = .ok ti.zv w:=by
 obtain ⟨i,hi,hz,hs,_⟩:=h.info;simp [zeroValue,typeInfo,hi,hz]
theorem TIok.len (h:TIok P t ti):ti.zero.length=ti.size:=by
 have:=h.2.2;simp only [TI.wf,Bool.and_eq_true,beq_iff_eq] at this;exact this.1.1
theorem TIok.cell (h:TIok P t ti):∀ c ∈ ti.zero,uN c=true:=by
 have:=h.2.2;simp only [TI.wf,Bool.and_eq_true,List.all_eq_true] at this;exact this.1.2
theorem TIok.one (h:TIok P t ti):ti.kind.isStruct=false→ti.size=1:=by
 have:=h.2.2;simp only [TI.wf,Bool.and_eq_true,Bool.or_eq_true,beq_iff_eq] at this;intro hk;rcases this.2 with h2 | h2
 ·rw [hk] at h2;cases h2
 exact h2
end
def mkT:Option Nat→List T→T
 | some _,l=>.agg l
 | none,l=>l.headD .dead
def yM:Option Nat→List TA→TA
 | some _,l=>.agg l
 | none,l=>l.headD (.dead undef)
theorem wS (k:Option Nat) (l:List TA):(yM k l).er=mkT k (TA.erL l):=by
 cases k with
 | some _=>rfl
 | none=>cases l<;>rfl
theorem aM6 {k:Option Nat} {l:List TA} (h:k=none→l.length=1) (hc:∀ c ∈ l,c.isCell=true):(yM k l).cells=l:=by
 cases k with
 | some _=>rfl
 | none =>
  obtain ⟨x,rfl⟩:=List.length_eq_one_iff.1 (h rfl);have:=hc x (by simp)
  cases x<;>simp_all [yM,TA.cells,TA.isCell]
theorem qY {k:Option Nat} {l:List TA} (h:k=none→l.length=1) (hc:∀ c ∈ l,c.isCell=true):(yM k l).val=oY k l:=by
 cases k with
 | some _=>rfl
 | none =>
  obtain ⟨x,rfl⟩:=List.length_eq_one_iff.1 (h rfl);have:=hc x (by simp)
  cases x<;>first | (simp [TA.isCell] at this;done) | rfl
theorem qZ {k:Option Nat} {l:List TA} (q:Nat) (h:k=none→l.length=1):(yM k l).cnt q=TA.cntL q l:=by
 cases k with
 | some _=>simp [yM,TA.cnt]
 | none =>
  obtain ⟨x,rfl⟩:=List.length_eq_one_iff.1 (h rfl);simp [yM,TA.cntL]
theorem gN {Z:Nat→Prop} {h:Array Obj} {k:Option Nat} {l:List TA} (hl:k=none→l.length=1) (hc:∀ c ∈ l,c.isCell=true) (hh:TA.HoldsL Z h l):(yM k l).Holds Z h:=by
 cases k with
 | some _=>simp only [yM,TA.Holds];exact ⟨hh,hc⟩
 | none =>
  obtain ⟨x,rfl⟩:=List.length_eq_one_iff.1 (hl rfl);simpa [yM,TA.HoldsL] using hh
def scal:Value→Bool
 | .int _ _=>true
 | .bool _=>true
 | .string _=>true
 | .func _ _ _=>true
 | .nilFunc=>true
 | .nilIface=>true
 | _=>false
namespace St
def op (s:St):Operand→AV
 | .tmp n=>s.get n
 | .const v=>if scal v=true then .t (.v v) else .u
 | .func f=>.t (.v (.func (.func f) #[] #[]))
 | .global _=>.u
def sc (s:St) (x:Operand):Option Value:=match s.op x with
 | .t (.v y)=>some y
 | _=>none
end St
variable {C:Ctx} {Z:Nat→Prop} {s:StA} {a:Act} {w w':World}
theorem opA (H:SRel C Z s a w) (x:Operand):∃ xA:AVA,xA.er=s.er.op x∧ValOk s Z w.heap xA (a.eval x):=by
 cases x with
 | tmp n =>
  simp only [St.op,St.get,nF];cases h:look s.tm n with
  | none=>exact ⟨.u,rfl,trivial⟩
  | some y=>exact ⟨y,rfl,H.tm n y h⟩
 | const v =>
  simp only [St.op];by_cases h:scal v=true
  ·rw [if_pos h];refine ⟨.t (.v v),rfl,rfl,?_⟩;cases v<;>simp_all [scal,TA.Holds,TA.OneCell]
  rw [if_neg h];exact ⟨.u,rfl,trivial⟩
 | func f=>exact ⟨.t (.v (.func (.func f) #[] #[])),rfl,rfl,by simp [TA.Holds,TA.OneCell]⟩
 | global g=>exact ⟨.u,rfl,trivial⟩
theorem aE3 {x:AVA} {y:T} (h:x.er = .t y):∃ z,x = .t z∧z.er=y:=by
 cases x with
 | t z=>simp only [AVA.er,AV.t.injEq] at h;exact ⟨z,rfl,h⟩
 | _=>simp [AVA.er] at h
theorem aMr {x:AVA} {r:Root} {o:Nat} {p:Path} {k:Option Nat} (h:x.er = .al r o p k):x = .al r o p k:=by
 cases x with
 | al r1 o1 p1 k1=>simp only [AVA.er,AV.al.injEq] at h;obtain ⟨rfl,rfl,rfl,rfl⟩:=h;rfl
 | _=>simp [AVA.er] at h
theorem uH {x:AVA} {r:Root} {o:Nat} {p:Path} (h:x.er = .ref r o p):x = .ref r o p:=by
 cases x with
 | ref r1 o1 p1=>simp only [AVA.er,AV.ref.injEq] at h;obtain ⟨rfl,rfl,rfl⟩:=h;rfl
 | _=>simp [AVA.er] at h
theorem aFj {x:AVA} {cs:List T} {o:Nat} (h:x.er = .rop cs o):∃ b off csA,x = .rop b off csA o∧TA.erL csA=cs:=by
 cases x with
 | rop b off c1 o1=>simp only [AVA.er,AV.rop.injEq] at h;obtain ⟨h1,rfl⟩:=h;exact ⟨_,_,_,rfl,h1⟩
 | _=>simp [AVA.er] at h
theorem aIl {x:AVA} {f:Nat} {cs:List Cap} (h:x.er = .clo f cs):∃ xs,x = .clo f xs∧xs.map CapA.er=cs:=by
 cases x with
 | clo g xs=>simp only [AVA.er,AV.clo.injEq] at h;exact ⟨xs,by rw [h.1],h.2⟩
 | _=>simp [AVA.er] at h
def St.opr (s:St) (x:Operand):AV:=match s.op x with
 | .t (.pt cs)=>.rop cs 0
 | y=>y
theorem oprA {C:Ctx} {Z:Nat→Prop} {s:StA} {a:Act} {w:World} (H:SRel C Z s a w) (x:Operand):∃ xA:AVA,xA.er=s.er.opr x∧ValOk s Z w.heap xA (a.eval x):=by
 obtain ⟨xA,e1,e2⟩:=opA H x;unfold St.opr;split
 ·rename_i cs hy;rw [hy] at e1;obtain ⟨z,rfl,hz⟩:=aE3 e1;cases z<;>simp only [TA.er,reduceCtorEq] at hz
  rename_i b off csA;injection hz with hz
  obtain ⟨g1,g2⟩:=e2;simp only [TA.Holds] at g2;exact ⟨.rop b off csA 0,by simp [AVA.er,hz],g1,g2.1,g2.2.1,g2.2.2.1,g2.2.2.2.1,List.all_eq_true.1 g2.2.2.2.2⟩
 exact ⟨xA,e1,e2⟩
theorem aOa {x:AVA} {ys:List T} (h:x.er = .tup ys):∃ zs,x = .tup zs∧TA.erL zs=ys:=by
 cases x with
 | tup z=>simp only [AVA.er,AV.tup.injEq] at h;exact ⟨z,rfl,h⟩
 | _=>simp [AVA.er] at h
theorem er_v {x:TA} {y:Value} (h:x.er = .v y):x = .v y:=by
 cases x with
 | v z=>simp only [TA.er,T.v.injEq] at h;rw [h]
 | _=>simp [TA.er] at h
theorem aMq {x:TA} {o:Bool} {s:Nat} {es:List T} (h:x.er = .sl o s es):(∃ A,x = .nl o s A∧es=[]) ∨ ∃ b off cap esA,x = .sl o s b off cap esA∧TA.erL esA=es:=by
 cases x with
 | nl o1 s1 A=>simp only [TA.er,T.sl.injEq] at h;obtain ⟨rfl,rfl,h3⟩:=h;exact .inl ⟨A,rfl,h3.symm⟩
 | sl o1 s1 b off cap esA=>simp only [TA.er,T.sl.injEq] at h;obtain ⟨rfl,rfl,h3⟩:=h;exact .inr ⟨b,off,cap,esA,rfl,h3⟩
 | _=>simp [TA.er] at h
theorem nM {y:Value} {x:Operand} (H:SRel C Z s a w) (h:s.er.sc x=some y):a.eval x=y∧TA.OneCell y:=by
 unfold St.sc at h;split at h
 ·rename_i z hz;injection h with h
  subst h;obtain ⟨xA,h1,h2⟩:=opA H x;rw [hz] at h1;obtain ⟨tA,rfl,h3⟩:=aE3 h1;have h4:=er_v h3;subst h4;exact ⟨h2.1,by have:=h2.2;simpa [TA.Holds] using this⟩
 cases h
def SOk (C:Ctx) (σ:St) (a:Act) (w:World):Prop:=∃ s Z,s.er=σ∧s.hd=[]∧SRel C Z s a w
theorem SOk.value {σ:St} {d:Nat} {x:AV} {v:Value} (H:SRel C Z s a w) (hs:s.er=σ) (hh:s.hd=[]) (hd:d < C.N) {xA:AVA} (hx:xA.er=x) (hv:ValOk s Z w.heap xA v) (hi:x.into d=false) (hc:∀ k,xA.cnt k=0) :
  SOk C (σ.set d x) (a.put (some d) v) w:=by
 subst hs;subst hx;obtain ⟨s',h1,h2,h3⟩:=H.set (hd':=[]) hd hv hi (fun k=>by rw [hc,hh];simp [TA.cntL]) (by simp [TA.HoldsL])
 exact ⟨s',Z,h1,h2,h3⟩
theorem SOk.drew {σ:St} (H:SOk C σ a w) (n:Nat):SOk C σ a { w with drawn:=n }:=by
 obtain ⟨s,Z,h1,h2,h3⟩:=H;exact ⟨s,Z,h1,h2,h3.drewN n⟩
theorem bP {E:Env} {o:Oper} {K:Act→World→Prop} {Q:Exit→Act→World→Prop} {v:Value} (h:(execOp a.eval o).run E.P w = .ok (.value v) w') (hk:K (a.put o.dst v) w'):o.wp E.P a w K Q:=by
 unfold Oper.wp;rw [h];exact hk
theorem aOy {E:Env} {o:Oper} {K:Act→World→Prop} {Q:Exit→Act→World→Prop} (h:(execOp a.eval o).run E.P w = .ok .skip w') (hk:K (a.put o.dst undef) w'):o.wp E.P a w K Q:=by
 unfold Oper.wp;rw [h];exact hk
def ibin (op:BinOp) (k:IntKind) (x y:Int):Option Value :=
 match op with
 | .add=>some (.int k (k.wrap (x + y)))
 | .sub=>some (.int k (k.wrap (x - y)))
 | .mul=>some (.int k (k.wrap (x * y)))
 | .quo=>if y=0 then none else some (.int k (k.wrap (x.tdiv y)))
 | .rem=>if y=0 then none else some (.int k (x.tmod y))
 | .eql=>some (.bool (x == y))
 | .neq=>some (.bool (x != y))
 | .lss=>some (.bool (decide (x < y)))
 | .leq=>some (.bool (decide (x ≤ y)))
 | .gtr=>some (.bool (decide (x > y)))
 | .geq=>some (.bool (decide (x ≥ y)))
 | .and | .or | .xor | .andNot=>some (.int k (bits op k x y))
 | _=>none
def aO0 (op:BinOp) (k:IntKind) (x y:Int):Option Value :=
 if y < 0 then none else match op with
 | .shl=>some (.int k (k.wrap (x * 2 ^ (min y.toNat k.bits))))
 | .shr=>some (.int k (x.fdiv (2 ^ (min y.toNat k.bits))))
 | _=>none
def sEq (x y:ByteArray):Bool:=x.toList == y.toList
def sbin (op:BinOp) (x y:ByteArray):Option Value :=
 match op with
 | .add=>if x.size + y.size ≤ 9223372036854775807 then some (.string (x ++ y)) else none
 | .eql=>some (.bool (sEq x y))
 | .neq=>some (.bool !(sEq x y))
 | .lss=>some (.bool (Op.bytesLess x.toList y.toList))
 | .leq=>some (.bool (Op.bytesLess x.toList y.toList || x.toList == y.toList))
 | .gtr=>some (.bool !(Op.bytesLess x.toList y.toList || x.toList == y.toList))
 | .geq=>some (.bool !(Op.bytesLess x.toList y.toList))
 | _=>none
def aDp:BinOp→Bool
 | .shl=>true
 | .shr=>true
 | _=>false
def aMu (isBool:Bool) (op:BinOp):Value→Value→Option Value
 | .int k x,.int k' y=>if aDp op=true then aO0 op k x y else if k=k' then ibin op k x y else none
 | .string x,.string y=>sbin op x y
 | .bool x,.bool y=>if isBool=true then (match op with | .eql=>some (.bool (x == y)) | .neq=>some (.bool !(x == y)) | _=>none) else none
 | _,_=>none
end Go.OM
namespace Go.OM
variable {C:Ctx} {Z:Nat→Prop} {s:StA} {a:Act} {w:World}
def AVA.killE (full:Bool) (r:Root):AVA→AVA
 | .al r' o p k=>if r'=r∧p ≠ [] then .u else .al r' o p k
 | .ref r' o p=>if full=true∧r'=r∧1 < p.length then .u else .ref r' o p
 | x=>x
def AV.killE (full:Bool) (r:Root):AV→AV
 | .al r' o p k=>if r'=r∧p ≠ [] then .u else .al r' o p k
 | .ref r' o p=>if full=true∧r'=r∧1 < p.length then .u else .ref r' o p
 | x=>x
theorem AVA.er_killE (full:Bool) (r:Root) (x:AVA):(x.killE full r).er=x.er.killE full r:=by
 cases x with
 | al r' o p k=>by_cases h:r'=r∧p ≠ []<;>simp [AVA.killE,AVA.er,AV.killE,h]
 | ref r' o p=>by_cases h:full=true∧r'=r∧1 < p.length<;>simp [AVA.killE,AVA.er,AV.killE,h]
 | _=>rfl
theorem AVA.cnt_killE (full:Bool) (r:Root) (k:Nat) (x:AVA):(x.killE full r).cnt k=x.cnt k:=by
 cases x<;>simp only [AVA.killE]<;>first | rfl | (split<;>rfl)
theorem AVA.killE_t {full:Bool} {r:Root} {x:AVA} {y:TA}:x.killE full r = .t y ↔ x = .t y:=by
 cases x with
 | al r' o p k=>by_cases h:r'=r∧p ≠ []<;>simp [AVA.killE,h]
 | ref r' o p=>by_cases h:full=true∧r'=r∧1 < p.length<;>simp [AVA.killE,h]
 | _=>simp [AVA.killE]
def StA.setRootE (s:StA) (full:Bool) (r:Root) (cs' hd':List TA):StA :=
 match r with
 | .slot n=>match look (s.tm.map fun e=>(e.1,e.2.killE full r)) n with
  | some (AVA.t x)=>⟨put (s.tm.map fun e=>(e.1,e.2.killE full r)) n (.t (x.withCells cs')),s.bx,hd'⟩
  | _=>⟨s.tm.map fun e=>(e.1,e.2.killE full r),s.bx,hd'⟩
 | .box n=>match look s.bx n with
  | some x=>⟨s.tm.map fun e=>(e.1,e.2.killE full r),put s.bx n ⟨x.b,x.off,cs'⟩,hd'⟩
  | none=>⟨s.tm.map fun e=>(e.1,e.2.killE full r),s.bx,hd'⟩
def St.setRootE (s:St) (full:Bool) (r:Root) (cs':List T):St :=
 match r with
 | .slot n=>match look (s.tm.map fun e=>(e.1,e.2.killE full r)) n with
  | some (AV.t x)=>⟨put (s.tm.map fun e=>(e.1,e.2.killE full r)) n (.t (x.withCells cs')),s.bx⟩
  | _=>⟨s.tm.map fun e=>(e.1,e.2.killE full r),s.bx⟩
 | .box n=>match look s.bx n with
  | some _=>⟨s.tm.map fun e=>(e.1,e.2.killE full r),put s.bx n cs'⟩
  | none=>⟨s.tm.map fun e=>(e.1,e.2.killE full r),s.bx⟩
theorem StA.er_setRootE (s:StA) (full:Bool) (r:Root) (cs' hd':List TA):(s.setRootE full r cs' hd').er=s.er.setRootE full r (TA.erL cs'):=by
 have htm:(s.tm.map fun e=>(e.1,e.2.killE full r)).map (fun e=>(e.1,e.2.er))=s.er.tm.map fun e=>(e.1,e.2.killE full r):=by
  simp [StA.er,AVA.er_killE]
 have hlook:∀ n,look (s.er.tm.map fun e=>(e.1,e.2.killE full r)) n=(look (s.tm.map fun e=>(e.1,e.2.killE full r)) n).map AVA.er:=by
  intro n;rw [← htm];exact bU AVA.er _ n
 cases r with
 | slot n =>
  simp only [StA.setRootE,St.setRootE,hlook];cases hx:look (s.tm.map fun e=>(e.1,e.2.killE full (.slot n))) n with
  | none=>exact congrArg (fun l=>St.mk l s.er.bx) htm
  | some x =>
   cases x with
   | t x =>
    refine (congrArg (fun l=>St.mk l s.er.bx) (pH AVA.er _ n (.t (x.withCells cs')))).trans ?_;rw [htm];simp only [AVA.er,TA.er_withCells,Option.map_some]
   | _=>exact congrArg (fun l=>St.mk l s.er.bx) htm
 | box n =>
  simp only [StA.setRootE,St.setRootE,lY];cases hx:look s.bx n with
  | none=>exact congrArg (fun l=>St.mk l s.er.bx) htm
  | some x =>
   refine (congrArg (fun l=>St.mk _ l) (pH (fun x:BoxA=>TA.erL x.cs) s.bx n ⟨x.b,x.off,cs'⟩)).trans ?_;exact congrArg (fun l=>St.mk l (put s.er.bx n (TA.erL cs'))) htm
theorem SRel.regain {s s2:StA} (H:SRel C Z s a w) (hbx:s2.bx=s.bx) (hhd:s2.hd=s.hd) (hcnt:∀ k,tot (AVA.cnt k) s2.tm=tot (AVA.cnt k) s.tm) (hroot:∀ r,s2.rootCells r=s.rootCells r)
  (htm:∀ n x,look s2.tm n=some x→look s.tm n=some x ∨ ((∀ k,x.cnt k=0)∧ValOk s Z w.heap x (a.tmps.getD n undef))):SRel C Z s2 a w:=by
 have hc:∀ k,s2.cnt k=s.cnt k:=fun k=>by simp only [StA.cnt,hcnt,hbx,hhd]
 have hk:∀ x v,ValOk s Z w.heap x v→ValOk s2 Z w.heap x v:=fun x v hv =>
  hv.keep (fun _ h=>h) (fun _ _=>rfl) (fun r o p k _ base cs l _ _ _=>hroot r) (fun r o p _ base cs ad h1 h2=>⟨base,cs,(hroot r).trans h1,h2⟩)
 exact {
  defers:=H.defers
  size:=H.size
  tm:=fun n x hx=>by
   rcases htm n x hx with h | ⟨_,h⟩
   ·exact hk _ _ (H.tm n x h)
   exact hk _ _ h
  bx:=by rw [hbx];exact H.bx
  uniq:=fun k=>by rw [hc];exact H.uniq k
  notZ:=fun k h=>H.notZ k (by rw [← hc];exact h)
  lt:=fun k h=>H.lt k (by rw [← hc];exact h)
  zlt:=H.zlt
  own:=fun k h=>H.own k (by rw [← hc];exact h)
  z0:=H.z0
  zext:=H.zext
  os:=H.os
  tape:=H.tape
  output:=H.output
  grown:=H.grown
  kept:=H.kept
  part:=H.part
  pbx:=by rw [hbx];exact H.pbx
  pbo:=fun x hx n y hy=>by
   rcases htm n y hy with h | ⟨h,_⟩
   ·exact H.pbo x hx n y h
   exact h _
  pbi:=by rw [hbx];exact H.pbi
  hand:=by rw [hhd];exact H.hand
  pbh:=by rw [hhd];exact H.pbh
  pk:=by rw [hbx];exact H.pk }
theorem aM5 {k:Option Nat} {l l':List TA} (h:TA.vals l=TA.vals l'):oY k l=oY k l':=by
 have hl:l.length=l'.length:=by rw [← TA.vals_length l,h,TA.vals_length]
 cases k with
 | some n=>simp only [oY,h]
 | none =>
  match l,l',hl with
  | [],[],_=>rfl
  | [x],[y],_ =>
   simp only [TA.vals,List.map_cons,List.map_nil,List.cons.injEq,and_true] at h;simp only [oY,h]
  | _ :: _ :: _,_ :: _ :: _,_=>rfl
  | [],_ :: _,h=>simp at h
  | _ :: _,[],h=>simp at h
  | [_],_ :: _ :: _,h=>simp at h
  | _ :: _ :: _,[_],h=>simp at h
theorem aEs {l l':List TA} (h:l.map (fun t=>t.er.hasOwn)=l'.map (fun t=>t.er.hasOwn)):T.hasOwnL (TA.erL l)=T.hasOwnL (TA.erL l'):=by
 have key:∀ l:List TA,T.hasOwnL (TA.erL l)=(l.map (fun t=>t.er.hasOwn)).any id:=by
  intro l;induction l with
  | nil=>rfl
  | cons x l ih=>simp only [TA.erL,T.hasOwnL,List.map_cons,List.any_cons,ih,id]
 rw [key,key,h]
theorem aL1 {cs l:List TA} {o i o' k:Nat} (h:TA.getP cs o [(i,o')] k=some l):∃ (sz b off cap:Nat) (es:List TA) (e:TA),cs[o]? = some (.sl true sz b off cap es)∧es[i]? = some e∧TA.getP e.cells o' [] k=some l:=by
 unfold TA.getP at h;split at h
 ·rename_i sz b off cap es hc;split at h
  ·rename_i e he;exact ⟨sz,b,off,cap,es,e,hc,he,h⟩
  cases h
 cases h
theorem aJj (full:Bool) (r:Root) (cs' hd':List TA):(s.setRootE full r cs' hd').hd=hd':=by
 cases r<;>simp only [StA.setRootE]<;>split<;>rfl
theorem SRel.regainE {full:Bool} {w':World} {r:Root} {base:Option (Nat × Nat)} {cs cs' hd':List TA} {o i sz b off cap:Nat} {es:List TA} {e':TA} (H:SRel C Z s a w) (hr:s.rootCells r=some (base,cs))
  (hc:cs[o]? = some (.sl true sz b off cap es)) (hset:cs'=cs.set o (.sl true sz b off cap (es.set i e'))) (q2:∀ c ∈ cs',c.isCell=true) (r1:SRel C Z (s.setRoot full r cs' hd') a w'):SRel C Z (s.setRootE full r cs' hd') a w':=by
 have hol:o < cs.length:=(List.getElem?_eq_some_iff.1 hc).1;have q3:cs'.length=cs.length:=by rw [hset,List.length_set]
 have q4:cs'.map TA.val1=cs.map TA.val1:=by
  rw [hset,List.map_set];apply List.ext_getElem?;intro j;rw [List.getElem?_set];by_cases hj:o=j
  ·subst hj;simp only [List.length_map,hol,if_true,List.getElem?_map,hc,Option.map_some];simp [TA.val1]
  rw [if_neg hj]
 have hown:cs'.map (fun t=>t.er.hasOwn)=cs.map (fun t=>t.er.hasOwn):=by
  rw [hset,List.map_set];apply List.ext_getElem?;intro j;rw [List.getElem?_set];by_cases hj:o=j
  ·subst hj;simp only [List.length_map,hol,if_true,List.getElem?_map,hc,Option.map_some];simp [TA.er,T.hasOwn]
  rw [if_neg hj]
 have hself:(s.setRoot full r cs' hd').rootCells r=some (base,cs'):=by
  have hC:∀ c ∈ cs',c.isCell=true:=q2;cases r with
  | slot n =>
   simp only [StA.rootCells] at hr;split at hr
   ·rename_i x hx;injection hr with hr
    injection hr with e1 e2
    subst e1;subst e2;have hlk:look (s.tm.map fun e=>(e.1,e.2.killK full (.slot n))) n=some (.t x):=by
     rw [bU,hx];simp only [Option.map_some];rw [AVA.killK_t.2 rfl]
    simp only [StA.setRoot,hlk,StA.rootCells,bR];rw [TA.cells_withCells q3 hC]
   cases hr
  | box n =>
   simp only [StA.rootCells] at hr;obtain ⟨x,hx,hx2⟩:=Option.map_eq_some_iff.1 hr;injection hx2 with e1 e2
   subst e1;subst e2;simp only [StA.setRoot,hx,StA.rootCells,bR,Option.map_some]
 -- what is kept
 have hkeep:∀ n y,look s.tm n=some y→(y.killE full r=y.killK full r) ∨ ((∀ k,(y.killE full r).cnt k=0)∧ValOk (s.setRoot full r cs' hd') Z w'.heap (y.killE full r) (a.tmps.getD n undef)):=by
  intro n y hy;have hv:=H.tm n y hy;cases y with
  | al r' o1 p1 k1 =>
   by_cases hrr:r'=r
   ·subst hrr;by_cases hp:p1=[]
    ·subst hp;right;have hk:(AVA.al r' o1 [] k1).killE full r' = .al r' o1 [] k1:=by simp [AVA.killE]
     rw [hk];refine ⟨fun k=>rfl,?_⟩;obtain ⟨base1,cs1,l1,e1,e2,e3,e4⟩:=hv;rw [hr] at e1;injection e1 with e1
     injection e1 with e1a e1b
     subst e1a;subst e1b;simp only [TA.getP] at e2;split at e2
     ·rename_i hle;injection e2 with e2
      refine ⟨base,cs',(cs'.drop o1).take (k1.getD 1),hself,?_,?_,?_⟩
      ·simp only [TA.getP];rw [if_pos (by rw [q3];exact hle)]
      ·rw [← e3];apply aEs;rw [← e2,List.map_take,List.map_drop,List.map_take,List.map_drop,hown]
      rw [e4];apply aM5;rw [← e2];simp only [TA.vals,List.map_take,List.map_drop];rw [q4]
     cases e2
    left;cases full<;>simp [AVA.killE,AVA.killK,AVA.kill,hp]
   left;cases full<;>simp [AVA.killE,AVA.killK,AVA.kill,hrr]
  | ref r' o1 p1 =>
   by_cases hrr:r'=r
   ·subst hrr
    match p1,hv with
    | [],hv=>left;cases full<;>simp [AVA.killE,AVA.killK,AVA.kill]
    | [(i1,o1')],hv =>
     right;have hk:(AVA.ref r' o1 [(i1,o1')]).killE full r' = .ref r' o1 [(i1,o1')]:=by simp [AVA.killE]
     rw [hk];refine ⟨fun k=>rfl,?_⟩;obtain ⟨base1,cs1,ad,e1,e2,e3⟩:=hv;rw [hr] at e1;injection e1 with e1
     injection e1 with e1a e1b
     subst e1a;subst e1b;refine ⟨base,cs',ad,hself,?_,e3⟩;rw [hset];unfold TA.addrP at e2 ⊢;by_cases ho:o=o1
     ·subst ho;rw [hc] at e2;simp only at e2;have:(cs.set o (.sl true sz b off cap (es.set i e')))[o]? = some (.sl true sz b off cap (es.set i e')):=by simp [hol]
      rw [this];simp only;split at e2
      ·rename_i e5 he5;have hlt:i1 < es.length:=(List.getElem?_eq_some_iff.1 he5).1;have:∃ e6,(es.set i e')[i1]? = some e6:=⟨_,List.getElem?_eq_getElem (by simpa using hlt)⟩
       obtain ⟨e6,he6⟩:=this;rw [he6];simpa [TA.addrP] using e2
      cases e2
     rw [List.getElem?_set_ne ho];exact e2
    | _ :: _ :: p,hv=>left;cases full<;>simp [AVA.killE,AVA.killK,AVA.kill]
   left;cases full<;>simp [AVA.killE,AVA.killK,AVA.kill,hrr]
  | u=>left;cases full<;>rfl
  | t x=>left;cases full<;>rfl
  | tup xs=>left;cases full<;>rfl
  | rop b off cs o=>left;cases full<;>rfl
  | clo f xs=>left;cases full<;>rfl
 have htot:∀ k,tot (AVA.cnt k) (s.tm.map fun e=>(e.1,e.2.killE full r))=tot (AVA.cnt k) (s.tm.map fun e=>(e.1,e.2.killK full r)):=by
  intro k;rw [uQ,uQ];exact congrArg (fun f=>tot f s.tm) (funext fun x=>by rw [AVA.cnt_killE,AVA.cnt_killK])
 have htE:∀ n x,look (s.tm.map fun e=>(e.1,e.2.killE full r)) n=some (.t x) ↔ look (s.tm.map fun e=>(e.1,e.2.killK full r)) n=some (.t x):=by
  intro n x;rw [bU,bU];cases look s.tm n with
  | none=>simp
  | some y=>simp only [Option.map_some,Option.some.injEq,AVA.killE_t,AVA.killK_t]
 have hlk:∀ n x,look (s.tm.map fun e=>(e.1,e.2.killE full r)) n=some x→look (s.tm.map fun e=>(e.1,e.2.killK full r)) n=some x ∨ ((∀ k,x.cnt k=0)∧ValOk (s.setRoot full r cs' hd') Z w'.heap x (a.tmps.getD n undef)):=by
  intro n x hx;rw [bU] at hx;obtain ⟨y,hy,rfl⟩:=Option.map_eq_some_iff.1 hx;rcases hkeep n y hy with h | h
  ·left;rw [bU,hy];simp only [Option.map_some,h]
  exact .inr h
 have hrc:∀ n,(match look (s.tm.map fun e=>(e.1,e.2.killE full r)) n with | some (.t x)=>(some (none,x.cells):Option (Option (Nat × Nat) × List TA)) | _=>none)=(match look (s.tm.map fun e=>(e.1,e.2.killK full r)) n with | some (.t x)=>some (none,x.cells) | _=>none):=by
  intro n;cases h1:look (s.tm.map fun e=>(e.1,e.2.killE full r)) n with
  | none =>
   have:look (s.tm.map fun e=>(e.1,e.2.killK full r)) n=none:=by
    rw [bU] at h1 ⊢;cases h2:look s.tm n with
    | none=>rfl
    | some y=>rw [h2] at h1;simp at h1
   rw [this]
  | some x =>
   cases x with
   | t x=>rw [(htE n x).1 h1]
   | _ =>
    cases h2:look (s.tm.map fun e=>(e.1,e.2.killK full r)) n with
    | none=>rfl
    | some y =>
     cases y with
     | t y=>rw [(htE n y).2 h2] at h1;cases h1
     | _=>rfl
 cases r with
 | slot n =>
  simp only [StA.rootCells] at hr;split at hr
  ·rename_i x hx;have hA:look (s.tm.map fun e=>(e.1,e.2.killK full (.slot n))) n=some (.t x):=by
    rw [bU,hx];simp only [Option.map_some];rw [AVA.killK_t.2 rfl]
   have hB:look (s.tm.map fun e=>(e.1,e.2.killE full (.slot n))) n=some (.t x):=(htE n x).2 hA;have e1:s.setRoot full (.slot n) cs' hd'=⟨Go.OM.put (s.tm.map fun e=>(e.1,e.2.killK full (.slot n))) n (.t (x.withCells cs')),s.bx,hd'⟩:=by simp only [StA.setRoot,hA]
   have e2:s.setRootE full (.slot n) cs' hd'=⟨Go.OM.put (s.tm.map fun e=>(e.1,e.2.killE full (.slot n))) n (.t (x.withCells cs')),s.bx,hd'⟩:=by simp only [StA.setRootE,hB]
   rw [e1] at r1 hlk;rw [e2];refine r1.regain rfl rfl (fun k=>?_) (fun r'=>?_) (fun m y hy=>?_)
   ·have p1:=eF (AVA.cnt k) (x:=.t (x.withCells cs')) hA;have p2:=eF (AVA.cnt k) (x:=.t (x.withCells cs')) hB;have p3:=htot k;simp only;omega
   ·cases r' with
    | slot m =>
     by_cases hm:m=n
     ·subst hm;simp only [StA.rootCells,bR]
     simp only [StA.rootCells,cM _ _ hm];exact hrc m
    | box m=>rfl
   by_cases hm:m=n
   ·subst hm;left;simp only [bR] at hy ⊢;exact hy
   simp only [cM _ _ hm] at hy ⊢;exact hlk m y hy
  cases hr
 | box n =>
  simp only [StA.rootCells] at hr;obtain ⟨x,hx,hx2⟩:=Option.map_eq_some_iff.1 hr;have e1:s.setRoot full (.box n) cs' hd'=⟨s.tm.map fun e=>(e.1,e.2.killK full (.box n)),Go.OM.put s.bx n ⟨x.b,x.off,cs'⟩,hd'⟩:=by simp only [StA.setRoot,hx]
  have e2:s.setRootE full (.box n) cs' hd'=⟨s.tm.map fun e=>(e.1,e.2.killE full (.box n)),Go.OM.put s.bx n ⟨x.b,x.off,cs'⟩,hd'⟩:=by simp only [StA.setRootE,hx]
  rw [e1] at r1 hlk;rw [e2];refine r1.regain rfl rfl (fun k=>htot k) (fun r'=>?_) (fun m y hy=>hlk m y hy);cases r' with
  | slot m=>exact hrc m
  | box m=>rfl
theorem SRel.takePlaceE {r:Root} {base:Option (Nat × Nat)} {cs l:List TA} {o i o' k:Nat} (H:SRel C Z s a w) (hr:s.rootCells r=some (base,cs)) (hg:TA.getP cs o [(i,o')] k=some l) :
  SRel C Z (s.setRootE true r (TA.setP cs o [(i,o')] (l.map TA.bury)) (l ++ s.hd)) a w∧TA.HoldsL Z w.heap l∧(∀ c ∈ l,c.isCell=true):=by
 obtain ⟨r1,r2,r3⟩:=H.takePlace hr hg;refine ⟨?_,r2,r3⟩;obtain ⟨h1,h2,h3,h4⟩:=gL H hr;obtain ⟨g1,g2⟩:=rE _ _ _ _ _ hg h1 h2;obtain ⟨b1,b2,b3,b4⟩:=iM g1 g2;obtain ⟨q1,q2,q3,q4,q5⟩:=TA.swap_place _ cs o k l (l.map TA.bury) hg (by rw [List.length_map];exact TA.getP_length _ _ _ _ _ hg) b3 h1 h2 b1 b2
 obtain ⟨sz,b,off,cap,es,e,hc,he,_⟩:=aL1 hg;have hset:TA.setP cs o [(i,o')] (l.map TA.bury)=cs.set o (.sl true sz b off cap (es.set i (e.withCells (e.cells.take o' ++ l.map TA.bury ++ e.cells.drop (o' + (l.map TA.bury).length))))):=by simp only [TA.setP,hc,he]
 exact H.regainE hr hc hset q2 r1
theorem SRel.storePlaceE {r:Root} {base:Option (Nat × Nat)} {cs old new hd':List TA} {o i o' k:Nat} {ad:Nat × Nat} {full:Bool} (H:SRel C Z s a w) (hr:s.rootCells r=some (base,cs)) (hg:TA.getP cs o [(i,o')] k=some old)
  (ha:TA.addrP base cs o [(i,o')]=some ad) (hk:new.length=k) (hk0:0 < k) (hnew:TA.HoldsL Z w.heap new) (hnc:∀ c ∈ new,c.isCell=true)
  (hcnt:∀ q,TA.cntL q new + TA.cntL q hd' ≤ TA.cntL q s.hd) (hhd:TA.HoldsL Z w.heap hd')
  (hfull:full=false→T.hasOwnL (TA.erL old)=false) :
  SRel C Z (s.setRootE full r (TA.setP cs o [(i,o')] new) hd') a { w with heap:=wr w.heap ad.1 ad.2 (TA.vals new) }:=by
 have r1:=H.storePlace (full:=full) hr hg ha hk hk0 hnew hnc hcnt hhd hfull;obtain ⟨h1,h2,h3,h4⟩:=gL H hr;obtain ⟨sz,b,off,cap,es,e,hc,he,_⟩:=aL1 hg;have hset:TA.setP cs o [(i,o')] new=cs.set o (.sl true sz b off cap (es.set i (e.withCells (e.cells.take o' ++ new ++ e.cells.drop (o' + new.length))))):=by simp only [TA.setP,hc,he]
 refine H.regainE hr hc hset (fun c hcm=>?_) r1;rw [hset] at hcm;rcases List.mem_or_eq_of_mem_set hcm with h | h
 ·exact h2 c h
 rw [h];rfl
end Go.OM
namespace Go.OM
variable {C:Ctx} {Z:Nat→Prop} {s:StA} {a:Act} {w w':World} {E:Env} {o:Oper} {σ σ':St} {K:Act→World→Prop} {Q:Exit→Act→World→Prop}
def St.put? (s:St) (N:Nat) (dst:Option Nat) (x:AV):Option St:=match dst with
 | some d=>if d < N∧x.into d=false then some (s.set d x) else none
 | none=>some s
theorem SOk.put? {x:AV} {v:Value} {dst:Option Nat} {xA:AVA} (H:SRel C Z s a w) (hs:s.er=σ) (hp:σ.put? C.N dst x=some σ') (hx:xA.er=x) (hv:ValOk s Z w.heap xA v) (hc:∀ k,xA.cnt k ≤ TA.cntL k s.hd):SOk C σ' (a.put dst v) w:=by
 subst hs;subst hx;unfold St.put? at hp;cases dst with
 | none =>
  injection hp with hp
  subst hp;exact ⟨⟨s.tm,s.bx,[]⟩,Z,rfl,rfl,H.drop (fun k=>by simp [TA.cntL]) (by simp [TA.HoldsL])⟩
 | some d =>
  simp only at hp;split at hp
  ·rename_i hd;injection hp with hp
   subst hp;obtain ⟨s',h1,h2,h3⟩:=H.set (hd':=[]) hd.1 hv hd.2 (fun k=>by have:=hc k;simp only [TA.cntL];omega) (by simp [TA.HoldsL])
   exact ⟨s',Z,h1,h2,h3⟩
  cases hp
theorem SOk.put0 {x:AV} {v:Value} {dst:Option Nat} {xA:AVA} (H:SRel C Z s a w) (hs:s.er=σ) (hp:σ.put? C.N dst x=some σ') (hx:xA.er=x) (hv:ValOk s Z w.heap xA v) (hc:∀ k,xA.cnt k=0):SOk C σ' (a.put dst v) w :=
 SOk.put? H hs hp hx hv (fun k=>by rw [hc];exact Nat.zero_le _)
theorem SOk.putS {v:Value} {dst:Option Nat} (H:SOk C σ a w) (hp:σ.put? C.N dst (.t (.v v))=some σ') (hv:TA.OneCell v):SOk C σ' (a.put dst v) w:=by
 obtain ⟨s,Z,h1,h2,h3⟩:=H;exact SOk.put0 h3 h1 hp (xA:=.t (.v v)) rfl ⟨rfl,by simpa [TA.Holds] using hv⟩ (fun k=>rfl)
theorem yG {t:TypeId} (a b:Bool) (hu:E.P.underlying t=some .bool):(Op.equal t (.bool a) (.bool b)).run E.P w = .ok (a == b) w:=by
 exact run_equalIn_bool w 9999 t a b hu
theorem aPm {b:Bool} {op:BinOp} {x y v:Value} {t:TypeId} (hb:b=true→E.P.underlying t=some .bool) (h:aMu b op x y=some v):(binOp op t x y).run E.P w = .ok v w∧TA.OneCell v:=by
 cases x with
 | int k n =>
  cases y with
  | int k' m =>
   simp only [aMu] at h;by_cases hs:aDp op=true
   ·rw [if_pos hs] at h;cases op<;>simp [aDp] at hs
    all_goals
     unfold aO0 at h;split at h
     ·cases h
     rename_i hn;simp only [Option.some.injEq] at h;subst h;simp [binOp,Op.shift,hn,TA.OneCell]
   rw [if_neg hs] at h;split at h
   case isFalse=>cases h
   rename_i hk;subst hk;cases op<;>simp [aDp] at hs<;>simp only [ibin] at h
   case quo =>
    split at h
    ·cases h
    rename_i hm;injection h with h;subst h;simp [binOp,Op.intDiv,hm,TA.OneCell]
   case rem =>
    split at h
    ·cases h
    rename_i hm;injection h with h;subst h;simp [binOp,Op.intDiv,hm,TA.OneCell]
   all_goals
    injection h with h
    subst h;simp [binOp,Op.intArith,Op.intCmp,intBits_and,intBits_or,intBits_xor,intBits_andNot,TA.OneCell]
  | _=>simp [aMu] at h
 | string s1 =>
  cases y with
  | string s2 =>
   simp only [aMu] at h;cases op<;>simp only [sbin] at h
   case add =>
    split at h
    ·rename_i hl;injection h with h
     subst h;have:¬ (((s1.size + s2.size:Nat):Int) > IntKind.i64.max):=by
      have:(IntKind.i64.max:Int)=9223372036854775807:=by decide
      rw [this];omega
     simp only [binOp,Op.stringOp];rw [if_neg this];exact ⟨rfl,by simp [TA.OneCell]⟩
    cases h
   all_goals first
    | cases h;done
    | (injection h with h;subst h;simp [binOp,Op.stringOp,TA.OneCell,sEq])
  | _=>simp [aMu] at h
 | bool b1 =>
  cases y with
  | bool b2 =>
   simp only [aMu] at h;split at h
   ·rename_i hbb;have hu:=hb hbb;cases op<;>simp only at h
    case eql =>
     injection h with h;subst h
     refine ⟨?_,by simp [TA.OneCell]⟩
     show (do pure (Value.bool (← Op.equal t (.bool b1) (.bool b2))):Sem Value).run E.P w=_
     simp only [Sem.run_bind,yG b1 b2 hu,Result.andThen_ok];rfl
    case neq =>
     injection h with h;subst h
     refine ⟨?_,by simp [TA.OneCell]⟩
     show (do pure (Value.bool (!(← Op.equal t (.bool b1) (.bool b2)))):Sem Value).run E.P w=_
     simp only [Sem.run_bind,yG b1 b2 hu,Result.andThen_ok];rfl
    all_goals cases h
   cases h
  | _=>simp [aMu] at h
 | _=>simp [aMu] at h
theorem aJ7 {b:Bool} {op:BinOp} {x y v:Value} {t:TypeId} (p q:Operand) (h:aMu b op x y=some v):(eqGuard op t p q x y).run E.P w = .ok () w:=by
 unfold eqGuard;cases x<;>first | (simp [aMu] at h;done) | skip
 all_goals
  cases y<;>first | (simp [aMu] at h;done) | skip
  all_goals
   cases op<;>rfl
def aGj (E:Env) (t:TypeId):Bool:=match E.ty t with
 | some ti=>match ti.kind with
  | .bool=>true
  | _=>false
 | none=>false
theorem aMh {t:TypeId} (h:aGj E t=true):E.P.underlying t=some .bool:=by
 unfold aGj at h;split at h
 ·rename_i ti hti;split at h
  ·rename_i hk;have:=(E.ok t ti hti).2.1;rw [hk] at this;exact this
  cases h
 cases h
def aFi (P:Program):Nat→List Field→List Bool→Bool
 | _,[],[]=>true
 | i, f :: fs, k :: ks => f.name != "_" && f.offset == i && (match P.underlying f.type with | some (.int _) => k | some .string => !k | _ => false) && aFi P (i + 1) fs ks
 | _,_,_=>false
def flatK (P:Program) (f:Field):Bool:=match P.underlying f.type with
 | some (.int _)=>true
 | _=>false
def aO8 (E:Env) (t:TypeId):Option (List Bool):=match E.P.underlying t with
 | some (.struct fs)=>if aFi E.P 0 fs.toList (fs.toList.map (flatK E.P)) && !(E.P.stoodInHeld t) && !(E.P.eqGuardType E.P.depth t) then some (fs.toList.map (flatK E.P)) else none
 | _=>none
def nJ:List Bool→List T→List T→Option Bool
 | [],[],[]=>some true
 | true :: ks,.v (.int k a) :: xs,.v (.int k' b) :: ys=>if k=k' then (nJ ks xs ys).map fun r=>(a == b) && r else none
 | false :: ks,.v (.string a) :: xs,.v (.string b) :: ys=>(nJ ks xs ys).map fun r=>sEq a b && r
 | _,_,_=>none
def aBf:List Bool→List T→List T→Option Bool
 | [],[],[]=>some false
 | true :: ks,.v (.int k a) :: xs,.v (.int k' b) :: ys=>if k=k' then (aBf ks xs ys).map fun r=>(a != b) || r else none
 | false :: ks,.v (.string a) :: xs,.v (.string b) :: ys=>(aBf ks xs ys).map fun r=>(!(sEq a b)) || r
 | _,_,_=>none
theorem aM3 (ks:List Bool) (xs ys:List T):aBf ks xs ys=(nJ ks xs ys).map fun r=>!r:=by
 fun_induction aBf ks xs ys with
 | case1=>rfl
 | case2 ks k a xs b ys ih=>simp [nJ,ih,Option.map_map,Function.comp_def,bne]
 | case3 ks k a xs k' b ys hk=>simp [nJ,hk]
 | case4 ks a xs b ys ih=>simp [nJ,ih,Option.map_map,Function.comp_def]
 | case5 ks xs ys h1 h2 h3 =>
  unfold nJ;split
  ·exact (h1 rfl rfl rfl).elim
  ·exact (h2 _ _ _ _ _ _ _ rfl rfl rfl).elim
  ·exact (h3 _ _ _ _ _ rfl rfl rfl).elim
  rfl
def aPc (E:Env) (N:Nat) (dst:Option Nat) (op:BinOp) (t:TypeId) (x y:Operand) (σ:St):Option St:=match σ.op x,σ.op y with
 | .t (.agg xs),.t (.agg ys)=>(aO8 E t).bind fun ks=>(match op with
  | .eql=>(nJ ks xs ys).bind fun b=>σ.put? N dst (.t (.v (.bool b)))
  | .neq=>(aBf ks xs ys).bind fun b=>σ.put? N dst (.t (.v (.bool b)))
  | _=>none)
 | _,_=>none
def aPi (E:Env) (N:Nat) (dst:Option Nat) (op:BinOp) (t:TypeId) (x y:Operand) (σ:St):Option St:=match σ.sc x,σ.sc y with
 | some u,some v=>(aMu (aGj E t) op u v).bind fun r=>σ.put? N dst (.t (.v r))
 | _,_=>aPc E N dst op t x y σ
def oneC (d:TypeDesc):Bool:=match d with
 | .struct _=>false
 | .array _ _=>false
 | _=>true
theorem zQ {P:Program} {t:TypeId} {d:TypeDesc} (h:P.underlying t=some d) (hd:oneC d=true) {X:Array Value} {i:Nat} {v:Value} (hv:X[i]? = some v) (w:World):(part t X i).run P w = .ok v w:=by
 have h1:(isAgg t).run P w = .ok false w:=by
  unfold isAgg;simp only [Sem.run_bind,run_underlying h,Result.andThen_ok];cases d<;>first | (simp [oneC] at hd;done) | rfl
 unfold part;simp only [Sem.run_bind,h1,Result.andThen_ok,Bool.false_eq_true,if_false,hv]
 rfl
theorem aIn {f:Bool} {fs:List Bool} {us vs:List T} {r:Bool} (h:nJ (f :: fs) us vs=some r):∃ u v us' vs',us = .v u :: us'∧vs = .v v :: vs'∧∃ q,nJ fs us' vs'=some q ∧
  ((f=true∧∃ k a b,u = .int k a∧v = .int k b∧r=((a == b) && q)) ∨ f=false∧∃ a b,u = .string a∧v = .string b∧r=(sEq a b && q)):=by
 unfold nJ at h;split at h
 ·rename_i h1;cases h1
 ·rename_i ks k a xs' k' b ys' h1;injection h1 with e1 e2
  subst e1;subst e2;split at h
  case isFalse=>cases h
  rename_i hk;subst hk;obtain ⟨q,hq,rfl⟩:=Option.map_eq_some_iff.1 h;exact ⟨_,_,_,_,rfl,rfl,q,hq,.inl ⟨rfl,k,a,b,rfl,rfl,rfl⟩⟩
 ·rename_i ks a xs' b ys' h1;injection h1 with e1 e2
  subst e1;subst e2;obtain ⟨q,hq,rfl⟩:=Option.map_eq_some_iff.1 h;exact ⟨_,_,_,_,rfl,rfl,q,hq,.inr ⟨rfl,a,b,rfl,rfl,rfl⟩⟩
 cases h
theorem tT {P:Program} (d:Nat) (X Y:Array Value):∀ (fs:List Field) (ks:List Bool) (i:Nat) (us vs:List T) (r:Bool) (w:World),aFi P i fs ks=true→nJ ks us vs=some r →
    (∀ j v,us[j]? = some (.v v)→X[i + j]? = some v)→(∀ j v,vs[j]? = some (.v v)→Y[i + j]? = some v)→(Op.eqFields (d + 1) X Y fs).run P w = .ok r w
  | [],[],i,us,vs,r,w,_,hr,_,_=>by
    cases us<;>cases vs<;>simp [nJ] at hr
    subst hr
    rfl
  | [],_ :: _,i,us,vs,r,w,hf,_,_,_=>by simp [aFi] at hf
  | _ :: _,[],i,us,vs,r,w,hf,_,_,_=>by simp [aFi] at hf
  | f :: fs,k0 :: ks,i,us,vs,r,w,hf,hr,hX,hY=>by
    obtain ⟨u,v,us,vs,rfl,rfl,q,hq,hc⟩:=aIn hr;simp only [aFi,Bool.and_eq_true,bne_iff_ne,ne_eq,beq_iff_eq] at hf;obtain ⟨⟨⟨hn,ho⟩,hk⟩,hfs⟩:=hf;have hu:=hX 0 u rfl;have hv:=hY 0 v rfl;rw [Nat.add_zero] at hu hv;have ih:=tT d X Y fs ks (i + 1) us vs q w hfs hq (fun j v h=>by have:=hX (j + 1) v (by simpa using h);rw [← this];congr 1;omega) (fun j v h=>by have:=hY (j + 1) v (by simpa using h);rw [← this];congr 1;omega)
    unfold Op.eqFields;rw [if_pos hn];have key:∀ (b:Bool),(Op.equalIn (d + 1) f.type u v).run P w = .ok b w→(∃ D,P.underlying f.type=some D∧oneC D=true) →
        (do let a ← part f.type X f.offset
            let c ← part f.type Y f.offset
            let r ← Op.equalIn (d + 1) f.type a c
            if (!r)=true then pure false else Op.eqFields (d + 1) X Y fs:Sem Bool).run P w = .ok (b && q) w:=by
      intro b hb ⟨D,hD,hD2⟩;rw [ho];simp only [Sem.run_bind,zQ hD hD2 hu,zQ hD hD2 hv,Result.andThen_ok,hb];cases b
      · simp only [Bool.not_false,if_true,Sem.run_pure,Bool.false_and]
      simp only [Bool.not_true,Bool.false_eq_true,if_false,ih,Bool.true_and]
    split at hk
    · rename_i k' hty;subst hk;rcases hc with ⟨_,k,a,b,rfl,rfl,rfl⟩ | ⟨hh,_⟩
      · exact key _ (run_equalIn_int w d f.type k k' a b hty) ⟨_,hty,rfl⟩
      cases hh
    · rename_i hty;simp only [Bool.not_eq_true'] at hk;subst hk;rcases hc with ⟨hh,_⟩ | ⟨_,a,b,rfl,rfl,rfl⟩
      · cases hh
      exact key _ (run_equalIn_string w d f.type a b hty) ⟨_,hty,rfl⟩
    cases hk
theorem aIm {us:List TA} {j:Nat} {v:Value} (h:(TA.erL us)[j]? = some (.v v)):(TA.vals us).toArray[j]? = some v:=by
 rw [TA.erL_map,List.getElem?_map] at h;obtain ⟨x,hx,h⟩:=Option.map_eq_some_iff.1 h;have:x = .v v:=by cases x<;>simp_all [TA.er]
 subst this;simp [TA.vals,hx,TA.val1]
theorem aPb {op:BinOp} {t t2:TypeId} {x y:Operand} (ho:o.op = .binOp op t x y t2) (h:aPc E C.N o.dst op t x y σ=some σ') (H:SOk C σ a w) (hK:∀ a' w',SOk C σ' a' w'→K a' w'):o.wp E.P a w K Q:=by
 unfold aPc at h;split at h
 case h_2=>cases h
 rename_i xs ys hx hy;obtain ⟨ks,hks,h⟩:=Option.bind_eq_some_iff.1 h;obtain ⟨s,Z,h1,h2,h3⟩:=id H;subst h1;obtain ⟨xA,e1,e2⟩:=opA h3 x;obtain ⟨yA,e3,e4⟩:=opA h3 y;rw [hx] at e1;rw [hy] at e3;obtain ⟨xz,rfl,hxz⟩:=aE3 e1;obtain ⟨yz,rfl,hyz⟩:=aE3 e3;cases xz<;>simp only [TA.er,T.agg.injEq,reduceCtorEq] at hxz
 cases yz<;>simp only [TA.er,T.agg.injEq,reduceCtorEq] at hyz
 rename_i us vs;subst hxz;subst hyz;have ex:a.eval x = .agg (TA.vals us).toArray:=e2.1;have ey:a.eval y = .agg (TA.vals vs).toArray:=e4.1;unfold aO8 at hks;split at hks
 case h_2=>cases hks
 rename_i fs hfs;split at hks
 case isFalse=>cases hks
 rename_i hcond;injection hks with hks
 simp only [Bool.and_eq_true,Bool.not_eq_true'] at hcond;have hF:E.P.fieldsOf t=fs:=by simp [Program.fieldsOf,hfs]
 have hrun:∀ b,nJ ks (TA.erL us) (TA.erL vs)=some b→(Op.equalIn 10000 t (.agg (TA.vals us).toArray) (.agg (TA.vals vs).toArray)).run E.P w = .ok b w:=by
  intro b hb;rw [run_equalIn_struct w 9999 t _ _ (by rw [hF];exact hfs) hcond.1.2,hF]
  exact tT 9998 _ _ fs.toList ks 0 (TA.erL us) (TA.erL vs) b w (by rw [← hks];exact hcond.1.1) hb (fun j v h=>by rw [Nat.zero_add];exact aIm h) (fun j v h=>by rw [Nat.zero_add];exact aIm h)
 split at h
 ·obtain ⟨b,hb,h5⟩:=Option.bind_eq_some_iff.1 h;refine bP (v:=.bool b) (w':=w) ?_ (hK _ _ (H.putS h5 (by simp [TA.OneCell])))
  simp only [execOp,ho,ex,ey,Sem.run_bind,run_eqGuard_agg w _ t x y _ _ hcond.2,run_eql_struct,hrun b hb,Result.andThen_ok]
  rfl
 ·obtain ⟨b,hb,h5⟩:=Option.bind_eq_some_iff.1 h;rw [aM3] at hb;obtain ⟨c,hc,rfl⟩:=Option.map_eq_some_iff.1 hb;refine bP (v:=.bool !c) (w':=w) ?_ (hK _ _ (H.putS h5 (by simp [TA.OneCell])))
  simp only [execOp,ho,ex,ey,Sem.run_bind,run_eqGuard_agg w _ t x y _ _ hcond.2,run_neq_struct,hrun c hc,Result.andThen_ok]
  rfl
 cases h
theorem aPh {op:BinOp} {t t2:TypeId} {x y:Operand} (ho:o.op = .binOp op t x y t2) (h:aPi E C.N o.dst op t x y σ=some σ') (H:SOk C σ a w) (hK:∀ a' w',SOk C σ' a' w'→K a' w'):o.wp E.P a w K Q:=by
 unfold aPi at h;split at h
 case h_2=>exact aPb ho h H hK
 rename_i u v hu hv;obtain ⟨r,hr,h⟩:=Option.bind_eq_some_iff.1 h;obtain ⟨s,Z,h1,h2,h3⟩:=id H;subst h1;obtain ⟨e1,o1⟩:=nM h3 hu;obtain ⟨e2,o2⟩:=nM h3 hv;have hrun:=aPm (E:=E) (w:=w) (t:=t) aMh hr;refine bP (v:=r) (w':=w) ?_ (hK _ _ (H.putS h hrun.2));simp only [execOp,ho,e1,e2,Sem.run_bind,aJ7 x y hr,hrun.1,Result.andThen_ok]
 rfl
def unV (op:UnOp):Value→Option Value
 | .int k n=>match op with
  | .neg=>some (.int k (k.wrap (0 - n)))
  | _=>none
 | .bool b=>match op with
  | .not=>some (.bool !b)
  | _=>none
 | _=>none
def stUn (N:Nat) (dst:Option Nat) (op:UnOp) (x:Operand) (σ:St):Option St:=match σ.sc x with
 | some u=>(unV op u).bind fun r=>σ.put? N dst (.t (.v r))
 | none=>none
theorem aR4 {op:UnOp} {t:TypeId} {x:Operand} (ho:o.op = .unOp op t x) (h:stUn C.N o.dst op x σ=some σ') (H:SOk C σ a w) (hK:∀ a' w',SOk C σ' a' w'→K a' w'):o.wp E.P a w K Q:=by
 unfold stUn at h;split at h
 case h_2=>cases h
 rename_i u hu;obtain ⟨r,hr,h⟩:=Option.bind_eq_some_iff.1 h;obtain ⟨s,Z,h1,h2,h3⟩:=id H;subst h1;obtain ⟨e1,o1⟩:=nM h3 hu;have hov:TA.OneCell r:=by
  cases u<;>cases op<;>simp [unV] at hr<;>subst hr<;>simp [TA.OneCell]
 refine bP (v:=r) (w':=w) ?_ (hK _ _ (H.putS h hov));simp only [execOp,ho,e1];cases u<;>cases op<;>simp [unV] at hr<;>subst hr<;>simp [Op.unary,Op.intArith]
def rR (E:Env) (t:TypeId):Option TK:=(E.ty t).map TI.kind
theorem fM {t:TypeId} {k:TK} (h:rR E t=some k):aJ1 E.P t k:=by
 obtain ⟨ti,h1,rfl⟩:=Option.map_eq_some_iff.1 h;exact (E.ok t ti h1).2.1
def aKd (E:Env) (N:Nat) (dst:Option Nat) (src d:TypeId) (x:Operand) (σ:St):Option St:=match rR E src,rR E d,σ.sc x with
 | some (.int _),some (.int k),some (.int _ n)=>σ.put? N dst (.t (.v (.int k (k.wrap n))))
 | some .str,some .str,some (.string z)=>σ.put? N dst (.t (.v (.string z)))
 | _,_,_=>none
theorem aNa {src d:TypeId} {x:Operand} (ho:o.op = .convert src d x) (h:aKd E C.N o.dst src d x σ=some σ') (H:SOk C σ a w) (hK:∀ a' w',SOk C σ' a' w'→K a' w'):o.wp E.P a w K Q:=by
 unfold aKd at h;split at h
 ·rename_i k0 k k1 n hs hd hx;obtain ⟨s,Z,h1,h2,h3⟩:=id H;subst h1;obtain ⟨e1,o1⟩:=nM h3 hx;have u1:E.P.underlying src=some (.int k0):=fM hs;have u2:E.P.underlying d=some (.int k):=fM hd;refine bP (v:=.int k (k.wrap n)) (w':=w) ?_ (hK _ _ (H.putS h (by simp [TA.OneCell])))
  simp [execOp,ho,e1,convert,run_underlying u1,run_underlying u2,Conv.intToInt]
 ·rename_i z hs hd hx;obtain ⟨s,Z,h1,h2,h3⟩:=id H;subst h1;obtain ⟨e1,o1⟩:=nM h3 hx;have u1:E.P.underlying src=some .string:=fM hs;have u2:E.P.underlying d=some .string:=fM hd;refine bP (v:=.string z) (w':=w) ?_ (hK _ _ (H.putS h (by simp [TA.OneCell])))
  simp [execOp,ho,e1,convert,run_underlying u1,run_underlying u2]
 cases h
def aRa (E:Env) (t:TypeId):Option T:=match rR E t with
 | some (.slice e)=>(E.ty e).map fun ti=>.sl true ti.size []
 | _=>none
def kOf:T→Option Nat
 | .agg cs=>some cs.length
 | _=>none
def aIa:Operand→Bool
 | .const (.slice none 0 0)=>true
 | _=>false
def aHh (E:Env) (N:Nat) (dst:Option Nat) (ty:TypeId) (x:Operand) (σ:St):Option St :=
 if aIa x=true then (aRa E ty).bind fun y=>σ.put? N dst (.t y)
 else match σ.op x with
  | .t y=>if y.hasOwn=true then (match x with | .tmp n=>σ.put? N dst (.al (.slot n) 0 [] (kOf y)) | _=>none) else σ.put? N dst (.t y)
  | .al r p q k=>σ.put? N dst (.al r p q k)
  | .ref r p q=>σ.put? N dst (.ref r p q)
  | .rop cs p=>σ.put? N dst (.rop cs p)
  | .clo f cs=>σ.put? N dst (.clo f cs)
  | _=>none
theorem aA7 {x:Operand} (h:aIa x=true):x = .const (.slice none 0 0):=by
 unfold aIa at h;split at h
 ·rfl
 cases h
theorem aMl (x:TA):TA.getP x.cells 0 [] ((kOf x.er).getD 1)=some x.cells∧(kOf x.er=none→x.cells.length=1)∧oY (kOf x.er) x.cells=x.val:=by
 cases x with
 | agg cs=>simp [TA.er,kOf,TA.cells,TA.getP,TA.erL_map,oY,TA.val]
 | _=>simp [TA.er,kOf,TA.cells,TA.getP,oY,TA.val]
theorem aHg {x:Operand} (ho:o.op = .move x) (h:aHh E C.N o.dst o.type x σ=some σ') (H:SOk C σ a w) (hK:∀ a' w',SOk C σ' a' w'→K a' w'):o.wp E.P a w K Q:=by
 have hrun:(execOp a.eval o).run E.P w = .ok (.value (a.eval x)) w:=by simp [execOp,ho]
 refine bP hrun (hK _ _ ?_);unfold aHh at h;split at h
 ·rename_i hn;rw [aA7 hn];obtain ⟨y,hy,h⟩:=Option.bind_eq_some_iff.1 h;unfold aRa at hy;split at hy
  ·obtain ⟨ti,_,rfl⟩:=Option.map_eq_some_iff.1 hy;obtain ⟨s,Z,h1,h2,h3⟩:=id H;exact SOk.put0 h3 h1 h (xA:=.t (.nl true ti.size none)) rfl ⟨rfl,by simp [TA.Holds]⟩ (fun k=>rfl)
  cases hy
 obtain ⟨s,Z,h1,h2,h3⟩:=id H;subst h1;obtain ⟨xA,e1,e2⟩:=opA h3 x;split at h
 ·rename_i y hy;rw [hy] at e1;obtain ⟨yA,rfl,rfl⟩:=aE3 e1;split at h
  ·rename_i hown;split at h
   ·rename_i n _
    -- an alias of what the slot holds
    simp only [St.op,St.get,nF] at hy;cases hlk:look s.tm n with
    | none=>rw [hlk] at hy;simp at hy
    | some z =>
     rw [hlk] at hy;simp only [Option.map_some,Option.getD_some] at hy;obtain ⟨z',rfl,hz⟩:=aE3 hy;have hv:=h3.tm n _ hlk;obtain ⟨g1,g2,g3⟩:=aMl z';rw [hz] at g1 g2 g3;refine SOk.put0 h3 rfl h (xA:=.al (.slot n) 0 [] (kOf yA.er)) rfl ⟨none,z'.cells,z'.cells,?_,g1,?_,?_⟩ (fun k=>rfl)
     ·simp [StA.rootCells,hlk]
     ·rw [vA,hz];exact hown
     rw [g3];exact hv.1
   cases h
  rename_i hno;exact SOk.put0 h3 rfl h (xA:=.t yA) rfl e2 (fun k=>TA.cnt_of_noOwn k yA (by simpa using hno))
 ·rename_i r p q k hy;rw [hy] at e1;rw [aMr e1] at e2;exact SOk.put0 h3 rfl h (xA:=.al r p q k) rfl e2 (fun k=>rfl)
 ·rename_i r p q hy;rw [hy] at e1;rw [uH e1] at e2;exact SOk.put0 h3 rfl h (xA:=.ref r p q) rfl e2 (fun k=>rfl)
 ·rename_i cs p hy;rw [hy] at e1;obtain ⟨b,off,csA,rfl,rfl⟩:=aFj e1;exact SOk.put0 h3 rfl h (xA:=.rop b off csA p) rfl e2 (fun k=>rfl)
 ·rename_i f cs hy;rw [hy] at e1;obtain ⟨xs,rfl,rfl⟩:=aIl e1;exact SOk.put0 h3 rfl h (xA:=.clo f xs) rfl e2 (fun k=>rfl)
 cases h
def St.take (σ:St) (N:Nat) (x:Operand):Option (T × St):=match σ.op x with
 | .t y=>if y.hasOwn=true then (match x with | .tmp n=>if n < N then some (y,σ.set n .u) else none | _=>none) else some (y,σ)
 | .al r o p k=>(σ.rootCells r).bind fun cs=>(T.getP cs o p (k.getD 1)).bind fun l=>some (mkT k l,if p.length=1 then σ.setRootE true r (T.setP cs o p (l.map T.bury)) else σ.setRoot true r (T.setP cs o p (l.map T.bury)))
 | _=>none
theorem rC (l:List TA):TA.erL (l.map TA.bury)=(TA.erL l).map T.bury:=by
 simp only [TA.erL_map,List.map_map];exact List.map_congr_left fun t _=>TA.er_bury t
theorem vT {x:Operand} {y:T} (H:SRel C Z s a w) (h:s.er.take C.N x=some (y,σ')) :
  ∃ s' yA,yA.er=y∧s'.er=σ'∧s'.hd=yA :: s.hd∧SRel C Z s' a w∧a.eval x=yA.val∧yA.Holds Z w.heap:=by
 unfold St.take at h;obtain ⟨xA,e1,e2⟩:=opA H x;split at h
 ·rename_i z hz;rw [hz] at e1;obtain ⟨yA,rfl,rfl⟩:=aE3 e1;split at h
  ·rename_i hown;split at h
   ·rename_i n;split at h
    ·rename_i hn;injection h with h
     simp only [Prod.mk.injEq] at h;obtain ⟨rfl,rfl⟩:=h;simp only [St.op,St.get,nF] at hz;cases hlk:look s.tm n with
     | none=>rw [hlk] at hz;simp at hz
     | some q =>
      rw [hlk] at hz;simp only [Option.map_some,Option.getD_some] at hz;obtain ⟨z',rfl,hz'⟩:=aE3 hz;obtain ⟨s',g1,g2,g3,g4,g5⟩:=H.takeSlot hn hlk;exact ⟨s',z',hz',g1,g2,g3,g5,g4⟩
    cases h
   cases h
  rename_i hno;injection h with h
  simp only [Prod.mk.injEq] at h;obtain ⟨rfl,rfl⟩:=h;have hno':yA.er.hasOwn=false:=by simpa using hno
  refine ⟨s.push [yA],yA,rfl,rfl,rfl,?_,e2.1,e2.2⟩;refine H.newHand [yA] (fun _ hz=>hz) (fun k hk=>.inl hk) H.zlt (by simp only [TA.HoldsL];exact ⟨e2.2,trivial⟩) (fun k=>?_) (fun k hk=>?_) H.notZ (fun q _=>?_)
  ·simp [TA.cntL,TA.cnt_of_noOwn k yA hno']
  ·simp [TA.cntL,TA.cnt_of_noOwn k yA hno'] at hk
  simp [TA.cntL,TA.cnt_of_noOwn _ yA hno']
 ·rename_i r p q k hz;rw [hz] at e1;rw [aMr e1] at e2;obtain ⟨csT,hcs,h⟩:=Option.bind_eq_some_iff.1 h;obtain ⟨lT,hl,h⟩:=Option.bind_eq_some_iff.1 h;injection h with h
  simp only [Prod.mk.injEq] at h;obtain ⟨rfl,rfl⟩:=h;obtain ⟨base,cs,l,g1,g2,g3,g4⟩:=e2;rw [StA.er_rootCells,g1] at hcs;simp only [Option.map_some,Option.some.injEq] at hcs;subst hcs;obtain ⟨l',t1,t2⟩:=TA.er_get _ _ _ _ _ hl;rw [g2] at t1;injection t1 with t1
  subst t1;subst t2;have hlen:k=none→l.length=1:=fun hk=>by rw [TA.getP_length _ _ _ _ _ g2,hk];rfl
  by_cases hp1:q.length=1
  ·obtain ⟨⟨i,o'⟩,rfl⟩:=List.length_eq_one_iff.1 hp1;obtain ⟨r1,r2,r3⟩:=H.takePlaceE g1 g2;rw [if_pos hp1];refine ⟨_,yM k l,wS k l,?_,?_,r1.drop (hd':=yM k l :: s.hd) (fun q=>?_) ?_,?_,gN hlen r3 r2⟩
   ·show StA.er _=_;have:=StA.er_setRootE s true r (TA.setP cs p [(i,o')] (l.map TA.bury)) (l ++ s.hd);rw [TA.er_set,rC] at this;exact this
   ·rfl
   ·have:(s.setRootE true r (TA.setP cs p [(i,o')] (l.map TA.bury)) (l ++ s.hd)).hd=l ++ s.hd:=by
     cases r<;>simp only [StA.setRootE]<;>split<;>rfl
    rw [this];simp only [TA.cntL,TA.cntL_append,qZ q hlen];omega
   ·simp only [TA.HoldsL];exact ⟨gN hlen r3 r2,H.hand⟩
   rw [g4,qY hlen r3]
  rw [if_neg hp1];obtain ⟨r1,r2,r3⟩:=H.takePlace g1 g2;refine ⟨_,yM k l,wS k l,?_,?_,r1.drop (hd':=yM k l :: s.hd) (fun q=>?_) ?_,?_,gN hlen r3 r2⟩
  ·show StA.er _=_;have:=StA.er_setRoot s true r (TA.setP cs p q (l.map TA.bury)) (l ++ s.hd);rw [TA.er_set,rC] at this;exact this
  ·rfl
  ·rw [pK];simp only [TA.cntL,TA.cntL_append,qZ q hlen];omega
  ·simp only [TA.HoldsL];exact ⟨gN hlen r3 r2,H.hand⟩
  rw [g4,qY hlen r3]
 cases h
def aCf (E:Env) (N:Nat) (dst:Option Nat) (ty:TypeId) (x:Operand) (σ:St):Option St :=
 if aIa x=true then (aRa E ty).bind fun y=>σ.put? N dst (.t y)
 else match σ.op x with
  | .ref r p q=>σ.put? N dst (.ref r p q)
  | .rop cs p=>σ.put? N dst (.rop cs p)
  | .clo f cs=>σ.put? N dst (.clo f cs)
  | _=>(σ.take N x).bind fun y=>y.2.put? N dst (.t y.1)
theorem aJ5 {x:Operand} (ho:o.op = .assign x) (h:aCf E C.N o.dst o.type x σ=some σ') (H:SOk C σ a w) (hK:∀ a' w',SOk C σ' a' w'→K a' w'):o.wp E.P a w K Q:=by
 have hrun:(execOp a.eval o).run E.P w = .ok (.value (a.eval x)) w:=by simp [execOp,ho]
 refine bP hrun (hK _ _ ?_);unfold aCf at h;obtain ⟨s,Z,h1,h2,h3⟩:=id H;subst h1;split at h
 ·rename_i hn;rw [aA7 hn];obtain ⟨y,hy,h⟩:=Option.bind_eq_some_iff.1 h;unfold aRa at hy;split at hy
  ·obtain ⟨ti,_,rfl⟩:=Option.map_eq_some_iff.1 hy;exact SOk.put0 h3 rfl h (xA:=.t (.nl true ti.size none)) rfl ⟨rfl,by simp [TA.Holds]⟩ (fun k=>rfl)
  cases hy
 obtain ⟨xA,e1,e2⟩:=opA h3 x;split at h
 ·rename_i r p q hy;rw [hy] at e1;rw [uH e1] at e2;exact SOk.put0 h3 rfl h (xA:=.ref r p q) rfl e2 (fun k=>rfl)
 ·rename_i cs p hy;rw [hy] at e1;obtain ⟨b,off,csA,rfl,rfl⟩:=aFj e1;exact SOk.put0 h3 rfl h (xA:=.rop b off csA p) rfl e2 (fun k=>rfl)
 ·rename_i f cs hy;rw [hy] at e1;obtain ⟨xs,rfl,rfl⟩:=aIl e1;exact SOk.put0 h3 rfl h (xA:=.clo f xs) rfl e2 (fun k=>rfl)
 obtain ⟨⟨y,σ1⟩,ht,h⟩:=Option.bind_eq_some_iff.1 h;obtain ⟨s',yA,t1,t2,t3,t4,t5,t6⟩:=vT h3 ht;simp only at h;subst t1;rw [t5];refine SOk.put? t4 t2 h (xA:=.t yA) rfl ⟨rfl,t6⟩ (fun k=>?_);rw [t3];simp only [AVA.cnt_t,TA.cntL];omega
end Go.OM
namespace Go.OM
variable {C:Ctx} {Z:Nat→Prop} {s:StA} {a:Act} {w w':World} {E:Env} {o:Oper} {σ σ':St} {K:Act→World→Prop} {Q:Exit→Act→World→Prop}
theorem iI (b off n:Nat):(⟨b,off,none⟩:Addr).add n=⟨b,off + n,none⟩:=by
 unfold Addr.add;split
 ·rename_i h;subst h;rfl
 rfl
def aKc (E:Env) (N:Nat) (dst:Option Nat) (t:TypeId) (x:Operand) (σ:St):Option St:=(E.ty t).bind fun ti=>match σ.opr x with
 | .ref r p q=>(σ.rootCells r).bind fun cs=>(T.getP cs p q ti.size).bind fun l=>if T.hasOwnL l=true then σ.put? N dst (.al r p q ti.kk) else σ.put? N dst (.t (mkT ti.kk l))
 | .rop cs p=>if p + ti.size ≤ cs.length then σ.put? N dst (.t (mkT ti.kk ((cs.drop p).take ti.size))) else none
 | _=>none
theorem uW {t:TypeId} {ti:TI} (hti:E.ty t=some ti) {b off:Nat} {l:List TA} {c:Array Value} {ety:TypeId} {fr:Nat × Nat} (hb:w.heap[b]? = some (.cells c ety fr)) (hl:l.length=ti.size)
  (hc:∀ c ∈ l,c.isCell=true) (hm:∀ j u,(TA.vals l)[j]? = some u→c[off + j]? = some u):(loadVar t ⟨b,off,none⟩).run E.P w = .ok (oY ti.kk l) w:=by
 have ok:=E.ok t ti hti;have hcell:∀ j u,(TA.vals l)[j]? = some u→w.cell? ((⟨b,off,none⟩:Addr).add j)=some u:=by
  intro j u hj;rw [iI];simp [World.cell?,hb,hm j u hj]
 unfold loadVar;simp only [Sem.run_bind,ok.run_isAgg w,Result.andThen_ok];unfold TI.kk;by_cases hs:ti.kind.isStruct=true
 ·rw [if_pos hs,if_pos hs];have h2:=run_loadCells_list (P:=E.P) w ⟨b,off,none⟩ (TA.vals l) hcell;rw [TA.vals_length,hl] at h2;simp only [Sem.run_bind,ok.run_sizeOf w,Result.andThen_ok,h2]
  rfl
 rw [if_neg hs,if_neg hs];have h1:=ok.one (by simpa using hs)
 rw [h1] at hl;obtain ⟨x,rfl⟩:=List.length_eq_one_iff.1 hl;have h2:=hcell 0 x.val1 rfl;rw [iI,Nat.add_zero] at h2;simp only [load,Sem.run,h2,oY]
theorem aBi (E:Env) {t:TypeId} {ti:TI} (hti:E.ty t=some ti):ti.kk.getD 1=ti.size∧(ti.kk=none→ti.size=1):=by
 have ok:=E.ok t ti hti;unfold TI.kk;by_cases hs:ti.kind.isStruct=true
 ·rw [if_pos hs];exact ⟨rfl,fun h=>by cases h⟩
 rw [if_neg hs];have:=ok.one (by simpa using hs)
 exact ⟨by simp [this],fun _=>this⟩
theorem aN7 {t:TypeId} {x:Operand} (ho:o.op = .load t x) (h:aKc E C.N o.dst t x σ=some σ') (H:SOk C σ a w) (hK:∀ a' w',SOk C σ' a' w'→K a' w'):o.wp E.P a w K Q:=by
 unfold aKc at h;obtain ⟨ti,hti,h⟩:=Option.bind_eq_some_iff.1 h;obtain ⟨s,Z,h1,h2,h3⟩:=id H;subst h1;obtain ⟨xA,e1,e2⟩:=oprA h3 x;obtain ⟨kg,k1⟩:=aBi E hti;split at h
 ·rename_i r p q hx;rw [hx] at e1;rw [uH e1] at e2;obtain ⟨csT,hcs,h⟩:=Option.bind_eq_some_iff.1 h;obtain ⟨lT,hl,h⟩:=Option.bind_eq_some_iff.1 h;obtain ⟨base,cs,ad,g1,g2,g3⟩:=e2;rw [StA.er_rootCells,g1] at hcs;simp only [Option.map_some,Option.some.injEq] at hcs;subst hcs;obtain ⟨l,t1,t2⟩:=TA.er_get _ _ _ _ _ hl;subst t2;obtain ⟨r1,r2,r3,r4⟩:=gL h3 g1;obtain ⟨q1,q2⟩:=rE q _ _ _ _ t1 r1 r2;obtain ⟨c,ety,m1,m2,m3⟩:=tY q base cs p ti.size l ad t1 g2 r1 r3;have hlen:=TA.getP_length _ _ _ _ _ t1;have hrun:=uW hti (w:=w) m1 hlen q2 m3;refine bP (v:=oY ti.kk l) (w':=w) ?_ (hK _ _ ?_)
  ·simp only [execOp,ho,g3,Instr.loadAt,Instr.sureAddr,Sem.run_bind,Sem.run_pure,Result.andThen_ok,hrun]
  split at h
  ·rename_i hown;exact SOk.put0 h3 rfl h (xA:=.al r p q ti.kk) rfl ⟨base,cs,l,g1,by rw [kg];exact t1,hown,rfl⟩ (fun k=>rfl)
  rename_i hno;have hl1:ti.kk=none→l.length=1:=fun hk=>by rw [hlen,k1 hk]
  refine SOk.put0 h3 rfl h (xA:=.t (yM ti.kk l)) (by simp [AVA.er,wS]) ⟨(qY hl1 q2).symm,gN hl1 q2 q1⟩ (fun k=>?_)
  rw [AVA.cnt_t,qZ k hl1];exact TA.cntL_of_noOwn k l (by simpa using hno)
 ·rename_i csT p hx;rw [hx] at e1;obtain ⟨b,off,cs,rfl,rfl⟩:=aFj e1;obtain ⟨g1,g2,g3,g4,g5,g6⟩:=e2;split at h
  case isFalse=>cases h
  rename_i hle;rw [TA.er_len] at hle;obtain ⟨c,ety,fr,m1,m2,m3⟩:=g3;have hlen:((cs.drop p).take ti.size).length=ti.size:=by simp;omega
  have hc:∀ c ∈ (cs.drop p).take ti.size,c.isCell=true:=fun c hc=>g6 c (List.mem_of_mem_drop (List.mem_of_mem_take hc));have hrun:=uW hti (w:=w) (off:=off + p) (l:=(cs.drop p).take ti.size) m1 hlen hc (fun j u hj=>by
   rw [Nat.add_assoc];refine m3 (p + j) u ?_;rw [TA.vals_get] at hj ⊢;rw [List.getElem?_take] at hj;split at hj
   ·rw [List.getElem?_drop] at hj;exact hj
   cases hj)
  refine bP (v:=oY ti.kk ((cs.drop p).take ti.size)) (w':=w) ?_ (hK _ _ ?_)
  ·simp only [execOp,ho,g1,Instr.loadAt,Instr.sureAddr,Sem.run_bind,Sem.run_pure,Result.andThen_ok,hrun]
  have hl1:ti.kk=none→((cs.drop p).take ti.size).length=1:=fun hk=>by rw [hlen,k1 hk]
  have hcnt:∀ k,TA.cntL k ((cs.drop p).take ti.size)=0:=by
   intro k;have key:∀ (l:List TA),TA.cntL k l=0→∀ m:List TA,(∀ t ∈ m,t ∈ l)→TA.cntL k m=0:=by
    intro l hl m;induction m with
    | nil=>intro _;rfl
    | cons t ts ih =>
     intro hm;obtain ⟨i,hi⟩:=List.mem_iff_getElem?.1 (hm t (by simp))
     have:=TA.cnt_le_cntL k hi;simp only [TA.cntL,ih (fun t ht=>hm t (by simp [ht]))]
     omega
   exact key cs (g5 k) _ (fun t ht=>List.mem_of_mem_drop (List.mem_of_mem_take ht))
  refine SOk.put0 h3 rfl h (xA:=.t (yM ti.kk ((cs.drop p).take ti.size))) ?_ ⟨(qY hl1 hc).symm,gN hl1 hc ?_⟩ (fun k=>?_)
  ·simp [AVA.er,wS,TA.erL_map]
  ·exact TA.holdsL_iff.2 fun t ht=>TA.holdsL_iff.1 g4 t (List.mem_of_mem_drop (List.mem_of_mem_take ht))
  rw [AVA.cnt_t,qZ k hl1];exact hcnt k
 cases h
def aAy (E:Env) (N:Nat) (dst:Option Nat) (t:TypeId) (x:Operand) (σ:St):Option St:=(E.ty t).bind fun ti=>match σ.opr x with
 | .ref r p q=>(σ.rootCells r).bind fun cs=>(T.getP cs p q ti.size).bind fun l=>σ.put? N dst (.t (mkT ti.kk (l.map T.bury)))
 | _=>none
theorem aLq {t:TypeId} {x:Operand} (ho:o.op = .load t x) (h:aAy E C.N o.dst t x σ=some σ') (H:SOk C σ a w) (hK:∀ a' w',SOk C σ' a' w'→K a' w'):o.wp E.P a w K Q:=by
 unfold aAy at h;obtain ⟨ti,hti,h⟩:=Option.bind_eq_some_iff.1 h;obtain ⟨s,Z,h1,h2,h3⟩:=id H;subst h1;obtain ⟨xA,e1,e2⟩:=oprA h3 x;obtain ⟨kg,k1⟩:=aBi E hti;split at h
 ·rename_i r p q hx;rw [hx] at e1;rw [uH e1] at e2;obtain ⟨csT,hcs,h⟩:=Option.bind_eq_some_iff.1 h;obtain ⟨lT,hl,h⟩:=Option.bind_eq_some_iff.1 h;obtain ⟨base,cs,ad,g1,g2,g3⟩:=e2;rw [StA.er_rootCells,g1] at hcs;simp only [Option.map_some,Option.some.injEq] at hcs;subst hcs;obtain ⟨l,t1,t2⟩:=TA.er_get _ _ _ _ _ hl;subst t2;obtain ⟨r1,r2,r3,r4⟩:=gL h3 g1;obtain ⟨q1,q2⟩:=rE q _ _ _ _ t1 r1 r2;obtain ⟨c,ety,m1,m2,m3⟩:=tY q base cs p ti.size l ad t1 g2 r1 r3;have hlen:=TA.getP_length _ _ _ _ _ t1;have hrun:=uW hti (w:=w) m1 hlen q2 m3;obtain ⟨b1,b2,b3,b4⟩:=iM q1 q2;have hl1:ti.kk=none→(l.map TA.bury).length=1:=fun hk=>by rw [List.length_map,hlen,k1 hk]
  have hval:oY ti.kk l=oY ti.kk (l.map TA.bury):=by
   cases hk:ti.kk with
   | none =>
    have h1:l.length=1:=by rw [hlen,k1 hk]
    obtain ⟨y,rfl⟩:=List.length_eq_one_iff.1 h1;simp only [TA.vals,List.map_cons,List.map_nil,List.cons.injEq,and_true] at b3;simp only [oY,List.map_cons,List.map_nil];exact b3.symm
   | some m=>simp only [oY];rw [b3]
  refine bP (v:=oY ti.kk l) (w':=w) ?_ (hK _ _ ?_)
  ·simp only [execOp,ho,g3,Instr.loadAt,Instr.sureAddr,Sem.run_bind,Sem.run_pure,Result.andThen_ok,hrun]
  rw [hval];refine SOk.put0 h3 rfl h (xA:=.t (yM ti.kk (l.map TA.bury))) (by simp only [AVA.er,wS,rC]) ⟨(qY hl1 b2).symm,gN hl1 b2 b1⟩ (fun k=>?_)
  rw [AVA.cnt_t,qZ k hl1];exact b4 k
 cases h
def St.takeN (E:Env) (N:Nat) (t:TypeId) (y:Operand) (σ:St):Option (T × St):=if aIa y=true then (aRa E t).map fun x=>(x,σ) else σ.take N y
theorem aP2 {t:TypeId} {x:Operand} {y:T} (H:SRel C Z s a w) (h:s.er.takeN E C.N t x=some (y,σ')) :
  ∃ s' yA,yA.er=y∧s'.er=σ'∧s'.hd=yA :: s.hd∧SRel C Z s' a w∧a.eval x=yA.val∧yA.Holds Z w.heap:=by
 unfold St.takeN at h;split at h
 ·rename_i hn;rw [aA7 hn];obtain ⟨z,hz,h⟩:=Option.map_eq_some_iff.1 h;simp only [Prod.mk.injEq] at h;obtain ⟨rfl,rfl⟩:=h;unfold aRa at hz;split at hz
  ·obtain ⟨ti,_,rfl⟩:=Option.map_eq_some_iff.1 hz;refine ⟨s.push [.nl true ti.size none],.nl true ti.size none,rfl,StA.er_push s _,rfl,?_,rfl,by simp [TA.Holds]⟩
   exact H.newHand _ (fun _ h=>h) (fun _ h=>.inl h) H.zlt (by simp [TA.HoldsL,TA.Holds]) (fun k=>by simp [TA.cntL,TA.cnt]) (fun k hk=>by simp [TA.cntL,TA.cnt] at hk) H.notZ (fun y _=>by simp [TA.cntL,TA.cnt])
  cases hz
 exact vT H h
def aFv (E:Env) (N:Nat) (t:TypeId) (x y:Operand) (σ:St):Option St:=(E.ty t).bind fun ti=>(σ.takeN E N t y).bind fun z=>match z.2.op x with
 | .ref r p q=>(z.2.rootCells r).bind fun cs=>(T.getP cs p q ti.size).bind fun l =>
  if z.1.cells.length=ti.size∧0 < ti.size then some (if q.length=1 then z.2.setRootE (T.hasOwnL l || z.1.hasOwn) r (T.setP cs p q z.1.cells) else z.2.setRoot (T.hasOwnL l || z.1.hasOwn) r (T.setP cs p q z.1.cells)) else none
 | _=>none
theorem aMz (x:TA):x.val.cells.toList=TA.vals x.cells ∨ (∃ v,x = .v v) ∨ (∃ v,x = .dead v):=by
 cases x with
 | agg cs=>left;simp [TA.val,Value.cells,TA.cells]
 | nl _ _ _=>left;rfl
 | sl _ _ _ _ _ _=>left;rfl
 | v x=>right;left;exact ⟨x,rfl⟩
 | dead x=>right;right;exact ⟨x,rfl⟩
 | clo _ _=>left;rfl
 | pt _ _ _=>left;rfl
theorem xE {x:TA} {h:Array Obj} (hx:x.Holds Z h):x.val.cells.toList=TA.vals x.cells:=by
 rcases aMz x with h1 | ⟨v,rfl⟩ | ⟨v,rfl⟩
 ·exact h1
 ·simp only [TA.Holds] at hx;cases v<;>first | (simp [TA.OneCell] at hx;done) | rfl
 simp only [TA.Holds] at hx;cases v<;>first | (simp [TA.OneCell] at hx;done) | rfl
theorem aBw {h:Array Obj} {l:List TA} (hl:TA.HoldsL Z h l) (hc:∀ c ∈ l,c.isCell=true):∀ v ∈ TA.vals l,TA.OneCell v:=by
 intro v hv;obtain ⟨c,hcm,rfl⟩:=List.mem_map.1 hv;exact TA.oneCell_val1 (hc c hcm) (TA.holdsL_iff.1 hl c hcm)
theorem aLn {t:TypeId} {x y:Operand} (ho:o.op = .store t x y) (hd:o.dst=none) (h:aFv E C.N t x y σ=some σ') (H:SOk C σ a w) (hK:∀ a' w',SOk C σ' a' w'→K a' w'):o.wp E.P a w K Q:=by
 unfold aFv at h;obtain ⟨ti,hti,h⟩:=Option.bind_eq_some_iff.1 h;obtain ⟨⟨z,σ1⟩,ht,h⟩:=Option.bind_eq_some_iff.1 h;obtain ⟨s0,Z,h1,h2,h3⟩:=id H;subst h1;obtain ⟨s,zA,t1,t2,t3,t4,t5,t6⟩:=aP2 h3 ht;subst t1;subst t2;have ok:=E.ok t ti hti;obtain ⟨xA,e1,e2⟩:=opA t4 x;split at h
 case h_2=>cases h
 rename_i r p q hx;rw [hx] at e1;rw [uH e1] at e2;obtain ⟨csT,hcs,h⟩:=Option.bind_eq_some_iff.1 h;obtain ⟨lT,hl,h⟩:=Option.bind_eq_some_iff.1 h;obtain ⟨base,cs,ad,g1,g2,g3⟩:=e2;rw [StA.er_rootCells,g1] at hcs;simp only [Option.map_some,Option.some.injEq] at hcs;subst hcs;obtain ⟨l,r1,r2⟩:=TA.er_get _ _ _ _ _ hl;subst r2;split at h
 case isFalse=>cases h
 rename_i hsz;rw [TA.er_cells,TA.er_len] at hsz;injection h with h
 obtain ⟨q1,q2,q3,q4⟩:=gL t4 g1;obtain ⟨c,ety,m1,m2,m3⟩:=tY q base cs p ti.size l ad r1 g2 q1 q3;have hcells:=TA.holds_cells t6;have hisc:=TA.isCell_mem_cells t6;have hv:=xE t6;have hst:=zP (P:=E.P) (w:=w) (b:=ad.1) (off:=ad.2) (TA.vals zA.cells) m1 (by rw [TA.vals_length,hsz.1];exact m2) (aBw hcells hisc)
 have hcnt0:∀ k,TA.cntL k zA.cells + TA.cntL k [] ≤ TA.cntL k s.hd:=fun k=>by rw [t3];simp only [TA.cntL,TA.cntL_cells];omega
 have hful:(T.hasOwnL (TA.erL l) || zA.er.hasOwn)=false→T.hasOwnL (TA.erL l)=false:=fun hf=>by
  simp only [Bool.or_eq_false_iff] at hf;exact hf.1
 refine aOy (w':={ w with heap:=wr w.heap ad.1 ad.2 (TA.vals zA.cells) }) ?_ ?_
 ·have hs:zA.val.cells.size=ti.size:=by
   have:=congrArg List.length hv;rw [TA.vals_length,hsz.1] at this;simpa using this
  simp only [execOp,ho,g3,t5,Instr.storeAt,Instr.sureAddr,storeVar,Sem.run_bind,Sem.run_pure,Result.andThen_ok,ok.run_sizeOf w,hs,ne_eq,not_true_eq_false,if_false,hv,hst]
 rw [hd];by_cases hq1:q.length=1
 ·obtain ⟨⟨i,o'⟩,rfl⟩:=List.length_eq_one_iff.1 hq1;have hstep:=t4.storePlaceE (full:=T.hasOwnL (TA.erL l) || zA.er.hasOwn) (hd':=[]) g1 r1 g2 hsz.1 hsz.2 hcells hisc hcnt0 (by simp [TA.HoldsL]) hful
  rw [if_pos hq1] at h;refine hK _ _ ⟨_,Z,?_,aJj _ _ _ _,hstep⟩;rw [StA.er_setRootE,TA.er_set,← h,TA.er_cells]
 have hstep:=t4.storePlace (full:=T.hasOwnL (TA.erL l) || zA.er.hasOwn) (hd':=[]) g1 r1 g2 hsz.1 hsz.2 hcells hisc hcnt0 (by simp [TA.HoldsL]) hful
 rw [if_neg hq1] at h;refine hK _ _ ⟨_,Z,?_,pK _ _ _ _ _,hstep⟩;rw [StA.er_setRoot,TA.er_set,← h,TA.er_cells]
def xB:Nat→Path→Nat→Nat × Path
 | o,[],d=>(o + d,[])
 | o,(i,o') :: p,d=>(o,(i,(xB o' p d).1) :: (xB o' p d).2)
theorem aEb:∀ (p:Path) (base:Option (Nat × Nat)) (cs:List TA) (o d:Nat) (ad:Nat × Nat),TA.addrP base cs o p=some ad→TA.addrP base cs (xB o p d).1 (xB o p d).2=some (ad.1,ad.2 + d)
 | [],base,cs,o,d,ad,h=>by
  simp only [TA.addrP] at h;obtain ⟨b,hb,rfl⟩:=Option.map_eq_some_iff.1 h;simp [xB,TA.addrP,hb,Nat.add_assoc]
 | (i,o') :: p,base,cs,o,d,ad,h=>by
  simp only [TA.addrP] at h;split at h
  ·rename_i s b off cap es hcs;split at h
   ·rename_i e he;simp only [xB,TA.addrP,hcs,he];exact aEb p _ _ _ d ad h
   cases h
  cases h
def aFz (E:Env) (N:Nat) (dst:Option Nat) (t:TypeId) (x:Operand) (f:Nat) (σ:St):Option St:=match rR E t with
 | some (.struct offs)=>(offs[f]?).bind fun d=>match σ.opr x with
  | .ref r p q=>σ.put? N dst (.ref r (xB p q d.1).1 (xB p q d.1).2)
  | .rop cs p=>σ.put? N dst (.rop cs (p + d.1))
  | _=>none
 | _=>none
theorem yF {P:Program} {t:TypeId} {offs:List (Nat × Nat)} {f b off:Nat} {d:Nat × Nat} (hk:bH P t=some offs) (hf:offs[f]? = some d) :
  (Instr.fieldAt t (.pointer (some ⟨b,off,none⟩)) f).run P w = .ok (.pointer (some ⟨b,off + d.1,none⟩)) w:=by
 unfold bH at hk;split at hk
 ·rename_i fs hfs;have key:∀ (l:List Field) (offs:List (Nat × Nat)) (f:Nat) (d:Nat × Nat),l.mapM (fun f=>match P.info? f.type with | some i=>if i.size=0 then none else some (f.offset,i.size) | none=>none)=some offs→offs[f]? = some d →
    ∃ fl i,l[f]? = some fl∧P.info? fl.type=some i∧i.size ≠ 0∧(fl.offset,i.size)=d:=by
   intro l;induction l with
   | nil=>intro offs f d h hf;simp at h;subst h;simp at hf
   | cons x xs ih =>
    intro offs f d h hf;simp only [List.mapM_cons,Option.bind_eq_bind,Option.pure_def] at h;obtain ⟨y,hy,h⟩:=Option.bind_eq_some_iff.1 h;obtain ⟨ys,hys,h⟩:=Option.bind_eq_some_iff.1 h;injection h with h
    subst h;cases f with
    | zero =>
     simp only [List.getElem?_cons_zero,Option.some.injEq] at hf;subst hf;split at hy
     ·rename_i i hi;split at hy
      ·cases hy
      rename_i hne;injection hy with hy
      exact ⟨x,i,rfl,hi,hne,hy⟩
     cases hy
    | succ f =>
     simp only [List.getElem?_cons_succ] at hf ⊢;exact ih ys f d hys hf
  obtain ⟨fl,i,h1,h2,h3,h4⟩:=key _ _ _ _ hk hf;have h1':fs[f]? = some fl:=by simpa using h1
  subst h4;simp only [Instr.fieldAt,Sem.run_bind,run_underlying hfs,Result.andThen_ok,h1',Instr.sureAddr,Sem.run_pure,fieldPlace,sizeOf,typeInfo];simp [h2,h3,iI]
 cases hk
theorem aLs {t:TypeId} {x:Operand} {f:Nat} (ho:o.op = .fieldAddr t x f) (h:aFz E C.N o.dst t x f σ=some σ') (H:SOk C σ a w) (hK:∀ a' w',SOk C σ' a' w'→K a' w'):o.wp E.P a w K Q:=by
 unfold aFz at h;split at h
 case h_2=>cases h
 rename_i offs hk;obtain ⟨d,hd,h⟩:=Option.bind_eq_some_iff.1 h;have hk':bH E.P t=some offs:=fM hk;obtain ⟨s,Z,h1,h2,h3⟩:=id H;subst h1;obtain ⟨xA,e1,e2⟩:=oprA h3 x;split at h
 ·rename_i r p q hx;rw [hx] at e1;rw [uH e1] at e2;obtain ⟨base,cs,ad,g1,g2,g3⟩:=e2;refine bP (v:=.pointer (some ⟨ad.1,ad.2 + d.1,none⟩)) (w':=w) ?_ (hK _ _ ?_)
  ·simp only [execOp,ho,g3,Sem.run_bind,yF hk' hd,Result.andThen_ok];rfl
  exact SOk.put0 h3 rfl h (xA:=.ref r (xB p q d.1).1 (xB p q d.1).2) rfl ⟨base,cs,_,g1,aEb q base cs p d.1 ad g2,rfl⟩ (fun k=>rfl)
 ·rename_i csT p hx;rw [hx] at e1;obtain ⟨b,off,cs,rfl,rfl⟩:=aFj e1;obtain ⟨g1,g2,g3,g4,g5,g6⟩:=e2;refine bP (v:=.pointer (some ⟨b,off + (p + d.1),none⟩)) (w':=w) ?_ (hK _ _ ?_)
  ·rw [← Nat.add_assoc];simp only [execOp,ho,g1,Sem.run_bind,yF hk' hd,Result.andThen_ok];rfl
  exact SOk.put0 h3 rfl h (xA:=.rop b off cs (p + d.1)) rfl ⟨rfl,g2,g3,g4,g5,g6⟩ (fun k=>rfl)
 cases h
end Go.OM
namespace Go.OM
variable {C:Ctx} {Z:Nat→Prop} {s:StA} {a:Act} {w w':World} {E:Env} {o:Oper} {σ σ':St} {K:Act→World→Prop} {Q:Exit→Act→World→Prop}
theorem aIz:∀ (p:Path) (base:Option (Nat × Nat)) (cs:List TA) (o:Nat) (i:Nat) {s b off cap:Nat} {es:List TA} {e:TA},TA.getP cs o p 1=some [.sl true s b off cap es]→es[i]? = some e →
  TA.addrP base cs o (p ++ [(i,0)])=some (b,off + i * s)
 | [],base,cs,o,i,s,b,off,cap,es,e,hg,he=>by
  simp only [TA.getP] at hg;split at hg
  ·rename_i hle;injection hg with hg
   have:cs[o]? = some (.sl true s b off cap es):=by
    have h2:((cs.drop o).take 1)[0]? = some (TA.sl true s b off cap es):=by rw [hg];rfl
    rw [List.getElem?_take,if_pos (by omega),List.getElem?_drop] at h2
    simpa using h2
   simp [TA.addrP,this,he]
  cases hg
 | (j,o') :: p,base,cs,o,i,s,b,off,cap,es,e,hg,he=>by
  simp only [TA.getP] at hg;split at hg
  ·rename_i s1 b1 off1 cap1 es1 hcs;split at hg
   ·rename_i e1 he1;simp only [List.cons_append,TA.addrP,hcs,he1];exact aIz p _ _ _ i hg he
   cases hg
  cases hg
def aAk (E:Env) (t:TypeId):Option Nat:=match rR E t with
 | some (.slice e)=>(E.ty e).map TI.size
 | _=>none
theorem aE6 {t:TypeId} {n:Nat} (h:aAk E t=some n):∃ e ti,E.P.underlying t=some (.slice e)∧E.ty e=some ti∧ti.size=n:=by
 unfold aAk at h;split at h
 ·rename_i e hk;obtain ⟨ti,h1,h2⟩:=Option.map_eq_some_iff.1 h;exact ⟨e,ti,fM hk,h1,h2⟩
 cases h
theorem yR {t e:TypeId} {ti:TI} {k:IntKind} {n:Int} {b off len cap:Nat} (ht:E.P.underlying t=some (.slice e)) (hti:E.ty e=some ti) (h0:0 ≤ n) (h1:n < len) :
  (Instr.indexAt t (.slice (some ⟨b,off,none⟩) len cap) (.int k n)).run E.P w = .ok (.pointer (some ⟨b,off + n.toNat * ti.size,none⟩)) w:=by
 have ok:=E.ok e ti hti;unfold Instr.indexAt;simp only [asIntOf,Sem.run_bind,Sem.run_pure,Result.andThen_ok,run_underlying ht];rw [if_pos ⟨h0,h1⟩];simp only [Sem.run_bind,ok.run_sizeOf w,Result.andThen_ok,iI]
 rfl
def aPa (E:Env) (N:Nat) (dst:Option Nat) (t:TypeId) (x i:Operand) (σ:St):Option St:=match aAk E t,σ.sc i with
 | some sz,some (.int _ n)=>match σ.op x with
  | .t (.sl false s es)=>if s=sz∧0 ≤ n∧n < es.length then (es[n.toNat]?).bind fun e=>σ.put? N dst (.rop e.cells 0) else none
  | .t (.sl true s es)=>if s=sz∧0 ≤ n∧n < es.length then (match x with | .tmp m=>σ.put? N dst (.ref (.slot m) 0 [(n.toNat,0)]) | _=>none) else none
  | .al r p q none=>(σ.rootCells r).bind fun cs=>match T.getP cs p q 1 with
   | some [.sl true s es]=>if s=sz∧0 ≤ n∧n < es.length then σ.put? N dst (.ref r p (q ++ [(n.toNat,0)])) else none
   | _=>none
  | _=>none
 | _,_=>none
theorem aP9 {t:TypeId} {x i:Operand} (ho:o.op = .indexAddr t x i) (h:aPa E C.N o.dst t x i σ=some σ') (H:SOk C σ a w) (hK:∀ a' w',SOk C σ' a' w'→K a' w'):o.wp E.P a w K Q:=by
 unfold aPa at h;split at h
 case h_2=>cases h
 rename_i sz k n hsz hi;obtain ⟨e,ti,ht,hti,rfl⟩:=aE6 hsz;obtain ⟨s,Z,h1,h2,h3⟩:=id H;subst h1;obtain ⟨hiv,_⟩:=nM h3 hi;obtain ⟨xA,e1,e2⟩:=opA h3 x;split at h
 ·-- read only
  rename_i sz es hx;rw [hx] at e1;obtain ⟨yA,rfl,hy⟩:=aE3 e1;split at h
  case isFalse=>cases h
  rename_i hb;obtain ⟨rfl,hb0,hb1⟩:=hb;obtain ⟨el,hel,h⟩:=Option.bind_eq_some_iff.1 h;rcases aMq hy with ⟨A0,rfl,rfl⟩ | ⟨b,off,cap,esA,rfl,rfl⟩
  ·simp at hel
  obtain ⟨g1,g2⟩:=e2;simp only [TA.Holds] at g2;obtain ⟨m1,m2,m3,m4,m5⟩:=g2;obtain ⟨z1,z2⟩:=m3 trivial;rw [TA.er_len] at hb1;rw [TA.erL_map,List.getElem?_map] at hel;obtain ⟨eA,heA,rfl⟩:=Option.map_eq_some_iff.1 hel;have heH:=TA.holdsL_get m4 heA;refine bP (v:=.pointer (some ⟨b,off + n.toNat * ti.size,none⟩)) (w':=w) ?_ (hK _ _ ?_)
  ·simp only [execOp,ho,g1,hiv,TA.val,TA.val1,Sem.run_bind,yR ht hti hb0 hb1,Result.andThen_ok];rfl
  refine SOk.put0 h3 rfl h (xA:=.rop b (off + n.toNat * ti.size) eA.cells 0) (by simp [AVA.er,TA.er_cells]) ⟨rfl,z1,?_,TA.holds_cells heH,fun k=>?_,TA.isCell_mem_cells heH⟩ (fun k=>rfl)
  ·obtain ⟨c,ety,fr,q1,q2,q3⟩:=m1;refine ⟨c,ety,fr,q1,(fun hh=>nomatch hh),fun j u hj=>?_⟩;have hj2:j < ti.size:=by
    have:=(List.getElem?_eq_some_iff.1 hj).1;rw [TA.vals_length,m5 _ (List.mem_of_getElem? heA)] at this;exact this
   rw [Nat.add_assoc];refine q3 _ u ?_;rw [TA.vals_get,sU m5 _ j hj2,heA];rw [TA.vals_get] at hj;exact hj
  rw [TA.cntL_cells];have:=TA.cnt_le_cntL k heA;rw [z2 k] at this;omega
 ·-- what a slot owns
  rename_i sz es hx;rw [hx] at e1;obtain ⟨yA,rfl,hy⟩:=aE3 e1;split at h
  case isFalse=>cases h
  rename_i hb;obtain ⟨rfl,hb0,hb1⟩:=hb;cases x with
  | const _=>cases h
  | func _=>cases h
  | global _=>cases h
  | tmp m =>
  simp only [St.op,St.get,nF] at hx;cases hlk:look s.tm m with
  | none=>rw [hlk] at hx;simp at hx
  | some z =>
   rw [hlk] at hx;simp only [Option.map_some,Option.getD_some] at hx;obtain ⟨z',rfl,hz⟩:=aE3 hx;have hv:=h3.tm m _ hlk;have hev:a.eval (.tmp m)=a.tmps.getD m undef:=rfl;rcases aMq hz with ⟨A0,rfl,rfl⟩ | ⟨b,off,cap,esA,rfl,rfl⟩
   ·simp at hb1;omega
   obtain ⟨g1,g2⟩:=hv;rw [TA.er_len] at hb1;have hlt:n.toNat < esA.length:=by omega
   refine bP (v:=.pointer (some ⟨b,off + n.toNat * ti.size,none⟩)) (w':=w) ?_ (hK _ _ ?_)
   ·simp only [execOp,ho,hev,g1,hiv,TA.val,TA.val1,Sem.run_bind,yR ht hti hb0 hb1,Result.andThen_ok];rfl
   refine SOk.put0 h3 rfl h (xA:=.ref (.slot m) 0 [(n.toNat,0)]) rfl ⟨none,[.sl true ti.size b off cap esA],(b,off + n.toNat * ti.size),by simp [StA.rootCells,hlk,TA.cells],?_,rfl⟩ (fun k=>rfl)
   simp [TA.addrP,List.getElem?_eq_getElem hlt]
 ·-- what a place owns
  rename_i r p q hx;rw [hx] at e1;rw [aMr e1] at e2;obtain ⟨csT,hcs,h⟩:=Option.bind_eq_some_iff.1 h;obtain ⟨base,cs,l,g1,g2,g3,g4⟩:=e2;rw [StA.er_rootCells,g1] at hcs;simp only [Option.map_some,Option.some.injEq] at hcs;subst hcs;split at h
  case h_2=>cases h
  rename_i sz es hgT;obtain ⟨l',t1,t2⟩:=TA.er_get _ _ _ _ _ hgT;simp only [Option.getD_none] at g2;rw [g2] at t1;injection t1 with t1
  subst t1;split at h
  case isFalse=>cases h
  rename_i hb;obtain ⟨rfl,hb0,hb1⟩:=hb;have hl1:=TA.getP_length _ _ _ _ _ g2;obtain ⟨x1,rfl⟩:=List.length_eq_one_iff.1 hl1;simp only [TA.erL,List.cons.injEq,and_true] at t2;rcases aMq t2 with ⟨A0,rfl,rfl⟩ | ⟨b,off,cap,esA,rfl,rfl⟩
  ·simp at hb1;omega
  rw [TA.er_len] at hb1;have hlt:n.toNat < esA.length:=by omega
  refine bP (v:=.pointer (some ⟨b,off + n.toNat * ti.size,none⟩)) (w':=w) ?_ (hK _ _ ?_)
  ·simp only [execOp,ho,g4,hiv,oY,TA.val1,Sem.run_bind,yR ht hti hb0 hb1,Result.andThen_ok];rfl
  exact SOk.put0 h3 rfl h (xA:=.ref r p (q ++ [(n.toNat,0)])) rfl ⟨base,cs,_,g1,aIz q base cs p n.toNat g2 (List.getElem?_eq_getElem hlt),rfl⟩ (fun k=>rfl)
 cases h
def sC (z:ByteArray) (n:Int):Int:=((z.data.toList.getD n.toNat 0).toNat:Int)
def aFy (E:Env) (N:Nat) (dst:Option Nat) (t:TypeId) (x i:Operand) (σ:St):Option St:=match rR E t,σ.sc x,σ.sc i with
 | some .str,some (.string z),some (.int _ n)=>if 0 ≤ n∧n < z.size then σ.put? N dst (.t (.v (.int .u8 (sC z n)))) else none
 | _,_,_=>none
theorem aLr {t:TypeId} {x i:Operand} (ho:o.op = .index t x i) (h:aFy E C.N o.dst t x i σ=some σ') (H:SOk C σ a w) (hK:∀ a' w',SOk C σ' a' w'→K a' w'):o.wp E.P a w K Q:=by
 unfold aFy at h;split at h
 case h_2=>cases h
 rename_i z k n hk hx hi;split at h
 case isFalse=>cases h
 rename_i hb;obtain ⟨s,Z,h1,h2,h3⟩:=id H;subst h1;obtain ⟨v1,_⟩:=nM h3 hx;obtain ⟨v2,_⟩:=nM h3 hi;have hu:E.P.underlying t=some .string:=fM hk;refine bP (v:=.int .u8 (sC z n)) (w':=w) ?_ (hK _ _ (H.putS h (by simp [TA.OneCell])))
 have hlt:n.toNat < z.size:=by omega
 have hget:(z[n.toNat]? : Option UInt8)=some (z.data.toList.getD n.toNat 0):=by
  have h5:n.toNat < z.data.size:=hlt;simp only [getElem?,decidableGetElem?];rw [dif_pos hlt]
  congr 1
  simp only [List.getD_eq_getElem?_getD,List.getElem?_eq_getElem (show n.toNat < z.data.toList.length by simpa using h5),Option.getD_some,Array.getElem_toList]
  rfl
 simp only [execOp,ho,v1,v2,Instr.index,asIntOf,Sem.run_bind,Sem.run_pure,Result.andThen_ok,run_underlying hu];rw [if_pos hb.1,hget]
 rfl
def St.len (σ:St) (x:Operand):Option Nat:=match σ.op x with
 | .t (.sl _ _ es)=>some es.length
 | .t (.v (.string z))=>some z.size
 | .al r p q none=>(σ.rootCells r).bind fun cs=>match T.getP cs p q 1 with
  | some [.sl _ _ es]=>some es.length
  | _=>none
 | _=>none
def aKx (E:Env) (t:TypeId) (str:Bool):Bool:=match rR E t with
 | some (.slice _)=>!str
 | some .str=>str
 | _=>false
def St.isStr (σ:St) (x:Operand):Bool:=match σ.sc x with
 | some (.string _)=>true
 | _=>false
def aP8 (E:Env) (N:Nat) (dst:Option Nat) (t:TypeId) (x:Operand) (σ:St):Option St:=if aKx E t (σ.isStr x)=true then (σ.len x).bind fun n=>σ.put? N dst (.t (.v (.int .i64 n))) else none
theorem aRb {x:Operand} {n:Nat} (H:SRel C Z s a w) (h:s.er.len x=some n):(∃ A cap,a.eval x = .slice A n cap∧s.er.isStr x=false) ∨ (∃ z:ByteArray,a.eval x = .string z∧z.size=n∧s.er.isStr x=true):=by
 unfold St.len at h;obtain ⟨xA,e1,e2⟩:=opA H x;split at h
 ·rename_i ow sz es hx;injection h with h
  subst h;rw [hx] at e1;obtain ⟨yA,rfl,hy⟩:=aE3 e1;left;have hs:s.er.isStr x=false:=by unfold St.isStr St.sc;rw [hx]
  rcases aMq hy with ⟨A0,rfl,rfl⟩ | ⟨b,off,cap,esA,rfl,rfl⟩
  ·exact ⟨A0,0,e2.1,hs⟩
  exact ⟨_,cap,by rw [TA.er_len];exact e2.1,hs⟩
 ·rename_i z hx;injection h with h
  subst h;rw [hx] at e1;obtain ⟨yA,rfl,hy⟩:=aE3 e1;rw [er_v hy] at e2;right;exact ⟨z,e2.1,rfl,by unfold St.isStr St.sc;rw [hx]⟩
 ·rename_i r p q hx;rw [hx] at e1;rw [aMr e1] at e2;obtain ⟨csT,hcs,h⟩:=Option.bind_eq_some_iff.1 h;obtain ⟨base,cs,l,g1,g2,g3,g4⟩:=e2;rw [StA.er_rootCells,g1] at hcs;simp only [Option.map_some,Option.some.injEq] at hcs;subst hcs;split at h
  ·rename_i ow sz es hgT;injection h with h
   subst h;obtain ⟨l',t1,t2⟩:=TA.er_get _ _ _ _ _ hgT;simp only [Option.getD_none] at g2;rw [g2] at t1;injection t1 with t1
   subst t1;have hl1:=TA.getP_length _ _ _ _ _ g2;obtain ⟨x1,rfl⟩:=List.length_eq_one_iff.1 hl1;simp only [TA.erL,List.cons.injEq,and_true] at t2;left;have hs:s.er.isStr x=false:=by unfold St.isStr St.sc;rw [hx]
   rcases aMq t2 with ⟨A0,rfl,rfl⟩ | ⟨b,off,cap,esA,rfl,rfl⟩
   ·exact ⟨A0,0,g4,hs⟩
   exact ⟨_,cap,by rw [TA.er_len];exact g4,hs⟩
  cases h
 cases h
theorem aP7 {t:TypeId} {x:Operand} {ts:Array TypeId} (ho:o.op = .call { callee:=.builtin .len,args:=#[x],argTypes:=ts }) (hts:ts[0]? = some t) (h:aP8 E C.N o.dst t x σ=some σ') (H:SOk C σ a w) (hK:∀ a' w',SOk C σ' a' w'→K a' w'):o.wp E.P a w K Q:=by
 unfold aP8 at h;split at h
 case isFalse=>cases h
 rename_i hT;obtain ⟨n,hn,h⟩:=Option.bind_eq_some_iff.1 h;obtain ⟨s,Z,h1,h2,h3⟩:=id H;subst h1;refine bP (v:=.int .i64 n) (w':=w) ?_ (hK _ _ (H.putS h (by simp [TA.OneCell])))
 rcases aRb h3 hn with ⟨A,cap,hv,hs⟩ | ⟨z,hv,hz,hs⟩
 ·rw [hs] at hT;unfold aKx at hT;split at hT
  ·rename_i e hk;have hu:E.P.underlying t=some (.slice e):=fM hk;simp [execOp,ho,resolve,invoke,builtin,Builtin.len_,hts,hv,run_underlying hu,goInt]
  ·cases hT
  cases hT
 rw [hs] at hT;unfold aKx at hT;split at hT
 ·cases hT
 ·rename_i hk;have hu:E.P.underlying t=some .string:=fM hk;simp [execOp,ho,resolve,invoke,builtin,Builtin.len_,hts,hv,run_underlying hu,goInt,hz]
 cases hT
def AV.plain:AV→Bool
 | .t x=>!x.hasOwn
 | .ref _ _ _=>true
 | .rop _ _=>true
 | .al _ _ _ _=>true
 | _=>false
def aK9 (N:Nat) (dst:Option Nat) (c x y:Operand) (σ:St):Option St:=match σ.sc c with
 | some (.bool b)=>if b=true then (if (σ.op x).plain=true then σ.put? N dst (σ.op x) else none) else (if (σ.op y).plain=true then σ.put? N dst (σ.op y) else none)
 | _=>none
theorem aHs {x:Operand} {dst:Option Nat} (H:SOk C σ a w) (hp:(σ.op x).plain=true) (h:σ.put? C.N dst (σ.op x)=some σ'):SOk C σ' (a.put dst (a.eval x)) w:=by
 obtain ⟨s,Z,h1,h2,h3⟩:=id H;subst h1;obtain ⟨xA,e1,e2⟩:=opA h3 x;refine SOk.put0 h3 rfl h (xA:=xA) e1 e2 (fun k=>?_);rw [← e1] at hp;cases xA with
 | t y=>simp only [AVA.er,AV.plain,Bool.not_eq_true'] at hp;exact TA.cnt_of_noOwn k y hp
 | tup xs=>simp [AVA.er,AV.plain] at hp
 | _=>rfl
theorem aN4 {c x y:Operand} (ho:o.op = .pick c x y) (h:aK9 C.N o.dst c x y σ=some σ') (H:SOk C σ a w) (hK:∀ a' w',SOk C σ' a' w'→K a' w'):o.wp E.P a w K Q:=by
 unfold aK9 at h;split at h
 case h_2=>cases h
 rename_i b hc;obtain ⟨s,Z,h1,h2,h3⟩:=id H;subst h1;obtain ⟨v1,_⟩:=nM h3 hc;cases b with
 | true =>
  simp only [if_true] at h;split at h
  ·rename_i hp;refine bP (v:=a.eval x) (w':=w) ?_ (hK _ _ (aHs H hp h));simp [execOp,ho,v1,asBool]
  cases h
 | false =>
  simp only [Bool.false_eq_true,if_false] at h;split at h
  ·rename_i hp;refine bP (v:=a.eval y) (w':=w) ?_ (hK _ _ (aHs H hp h));simp [execOp,ho,v1,asBool]
  cases h
end Go.OM
namespace Go.OM
variable {C:Ctx} {Z:Nat→Prop} {s:StA} {a:Act} {w w':World} {E:Env} {o:Oper} {σ σ':St} {K:Act→World→Prop} {Q:Exit→Act→World→Prop}
theorem Grow.push {x:Obj} (h:w'.heap=w.heap.push x) (h1:w'.os=w.os) (h2:w'.tape=w.tape) (h3:w'.output=w.output):Grow w w' :=
 ⟨h1,h2,h3,by rw [h];simp,fun k hk=>by rw [h,Array.getElem?_push,if_neg (by omega)]⟩
theorem aHw {h:Array Obj} {x:Obj}:(h.push x)[h.size]? = some x:=by simp
theorem SRel.rehand {hd':List TA} {b:Nat} (H:SRel C Z s a w) (g:Grow w w') (hb:w.heap.size ≤ b) (hbl:b < w'.heap.size) (hc:∀ k,TA.cntL k hd' ≤ TA.cntL k s.hd + (if k=b then 1 else 0)) (hh:TA.HoldsL Z w'.heap hd') :
  SRel C Z ⟨s.tm,s.bx,hd'⟩ a w':=by
 have H':=H.grow g;have hcnt:∀ k,(StA.mk s.tm s.bx hd').cnt k ≤ s.cnt k + (if k=b then 1 else 0):=by
  intro k;have:=hc k;simp only [StA.cnt];omega
 have hb0:s.cnt b=0:=by
  rcases Nat.eq_zero_or_pos (s.cnt b) with h | h
  ·exact h
  have:=H.lt b h;omega
 have hsp:∀ k,0 < (StA.mk s.tm s.bx hd').cnt k→k=b ∨ 0 < s.cnt k:=by
  intro k hk;by_cases e:k=b
  ·exact .inl e
  have:=hcnt k;rw [if_neg e] at this;exact .inr (by omega)
 exact {
  defers:=H'.defers
  size:=H'.size
  tm:=fun n y hy=>(H'.tm n y hy).keep (fun _ hz=>hz) (fun _ _=>rfl) (fun r _ _ _ _ _ _ _ _ _ _=>by cases r<;>rfl) (fun r o p e base cs ad h1 h2=>⟨base,cs,by cases r<;>exact h1,h2⟩)
  bx:=H'.bx
  uniq:=fun k=>by
   have:=hcnt k;by_cases e:k=b
   ·subst e;rw [if_pos rfl,hb0] at this;omega
   rw [if_neg e] at this;have:=H.uniq k;omega
  notZ:=fun k hk=>by
   rcases hsp k hk with e | e
   ·subst e;intro hz;have:=H.zlt k hz;omega
   exact H.notZ k e
  lt:=fun k hk=>by
   rcases hsp k hk with e | e
   ·subst e;exact hbl
   exact H'.lt k e
  zlt:=H'.zlt
  own:=fun k hk=>by
   rcases hsp k hk with e | e
   ·subst e;right;have:=H.grown;omega
   exact H.own k e
  z0:=H'.z0
  zext:=H'.zext
  pk:=H.pk
  os:=H'.os
  tape:=H'.tape
  output:=H'.output
  grown:=H'.grown
  kept:=H'.kept
  part:=H'.part
  pbx:=H'.pbx
  pbo:=H'.pbo
  pbi:=H'.pbi
  hand:=hh
  pbh:=fun y hy=>by
   have h1:=hc y.1;have h2:=H.pbh y hy;obtain ⟨c,c',e,fr,q1,q2,_⟩:=H.part y hy;have h3:y.1 < C.w0.heap.size:=(Array.getElem?_eq_some_iff.1 q1).1;have h4:=H.grown;rw [if_neg (by omega)] at h1
   show TA.cntL y.1 hd'=0;omega }
theorem SRel.newSl {es hd0:List TA} {cs:Array Value} {ety:TypeId} {cap sz:Nat} (H:SRel C Z s a w) (hw:w'.heap=w.heap.push (.cells cs ety)) (h1:w'.os=w.os) (h2:w'.tape=w.tape) (h3:w'.output=w.output)
  (hes:TA.HoldsL Z w.heap es) (h0:TA.HoldsL Z w.heap hd0) (hce:∀ k,TA.cntL k es + TA.cntL k hd0 ≤ TA.cntL k s.hd) (hcap:es.length ≤ cap) (hsz:∀ e ∈ es,e.cells.length=sz) (hroom:cap * sz ≤ cs.size)
  (hm:∀ (j:Nat) (u:Value),(TA.vals (es.flatMap TA.cells))[j]? = some u→cs[j]? = some u):SRel C Z ⟨s.tm,s.bx,.sl true sz w.heap.size 0 cap es :: hd0⟩ a w':=by
 have g:Grow w w':=Grow.push hw h1 h2 h3;have hfr:∀ (l:List TA),TA.HoldsL Z w.heap l→TA.HoldsL Z w'.heap l:=fun l hl=>TA.HoldsL.frame l hl (fun _ hz=>hz) (fun k hk=>g.block k (by
  rcases hk with hk | hk
  ·exact TA.HoldsL.lt l hl hk
  exact H.zlt k hk))
 refine H.rehand g (Nat.le_refl _) (by rw [hw];simp) (fun k=>?_) ?_
 ·have:=hce k;simp only [TA.cntL,TA.cnt];by_cases e:k=w.heap.size
  ·subst e;rw [if_pos ⟨trivial,rfl⟩,if_pos rfl];omega
  rw [if_neg (fun h=>e h.2.symm),if_neg e];omega
 simp only [TA.HoldsL,TA.Holds];refine ⟨⟨⟨cs,ety,(0,0),by rw [hw];exact aHw,fun _=>⟨by omega,rfl⟩,fun j u hj=>by rw [Nat.zero_add];exact hm j u hj⟩,hcap,(fun hh=>nomatch hh),hfr es hes,hsz⟩,hfr hd0 h0⟩
def aEe (ti:TI):TA:=yM ti.kk ti.zero
theorem yQ {t:TypeId} {ti:TI} (ok:TIok E.P t ti) (hz:ti.kk=none→ti.size=1) {h:Array Obj}:(aEe ti).cells=ti.zero∧(aEe ti).Holds Z h∧(∀ k,(aEe ti).cnt k=0)∧(∀ c ∈ ti.zero,c.isCell=true)∧TA.HoldsL Z h ti.zero∧(∀ k,TA.cntL k ti.zero=0):=by
 have hc:=ok.cell;have hlen:=ok.len;have h1:∀ c ∈ ti.zero,c.isCell=true∧c.Holds Z h∧∀ k,c.cnt k=0:=by
  intro c hcm;have:=hc c hcm;cases c with
  | v x =>
   refine ⟨rfl,?_,fun k=>by simp [TA.cnt]⟩
   cases x<;>simp_all [uN,TA.Holds,TA.OneCell]
  | nl ow sz A=>cases ow<;>cases A<;>simp_all [uN,TA.Holds,TA.cnt,TA.isCell]
  | _=>simp [uN] at this
 have hl:ti.kk=none→ti.zero.length=1:=fun hk=>by rw [hlen];exact hz hk
 have hH:TA.HoldsL Z h ti.zero:=TA.holdsL_iff.2 fun t ht=>(h1 t ht).2.1;have hcn:∀ k,TA.cntL k ti.zero=0:=by
  intro k;have key:∀ (l:List TA),(∀ c ∈ l,c.cnt k=0)→TA.cntL k l=0:=by
   intro l;induction l with
   | nil=>intro _;rfl
   | cons t ts ih=>intro hh;simp [TA.cntL,hh t (by simp),ih (fun c hc=>hh c (by simp [hc]))]
  exact key _ (fun c hc=>(h1 c hc).2.2 k)
 exact ⟨aM6 hl (fun c hc=>(h1 c hc).1),gN hl (fun c hc=>(h1 c hc).1) hH,fun k=>by rw [aEe,qZ k hl];exact hcn k,fun c hc=>(h1 c hc).1,hH,hcn⟩
theorem zC {t:TypeId} {ti:TI} (ok:TIok E.P t ti):ti.zv.cells=(TA.vals ti.zero).toArray:=by
 unfold TI.zv;by_cases hs:ti.kind.isStruct=true
 ·rw [if_pos hs];rfl
 rw [if_neg hs];have h1:=ok.one (by simpa using hs)
 rw [← ok.len] at h1;obtain ⟨x,hx⟩:=List.length_eq_one_iff.1 h1;have:=ok.cell x (by rw [hx];simp)
 rw [hx];cases x with
 | v y=>cases y<;>simp_all [uN,TA.vals,TA.val1,Value.cells]
 | nl ow sz A=>rfl
 | _=>simp [uN] at this
def aKb (E:Env) (N:Nat) (dst:Option Nat) (t:TypeId) (x y:Operand) (σ:St):Option St:=match rR E t,σ.sc x,σ.sc y with
 | some (.slice e),some (.int .i64 n),some (.int .i64 m)=>(E.ty e).bind fun ti=>if n=m∧0 ≤ n∧ti.bytes * n ≤ 140737488355328∧n ≤ 140737488355328 then σ.put? N dst (.t (.sl true ti.size (List.replicate n.toNat (aEe ti).er))) else none
 | _,_,_=>none
theorem aGs (n:Nat) (x:TA):TA.erL (List.replicate n x)=List.replicate n x.er:=by simp [TA.erL_map]
theorem aEv (k n:Nat) (x:TA) (h:x.cnt k=0):TA.cntL k (List.replicate n x)=0:=by
 induction n with
 | zero=>rfl
 | succ n ih=>simp [List.replicate_succ,TA.cntL,h,ih]
theorem aH5 {z:Array Value} {n m:Nat} (hm:z.size=m) {j:Nat} (hj:j < n * m):((Array.range (n * m)).map (fun i=>z[i % z.size]!))[j]? = z[j % m]?:=by
 have h0:0 < m:=by
  rcases Nat.eq_zero_or_pos m with h | h
  ·subst h;simp at hj
  exact h
 have hlt:j % m < z.size:=by rw [hm];exact Nat.mod_lt _ h0
 simp only [Array.getElem?_map,Array.getElem?_range,hj,if_true,Option.map_some];rw [hm,getElem!_pos z (j % m) hlt];simp [hlt]
theorem aN6 {t:TypeId} {x y:Operand} (ho:o.op = .makeSlice t x y) (h:aKb E C.N o.dst t x y σ=some σ') (H:SOk C σ a w) (hK:∀ a' w',SOk C σ' a' w'→K a' w'):o.wp E.P a w K Q:=by
 unfold aKb at h;split at h
 case h_2=>cases h
 rename_i e n m hk hx hy;obtain ⟨ti,hti,h⟩:=Option.bind_eq_some_iff.1 h;split at h
 case isFalse=>cases h
 rename_i hb;obtain ⟨hnm,hn0,hnb,hnl⟩:=hb;obtain ⟨s,Z,h1,h2,h3⟩:=id H;subst h1;obtain ⟨v1,_⟩:=nM h3 hx;obtain ⟨v2,_⟩:=nM h3 hy;rw [← hnm] at v2;have hu:E.P.underlying t=some (.slice e):=fM hk;have ok:=E.ok e ti hti;obtain ⟨kg,k1⟩:=aBi E hti;obtain ⟨i,hi,hz,hs,hby⟩:=ok.info;obtain ⟨z1,z2,z3,z4,z5,z6⟩:=yQ (E:=E) (Z:=Z) ok k1 (h:=w.heap);obtain ⟨cs,hcs⟩:∃ cs,cs=madeCells ti.zv.cells (n.toNat * ti.size):=⟨_,rfl⟩;have hzsz:ti.zv.cells.size=ti.size:=by rw [zC ok];simp [TA.vals_length,ok.len]
 have hcssz:cs.size=n.toNat * ti.size:=by simp [hcs,madeCells]
 have hw':(({ w with heap:=w.heap.push (.cells cs e) }:World)).heap=w.heap.push (.cells cs e):=rfl
 have hflat:∀ el ∈ List.replicate n.toNat (aEe ti),el.cells.length=ti.size:=by
  intro el hel;rw [(List.mem_replicate.1 hel).2,z1,ok.len]
 have hm:∀ (j:Nat) (u:Value),(TA.vals ((List.replicate n.toNat (aEe ti)).flatMap TA.cells))[j]? = some u→cs[j]? = some u:=by
  intro j u hj;have hjlt:j < n.toNat * ti.size:=by
   have:=(List.getElem?_eq_some_iff.1 hj).1;rw [TA.vals_length,iL hflat,List.length_replicate] at this;exact this
  have h0:0 < ti.size:=by
   rcases Nat.eq_zero_or_pos ti.size with h | h
   ·rw [h] at hjlt;simp at hjlt
   exact h
  rw [hcs];unfold madeCells;rw [aH5 hzsz hjlt,zC ok];have hjm:j % ti.size < ti.size:=Nat.mod_lt _ h0;have hjd:j=(j / ti.size) * ti.size + j % ti.size:=by rw [Nat.mul_comm];exact (Nat.div_add_mod j _).symm
  rw [TA.vals_get,hjd,sU hflat _ _ hjm] at hj;have hq:j / ti.size < n.toNat:=by
   rw [Nat.div_lt_iff_lt_mul h0];exact hjlt
  rw [List.getElem?_replicate,if_pos hq] at hj;simp only [Option.bind_some,z1] at hj;simpa [TA.vals] using hj
 have hnew:=h3.newSl (w':={ w with heap:=w.heap.push (.cells cs e) }) (es:=List.replicate n.toNat (aEe ti)) (hd0:=[]) (cap:=n.toNat) (sz:=ti.size) rfl rfl rfl rfl
  (TA.holdsL_iff.2 fun t ht=>by rw [(List.mem_replicate.1 ht).2];exact z2) (by simp [TA.HoldsL]) (fun k=>by rw [aEv k _ _ (z3 k)];simp [TA.cntL]) (by simp) hflat (by rw [hcssz];exact Nat.le_refl _) hm
 refine bP (v:=.slice (some ⟨w.heap.size,0,none⟩) n.toNat n.toNat) (w':={ w with heap:=w.heap.push (.cells cs e) }) ?_ (hK _ _ ?_)
 ·have hr:=run_make (P:=E.P) w t e i ti.zv hu hi hz .i64 .i64 n n hn0 (Int.le_refl _) (by rw [hby];omega) (by omega)
  rw [hs,← hcs] at hr;simp only [execOp,ho,v1,v2,Sem.run_bind,hr,Result.andThen_ok]
  rfl
 refine SOk.put? hnew rfl h (xA:=.t (.sl true ti.size w.heap.size 0 n.toNat (List.replicate n.toNat (aEe ti)))) (by simp [AVA.er,TA.er,aGs]) ⟨?_,?_⟩ (fun k=>?_)
 ·simp [TA.val,TA.val1]
 ·have:=hnew.hand;simp only [TA.HoldsL] at this;exact this.1
 simp [AVA.cnt_t,TA.cntL]
end Go.OM
namespace Go.OM
variable {C:Ctx} {Z:Nat→Prop} {s:StA} {a:Act} {w w':World} {E:Env} {o:Oper} {σ σ':St} {K:Act→World→Prop} {Q:Exit→Act→World→Prop}
def St.takeAll (N:Nat):List (Nat × Operand)→St→Option (List (Nat × T) × St)
 | [],σ=>some ([],σ)
 | (i,x) :: ps,σ=>(σ.take N x).bind fun y=>(St.takeAll N ps y.2).bind fun z=>some ((i,y.1) :: z.1,z.2)
theorem aAx:∀ (ps:List (Nat × Operand)) (s:StA) (σ':St) (ys:List (Nat × T)),SRel C Z s a w→St.takeAll C.N ps s.er=some (ys,σ') →
  ∃ (s':StA) (ysA:List (Nat × TA)),ysA.map (fun p=>(p.1,TA.er p.2))=ys∧s'.er=σ'∧SRel C Z s' a w∧(∀ k,TA.cntL k s'.hd=TA.cntL k (ysA.map Prod.snd) + TA.cntL k s.hd)∧TA.HoldsL Z w.heap (ysA.map Prod.snd)∧ps.map (fun p=>(p.1,a.eval p.2))=ysA.map (fun p=>(p.1,TA.val p.2))
 | [],s,σ',ys,H,h=>by
  simp only [St.takeAll,Option.some.injEq,Prod.mk.injEq] at h;obtain ⟨rfl,rfl⟩:=h;exact ⟨s,[],rfl,rfl,H,fun k=>by simp [TA.cntL],by simp [TA.HoldsL],rfl⟩
 | (i,x) :: ps,s,σ',ys,H,h=>by
  simp only [St.takeAll] at h;obtain ⟨⟨y,σ1⟩,ht,h⟩:=Option.bind_eq_some_iff.1 h;obtain ⟨⟨zs,σ2⟩,hr,h⟩:=Option.bind_eq_some_iff.1 h;simp only [Option.some.injEq,Prod.mk.injEq] at h;obtain ⟨rfl,rfl⟩:=h;obtain ⟨s1,yA,t1,t2,t3,t4,t5,t6⟩:=vT H ht;subst t2;obtain ⟨s2,ysA,r1,r2,r3,r4,r5,r6⟩:=aAx ps s1 _ _ t4 hr;refine ⟨s2,(i,yA) :: ysA,by simp [t1,r1],r2,r3,fun k=>?_,?_,by simp [t5,r6]⟩
  ·have:=r4 k;rw [t3] at this;simp only [TA.cntL,List.map_cons] at this ⊢;omega
  simp only [List.map_cons,TA.HoldsL];exact ⟨t6,r5⟩
theorem aO5 (off:Nat) (l:List Value) (n:Nat) (c:Array Value):(l.zipIdx n).foldl (fun cs p=>cs.setIfInBounds (off + p.2) p.1) c=wrL c (off + n) l:=by
 induction l generalizing n c with
 | nil=>rfl
 | cons v vs ih=>simp only [List.zipIdx_cons,List.foldl_cons,ih,wrL];rfl
theorem aIk {place:Nat→Option (Nat × Nat)} {c:Array Value} {i off sz:Nat} {v:Value} {rest:List (Nat × Value)} (hp:place i=some (off,sz)) (hv:v.cells.size=sz) (hl:off + sz ≤ c.size) :
  Instr.fill place c ((i,v) :: rest)=Instr.fill place (wrL c off v.cells.toList) rest:=by
 simp only [Instr.fill,hp];rw [if_neg (by simp [hv];omega)]
 congr 1
 rw [← Array.foldl_toList,Array.toList_zipIdx];exact aO5 off v.cells.toList 0 c
def aO2:Nat→List (Nat × Operand)→Bool
 | _,[]=>true
 | n,(i,_) :: ps=>i == n && aO2 (n + 1) ps
def aP6 (E:Env) (N:Nat) (dst:Option Nat) (t:TypeId) (len:Nat) (ps:List (Nat × Operand)) (σ:St):Option St:=(aAk E t).bind fun sz =>
 if aO2 0 ps=true∧ps.length=len∧len * sz ≤ 16777216 then (σ.takeAll N ps).bind fun y=>if y.1.all (fun p=>p.2.cells.length == sz)=true then y.2.put? N dst (.t (.sl true sz (y.1.map Prod.snd))) else none else none
theorem aL4 {sz:Nat}:∀ (ys:List (Nat × TA)) (n:Nat) (c:Array Value) (vs:List (Nat × Value)),vs=ys.map (fun p=>(p.1,TA.val p.2))→(∀ j p,ys[j]? = some p→p.1=n + j)→(∀ p ∈ ys,p.2.cells.length=sz∧p.2.val.cells.toList=TA.vals p.2.cells)→(n + ys.length) * sz ≤ c.size →
  ∃ c',Instr.fill (fun i=>some (i * sz,sz)) c vs=some c'∧c'.size=c.size∧(∀ j,j < n * sz→c'[j]? = c[j]?)∧∀ j u,(TA.vals ((ys.map Prod.snd).flatMap TA.cells))[j]? = some u→c'[n * sz + j]? = some u
 | [],n,c,vs,hv,_,_,_=>by subst hv;exact ⟨c,rfl,rfl,fun _ _=>rfl,fun j u hj=>by simp [TA.vals] at hj⟩
 | (i,y) :: ys,n,c,vs,hv,hi,hy,hl=>by
  subst hv;have hi0:i=n:=by have:=hi 0 (i,y) rfl;simpa using this
  subst hi0;obtain ⟨hy1,hy2⟩:=hy (i,y) (by simp)
  have hsz:y.val.cells.size=sz:=by
   have:=congrArg List.length hy2;rw [TA.vals_length,hy1] at this;simpa using this
  have hmul:(i + (ys.length + 1)) * sz=i * sz + sz + ys.length * sz:=by rw [Nat.add_mul,Nat.succ_mul];omega
  simp only [List.length_cons] at hl;rw [hmul] at hl;simp only [List.map_cons];rw [aIk (place:=fun i=>some (i * sz,sz)) (off:=i * sz) (sz:=sz) rfl hsz (by omega)]
  have hl2:(i + 1 + ys.length) * sz ≤ (wrL c (i * sz) y.val.cells.toList).size:=by
   rw [uP,Nat.add_mul,Nat.succ_mul];omega
  obtain ⟨c',e1,e2,e3,e4⟩:=aL4 ys (i + 1) (wrL c (i * sz) y.val.cells.toList) _ rfl (fun j p hj=>by have:=hi (j + 1) p (by simpa using hj);omega) (fun p hp=>hy p (by simp [hp])) hl2
  refine ⟨c',e1,by rw [e2,uP],fun j hj=>?_,fun j u hj=>?_⟩
  ·rw [e3 j (by rw [Nat.succ_mul];omega),vQ _ _ _ _ (by rw [hy2,TA.vals_length,hy1];omega),if_neg (by omega)]
  simp only [List.flatMap_cons,TA.vals_append] at hj;by_cases hjs:j < sz
  ·rw [List.getElem?_append_left (by rw [TA.vals_length,hy1];exact hjs)] at hj
   rw [e3 _ (by rw [Nat.succ_mul];omega),vQ _ _ _ _ (by rw [hy2,TA.vals_length,hy1];omega),if_pos (by rw [hy2,TA.vals_length,hy1];omega),hy2,Nat.add_sub_cancel_left]
   exact hj
  rw [List.getElem?_append_right (by rw [TA.vals_length,hy1];omega),TA.vals_length,hy1] at hj
  have:=e4 _ u hj;rw [Nat.succ_mul] at this;rw [show i * sz + j=i * sz + sz + (j - sz) by omega]
  exact this
theorem aIf:∀ (ps:List (Nat × Operand)) (n:Nat),aO2 n ps=true→∀ (j:Nat) (p:Nat × Operand),ps[j]? = some p→p.1=n + j
 | [],_,_,j,p,hj=>by simp at hj
 | (i,x) :: ps,n,h,j,p,hj=>by
  simp only [aO2,Bool.and_eq_true,beq_iff_eq] at h;cases j with
  | zero=>simp only [List.getElem?_cons_zero,Option.some.injEq] at hj;subst hj;simpa using h.1
  | succ j=>simp only [List.getElem?_cons_succ] at hj;have:=aIf ps (n + 1) h.2 j p hj;omega
theorem aP5 {t:TypeId} {len:Nat} {ps:Array (Nat × Operand)} (ho:o.op = .buildSlice t len ps) (h:aP6 E C.N o.dst t len ps.toList σ=some σ') (H:SOk C σ a w) (hK:∀ a' w',SOk C σ' a' w'→K a' w'):o.wp E.P a w K Q:=by
 unfold aP6 at h;obtain ⟨sz,hsz,h⟩:=Option.bind_eq_some_iff.1 h;obtain ⟨e,ti,ht,hti,rfl⟩:=aE6 hsz;split at h
 case isFalse=>cases h
 rename_i hc;obtain ⟨hidx,hlen,h24⟩:=hc;obtain ⟨⟨ys,σ1⟩,hta,h⟩:=Option.bind_eq_some_iff.1 h;split at h
 case isFalse=>cases h
 rename_i hall;obtain ⟨s0,Z,h1,h2,h3⟩:=id H;subst h1;obtain ⟨s,ysA,r1,r2,r3,r4,r5,r6⟩:=aAx _ _ _ _ h3 hta;subst r2;subst r1;have ok:=E.ok e ti hti;obtain ⟨kg,k1⟩:=aBi E hti;have hlenA:ysA.length=len:=by
  have:=congrArg List.length r6;simp only [List.length_map] at this;rw [← this];exact hlen
 have hcells:∀ p ∈ ysA,p.2.cells.length=ti.size∧p.2.val.cells.toList=TA.vals p.2.cells:=by
  intro p hp;have h5:=List.all_eq_true.1 hall (p.1,p.2.er) (List.mem_map.2 ⟨p,hp,rfl⟩);simp only [beq_iff_eq] at h5;rw [TA.er_cells,TA.er_len] at h5;exact ⟨h5,xE (TA.holdsL_iff.1 r5 p.2 (List.mem_map.2 ⟨p,hp,rfl⟩))⟩
 have hvs:(ps.map fun p=>(p.1,a.eval p.2)).toList=ysA.map (fun p=>(p.1,TA.val p.2)):=by rw [← r6];simp
 have hcsz:((Array.range (len * ti.size)).map (fun i=>ti.zv.cells[i % ti.zv.cells.size]!)).size=len * ti.size:=by simp
 obtain ⟨c',e1,e2,e3,e4⟩:=aL4 (sz:=ti.size) ysA 0 (if len * ti.size=0 then (Array.range (len * ti.size)).map (fun i=>(#[]:Array Value)[i % 0]!) else (Array.range (len * ti.size)).map (fun i=>ti.zv.cells[i % ti.zv.cells.size]!)) _ hvs
  (fun j p hj=>by
   have h7:(ps.toList.map fun p=>(p.1,a.eval p.2))[j]? = some (p.1,p.2.val):=by rw [r6,List.getElem?_map,hj];rfl
   rw [List.getElem?_map] at h7;obtain ⟨q,hq,hq2⟩:=Option.map_eq_some_iff.1 h7;have:=aIf ps.toList 0 hidx j q hq;simp only [Prod.mk.injEq] at hq2;omega) hcells (by split<;>simp [hlenA])
 have hc'sz:c'.size=len * ti.size:=by rw [e2];split<;>simp
 have hnew:=r3.newSl (w':={ w with heap:=w.heap.push (.cells c' e) }) (es:=ysA.map Prod.snd) (hd0:=[]) (cap:=len) (sz:=ti.size) rfl rfl rfl rfl r5 (by simp [TA.HoldsL]) (fun k=>by rw [r4 k];simp only [TA.cntL];omega) (by simp [hlenA])
  (fun el hel=>by obtain ⟨p,hp,rfl⟩:=List.mem_map.1 hel;exact (hcells p hp).1) (by rw [hc'sz];exact Nat.le_refl _) (fun j u hj=>by have:=e4 j u hj;rwa [Nat.zero_mul,Nat.zero_add] at this)
 refine bP (v:=.slice (some ⟨w.heap.size,0,none⟩) len len) (w':={ w with heap:=w.heap.push (.cells c' e) }) ?_ (hK _ _ ?_)
 ·have h24':¬ (len * ti.size > 2 ^ 24):=by omega
  simp only [execOp,ho,Instr.buildSlice,Sem.run_bind,run_underlying ht,Result.andThen_ok,ok.run_sizeOf w];rw [if_neg h24'];by_cases hz:len * ti.size=0
  ·rw [if_pos hz] at e1 ⊢;simp only [Sem.run_bind,Sem.run_pure,Result.andThen_ok,Array.size_empty];rw [show (ps.map fun (p:Nat × Operand)=>(p.1,a.eval p.2)).toList=(ps.map fun p=>(p.1,a.eval p.2)).toList from rfl];rw [e1];simp [newRow]
  rw [if_neg hz] at e1 ⊢;simp only [Sem.run_bind,ok.run_zero w,Sem.run_pure,Result.andThen_ok];rw [e1];simp [newRow]
 refine SOk.put? hnew rfl h (xA:=.t (.sl true ti.size w.heap.size 0 len (ysA.map Prod.snd))) ?_ ⟨?_,?_⟩ (fun k=>?_)
 ·simp [AVA.er,TA.er,TA.erL_map]
 ·simp [TA.val,TA.val1,hlenA]
 ·have:=hnew.hand;simp only [TA.HoldsL] at this;exact this.1
 simp [AVA.cnt_t,TA.cntL]
end Go.OM
namespace Go.OM
variable {C:Ctx} {Z:Nat→Prop} {s:StA} {a:Act} {w w':World} {E:Env} {o:Oper} {σ σ':St} {K:Act→World→Prop} {Q:Exit→Act→World→Prop}
theorem ValOk.killAll {s':StA} {h:Array Obj} {x:AVA} {v:Value} (d:Nat) (H:ValOk s Z h x v) (hr:∀ r',r' ≠ .box d→s'.rootCells r'=s.rootCells r'):ValOk s' Z h (x.killAll (.box d)) v:=by
 cases x with
 | al r' o p k =>
  simp only [AVA.killAll];split
  ·trivial
  rename_i hne;exact H.keep (fun _ hz=>hz) (fun _ _=>rfl) (fun r o p k e base cs l h1 h2 h3=>hr _ (by injection e with e;rw [← e];exact hne)) (fun r o p e=>by cases e)
 | ref r' o p =>
  simp only [AVA.killAll];split
  ·trivial
  rename_i hne;exact H.keep (fun _ hz=>hz) (fun _ _=>rfl) (fun r o p k e=>by cases e) (fun r o p e base cs ad h1 h2=>⟨base,cs,(hr _ (by injection e with e;rw [← e];exact hne)).trans h1,h2⟩)
 | u=>trivial
 | t x=>exact H
 | tup xs=>exact H
 | rop b off cs o=>exact H
 | clo f xs =>
  simp only [AVA.killAll];split
  ·trivial
  rename_i hne;exact H.keep (fun _ hz=>hz) (fun _ _=>rfl) (fun r o p k e=>by cases e) (fun r o p e base cs ad h1 h2=>by
   obtain ⟨⟨rfl,rfl⟩,m,rfl,hm⟩:=e;refine ⟨base,cs,(hr _ (fun e2=>hne ?_)).trans h1,h2⟩;exact List.any_eq_true.2 ⟨_,hm,by simp [CapA.at,e2]⟩)
def putB {α:Type}:List (Nat × α)→Nat→α→List (Nat × α)
 | [],n,x=>[(n,x)]
 | (m,y) :: l,n,x=>if m=n then (n,x) :: l else if n < m then (n,x) :: (m,y) :: l else (m,y) :: putB l n x
theorem qA {α:Type} (l:List (Nat × α)) (n m:Nat) (x:α):look (putB l n x) m=if m=n then some x else look l m:=by
 induction l with
 | nil =>
  by_cases h:m=n
  ·simp [putB,look,h]
  simp [putB,look,h,Ne.symm h]
 | cons e l ih =>
  obtain ⟨k,y⟩:=e;simp only [putB];by_cases h:k=n
  ·subst h;by_cases h2:m=k
   ·simp [look,h2]
   simp [look,h2,Ne.symm h2]
  rw [if_neg h];by_cases h3:n < k
  ·rw [if_pos h3];by_cases h2:m=n
   ·simp [look,h2]
   simp [look,h2,Ne.symm h2]
  rw [if_neg h3];simp only [look,ih];by_cases h2:k=m
  ·subst h2;simp [h]
  simp [h2]
theorem tE {α:Type} (l:List (Nat × α)) (n:Nat) (x:α):look (putB l n x) n=some x:=by rw [qA];simp
theorem sS {α:Type} (l:List (Nat × α)) {n m:Nat} (x:α) (h:m ≠ n):look (putB l n x) m=look l m:=by rw [qA,if_neg h]
theorem aPr {α β:Type} (f:α→β) (l:List (Nat × α)) (n:Nat) (x:α):(putB l n x).map (fun e=>(e.1,f e.2))=putB (l.map fun e=>(e.1,f e.2)) n (f x):=by
 induction l with
 | nil=>rfl
 | cons e l ih =>
  obtain ⟨k,y⟩:=e;simp only [putB,List.map_cons];split
  ·simp
  split
  ·simp
  simp [ih]
theorem aCy {α:Type} (f:α→Nat) (l:List (Nat × α)) (n:Nat) (x:α):tot f (putB l n x) ≤ tot f l + f x:=by
 induction l with
 | nil=>simp [putB,tot]
 | cons e l ih =>
  obtain ⟨k,y⟩:=e;simp only [putB];split
  ·simp only [tot];omega
  split
  ·simp only [tot];omega
  simp only [tot];omega
theorem SRel.newBox {d:Nat} {cs hd0:List TA} {ety:TypeId} (H:SRel C Z s a w) (hdN:d < C.N) (hw:w'.heap=w.heap.push (.cells (TA.vals cs).toArray ety)) (h1:w'.os=w.os) (h2:w'.tape=w.tape) (h3:w'.output=w.output)
  (hes:TA.HoldsL Z w.heap cs) (hic:∀ c ∈ cs,c.isCell=true) (h0:TA.HoldsL Z w.heap hd0) (hce:∀ k,TA.cntL k cs + TA.cntL k hd0 ≤ TA.cntL k s.hd) :
  SRel C Z ⟨(s.killAll (.box d)).tm,Go.OM.putB s.bx d ⟨w.heap.size,0,cs⟩,hd0⟩ a w':=by
 have g:Grow w w':=Grow.push hw h1 h2 h3;have H':=H.grow g;have hfr:∀ (l:List TA),TA.HoldsL Z w.heap l→TA.HoldsL Z w'.heap l:=fun l hl=>TA.HoldsL.frame l hl (fun _ hz=>hz) (fun k hk=>g.block k (by
  rcases hk with hk | hk
  ·exact TA.HoldsL.lt l hl hk
  exact H.zlt k hk))
 have hcnt:∀ k,(StA.mk (s.killAll (.box d)).tm (Go.OM.putB s.bx d ⟨w.heap.size,0,cs⟩) hd0).cnt k ≤ s.cnt k + (if k=w.heap.size then 1 else 0):=by
  intro k;have e1:=hce k;have e2:=aCy (BoxA.cnt k) s.bx d ⟨w.heap.size,0,cs⟩;have e3:BoxA.cnt k ⟨w.heap.size,0,cs⟩=(if k=w.heap.size then 1 else 0) + TA.cntL k cs:=by
   simp only [BoxA.cnt];by_cases e:k=w.heap.size
   ·rw [if_pos e.symm,if_pos e]
   rw [if_neg (Ne.symm e),if_neg e]
  have e4:tot (AVA.cnt k) (s.killAll (.box d)).tm=tot (AVA.cnt k) s.tm:=by
   simp only [StA.killAll];rw [uQ];exact congrArg (fun f=>tot f s.tm) (funext fun x=>AVA.cnt_killAll _ k x)
  simp only [StA.cnt];omega
 have hb0:s.cnt w.heap.size=0:=by
  rcases Nat.eq_zero_or_pos (s.cnt w.heap.size) with h | h
  ·exact h
  have:=H.lt _ h;omega
 have hsp:∀ k,0 < (StA.mk (s.killAll (.box d)).tm (Go.OM.putB s.bx d ⟨w.heap.size,0,cs⟩) hd0).cnt k→k=w.heap.size ∨ 0 < s.cnt k:=by
  intro k hk;by_cases e:k=w.heap.size
  ·exact .inl e
  have:=hcnt k;rw [if_neg e] at this;exact .inr (by omega)
 have hnewlt:w.heap.size < w'.heap.size:=by rw [hw];simp
 have hpb:∀ y ∈ C.PB,y.1 < w.heap.size:=by
  intro y hy;obtain ⟨c,c',e,fr,q1,q2,_⟩:=H.part y hy;have h3:y.1 < C.w0.heap.size:=(Array.getElem?_eq_some_iff.1 q1).1;have h4:=H.grown;omega
 exact {
  defers:=H'.defers
  size:=H'.size
  tm:=fun n y hy=>by
   simp only [StA.killAll,bU] at hy;obtain ⟨z,hz,rfl⟩:=Option.map_eq_some_iff.1 hy;refine (H'.tm n z hz).killAll d (fun r' hr=>?_);cases r' with
   | slot m=>exact tU s (.box d) (.slot m)
   | box m =>
    have hm:m ≠ d:=fun e=>hr (by rw [e])
    simp only [StA.rootCells,sS _ _ hm]
  bx:=fun n y hy=>by
   rw [qA] at hy;by_cases hn:n=d
   ·rw [if_pos hn] at hy;injection hy with hy
    subst hy;refine ⟨⟨_,ety,(0,0),by rw [hw];exact aHw,fun _=>⟨by simp [TA.vals_length],rfl⟩,fun j u hj=>by rw [Nat.zero_add];simpa using hj⟩,hfr cs hes,hic⟩
   rw [if_neg hn] at hy;exact H'.bx n y hy
  uniq:=fun k=>by
   have:=hcnt k;by_cases e:k=w.heap.size
   ·subst e;rw [if_pos rfl,hb0] at this;omega
   rw [if_neg e] at this;have:=H.uniq k;omega
  notZ:=fun k hk=>by
   rcases hsp k hk with e | e
   ·subst e;intro hz;have:=H.zlt _ hz;omega
   exact H.notZ k e
  lt:=fun k hk=>by
   rcases hsp k hk with e | e
   ·subst e;exact hnewlt
   exact H'.lt k e
  zlt:=H'.zlt
  own:=fun k hk=>by
   rcases hsp k hk with e | e
   ·subst e;right;exact H.grown
   exact H.own k e
  z0:=H'.z0
  zext:=H'.zext
  pk:=fun x hx=>by
   obtain ⟨q1,cs0,q2,q3⟩:=H.pk x hx;exact ⟨q1,cs0,by show look (Go.OM.putB s.bx d _) x.1=_;rw [sS _ _ (by omega)];exact q2,q3⟩
  os:=H'.os
  tape:=H'.tape
  output:=H'.output
  grown:=H'.grown
  kept:=H'.kept
  part:=H'.part
  pbx:=fun x hx n y hy hb=>by
   rw [qA] at hy;by_cases hn:n=d
   ·rw [if_pos hn] at hy;injection hy with hy
    subst hy;have:=hpb x hx;simp only at hb;omega
   rw [if_neg hn] at hy;exact H'.pbx x hx n y hy hb
  pbo:=fun x hx n y hy=>by
   simp only [StA.killAll,bU] at hy;obtain ⟨z,hz,rfl⟩:=Option.map_eq_some_iff.1 hy;rw [AVA.cnt_killAll];exact H.pbo x hx n z hz
  pbi:=fun x hx n y hy=>by
   rw [qA] at hy;by_cases hn:n=d
   ·rw [if_pos hn] at hy;injection hy with hy
    subst hy;have e1:=hce x.1;have e2:=H.pbh x hx;show TA.cntL x.1 cs=0;omega
   rw [if_neg hn] at hy;exact H'.pbi x hx n y hy
  hand:=hfr hd0 h0
  pbh:=fun x hx=>by
   have e1:=hce x.1;have e2:=H.pbh x hx;show TA.cntL x.1 hd0=0;omega }
theorem aKk {d:Nat} {x:AV} {N:Nat} (h:σ.put? N (some d) x=some σ'):d < N:=by
 unfold St.put? at h;simp only at h;split at h
 ·rename_i hd;exact hd.1
 cases h
def St.newBox (σ:St) (N:Nat) (dst:Option Nat) (cs:List T):Option St:=match dst with
 | some d=>(St.mk (σ.killAll (.box d)).tm (putB σ.bx d cs)).put? N (some d) (.ref (.box d) 0 [])
 | none=>none
theorem aF7 {d:Nat} {cs:List TA} {b:Nat} (H:SRel C Z s a w) (hlk:look s.bx d=some ⟨b,0,cs⟩) (hp:s.er.put? C.N (some d) (.ref (.box d) 0 [])=some σ'):SOk C σ' (a.put (some d) (.pointer (some ⟨b,0,none⟩))) w :=
 SOk.put0 H rfl hp (xA:=.ref (.box d) 0 []) rfl ⟨some (b,0),cs,(b,0),by simp [StA.rootCells,hlk],by simp [TA.addrP],rfl⟩ (fun k=>rfl)
theorem aE4 (s:StA) (d:Nat) (x:BoxA) (hd:List TA):(StA.mk (s.killAll (.box d)).tm (putB s.bx d x) hd).er=St.mk (s.er.killAll (.box d)).tm (putB s.er.bx d (TA.erL x.cs)):=by
 have h1:(StA.mk (s.killAll (.box d)).tm (putB s.bx d x) hd).er.tm=(s.er.killAll (.box d)).tm:=by
  have h5:(s.killAll (.box d)).er.tm=(s.er.killAll (.box d)).tm:=by rw [StA.er_killAll]
  exact h5
 have h2:(StA.mk (s.killAll (.box d)).tm (putB s.bx d x) hd).er.bx=putB s.er.bx d (TA.erL x.cs):=aPr (fun x:BoxA=>TA.erL x.cs) s.bx d x;cases hh:(StA.mk (s.killAll (.box d)).tm (putB s.bx d x) hd).er;rw [hh] at h1 h2;simp only at h1 h2;rw [h1,h2]
def aPg (N:Nat) (dst:Option Nat) (x:Operand) (σ:St):Option St:=(σ.take N x).bind fun y=>y.2.newBox N dst y.1.cells
theorem aPf {t:TypeId} {x:Operand} (ho:o.op = .box t x) (h:aPg C.N o.dst x σ=some σ') (H:SOk C σ a w) (hK:∀ a' w',SOk C σ' a' w'→K a' w'):o.wp E.P a w K Q:=by
 unfold aPg at h;obtain ⟨⟨y,σ1⟩,ht,h⟩:=Option.bind_eq_some_iff.1 h;obtain ⟨s0,Z,h1,h2,h3⟩:=id H;subst h1;obtain ⟨s,yA,t1,t2,t3,t4,t5,t6⟩:=vT h3 ht;subst t1;subst t2;unfold St.newBox at h;split at h
 case h_2=>cases h
 rename_i d hd;have hv:=xE t6;have hv':yA.val.cells=(TA.vals yA.cells).toArray:=by
  apply Array.toList_inj.1;rw [hv]
 have hnew:=t4.newBox (d:=d) (w':={ w with heap:=w.heap.push (.cells (TA.vals yA.cells).toArray t) }) (cs:=yA.cells) (hd0:=[]) (aKk h) rfl rfl rfl rfl (TA.holds_cells t6) (TA.isCell_mem_cells t6) (by simp [TA.HoldsL]) (fun k=>by rw [t3];simp only [TA.cntL,TA.cntL_cells];omega)
 refine bP (v:=.pointer (some ⟨w.heap.size,0,none⟩)) (w':={ w with heap:=w.heap.push (.cells (TA.vals yA.cells).toArray t) }) ?_ (hK _ _ ?_)
 ·simp [execOp,ho,t5,Instr.box,newVar,newRow,hv']
 rw [hd];refine aF7 hnew (tE _ _ _) ?_;rw [aE4];simp only [TA.er_cells] at h;exact h
def aG2 (E:Env) (N:Nat) (dst:Option Nat) (t:TypeId) (σ:St):Option St:=(E.ty t).bind fun ti=>σ.newBox N dst (TA.erL ti.zero)
theorem aLw {t:TypeId} (ho:o.op = .alloc t) (h:aG2 E C.N o.dst t σ=some σ') (H:SOk C σ a w) (hK:∀ a' w',SOk C σ' a' w'→K a' w'):o.wp E.P a w K Q:=by
 unfold aG2 at h;obtain ⟨ti,hti,h⟩:=Option.bind_eq_some_iff.1 h;obtain ⟨s,Z,h1,h2,h3⟩:=id H;subst h1;have ok:=E.ok t ti hti;obtain ⟨kg,k1⟩:=aBi E hti;obtain ⟨z1,z2,z3,z4,z5,z6⟩:=yQ (E:=E) (Z:=Z) ok k1 (h:=w.heap);unfold St.newBox at h;split at h
 case h_2=>cases h
 rename_i d hd;have hnew:=h3.newBox (d:=d) (w':={ w with heap:=w.heap.push (.cells (TA.vals ti.zero).toArray t) }) (cs:=ti.zero) (hd0:=[]) (aKk h) rfl rfl rfl rfl z5 z4 (by simp [TA.HoldsL]) (fun k=>by rw [z6];simp only [TA.cntL];omega)
 refine bP (v:=.pointer (some ⟨w.heap.size,0,none⟩)) (w':={ w with heap:=w.heap.push (.cells (TA.vals ti.zero).toArray t) }) ?_ (hK _ _ ?_)
 ·simp only [execOp,ho,Instr.alloc,Sem.run_bind,ok.run_zero w,Result.andThen_ok];simp [newVar,newRow,zC ok]
 rw [hd];refine aF7 hnew (tE _ _ _) ?_;rw [aE4];exact h
end Go.OM
namespace Go.OM
variable {C:Ctx} {Z:Nat→Prop} {s:StA} {a:Act} {w w':World} {E:Env} {o:Oper} {σ σ':St} {K:Act→World→Prop} {Q:Exit→Act→World→Prop}
structure RowAt (h:Array Obj) (own:Bool) (sz:Nat) (v:Value) (es:List TA):Prop where
 cells:∀ e ∈ es,e.cells.length=sz
 row:(∃ A,v = .slice A 0 0∧es=[]∧(own=true→A=none)) ∨ ∃ b off cap,v = .slice (some ⟨b,off,none⟩) es.length cap∧es.length ≤ cap∧TA.Mem h own b off (cap * sz) (TA.vals (es.flatMap TA.cells))
theorem aPn {h:Array Obj} {x:TA} {ow:Bool} {sz:Nat} {es:List T} (hx:x.Holds Z h) (he:x.er = .sl ow sz es):∃ esA,TA.erL esA=es∧RowAt h ow sz x.val esA∧TA.HoldsL Z h esA∧(∀ k,TA.cntL k esA ≤ x.cnt k)∧((∃ A,x = .nl ow sz A∧esA=[]) ∨ ∃ b off cap,x = .sl ow sz b off cap esA):=by
 rcases aMq he with ⟨A,rfl,rfl⟩ | ⟨b,off,cap,esA,rfl,rfl⟩
 ·simp only [TA.Holds] at hx;exact ⟨[],rfl,⟨by simp,.inl ⟨A,rfl,rfl,hx⟩⟩,by simp [TA.HoldsL],fun k=>by simp [TA.cntL],.inl ⟨A,rfl,rfl⟩⟩
 simp only [TA.Holds] at hx;exact ⟨esA,rfl,⟨hx.2.2.2.2,.inr ⟨b,off,cap,rfl,hx.2.1,hx.1⟩⟩,hx.2.2.2.1,fun k=>by simp only [TA.cnt];omega,.inr ⟨b,off,cap,rfl⟩⟩
theorem yE {P:Program} {ow:Bool} {sz:Nat} {v:Value} {es:List TA} {w1:World} (hr:RowAt w.heap ow sz v es) (hw:w1.heap=w.heap):(Builtin.firstCells sz es.length v).run P w1 = .ok (TA.vals (es.flatMap TA.cells)).toArray w1:=by
 rcases hr.row with ⟨A,rfl,rfl,_⟩ | ⟨b,off,cap,rfl,hle,hm⟩
 ·cases A with
  | none=>simp [Builtin.firstCells,TA.vals]
  | some A=>exact run_firstCells_some w1 sz 0 A 0 0 [] (by simp) (fun j u hj=>by simp at hj)
 obtain ⟨cs,ety,fr,g1,g2,g3⟩:=hm;refine run_firstCells_some w1 sz es.length ⟨b,off,none⟩ es.length cap (TA.vals (es.flatMap TA.cells)) (by rw [TA.vals_length,iL hr.cells]) (fun j u hj=>?_)
 rw [iI];simp only [World.cell?,hw,g1];simpa using g3 j u hj
theorem aNi {P:Program} {ow:Bool} {sz:Nat} {v:Value} {es:List TA} {h:Array Obj} {w1:World} (hr:RowAt h ow sz v es):(Builtin.lenOf v).run P w1 = .ok es.length w1:=by
 rcases hr.row with ⟨A,rfl,rfl,_⟩ | ⟨b,off,cap,rfl,hle,hm⟩<;>rfl
theorem aM0 {t e ty:TypeId} {ti:TI} {v0 v1:Value} {es0 es1:List TA} {ow:Bool} (ht:E.P.underlying t=some (.slice e)) (hti:E.ty e=some ti) (hr0:RowAt w.heap true ti.size v0 es0) (hr1:RowAt w.heap ow ti.size v1 es1)
  (h1:∀ v ∈ TA.vals (es1.flatMap TA.cells),TA.OneCell v) (hb:(es0.length + es1.length) * ti.bytes ≤ 140737488355328) (hl:es0.length + es1.length ≤ 140737488355328) :
  (v0 = .slice none 0 0∧es0=[]∧es1=[]∧(Builtin.append_ #[t,t] ty #[v0,v1]).run E.P w = .ok (.slice none 0 0) w) ∨
  (∃ b off cap c ety,v0 = .slice (some ⟨b,off,none⟩) es0.length cap∧es0.length + es1.length ≤ cap∧w.heap[b]? = some (.cells c ety (0,0))∧off + cap * ti.size ≤ c.size ∧
   (Builtin.append_ #[t,t] ty #[v0,v1]).run E.P w = .ok (.slice (some ⟨b,off,none⟩) (es0.length + es1.length) cap) { w with heap:=wr w.heap b (off + es0.length * ti.size) (TA.vals (es1.flatMap TA.cells)) }) ∨
  (∃ cap rest,es0.length + es1.length ≤ cap∧cap * ti.size ≤ ((TA.vals (es0.flatMap TA.cells)).toArray ++ (TA.vals (es1.flatMap TA.cells)).toArray ++ rest:Array Value).size ∧
   (Builtin.append_ #[t,t] ty #[v0,v1]).run E.P w = .ok (.slice (some ⟨w.heap.size,0,none⟩) (es0.length + es1.length) cap) (w.drew.alloc (.cells ((TA.vals (es0.flatMap TA.cells)).toArray ++ (TA.vals (es1.flatMap TA.cells)).toArray ++ rest) e))):=by
 have ok:=E.ok e ti hti;obtain ⟨i,hi,hz,hs,hby⟩:=ok.info;have hf1:∀ (w1:World),w1.heap=w.heap→(Builtin.firstCells ti.size es1.length v1).run E.P w1 = .ok (TA.vals (es1.flatMap TA.cells)).toArray w1:=fun w1 hw=>yE hr1 hw;have hf0:∀ (w1:World),w1.heap=w.heap→(Builtin.firstCells ti.size es0.length v0).run E.P w1 = .ok (TA.vals (es0.flatMap TA.cells)).toArray w1:=fun w1 hw=>yE hr0 hw;have hlen1:=aNi (P:=E.P) (w1:=w) hr1;have grow:∀ (A:Option Addr) (cap:Nat),v0 = .slice A es0.length cap→cap < es0.length + es1.length→es0.length ≤ cap →
   ∃ cap' rest,es0.length + es1.length ≤ cap'∧cap' * ti.size ≤ ((TA.vals (es0.flatMap TA.cells)).toArray ++ (TA.vals (es1.flatMap TA.cells)).toArray ++ rest:Array Value).size ∧
   (Builtin.append_ #[t,t] ty #[v0,v1]).run E.P w = .ok (.slice (some ⟨w.heap.size,0,none⟩) (es0.length + es1.length) cap') (w.drew.alloc (.cells ((TA.vals (es0.flatMap TA.cells)).toArray ++ (TA.vals (es1.flatMap TA.cells)).toArray ++ rest) e)):=by
  intro A cap hv hg hle;have hn:¬ (es0.length + es1.length ≤ cap):=by omega
  have h63':¬ (9223372036854775807 < ((es0.length:Int) + (es1.length:Int))):=by omega
  have hfit:=growslice_fits (need:=es0.length + es1.length) (old:=cap) (bytes:=ti.bytes) hg hb;have h48':¬ (281474976710656 < Builtin.nextslicecap (es0.length + es1.length) cap * i.bytes):=by rw [hby];omega
  have hf:=hf1 w.drew rfl;have hfo:=hf0 w.drew rfl;rw [hv] at hfo;have hcap:es0.length + es1.length ≤ grownCap w (es0.length + es1.length) cap e:=by simp only [grownCap,Question.cut];omega
  have hz2:ti.zv.cells.size=ti.size:=by rw [zC ok];simp [TA.vals_length,ok.len]
  refine ⟨grownCap w (es0.length + es1.length) cap e,Builtin.zeroCells ti.zv.cells (grownCap w (es0.length + es1.length) cap e - (es0.length + es1.length)),hcap,?_,?_⟩
  ·have:(Builtin.zeroCells ti.zv.cells (grownCap w (es0.length + es1.length) cap e - (es0.length + es1.length))).size=(grownCap w (es0.length + es1.length) cap e - (es0.length + es1.length)) * ti.size:=by simp [Builtin.zeroCells,hz2]
   simp only [Array.size_append,List.size_toArray,TA.vals_length,iL hr0.cells,iL hr1.cells,this,← Nat.add_mul];exact Nat.le_of_eq (by congr 1;omega)
  rw [hv];rw [← hs] at hf hfo;simp [Builtin.append_,run_underlying ht,sizeOf,typeInfo,zeroValue,hi,hz,hlen1,hn,h63',h48',Question.forced,hf,hfo,newRow,grownCap]
  congr 2
  apply Array.ext';simp [List.append_assoc]
 rcases hr0.row with ⟨A0,hv0,he0,hA0⟩ | ⟨b,off,cap,hv0,hle,hm⟩
 ·by_cases he1:es1=[]
  ·left;rw [hA0 rfl] at hv0;refine ⟨hv0,he0,he1,?_⟩;have hf:=hf1 w rfl;rw [he1] at hf hlen1;subst hv0;simp only [List.length_nil] at hf hlen1;simp [Builtin.append_,run_underlying ht,sizeOf,typeInfo,hi,hs,hlen1,hf]
  right;right;have hp:0 < es1.length:=List.length_pos_iff.2 he1;exact grow A0 0 (by rw [hv0,he0];rfl) (by omega) (by rw [he0];exact Nat.le_refl _)
 by_cases hroom:es0.length + es1.length ≤ cap
 ·right;left;obtain ⟨c,ety,fr,g1,g2,g3⟩:=hm;obtain ⟨g2a,g2b⟩:=g2 rfl;subst g2b;refine ⟨b,off,cap,c,ety,hv0,hroom,g1,g2a,?_⟩;have hlen:(TA.vals (es1.flatMap TA.cells)).length=es1.length * ti.size:=by rw [TA.vals_length,iL hr1.cells]
  have hmul:(es0.length + es1.length) * ti.size ≤ cap * ti.size:=Nat.mul_le_mul_right _ hroom;rw [Nat.add_mul] at hmul;have hst:=zP (P:=E.P) (w:=w) (b:=b) (off:=off + es0.length * ti.size) (TA.vals (es1.flatMap TA.cells)) g1 (by rw [hlen];omega) h1
  have hf:=hf1 w rfl;subst hv0;simp [Builtin.append_,run_underlying ht,sizeOf,typeInfo,hi,hs,hlen1,hroom,hf,iI,hst]
 right;right;exact grow _ cap hv0 (by omega) hle
theorem aFk (a b:List TA):TA.erL (a ++ b)=TA.erL a ++ TA.erL b:=by simp [TA.erL_map]
theorem SRel.longer {b off cap sz:Nat} {es0 es1 hd0:List TA} {x0:TA} {c:Array Value} {ety:TypeId} (H:SRel C Z s a w) (hx0:x0 = .sl true sz b off cap es0) (h0:x0.Holds Z w.heap) (h1:TA.HoldsL Z w.heap es1) (hh:TA.HoldsL Z w.heap hd0)
  (hce:∀ k,x0.cnt k + TA.cntL k es1 + TA.cntL k hd0 ≤ TA.cntL k s.hd) (hsz1:∀ e ∈ es1,e.cells.length=sz) (hcap:es0.length + es1.length ≤ cap) (hb:w.heap[b]? = some (.cells c ety (0,0))) (hroom:off + cap * sz ≤ c.size) :
  SRel C Z ⟨s.tm,s.bx,.sl true sz b off cap (es0 ++ es1) :: hd0⟩ a { w with heap:=wr w.heap b (off + es0.length * sz) (TA.vals (es1.flatMap TA.cells)) }:=by
 subst hx0;have hcb:0 < TA.cntL b s.hd:=by have:=hce b;simp [TA.cnt] at this;omega
 have hhu:∀ k,TA.cntL k s.hd ≤ 1:=fun k=>by have:=H.uniq k;simp only [StA.cnt] at this;omega
 have hbz:¬ Z b:=H.notZ b (by simp only [StA.cnt];omega)
 have hbes0:TA.cntL b es0=0:=by have h1:=hce b;have h2:=hhu b;simp [TA.cnt] at h1;omega
 have hbes1:TA.cntL b es1=0:=by have h1:=hce b;have h2:=hhu b;simp [TA.cnt] at h1;omega
 have hbhd0:TA.cntL b hd0=0:=by have h1:=hce b;have h2:=hhu b;simp [TA.cnt] at h1;omega
 have hbtm:∀ n y,look s.tm n=some y→y.cnt b=0:=by
  intro n y hy;have e1:=bT (AVA.cnt b) hy;have e2:=H.uniq b;simp only [StA.cnt] at e2;omega
 have hbbx:∀ n y,look s.bx n=some y→BoxA.cnt b y=0:=by
  intro n y hy;have e1:=bT (BoxA.cnt b) hy;have e2:=H.uniq b;simp only [StA.cnt] at e2;omega
 have hfr:∀ (l:List TA),TA.HoldsL Z w.heap l→TA.cntL b l=0→TA.HoldsL Z (wr w.heap b (off + es0.length * sz) (TA.vals (es1.flatMap TA.cells))) l:=fun l hl hc=>TA.HoldsL.frame l hl (fun _ hz=>hz) (fun k hk=>uO _ _ _ _ (fun e=>by
  subst e;rcases hk with hk | hk
  ·omega
  exact hbz hk))
 simp only [TA.Holds] at h0;obtain ⟨m1,m2,m3,m4,m5⟩:=h0;have hsz:∀ e ∈ es0 ++ es1,e.cells.length=sz:=by
  intro e he;rcases List.mem_append.1 he with he | he
  ·exact m5 e he
  exact hsz1 e he
 have hmul:(es0.length + es1.length) * sz ≤ cap * sz:=Nat.mul_le_mul_right _ hcap;rw [Nat.add_mul] at hmul;have hl1:(TA.vals (es1.flatMap TA.cells)).length=es1.length * sz:=by rw [TA.vals_length,iL hsz1]
 have hl0:(TA.vals (es0.flatMap TA.cells)).length=es0.length * sz:=by rw [TA.vals_length,iL m5]
 have hnew:(TA.sl true sz b off cap (es0 ++ es1)).Holds Z (wr w.heap b (off + es0.length * sz) (TA.vals (es1.flatMap TA.cells))):=by
  simp only [TA.Holds];refine ⟨⟨_,ety,(0,0),sY _ _ hb,fun _=>⟨by rw [uP];exact hroom,rfl⟩,fun j u hj=>?_⟩,by simpa using hcap,(fun hh=>nomatch hh),holdsL_append.2 ⟨hfr es0 m4 hbes0,hfr es1 h1 hbes1⟩,hsz⟩
  rw [List.flatMap_append,TA.vals_append] at hj;rw [vQ _ _ _ _ (by rw [hl1];omega),hl1]
  by_cases hjs:j < es0.length * sz
  ·rw [List.getElem?_append_left (by rw [hl0];exact hjs)] at hj
   rw [if_neg (by omega)]
   obtain ⟨c2,ety2,fr2,g1,g2,g3⟩:=m1;rw [hb] at g1;injection g1 with g1
   injection g1 with e1 e2 e3
   subst e1;exact g3 j u hj
  rw [List.getElem?_append_right (by rw [hl0];omega),hl0] at hj
  have hlt:=(List.getElem?_eq_some_iff.1 hj).1;rw [hl1] at hlt;rw [if_pos (by omega),show off + j - (off + es0.length * sz)=j - es0.length * sz by omega]
  exact hj
 have hcnt:∀ k,(StA.mk s.tm s.bx (.sl true sz b off cap (es0 ++ es1) :: hd0)).cnt k ≤ s.cnt k:=by
  intro k;have:=hce k;simp only [TA.cnt] at this;simp only [StA.cnt,TA.cntL,TA.cnt,TA.cntL_append];omega
 exact {
  defers:=H.defers
  size:=H.size
  tm:=fun n y hy=>(H.tm n y hy).keep (fun _ hz=>hz) (fun k hk=>uO _ _ _ _ (fun e=>by
    subst e;rcases hk with hk | hk
    ·have:=hbtm n y hy;omega
    exact hbz hk)) (fun r _ _ _ _ _ _ _ _ _ _=>by cases r<;>rfl) (fun r o p e base cs ad h1 h2=>⟨base,cs,by cases r<;>exact h1,h2⟩)
  bx:=fun n y hy=>by
   obtain ⟨q1,q2,q3⟩:=H.bx n y hy;have hz:=hbbx n y hy;simp only [BoxA.cnt] at hz;have hyb:y.b ≠ b:=by
    intro e;rw [if_pos e] at hz;omega
   exact ⟨q1.frame (uO _ _ _ _ hyb),hfr _ q2 (by omega),q3⟩
  uniq:=fun k=>Nat.le_trans (hcnt k) (H.uniq k)
  notZ:=fun k hk=>H.notZ k (Nat.lt_of_lt_of_le hk (hcnt k))
  lt:=fun k hk=>by show k < (wr _ _ _ _).size;rw [aFp];exact H.lt k (Nat.lt_of_lt_of_le hk (hcnt k))
  zlt:=fun k hk=>by show k < (wr _ _ _ _).size;rw [aFp];exact H.zlt k hk
  own:=fun k hk=>H.own k (Nat.lt_of_lt_of_le hk (hcnt k))
  z0:=H.z0
  zext:=H.zext
  pk:=H.pk
  os:=H.os
  tape:=H.tape
  output:=H.output
  grown:=by show _ ≤ (wr _ _ _ _).size;rw [aFp];exact H.grown
  kept:=fun k hk hf=>by
   show (wr _ _ _ _)[k]? = _;by_cases hkb:k=b
   ·subst hkb;exfalso;rcases H.own k (by simp only [StA.cnt];omega) with h2 | h2
    ·exact hf h2
    omega
   rw [uO _ _ _ _ hkb];exact H.kept k hk hf
  part:=fun x hx=>by
   have:=H.pbh x hx;have hne:x.1 ≠ b:=fun e=>by rw [e] at this;omega
   obtain ⟨c,c',e,fr,q1,q2,q3⟩:=H.part x hx;exact ⟨c,c',e,fr,q1,(uO _ _ _ _ hne).trans q2,q3⟩
  pbx:=H.pbx
  pbo:=H.pbo
  pbi:=H.pbi
  hand:=by
   simp only [TA.HoldsL];exact ⟨hnew,hfr hd0 hh hbhd0⟩
  pbh:=fun x hx=>by
   have e1:=hce x.1;have e2:=H.pbh x hx;simp only [TA.cnt] at e1;simp only [TA.cntL,TA.cnt,TA.cntL_append];omega }
def St.takeRow (N:Nat) (x:Operand) (σ:St):Option (Bool × Nat × List T × St):=(σ.take N x).bind fun y=>match y.1 with
 | .sl ow sz es=>some (ow,sz,es,y.2)
 | _=>none
def aCg (E:Env) (N:Nat) (dst:Option Nat) (ts:Array TypeId) (x y:Operand) (σ:St):Option St:=match ts.toList with
 | [t,t2]=>if t=t2 then (match rR E t with
  | some (.slice e)=>(E.ty e).bind fun ti =>
   (if aIa x=true then some (([]:List T),σ) else (σ.takeRow N x).bind fun z=>if z.1=true∧z.2.1=ti.size then some (z.2.2.1,z.2.2.2) else none).bind fun p =>
   (if aIa y=true then some (([]:List T),p.2) else (p.2.takeRow N y).bind fun z=>if z.2.1=ti.size then some (z.2.2.1,z.2.2.2) else none).bind fun q =>
   if (p.1.length + q.1.length) * ti.bytes ≤ 140737488355328∧p.1.length + q.1.length ≤ 140737488355328 then q.2.put? N dst (.t (.sl true ti.size (p.1 ++ q.1))) else none
  | _=>none) else none
 | _=>none
theorem xF {x:Operand} {ow:Bool} {sz:Nat} {es:List T} (H:SRel C Z s a w) (h:s.er.takeRow C.N x=some (ow,sz,es,σ')) :
  ∃ s' xA esA,s'.er=σ'∧s'.hd=xA :: s.hd∧SRel C Z s' a w∧a.eval x=xA.val∧xA.Holds Z w.heap∧TA.erL esA=es∧RowAt w.heap ow sz xA.val esA∧TA.HoldsL Z w.heap esA∧(∀ k,TA.cntL k esA ≤ xA.cnt k)∧((∃ A,xA = .nl ow sz A∧esA=[]) ∨ ∃ b off cap,xA = .sl ow sz b off cap esA):=by
 unfold St.takeRow at h;obtain ⟨⟨y,σ1⟩,ht,h⟩:=Option.bind_eq_some_iff.1 h;obtain ⟨s',xA,t1,t2,t3,t4,t5,t6⟩:=vT H ht;simp only at h;split at h
 ·rename_i ow1 sz1 es1;simp only [Option.some.injEq,Prod.mk.injEq] at h;obtain ⟨rfl,rfl,rfl,rfl⟩:=h;obtain ⟨esA,r1,r2,r3,r4,r5⟩:=aPn t6 t1;exact ⟨s',xA,esA,t2,t3,t4,t5,t6,r1,r2,r3,r4,r5⟩
 cases h
theorem aMo {h:Array Obj} {l:List TA} (hl:TA.HoldsL Z h l):TA.HoldsL Z h (l.flatMap TA.cells)∧∀ c ∈ l.flatMap TA.cells,c.isCell=true:=by
 refine ⟨TA.holdsL_iff.2 fun t ht=>?_,fun t ht=>?_⟩
 ·obtain ⟨e,he,ht⟩:=List.mem_flatMap.1 ht;exact TA.holdsL_iff.1 (TA.holds_cells (TA.holdsL_iff.1 hl e he)) t ht
 obtain ⟨e,he,ht⟩:=List.mem_flatMap.1 ht;exact TA.isCell_mem_cells (TA.holdsL_iff.1 hl e he) t ht
theorem aJ6 {x y:Operand} {ts:Array TypeId} (ho:o.op = .call { callee:=.builtin .append,args:=#[x,y],argTypes:=ts }) (h:aCg E C.N o.dst ts x y σ=some σ') (H:SOk C σ a w) (hK:∀ a' w',SOk C σ' a' w'→K a' w'):o.wp E.P a w K Q:=by
 unfold aCg at h;split at h
 case h_2=>cases h
 rename_i t t2 hts;split at h
 case isFalse=>cases h
 rename_i htt;have hts':ts = #[t,t]:=by
  apply Array.toList_inj.1;rw [hts,← htt]
 split at h
 case h_2=>cases h
 rename_i e hk;have ht:E.P.underlying t=some (.slice e):=fM hk;obtain ⟨ti,hti,h⟩:=Option.bind_eq_some_iff.1 h;obtain ⟨⟨es0T,σ1⟩,hx,h⟩:=Option.bind_eq_some_iff.1 h;obtain ⟨⟨es1T,σ2⟩,hy,h⟩:=Option.bind_eq_some_iff.1 h;split at h
 case isFalse=>cases h
 rename_i hb;obtain ⟨s0,Z,h1,h2,h3⟩:=id H;subst h1
 -- the first row
 obtain ⟨s1,x0,es0,q1,q2,q3,q4,q5,q6,q7,q8⟩:∃ (s1:StA) (x0:TA) (es0:List TA),s1.er=σ1∧s1.hd=x0 :: s0.hd∧SRel C Z s1 a w∧a.eval x=x0.val∧x0.Holds Z w.heap∧TA.erL es0=es0T∧RowAt w.heap true ti.size x0.val es0∧((∃ A,x0 = .nl true ti.size A∧es0=[]) ∨ ∃ b off cap,x0 = .sl true ti.size b off cap es0):=by
  split at hx
  ·rename_i hn;simp only [Option.some.injEq,Prod.mk.injEq] at hx;obtain ⟨rfl,rfl⟩:=hx;refine ⟨s0.push [.nl true ti.size none],.nl true ti.size none,[],rfl,rfl,?_,by rw [aA7 hn];rfl,by simp [TA.Holds],rfl,⟨by simp,.inl ⟨none,rfl,rfl,fun _=>rfl⟩⟩,.inl ⟨none,rfl,rfl⟩⟩
   exact h3.newHand _ (fun _ hz=>hz) (fun k hk=>.inl hk) h3.zlt (by simp [TA.HoldsL,TA.Holds]) (fun k=>by simp [TA.cntL,TA.cnt]) (fun k hk=>by simp [TA.cntL,TA.cnt] at hk) h3.notZ (fun q _=>by simp [TA.cntL,TA.cnt])
  obtain ⟨⟨ow,sz,esT,σ3⟩,hr,hx⟩:=Option.bind_eq_some_iff.1 hx;split at hx
  case isFalse=>cases hx
  rename_i hc;simp only [Option.some.injEq,Prod.mk.injEq] at hx;obtain ⟨rfl,rfl⟩:=hx;obtain ⟨s',xA,esA,r1,r2,r3,r4,r5,r6,r7,r8,r9,r10⟩:=xF h3 hr;obtain ⟨c1,c2⟩:=hc;subst c1;subst c2;exact ⟨s',xA,esA,r1,r2,r3,r4,r5,r6,r7,r10⟩
 obtain ⟨s2,x1,es1,ow,p1,p2,p3,p4,p5,p6,p7,p8,p9⟩:∃ (s2:StA) (x1:TA) (es1:List TA) (ow:Bool),s2.er=σ2∧s2.hd=x1 :: s1.hd∧SRel C Z s2 a w∧a.eval y=x1.val∧x1.Holds Z w.heap∧TA.erL es1=es1T∧RowAt w.heap ow ti.size x1.val es1∧TA.HoldsL Z w.heap es1∧(∀ k,TA.cntL k es1 ≤ x1.cnt k):=by
  subst q1;split at hy
  ·rename_i hn;simp only [Option.some.injEq,Prod.mk.injEq] at hy;obtain ⟨rfl,rfl⟩:=hy;refine ⟨s1.push [.nl true ti.size none],.nl true ti.size none,[],true,rfl,rfl,?_,by rw [aA7 hn];rfl,by simp [TA.Holds],rfl,⟨by simp,.inl ⟨none,rfl,rfl,fun _=>rfl⟩⟩,by simp [TA.HoldsL],fun k=>by simp [TA.cntL]⟩
   exact q3.newHand _ (fun _ hz=>hz) (fun k hk=>.inl hk) q3.zlt (by simp [TA.HoldsL,TA.Holds]) (fun k=>by simp [TA.cntL,TA.cnt]) (fun k hk=>by simp [TA.cntL,TA.cnt] at hk) q3.notZ (fun q _=>by simp [TA.cntL,TA.cnt])
  obtain ⟨⟨ow,sz,esT,σ3⟩,hr,hy⟩:=Option.bind_eq_some_iff.1 hy;split at hy
  case isFalse=>cases hy
  rename_i hc;simp only [Option.some.injEq,Prod.mk.injEq] at hy;obtain ⟨rfl,rfl⟩:=hy;obtain ⟨s',xA,esA,r1,r2,r3,r4,r5,r6,r7,r8,r9,r10⟩:=xF q3 hr;subst hc;exact ⟨s',xA,esA,ow,r1,r2,r3,r4,r5,r6,r7,r8,r9⟩
 simp only at h hb;subst p1;obtain ⟨f1,f2⟩:=aMo p8;have hlen0:es0.length=es0T.length:=by rw [← q6,TA.er_len]
 have hlen1:es1.length=es1T.length:=by rw [← p6,TA.er_len]
 rw [← hlen0,← hlen1] at hb;have hes0:TA.HoldsL Z w.heap es0:=by
  rcases q8 with ⟨_,_,rfl⟩ | ⟨b,off,cap,rfl⟩
  ·simp [TA.HoldsL]
  simp only [TA.Holds] at q5;exact q5.2.2.2.1
 have hc0:∀ k,TA.cntL k es0 ≤ x0.cnt k:=by
  intro k;rcases q8 with ⟨_,_,rfl⟩ | ⟨b,off,cap,rfl⟩
  ·simp [TA.cntL]
  simp only [TA.cnt];omega
 have hfin:∀ (s':StA) (w':World) (z:TA) (v:Value),s'.er=s2.er→s'.hd=[z]→SRel C Z s' a w'→z.er = .sl true ti.size (es0T ++ es1T)→v=z.val→SOk C σ' (a.put o.dst v) w':=by
  intro s' w' z v e1 e2 e3 e4 e5;subst e5;have hz:=e3.hand;rw [e2] at hz;simp only [TA.HoldsL] at hz;exact SOk.put? e3 e1 h (xA:=.t z) (by simp only [AVA.er,e4]) ⟨rfl,hz.1⟩ (fun k=>by rw [e2];simp only [AVA.cnt_t,TA.cntL];omega)
 rcases aM0 (ty:=o.type) (w:=w) ht hti q7 p7 (aBw f1 f2) hb.1 hb.2 with ⟨v0,e0,e1,hrun⟩ | ⟨b,off,cap,c,ety,v0,hroom,hbk,hsz,hrun⟩ | ⟨cap,rest,hcap,hsz,hrun⟩
 ·refine bP (v:=.slice none 0 0) (w':=w) ?_ (hK _ _ ?_)
  ·simp [execOp,ho,resolve,invoke,builtin,hts',q4,p4,hrun]
  refine hfin ⟨s2.tm,s2.bx,[.nl true ti.size none]⟩ w (.nl true ti.size none) _ rfl rfl (p3.drop (fun k=>by simp [TA.cntL,TA.cnt]) (by simp [TA.HoldsL,TA.Holds])) ?_ rfl
  subst e0;subst e1;simp only [TA.erL] at q6 p6;simp [TA.er,← q6,← p6]
 ·have hx0:x0 = .sl true ti.size b off cap es0:=by
   rcases q8 with ⟨A8,rfl,e8⟩ | ⟨b2,off2,cap2,rfl⟩
   ·simp only [TA.Holds] at q5;rw [q5 trivial] at v0;simp [TA.val,TA.val1] at v0
   simp only [TA.val,TA.val1,Value.slice.injEq,Option.some.injEq,Addr.mk.injEq] at v0;obtain ⟨⟨rfl,rfl,_⟩,_,rfl⟩:=v0
   rfl
  have hl:=p3.longer (hd0:=[]) hx0 q5 p8 (by simp [TA.HoldsL]) (fun k=>by rw [p2,q2];have:=p9 k;simp only [TA.cntL];omega) p7.cells hroom hbk hsz
  refine bP (v:=.slice (some ⟨b,off,none⟩) (es0.length + es1.length) cap) (w':={ w with heap:=wr w.heap b (off + es0.length * ti.size) (TA.vals (es1.flatMap TA.cells)) }) ?_ (hK _ _ ?_)
  ·simp [execOp,ho,resolve,invoke,builtin,hts',q4,p4,hrun]
  refine hfin ⟨s2.tm,s2.bx,[.sl true ti.size b off cap (es0 ++ es1)]⟩ _ (.sl true ti.size b off cap (es0 ++ es1)) _ rfl rfl hl ?_ (by simp [TA.val,TA.val1])
  simp [TA.er,aFk,q6,p6]
 have hnew:=p3.newSl (w':=w.drew.alloc (.cells ((TA.vals (es0.flatMap TA.cells)).toArray ++ (TA.vals (es1.flatMap TA.cells)).toArray ++ rest) e)) (es:=es0 ++ es1) (hd0:=[]) (cap:=cap) (sz:=ti.size) rfl rfl rfl rfl
  (holdsL_append.2 ⟨hes0,p8⟩) (by simp [TA.HoldsL]) (fun k=>by rw [p2,q2];have:=p9 k;have:=hc0 k;simp only [TA.cntL,TA.cntL_append];omega) (by simpa using hcap)
  (fun el hel=>by rcases List.mem_append.1 hel with he | he;exact q7.cells el he;exact p7.cells el he) hsz (fun j u hj=>by
   rw [List.flatMap_append,TA.vals_append] at hj;have hlt:=(List.getElem?_eq_some_iff.1 hj).1;rw [Array.getElem?_append_left (by simpa using hlt)]
   simpa using hj)
 refine bP (v:=.slice (some ⟨w.heap.size,0,none⟩) (es0.length + es1.length) cap) (w':=w.drew.alloc (.cells ((TA.vals (es0.flatMap TA.cells)).toArray ++ (TA.vals (es1.flatMap TA.cells)).toArray ++ rest) e)) ?_ (hK _ _ ?_)
 ·simp only [execOp,ho,resolve,invoke,builtin,hts',Sem.run_bind,Sem.run_pure,Result.andThen_ok,List.map_toArray,List.map_cons,List.map_nil,q4,p4,hrun]
 refine hfin ⟨s2.tm,s2.bx,[.sl true ti.size w.heap.size 0 cap (es0 ++ es1)]⟩ _ (.sl true ti.size w.heap.size 0 cap (es0 ++ es1)) _ rfl rfl hnew ?_ (by simp [TA.val,TA.val1])
 simp [TA.er,aFk,q6,p6]
end Go.OM
namespace Go.OM
variable {C:Ctx} {Z:Nat→Prop} {s:StA} {a:Act} {w w':World} {E:Env} {o:Oper} {σ σ':St} {K:Act→World→Prop} {Q:Exit→Act→World→Prop}
def St.bnd (σ:St) (x:Option Operand) (d:Nat):Option Nat:=match x with
 | none=>some d
 | some y=>match σ.sc y with
  | some (.int _ n)=>if 0 ≤ n then some n.toNat else none
  | _=>none
def aFw (E:Env) (N:Nat) (dst:Option Nat) (t:TypeId) (x:Operand) (lo hi:Option Operand) (σ:St):Option St:=match rR E t with
 | some .str=>(match σ.sc x with
  | some (.string z)=>(σ.bnd lo 0).bind fun l=>(σ.bnd hi z.size).bind fun h=>if l ≤ h∧h ≤ z.size then σ.put? N dst (.t (.v (.string (z.extract l h)))) else none
  | _=>none)
 | some (.slice e)=>(E.ty e).bind fun ti=>(σ.takeRow N x).bind fun y=>(σ.bnd lo 0).bind fun l=>(σ.bnd hi y.2.2.1.length).bind fun h =>
  if y.2.1=ti.size∧l ≤ h∧h ≤ y.2.2.1.length then y.2.2.2.put? N dst (.t (.sl y.1 ti.size ((y.2.2.1.take h).drop l))) else none
 | _=>none
theorem aGy {x:Option Operand} {d n:Nat} (H:SRel C Z s a w) (h:s.er.bnd x d=some n):(x=none∧n=d) ∨ ∃ y k,x=some y∧a.eval y = .int k n:=by
 unfold St.bnd at h;split at h
 ·left;injection h with h;exact ⟨rfl,h.symm⟩
 rename_i y;right;split at h
 ·rename_i k m hm;split at h
  ·rename_i h0;injection h with h
   obtain ⟨h1,_⟩:=nM H hm;exact ⟨y,k,rfl,by rw [h1];congr 1;omega⟩
  cases h
 cases h
theorem aB6 {sl:Bool} {P:Program} {len cap l h:Nat} {lo hi:Option Operand} (hlo:(lo=none∧l=0) ∨ ∃ y k,lo=some y∧a.eval y = .int k l) (hhi:(hi=none∧h=len) ∨ ∃ y k,hi=some y∧a.eval y = .int k h) (hl:l ≤ h) (hh:h ≤ cap) :
  (Instr.sliceBounds sl len cap (lo.map a.eval) (hi.map a.eval) none).run P w = .ok (l,h,cap) w:=by
 have hb:∀ (k:IntKind) (n y:Nat) (c:BoundsCode),n ≤ y→(Instr.sliceBound (.int k n) y c).run P w = .ok n w:=by
  intro k n y c hn;unfold Instr.sliceBound;simp only [asIntOf,Sem.run_bind,Sem.run_pure,Result.andThen_ok];rw [if_pos ⟨by omega,by omega⟩]
  simp
 unfold Instr.sliceBounds;rcases hlo with ⟨rfl,rfl⟩ | ⟨y,k,rfl,hy⟩<;>rcases hhi with ⟨rfl,rfl⟩ | ⟨y2,k2,rfl,hy2⟩<;>simp_all
theorem aO7 {sz l h:Nat} {es:List TA} (hs:∀ e ∈ es,e.cells.length=sz) (hl:l ≤ h) (hh:h ≤ es.length) {j:Nat} {u:Value} (hj:(TA.vals (((es.take h).drop l).flatMap TA.cells))[j]? = some u):(TA.vals (es.flatMap TA.cells))[l * sz + j]? = some u:=by
 have e1:es=es.take l ++ (((es.take h).drop l) ++ es.drop h):=by
  rw [← List.append_assoc];have:es.take l ++ (es.take h).drop l=es.take h:=by
   have h2:=List.take_append_drop l (es.take h);rw [List.take_take,Nat.min_eq_left hl] at h2;exact h2
  rw [this,List.take_append_drop]
 have hlen:(TA.vals ((es.take l).flatMap TA.cells)).length=l * sz:=by
  rw [TA.vals_length,iL (fun e he=>hs e (List.mem_of_mem_take he)),List.length_take,Nat.min_eq_left (by omega)]
 rw [e1];simp only [List.flatMap_append,TA.vals_append];rw [List.getElem?_append_right (by rw [hlen];omega),hlen,Nat.add_sub_cancel_left,List.getElem?_append_left (List.getElem?_eq_some_iff.1 hj).1]
 exact hj
theorem aIs (k n:Nat) (l:List TA):TA.cntL k (l.take n) ≤ TA.cntL k l:=by
 have:=TA.cntL_append k (l.take n) (l.drop n);rw [List.take_append_drop] at this;omega
theorem aE9 (k n:Nat) (l:List TA):TA.cntL k (l.drop n) ≤ TA.cntL k l:=by
 have:=TA.cntL_append k (l.take n) (l.drop n);rw [List.take_append_drop] at this;omega
theorem aQ6 (l:List TA) (n m:Nat):TA.erL ((l.take n).drop m)=((TA.erL l).take n).drop m:=by
 simp [TA.erL_map,List.map_drop,List.map_take]
theorem aLo {t:TypeId} {x:Operand} {lo hi:Option Operand} (ho:o.op = .slice t x lo hi none) (h:aFw E C.N o.dst t x lo hi σ=some σ') (H:SOk C σ a w) (hK:∀ a' w',SOk C σ' a' w'→K a' w'):o.wp E.P a w K Q:=by
 unfold aFw at h;obtain ⟨s,Z,h1,h2,h3⟩:=id H;subst h1;split at h
 ·rename_i hk;have hu:E.P.underlying t=some .string:=fM hk;split at h
  case h_2=>cases h
  rename_i z hx;obtain ⟨l,hl,h⟩:=Option.bind_eq_some_iff.1 h;obtain ⟨n,hn,h⟩:=Option.bind_eq_some_iff.1 h;split at h
  case isFalse=>cases h
  rename_i hb;obtain ⟨v1,_⟩:=nM h3 hx;refine bP (v:=.string (z.extract l n)) (w':=w) ?_ (hK _ _ (H.putS h (by simp [TA.OneCell])))
  have:=aB6 (sl:=false) (P:=E.P) (w:=w) (cap:=z.size) (aGy h3 hl) (aGy h3 hn) hb.1 hb.2;simp [execOp,ho,v1,Instr.sliceAt,Instr.slice,run_underlying hu,this]
 ·rename_i e hk;have hu:E.P.underlying t=some (.slice e):=fM hk;obtain ⟨ti,hti,h⟩:=Option.bind_eq_some_iff.1 h;obtain ⟨⟨ow,sz,es,σ2⟩,hr,h⟩:=Option.bind_eq_some_iff.1 h;obtain ⟨l,hl,h⟩:=Option.bind_eq_some_iff.1 h;obtain ⟨n,hn,h⟩:=Option.bind_eq_some_iff.1 h;split at h
  case isFalse=>cases h
  rename_i hb;obtain ⟨rfl,hb1,hb2⟩:=hb;have ok:=E.ok e ti hti;obtain ⟨s',xA,esA,r1,r2,r3,r4,r5,r6,r7,r8,r9,r10⟩:=xF h3 hr;have hlen:esA.length=es.length:=by rw [← r6,TA.er_len]
  have hbl:=aGy h3 hl;have hbh:=aGy h3 hn;subst r1;simp only at hb1 hb2 h;rcases r10 with ⟨A0,rfl,rfl⟩ | ⟨b,off,cap,rfl⟩
  ·simp only [List.length_nil] at hlen;have hn0:n=0:=by omega
   have hl0:l=0:=by omega
   subst hn0;subst hl0;have hes:es=[]:=List.length_eq_zero_iff.1 hlen.symm;subst hes;refine bP (v:=.slice A0 0 0) (w':=w) ?_ (hK _ _ ?_)
   ·have:=aB6 (sl:=true) (P:=E.P) (w:=w) (len:=0) (cap:=0) hbl hbh hb1 (Nat.le_refl _);simp [execOp,ho,r4,TA.val,TA.val1,Instr.sliceAt,Instr.slice,run_underlying hu,this,ok.run_sizeOf w]
   refine SOk.put? (s:=⟨s'.tm,s'.bx,[.nl ow ti.size A0]⟩) (r3.drop (fun k=>by simp [TA.cntL,TA.cnt]) (by simp only [TA.HoldsL];exact ⟨r5,trivial⟩)) (by rfl) h (xA:=.t (.nl ow ti.size A0)) (by simp [AVA.er,TA.er]) ⟨rfl,r5⟩ (fun k=>by simp [AVA.cnt_t,TA.cntL,TA.cnt])
  simp only [TA.Holds] at r5;obtain ⟨m1,m2,m3,m4,m5⟩:=r5;rw [← hlen] at hb2;have hsub:((esA.take n).drop l).length=n - l:=by simp;omega
  have hnewH:(TA.sl ow ti.size b (if cap=l then off else off + l * ti.size) (cap - l) ((esA.take n).drop l)).Holds Z w.heap:=by
   simp only [TA.Holds];refine ⟨?_,by omega,fun ho=>⟨(m3 ho).1,fun k=>?_⟩,?_,fun e he=>m5 e (List.mem_of_mem_take (List.mem_of_mem_drop he))⟩
   ·obtain ⟨c,ety,fr,q1,q2,q3⟩:=m1;refine ⟨c,ety,fr,q1,fun ho=>⟨?_,(q2 ho).2⟩,fun j u hj=>?_⟩
    ·have:=(q2 ho).1;split
     ·rename_i hcl;subst hcl;simp;omega
     rw [Nat.sub_mul];have:l * ti.size ≤ cap * ti.size:=Nat.mul_le_mul_right _ (by omega)
     omega
    split
    ·rename_i hcl;have:(esA.take n).drop l=[]:=List.length_eq_zero_iff.1 (by omega)
     rw [this] at hj;simp [TA.vals] at hj
    have:=q3 _ u (aO7 m5 hb1 hb2 hj);rwa [Nat.add_assoc]
   ·have:=(m3 ho).2 k;have h5:=aIs k n esA;have h6:=aE9 k l (esA.take n);omega
   exact TA.holdsL_iff.2 fun t ht=>TA.holdsL_iff.1 m4 t (List.mem_of_mem_take (List.mem_of_mem_drop ht))
  refine bP (v:=.slice (some ⟨b,if cap=l then off else off + l * ti.size,none⟩) (n - l) (cap - l)) (w':=w) ?_ (hK _ _ ?_)
  ·have:=aB6 (sl:=true) (P:=E.P) (w:=w) (len:=es.length) (cap:=cap) hbl hbh hb1 (by omega)
   rw [← hlen] at this;simp only [execOp,ho,r4,TA.val,TA.val1,Instr.sliceAt,Instr.slice,Sem.run_bind,run_underlying hu,Result.andThen_ok,this,ok.run_sizeOf w,Sem.run_pure];by_cases hcl:cap=l
   ·subst hcl;simp [this,ok.run_sizeOf w]
   simp [hcl,iI,this,ok.run_sizeOf w]
  refine SOk.put? (s:=⟨s'.tm,s'.bx,[.sl ow ti.size b (if cap=l then off else off + l * ti.size) (cap - l) ((esA.take n).drop l)]⟩) (r3.drop (fun k=>?_) (by simp only [TA.HoldsL];exact ⟨hnewH,trivial⟩)) (by rfl) h (xA:=.t (.sl ow ti.size b (if cap=l then off else off + l * ti.size) (cap - l) ((esA.take n).drop l))) ?_ ⟨?_,hnewH⟩ (fun k=>by simp [AVA.cnt_t,TA.cntL])
  ·rw [r2];simp only [TA.cntL,TA.cnt];have h5:=aIs k n esA;have h6:=aE9 k l (esA.take n);omega
  ·simp only [AVA.er,TA.er,aQ6,r6]
  simp [TA.val,TA.val1,hsub]
 cases h
end Go.OM
