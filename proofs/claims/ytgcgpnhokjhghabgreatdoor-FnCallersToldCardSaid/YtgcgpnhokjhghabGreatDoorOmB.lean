import Derived.Test.YtgcgpnhokjhghabGreatDoorOmA
import Derived.Laws.BytesString
import Derived.Laws.Cells
import Derived.Tactics
import Derived.Deep.LoopGhost
import Derived.IntWalk
import Derived.Deep.Slices
import Derived.ChangeArms
import Derived.Below
import Derived.Carry
import Derived.WideKeyArgs
import Derived.ChangeSame
import Derived.RowKit
import Derived.Orders
import Derived.Sort.Grow
import Derived.Deep.Draws
set_option linter.unusedVariables false
set_option linter.unusedSimpArgs false
set_option linter.unusedVariables false
set_option linter.unusedSimpArgs false
namespace Go.OM
variable {C:Ctx} {Z:Nat→Prop} {s:StA} {a:Act} {w w':World} {E:Env} {o:Oper} {σ σ':St} {K:Act→World→Prop} {Q:Exit→Act→World→Prop}
theorem SRel.reslot {n:Nat} {x y:AVA} {hd':List TA} (H:SRel C Z s a w) (hx:look s.tm n=some x) (hxt:∀ t,x ≠ .t t) (hyt:∀ t,y ≠ .t t) (hy:ValOk ⟨Go.OM.put s.tm n y,s.bx,hd'⟩ Z w.heap y (a.tmps.getD n undef))
  (hc:∀ k,y.cnt k + TA.cntL k hd' ≤ x.cnt k + TA.cntL k s.hd) (hh:TA.HoldsL Z w.heap hd'):SRel C Z ⟨Go.OM.put s.tm n y,s.bx,hd'⟩ a w:=by
 have hcnt:∀ k,(StA.mk (Go.OM.put s.tm n y) s.bx hd').cnt k ≤ s.cnt k:=by
  intro k;have:=eF (AVA.cnt k) (x:=y) hx;have:=hc k;simp only [StA.cnt];omega
 have hroots:∀ r,(StA.mk (Go.OM.put s.tm n y) s.bx hd').rootCells r=s.rootCells r:=by
  intro r;cases r with
  | box m=>rfl
  | slot m =>
   simp only [StA.rootCells,iC];by_cases hm:m=n
   ·subst hm;rw [if_pos rfl,hx];cases x<;>first | (exact absurd rfl (hxt _)) | (cases y<;>first | (exact absurd rfl (hyt _)) | rfl)
   rw [if_neg hm]
 exact {
  defers:=H.defers
  size:=H.size
  tm:=fun m z hz=>by
   rw [iC] at hz;by_cases hm:m=n
   ·rw [if_pos hm] at hz;injection hz with hz
    subst hz;subst hm;exact hy
   rw [if_neg hm] at hz;exact (H.tm m z hz).keep (fun _ hz=>hz) (fun _ _=>rfl) (fun r _ _ _ _ _ _ _ _ _ _=>hroots r) (fun r o p e base cs ad h1 h2=>⟨base,cs,(hroots r).trans h1,h2⟩)
  bx:=H.bx
  uniq:=fun k=>Nat.le_trans (hcnt k) (H.uniq k)
  notZ:=fun k hk=>H.notZ k (Nat.lt_of_lt_of_le hk (hcnt k))
  lt:=fun k hk=>H.lt k (Nat.lt_of_lt_of_le hk (hcnt k))
  zlt:=H.zlt
  own:=fun k hk=>H.own k (Nat.lt_of_lt_of_le hk (hcnt k))
  z0:=H.z0
  zext:=H.zext
  pk:=H.pk
  os:=H.os
  tape:=H.tape
  output:=H.output
  grown:=H.grown
  kept:=H.kept
  part:=H.part
  pbx:=H.pbx
  pbo:=fun q hq m z hz=>by
   rw [iC] at hz;by_cases hm:m=n
   ·rw [if_pos hm] at hz;injection hz with hz
    subst hz;have h1:=H.pbo q hq n _ hx;have h2:=H.pbh q hq;have h3:=hc q.1;omega
   rw [if_neg hm] at hz;exact H.pbo q hq m z hz
  pbi:=H.pbi
  hand:=hh
  pbh:=fun q hq=>by
   have h1:=H.pbo q hq n _ hx;have h2:=H.pbh q hq;have h3:=hc q.1;show TA.cntL q.1 hd'=0;omega }
def T.buryV:T→T
 | .agg cs=>.agg (cs.map T.bury)
 | x=>x.bury
def TA.buryV:TA→TA
 | .agg cs=>.agg (cs.map TA.bury)
 | x=>x.bury
theorem TA.er_buryV (x:TA):x.buryV.er=x.er.buryV:=by
 cases x with
 | agg cs=>simp only [TA.buryV,TA.er,T.buryV,rC]
 | v y=>exact TA.er_bury (.v y)
 | nl o s A=>exact TA.er_bury (.nl o s A)
 | sl o s b off cap es=>exact TA.er_bury (.sl o s b off cap es)
 | dead y=>exact TA.er_bury (.dead y)
 | clo f cs=>exact TA.er_bury (.clo f cs)
 | pt b off cs=>exact TA.er_bury (.pt b off cs)
theorem TA.buryV_facts {h:Array Obj} {x:TA} (hx:x.Holds Z h):x.buryV.val=x.val∧x.buryV.Holds Z h∧∀ k,x.buryV.cnt k=0:=by
 cases x with
 | agg cs =>
  simp only [TA.Holds] at hx;obtain ⟨b1,b2,b3,b4⟩:=iM hx.1 hx.2;refine ⟨by simp only [TA.buryV,TA.val,b3],by simp only [TA.buryV,TA.Holds];exact ⟨b1,b2⟩,fun k=>by simp only [TA.buryV,TA.cnt];exact b4 k⟩
 | v y=>exact ⟨by simp [TA.buryV,TA.bury,TA.er,T.hasOwn,TA.val],by simpa [TA.buryV,TA.bury,TA.er,T.hasOwn] using hx,fun k=>TA.bury_cnt k _⟩
 | nl o s A=>exact ⟨by simp only [TA.buryV,TA.bury];split<;>rfl,TA.bury_holds rfl hx,fun k=>TA.bury_cnt k _⟩
 | sl o s b off cap es=>exact ⟨by simp only [TA.buryV,TA.bury];split<;>rfl,TA.bury_holds rfl hx,fun k=>TA.bury_cnt k _⟩
 | pt b off cs=>exact ⟨by simp [TA.buryV,TA.bury,TA.er,T.hasOwn,TA.val],by simpa [TA.buryV,TA.bury,TA.er,T.hasOwn] using hx,fun k=>TA.bury_cnt k _⟩
 | clo f cs=>exact ⟨by simp [TA.buryV,TA.bury,TA.er,T.hasOwn,TA.val],by simpa [TA.buryV,TA.bury,TA.er,T.hasOwn] using hx,fun k=>TA.bury_cnt k _⟩
 | dead y=>exact ⟨by simp [TA.buryV,TA.bury,TA.er,T.hasOwn,TA.val],by simpa [TA.buryV,TA.bury,TA.er,T.hasOwn] using hx,fun k=>TA.bury_cnt k _⟩
def zE (N:Nat) (dst:Option Nat) (x:Operand) (i:Nat) (σ:St):Option St:=match x with
 | .tmp n=>(match σ.get n with
  | .tup xs=>(xs[i]?).bind fun y=>if y.hasOwn=true then St.put? ⟨put σ.tm n (.tup (xs.set i y.buryV)),σ.bx⟩ N dst (.t y) else σ.put? N dst (.t y)
  | _=>none)
 | _=>none
theorem oQ:∀ (l:List TA) (i:Nat) (x y:TA) (k:Nat),l[i]? = some x→TA.cntL k (l.set i y) + x.cnt k=TA.cntL k l + y.cnt k
 | [],i,x,y,k,h=>by simp at h
 | t :: ts,0,x,y,k,h=>by simp only [List.getElem?_cons_zero,Option.some.injEq] at h;subst h;simp only [List.set_cons_zero,TA.cntL];omega
 | t :: ts,i + 1,x,y,k,h=>by
  simp only [List.getElem?_cons_succ] at h;have:=oQ ts i x y k h;simp only [List.set_cons_succ,TA.cntL];omega
theorem aHi {x:Operand} {i:Nat} (ho:o.op = .extract x i) (h:zE C.N o.dst x i σ=some σ') (H:SOk C σ a w) (hK:∀ a' w',SOk C σ' a' w'→K a' w'):o.wp E.P a w K Q:=by
 unfold zE at h;split at h
 case h_2=>cases h
 rename_i n;obtain ⟨s,Z,h1,h2,h3⟩:=id H;subst h1;split at h
 case h_2=>cases h
 rename_i xs hx;simp only [St.get,nF] at hx;cases hlk:look s.tm n with
 | none=>rw [hlk] at hx;simp at hx
 | some z =>
  rw [hlk] at hx;simp only [Option.map_some,Option.getD_some] at hx;obtain ⟨zs,rfl,rfl⟩:=aOa hx;obtain ⟨y,hy,h⟩:=Option.bind_eq_some_iff.1 h;rw [TA.erL_map,List.getElem?_map] at hy;obtain ⟨yA,hyA,rfl⟩:=Option.map_eq_some_iff.1 hy;obtain ⟨v1,v2⟩:=h3.tm n _ hlk;have hev:a.eval (.tmp n)=a.tmps.getD n undef:=rfl;have hyH:=TA.holdsL_get v2 hyA;refine bP (v:=yA.val) (w':=w) ?_ (hK _ _ ?_)
  ·have:((zs.map TA.val).toArray)[i]? = some yA.val:=by simp [hyA]
   simp [execOp,ho,hev,v1,Instr.extract,hyA]
  split at h
  ·obtain ⟨b1,b2,b3⟩:=TA.buryV_facts hyH;have hset:(zs.set i yA.buryV).map TA.val=zs.map TA.val:=by
    rw [List.map_set,b1];apply List.ext_getElem?;intro j;rw [List.getElem?_set];split
    ·rename_i hij;subst hij;split
     ·rw [List.getElem?_map,hyA];rfl
     rename_i hlt;rw [List.length_map] at hlt;exact absurd (List.getElem?_eq_some_iff.1 hyA).1 hlt
    rfl
   have hcs:=fun k=>oQ zs i yA yA.buryV k hyA;have hre:=h3.reslot (y:=.tup (zs.set i yA.buryV)) (hd':=[yA]) hlk (fun t e=>by cases e) (fun t e=>by cases e)
    ⟨by rw [hset];exact v1,TA.holdsL_iff.2 fun t ht=>by
     rcases List.mem_or_eq_of_mem_set ht with hm | rfl
     ·exact TA.holdsL_iff.1 v2 t hm
     exact b2⟩ (fun k=>by have:=hcs k;have:=b3 k;simp only [AVA.cnt,TA.cntL];omega) (by simp only [TA.HoldsL];exact ⟨hyH,trivial⟩)
   refine SOk.put? hre ?_ h (xA:=.t yA) rfl ⟨rfl,hyH⟩ (fun k=>by simp [AVA.cnt_t,TA.cntL])
   have e:(AVA.tup (zs.set i yA.buryV)).er = .tup ((TA.erL zs).set i yA.er.buryV):=by simp [AVA.er,TA.erL_map,List.map_set,TA.er_buryV]
   simp only [StA.er,pH,e]
  rename_i hno;exact SOk.put0 h3 rfl h (xA:=.t yA) rfl ⟨rfl,hyH⟩ (fun k=>TA.cnt_of_noOwn k yA (by simpa using hno))
def aN9 (N:Nat) (dst:Option Nat) (fn:Fn) (σ:St):Option St:=σ.put? N dst (.t (.v (.func fn #[] #[])))
theorem aN8 {fn:Fn} {fi ca:Array Operand} (hf:fi = #[]) (hc:ca = #[]) (ho:o.op = .makeFunc fn fi ca) (h:aN9 C.N o.dst fn σ=some σ') (H:SOk C σ a w) (hK:∀ a' w',SOk C σ' a' w'→K a' w'):o.wp E.P a w K Q:=by
 refine bP (v:=.func fn #[] #[]) (w':=w) ?_ (hK _ _ (H.putS h (by simp [TA.OneCell])))
 subst hf;subst hc;simp [execOp,ho,Instr.makeFunc]
def Cap.pts:List Cap→Option (List T)
 | []=>some []
 | .ro (.pt cs) :: l=>(Cap.pts l).map fun ts=>.pt cs :: ts
 | _=>none
def CapA.pts:List CapA→Option (List TA)
 | []=>some []
 | .ro (.pt b off cs) :: l=>(CapA.pts l).map fun ts=>.pt b off cs :: ts
 | _=>none
def aM7 (f:Nat) (xs:List Cap):AV:=match Cap.pts xs with
 | some ts=>.t (.clo f ts)
 | none=>.clo f xs
def aA1 (f:Nat) (xs:List CapA):AVA:=match CapA.pts xs with
 | some ts=>.t (.clo f ts)
 | none=>.clo f xs
theorem aQq:∀ xs:List CapA,(CapA.pts xs).map TA.erL=Cap.pts (xs.map CapA.er)
 | []=>rfl
 | .bx n :: xs=>rfl
 | .ro x :: xs=>by
  cases x<;>simp only [CapA.pts,List.map_cons,CapA.er,TA.er,Cap.pts,Option.map_none]
  rw [← aQq xs];cases CapA.pts xs<;>rfl
theorem aL5 (f:Nat) (xs:List CapA):(aA1 f xs).er=aM7 f (xs.map CapA.er):=by
 unfold aA1 aM7;rw [← aQq xs];cases CapA.pts xs<;>rfl
theorem aQj {s:StA} {h:Array Obj}:∀ (xs:List CapA) (vs:List Value) (ts:List TA),CapA.pts xs=some ts→CapA.OkL s Z h xs vs→vs=ts.map TA.capV∧TA.HoldsL Z h ts∧(∀ k,TA.cntL k ts=0)∧ts.all TA.capOk=true
 | [],[],ts,h1,_=>by
  simp only [CapA.pts,Option.some.injEq] at h1;subst h1;exact ⟨rfl,by simp [TA.HoldsL],fun k=>rfl,rfl⟩
 | [],_ :: _,ts,_,h2=>h2.elim
 | .bx n :: xs,vs,ts,h1,_=>by simp [CapA.pts] at h1
 | .ro x :: xs,[],ts,_,h2=>h2.elim
 | .ro x :: xs,v :: vs,ts,h1,h2=>by
  cases x with
  | pt b off cs =>
   simp only [CapA.pts] at h1;obtain ⟨us,hu,rfl⟩:=Option.map_eq_some_iff.1 h1;obtain ⟨g1,g2,g3,g4⟩:=aQj xs vs us hu h2.2;obtain ⟨q1,q2,q3⟩:=h2.1;refine ⟨by rw [List.map_cons,← g1,q1];rfl,?_,fun k=>?_,?_⟩
   ·simp only [TA.HoldsL];exact ⟨q2,g2⟩
   ·simp only [TA.cntL,g3 k,TA.cnt]
   rw [List.all_cons,g4];rfl
  | _=>simp [CapA.pts] at h1
theorem aKs {s:StA} {h:Array Obj} {f:Nat} {xs:List CapA} {v:Value} {vs:List Value} (h1:v = .func (.func f) #[] vs.toArray) (h2:CapA.OkL s Z h xs vs):ValOk s Z h (aA1 f xs) v:=by
 unfold aA1;split
 ·rename_i ts ht;obtain ⟨g1,g2,g3,g4⟩:=aQj xs vs ts ht h2;refine ⟨by rw [h1,g1];rfl,?_⟩
  simp only [TA.Holds];exact ⟨g2,g3,g4⟩
 exact ⟨vs,h1,h2⟩
def St.capsR (σ:St):List Operand→Option (List Cap)
 | []=>some []
 | x :: xs=>(match σ.op x with
  | .ref (.box n) 0 []=>some (Cap.bx n)
  | .rop cs 0=>some (Cap.ro (.pt cs))
  | _=>none).bind fun c=>(σ.capsR xs).map fun cs=>c :: cs
theorem aLd {s:StA} (H:SRel C Z s a w):∀ (ca:List Operand) (cs:List Cap),s.er.capsR ca=some cs→∃ xs:List CapA,xs.map CapA.er=cs∧CapA.OkL s Z w.heap xs (ca.map a.eval)
 | [],cs,h=>by
  simp only [St.capsR,Option.some.injEq] at h;subst h;exact ⟨[],rfl,trivial⟩
 | x :: ca,cs,h=>by
  simp only [St.capsR] at h;obtain ⟨c,hc,h⟩:=Option.bind_eq_some_iff.1 h;obtain ⟨cs',hcs,rfl⟩:=Option.map_eq_some_iff.1 h;obtain ⟨xs,h1,h2⟩:=aLd H ca cs' hcs;obtain ⟨xA,e1,e2⟩:=opA H x;split at hc
  ·rename_i n hx;injection hc with hc
   subst hc;rw [hx] at e1;rw [uH e1] at e2;exact ⟨.bx n :: xs,by simp [CapA.er,h1],e2,h2⟩
  ·rename_i cs1 hx;injection hc with hc
   subst hc;rw [hx] at e1;obtain ⟨b,off,csA,rfl,rfl⟩:=aFj e1;obtain ⟨g1,g2,g3,g4,g5,g6⟩:=e2;refine ⟨.ro (.pt b off csA) :: xs,by simp [CapA.er,TA.er,h1],⟨by rw [g1];rfl,?_,fun k=>rfl⟩,h2⟩
   simp only [TA.Holds];exact ⟨g2,g3,g4,g5,List.all_eq_true.2 g6⟩
  cases hc
def aPe (N:Nat) (dst:Option Nat) (f:FuncId) (ca:List Operand) (σ:St):Option St:=(σ.capsR ca).bind fun cs=>σ.put? N dst (aM7 f cs)
theorem aPd {f:FuncId} {fi ca:Array Operand} (hf:fi = #[]) (ho:o.op = .makeFunc (.func f) fi ca) (h:aPe C.N o.dst f ca.toList σ=some σ') (H:SOk C σ a w) (hK:∀ a' w',SOk C σ' a' w'→K a' w'):o.wp E.P a w K Q:=by
 obtain ⟨s,Z,h1,h2,h3⟩:=id H;subst h1;unfold aPe at h;obtain ⟨cs,hcs,h⟩:=Option.bind_eq_some_iff.1 h;obtain ⟨xs,g1,g2⟩:=aLd h3 _ _ hcs;refine bP (v:=.func (.func f) #[] (ca.map a.eval)) (w':=w) ?_ (hK _ _ (SOk.put0 h3 rfl h (xA:=aA1 f xs) (by rw [aL5,g1]) (aKs (vs:=ca.toList.map a.eval) ?_ g2) (fun k=>by unfold aA1;split<;>rfl)))
 ·subst hf;simp [execOp,ho,Instr.makeFunc]
 congr 1
 apply Array.toList_inj.1;simp
def aKa (N:Nat) (dst:Option Nat) (x:Operand) (σ:St):Option St:=match σ.op x with
 | .ref r p q=>σ.put? N dst (.ref r p q)
 | .rop cs p=>σ.put? N dst (.rop cs p)
 | .t (.v (.func (.func f) i c))=>σ.put? N dst (.t (.v (.func (.func f) i c)))
 | _=>none
theorem aN5 {x:Operand} (ho:o.op = .nilCheck x) (h:aKa C.N o.dst x σ=some σ') (H:SOk C σ a w) (hK:∀ a' w',SOk C σ' a' w'→K a' w'):o.wp E.P a w K Q:=by
 unfold aKa at h;obtain ⟨s,Z,h1,h2,h3⟩:=id H;subst h1;obtain ⟨xA,e1,e2⟩:=opA h3 x;split at h
 ·rename_i r p q hy;rw [hy] at e1;rw [uH e1] at e2;obtain ⟨base,cs,ad,g1,g2,g3⟩:=id e2;refine bP (v:=a.eval x) (w':=w) ?_ (hK _ _ (SOk.put0 h3 rfl h (xA:=.ref r p q) rfl e2 (fun k=>rfl)));simp [execOp,ho,g3]
 ·rename_i cs p hy;rw [hy] at e1;obtain ⟨b,off,csA,rfl,rfl⟩:=aFj e1;refine bP (v:=a.eval x) (w':=w) ?_ (hK _ _ (SOk.put0 h3 rfl h (xA:=.rop b off csA p) rfl e2 (fun k=>rfl)));simp [execOp,ho,e2.1]
 ·rename_i f i c hy;rw [hy] at e1;obtain ⟨tA,rfl,e3⟩:=aE3 e1;rw [er_v e3] at e2;refine bP (v:=a.eval x) (w':=w) ?_ (hK _ _ (SOk.put0 h3 rfl h (xA:=.t (.v (.func (.func f) i c))) rfl e2 (fun k=>rfl)));simp [execOp,ho,e2.1,TA.val,TA.val1]
 cases h
def aMp (offs:List (Nat × Nat)):List T→List (Nat × T)→Option (List T)
 | cs,[]=>some cs
 | cs,(i,y) :: ys=>match offs[i]? with
  | some (off,sz)=>if y.cells.length=sz∧off + sz ≤ cs.length then aMp offs (T.setP cs off [] y.cells) ys else none
  | none=>none
def aG1 (E:Env) (N:Nat) (dst:Option Nat) (t:TypeId) (ps:List (Nat × Operand)) (σ:St):Option St:=(E.ty t).bind fun ti=>match ti.kind with
 | .struct offs=>(σ.takeAll N ps).bind fun y=>(aMp offs (TA.erL ti.zero) y.1).bind fun cs=>y.2.put? N dst (.t (.agg cs))
 | _=>none
theorem aE0 {h:Array Obj} {offs:List (Nat × Nat)} {place:Nat→Option (Nat × Nat)} (hp:∀ i d,offs[i]? = some d→place i=some d):∀ (ys:List (Nat × TA)) (cs:List TA) (cs':List T) (c:Array Value) (vs:List (Nat × Value)),vs=ys.map (fun p=>(p.1,TA.val p.2))→TA.HoldsL Z h (ys.map Prod.snd)→TA.HoldsL Z h cs→(∀ x ∈ cs,x.isCell=true)→c=(TA.vals cs).toArray→aMp offs (TA.erL cs) (ys.map fun p=>(p.1,TA.er p.2))=some cs' →
  ∃ csA,TA.erL csA=cs'∧Instr.fill place c vs=some (TA.vals csA).toArray∧TA.HoldsL Z h csA∧(∀ x ∈ csA,x.isCell=true)∧∀ k,TA.cntL k csA ≤ TA.cntL k cs + TA.cntL k (ys.map Prod.snd)
 | [],cs,cs',c,vs,hv,_,h2,h3,hc,hf=>by
  subst hv;subst hc;simp only [List.map_nil,aMp,Option.some.injEq] at hf;exact ⟨cs,hf,rfl,h2,h3,fun k=>by simp [TA.cntL]⟩
 | (i,y) :: ys,cs,cs',c,vs,hv,h1,h2,h3,hc,hf=>by
  subst hv;subst hc;simp only [List.map_cons,aMp] at hf;split at hf
  case h_2=>cases hf
  rename_i off sz hoff;split at hf
  case isFalse=>cases hf
  rename_i hb;obtain ⟨hb1,hb2⟩:=hb;simp only [List.map_cons,TA.HoldsL] at h1;rw [TA.er_cells,TA.er_len] at hb1;rw [TA.er_len] at hb2;have hcell:=xE h1.1;have hsz:y.val.cells.size=sz:=by
   have:=congrArg List.length hcell;rw [TA.vals_length,hb1] at this;simpa using this
  have hnew:TA.erL (cs.take off ++ y.cells ++ cs.drop (off + y.cells.length))=T.setP (TA.erL cs) off [] y.er.cells:=by
   simp only [T.setP,TA.erL_map,List.map_append,List.map_take,List.map_drop,TA.er_cells,List.length_map]
  rw [← hnew] at hf;have hset:wrL (TA.vals cs).toArray off y.val.cells.toList=(TA.vals (cs.take off ++ y.cells ++ cs.drop (off + y.cells.length))).toArray:=by
   apply Array.ext_getElem?;intro j;have hl:off + y.val.cells.toList.length ≤ (TA.vals cs).toArray.size:=by simp [TA.vals_length,hsz];exact hb2
   rw [vQ _ _ _ _ hl,hcell,TA.vals_length,hb1];simp only [TA.vals_append,List.getElem?_toArray,List.append_assoc];have ht:(TA.vals (cs.take off)).length=off:=by rw [TA.vals_length,List.length_take];omega
   by_cases hj1:j < off
   ·rw [if_neg (by omega),List.getElem?_append_left (by omega)]
    simp only [TA.vals,List.getElem?_map,List.getElem?_take];rw [if_pos hj1]
   rw [List.getElem?_append_right (by omega),ht]
   by_cases hj2:j < off + sz
   ·rw [if_pos ⟨by omega,hj2⟩,List.getElem?_append_left (by rw [TA.vals_length,hb1];omega)]
   rw [if_neg (by omega),List.getElem?_append_right (by rw [TA.vals_length,hb1];omega),TA.vals_length,hb1]
   simp only [TA.vals,List.getElem?_map,List.getElem?_drop]
   congr 2
   omega
  have hholds:TA.HoldsL Z h (cs.take off ++ y.cells ++ cs.drop (off + y.cells.length)) :=
   holdsL_append.2 ⟨holdsL_append.2 ⟨TA.holdsL_iff.2 fun t ht=>TA.holdsL_iff.1 h2 t (List.mem_of_mem_take ht),TA.holds_cells h1.1⟩,TA.holdsL_iff.2 fun t ht=>TA.holdsL_iff.1 h2 t (List.mem_of_mem_drop ht)⟩
  have hcells:∀ x ∈ cs.take off ++ y.cells ++ cs.drop (off + y.cells.length),x.isCell=true:=by
   intro x hx;simp only [List.mem_append] at hx;rcases hx with (hx | hx) | hx
   ·exact h3 x (List.mem_of_mem_take hx)
   ·exact TA.isCell_mem_cells h1.1 x hx
   exact h3 x (List.mem_of_mem_drop hx)
  obtain ⟨csA,r1,r2,r3,r4,r5⟩:=aE0 hp ys _ _ _ _ rfl h1.2 hholds hcells rfl hf;refine ⟨csA,r1,?_,r3,r4,fun k=>?_⟩
  ·rw [List.map_cons,aIk (hp i _ hoff) hsz (by simp [TA.vals_length];exact hb2),hset]
   exact r2
  have:=r5 k;have e1:TA.cntL k (cs.take off) + TA.cntL k (cs.drop (off + y.cells.length)) ≤ TA.cntL k cs:=by
   have e2:=TA.cntL_append k (cs.take off) (cs.drop off);rw [List.take_append_drop] at e2;have e3:=aE9 k y.cells.length (cs.drop off);rw [List.drop_drop] at e3;omega
  simp only [TA.cntL_append,TA.cntL_cells] at this;simp only [List.map_cons,TA.cntL];omega
theorem aF1 {P:Program}:∀ (fs:List Field) (offs:List (Nat × Nat)),(fs.mapM fun f=>match P.info? f.type with
  | some i=>if i.size=0 then none else some (f.offset,i.size)
  | none=>none)=some offs→(fs.mapM (fun f=>do pure (f.offset,← sizeOf f.type)):Sem (List (Nat × Nat))).run P w = .ok offs w
 | [],offs,h=>by
  simp only [List.mapM_nil] at h;injection h with h
  subst h;simp
 | f :: fs,offs,h=>by
  rw [List.mapM_cons] at h;obtain ⟨d,hd,h⟩:=Option.bind_eq_some_iff.1 h;obtain ⟨ds,hds,h⟩:=Option.bind_eq_some_iff.1 h;injection h with h
  subst h;have ih:=aF1 fs ds hds;split at hd
  case h_2=>cases hd
  rename_i i hi;split at hd
  ·cases hd
  injection hd with hd
  subst hd;rw [List.mapM_cons];have hs:(sizeOf f.type).run P w = .ok i.size w:=by simp [sizeOf,typeInfo,hi]
  simp only [Sem.run_bind,hs,Result.andThen_ok,Sem.run_pure,ih]
theorem aLv {t:TypeId} {ps:Array (Nat × Operand)} (ho:o.op = .build t ps) (h:aG1 E C.N o.dst t ps.toList σ=some σ') (H:SOk C σ a w) (hK:∀ a' w',SOk C σ' a' w'→K a' w'):o.wp E.P a w K Q:=by
 unfold aG1 at h;obtain ⟨ti,hti,h⟩:=Option.bind_eq_some_iff.1 h;have ok:=E.ok t ti hti;split at h
 case h_2=>cases h
 rename_i offs hk;obtain ⟨⟨ys,σ1⟩,hta,h⟩:=Option.bind_eq_some_iff.1 h;obtain ⟨cs',hcs,h⟩:=Option.bind_eq_some_iff.1 h;obtain ⟨s0,Z,h1,h2,h3⟩:=id H;subst h1;obtain ⟨s,ysA,r1,r2,r3,r4,r5,r6⟩:=aAx _ _ _ _ h3 hta;subst r2;subst r1;have hkk:=ok.2.1;rw [hk] at hkk;simp only [aJ1,bH] at hkk;split at hkk
 case h_2=>cases hkk
 rename_i fs hu;have hstr:ti.kind.isStruct=true:=by rw [hk];rfl
 have hvs:(ps.map fun p=>(p.1,a.eval p.2)).toList=ysA.map (fun p=>(p.1,TA.val p.2)):=by rw [← r6];simp
 obtain ⟨z1,z2,z3,z4,z5,z6⟩:=yQ (h:=w.heap) ok (fun hn=>by simp [TI.kk,hstr] at hn)
 have hplaces:∃ places:Array (Nat × Nat),(fs.mapM (fun f=>do pure (f.offset,← sizeOf f.type)):Sem (Array (Nat × Nat))).run E.P w = .ok places w∧places.toList=offs:=by
  refine ⟨offs.toArray,?_,by simp⟩
  have:=aF1 (w:=w) fs.toList offs hkk;rw [show fs=fs.toList.toArray by simp,List.mapM_toArray]
  simp only [Sem.run_map,this]
  rfl
 obtain ⟨places,hp1,hp2⟩:=hplaces;obtain ⟨csA,f1,f2,f3,f4,f5⟩:=aE0 (h:=w.heap) (offs:=offs) (place:=(places[·]?)) (fun i d hd=>by rw [← hp2] at hd;simpa using hd) ysA ti.zero cs' _ _ hvs r5 z5 z4 (zC ok) hcs
 subst f1;refine bP (v:=.agg (TA.vals csA).toArray) (w':=w) ?_ (hK _ _ ?_)
 ·simp only [execOp,ho,Instr.build,Sem.run_bind,ok.run_zero w,Result.andThen_ok,run_underlying hu,hp1,f2]
  rfl
 refine SOk.put? (s:=⟨s.tm,s.bx,[.agg csA]⟩) (r3.drop (fun k=>?_) (by simp only [TA.HoldsL,TA.Holds];exact ⟨⟨f3,f4⟩,trivial⟩)) (by rfl) h (xA:=.t (.agg csA)) (by simp [AVA.er,TA.er]) ⟨rfl,by simp only [TA.Holds];exact ⟨f3,f4⟩⟩ (fun k=>by simp [AVA.cnt_t,TA.cntL])
 rw [r4 k];have:=f5 k;have:=z6 k;simp only [TA.cntL,TA.cnt];omega
end Go.OM
namespace Go.OM
variable {C:Ctx} {Z Z':Nat→Prop} {s:StA} {a:Act} {w w':World} {E:Env} {o:Oper} {σ σ':St} {K:Act→World→Prop} {Q:Exit→Act→World→Prop}
theorem SRel.replaceHand {hd':List TA} (H:SRel C Z s a w) (g:w.heap.size ≤ w'.heap.size) (g1:w'.os=w.os) (g2:w'.tape=w.tape) (g3:w'.output=w.output)
  (hk:∀ k,k < w.heap.size→TA.cntL k s.hd=0→w'.heap[k]? = w.heap[k]?) (hz:∀ k,Z k→Z' k) (hzx:∀ k,Z' k→Z k ∨ w.heap.size ≤ k ∨ 0 < TA.cntL k s.hd) (hzl:∀ k,Z' k→k < w'.heap.size)
  (hh:TA.HoldsL Z' w'.heap hd') (hu:∀ k,TA.cntL k hd' ≤ 1) (hown:∀ k,0 < TA.cntL k hd'→(0 < TA.cntL k s.hd ∨ w.heap.size ≤ k)∧¬ Z' k):SRel C Z' ⟨s.tm,s.bx,hd'⟩ a w':=by
 have hs:∀ k,s.cnt k=tot (AVA.cnt k) s.tm + tot (BoxA.cnt k) s.bx + TA.cntL k s.hd:=fun k=>rfl;have hs':∀ k,(StA.mk s.tm s.bx hd').cnt k=tot (AVA.cnt k) s.tm + tot (BoxA.cnt k) s.bx + TA.cntL k hd':=fun k=>rfl;have hrest:∀ k,0 < tot (AVA.cnt k) s.tm + tot (BoxA.cnt k) s.bx→k < w.heap.size∧TA.cntL k s.hd=0∧¬ Z k∧TA.cntL k hd'=0:=by
  intro k h;have h1:=hs k;have h2:=H.uniq k;have h3:=H.lt k (by omega)
  refine ⟨h3,by omega,H.notZ k (by omega),?_⟩
  rcases Nat.eq_zero_or_pos (TA.cntL k hd') with h4 | h4
  ·exact h4
  rcases (hown k h4).1 with h5 | h5<;>omega
 have hsame:∀ k,(0 < tot (AVA.cnt k) s.tm + tot (BoxA.cnt k) s.bx ∨ Z k)→w'.heap[k]? = w.heap[k]?:=by
  intro k h;rcases h with h | h
  ·obtain ⟨h1,h2,_⟩:=hrest k h;exact hk k h1 h2
  refine hk k (H.zlt k h) ?_;rcases Nat.eq_zero_or_pos (TA.cntL k s.hd) with h4 | h4
  ·exact h4
  exact absurd h (H.notZ k (by have:=hs k;omega))
 have hcases:∀ k,0 < (StA.mk s.tm s.bx hd').cnt k→(0 < tot (AVA.cnt k) s.tm + tot (BoxA.cnt k) s.bx) ∨ 0 < TA.cntL k hd':=by
  intro k h;have:=hs' k;omega
 exact {
  defers:=H.defers
  size:=H.size
  tm:=fun n y hy=>(H.tm n y hy).keep hz (fun k hk2=>hsame k (by
    rcases hk2 with h | h
    ·left;have:AVA.cnt k y ≤ tot (AVA.cnt k) s.tm:=bT (AVA.cnt k) hy;omega
    exact .inr h)) (fun r _ _ _ _ _ _ _ _ _ _=>by cases r<;>rfl) (fun r o p e base cs ad h1 h2=>⟨base,cs,by cases r<;>exact h1,h2⟩)
  bx:=fun n y hy=>by
   obtain ⟨h1,h2,h3⟩:=H.bx n y hy;have hle:∀ k,y.cnt k ≤ tot (BoxA.cnt k) s.bx:=fun k=>bT (BoxA.cnt k) hy;refine ⟨h1.frame (hsame _ (.inl ?_)),TA.HoldsL.frame _ h2 hz (fun k hk2=>hsame k ?_),h3⟩
   ·have:=hle y.b;simp only [BoxA.cnt] at this;rw [if_pos trivial] at this;omega
   rcases hk2 with h | h
   ·left;have:=hle k;simp only [BoxA.cnt] at this;omega
   exact .inr h
  uniq:=fun k=>by
   rw [hs'];rcases Nat.eq_zero_or_pos (tot (AVA.cnt k) s.tm + tot (BoxA.cnt k) s.bx) with h | h
   ·have:=hu k;omega
   have h1:=hrest k h;have h2:=H.uniq k;have h3:=hs k;omega
  notZ:=fun k hk2=>by
   rcases hcases k hk2 with h | h
   ·obtain ⟨h1,h2,h3,_⟩:=hrest k h;intro hz2;rcases hzx k hz2 with h4 | h4 | h4
    ·exact h3 h4
    ·omega
    omega
   exact (hown k h).2
  lt:=fun k hk2=>by
   rcases hcases k hk2 with h | h
   ·have:=(hrest k h).1;omega
   exact TA.HoldsL.lt _ hh h
  zlt:=hzl
  own:=fun k hk2=>by
   rcases hcases k hk2 with h | h
   ·exact H.own k (by have:=hs k;omega)
   rcases (hown k h).1 with h1 | h1
   ·exact H.own k (by have:=hs k;omega)
   right;have:=H.grown;omega
  z0:=fun k h=>hz k (H.z0 k h)
  zext:=fun k h=>by
   rcases hzx k h with h1 | h1 | h1
   ·exact H.zext k h1
   ·right;left;have:=H.grown;omega
   rcases H.own k (by have:=hs k;omega) with h2 | h2
   ·right;right;refine ⟨h2,fun x hx e=>?_⟩;have:=H.pbh x hx;rw [e] at this;omega
   exact .inr (.inl h2)
  pk:=H.pk
  os:=g1.trans H.os
  tape:=g2.trans H.tape
  output:=g3.trans H.output
  grown:=Nat.le_trans H.grown g
  kept:=fun k h1 h2=>by
   have h3:=H.grown;refine (hk k (by omega) ?_).trans (H.kept k h1 h2)
   rcases Nat.eq_zero_or_pos (TA.cntL k s.hd) with h4 | h4
   ·exact h4
   rcases H.own k (by have:=hs k;omega) with h5 | h5
   ·exact absurd h5 h2
   omega
  part:=fun x hx=>by
   obtain ⟨c,c',e,fr,q1,q2,q3⟩:=H.part x hx;exact ⟨c,c',e,fr,q1,(hk _ (Array.getElem?_eq_some_iff.1 q2).1 (H.pbh x hx)).trans q2,q3⟩
  pbx:=H.pbx
  pbo:=H.pbo
  pbi:=H.pbi
  hand:=hh
  pbh:=fun x hx=>by
   show TA.cntL x.1 hd'=0;rcases Nat.eq_zero_or_pos (TA.cntL x.1 hd') with h4 | h4
   ·exact h4
   obtain ⟨c,c',e,fr,q1,q2,q3⟩:=H.part x hx;have h6:=(Array.getElem?_eq_some_iff.1 q2).1;have h7:=H.pbh x hx;rcases (hown _ h4).1 with h5 | h5<;>omega }
theorem SRel.freezeHand {x:TA} {hd0:List TA} (H:SRel C Z s a w) (hh:s.hd=x :: hd0):SRel C (fun k=>Z k ∨ 0 < x.cnt k) ⟨s.tm,s.bx,x.ro :: hd0⟩ a w:=by
 have hH:=H.hand;rw [hh] at hH;simp only [TA.HoldsL] at hH;have hc:∀ k,TA.cntL k s.hd=x.cnt k + TA.cntL k hd0:=fun k=>by rw [hh];rfl
 refine H.replaceHand (Nat.le_refl _) rfl rfl rfl (fun _ _ _=>rfl) (fun k hk=>.inl hk) (fun k hk=>?_) (fun k hk=>?_) ?_ (fun k=>?_) (fun k hk=>?_)
 ·rcases hk with h | h
  ·exact .inl h
  right;right;rw [hc];omega
 ·rcases hk with h | h
  ·exact H.zlt k h
  exact TA.Holds.lt x hH.1 h
 ·simp only [TA.HoldsL];exact ⟨TA.Holds.ro x hH.1 (fun _ h=>.inl h) (fun _ h=>.inr h),TA.HoldsL.frame _ hH.2 (fun _ h=>.inl h) (fun _ _=>rfl)⟩
 ·have h1:=H.uniq k;have h2:=hc k;simp only [TA.cntL,TA.cnt_ro];simp only [StA.cnt] at h1;omega
 simp only [TA.cntL,TA.cnt_ro,Nat.zero_add] at hk;have h1:=H.uniq k;have h2:=hc k;simp only [StA.cnt] at h1;refine ⟨.inl (by omega),fun hz=>?_⟩
 rcases hz with h | h
 ·exact H.notZ k (by simp only [StA.cnt];omega) h
 omega
inductive ArgA where
 | val (x:TA)
 | ptr (b off:Nat) (cs:List TA)
inductive Arg where
 | val (x:T)
 | ptr (cs:List T)
namespace ArgA
def er:ArgA→Arg
 | .val x=>.val x.er
 | .ptr _ _ cs=>.ptr (TA.erL cs)
def value:ArgA→Value
 | .val x=>x.val
 | .ptr b off _=>.pointer (some ⟨b,off,none⟩)
def inn (k:Nat):ArgA→Nat
 | .val x=>x.cnt k
 | .ptr _ _ cs=>TA.cntL k cs
def pc (k:Nat):ArgA→Nat
 | .val _=>0
 | .ptr b _ _=>if b=k then 1 else 0
def Holds (Z:Nat→Prop) (h:Array Obj):ArgA→Prop
 | .val x=>x.Holds Z h
 | .ptr b off cs=>TA.Mem h true b off cs.length (TA.vals cs)∧TA.HoldsL Z h cs∧∀ c ∈ cs,c.isCell=true
end ArgA
def sH (k:Nat):List ArgA→Nat
 | []=>0
 | x :: xs=>x.inn k + sH k xs
def pcL (k:Nat):List ArgA→Nat
 | []=>0
 | x :: xs=>x.pc k + pcL k xs
def tD:List ArgA→List (Nat × Nat × Nat)
 | []=>[]
 | .val _ :: xs=>tD xs
 | .ptr b off cs :: xs=>(b,off,cs.length) :: tD xs
structure ArgsOk (Z:Nat→Prop) (h:Array Obj) (as:List ArgA):Prop where
 holds:∀ x ∈ as,x.Holds Z h
 uniq:∀ k,sH k as + pcL k as ≤ 1
 notZ:∀ k,0 < sH k as + pcL k as→¬ Z k
 zlt:∀ k,Z k→k < h.size
def aKh:List TA→Value
 | [x]=>x.val
 | xs=>.tuple (xs.map TA.val).toArray
def yL (Z:Nat→Prop) (h:Array Obj):List (Nat × Nat × Nat)→List (List TA)→Prop
 | [],[]=>True
 | (b,off,n) :: ps,l :: ls=>TA.Mem h true b off n (TA.vals l)∧TA.HoldsL Z h l∧(∀ c ∈ l,c.isCell=true)∧l.length=n∧yL Z h ps ls
 | _,_=>False
structure Back (w:World) (Z:Nat→Prop) (as:List ArgA) (Z':Nat→Prop) (rs:List TA) (ls:List (List TA)) (w':World):Prop where
 holds:TA.HoldsL Z' w'.heap rs
 outs:yL Z' w'.heap (tD as) ls
 uniq:∀ k,TA.cntL k rs + TA.cntL k ls.flatten + pcL k as ≤ 1
 own:∀ k,0 < TA.cntL k rs + TA.cntL k ls.flatten→(0 < sH k as ∨ w.heap.size ≤ k)∧¬ Z' k
 zle:∀ k,Z k→Z' k
 zext:∀ k,Z' k→Z k ∨ w.heap.size ≤ k ∨ 0 < sH k as
 zlt:∀ k,Z' k→k < w'.heap.size
 os:w'.os=w.os
 tape:w'.tape=w.tape
 output:w'.output=w.output
 grown:w.heap.size ≤ w'.heap.size
 kept:∀ k,k < w.heap.size→sH k as + pcL k as=0→w'.heap[k]? = w.heap[k]?
 part:∀ x ∈ tD as,aBu w.heap w'.heap x.1 x.2.1 x.2.2
def Env.GOk (E:Env) (Z:Nat→Prop) (h:Array Obj):Prop:=∀ g ∈ E.gl,Z g.1∧∃ (cs:Array Value) (t:TypeId) (fr:Nat × Nat),h[g.1]? = some (.cells cs t fr)∧g.2 cs
def Ok (E:Env) (f:FuncId) (args:List Arg) (res:List T) (outs:List (List T)):Prop :=
 ∀ (w:World) (Z:Nat→Prop) (as:List ArgA),as.map ArgA.er=args→ArgsOk Z w.heap as→E.GOk Z w.heap →
  Calls E.P f (as.map ArgA.value).toArray w fun e w'=>∃ Z' rs ls,e = .returned (aKh rs)∧TA.erL rs=res∧ls.map TA.erL=outs∧Back w Z as Z' rs ls w'
end Go.OM
namespace Go.OM
variable {C:Ctx} {Z Z':Nat→Prop} {s:StA} {a:Act} {w w':World} {E:Env} {o:Oper} {σ σ':St} {K:Act→World→Prop} {Q:Exit→Act→World→Prop}
inductive Mode where
 | take
 | bor
 | ptr (k:Nat)
 | cptr (j k:Nat)
 | cval (j:Nat)
def aRw (j:Nat):Value→Value
 | .func _ _ c=>c.getD j undef
 | _=>undef
def evm (a:Act):Mode × Operand→Value
 | (.cptr j _,x)=>aRw j (a.eval x)
 | (.cval j,x)=>aRw j (a.eval x)
 | (.take,x)=>a.eval x
 | (.bor,x)=>a.eval x
 | (.ptr _,x)=>a.eval x
theorem CapA.OkL_get {s:StA} {h:Array Obj}:∀ (xs:List CapA) (vs:List Value) (j:Nat) (c:CapA),CapA.OkL s Z h xs vs→xs[j]? = some c→c.Ok s Z h (vs.toArray.getD j undef)
 | [],_,_,_,_,hc=>by simp at hc
 | _ :: _,[],_,_,h,_=>h.elim
 | x :: xs,v :: vs,0,c,h,hc=>by
  simp only [List.getElem?_cons_zero,Option.some.injEq] at hc;subst hc;exact h.1
 | x :: xs,v :: vs,j + 1,c,h,hc=>by
  have:=CapA.OkL_get xs vs j c h.2 (by simpa using hc)
  simpa using this
abbrev Pl:=Root × Nat × Path × Nat
def St.lendT (N:Nat):List (Mode × Operand)→St→Option (List (Option Arg) × St)
 | [],σ=>some ([],σ)
 | (.take,x) :: ms,σ=>(σ.take N x).bind fun y=>(St.lendT N ms y.2).bind fun z=>some (some (.val y.1) :: z.1,z.2)
 | (_,_) :: ms,σ=>(St.lendT N ms σ).bind fun z=>some (none :: z.1,z.2)
def St.lendP:List (Mode × Operand)→List (Option Arg)→St→Option (List (Option Arg) × List Pl × St)
 | [],[],σ=>some ([],[],σ)
 | (.ptr k,x) :: ms,none :: as,σ=>(St.lendP ms as σ).bind fun z=>match z.2.2.op x with
  | .ref r o p=>(z.2.2.rootCells r).bind fun cs=>(T.getP cs o p k).bind fun l =>
   if 0 < k∧(z.2.1.map Prod.fst).contains r=false then some (some (.ptr l) :: z.1,(r,o,p,k) :: z.2.1,z.2.2.setRoot true r (T.setP cs o p (l.map T.bury))) else none
  | _=>none
 | (.cptr j k,x) :: ms,none :: as,σ=>(St.lendP ms as σ).bind fun z=>match z.2.2.op x with
  | .clo _ cs=>(match cs[j]? with
   | some (.bx n)=>(z.2.2.rootCells (.box n)).bind fun cs=>(T.getP cs 0 [] k).bind fun l =>
    if 0 < k∧(z.2.1.map Prod.fst).contains (.box n)=false then some (some (.ptr l) :: z.1,(.box n,0,[],k) :: z.2.1,z.2.2.setRoot true (.box n) (T.setP cs 0 [] (l.map T.bury))) else none
   | _=>none)
  | _=>none
 | (_,_) :: ms,y :: as,σ=>(St.lendP ms as σ).bind fun z=>some (y :: z.1,z.2)
 | _,_,_=>none
def agree (a:Act):List (Mode × Operand)→List (Option ArgA)→Prop
 | [],[]=>True
 | m :: ms,some y :: as=>evm a m=y.value∧agree a ms as
 | _ :: ms,none :: as=>agree a ms as
 | _,_=>False
def aKy (k:Nat):List (Option ArgA)→Nat
 | []=>0
 | some x :: xs=>x.inn k + aKy k xs
 | none :: xs=>aKy k xs
def pcO (k:Nat):List (Option ArgA)→Nat
 | []=>0
 | some x :: xs=>x.pc k + pcO k xs
 | none :: xs=>pcO k xs
def aIg (Z:Nat→Prop) (h:Array Obj) (as:List (Option ArgA)):Prop:=∀ x,some x ∈ as→x.Holds Z h
theorem xR:∀ (ms:List (Mode × Operand)) (s:StA) (args:List (Option Arg)) (σ':St),SRel C Z s a w→St.lendT C.N ms s.er=some (args,σ') →
  ∃ s' asA,asA.map (Option.map ArgA.er)=args∧s'.er=σ'∧SRel C Z s' a w∧(∀ k,TA.cntL k s'.hd=aKy k asA + TA.cntL k s.hd)∧aIg Z w.heap asA∧agree a ms asA∧(∀ k,pcO k asA=0)
 | [],s,args,σ',H,h=>by
  simp only [St.lendT,Option.some.injEq,Prod.mk.injEq] at h;obtain ⟨rfl,rfl⟩:=h;exact ⟨s,[],rfl,rfl,H,(fun k=>by simp [aKy]),(by intro x hx;simp at hx),trivial,fun k=>rfl⟩
 | (.take,x) :: ms,s,args,σ',H,h=>by
  simp only [St.lendT] at h;obtain ⟨⟨y,σ1⟩,ht,h⟩:=Option.bind_eq_some_iff.1 h;obtain ⟨⟨as,σ2⟩,hr,h⟩:=Option.bind_eq_some_iff.1 h;simp only [Option.some.injEq,Prod.mk.injEq] at h;obtain ⟨rfl,rfl⟩:=h;obtain ⟨s1,yA,t1,t2,t3,t4,t5,t6⟩:=vT H ht;subst t2;obtain ⟨s',asA,r1,r2,r3,r4,r5,r6,r7⟩:=xR ms s1 _ _ t4 hr;refine ⟨s',some (.val yA) :: asA,by simp [ArgA.er,t1,r1],r2,r3,fun k=>?_,fun z hz=>?_,⟨t5,r6⟩,fun k=>by simp [pcO,ArgA.pc,r7]⟩
  ·rw [r4,t3];simp only [aKy,ArgA.inn,TA.cntL];omega
  rcases List.mem_cons.1 hz with h | h
  ·injection h with h;subst h;exact t6
  exact r5 z h
 | (.bor,x) :: ms,s,args,σ',H,h=>by
  simp only [St.lendT] at h;obtain ⟨⟨as,σ2⟩,hr,h⟩:=Option.bind_eq_some_iff.1 h;simp only [Option.some.injEq,Prod.mk.injEq] at h;obtain ⟨rfl,rfl⟩:=h;obtain ⟨s',asA,r1,r2,r3,r4,r5,r6,r7⟩:=xR ms s _ _ H hr;exact ⟨s',none :: asA,by simp [r1],r2,r3,r4,(by intro z hz;rcases List.mem_cons.1 hz with h | h;cases h;exact r5 z h),r6,r7⟩
 | (.cptr n k,x) :: ms,s,args,σ',H,h=>by
  simp only [St.lendT] at h;obtain ⟨⟨as,σ2⟩,hr,h⟩:=Option.bind_eq_some_iff.1 h;simp only [Option.some.injEq,Prod.mk.injEq] at h;obtain ⟨rfl,rfl⟩:=h;obtain ⟨s',asA,r1,r2,r3,r4,r5,r6,r7⟩:=xR ms s _ _ H hr;exact ⟨s',none :: asA,by simp [r1],r2,r3,r4,(by intro z hz;rcases List.mem_cons.1 hz with h | h;cases h;exact r5 z h),r6,r7⟩
 | (.cval n,x) :: ms,s,args,σ',H,h=>by
  simp only [St.lendT] at h;obtain ⟨⟨as,σ2⟩,hr,h⟩:=Option.bind_eq_some_iff.1 h;simp only [Option.some.injEq,Prod.mk.injEq] at h;obtain ⟨rfl,rfl⟩:=h;obtain ⟨s',asA,r1,r2,r3,r4,r5,r6,r7⟩:=xR ms s _ _ H hr;exact ⟨s',none :: asA,by simp [r1],r2,r3,r4,(by intro z hz;rcases List.mem_cons.1 hz with h | h;cases h;exact r5 z h),r6,r7⟩
 | (.ptr n,x) :: ms,s,args,σ',H,h=>by
  simp only [St.lendT] at h;obtain ⟨⟨as,σ2⟩,hr,h⟩:=Option.bind_eq_some_iff.1 h;simp only [Option.some.injEq,Prod.mk.injEq] at h;obtain ⟨rfl,rfl⟩:=h;obtain ⟨s',asA,r1,r2,r3,r4,r5,r6,r7⟩:=xR ms s _ _ H hr;exact ⟨s',none :: asA,by simp [r1],r2,r3,r4,(by intro z hz;rcases List.mem_cons.1 hz with h | h;cases h;exact r5 z h),r6,r7⟩
def plOk (s:StA) (pl:Pl) (q:Nat × Nat):Prop:=∃ base cs l,s.rootCells pl.1=some (base,cs)∧TA.getP cs pl.2.1 pl.2.2.1 pl.2.2.2=some l∧T.hasOwnL (TA.erL l)=false∧TA.addrP base cs pl.2.1 pl.2.2.1=some q∧0 < pl.2.2.2
def aEn (s:StA):List Pl→List (Nat × Nat × Nat)→Prop
 | [],[]=>True
 | pl :: pls,(b,off,n) :: qs=>plOk s pl (b,off)∧pl.2.2.2=n∧pls.all (fun y=>y.1 ≠ pl.1)=true∧aEn s pls qs
 | _,_=>False
def aHx:List (Option ArgA)→List (Nat × Nat × Nat)
 | []=>[]
 | some (.ptr b off cs) :: xs=>(b,off,cs.length) :: aHx xs
 | some (.val _) :: xs=>aHx xs
 | none :: xs=>aHx xs
theorem aJk (c:T):c.bury.hasOwn=false:=by
 unfold T.bury;split
 ·rfl
 rename_i h;simpa using h
theorem aC2:∀ (l:List T),T.hasOwnL (l.map T.bury)=false
 | []=>rfl
 | c :: l=>by simp [T.hasOwnL,aJk,aC2 l]
theorem xL {s':StA}:∀ (pls:List Pl) (qs:List (Nat × Nat × Nat)),(∀ pl ∈ pls,s'.rootCells pl.1=s.rootCells pl.1)→aEn s pls qs→aEn s' pls qs
 | [],[],_,h=>h
 | [],_ :: _,_,h=>h.elim
 | _ :: _,[],_,h=>h.elim
 | pl :: pls,(b,off,n) :: qs,hr,h=>by
  obtain ⟨h1,h2,h3,h4⟩:=h;obtain ⟨base,cs,l,g1,g2⟩:=h1;exact ⟨⟨base,cs,l,(hr pl (by simp)).trans g1,g2⟩,h2,h3,xL pls qs (fun p hp=>hr p (by simp [hp])) h4⟩
theorem aDy:∀ (p:Path) (cs:List TA) (o k:Nat) (old new:List TA),TA.getP cs o p k=some old→new.length=k→(∀ c ∈ new,c.isCell=true)→(∀ c ∈ cs,c.isCell=true)→TA.HoldsL Z w.heap cs→TA.getP (TA.setP cs o p new) o p k=some new
 | [],cs,o,k,old,new,hg,hk,_,_,_=>by
  simp only [TA.getP] at hg;split at hg
  case isFalse=>cases hg
  rename_i hle;have hl:(cs.take o ++ new ++ cs.drop (o + new.length)).length=cs.length:=by simp;omega
  show (if o + k ≤ (cs.take o ++ new ++ cs.drop (o + new.length)).length then some (((cs.take o ++ new ++ cs.drop (o + new.length)).drop o).take k) else none)=some new;rw [if_pos (by rw [hl];exact hle)]
  congr 1
  have ho:(cs.take o).length=o:=by rw [List.length_take];omega
  rw [List.append_assoc,List.drop_append_of_le_length (by omega),List.drop_eq_nil_of_le (by omega),List.nil_append,List.take_append_of_le_length (by omega),List.take_of_length_le (by omega)]
 | (i,o') :: p,cs,o,k,old,new,hg,hk,hnc,hcc,hH=>by
  simp only [TA.getP] at hg;split at hg
  case h_2=>cases hg
  rename_i s b off cap es hcs;split at hg
  case h_2=>cases hg
  rename_i e he;have hsl:=TA.holdsL_get hH hcs;simp only [TA.Holds] at hsl;have heH:=TA.holdsL_get hsl.2.2.2.1 he;have hcc':=TA.isCell_mem_cells heH;have hlt:=(List.getElem?_eq_some_iff.1 hcs).1;have hlt2:=(List.getElem?_eq_some_iff.1 he).1;have ih:=aDy p e.cells o' k old new hg hk hnc hcc' (TA.holds_cells heH);simp only [TA.getP,TA.setP,hcs,he];rw [List.getElem?_set_self hlt];simp only [List.getElem?_set_self hlt2];rw [TA.cells_withCells (TA.setP_length new p _ _ _ _ hg hk) (TA.setP_isCell new hnc p _ _ hcc')];exact ih
theorem aFo:∀ (p:Path) (base:Option (Nat × Nat)) (cs:List TA) (o k:Nat) (old new:List TA),TA.getP cs o p k=some old→new.length=k→(∀ c ∈ new,c.isCell=true)→TA.HoldsL Z w.heap cs→TA.addrP base (TA.setP cs o p new) o p=TA.addrP base cs o p
 | [],base,cs,o,k,old,new,hg,hk,_,_=>rfl
 | (i,o') :: p,base,cs,o,k,old,new,hg,hk,hnc,hH=>by
  simp only [TA.getP] at hg;split at hg
  case h_2=>cases hg
  rename_i s b off cap es hcs;split at hg
  case h_2=>cases hg
  rename_i e he;have hsl:=TA.holdsL_get hH hcs;simp only [TA.Holds] at hsl;have heH:=TA.holdsL_get hsl.2.2.2.1 he;have hcc':=TA.isCell_mem_cells heH;have hlt:=(List.getElem?_eq_some_iff.1 hcs).1;have hlt2:=(List.getElem?_eq_some_iff.1 he).1;have ih:=aFo p (some (b,off + i * s)) e.cells o' k old new hg hk hnc (TA.holds_cells heH);simp only [TA.addrP,TA.setP,hcs,he];rw [List.getElem?_set_self hlt];simp only [List.getElem?_set_self hlt2];rw [TA.cells_withCells (TA.setP_length new p _ _ _ _ hg hk) (TA.setP_isCell new hnc p _ _ hcc')];exact ih
theorem pB {full:Bool} {r:Root} {base:Option (Nat × Nat)} {cs cs' hd':List TA} (hr:s.rootCells r=some (base,cs)) (hl:cs'.length=cs.length) (hc:∀ c ∈ cs',c.isCell=true):(s.setRoot full r cs' hd').rootCells r=some (base,cs'):=by
 cases r with
 | slot n =>
  simp only [StA.rootCells] at hr;split at hr
  case h_2=>cases hr
  rename_i x hx;simp only [Option.some.injEq,Prod.mk.injEq] at hr;obtain ⟨rfl,rfl⟩:=hr;have hlk:look (s.tm.map fun e=>(e.1,e.2.killK full (.slot n))) n=some (.t x):=by rw [bU,hx];exact congrArg some (AVA.killK_t.2 rfl)
  simp only [StA.setRoot,hlk,StA.rootCells,bR];rw [TA.cells_withCells hl hc]
 | box n =>
  simp only [StA.rootCells] at hr;obtain ⟨x,hx,hx2⟩:=Option.map_eq_some_iff.1 hr;simp only [Prod.mk.injEq] at hx2;obtain ⟨rfl,rfl⟩:=hx2;simp only [StA.setRoot,hx,StA.rootCells,bR,Option.map_some]
theorem aFc {m:Mode} {x:Operand} {ms:List (Mode × Operand)} {y:Option Arg} {as:List (Option Arg)} {r:List (Option Arg) × List Pl × St} (hm:((∀ n,m ≠ .ptr n)∧∀ j n,m ≠ .cptr j n) ∨ y ≠ none) (h:St.lendP ((m,x) :: ms) (y :: as) σ=some r):∃ z,St.lendP ms as σ=some z∧r=(y :: z.1,z.2):=by
 cases m with
 | ptr n =>
  cases y with
  | none=>rcases hm with hm | hm;exact absurd rfl (hm.1 n);exact absurd rfl hm
  | some y =>
   simp only [St.lendP] at h;obtain ⟨z,hz,h⟩:=Option.bind_eq_some_iff.1 h;injection h with h
   exact ⟨z,hz,h.symm⟩
 | cptr j n =>
  cases y with
  | none=>rcases hm with hm | hm;exact absurd rfl (hm.2 j n);exact absurd rfl hm
  | some y =>
   simp only [St.lendP] at h;obtain ⟨z,hz,h⟩:=Option.bind_eq_some_iff.1 h;injection h with h
   exact ⟨z,hz,h.symm⟩
 | cval j =>
  cases y <;>
  ·simp only [St.lendP] at h;obtain ⟨z,hz,h⟩:=Option.bind_eq_some_iff.1 h;injection h with h
   exact ⟨z,hz,h.symm⟩
 | take =>
  cases y <;>
  ·simp only [St.lendP] at h;obtain ⟨z,hz,h⟩:=Option.bind_eq_some_iff.1 h;injection h with h
   exact ⟨z,hz,h.symm⟩
 | bor =>
  cases y <;>
  ·simp only [St.lendP] at h;obtain ⟨z,hz,h⟩:=Option.bind_eq_some_iff.1 h;injection h with h
   exact ⟨z,hz,h.symm⟩
theorem aCl:∀ (ms:List (Mode × Operand)) (asA:List (Option ArgA)) (s:StA) (args:List (Option Arg)) (pls:List Pl) (σ':St),SRel C Z s a w→agree a ms asA→(∀ k,pcO k asA=0)→aIg Z w.heap asA→St.lendP ms (asA.map (Option.map ArgA.er)) s.er=some (args,pls,σ') →
  ∃ s' asB,asB.map (Option.map ArgA.er)=args∧s'.er=σ'∧SRel C Z s' a w∧(∀ k,TA.cntL k s'.hd + aKy k asA=aKy k asB + TA.cntL k s.hd)∧aIg Z w.heap asB∧agree a ms asB∧aEn s' pls (aHx asB)
 | [],[],s,args,pls,σ',H,hag,hpc,hho,h=>by
  simp only [List.map_nil,St.lendP,Option.some.injEq,Prod.mk.injEq] at h;obtain ⟨rfl,rfl,rfl⟩:=h;exact ⟨s,[],rfl,rfl,H,(fun k=>by simp [aKy]),hho,trivial,trivial⟩
 | (m,x) :: ms,[],s,args,pls,σ',H,hag,hpc,hho,h=>by simp [agree] at hag
 | [],_ :: _,s,args,pls,σ',H,hag,hpc,hho,h=>by simp [agree] at hag
 | (m,x) :: ms,some y :: asA,s,args,pls,σ',H,hag,hpc,hho,h=>by
  have hpc':∀ k,pcO k asA=0:=fun k=>by have:=hpc k;simp only [pcO] at this;omega
  have hy:∃ t,y = .val t:=by
   cases y with
   | val t=>exact ⟨t,rfl⟩
   | ptr b off cs=>have:=hpc b;simp [pcO,ArgA.pc] at this
  obtain ⟨t,rfl⟩:=hy;obtain ⟨⟨as1,pl1,σ1⟩,hr,h⟩:=aFc (.inr (by simp)) h
  simp only [Prod.mk.injEq] at h;obtain ⟨rfl,rfl,rfl⟩:=h;obtain ⟨s1,asB,r1,r2,r3,r4,r5,r6,r7⟩:=aCl ms asA s _ _ _ H hag.2 hpc' (fun z hz=>hho z (by simp [hz])) hr
  refine ⟨s1,some (.val t) :: asB,by simp [r1],r2,r3,fun k=>?_,?_,⟨hag.1,r6⟩,r7⟩
  ·have:=r4 k;simp only [aKy];omega
  intro z hz;rcases List.mem_cons.1 hz with h | h
  ·injection h with h;subst h;exact hho _ (by simp)
  exact r5 z h
 | (m,x) :: ms,none :: asA,s,args,pls,σ',H,hag,hpc,hho,h=>by
  have hag':agree a ms asA:=hag;have hpc':∀ k,pcO k asA=0:=hpc;have hho':aIg Z w.heap asA:=fun z hz=>hho z (by simp [hz])
  by_cases hm:(∀ n,m ≠ .ptr n)∧∀ j n,m ≠ .cptr j n
  ·obtain ⟨⟨as1,pl1,σ1⟩,hr,h⟩:=aFc (.inl hm) h;simp only [Prod.mk.injEq] at h;obtain ⟨rfl,rfl,rfl⟩:=h;obtain ⟨s1,asB,r1,r2,r3,r4,r5,r6,r7⟩:=aCl ms asA s _ _ _ H hag' hpc' hho' hr;exact ⟨s1,none :: asB,by simp [r1],r2,r3,r4,(by intro z hz;rcases List.mem_cons.1 hz with h | h;cases h;exact r5 z h),r6,r7⟩
  have hm2:(∃ n,m = .ptr n) ∨ ∃ j n,m = .cptr j n:=by
   cases m with
   | ptr n=>exact .inl ⟨n,rfl⟩
   | cptr j n=>exact .inr ⟨j,n,rfl⟩
   | take=>exact absurd ⟨fun n=>by simp,fun j n=>by simp⟩ hm
   | bor=>exact absurd ⟨fun n=>by simp,fun j n=>by simp⟩ hm
   | cval j=>exact absurd ⟨fun n=>by simp,fun j n=>by simp⟩ hm
  have hx:∃ n as1 pl1 σ1 r o p csT lT,St.lendP ms (asA.map (Option.map ArgA.er)) s.er=some (as1,pl1,σ1)∧σ1.rootCells r=some csT∧T.getP csT o p n=some lT∧(0 < n∧(pl1.map Prod.fst).contains r=false) ∧
    args=some (.ptr lT) :: as1∧pls=(r,o,p,n) :: pl1∧σ'=σ1.setRoot true r (T.setP csT o p (lT.map T.bury)) ∧
    ∀ s1:StA,s1.er=σ1→SRel C Z s1 a w→∃ base cs ad,s1.rootCells r=some (base,cs)∧TA.addrP base cs o p=some ad∧evm a (m,x) = .pointer (some ⟨ad.1,ad.2,none⟩):=by
   rcases hm2 with ⟨n,rfl⟩ | ⟨j,n,rfl⟩
   ·simp only [List.map_cons,Option.map_none,St.lendP] at h;obtain ⟨⟨as1,pl1,σ1⟩,hr,h⟩:=Option.bind_eq_some_iff.1 h;simp only at h;split at h
    case h_2=>cases h
    rename_i r o p hx;obtain ⟨csT,hcs,h⟩:=Option.bind_eq_some_iff.1 h;obtain ⟨lT,hl,h⟩:=Option.bind_eq_some_iff.1 h;split at h
    case isFalse=>cases h
    rename_i hc;simp only [Option.some.injEq,Prod.mk.injEq] at h;obtain ⟨rfl,rfl,rfl⟩:=h;refine ⟨n,as1,pl1,σ1,r,o,p,csT,lT,hr,hcs,hl,hc,rfl,rfl,rfl,fun s1 e1 r3=>?_⟩;subst e1;obtain ⟨xA,e1,e2⟩:=opA r3 x;rw [hx] at e1;rw [uH e1] at e2;exact e2
   simp only [List.map_cons,Option.map_none,St.lendP] at h;obtain ⟨⟨as1,pl1,σ1⟩,hr,h⟩:=Option.bind_eq_some_iff.1 h;simp only at h;split at h
   case h_2=>cases h
   rename_i f xs hx;split at h
   case h_2=>cases h
   rename_i m hj;obtain ⟨csT,hcs,h⟩:=Option.bind_eq_some_iff.1 h;obtain ⟨lT,hl,h⟩:=Option.bind_eq_some_iff.1 h;split at h
   case isFalse=>cases h
   rename_i hc;simp only [Option.some.injEq,Prod.mk.injEq] at h;obtain ⟨rfl,rfl,rfl⟩:=h;refine ⟨n,as1,pl1,σ1,.box m,0,[],csT,lT,hr,hcs,hl,hc,rfl,rfl,rfl,fun s1 e1 r3=>?_⟩;subst e1;obtain ⟨xA,e1,e2⟩:=opA r3 x;rw [hx] at e1;obtain ⟨ys,rfl,hys⟩:=aIl e1;obtain ⟨vs,q1,q2⟩:=e2;have hjA:ys[j]? = some (.bx m):=by
    rw [← hys,List.getElem?_map] at hj;obtain ⟨c,hc1,hc2⟩:=Option.map_eq_some_iff.1 hj;cases c with
    | bx m'=>simp only [CapA.er,Cap.bx.injEq] at hc2;rw [hc1,hc2]
    | ro y=>simp [CapA.er] at hc2
   have:=CapA.OkL_get ys vs j _ q2 hjA;simp only [evm,q1,aRw];exact this
  obtain ⟨n,as1,pl1,σ1,r,o,p,csT,lT,hr,hcs,hl,hc,rfl,rfl,rfl,hv⟩:=hx;obtain ⟨s1,asB,r1,r2,r3,r4,r5,r6,r7⟩:=aCl ms asA s _ _ _ H hag' hpc' hho' hr;obtain ⟨base,cs,ad,g1,g2,g3⟩:=hv s1 r2 r3;subst r2;rw [StA.er_rootCells,g1] at hcs;simp only [Option.map_some,Option.some.injEq] at hcs;subst hcs;obtain ⟨l,t1,t2⟩:=TA.er_get _ _ _ _ _ hl;subst t2;obtain ⟨h1,h2,h3,h4⟩:=gL r3 g1;obtain ⟨w1,w2,w3⟩:=r3.takePlace g1 t1;have hlen:=TA.getP_length _ _ _ _ _ t1;obtain ⟨b1,b2,b3,b4⟩:=iM w2 w3;obtain ⟨m1,m2,m3,m4,m5⟩:=tY p base cs o n l ad t1 g2 h1 h3;have hne:∀ pl ∈ pl1,pl.1 ≠ r:=by
   intro pl hp e;have:(pl1.map Prod.fst).contains r=true:=by
    rw [List.contains_iff_mem];exact List.mem_map.2 ⟨pl,hp,e⟩
   rw [this] at hc;cases hc.2
  have hbl:(l.map TA.bury).length=n:=by rw [List.length_map];exact hlen
  have hset:TA.getP (TA.setP cs o p (l.map TA.bury)) o p n=some (l.map TA.bury):=aDy p cs o n l _ t1 hbl b2 h2 h1;have hadr:TA.addrP base (TA.setP cs o p (l.map TA.bury)) o p=some ad:=(aFo p base cs o n l _ t1 hbl b2 h1).trans g2;have hroot:(s1.setRoot true r (TA.setP cs o p (l.map TA.bury)) (l ++ s1.hd)).rootCells r=some (base,TA.setP cs o p (l.map TA.bury)) :=
   pB g1 (TA.setP_length _ p _ _ _ _ t1 hbl) (TA.setP_isCell _ b2 p _ _ h2)
  refine ⟨_,some (.ptr ad.1 ad.2 l) :: asB,by simp [ArgA.er,r1],?_,w1,fun k=>?_,?_,⟨by rw [g3];rfl,r6⟩,⟨⟨base,_,_,hroot,hset,?_,hadr,hc.1⟩,hlen.symm,?_,?_⟩⟩
  ·have:=StA.er_setRoot s1 true r (TA.setP cs o p (l.map TA.bury)) (l ++ s1.hd);rw [TA.er_set,rC] at this;exact this
  ·rw [pK,TA.cntL_append];have:=r4 k;simp only [aKy,ArgA.inn];omega
  ·intro z hz;rcases List.mem_cons.1 hz with h | h
   ·injection h with h
    subst h;exact ⟨⟨m1,m2,(0,0),m3,fun _=>⟨by rw [hlen];exact m4,rfl⟩,m5⟩,w2,w3⟩
   exact r5 z h
  ·rw [rC];exact aC2 _
  ·simp only [List.all_eq_true,decide_eq_true_eq];exact hne
  exact xL _ _ (fun pl hp=>cK (hne pl hp)) r7
end Go.OM
namespace Go.OM
variable {C:Ctx} {Z Z':Nat→Prop} {s:StA} {a:Act} {w w':World} {E:Env} {o:Oper} {σ σ':St} {K:Act→World→Prop} {Q:Exit→Act→World→Prop}
theorem wE {α:Type} (f:α→Nat):∀ (l:List (Nat × α)) {n m:Nat} {x y:α},n ≠ m→look l n=some x→look l m=some y→f x + f y ≤ tot f l
 | [],n,m,x,y,_,h,_=>by simp [look] at h
 | (k,z) :: l,n,m,x,y,hne,h1,h2=>by
  simp only [look] at h1 h2;by_cases e1:k=n
  ·rw [if_pos e1] at h1;injection h1 with h1
   subst h1;rw [if_neg (fun e=>hne (e1.symm.trans e))] at h2;have:f y ≤ tot f l:=bT f h2;simp only [tot];omega
  rw [if_neg e1] at h1;by_cases e2:k=m
  ·rw [if_pos e2] at h2;injection h2 with h2
   subst h2;have:f x ≤ tot f l:=bT f h1;simp only [tot];omega
  rw [if_neg e2] at h2;have:=wE f l hne h1 h2;simp only [tot];omega
def StA.rc (s:StA) (r:Root) (k:Nat):Nat:=match s.rootCells r with
 | some (base,cs)=>aBs base k + TA.cntL k cs
 | none=>0
def StA.own (s:StA) (k:Nat):Nat:=tot (AVA.cnt k) s.tm + tot (BoxA.cnt k) s.bx
theorem aBa {n:Nat} {x:TA} (k:Nat) (h:look s.tm n=some (.t x)):s.rc (.slot n) k=x.cnt k:=by
 simp [StA.rc,StA.rootCells,h,aBs,TA.cntL_cells]
theorem aHr {n:Nat} {x:BoxA} (k:Nat) (h:look s.bx n=some x):s.rc (.box n) k=x.cnt k:=by
 simp [StA.rc,StA.rootCells,h,aBs,BoxA.cnt]
theorem aNq (s:StA) (r:Root) (k:Nat):s.rc r k ≤ s.own k:=by
 cases r with
 | slot n =>
  cases h:look s.tm n with
  | none=>simp [StA.rc,StA.rootCells,h]
  | some x =>
   cases x with
   | t x =>
    have:AVA.cnt k (.t x) ≤ tot (AVA.cnt k) s.tm:=bT (AVA.cnt k) h;rw [aBa k h];simp only [AVA.cnt] at this;unfold StA.own;omega
   | _=>simp [StA.rc,StA.rootCells,h]
 | box n =>
  cases h:look s.bx n with
  | none=>simp [StA.rc,StA.rootCells,h]
  | some x =>
   have:BoxA.cnt k x ≤ tot (BoxA.cnt k) s.bx:=bT (BoxA.cnt k) h;rw [aHr k h];unfold StA.own;omega
theorem rc_rc (s:StA) {r r':Root} (hne:r ≠ r') (k:Nat):s.rc r k + s.rc r' k ≤ s.own k:=by
 have hz:∀ (r:Root),s.rc r k=0 ∨ (∃ n x,r = .slot n∧look s.tm n=some (.t x)) ∨ (∃ n x,r = .box n∧look s.bx n=some x):=by
  intro r;cases r with
  | slot n =>
   cases h:look s.tm n with
   | none=>left;simp [StA.rc,StA.rootCells,h]
   | some x =>
    cases x with
    | t x=>exact .inr (.inl ⟨n,x,rfl,h⟩)
    | _=>left;simp [StA.rc,StA.rootCells,h]
  | box n =>
   cases h:look s.bx n with
   | none=>left;simp [StA.rc,StA.rootCells,h]
   | some x=>exact .inr (.inr ⟨n,x,rfl,h⟩)
 have h1:=aNq s r k;have h2:=aNq s r' k;rcases hz r with h | ⟨n,x,rfl,hx⟩ | ⟨n,x,rfl,hx⟩
 ·omega
 ·rcases hz r' with h | ⟨m,y,rfl,hy⟩ | ⟨m,y,rfl,hy⟩
  ·omega
  ·have:AVA.cnt k (.t x) + AVA.cnt k (.t y) ≤ tot (AVA.cnt k) s.tm:=wE (AVA.cnt k) s.tm (fun e=>hne (by rw [e])) hx hy
   rw [aBa k hx,aBa k hy];simp only [AVA.cnt] at this;unfold StA.own;omega
  have t1:AVA.cnt k (.t x) ≤ tot (AVA.cnt k) s.tm:=bT (AVA.cnt k) hx;have t2:BoxA.cnt k y ≤ tot (BoxA.cnt k) s.bx:=bT (BoxA.cnt k) hy;rw [aBa k hx,aHr k hy];simp only [AVA.cnt] at t1;unfold StA.own;omega
 rcases hz r' with h | ⟨m,y,rfl,hy⟩ | ⟨m,y,rfl,hy⟩
 ·omega
 ·have t1:AVA.cnt k (.t y) ≤ tot (AVA.cnt k) s.tm:=bT (AVA.cnt k) hy;have t2:BoxA.cnt k x ≤ tot (BoxA.cnt k) s.bx:=bT (BoxA.cnt k) hx;rw [aBa k hy,aHr k hx];simp only [AVA.cnt] at t1;unfold StA.own;omega
 have:BoxA.cnt k x + BoxA.cnt k y ≤ tot (BoxA.cnt k) s.bx:=wE (BoxA.cnt k) s.bx (fun e=>hne (by rw [e])) hx hy
 rw [aHr k hx,aHr k hy];unfold StA.own;omega
def St.view (rs:List Root) (σ:St) (x:Operand):Option T:=match σ.op x with
 | .t y=>if y.hasOwn=true then (match x with | .tmp n=>if rs.contains (.slot n)=false then some y.ro else none | _=>none) else some y
 | .al r o p k=>if rs.contains r=false then (σ.rootCells r).bind fun cs=>(T.getP cs o p (k.getD 1)).map fun l=>(mkT k l).ro else none
 | _=>none
def Mode.isBor:Mode→Bool
 | .bor=>true
 | _=>false
def St.capv (σ:St) (j:Nat) (x:Operand):Option T:=match σ.op x with
 | .clo _ cs=>(match cs[j]? with
  | some (.ro t)=>some t
  | _=>none)
 | .t (.clo _ ts)=>ts[j]?
 | _=>none
theorem aQa {t:TA} (h:t.capOk=true):t.capV=t.val:=by
 cases t with
 | agg cs =>
  simp only [TA.capOk,List.all_eq_true] at h;simp only [TA.capV,TA.val,TA.vals]
  congr 2
  refine List.map_congr_left fun c hc=>?_;have:=h c hc;cases c<;>first | rfl | (simp [TA.isLeaf] at this;done)
 | clo f cs=>simp [TA.capOk,TA.isLeaf] at h
 | pt b off cs=>rfl
 | _=>rfl
theorem aRv {j:Nat} {x:Operand} {y:T} (H:SRel C Z s a w) (h:s.er.capv j x=some y) :
  ∃ yA:TA,yA.er=y∧evm a (.cval j,x)=yA.val∧yA.Holds Z w.heap∧∀ k,yA.cnt k=0:=by
 unfold St.capv at h;obtain ⟨xA,e1,e2⟩:=opA H x;split at h
 ·rename_i f cs hz;rw [hz] at e1;obtain ⟨ys,rfl,hys⟩:=aIl e1;obtain ⟨vs,q1,q2⟩:=e2;split at h
  case h_2=>cases h
  rename_i t hj;injection h with h
  subst h;rw [← hys,List.getElem?_map] at hj;obtain ⟨c,hc1,hc2⟩:=Option.map_eq_some_iff.1 hj;cases c with
  | bx m'=>simp [CapA.er] at hc2
  | ro y =>
   simp only [CapA.er,Cap.ro.injEq] at hc2;obtain ⟨g1,g2,g3⟩:=CapA.OkL_get ys vs j _ q2 hc1;exact ⟨y,hc2,by simp only [evm,q1,aRw];exact g1,g2,g3⟩
 ·rename_i f ts hz;rw [hz] at e1;obtain ⟨zA,rfl,hz'⟩:=aE3 e1;cases zA<;>simp only [TA.er,reduceCtorEq] at hz'
  rename_i g tsA;simp only [T.clo.injEq] at hz';obtain ⟨rfl,rfl⟩:=hz';obtain ⟨g1,g2⟩:=e2;simp only [TA.Holds] at g2;rw [TA.erL_map,List.getElem?_map] at h;obtain ⟨c,hc1,hc2⟩:=Option.map_eq_some_iff.1 h;have hmem:=List.mem_of_getElem? hc1;refine ⟨c,hc2,?_,TA.holdsL_iff.1 g2.1 c hmem,fun k=>?_⟩
  ·rw [← aQa (List.all_eq_true.1 g2.2.2 c hmem)];simp [evm,g1,TA.val,TA.val1,aRw,hc1]
  have h1:=g2.2.1 k;have h2:c.cnt k ≤ TA.cntL k tsA:=by
   have:=List.getElem?_eq_some_iff.1 hc1;clear g1 g2 hz h hmem hc1 hc2 e1 h1;induction tsA generalizing j with
   | nil=>obtain ⟨h,_⟩:=this;simp at h
   | cons t ts ih =>
    cases j with
    | zero=>obtain ⟨_,h⟩:=this;simp only [List.getElem_cons_zero] at h;subst h;simp only [TA.cntL];omega
    | succ j =>
     obtain ⟨h0,h⟩:=this;have:=ih (j:=j) ⟨by simpa using h0,by simpa using h⟩
     simp only [TA.cntL];omega
  omega
 cases h
def St.lendB (rs:List Root) (σ:St):List (Mode × Operand)→List (Option Arg)→Option (List Arg)
 | [],[]=>some []
 | (.bor,x) :: ms,none :: as=>(σ.view rs x).bind fun y=>(St.lendB rs σ ms as).bind fun z=>some (.val y :: z)
 | (.cval j,x) :: ms,none :: as=>(σ.capv j x).bind fun y=>(St.lendB rs σ ms as).bind fun z=>some (.val y :: z)
 | _ :: ms,some y :: as=>(St.lendB rs σ ms as).bind fun z=>some (y :: z)
 | _,_=>none
def zc (Z:Nat→Prop) (s:StA) (qs:List (Nat × Nat × Nat)) (k:Nat):Prop:=Z k ∨ (0 < s.own k∧∀ q ∈ qs,q.1 ≠ k)
theorem aJ9 {pl:Pl} {q:Nat × Nat} (h:plOk s pl q):0 < s.rc pl.1 q.1:=by
 obtain ⟨base,cs,l,h1,h2,h3,h4,h5⟩:=h;simp only [StA.rc,h1];rcases TA.addr_range _ _ _ _ _ _ q.1 q.2 h2 h4 with ⟨o0,e,_⟩ | h
 ·rw [e,sD];omega
 omega
theorem aDf:∀ (pls:List Pl) (qs:List (Nat × Nat × Nat)),aEn s pls qs→∀ q ∈ qs,∃ pl ∈ pls,plOk s pl (q.1,q.2.1)∧pl.2.2.2=q.2.2
 | [],[],_,q,hq=>by cases hq
 | [],_ :: _,h,_,_=>h.elim
 | _ :: _,[],h,_,_=>h.elim
 | pl :: pls,(b,off,n) :: qs,h,q,hq=>by
  obtain ⟨h1,h2,h3,h4⟩:=h;rcases List.mem_cons.1 hq with rfl | hq
  ·exact ⟨pl,by simp,h1,h2⟩
  obtain ⟨p,hp,h5⟩:=aDf pls qs h4 q hq;exact ⟨p,by simp [hp],h5⟩
theorem aNj {pls:List Pl} {qs:List (Nat × Nat × Nat)} {r:Root} {k:Nat} (H:SRel C Z s a w) (hp:aEn s pls qs) (hr:(pls.map Prod.fst).contains r=false) (hk:0 < s.rc r k):zc Z s qs k:=by
 refine .inr ⟨Nat.lt_of_lt_of_le hk (aNq s r k),fun q hq e=>?_⟩;obtain ⟨pl,hpl,h1,_⟩:=aDf _ _ hp q hq;have h2:=aJ9 h1;have hne:pl.1 ≠ r:=by
  intro e2;have:(pls.map Prod.fst).contains r=true:=by
   rw [List.contains_iff_mem];exact List.mem_map.2 ⟨pl,hpl,e2⟩
  rw [this] at hr;cases hr
 have h3:=rc_rc s hne k;have h4:=H.uniq k;rw [e] at h2;simp only [StA.cnt] at h4;unfold StA.own at h3;omega
theorem mkT_ro (k:Option Nat) (l:List TA):(yM k l).ro.er=(mkT k (TA.erL l)).ro:=by
 rw [TA.er_ro,wS]
theorem aR2 {pls:List Pl} {qs:List (Nat × Nat × Nat)} {x:Operand} {y:T} (H:SRel C Z s a w) (hp:aEn s pls qs) (h:s.er.view (pls.map Prod.fst) x=some y) :
  ∃ yA:TA,yA.er=y∧a.eval x=yA.val∧yA.Holds (zc Z s qs) w.heap∧∀ k,yA.cnt k=0:=by
 unfold St.view at h;obtain ⟨xA,e1,e2⟩:=opA H x;split at h
 ·rename_i z hz;rw [hz] at e1;obtain ⟨yA,rfl,rfl⟩:=aE3 e1;split at h
  ·split at h
   case h_2=>cases h
   rename_i n;split at h
   case isFalse=>cases h
   rename_i hown hr;injection h with h
   subst h;simp only [St.op,St.get,nF] at hz;cases hlk:look s.tm n with
   | none=>rw [hlk] at hz;simp at hz
   | some q =>
    rw [hlk] at hz;simp only [Option.map_some,Option.getD_some] at hz;obtain ⟨z',rfl,hz'⟩:=aE3 hz;have hv:=H.tm n _ hlk;refine ⟨z'.ro,by rw [TA.er_ro,hz'],by rw [TA.val_ro];exact hv.1,TA.Holds.ro z' hv.2 (fun _ h=>.inl h) (fun k hk=>aNj H hp hr (by rw [aBa k hlk];exact hk)),fun k=>TA.cnt_ro k _⟩
  rename_i hno;injection h with h
  subst h;have hc:∀ k,yA.cnt k=0:=fun k=>TA.cnt_of_noOwn k yA (by simpa using hno)
  exact ⟨yA,rfl,e2.1,TA.Holds.frame yA e2.2 (fun _ h=>.inl h) (fun _ _=>rfl),hc⟩
 ·rename_i r p q k hz;rw [hz] at e1;rw [aMr e1] at e2;split at h
  case isFalse=>cases h
  rename_i hr;obtain ⟨csT,hcs,h⟩:=Option.bind_eq_some_iff.1 h;obtain ⟨lT,hl,rfl⟩:=Option.map_eq_some_iff.1 h;obtain ⟨base,cs,l,g1,g2,g3,g4⟩:=e2;rw [StA.er_rootCells,g1] at hcs;simp only [Option.map_some,Option.some.injEq] at hcs;subst hcs;obtain ⟨l',t1,t2⟩:=TA.er_get _ _ _ _ _ hl;rw [g2] at t1;injection t1 with t1
  subst t1;subst t2;obtain ⟨h1,h2,h3,h4⟩:=gL H g1;obtain ⟨m1,m2⟩:=rE q _ _ _ _ g2 h1 h2;have hlen:k=none→l.length=1:=fun hk=>by rw [TA.getP_length _ _ _ _ _ g2,hk];rfl
  obtain ⟨b1,b2,b3,b4⟩:=iM m1 m2;obtain ⟨r1,r2,r3,r4,r5⟩:=TA.swap_place q cs p _ l (l.map TA.bury) g2 (by rw [List.length_map];exact TA.getP_length _ _ _ _ _ g2) b3 h1 h2 b1 b2
  refine ⟨(yM k l).ro,mkT_ro k l,by rw [TA.val_ro,qY hlen m2];exact g4,TA.Holds.ro _ (gN hlen m2 m1) (fun _ h=>.inl h) (fun j hj=>aNj H hp hr ?_),fun j=>TA.cnt_ro j _⟩
  rw [qZ j hlen] at hj;have:=r5 j;have:=b4 j;simp only [StA.rc,g1];omega
 cases h
theorem aCm {pls:List Pl} {qs:List (Nat × Nat × Nat)} (H:SRel C Z s a w) (hp:aEn s pls qs):∀ (ms:List (Mode × Operand)) (asB:List (Option ArgA)) (args:List Arg),agree a ms asB→aIg Z w.heap asB→s.er.lendB (pls.map Prod.fst) ms (asB.map (Option.map ArgA.er))=some args →
  ∃ as:List ArgA,as.map ArgA.er=args∧ms.map (evm a)=as.map ArgA.value∧(∀ x ∈ as,x.Holds (zc Z s qs) w.heap)∧(∀ k,sH k as=aKy k asB)∧(∀ k,pcL k as=pcO k asB)∧tD as=aHx asB∧((ms.any fun m=>m.1.isBor)=false→∀ x ∈ as,x.Holds Z w.heap)
 | [],[],args,hag,hh,h=>by
  simp only [List.map_nil,St.lendB,Option.some.injEq] at h;subst h;exact ⟨[],rfl,rfl,by simp,fun k=>rfl,fun k=>rfl,rfl,by simp⟩
 | (m,x) :: ms,[],args,hag,hh,h=>hag.elim
 | [],y :: ys,args,hag,hh,h=>by simp [agree] at hag
 | (m,x) :: ms,some y :: asB,args,hag,hh,h=>by
  have h':∃ z,s.er.lendB (pls.map Prod.fst) ms (asB.map (Option.map ArgA.er))=some z∧args=y.er :: z:=by
   cases m <;>
   ·simp only [List.map_cons,Option.map_some,St.lendB] at h;obtain ⟨z,hz,h⟩:=Option.bind_eq_some_iff.1 h;injection h with h
    exact ⟨z,hz,h.symm⟩
  obtain ⟨z,hz,rfl⟩:=h';obtain ⟨as,r1,r2,r3,r4,r5,r6,r7⟩:=aCm H hp ms asB z hag.2 (fun q hq=>hh q (by simp [hq])) hz
  have hy:y.Holds Z w.heap:=hh y (by simp)
  have hy':y.Holds (zc Z s qs) w.heap:=by
   cases y with
   | val t=>exact TA.Holds.frame t hy (fun _ h=>.inl h) (fun _ _=>rfl)
   | ptr b off cs=>exact ⟨hy.1,TA.HoldsL.frame cs hy.2.1 (fun _ h=>.inl h) (fun _ _=>rfl),hy.2.2⟩
  refine ⟨y :: as,by simp [r1],by simp [r2,hag.1],?_,fun k=>by simp [sH,aKy,r4],fun k=>by simp [pcL,pcO,r5],by cases y<;>simp [tD,aHx,r6],fun hb=>?_⟩
  ·intro q hq;rcases List.mem_cons.1 hq with rfl | hq
   ·exact hy'
   exact r3 q hq
  simp only [List.any_cons,Bool.or_eq_false_iff] at hb;intro q hq;rcases List.mem_cons.1 hq with rfl | hq
  ·exact hy
  exact r7 hb.2 q hq
 | (m,x) :: ms,none :: asB,args,hag,hh,h=>by
  cases m with
  | take=>simp [St.lendB] at h
  | ptr n=>simp [St.lendB] at h
  | cptr j n=>simp [St.lendB] at h
  | cval j =>
   simp only [List.map_cons,Option.map_none,St.lendB] at h;obtain ⟨y,hy,h⟩:=Option.bind_eq_some_iff.1 h;obtain ⟨z,hz,h⟩:=Option.bind_eq_some_iff.1 h;injection h with h
   subst h;obtain ⟨yA,t1,t2,t3,t4⟩:=aRv H hy;obtain ⟨as,r1,r2,r3,r4,r5,r6,r7⟩:=aCm H hp ms asB z hag (fun q hq=>hh q (by simp [hq])) hz
   refine ⟨.val yA :: as,by simp [r1,ArgA.er,t1],by simp [r2,t2,ArgA.value],?_,fun k=>by simp [sH,aKy,r4,ArgA.inn,t4],fun k=>by simp [pcL,pcO,r5,ArgA.pc],by simp [tD,aHx,r6],fun hb=>?_⟩
   ·intro q hq;rcases List.mem_cons.1 hq with rfl | hq
    ·exact TA.Holds.frame yA t3 (fun _ h=>.inl h) (fun _ _=>rfl)
    exact r3 q hq
   simp only [List.any_cons,Bool.or_eq_false_iff] at hb;intro q hq;rcases List.mem_cons.1 hq with rfl | hq
   ·exact t3
   exact r7 hb.2 q hq
  | bor =>
   simp only [List.map_cons,Option.map_none,St.lendB] at h;obtain ⟨y,hy,h⟩:=Option.bind_eq_some_iff.1 h;obtain ⟨z,hz,h⟩:=Option.bind_eq_some_iff.1 h;injection h with h
   subst h;obtain ⟨yA,t1,t2,t3,t4⟩:=aR2 H hp hy;obtain ⟨as,r1,r2,r3,r4,r5,r6,r7⟩:=aCm H hp ms asB z hag (fun q hq=>hh q (by simp [hq])) hz
   refine ⟨.val yA :: as,by simp [r1,ArgA.er,t1],by simp [r2,evm,t2,ArgA.value],?_,fun k=>by simp [sH,aKy,r4,ArgA.inn,t4],fun k=>by simp [pcL,pcO,r5,ArgA.pc],by simp [tD,aHx,r6],fun hb=>by simp [Mode.isBor] at hb⟩
   intro q hq;rcases List.mem_cons.1 hq with rfl | hq
   ·exact t3
   exact r3 q hq
end Go.OM
namespace Go.OM
variable {C:Ctx} {Z Z':Nat→Prop} {s:StA} {a:Act} {w w':World} {E:Env} {o:Oper} {σ σ':St} {K:Act→World→Prop} {Q:Exit→Act→World→Prop}
mutual
def T.noRo:T→Bool
 | .v _=>true
 | .agg cs=>T.noRoL cs
 | .sl o _ es=>o && T.noRoL es
 | .dead=>true
 | .clo _ _=>false
 | .pt _=>false
def T.noRoL:List T→Bool
 | []=>true
 | t :: ts=>t.noRo && T.noRoL ts
end
mutual
theorem TA.Holds.noRo {h:Array Obj}:∀ (t:TA),t.er.noRo=true→t.Holds Z h→t.Holds Z' h
 | .v x,_,hh=>hh
 | .agg cs,hn,hh=>by
  simp only [TA.er,T.noRo] at hn;simp only [TA.Holds] at hh ⊢;exact ⟨TA.HoldsL.noRo cs hn hh.1,hh.2⟩
 | .nl _ _ _,_,hh=>by simpa [TA.Holds] using hh
 | .sl o s b off cap es,hn,hh=>by
  simp only [TA.er,T.noRo,Bool.and_eq_true] at hn;obtain ⟨rfl,hn⟩:=hn;simp only [TA.Holds] at hh ⊢;exact ⟨hh.1,hh.2.1,(fun h=>nomatch h),TA.HoldsL.noRo es hn hh.2.2.2.1,hh.2.2.2.2⟩
 | .dead x,_,hh=>hh
 | .clo _ _,hn,_=>by simp [TA.er,T.noRo] at hn
 | .pt _ _ _,hn,_=>by simp [TA.er,T.noRo] at hn
theorem TA.HoldsL.noRo {h:Array Obj}:∀ (l:List TA),T.noRoL (TA.erL l)=true→TA.HoldsL Z h l→TA.HoldsL Z' h l
 | [],_,_=>by simp [TA.HoldsL]
 | t :: ts,hn,hh=>by
  simp only [TA.erL,T.noRoL,Bool.and_eq_true] at hn;simp only [TA.HoldsL] at hh ⊢;exact ⟨TA.Holds.noRo t hn.1 hh.1,TA.HoldsL.noRo ts hn.2 hh.2⟩
end
def mix (h' h:Array Obj) (bs:List Nat):Array Obj:=Array.ofFn fun i:Fin h'.size=>if i.1 ∈ bs then (h[i.1]?).getD h'[i] else h'[i]
theorem aKt (h' h:Array Obj) (bs:List Nat):(mix h' h bs).size=h'.size:=by simp [mix]
theorem aKu {h' h:Array Obj} {bs:List Nat} (hs:h.size ≤ h'.size) {k:Nat} (hk:k ∈ bs) (hl:k < h.size):(mix h' h bs)[k]? = h[k]?:=by
 have:k < h'.size:=by omega
 simp [mix,this,hk,hl]
theorem yU {h' h:Array Obj} {bs:List Nat} {k:Nat} (hk:k ∉ bs):(mix h' h bs)[k]? = h'[k]?:=by
 by_cases hl:k < h'.size
 ·simp [mix,hl,hk]
 simp [mix,hl]
theorem mix_wr {h' h:Array Obj} {b off n:Nat} {bs:List Nat} {vs:List Value} (hs:h.size ≤ h'.size) (ho:aBu h h' b off n) (hm:TA.Mem h' true b off n vs) (hn:vs.length=n) (hb:b ∉ bs):wr (mix h' h (b :: bs)) b off vs=mix h' h bs:=by
 obtain ⟨c,c',e,fr,q1,q2,q3,q4⟩:=ho;obtain ⟨c2,e2,fr2,m1,m2,m3⟩:=hm;rw [q2] at m1;injection m1 with m1
 injection m1 with e1 e2' e3
 subst e1;subst e2';subst e3;have hbl:b < h.size:=(Array.getElem?_eq_some_iff.1 q1).1;apply Array.ext_getElem?;intro k;by_cases hk:k=b
 ·subst hk;rw [sY off vs ((aKu hs (by simp) hbl).trans q1),yU hb,q2]
  congr 2
  apply Array.ext_getElem?;intro j;have hr:=(m2 rfl).1;rw [vQ _ _ _ _ (by omega)]
  by_cases hj:off ≤ j∧j < off + vs.length
  ·rw [if_pos hj];have hlt:j - off < vs.length:=by omega
   have:=m3 (j - off) _ (List.getElem?_eq_getElem hlt);rw [show off + (j - off)=j by omega] at this
   rw [this,List.getElem?_eq_getElem hlt]
  rw [if_neg hj];exact (q4 j (by omega)).symm
 rw [uO _ _ _ _ hk];by_cases hkb:k ∈ bs
 ·by_cases hl:k < h.size
  ·rw [aKu hs (by simp [hkb]) hl,aKu hs hkb hl]
  by_cases hl2:k < h'.size
  ·simp [mix,hl2,hkb,hl]
  simp [mix,hl2]
 rw [yU (by simp [hk,hkb]),yU hkb]
def St.back:List Pl→List (List T)→St→Option St
 | [],[],σ=>some σ
 | (r,o,p,k) :: ps,l :: ls,σ=>if l.length=k then (σ.rootCells r).bind fun cs=>St.back ps ls (σ.setRoot true r (T.setP cs o p l)) else none
 | _,_,_=>none
theorem aKm {qs:List (Nat × Nat × Nat)} {q:Nat × Nat × Nat} {k:Nat} (hq:q ∈ qs) (hk:q.1=k):0 < (qs.map fun q=>if q.1=k then 1 else 0).sum:=by
 induction qs with
 | nil=>cases hq
 | cons x xs ih =>
  simp only [List.map_cons,List.sum_cons];rcases List.mem_cons.1 hq with rfl | h
  ·rw [if_pos hk];omega
  have:=ih h;omega
theorem aOo {h h':Array Obj} (hs:h.size ≤ h'.size):∀ (pls:List Pl) (qs:List (Nat × Nat × Nat)) (ls:List (List TA)) (s:StA) (rest:List TA) (w:World) (σ':St),SRel C Z s a w→w.heap=mix h' h (qs.map Prod.fst)→s.hd=ls.flatten ++ rest→aEn s pls qs→yL Z h' qs ls →
  (∀ k,TA.cntL k ls.flatten + (qs.map fun q=>if q.1=k then 1 else 0).sum ≤ 1)→(∀ q ∈ qs,¬ Z q.1)→(∀ q ∈ qs,aBu h h' q.1 q.2.1 q.2.2)→St.back pls (ls.map TA.erL) s.er=some σ' →
  ∃ s',s'.er=σ'∧s'.hd=rest∧SRel C Z s' a { w with heap:=h' }
 | [],[],[],s,rest,w,σ',H,hw,hhd,hp,ho,hu,hz,hout,hbk=>by
  simp only [List.map_nil,St.back,Option.some.injEq] at hbk;subst hbk;have:w.heap=h':=by
   rw [hw];apply Array.ext_getElem?;intro k;exact yU (by simp)
  exact ⟨s,rfl,by simpa using hhd,by rw [← this];exact H⟩
 | [],_ :: _,_,s,rest,w,σ',H,hw,hhd,hp,ho,hu,hz,hout,hbk=>hp.elim
 | _ :: _,[],_,s,rest,w,σ',H,hw,hhd,hp,ho,hu,hz,hout,hbk=>hp.elim
 | [],[],_ :: _,s,rest,w,σ',H,hw,hhd,hp,ho,hu,hz,hout,hbk=>ho.elim
 | _ :: _,(b,off,n) :: qs,[],s,rest,w,σ',H,hw,hhd,hp,ho,hu,hz,hout,hbk=>by simp [yL] at ho
 | (r,o,p,k) :: pls,(b,off,n) :: qs,l :: ls,s,rest,w,σ',H,hw,hhd,hp,ho,hu,hz,hout,hbk=>by
  obtain ⟨⟨base,cs,old,g1,g2,g3,g4,g5⟩,hkn,hne,hp2⟩:=hp;simp only at g1 g2 g4 g5 hkn;subst hkn;obtain ⟨o1,o2,o3,o4,o5⟩:=ho;simp only [List.map_cons,St.back] at hbk;rw [StA.er_rootCells,g1] at hbk;split at hbk
  case isFalse=>cases hbk
  simp only [Option.map_some,Option.bind_some] at hbk;have hb:b ∉ qs.map Prod.fst:=by
   intro hm;obtain ⟨q,hq,hq2⟩:=List.mem_map.1 hm;have:=hu b;simp only [List.map_cons,List.sum_cons,if_true] at this;have h2:=aKm (k:=b) hq hq2;omega
  have hl:TA.HoldsL Z w.heap l:=TA.HoldsL.frame l o2 (fun _ h=>h) (fun j hj=>by
   rw [hw];refine yU ?_;intro hm;obtain ⟨q,hq,hq2⟩:=List.mem_map.1 hm;rcases hj with hj | hj
   ·have:=hu j;have h2:=aKm (k:=j) hq hq2;simp only [List.flatten_cons,TA.cntL_append] at this;omega
   exact hz q hq (hq2 ▸ hj))
  have hrest:TA.HoldsL Z w.heap (ls.flatten ++ rest):=by
   have:=H.hand;rw [hhd,List.flatten_cons,List.append_assoc] at this;exact (holdsL_append.1 this).2
  have hstep:=H.storePlace (full:=true) (new:=l) (hd':=ls.flatten ++ rest) g1 g2 g4 o4 g5 hl o3 (fun q=>by rw [hhd];simp only [List.flatten_cons,TA.cntL_append];omega) hrest (fun h=>by cases h)
  have hw2:wr w.heap b off (TA.vals l)=mix h' h (qs.map Prod.fst):=by
   rw [hw];exact mix_wr hs (hout _ (by simp)) o1 (by rw [TA.vals_length,o4]) hb
  simp only at hstep;rw [hw2] at hstep;have hkeep:∀ pl ∈ pls,(s.setRoot true r (TA.setP cs o p l) (ls.flatten ++ rest)).rootCells pl.1=s.rootCells pl.1:=by
   intro pl hpl;refine cK ?_;have:=List.all_eq_true.1 hne pl hpl;simpa using this
  rw [show T.setP (TA.erL cs) o p (TA.erL l)=TA.erL (TA.setP cs o p l) from (TA.er_set _ _ _ _).symm,← StA.er_setRoot s true r (TA.setP cs o p l) (ls.flatten ++ rest)] at hbk;obtain ⟨s',e1,e2,e3⟩:=aOo hs pls qs ls _ rest _ σ' hstep rfl (pK _ _ _ _ _) (xL _ _ hkeep hp2) o5
   (fun j=>by have:=hu j;simp only [List.flatten_cons,TA.cntL_append,List.map_cons,List.sum_cons] at this;omega) (fun q hq=>hz q (by simp [hq])) (fun q hq=>hout q (by simp [hq])) hbk
  exact ⟨s',e1,e2,e3⟩
end Go.OM
namespace Go.OM
variable {C:Ctx} {Z Z':Nat→Prop} {s:StA} {a:Act} {w w':World} {E:Env} {o:Oper} {σ σ':St} {K:Act→World→Prop} {Q:Exit→Act→World→Prop}
theorem oE (k:Nat):∀ (as:List ArgA),pcL k as=((tD as).map fun q=>if q.1=k then 1 else 0).sum
 | []=>rfl
 | .val x :: as=>by simp [pcL,ArgA.pc,tD,oE k as]
 | .ptr b off cs :: as=>by simp [pcL,ArgA.pc,tD,oE k as]
def St.lend (N:Nat) (ms:List (Mode × Operand)) (σ:St):Option (List Arg × List Pl × St) :=
 (σ.lendT N ms).bind fun x=>(St.lendP ms x.1 x.2).bind fun y=>(y.2.2.lendB (y.2.1.map Prod.fst) ms y.1).map fun z=>(z,y.2.1,y.2.2)
def aM2:List T→AV
 | [x]=>.t x
 | xs=>.tup xs
def St.land (N:Nat) (dst:Option Nat) (bor:Bool) (pls:List Pl) (res:List T) (outs:List (List T)) (σ:St):Option St :=
 if bor=true→T.noRoL res=true∧T.noRoL outs.flatten=true then (St.back pls outs σ).bind fun σ1=>σ1.put? N dst (aM2 res) else none
theorem aFe {h:Array Obj}:∀ (qs:List (Nat × Nat × Nat)) (ls:List (List TA)),yL Z h qs ls→TA.HoldsL Z h ls.flatten
 | [],[],_=>by simp [TA.HoldsL]
 | [],_ :: _,h=>h.elim
 | (_,_,_) :: _,[],h=>h.elim
 | (b,off,n) :: qs,l :: ls,h=>by
  obtain ⟨h1,h2,h3,h4,h5⟩:=h;rw [List.flatten_cons];exact holdsL_append.2 ⟨h2,aFe qs ls h5⟩
theorem aHy {h:Array Obj}:∀ (qs:List (Nat × Nat × Nat)) (ls:List (List TA)),T.noRoL (TA.erL ls.flatten)=true→yL Z h qs ls→yL Z' h qs ls
 | [],[],_,_=>trivial
 | [],_ :: _,_,h=>h.elim
 | (_,_,_) :: _,[],_,h=>h.elim
 | (b,off,n) :: qs,l :: ls,hn,h=>by
  obtain ⟨h1,h2,h3,h4,h5⟩:=h;rw [List.flatten_cons] at hn;have hn2:T.noRoL (TA.erL l)=true∧T.noRoL (TA.erL ls.flatten)=true:=by
   have key:∀ (x y:List TA),T.noRoL (TA.erL (x ++ y))=true→T.noRoL (TA.erL x)=true∧T.noRoL (TA.erL y)=true:=by
    intro x y;induction x with
    | nil=>intro h;exact ⟨rfl,h⟩
    | cons t ts ih =>
     intro h;simp only [List.cons_append,TA.erL,T.noRoL,Bool.and_eq_true] at h ⊢;exact ⟨⟨h.1,(ih h.2).1⟩,(ih h.2).2⟩
   exact key _ _ hn
  exact ⟨h1,TA.HoldsL.noRo l hn2.1 h2,h3,h4,aHy qs ls hn2.2 h5⟩
theorem aFh:∀ (ls:List (List TA)),(ls.map TA.erL).flatten=TA.erL ls.flatten
 | []=>rfl
 | l :: ls=>by rw [List.map_cons,List.flatten_cons,List.flatten_cons,aFh ls];simp [TA.erL_map]
theorem aNk {h:Array Obj} {rs:List TA} (hh:TA.HoldsL Z h rs) (s:StA):∃ xA:AVA,xA.er=aM2 (TA.erL rs)∧ValOk s Z h xA (aKh rs)∧∀ k,xA.cnt k=TA.cntL k rs:=by
 match rs,hh with
 | [],hh=>exact ⟨.tup [],rfl,⟨rfl,hh⟩,fun k=>rfl⟩
 | [x],hh =>
  simp only [TA.HoldsL] at hh;exact ⟨.t x,rfl,⟨rfl,hh.1⟩,fun k=>by simp [AVA.cnt,TA.cntL]⟩
 | x :: y :: l,hh=>exact ⟨.tup (x :: y :: l),rfl,⟨rfl,hh⟩,fun k=>rfl⟩
theorem aGx {run:List Value→World→(Ending→World→Prop)→Prop} (hrun:∀ (vs:List Value) (w:World) (P Q:Ending→World→Prop),(∀ e w',P e w'→Q e w')→run vs w P→run vs w Q) {ms:List (Mode × Operand)} {args:List Arg} {res:List T} {outs:List (List T)} {pls:List Pl} {σ2:St} {dst:Option Nat} (hG:∀ s Z,s.er=σ→SRel C Z s a w→E.GOk Z w.heap)
  (hok:∀ (w:World) (Z:Nat→Prop) (as:List ArgA),as.map ArgA.er=args→as.map ArgA.value=ms.map (evm a)→ArgsOk Z w.heap as→E.GOk Z w.heap→run (as.map ArgA.value) w fun e w'=>∃ Z' rs ls,e = .returned (aKh rs)∧TA.erL rs=res∧ls.map TA.erL=outs∧Back w Z as Z' rs ls w') (hl:σ.lend C.N ms=some (args,pls,σ2))
  (hb:St.land C.N dst (ms.any fun m=>m.1.isBor) pls res outs σ2=some σ') (H:SOk C σ a w):run (ms.map (evm a)) w fun e w'=>∃ v,e = .returned v∧SOk C σ' (a.put dst v) w':=by
 obtain ⟨s0,Z,h1,h2,h3⟩:=H;have hG0:=hG s0 Z h1 h3;subst h1;unfold St.lend at hl;obtain ⟨⟨as1,σ1⟩,hlT,hl⟩:=Option.bind_eq_some_iff.1 hl;obtain ⟨⟨as2,pls',σ2'⟩,hlP,hl⟩:=Option.bind_eq_some_iff.1 hl;obtain ⟨as3,hlB,hl⟩:=Option.map_eq_some_iff.1 hl;simp only [Prod.mk.injEq] at hl;obtain ⟨rfl,rfl,rfl⟩:=hl;simp only at hlB hlP;obtain ⟨s1,asA,t1,t2,t3,t4,t5,t6,t7⟩:=xR ms s0 _ _ h3 hlT;subst t2;subst t1;obtain ⟨s2,asB,p1,p2,p3,p4,p5,p6,p7⟩:=aCl ms asA s1 _ _ _ t3 t6 t7 t5 hlP;subst p2;subst p1;obtain ⟨as,b1,b2,b3,b4,b5,b6,b7⟩:=aCm p3 p7 ms asB _ p6 p5 hlB;subst b1;rw [← b6] at p7 b3;have hhd:∀ k,TA.cntL k s2.hd=sH k as:=by
  intro k;have e1:=p4 k;have e2:=t4 k;have e3:=b4 k;rw [h2] at e2;simp only [TA.cntL] at e2;omega
 -- the parts that are lent
 have hpl:∀ q ∈ tD as,0 < s2.own q.1:=by
  intro q hq;obtain ⟨pl,hpl,g,_⟩:=aDf _ _ p7 q hq;exact Nat.lt_of_lt_of_le (aJ9 g) (aNq _ _ _)
 have hpc1:∀ k,pcL k as ≤ s2.own k:=by
  intro k;have key:∀ (pls:List Pl) (qs:List (Nat × Nat × Nat)),aEn s2 pls qs→((qs.map fun q=>if q.1=k then 1 else 0).sum=0) ∨ ((qs.map fun q=>if q.1=k then 1 else 0).sum=1∧∃ pl ∈ pls,0 < s2.rc pl.1 k):=by
   intro pls;induction pls with
   | nil =>
    intro qs hp;cases qs with
    | nil=>left;rfl
    | cons q qs=>exact hp.elim
   | cons pl pls ih =>
    intro qs hp;cases qs with
    | nil=>exact hp.elim
    | cons q qs =>
     obtain ⟨b,off,n⟩:=q;obtain ⟨g1,g2,g3,g4⟩:=hp;have hrc:=aJ9 g1;simp only at hrc;simp only [List.map_cons,List.sum_cons];rcases ih qs g4 with h | ⟨h,pl2,hp2,hrc2⟩
     ·by_cases e:b=k
      ·right;rw [if_pos e,h];exact ⟨rfl,pl,by simp,e ▸ hrc⟩
      left;rw [if_neg e,h]
     by_cases e:b=k
     ·exfalso;subst e;have hne:pl.1 ≠ pl2.1:=by
       have:=List.all_eq_true.1 g3 pl2 hp2;simp only [ne_eq,decide_eq_true_eq] at this;exact fun e=>this e.symm
      have h5:=rc_rc s2 hne b;have h6:=p3.uniq b;simp only [StA.cnt] at h6;unfold StA.own at h5;omega
     right;rw [if_neg e,h];exact ⟨rfl,pl2,by simp [hp2],hrc2⟩
  rw [oE];rcases key _ _ p7 with h | ⟨h,pl,_,hrc⟩
  ·omega
  have:=aNq s2 pl.1 k;omega
 have hcnt:∀ k,s2.cnt k=s2.own k + TA.cntL k s2.hd:=fun k=>rfl;have hargs:∀ (Y:Nat→Prop),(∀ x ∈ as,x.Holds Y w.heap)→(∀ k,Y k→zc Z s2 (tD as) k)→ArgsOk Y w.heap as:=by
  intro Y hY hle;refine ⟨hY,fun k=>?_,fun k hk hz=>?_,fun k hk=>?_⟩
  ·have e1:=hpc1 k;have e2:=p3.uniq k;have e3:=hcnt k;have e4:=hhd k;omega
  ·have e1:=hpc1 k;have e2:=p3.uniq k;have e3:=hcnt k;have e4:=hhd k;rcases hle k hz with h | ⟨h,hne⟩
   ·exact p3.notZ k (by omega) h
   have:0 < pcL k as:=by omega
   rw [oE] at this;have hex:∃ q ∈ tD as,q.1=k:=by
    generalize tD as=qs at this;induction qs with
    | nil=>simp at this
    | cons q qs ih =>
     simp only [List.map_cons,List.sum_cons] at this;by_cases e:q.1=k
     ·exact ⟨q,by simp,e⟩
     rw [if_neg e] at this;obtain ⟨q2,h5,h6⟩:=ih (by omega)
     exact ⟨q2,by simp [h5],h6⟩
   obtain ⟨q,hq,e⟩:=hex;exact hne q hq e
  rcases hle k hk with h | ⟨h,_⟩
  ·exact p3.zlt k h
  exact p3.lt k (by rw [hcnt];omega)
 rw [b2]
 -- the two ways: with what is borrowed, or without
 have main:∀ (Y:Nat→Prop),(∀ x ∈ as,x.Holds Y w.heap)→(∀ k,Z k→Y k)→(∀ k,Y k→zc Z s2 (tD as) k)→(((ms.any fun m=>m.1.isBor)=false∧∀ k,Y k→Z k) ∨ (T.noRoL res=true∧T.noRoL outs.flatten=true)) →
   run (as.map ArgA.value) w fun e w'=>∃ v,e = .returned v∧SOk C σ' (a.put dst v) w':=by
  intro Y hY hZY hYz hcase;refine hrun _ _ _ _ (fun e w' ⟨Z',rs,ls,he,hrs,hls,B⟩=>⟨aKh rs,he,?_⟩) (hok w Y as rfl b2.symm (hargs Y hY hYz) (fun b hb=>⟨hZY b.1 (hG0 b hb).1,(hG0 b hb).2⟩));subst hrs;subst hls;have hlen0:w.heap.size ≤ w'.heap.size:=B.grown;have hpinn:∀ q ∈ tD as,sH q.1 as=0:=by
   intro q hq;have e1:=hpl q hq;have e2:=p3.uniq q.1;have e3:=hcnt q.1;have e4:=hhd q.1;omega
  have hplt:∀ q ∈ tD as,q.1 < w.heap.size:=fun q hq=>p3.lt _ (by have:=hpl q hq;rw [hcnt];omega)
  have hpz:∀ q ∈ tD as,¬ Z' q.1:=by
   intro q hq hz;rcases B.zext _ hz with h | h | h
   ·rcases hYz _ h with h | ⟨_,h⟩
    ·exact p3.notZ _ (by have:=hpl q hq;rw [hcnt];omega) h
    exact h q hq rfl
   ·have:=hplt q hq;omega
   have:=hpinn q hq;omega
  -- what is read only then
  obtain ⟨Z1,z1,z2,z3,z4⟩:∃ Z1:Nat→Prop,(∀ k,Z k→Z1 k)∧(∀ k,Z1 k→Z' k)∧(∀ k,Z1 k→Z k ∨ w.heap.size ≤ k ∨ 0 < sH k as)∧(TA.HoldsL Z1 w'.heap rs∧yL Z1 w'.heap (tD as) ls):=by
   rcases hcase with ⟨_,hYZ⟩ | ⟨hn1,hn2⟩
   ·exact ⟨Z',fun k h=>B.zle k (hZY k h),fun _ h=>h,fun k h=>(B.zext k h).imp (hYZ k) id,B.holds,B.outs⟩
   rw [aFh] at hn2;exact ⟨Z,fun _ h=>h,fun k h=>B.zle k (hZY k h),fun k h=>.inl h,TA.HoldsL.noRo rs hn1 B.holds,aHy _ _ hn2 B.outs⟩
  have hmix:∀ k,(0 < TA.cntL k rs + TA.cntL k ls.flatten ∨ Z1 k)→(mix w'.heap w.heap ((tD as).map Prod.fst))[k]? = w'.heap[k]?:=by
   intro k hk;refine yU fun hm=>?_;obtain ⟨q,hq,hq2⟩:=List.mem_map.1 hm;rcases hk with h | h
   ·have e1:=B.uniq k;rw [oE] at e1;have e2:=aKm hq hq2;omega
   exact hpz q hq (hq2 ▸ z2 k h)
  have hR:=p3.replaceHand (Z':=Z1) (w':={ w' with heap:=mix w'.heap w.heap ((tD as).map Prod.fst) }) (hd':=ls.flatten ++ rs) (by rw [aKt];exact hlen0) B.os B.tape B.output
   (fun k hk h0=>by
    by_cases hm:k ∈ (tD as).map Prod.fst
    ·exact aKu hlen0 hm hk
    refine (yU hm).trans (B.kept k hk ?_);rw [hhd] at h0;have:pcL k as=0:=by
     rcases Nat.eq_zero_or_pos (pcL k as) with h | h
     ·exact h
     exfalso;apply hm;rw [oE] at h;clear hmix hpz hplt hpinn hpl hpc1 B hY hargs hYz z4 b3 p7 b6;generalize tD as=qs at h;induction qs with
     | nil=>simp at h
     | cons q qs ih =>
      simp only [List.map_cons,List.sum_cons] at h;by_cases e:q.1=k
      ·simp [e]
      rw [if_neg e] at h;have:=ih (by omega)
      rw [List.map_cons];exact List.mem_cons_of_mem _ this
    omega)
   z1 (fun k hk=>by rw [hhd];exact z3 k hk) (fun k hk=>by show k < (mix w'.heap w.heap _).size;rw [aKt];exact B.zlt k (z2 k hk))
   (holdsL_append.2 ⟨TA.HoldsL.frame _ (aFe _ _ z4.2) (fun _ h=>h) (fun k hk=>hmix k (by rcases hk with h | h;exact .inl (by omega);exact .inr h)),TA.HoldsL.frame _ z4.1 (fun _ h=>h) (fun k hk=>hmix k (by rcases hk with h | h;exact .inl (by omega);exact .inr h))⟩)
   (fun k=>by rw [TA.cntL_append];have:=B.uniq k;omega)
   (fun k hk=>by
    rw [TA.cntL_append] at hk;have:=B.own k (by omega)
    rw [hhd];exact ⟨this.1,fun h=>this.2 (z2 k h)⟩)
  unfold St.land at hb;split at hb
  case isFalse=>cases hb
  obtain ⟨σ3,hbk,hput⟩:=Option.bind_eq_some_iff.1 hb;obtain ⟨s4,e1,e2,e3⟩:=aOo (h:=w.heap) (h':=w'.heap) hlen0 pls' (tD as) ls _ rs _ σ3 hR rfl rfl (xL _ _ (fun pl _=>by cases pl.1<;>rfl) p7) z4.2
   (fun k=>by have:=B.uniq k;rw [oE] at this;omega) (fun q hq h=>hpz q hq (z2 _ h)) B.part hbk
  have hrs:TA.HoldsL Z1 w'.heap rs:=z4.1;obtain ⟨xA,x1,x2,x3⟩:=aNk hrs s4;exact SOk.put? e3 e1 hput x1 x2 (fun k=>by rw [x3,e2];exact Nat.le_refl _)
 by_cases hbor:(ms.any fun m=>m.1.isBor)=true
 ·refine main (zc Z s2 (tD as)) b3 (fun _ h=>.inl h) (fun _ h=>h) (.inr ?_);unfold St.land at hb;split at hb
  case isFalse=>cases hb
  rename_i hc;exact hc hbor
 have hbf:(ms.any fun m=>m.1.isBor)=false:=by simpa using hbor
 exact main Z (b7 hbf) (fun _ h=>h) (fun _ h=>.inl h) (.inl ⟨hbf,fun _ h=>h⟩)
theorem aOl {f:FuncId} {ms:List (Mode × Operand)} {args:List Arg} {res:List T} {outs:List (List T)} {pls:List Pl} {σ2:St} {dst:Option Nat} (hG:∀ s Z,s.er=σ→SRel C Z s a w→E.GOk Z w.heap) (hok:Ok E f args res outs) (hl:σ.lend C.N ms=some (args,pls,σ2))
  (hb:St.land C.N dst (ms.any fun m=>m.1.isBor) pls res outs σ2=some σ') (H:SOk C σ a w):Calls E.P f (ms.map (evm a)).toArray w fun e w'=>∃ v,e = .returned v∧SOk C σ' (a.put dst v) w' :=
 aGx (run:=fun vs w Q=>Calls E.P f vs.toArray w Q) (fun _ _ _ _ h1 h2=>h2.mono h1) hG (fun w Z as h1 _ h2 h3=>hok w Z as h1 h2 h3) hl hb H
end Go.OM
namespace Go.OM
variable {C:Ctx} {Z Z':Nat→Prop} {s:StA} {a:Act} {w w':World} {E:Env} {o:Oper} {σ σ':St} {K:Act→World→Prop} {Q:Exit→Act→World→Prop}
theorem SRel.givePlace {r:Root} {base:Option (Nat × Nat)} {cs old new hd':List TA} {o k:Nat} {p:Path} (H:SRel C Z s a w) (hr:s.rootCells r=some (base,cs)) (hg:TA.getP cs o p k=some old) (hk:new.length=k) (hv:TA.vals new=TA.vals old) (hN:TA.HoldsL Z w.heap new) (hNC:∀ c ∈ new,c.isCell=true)
  (hcnt:∀ q,TA.cntL q new + TA.cntL q hd' ≤ TA.cntL q s.hd) (hhd:TA.HoldsL Z w.heap hd'):SRel C Z (s.setRoot true r (TA.setP cs o p new) hd') a w:=by
 obtain ⟨h1,h2,h3,h4⟩:=gL H hr;obtain ⟨r1,r2,r3,r4,r5⟩:=TA.swap_place p cs o k old new hg hk hv h1 h2 hN hNC;have:=H.upd (full:=true) (hd':=hd') (h':=w.heap) (b:=0) hr rfl (fun _ _=>rfl) (.inl rfl) r3 r1 r2 (fun b0 o0 hb=>by rw [r4];exact h3 b0 o0 hb) (fun _=>r4)
  (fun q=>by have:=r5 q;have:=hcnt q;omega) hhd (fun _ _ _ _=>.inl rfl) (fun h=>by cases h)
 exact this
theorem aNu {g:TA} {k:Option Nat} {l:List TA} {h:Array Obj} (hk:kOf g.er=k) (hg:g.Holds Z h) (hl:k=none→l.length=1) (hlc:∀ c ∈ l,c.isCell=true) (hv:g.val=oY k l):TA.vals g.cells=TA.vals l:=by
 cases g with
 | agg cs =>
  simp only [TA.er,kOf] at hk;subst hk;simp only [TA.val,oY,Value.agg.injEq] at hv;show TA.vals cs=TA.vals l;simpa using congrArg Array.toList hv
 | v x =>
  simp only [TA.er,kOf] at hk;subst hk;obtain ⟨y,rfl⟩:=List.length_eq_one_iff.1 (hl rfl);simpa [TA.cells,TA.vals,TA.val,oY] using hv
 | nl ow sz A =>
  simp only [TA.er,kOf] at hk;subst hk;obtain ⟨y,rfl⟩:=List.length_eq_one_iff.1 (hl rfl);simpa [TA.cells,TA.vals,TA.val,oY] using hv
 | sl ow sz b off cap es =>
  simp only [TA.er,kOf] at hk;subst hk;obtain ⟨y,rfl⟩:=List.length_eq_one_iff.1 (hl rfl);simpa [TA.cells,TA.vals,TA.val,oY] using hv
 | dead x =>
  simp only [TA.er,kOf] at hk;subst hk;obtain ⟨y,rfl⟩:=List.length_eq_one_iff.1 (hl rfl);simpa [TA.cells,TA.vals,TA.val,oY] using hv
 | clo f cs =>
  simp only [TA.er,kOf] at hk;subst hk;obtain ⟨y,rfl⟩:=List.length_eq_one_iff.1 (hl rfl);simpa [TA.cells,TA.vals,TA.val,oY] using hv
 | pt b off cs =>
  simp only [TA.er,kOf] at hk;subst hk;obtain ⟨y,rfl⟩:=List.length_eq_one_iff.1 (hl rfl);simpa [TA.cells,TA.vals,TA.val,oY] using hv
def St.plains (σ:St):List Operand→Option (List T)
 | []=>some []
 | x :: xs=>(match σ.op x with
  | .t y=>if y.hasOwn=true then none else some y
  | _=>none).bind fun y=>(St.plains σ xs).map fun ys=>y :: ys
theorem aDg (H:SRel C Z s a w):∀ (xs:List Operand) (ys:List T),s.er.plains xs=some ys→∃ zs:List TA,zs.map TA.er=ys∧(∀ z ∈ zs,z.Holds Z w.heap∧z.er.hasOwn=false)∧xs.map a.eval=zs.map TA.val
 | [],ys,h=>by
  simp only [St.plains,Option.some.injEq] at h;subst h;exact ⟨[],rfl,by simp,rfl⟩
 | x :: xs,ys,h=>by
  simp only [St.plains] at h;obtain ⟨y,hy,h⟩:=Option.bind_eq_some_iff.1 h;obtain ⟨ys',hys,rfl⟩:=Option.map_eq_some_iff.1 h;obtain ⟨zs,h1,h2,h3⟩:=aDg H xs ys' hys;obtain ⟨xA,e1,e2⟩:=opA H x;split at hy
  case h_2=>cases hy
  rename_i t ht;split at hy
  ·cases hy
  rename_i hno;injection hy with hy
  subst hy;rw [ht] at e1;obtain ⟨zA,rfl,rfl⟩:=aE3 e1;refine ⟨zA :: zs,by simp [h1],?_,by simp [h3,e2.1]⟩
  intro z hz;rcases List.mem_cons.1 hz with rfl | hz
  ·exact ⟨e2.2,by simpa using hno⟩
  exact h2 z hz
def OkIO (E:Env) (f:FuncId) (args:List Arg) (res:List T) (outs:List (List T)) (io:List (Nat × T)):Prop :=
 ∀ (w:World) (Z:Nat→Prop) (as:List ArgA),as.map ArgA.er=args→ArgsOk Z w.heap as→E.GOk Z w.heap →
  Calls E.P f (as.map ArgA.value).toArray w fun e w'=>∃ Z' rs ls gs,e = .returned (aKh rs)∧TA.erL rs=res∧ls.map TA.erL=outs∧TA.erL gs=io.map Prod.snd∧gs.map TA.val=io.map (fun p=>(((as.map ArgA.value)[p.1]?).getD undef))∧Back w Z as Z' (rs ++ gs) ls w'
def St.callIO (N:Nat) (dst:Option Nat) (pre:List Operand) (x:Operand) (xs:List Operand) (y':T) (res:List T) (σ:St):Option (List Arg × St):=match σ.op x with
 | .al r o p k=>(σ.rootCells r).bind fun cs=>(T.getP cs o p (k.getD 1)).bind fun l=>(St.plains σ pre).bind fun ys0=>(St.plains σ xs).bind fun ys =>
   if kOf y'=k∧y'.cells.length=k.getD 1 then (((σ.setRoot true r (T.setP cs o p (l.map T.bury))).setRoot true r (T.setP (T.setP cs o p (l.map T.bury)) o p y'.cells)).put? N dst (aM2 res)).map fun σ1=>(ys0.map Arg.val ++ .val (mkT k l) :: ys.map Arg.val,σ1) else none
 | _=>none
theorem aJv {σ:St} {N:Nat} {dst:Option Nat} {pre:List Operand} {x:Operand} {xs:List Operand} {args:List Arg} {y':T} {res:List T} {σ':St} (h:σ.callIO N dst pre x xs y' res=some (args,σ')):∃ r o p k cs l ys0 ys,σ.op x = .al r o p k∧σ.rootCells r=some cs∧T.getP cs o p (k.getD 1)=some l∧St.plains σ pre=some ys0∧St.plains σ xs=some ys∧kOf y'=k∧y'.cells.length=k.getD 1∧args=ys0.map Arg.val ++ .val (mkT k l) :: ys.map Arg.val∧((σ.setRoot true r (T.setP cs o p (l.map T.bury))).setRoot true r (T.setP (T.setP cs o p (l.map T.bury)) o p y'.cells)).put? N dst (aM2 res)=some σ':=by
 unfold St.callIO at h;split at h
 case h_2=>cases h
 rename_i r o p k hx;obtain ⟨cs,hcs,h⟩:=Option.bind_eq_some_iff.1 h;obtain ⟨l,hl,h⟩:=Option.bind_eq_some_iff.1 h;obtain ⟨ys0,hys0,h⟩:=Option.bind_eq_some_iff.1 h;obtain ⟨ys,hys,h⟩:=Option.bind_eq_some_iff.1 h;split at h
 ·rename_i hc;obtain ⟨σ1,hσ,h⟩:=Option.map_eq_some_iff.1 h;simp only [Prod.mk.injEq] at h;obtain ⟨rfl,rfl⟩:=h;exact ⟨r,o,p,k,cs,l,ys0,ys,hx,hcs,hl,hys0,hys,hc.1,hc.2,rfl,hσ⟩
 cases h
theorem aIb (q:Nat):∀ zs:List TA,(∀ z ∈ zs,z.cnt q=0)→sH q (zs.map ArgA.val)=0
 | [],_=>rfl
 | z :: zs,h=>by simp only [List.map_cons,sH,ArgA.inn,h z (by simp),aIb q zs (fun z hz=>h z (by simp [hz]))]
theorem aKp (q:Nat):∀ zs:List TA,pcL q (zs.map ArgA.val)=0
 | []=>rfl
 | z :: zs=>by simp only [List.map_cons,pcL,ArgA.pc,aKp q zs]
theorem aOm {f:FuncId} {pre:List Operand} {x:Operand} {xs:List Operand} {args:List Arg} {y':T} {res:List T} {dst:Option Nat} (hG:∀ s Z,s.er=σ→SRel C Z s a w→E.GOk Z w.heap) (hok:OkIO E f args res [] [(pre.length,y')]) (hl:σ.callIO C.N dst pre x xs y' res=some (args,σ')) (H:SOk C σ a w):Calls E.P f ((pre ++ x :: xs).map a.eval).toArray w fun e w'=>∃ v,e = .returned v∧SOk C σ' (a.put dst v) w':=by
 obtain ⟨s,Z,h1,h2,h3⟩:=H;have hG0:=hG s Z h1 h3;subst h1;obtain ⟨r,o,p,k,csT,lT,ys0,ys,hx,hcs,hgT,hys0,hys,hk1,hk2,hargs,hput⟩:=aJv hl;obtain ⟨xA,e1,e2⟩:=opA h3 x;rw [hx] at e1;rw [aMr e1] at e2;obtain ⟨base,cs,l,g1,g2,g3,g4⟩:=e2;rw [StA.er_rootCells,g1] at hcs;simp only [Option.map_some,Option.some.injEq] at hcs;subst hcs;obtain ⟨l',t1,t2⟩:=TA.er_get _ _ _ _ _ hgT;rw [g2] at t1;injection t1 with t1
 subst t1;subst t2;have hlen:k=none→l.length=1:=fun hk=>by rw [TA.getP_length _ _ _ _ _ g2,hk];rfl
 obtain ⟨q1,q2,q3,q4⟩:=gL h3 g1;obtain ⟨r1,r2,r3⟩:=h3.takePlace g1 g2;obtain ⟨b1,b2,b3,b4⟩:=iM r2 r3;have hbl:(l.map TA.bury).length=k.getD 1:=by rw [List.length_map];exact TA.getP_length _ _ _ _ _ g2
 have hset:TA.getP (TA.setP cs o p (l.map TA.bury)) o p (k.getD 1)=some (l.map TA.bury):=aDy p cs o (k.getD 1) l _ g2 hbl b2 q2 q1;have hroot:=pB (full:=true) (hd':=l ++ s.hd) g1 (TA.setP_length _ p _ _ _ _ g2 hbl) (TA.setP_isCell _ b2 p _ _ q2);generalize hs1:s.setRoot true r (TA.setP cs o p (l.map TA.bury)) (l ++ s.hd)=s1 at r1 hroot;have hs1hd:s1.hd=l:=by rw [← hs1,pK,h2,List.append_nil]
 obtain ⟨zs0,w1,w2,w3⟩:=aDg h3 pre ys0 hys0;obtain ⟨zs,z1,z2,z3⟩:=aDg h3 xs ys hys;have hpl:pre.length=zs0.length:=by have:=congrArg List.length w3;simpa using this
 have hyH:(yM k l).Holds Z w.heap:=gN hlen r3 r2;have hcy:∀ q,(yM k l).cnt q=TA.cntL q l:=fun q=>qZ q hlen;have hz0:∀ q,∀ z ∈ zs,z.cnt q=0:=fun q z hz=>TA.cnt_of_noOwn q z (z2 z hz).2;have hw0:∀ q,∀ z ∈ zs0,z.cnt q=0:=fun q z hz=>TA.cnt_of_noOwn q z (w2 z hz).2;have happI:∀ (q:Nat) (us:List TA) (vs:List ArgA),(∀ z ∈ us,z.cnt q=0)→sH q (us.map ArgA.val ++ vs)=sH q vs:=by
  intro q us vs;induction us with
  | nil=>intro _;rfl
  | cons z zs ih=>intro h;simp only [List.map_cons,List.cons_append,sH,ArgA.inn,h z (by simp),ih (fun z hz=>h z (by simp [hz]))];omega
 have happP:∀ (q:Nat) (us:List TA) (vs:List ArgA),pcL q (us.map ArgA.val ++ vs)=pcL q vs:=by
  intro q us vs;induction us with
  | nil=>rfl
  | cons z zs ih=>simp only [List.map_cons,List.cons_append,pcL,ArgA.pc,ih];omega
 have hinn:∀ q,sH q (zs0.map ArgA.val ++ .val (yM k l) :: zs.map ArgA.val)=TA.cntL q l:=by
  intro q;rw [happI q zs0 _ (hw0 q)];simp only [sH,ArgA.inn,hcy,aIb q zs (hz0 q)];omega
 have hpc:∀ q,pcL q (zs0.map ArgA.val ++ .val (yM k l) :: zs.map ArgA.val)=0:=by
  intro q;rw [happP];simp only [pcL,ArgA.pc,aKp]
 have hA:ArgsOk Z w.heap (zs0.map ArgA.val ++ .val (yM k l) :: zs.map ArgA.val):=by
  refine ⟨fun y hy=>?_,fun q=>?_,fun q hq=>?_,r1.zlt⟩
  ·rcases List.mem_append.1 hy with hy | hy
   ·obtain ⟨z,hz,rfl⟩:=List.mem_map.1 hy;exact (w2 z hz).1
   rcases List.mem_cons.1 hy with rfl | hy
   ·exact hyH
   obtain ⟨z,hz,rfl⟩:=List.mem_map.1 hy;exact (z2 z hz).1
  ·rw [hinn,hpc];have:=r1.uniq q;simp only [StA.cnt,hs1hd] at this;omega
  rw [hinn,hpc] at hq;exact r1.notZ q (by simp only [StA.cnt,hs1hd];omega)
 have hev:((pre ++ x :: xs).map a.eval).toArray=((zs0.map ArgA.val ++ .val (yM k l) :: zs.map ArgA.val:List ArgA).map ArgA.value).toArray:=by
  congr 1
  simp only [List.map_append,List.map_cons,List.map_map,ArgA.value];rw [g4,z3,w3,qY hlen r3]
  rfl
 rw [hev];refine (hok w Z (zs0.map ArgA.val ++ .val (yM k l) :: zs.map ArgA.val) ?_ hA hG0).mono fun e w' ⟨Z',rs,ls,gs,he,hrs,hls,hgs,hgv,B⟩=>?_
 ·rw [hargs,← z1,← w1];simp only [List.map_append,List.map_cons,List.map_map,ArgA.er,wS]
  rfl
 refine ⟨aKh rs,he,?_⟩;subst hrs;have hls0:ls=[]:=by simpa using hls
 subst hls0;obtain ⟨g,rfl⟩:∃ g,gs=[g]:=by
  have:(TA.erL gs).length=1:=by rw [hgs];rfl
  rw [TA.erL_map,List.length_map] at this;exact List.length_eq_one_iff.1 this
 simp only [TA.erL,List.map_cons,List.map_nil,List.cons.injEq,and_true] at hgs;have hgx:((zs0.map ArgA.val ++ .val (yM k l) :: zs.map ArgA.val:List ArgA).map ArgA.value)[pre.length]? = some (yM k l).val:=by
  rw [List.map_append,List.getElem?_append_right (by simp;omega)]
  simp [hpl,ArgA.value]
 simp only [List.map_cons,List.map_nil,List.cons.injEq,and_true,hgx,Option.getD_some] at hgv;have hgval:g.val=oY k l:=by rw [hgv,qY hlen r3]
 have hBh:=holdsL_append.1 B.holds;have hgH:g.Holds Z' w'.heap:=by have:=hBh.2;simp only [TA.HoldsL] at this;exact this.1
 have hR:SRel C Z' ⟨s1.tm,s1.bx,rs ++ [g]⟩ a w':=by
  refine r1.replaceHand B.grown B.os B.tape B.output (fun q hq h0=>?_) B.zle (fun q hq=>?_) B.zlt B.holds (fun q=>?_) (fun q hq=>?_)
  ·refine B.kept q hq ?_;rw [hinn,hpc];rw [hs1hd] at h0;omega
  ·rcases B.zext q hq with h | h | h
   ·exact .inl h
   ·exact .inr (.inl h)
   rw [hinn] at h;right;right;rw [hs1hd];exact h
  ·have:=B.uniq q;omega
  have:=B.own q (by omega)
  rw [hinn] at this;rw [hs1hd];exact this
 have hroot2:(StA.mk s1.tm s1.bx (rs ++ [g])).rootCells r=some (base,TA.setP cs o p (l.map TA.bury)):=by
  rw [← hroot];cases r<;>rfl
 have hvals:TA.vals g.cells=TA.vals (l.map TA.bury):=by
  rw [b3];exact aNu (by rw [hgs];exact hk1) hgH hlen r3 hgval
 have hglen:g.cells.length=k.getD 1:=by
  have:(TA.erL g.cells).length=y'.cells.length:=by rw [← TA.er_cells,hgs]
  rw [TA.erL_map,List.length_map] at this;omega
 have hG:=hR.givePlace (hd':=rs) hroot2 hset hglen hvals (TA.holds_cells hgH) (TA.isCell_mem_cells hgH) (fun q=>by rw [TA.cntL_append,TA.cntL_cells];simp only [TA.cntL];omega) hBh.1
 obtain ⟨xA,x1,x2,x3⟩:=aNk hBh.1 ((StA.mk s1.tm s1.bx (rs ++ [g])).setRoot true r (TA.setP (TA.setP cs o p (l.map TA.bury)) o p g.cells) rs);refine SOk.put? hG ?_ hput x1 x2 (fun q=>by rw [x3,pK];exact Nat.le_refl _)
 have e3:s1.er=s.er.setRoot true r (T.setP (TA.erL cs) o p ((TA.erL l).map T.bury)):=by
  rw [← hs1,StA.er_setRoot,TA.er_set,rC]
 rw [StA.er_setRoot,TA.er_set,TA.er_set,rC,← TA.er_cells,hgs,← e3]
 rfl
def aFx (E:Env) (N:Nat) (dst:Option Nat) (ty:TypeId) (x:Operand) (σ:St):Option St:=match x with
 | .tmp n=>(match σ.get n with
  | .tup xs=>if T.hasOwnL xs=true then St.put? ⟨put σ.tm n .u,σ.bx⟩ N dst (.tup xs) else σ.put? N dst (.tup xs)
  | _=>aHh E N dst ty x σ)
 | _=>aHh E N dst ty x σ
theorem aLp {x:Operand} (ho:o.op = .move x) (h:aFx E C.N o.dst o.type x σ=some σ') (H:SOk C σ a w) (hK:∀ a' w',SOk C σ' a' w'→K a' w'):o.wp E.P a w K Q:=by
 unfold aFx at h;split at h
 case h_2=>exact aHg ho h H hK
 rename_i n;split at h
 case h_2=>exact aHg ho h H hK
 rename_i xs hx;obtain ⟨s,Z,h1,h2,h3⟩:=id H;subst h1;simp only [St.get,nF] at hx;cases hlk:look s.tm n with
 | none=>rw [hlk] at hx;simp at hx
 | some z =>
  rw [hlk] at hx;simp only [Option.map_some,Option.getD_some] at hx;obtain ⟨zs,rfl,rfl⟩:=aOa hx;obtain ⟨v1,v2⟩:=h3.tm n _ hlk;have hev:a.eval (.tmp n)=a.tmps.getD n undef:=rfl;refine bP (v:=a.tmps.getD n undef) (w':=w) (by simp [execOp,ho,hev]) (hK _ _ ?_)
  split at h
  case isFalse hno =>
   exact SOk.put0 h3 rfl h (xA:=.tup zs) rfl ⟨v1,v2⟩ (fun k=>TA.cntL_of_noOwn k zs (by simpa using hno))
  have hre:=h3.reslot (y:=.u) (hd':=zs) hlk (fun t e=>by cases e) (fun t e=>by cases e) trivial (fun k=>by simp only [AVA.cnt];omega) v2
  refine SOk.put? hre ?_ h (xA:=.tup zs) rfl ⟨v1,v2⟩ (fun k=>Nat.le_refl _);have e:(AVA.u).er = .u:=rfl;simp only [StA.er,pH,e]
def u8s:List T→Option (List Int)
 | []=>some []
 | .v (.int .u8 n) :: ts=>(u8s ts).map fun ns=>n :: ns
 | _=>none
@[simp] theorem u8s_map (l:List Int):u8s (l.map fun n=>T.v (.int .u8 n))=some l:=by
 induction l with
 | nil=>rfl
 | cons n l ih=>simp [u8s,ih]
@[simp] theorem u8s_nil:u8s []=some []:=rfl
@[simp] theorem u8s_cons (n:Int) (ts:List T):u8s (.v (.int .u8 n) :: ts)=(u8s ts).map fun ns=>n :: ns:=rfl
theorem aK7:∀ {ts:List TA} {ns:List Int},u8s (TA.erL ts)=some ns→ts=ns.map fun n=>.v (.int .u8 n)
 | [],ns,h=>by simp only [TA.erL,u8s,Option.some.injEq] at h;subst h;rfl
 | t :: ts,ns,h=>by
  simp only [TA.erL] at h;unfold u8s at h;split at h
  ·rename_i he;cases he
  ·rename_i n ts' he;simp only [List.cons.injEq] at he;obtain ⟨h1,rfl⟩:=he;obtain ⟨ms,hms,rfl⟩:=Option.map_eq_some_iff.1 h;rw [er_v h1,aK7 hms];rfl
  cases h
theorem aO6:∀ ns:List Int,TA.vals ((ns.map fun n=>TA.v (.int .u8 n)).flatMap TA.cells)=ns.map (Value.int .u8)
 | []=>rfl
 | n :: ns=>by
  have:=aO6 ns;simp only [List.map_cons,List.flatMap_cons,TA.cells,List.singleton_append,TA.vals,TA.val1] at this ⊢;rw [this]
def tO (l:List Int):ByteArray:=⟨(l.map fun n=>UInt8.ofNat n.toNat).toArray⟩
theorem aJn (l:List Int):∀ z:ByteArray,l.foldl (fun r n=>r.push (UInt8.ofNat n.toNat)) z=⟨z.data ++ (l.map fun n=>UInt8.ofNat n.toNat).toArray⟩:=by
 induction l with
 | nil=>intro z;simp
 | cons n l ih =>
  intro z;rw [List.foldl_cons,ih];cases z;simp [ByteArray.push]
def aG0 (E:Env) (N:Nat) (dst:Option Nat) (src d:TypeId) (x:Operand) (σ:St):Option St:=match rR E src,rR E d with
 | some (.slice e),some .str=>(match rR E e with
  | some (.int .u8)=>(σ.takeRow N x).bind fun y=>(u8s y.2.2.1).bind fun ns=>y.2.2.2.put? N dst (.t (.v (.string (tO ns))))
  | _=>none)
 | _,_=>aKd E N dst src d x σ
theorem aLt {src d:TypeId} {x:Operand} (ho:o.op = .convert src d x) (h:aG0 E C.N o.dst src d x σ=some σ') (H:SOk C σ a w) (hK:∀ a' w',SOk C σ' a' w'→K a' w'):o.wp E.P a w K Q:=by
 unfold aG0 at h;split at h
 case h_2=>exact aNa ho h H hK
 rename_i e hs hd;split at h
 case h_2=>cases h
 rename_i he;obtain ⟨⟨ow,sz,es,σ1⟩,hr,h8⟩:=Option.bind_eq_some_iff.1 h;obtain ⟨ns,hns,h9⟩:=Option.bind_eq_some_iff.1 h8;simp only at hns h9;clear h h8;obtain ⟨s,Z,h1,h2,h3⟩:=id H;subst h1;obtain ⟨s',xA,esA,t1,t2,t3,t4,t5,t6,t7,_⟩:=xF h3 hr;subst t6;have hes:=aK7 hns;have u1:E.P.underlying src=some (.slice e):=fM hs;have u2:E.P.underlying e=some (.int .u8):=fM he;have u3:E.P.underlying d=some .string:=fM hd;refine bP (v:=.string (tO ns)) (w':=w) ?_ (hK _ _ ?_)
 ·have hconv:(convert src d xA.val).run E.P w = .ok (.string (tO ns)) w:=by
   rcases t7.row with ⟨A,hv,h0,_⟩ | ⟨b,off,cap,hv,hle,hm⟩
   ·rw [hv,run_convert_bytes_string w src d e A 0 0 u1 u2 u3];have hn0:ns=[]:=by
     rw [h0] at hes;cases ns with
     | nil=>rfl
     | cons n ns=>simp at hes
    subst hn0;cases A with
    | none=>rfl
    | some A=>rw [run_bytesToString w A 0 0 [] (by simpa using run_loadCells_list (P:=E.P) (w:=w) A [] (by simp))];rfl
   rw [hv,run_convert_bytes_string w src d e _ _ cap u1 u2 u3];have hlen:esA.length=ns.length:=by rw [hes,List.length_map]
   have hflat:TA.vals (esA.flatMap TA.cells)=ns.map (Value.int .u8):=by
    rw [hes];exact aO6 ns
   rw [hlen,run_bytesToString w ⟨b,off,none⟩ ns.length cap ns ?_,aJn]
   ·simp [tO]
   have:=run_loadCells_list (P:=E.P) (w:=w) ⟨b,off,none⟩ (ns.map (Value.int .u8)) (fun j v hj=>by
    rw [iI];obtain ⟨cs,ety,fr,g1,g2,g3⟩:=hm;simp only [World.cell?,g1];rw [hflat] at g3;simpa using g3 j v hj)
   simpa using this
  simp only [execOp,ho];rw [t4];simp [hconv]
 refine SOk.put? (t3.drop (hd':=[]) (fun k=>by simp [TA.cntL]) (by simp [TA.HoldsL])) ?_ h9 (xA:=.t (.v (.string (tO ns)))) rfl ⟨rfl,by simp [TA.Holds,TA.OneCell]⟩ (fun k=>by simp [AVA.cnt_t,TA.cnt])
 exact t1
def aR5 (N:Nat) (dst:Option Nat) (mx:Bool) (x y:Operand) (σ:St):Option St:=match σ.sc x,σ.sc y with
 | some (.int k m),some (.int k' n)=>if k=k' then σ.put? N dst (.t (.v (.int k (if mx=true then (if n > m then n else m) else (if n < m then n else m))))) else none
 | _,_=>none
theorem aP4 {x y:Operand} {ts:Array TypeId} (ho:o.op = .call { callee:=.builtin .max,args:=#[x,y],argTypes:=ts }) (h:aR5 C.N o.dst true x y σ=some σ') (H:SOk C σ a w) (hK:∀ a' w',SOk C σ' a' w'→K a' w'):o.wp E.P a w K Q:=by
 unfold aR5 at h;split at h
 case h_2=>cases h
 rename_i k m k' n hx hy;split at h
 case isFalse=>cases h
 rename_i hkk;subst hkk;obtain ⟨s,Z,h1,h2,h3⟩:=id H;subst h1;obtain ⟨e1,o1⟩:=nM h3 hx;obtain ⟨e2,o2⟩:=nM h3 hy;refine bP (v:=.int k (if n > m then n else m)) (w':=w) ?_ (hK _ _ (H.putS (by simpa using h) (by simp [TA.OneCell])))
 simp [execOp,ho,resolve,invoke,builtin,e1,e2,run_max_int2]
theorem aP3 {x y:Operand} {ts:Array TypeId} (ho:o.op = .call { callee:=.builtin .min,args:=#[x,y],argTypes:=ts }) (h:aR5 C.N o.dst false x y σ=some σ') (H:SOk C σ a w) (hK:∀ a' w',SOk C σ' a' w'→K a' w'):o.wp E.P a w K Q:=by
 unfold aR5 at h;split at h
 case h_2=>cases h
 rename_i k m k' n hx hy;split at h
 case isFalse=>cases h
 rename_i hkk;subst hkk;obtain ⟨s,Z,h1,h2,h3⟩:=id H;subst h1;obtain ⟨e1,o1⟩:=nM h3 hx;obtain ⟨e2,o2⟩:=nM h3 hy;refine bP (v:=.int k (if n < m then n else m)) (w':=w) ?_ (hK _ _ (H.putS (by simpa using h) (by simp [TA.OneCell])))
 simp [execOp,ho,resolve,invoke,builtin,e1,e2,run_min_int2]
def St.freeze1 (N:Nat) (n:Nat) (σ:St):Option St:=if n < N then match σ.get n with
 | .t y=>(σ.set n .u).put? N (some n) (.t y.ro)
 | _=>none else none
theorem SOk.freeze1 {n:Nat} (H:SOk C σ a w) (h:σ.freeze1 C.N n=some σ'):SOk C σ' a w:=by
 unfold St.freeze1 at h;split at h
 case isFalse=>cases h
 rename_i hn;split at h
 case h_2=>cases h
 rename_i y hy;obtain ⟨s,Z,h1,h2,h3⟩:=H;subst h1;simp only [St.get,nF] at hy;cases hlk:look s.tm n with
 | none=>rw [hlk] at hy;simp at hy
 | some z =>
  rw [hlk] at hy;simp only [Option.map_some,Option.getD_some] at hy;obtain ⟨x,rfl,rfl⟩:=aE3 hy;obtain ⟨s',g1,g2,g3,g4,g5⟩:=h3.takeSlot hn hlk;rw [h2] at g2;have hf:=g3.freezeHand g2;have hsok:=SOk.put? (σ:=s.er.set n .u) (dst:=some n) (xA:=.t x.ro) (v:=x.ro.val) hf (by rw [← g1];rfl) h (by simp [AVA.er,TA.er_ro]) ⟨rfl,TA.Holds.ro x g4 (fun _ h=>.inl h) (fun _ h=>.inr h)⟩ (fun k=>by simp [AVA.cnt_t,TA.cntL])
  have ha:a.put (some n) x.ro.val=a:=by
   rw [TA.val_ro,← g5];cases a with
   | mk tmps defers =>
    simp only [Act.put,Act.mk.injEq,and_true];apply Array.ext_getElem?;intro i;rw [Array.getElem?_setIfInBounds];split
    ·rename_i hi;subst hi;split
     ·rename_i hlt;rw [Array.getElem?_eq_getElem hlt];simp [Array.getD,hlt]
     rename_i hlt;rw [Array.getElem?_eq_none (by omega)]
    rfl
  rw [ha] at hsok;exact hsok
def St.freezeL (N:Nat):List Nat→St→Option St
 | [],σ=>some σ
 | n :: ns,σ=>(σ.freeze1 N n).bind fun σ1=>St.freezeL N ns σ1
theorem SOk.freezeL:∀ {ns:List Nat} {σ:St},SOk C σ a w→σ.freezeL C.N ns=some σ'→SOk C σ' a w
 | [],σ,H,h=>by simp only [St.freezeL,Option.some.injEq] at h;subst h;exact H
 | n :: ns,σ,H,h=>by
  simp only [St.freezeL] at h;obtain ⟨σ1,h1,h2⟩:=Option.bind_eq_some_iff.1 h;exact SOk.freezeL (H.freeze1 h1) h2
end Go.OM
namespace Go.OM
variable {C:Ctx} {Z Z':Nat→Prop} {s:StA} {a:Act} {w w':World} {E:Env} {o:Oper} {σ σ':St} {K:Act→World→Prop} {Q:Exit→Act→World→Prop}
def St.op1 (E:Env) (N:Nat) (o:Oper) (σ:St):Option St:=match o.op with
 | .move x=>aFx E N o.dst o.type x σ
 | .assign x=>aCf E N o.dst o.type x σ
 | .pick c x y=>aK9 N o.dst c x y σ
 | .alloc t=>aG2 E N o.dst t σ
 | .box _ x=>aPg N o.dst x σ
 | .build t ps=>aG1 E N o.dst t ps.toList σ
 | .buildSlice t len ps=>aP6 E N o.dst t len ps.toList σ
 | .load t x=>aKc E N o.dst t x σ
 | .store t x y=>(match o.dst with
  | none=>aFv E N t x y σ
  | some _=>none)
 | .nilCheck x=>aKa N o.dst x σ
 | .binOp op t x y _=>aPi E N o.dst op t x y σ
 | .unOp op _ x=>stUn N o.dst op x σ
 | .convert s d x=>aG0 E N o.dst s d x σ
 | .makeFunc fn fi ca=>(match fi.toList,ca.toList with
  | [],[]=>aN9 N o.dst fn σ
  | [],x :: xs=>(match fn with
   | .func f=>aPe N o.dst f (x :: xs) σ
   | _=>none)
  | _,_=>none)
 | .makeSlice t x y=>aKb E N o.dst t x y σ
 | .slice t x lo hi mx=>(match mx with
  | none=>aFw E N o.dst t x lo hi σ
  | some _=>none)
 | .fieldAddr t x f=>aFz E N o.dst t x f σ
 | .indexAddr t x i=>aPa E N o.dst t x i σ
 | .index t x i=>aFy E N o.dst t x i σ
 | .extract x i=>zE N o.dst x i σ
 | .call c=>(match c.callee with
  | .builtin b=>(match b,c.args.toList,c.argTypes.toList with
   | .append,[x,y],_=>aCg E N o.dst c.argTypes x y σ
   | .len,[x],t :: _=>aP8 E N o.dst t x σ
   | .max,[x,y],_=>aR5 N o.dst true x y σ
   | .min,[x,y],_=>aR5 N o.dst false x y σ
   | _,_,_=>none)
  | _=>none)
 | _=>none
theorem arr1 {α:Type} {x:Array α} {y:α} (h:x.toList=[y]):x = #[y]:=Array.toList_inj.1 h
theorem arr2 {α:Type} {x:Array α} {y z:α} (h:x.toList=[y,z]):x = #[y,z]:=Array.toList_inj.1 h
theorem op1_ok (h:σ.op1 E C.N o=some σ') (H:SOk C σ a w) (hK:∀ a' w',SOk C σ' a' w'→K a' w'):o.wp E.P a w K Q:=by
 unfold St.op1 at h;split at h
 ·rename_i x ho;exact aLp ho h H hK
 ·rename_i x ho;exact aJ5 ho h H hK
 ·rename_i c x y ho;exact aN4 ho h H hK
 ·rename_i t ho;exact aLw ho h H hK
 ·rename_i t x ho;exact aPf ho h H hK
 ·rename_i t ps ho;exact aLv ho h H hK
 ·rename_i t len ps ho;exact aP5 ho h H hK
 ·rename_i t x ho;exact aN7 ho h H hK
 ·rename_i t x y ho;split at h
  ·rename_i hd;exact aLn ho hd h H hK
  cases h
 ·rename_i x ho;exact aN5 ho h H hK
 ·rename_i op t x y t2 ho;exact aPh ho h H hK
 ·rename_i op t x ho;exact aR4 ho h H hK
 ·rename_i sr d x ho;exact aLt ho h H hK
 ·rename_i fn fi ca ho;split at h
  ·rename_i h1 h2;exact aN8 (Array.toList_inj.1 h1) (Array.toList_inj.1 h2) ho h H hK
  ·rename_i h1 h2;split at h
   ·rw [← h2] at h;exact aPd (Array.toList_inj.1 h1) ho h H hK
   cases h
  cases h
 ·rename_i t x y ho;exact aN6 ho h H hK
 ·rename_i t x lo hi mx ho;split at h
  ·exact aLo ho h H hK
  cases h
 ·rename_i t x f ho;exact aLs ho h H hK
 ·rename_i t x i ho;exact aP9 ho h H hK
 ·rename_i t x i ho;exact aLr ho h H hK
 ·rename_i x i ho;exact aHi ho h H hK
 ·rename_i c ho;obtain ⟨ce,ar,at'⟩:=c;split at h
  case h_2=>cases h
  rename_i b hb;simp only at hb h;subst hb;split at h
  ·rename_i x y hxy;rw [arr2 hxy] at ho;exact aJ6 ho h H hK
  ·rename_i x t ts hx ht;rw [arr1 hx] at ho;refine aP7 (ts:=at') ho ?_ h H hK;rw [← Array.getElem?_toList,ht];rfl
  ·rename_i x y hxy;rw [arr2 hxy] at ho;exact aP4 ho h H hK
  ·rename_i x y hxy;rw [arr2 hxy] at ho;exact aP3 ho h H hK
  cases h
 cases h
def St.gives (ops:List Oper) (σ:St) (j:Nat):Option Bool:=match (ops[j]?).bind Oper.dst with
 | some d=>(match σ.get d with
  | .t (.v (.bool b))=>some b
  | _=>none)
 | none=>none
theorem aL0 {ops:Array Oper} {j:Nat} {b:Bool} (H:SOk C σ a w) (h:σ.gives ops.toList j=some b):yielded ops a.tmps j=some b:=by
 obtain ⟨s,Z,h1,h2,h3⟩:=H;subst h1;unfold St.gives at h;split at h
 case h_2=>cases h
 rename_i d hd;split at h
 case h_2=>cases h
 rename_i b' hx;injection h with h
 subst h;have hs:s.er.sc (.tmp d)=some (.bool b'):=by
  show (match s.er.get d with | .t (.v y)=>some y | _=>none)=_
  rw [hx]
 obtain ⟨hv,_⟩:=nM h3 hs;unfold yielded;rw [Array.getElem?_toList] at hd;rw [hd];have hv':a.tmps.getD d undef = .bool b':=hv;simp only [Option.bind_some];cases hg:a.tmps[d]? with
 | none =>
  rw [Array.getD_eq_getD_getElem?,hg] at hv';simp [undef] at hv'
 | some v =>
  rw [Array.getD_eq_getD_getElem?,hg] at hv';simp only [Option.getD_some] at hv';subst hv'
  rfl
def St.gone (ops:List Oper) (σ:St) (j:Nat):Bool:=match (ops[j]?).bind Oper.dst with
 | some d=>(match σ.get d with
  | .tup []=>true
  | _=>false)
 | none=>false
theorem aRf {ops:Array Oper} {j:Nat} (H:SOk C σ a w) (h:σ.gone ops.toList j=true):yielded ops a.tmps j=none:=by
 obtain ⟨s,Z,h1,h2,h3⟩:=H;subst h1;unfold St.gone at h;split at h
 case h_2=>cases h
 rename_i d hd;split at h
 case h_2=>cases h
 rename_i hx;simp only [St.get,nF] at hx;cases hlk:look s.tm d with
 | none=>rw [hlk] at hx;simp at hx
 | some z =>
  rw [hlk] at hx;simp only [Option.map_some,Option.getD_some] at hx;obtain ⟨zs,rfl,hz⟩:=aOa hx;have hz0:zs=[]:=by
   cases zs with
   | nil=>rfl
   | cons z zs=>simp [TA.erL] at hz
  subst hz0;obtain ⟨v1,_⟩:=h3.tm d _ hlk;unfold yielded;rw [Array.getElem?_toList] at hd;rw [hd];simp only [Option.bind_some];cases hg:a.tmps[d]? with
  | none=>rfl
  | some v =>
   rw [Array.getD_eq_getD_getElem?,hg] at v1;simp only [Option.getD_some] at v1;subst v1
   rfl
def St.wants (ops:List Oper) (σ:St) (o:Oper):Option Bool:=match o.guard with
 | none=>some true
 | some (j,want)=>if σ.gone ops j=true then some false else (σ.gives ops j).map fun b=>b == want
def fN (o:Oper):Option (Operand × List Operand):=match o.op with
 | .call c=>(match c.callee with
  | .value g=>some (g,c.args.toList)
  | _=>none)
 | _=>none
def St.fn (σ:St) (x:Operand):Option FuncId:=match σ.sc x with
 | some (.func (.func f) i c)=>(match i.toList,c.toList with
  | [],[]=>some f
  | _,_=>none)
 | _=>none
def dR (P:Program) (f:FuncId):Prop:=∀ (args:Array Value) (w:World),(callFunc f args).run P w = .ok (.enter f args) w
def St.fnC (σ:St) (x:Operand):Option (FuncId × Nat):=match σ.op x with
 | .clo f cs=>some (f,cs.length)
 | .t (.clo f ts)=>some (f,ts.length)
 | _=>none
def Mode.real:Mode→Bool
 | .cptr _ _=>false
 | .cval _=>false
 | _=>true
def Mode.cap:Mode→Option Nat
 | .cptr j _=>some j
 | .cval j=>some j
 | _=>none
def aQs (g:Operand) (n:Nat):List (Operand × Option Nat):=(List.range n).map fun j=>(g,some j)
theorem aAj (a:Act):∀ ms:List (Mode × Operand),(ms.all fun m=>m.1.real)=true→ms.map (evm a)=(ms.map Prod.snd).map a.eval
 | [],_=>rfl
 | (m,x) :: ms,h=>by
  simp only [List.all_cons,Bool.and_eq_true] at h;rw [List.map_cons,List.map_cons,List.map_cons,aAj a ms h.2];cases m<;>first | rfl | (simp [Mode.real] at h;done)
theorem aQ3 (a:Act) (g:Operand) (ms:List (Mode × Operand)) (l:List Nat) (h:ms.map (fun m=>(m.2,m.1.cap))=l.map fun j=>(g,some j)):ms.map (evm a)=l.map fun j=>aRw j (a.eval g):=by
 induction ms generalizing l with
 | nil=>cases l with
  | nil=>rfl
  | cons x l=>simp at h
 | cons m ms ih =>
  cases l with
  | nil=>simp at h
  | cons j l =>
   obtain ⟨m,x⟩:=m;simp only [List.map_cons,List.cons.injEq,Prod.mk.injEq] at h;obtain ⟨⟨rfl,h1⟩,h2⟩:=h;rw [List.map_cons,List.map_cons,ih l h2];cases m<;>simp only [Mode.cap,reduceCtorEq,Option.some.injEq] at h1<;>subst h1<;>rfl
theorem aOu {s:StA} {Z:Nat→Prop} {h:Array Obj}:∀ (xs:List CapA) (vs:List Value),CapA.OkL s Z h xs vs→vs.length=xs.length
 | [],[],_=>rfl
 | [],_ :: _,H=>H.elim
 | _ :: _,[],H=>H.elim
 | _ :: xs,_ :: vs,H=>by simp [aOu xs vs H.2]
theorem fnC_ok {s:StA} {Z:Nat→Prop} {g:Operand} {f:FuncId} {n:Nat} (H:SRel C Z s a w) (h:s.er.fnC g=some (f,n)):∃ c:Array Value,a.eval g = .func (.func f) #[] c∧c.size=n:=by
 unfold St.fnC at h;obtain ⟨xA,e1,e2⟩:=opA H g;split at h
 ·rename_i f' cs hz;rw [hz] at e1;obtain ⟨ys,rfl,hys⟩:=aIl e1;obtain ⟨vs,q1,q2⟩:=e2;simp only [Option.some.injEq,Prod.mk.injEq] at h;obtain ⟨rfl,rfl⟩:=h;exact ⟨vs.toArray,q1,by simp [aOu _ _ q2,← hys]⟩
 ·rename_i f' ts hz;rw [hz] at e1;obtain ⟨zA,rfl,hz'⟩:=aE3 e1;cases zA<;>simp only [TA.er,reduceCtorEq] at hz'
  rename_i g tsA;simp only [T.clo.injEq] at hz';obtain ⟨rfl,rfl⟩:=hz';simp only [Option.some.injEq,Prod.mk.injEq] at h;obtain ⟨rfl,rfl⟩:=h;exact ⟨_,e2.1,by simp [TA.erL_map]⟩
 cases h
def St.wps (E:Env) (N:Nat) (ops:List Oper):List Oper→(St→Prop)→St→Prop
 | [],K,σ=>K σ
 | o :: os,K,σ=>match σ.wants ops o with
  | some false=>∃ σ1,σ.put? N o.dst (.tup [])=some σ1∧St.wps E N ops os K σ1
  | some true=>(match fN o with
   | some (g,xs)=>(∃ f,σ.fn g=some f∧dR E.P f∧((∃ ms args pls σ2,(ms.all (fun m=>m.1.real),ms.map Prod.snd)=(true,xs)∧σ.lend N ms=some (args,pls,σ2)∧∃ res outs,Ok E f args res outs∧∃ σ1,St.land N o.dst (ms.any fun m=>m.1.isBor) pls res outs σ2=some σ1∧St.wps E N ops os K σ1) ∨
     ∃ pre x xs' y' res args σ1,pre ++ x :: xs'=xs∧σ.callIO N o.dst pre x xs' y' res=some (args,σ1)∧OkIO E f args res [] [(pre.length,y')]∧St.wps E N ops os K σ1)) ∨
     ∃ f n ms mc args pls σ2,σ.fnC g=some (f,n)∧dR E.P f∧(ms.all (fun m=>m.1.real),ms.map Prod.snd)=(true,xs)∧mc.map (fun m=>(m.2,m.1.cap))=aQs g n∧σ.lend N (ms ++ mc)=some (args,pls,σ2)∧∃ res outs,Ok E f args res outs ∧
      ∃ σ1,St.land N o.dst ((ms ++ mc).any fun m=>m.1.isBor) pls res outs σ2=some σ1∧St.wps E N ops os K σ1
   | none=>∃ σ1,(σ.op1 E N o=some σ1 ∨ ∃ t x,o.op = .load t x∧aAy E N o.dst t x σ=some σ1)∧St.wps E N ops os K σ1)
  | none=>False
theorem xG {g:Operand} {xs:List Operand} {f:FuncId} (ho:fN o=some (g,xs)) (hf:σ.fn g=some f) (he:dR E.P f) (H:SOk C σ a w)
  (hcall:Calls E.P f (xs.map a.eval).toArray w fun e w'=>∃ v,e = .returned v∧SOk C σ' (a.put o.dst v) w') (hK:∀ a' w',SOk C σ' a' w'→K a' w'):o.wp E.P a w K Q:=by
 obtain ⟨s,Z,h1,h2,h3⟩:=H;subst h1;unfold fN at ho;split at ho
 case h_2=>cases ho
 rename_i c hc;split at ho
 case h_2=>cases ho
 rename_i g' hg;simp only [Option.some.injEq,Prod.mk.injEq] at ho;obtain ⟨rfl,hxs⟩:=ho;unfold St.fn at hf;split at hf
 case h_2=>cases hf
 rename_i f' i c' hsc;split at hf
 case h_2=>cases hf
 rename_i hi hc';injection hf with hf
 subst hf;obtain ⟨hv,_⟩:=nM h3 hsc;have hi':i = #[]:=Array.toList_inj.1 hi;have hc2:c' = #[]:=Array.toList_inj.1 hc';subst hi';subst hc2;have hargs:c.args.map a.eval=(xs.map a.eval).toArray:=by
  apply Array.toList_inj.1;rw [Array.toList_map,hxs]
 have hrun:(execOp a.eval o).run E.P w = .ok (.enter f' (xs.map a.eval).toArray) w:=by
  simp only [execOp,hc,resolve,hg,hv,hargs,Deferred.ofValue];simp [invoke,he _ _]
 unfold Oper.wp;rw [hrun];exact hcall.mono fun e w' ⟨v,e1,e2⟩=>by
  subst e1;exact hK _ _ e2
theorem aNb {g:Operand} {xs:List Operand} {f:FuncId} {ms:List (Mode × Operand)} {args:List Arg} {res:List T} {outs:List (List T)} {pls:List Pl} {σ2:St} (ho:fN o=some (g,xs)) (hf:σ.fn g=some f) (he:dR E.P f) (hms:(ms.all (fun m=>m.1.real),ms.map Prod.snd)=(true,xs))
  (hl:σ.lend C.N ms=some (args,pls,σ2)) (hok:Ok E f args res outs) (hb:St.land C.N o.dst (ms.any fun m=>m.1.isBor) pls res outs σ2=some σ') (hG:∀ s Z,s.er=σ→SRel C Z s a w→E.GOk Z w.heap) (H:SOk C σ a w) (hK:∀ a' w',SOk C σ' a' w'→K a' w'):o.wp E.P a w K Q:=by
 refine xG ho hf he H ?_ hK;have:=aOl hG hok hl hb H;simp only [Prod.mk.injEq] at hms;rw [aAj a ms hms.1,hms.2] at this;exact this
theorem aLu {g:Operand} {xs:List Operand} {f:FuncId} {n:Nat} {ms mc:List (Mode × Operand)} {args:List Arg} {res:List T} {outs:List (List T)} {pls:List Pl} {σ2:St} (ho:fN o=some (g,xs)) (hf:σ.fnC g=some (f,n)) (he:dR E.P f) (hms:(ms.all (fun m=>m.1.real),ms.map Prod.snd)=(true,xs)) (hmc:mc.map (fun m=>(m.2,m.1.cap))=aQs g n)
  (hl:σ.lend C.N (ms ++ mc)=some (args,pls,σ2)) (hok:Ok E f args res outs) (hb:St.land C.N o.dst ((ms ++ mc).any fun m=>m.1.isBor) pls res outs σ2=some σ') (hG:∀ s Z,s.er=σ→SRel C Z s a w→E.GOk Z w.heap) (H:SOk C σ a w) (hK:∀ a' w',SOk C σ' a' w'→K a' w'):o.wp E.P a w K Q:=by
 have hcall:=aOl hG hok hl hb H;obtain ⟨s,Z,h1,h2,h3⟩:=H;subst h1;unfold fN at ho;split at ho
 case h_2=>cases ho
 rename_i c hc;split at ho
 case h_2=>cases ho
 rename_i g' hg;simp only [Option.some.injEq,Prod.mk.injEq] at ho;obtain ⟨rfl,hxs⟩:=ho;obtain ⟨cv,hv,hn⟩:=fnC_ok h3 hf;simp only [Prod.mk.injEq] at hms;have hargs:c.args.map a.eval=(xs.map a.eval).toArray:=by
  apply Array.toList_inj.1;rw [Array.toList_map,hxs]
 have hcs:(mc.map (evm a))=cv.toList:=by
  rw [aQ3 a g' mc (List.range n) hmc,hv];apply List.ext_getElem?;intro j;simp only [List.getElem?_map,aRw,Array.getElem?_toList];by_cases hj:j < n
  ·rw [List.getElem?_range hj];have:j < cv.size:=by omega
   simp [this]
  have h4:¬ j < cv.size:=by omega
  rw [List.getElem?_eq_none (by simp;omega)]
  simp [h4]
 have hrun:(execOp a.eval o).run E.P w = .ok (.enter f (((ms ++ mc).map (evm a)).toArray)) w:=by
  rw [List.map_append,aAj a ms hms.1,hms.2,hcs];simp only [execOp,hc,resolve,hg,hv,hargs,Deferred.ofValue];simp [invoke,he _ _]
 unfold Oper.wp;rw [hrun];exact hcall.mono fun e w' ⟨v,e1,e2⟩=>by
  subst e1;exact hK _ _ e2
def GC (E:Env) (C:Ctx):Prop:=E.GOk C.Z0 C.w0.heap∧∀ g ∈ E.gl,¬ C.F g.1
theorem GC.now {s:StA} (h:GC E C) (H:SRel C Z s a w):E.GOk Z w.heap:=by
 intro b hb;obtain ⟨h1,cs,t,fr,h2,h3⟩:=h.1 b hb;refine ⟨H.z0 b.1 h1,cs,t,fr,?_,h3⟩;rw [H.kept b.1 (Array.getElem?_eq_some_iff.1 h2).1 (h.2 b hb)];exact h2
theorem aCs {ops:Array Oper} (hg:GC E C):∀ (os:List Oper) (σ:St) (a:Act) (w:World) (KS:St→Prop),σ.wps E C.N ops.toList os KS→SOk C σ a w→(∀ σ' a' w',KS σ'→SOk C σ' a' w'→Q .normal a' w')→wpList E.P ops Q os a w
 | [],σ,a,w,KS,h,H,hQ=>hQ σ a w h H
 | o :: os,σ,a,w,KS,h,H,hQ=>by
  simp only [St.wps] at h;unfold wpList;split at h
  ·-- not wanted
   rename_i hw;obtain ⟨σ1,h1,h2⟩:=h;have hn:Region.wanted o (yielded ops a.tmps)=false:=by
    unfold St.wants at hw;split at hw
    ·cases hw
    rename_i j want hg;split at hw
    ·rename_i hgo;simp only [Region.wanted,hg,aRf H hgo]
     rfl
    obtain ⟨b,hb,hb2⟩:=Option.map_eq_some_iff.1 hw;simp only [Region.wanted,hg,aL0 H hb];simpa using hb2
   rw [if_neg (by rw [hn];simp)]
   refine aCs hg os σ1 _ _ KS h2 ?_ hQ;obtain ⟨s,Z,q1,q2,q3⟩:=H;exact SOk.put0 q3 q1 h1 (xA:=.tup []) rfl ⟨rfl,by simp [TA.HoldsL]⟩ (fun k=>rfl)
  ·rename_i hw;have hn:Region.wanted o (yielded ops a.tmps)=true:=by
    unfold St.wants at hw;split at hw
    ·rename_i hg;simp [Region.wanted,hg]
    rename_i j want hg;split at hw
    ·cases hw
    obtain ⟨b,hb,hb2⟩:=Option.map_eq_some_iff.1 hw;simp only [Region.wanted,hg,aL0 H hb];simpa using hb2
   rw [if_pos hn];left;split at h
   ·rename_i g xs hcall;rcases h with ⟨f,hf,he,⟨ms,args,pls,σ2,hms,hl,res,outs,hok,σ1,hb,hrest⟩ | ⟨pre,x,xs',y',res,args,σ1,rfl,hl,hok,hrest⟩⟩ | ⟨f,n,ms,mc,args,pls,σ2,hf,he,hms,hmc,hl,res,outs,hok,σ1,hb,hrest⟩
    ·exact aNb hcall hf he hms hl hok hb (fun _ _ _ h=>hg.now h) H fun a' w' H'=>aCs hg os σ1 a' w' KS hrest H' hQ
    ·exact xG hcall hf he H (aOm (fun _ _ _ h=>hg.now h) hok hl H) fun a' w' H'=>aCs hg os σ1 a' w' KS hrest H' hQ
    exact aLu hcall hf he hms hmc hl hok hb (fun _ _ _ h=>hg.now h) H fun a' w' H'=>aCs hg os σ1 a' w' KS hrest H' hQ
   obtain ⟨σ1,h1 | ⟨t,x,ho,h1⟩,h2⟩:=h
   ·exact op1_ok h1 H fun a' w' H'=>aCs hg os σ1 a' w' KS h2 H' hQ
   exact aLq ho h1 H fun a' w' H'=>aCs hg os σ1 a' w' KS h2 H' hQ
  exact h.elim
def PinOk (E:Env) (C:Ctx) (a:Act):Prop:=(∀ x ∈ C.pin,a.tmps.getD x.1 undef=x.2)∧GC E C
def oX (pin:List (Nat × Value)) (ops:List Oper):Bool:=ops.all fun o=>match o.dst with
 | none=>true
 | some d=>pin.all fun x=>x.1 != d
@[simp] theorem pinB_nil (ops:List Oper):oX [] ops=true:=by
 unfold oX;rw [List.all_eq_true];intro o _;cases o.dst<;>rfl
def yK (ks:List Nat) (ops:List Oper):Bool:=ops.all fun o=>match o.dst with
 | none=>true
 | some d=>ks.all fun k=>k != d
theorem pO {ks:List Nat} {pin:List (Nat × Value)} (h:pin.map Prod.fst=ks) (ops:List Oper) (hk:yK ks ops=true):oX pin ops=true:=by
 subst h;unfold yK at hk;unfold oX;rw [List.all_eq_true] at hk ⊢;intro o ho;have:=hk o ho;cases hd:o.dst with
 | none=>rfl
 | some d=>rw [hd] at this;simpa [List.all_map] using this
theorem PinOk.put {dst:Option Nat} {v:Value} (H:PinOk E C a) (hp:(match dst with | none=>true | some d=>C.pin.all fun x=>x.1 != d)=true):PinOk E C (a.put dst v):=by
 refine ⟨fun x hx=>?_,H.2⟩;cases dst with
 | none=>exact H.1 x hx
 | some d =>
  have hne:=List.all_eq_true.1 hp x hx;have hne:d ≠ x.1:=fun e=>by subst e;simp at hne
  have:=H.1 x hx;simp only [Act.put,Array.getD_eq_getD_getElem?,Array.getElem?_setIfInBounds,if_neg hne];rw [Array.getD_eq_getD_getElem?] at this;exact this
def SOk2 (E:Env) (C:Ctx) (σ:St) (a:Act) (w:World):Prop:=SOk C σ a w∧PinOk E C a
theorem aK6 {P:Program} (H:∀ b:Act,b.tmps=a.tmps→∀ v,PinOk E C (b.put o.dst v)) (h:o.wp P a w K Q):o.wp P a w (fun a' w'=>K a' w'∧PinOk E C a') Q:=by
 unfold Oper.wp at *;generalize (execOp a.eval o).run P w=r at *;cases r with
 | ok n w' =>
  cases n<;>simp only [Oper.upon] at h ⊢ <;>
   first
    | (refine ⟨h,?_⟩;first | exact H a rfl _ | exact H _ (by rfl) _)
    | (refine ⟨h,H (Act.mk _ _) ?_ _⟩;rfl)
    | exact Calls.mono h (fun e w'' he=>by cases e<;>first | exact ⟨he,H _ rfl _⟩ | exact he)
    | exact Rows.mono h (fun _ _ he=>⟨he,H _ rfl _⟩)
    | exact h
 | halt x w'=>cases x<;>simp only [Oper.upon] at h ⊢<;>exact h
theorem sZ {ops:Array Oper}:∀ (os:List Oper) (σ:St) (a:Act) (w:World) (KS:St→Prop),oX C.pin os=true→σ.wps E C.N ops.toList os KS→SOk2 E C σ a w→(∀ σ' a' w',KS σ'→SOk2 E C σ' a' w'→Q .normal a' w')→wpList E.P ops Q os a w
 | [],σ,a,w,KS,_,h,H,hQ=>hQ σ a w h H
 | o :: os,σ,a,w,KS,hp,h,H,hQ=>by
  simp only [oX,List.all_cons,Bool.and_eq_true] at hp;have hput:∀ b:Act,b.tmps=a.tmps→∀ v,PinOk E C (b.put o.dst v):=fun b hb v=>PinOk.put (a:=b) ⟨fun x hx=>by rw [hb];exact H.2.1 x hx,H.2.2⟩ hp.1
  have hos:oX C.pin os=true:=hp.2;have h1:=aCs (E:=E) (ops:=ops) H.2.2 (Q:=fun e a' w'=>e = .normal∧∃ σ',σ'.wps E C.N ops.toList os KS∧SOk C σ' a' w') [o] σ a w (fun σ'=>σ'.wps E C.N ops.toList os KS) ?_ H.1 (fun σ' a' w' h1 h2=>⟨rfl,σ',h1,h2⟩)
  ·unfold wpList at h1 ⊢;split at h1
   ·rename_i hw;rw [if_pos hw];rcases h1 with h1 | ⟨_,_,_,h1⟩
    ·left;have h2:=aK6 hput h1;unfold Oper.wp at h2 ⊢;generalize (execOp a.eval o).run E.P w=r at *;cases r with
     | ok n w' =>
      cases n<;>simp only [Oper.upon] at h2 ⊢ <;>
       first
        | (obtain ⟨⟨_,σ',q1,q2⟩,q3⟩:=h2;exact sZ os σ' _ _ KS hos q1 ⟨q2,q3⟩ hQ)
        | exact Calls.mono h2 (fun e w'' he=>by
          cases e<;>first
           | (obtain ⟨⟨_,σ',q1,q2⟩,q3⟩:=he;exact sZ os σ' _ _ KS hos q1 ⟨q2,q3⟩ hQ)
           | (obtain ⟨_,_,hh,_⟩:=he;cases hh)
           | (obtain ⟨hh,_⟩:=he;cases hh))
        | exact Rows.mono h2 (fun _ _ he=>by obtain ⟨⟨_,σ',q1,q2⟩,q3⟩:=he;exact sZ os σ' _ _ KS hos q1 ⟨q2,q3⟩ hQ)
        | cases h2.1
     | halt x w'=>cases x<;>simp only [Oper.upon] at h2 ⊢<;>first | exact h2 | cases h2.1
    cases h1.1
   rename_i hw;rw [if_neg hw];obtain ⟨_,σ',q1,q2⟩:=h1;exact sZ os σ' _ _ KS hos q1 ⟨q2,hput _ rfl _⟩ hQ
  simp only [St.wps] at h ⊢;exact h
def O (E:Env) (C:Ctx) (c:Code) (Q:Exit→St→Prop) (σ:St):Prop:=∀ a w,SOk2 E C σ a w→c.wp E.P (fun e a w=>∃ σ',Q e σ'∧SOk2 E C σ' a w) a w
variable {S:Exit→St→Prop} {c d:Code}
theorem O.region {id:Nat} {ops:Array Oper} (hp:oX C.pin ops.toList=true) (h:σ.wps E C.N ops.toList ops.toList (S .normal)):O E C (.region id ops false) S σ :=
 fun a w H=>wp_region_list (sZ ops.toList σ a w _ hp h H fun σ' a' w' hS H'=>⟨σ',hS,H'⟩)
def aO (K:St→Prop) (S:Exit→St→Prop):Exit→St→Prop
 | .normal,σ=>K σ
 | e,σ=>S e σ
theorem O.mono {S':Exit→St→Prop} (h:O E C c S σ) (hS:∀ e σ,S e σ→S' e σ):O E C c S' σ :=
 fun a w H=>Code.wp_mono (fun e a w ⟨σ',h1,h2⟩=>⟨σ',hS _ _ h1,h2⟩) (h a w H)
theorem O.seq (h:O E C c (aO (O E C d S) S) σ):O E C (.seq c d) S σ:=fun a w H=>wp_seq (Code.wp_mono (fun e a w ⟨σ',h1,h2⟩=>by
 cases e with
 | normal=>exact h1 a w h2
 | _=>exact ⟨σ',h1,h2⟩) (h a w H))
theorem O.cond {x:Operand} {b:Bool} (hx:σ.sc x=some (.bool b)) (h:O E C (if b=true then c else d) S σ):O E C (.cond x c d) S σ:=fun a w H=>by
 obtain ⟨s,Z,h1,h2,h3⟩:=id H.1;subst h1;obtain ⟨hv,_⟩:=nM h3 hx;exact wp_cond hv (h a w H)
theorem O.skip (h:S .normal σ):O E C .skip S σ:=fun a w H=>wp_skip ⟨σ,h,H⟩
theorem O.label {l:Nat} (h:S .normal σ):O E C (.label l) S σ:=fun a w H=>wp_label ⟨σ,h,H⟩
theorem O.ret (h:S .ret σ):O E C .ret S σ:=fun a w H=>wp_ret ⟨σ,h,H⟩
theorem O.exit {id:Nat} (h:S (.exit id) σ):O E C (.exit id) S σ:=fun a w H=>wp_exit ⟨σ,h,H⟩
def iB (id:Nat) (S:Exit→St→Prop):Exit→St→Prop
 | .exit id',σ=>if id'=id then S .normal σ else S (.exit id') σ
 | e,σ=>S e σ
theorem O.block {id:Nat} (h:O E C c (iB id S) σ):O E C (.block id c) S σ:=fun a w H=>wp_block (Code.wp_mono (fun e a w ⟨σ',h1,h2⟩=>by
 cases e with
 | exit id' =>
  simp only [iB] at h1;simp only [Exit.inBlock];split
  ·rename_i e;rw [if_pos e] at h1;exact ⟨σ',h1,h2⟩
  rename_i e;rw [if_neg e] at h1;exact ⟨σ',h1,h2⟩
 | _=>exact ⟨σ',h1,h2⟩) (h a w H))
theorem O.loop {α:Type} (inv:α→St) (μ:α→Nat) (I:α→Prop) (g:α) (hI:I g) (hσ:inv g=σ) (h:∀ g,I g→O E C c (aO (fun σ'=>∃ g',I g'∧inv g'=σ'∧μ g' < μ g) S) (inv g)):O E C (.loop c) S σ:=fun a w H=>by
 refine wp_loop_ghost (fun n a w=>∃ g,I g∧μ g=n∧SOk2 E C (inv g) a w) (μ g) ⟨g,hI,rfl,hσ ▸ H⟩ ?_;intro n a w ⟨g,hI,hn,H⟩;subst hn;refine Code.wp_mono (fun e a w ⟨σ',h1,h2⟩=>?_) (h g hI a w H);cases e with
 | normal =>
  obtain ⟨g',q1,q2,q3⟩:=h1;exact ⟨μ g',q3,g',q1,rfl,q2 ▸ h2⟩
 | _=>exact ⟨σ',h1,h2⟩
end Go.OM
namespace Go.OM
variable {C:Ctx} {Z Z':Nat→Prop} {s:StA} {a:Act} {w w':World} {E:Env} {o:Oper} {σ σ':St} {K:Act→World→Prop} {Q:Exit→Act→World→Prop}
def entV (N n:Nat):Arg→AV
 | .val x=>.t x
 | .ptr _=>.ref (.box (N + n)) 0 []
def entT (N:Nat):Nat→List Arg→List (Nat × AV)
 | _,[]=>[]
 | n,y :: as=>(n,entV N n y) :: entT N (n + 1) as
def aRr (N:Nat):Nat→List Arg→List (Nat × List T)
 | _,[]=>[]
 | n,.val _ :: as=>aRr N (n + 1) as
 | n,.ptr cs :: as=>(N + n,cs) :: aRr N (n + 1) as
def aBn (N:Nat) (as:List Arg):St:=⟨entT N 0 as,aRr N 0 as⟩
def aJs (N n:Nat):ArgA→AVA
 | .val x=>.t x
 | .ptr _ _ _=>.ref (.box (N + n)) 0 []
def aCd (N:Nat):Nat→List ArgA→List (Nat × AVA)
 | _,[]=>[]
 | n,y :: as=>(n,aJs N n y) :: aCd N (n + 1) as
def wT (N:Nat):Nat→List ArgA→List (Nat × BoxA)
 | _,[]=>[]
 | n,.val _ :: as=>wT N (n + 1) as
 | n,.ptr b off cs :: as=>(N + n,⟨b,off,cs⟩) :: wT N (n + 1) as
def aL6 (N:Nat):Nat→List ArgA→List (Nat × Nat × Nat × Nat)
 | _,[]=>[]
 | n,.val _ :: as=>aL6 N (n + 1) as
 | n,.ptr b off cs :: as=>(N + n,b,off,cs.length) :: aL6 N (n + 1) as
theorem aJp (N:Nat):∀ (as:List ArgA) (n:Nat),(aCd N n as).map (fun e=>(e.1,e.2.er))=entT N n (as.map ArgA.er)
 | [],n=>rfl
 | .val x :: as,n=>by
  have:=aJp N as (n + 1);simp only [aCd,entT,aJs,entV,ArgA.er,List.map_cons,this]
  rfl
 | .ptr b off cs :: as,n=>by
  have:=aJp N as (n + 1);simp only [aCd,entT,aJs,entV,ArgA.er,List.map_cons,this]
  rfl
theorem aJq (N:Nat):∀ (as:List ArgA) (n:Nat),(wT N n as).map (fun e=>(e.1,TA.erL e.2.cs))=aRr N n (as.map ArgA.er)
 | [],n=>rfl
 | .val x :: as,n=>by simp [wT,aRr,ArgA.er,aJq N as (n + 1)]
 | .ptr b off cs :: as,n=>by simp [wT,aRr,ArgA.er,aJq N as (n + 1)]
theorem aBg (N:Nat):∀ (as:List ArgA) (n m:Nat) (x:AVA),look (aCd N n as) m=some x→n ≤ m∧∃ y,as[m - n]? = some y∧x=aJs N m y
 | [],n,m,x,h=>by simp [aCd,look] at h
 | y :: as,n,m,x,h=>by
  simp only [aCd,look] at h;by_cases e:n=m
  ·subst e;rw [if_pos rfl] at h;injection h with h
   exact ⟨Nat.le_refl _,y,by simp,h.symm⟩
  rw [if_neg e] at h;obtain ⟨h1,z,h2,h3⟩:=aBg N as (n + 1) m x h;refine ⟨by omega,z,?_,h3⟩
  rw [show m - n=(m - (n + 1)) + 1 by omega]
  simpa using h2
theorem tZ (N:Nat):∀ (as:List ArgA) (n m:Nat) (x:BoxA),look (wT N n as) m=some x→∃ j,m=N + n + j∧as[j]? = some (.ptr x.b x.off x.cs)
 | [],n,m,x,h=>by simp [wT,look] at h
 | .val y :: as,n,m,x,h=>by
  simp only [wT] at h;obtain ⟨j,h1,h2⟩:=tZ N as (n + 1) m x h;exact ⟨j + 1,by omega,by simpa using h2⟩
 | .ptr b off cs :: as,n,m,x,h=>by
  simp only [wT,look] at h;by_cases e:N + n=m
  ·rw [if_pos e] at h;injection h with h
   subst h;exact ⟨0,by omega,by simp⟩
  rw [if_neg e] at h;obtain ⟨j,h1,h2⟩:=tZ N as (n + 1) m x h;exact ⟨j + 1,by omega,by simpa using h2⟩
theorem xV (N:Nat):∀ (as:List ArgA) (n j:Nat) (b off:Nat) (cs:List TA),as[j]? = some (.ptr b off cs)→look (wT N n as) (N + n + j)=some ⟨b,off,cs⟩
 | [],n,j,b,off,cs,h=>by simp at h
 | .val y :: as,n,j,b,off,cs,h=>by
  cases j with
  | zero=>simp at h
  | succ j =>
   have:=xV N as (n + 1) j b off cs (by simpa using h)
   rw [show N + (n + 1) + j=N + n + (j + 1) by omega] at this
   exact this
 | .ptr b2 off2 cs2 :: as,n,j,b,off,cs,h=>by
  cases j with
  | zero =>
   simp only [List.getElem?_cons_zero,Option.some.injEq,ArgA.ptr.injEq] at h;obtain ⟨rfl,rfl,rfl⟩:=h;simp [wT,look]
  | succ j =>
   have:=xV N as (n + 1) j b off cs (by simpa using h)
   rw [show N + (n + 1) + j=N + n + (j + 1) by omega] at this
   simp only [wT,look];rw [if_neg (by omega)]
   exact this
theorem aGu (N:Nat):∀ (as:List ArgA) (n:Nat) (x:Nat × Nat × Nat × Nat),x ∈ aL6 N n as→∃ j cs,x.1=N + n + j∧as[j]? = some (.ptr x.2.1 x.2.2.1 cs)∧cs.length=x.2.2.2
 | [],n,x,h=>by simp [aL6] at h
 | .val y :: as,n,x,h=>by
  obtain ⟨j,cs,h1,h2,h3⟩:=aGu N as (n + 1) x h;exact ⟨j + 1,cs,by omega,by simpa using h2,h3⟩
 | .ptr b off cs :: as,n,x,h=>by
  simp only [aL6] at h;rcases List.mem_cons.1 h with rfl | h
  ·exact ⟨0,cs,by simp,by simp,rfl⟩
  obtain ⟨j,cs,h1,h2,h3⟩:=aGu N as (n + 1) x h;exact ⟨j + 1,cs,by omega,by simpa using h2,h3⟩
theorem aJr (N k:Nat):∀ (as:List ArgA) (n:Nat),tot (AVA.cnt k) (aCd N n as) + tot (BoxA.cnt k) (wT N n as)=sH k as + pcL k as
 | [],n=>rfl
 | .val x :: as,n=>by
  have:=aJr N k as (n + 1);simp only [aCd,wT,aJs,tot,AVA.cnt,sH,pcL,ArgA.inn,ArgA.pc];omega
 | .ptr b off cs :: as,n=>by
  have:=aJr N k as (n + 1);simp only [aCd,wT,aJs,tot,AVA.cnt,BoxA.cnt,sH,pcL,ArgA.inn,ArgA.pc];omega
theorem aGl {k:Nat}:∀ {as:List ArgA} {x:ArgA},x ∈ as→x.inn k ≤ sH k as
 | y :: as,x,h=>by
  simp only [sH];rcases List.mem_cons.1 h with rfl | h
  ·omega
  have:=aGl (k:=k) h;omega
theorem aCj:∀ (as:List ArgA) (x:Nat × Nat × Nat),x ∈ tD as ↔ ∃ cs,ArgA.ptr x.1 x.2.1 cs ∈ as∧cs.length=x.2.2
 | [],x=>by simp [tD]
 | .val y :: as,x=>by simp [tD,aCj as x]
 | .ptr b off cs :: as,x=>by
  simp only [tD,List.mem_cons,aCj as x];constructor
  ·rintro (rfl | ⟨cs2,h1,h2⟩)
   ·exact ⟨cs,.inl rfl,rfl⟩
   exact ⟨cs2,.inr h1,h2⟩
  rintro ⟨cs2,h1 | h1,h2⟩
  ·left;simp only [ArgA.ptr.injEq] at h1;obtain ⟨e1,e2,e3⟩:=h1;subst e3;rw [← e1,← e2,h2]
  exact .inr ⟨cs2,h1,h2⟩
theorem aQl {k:Nat}:∀ (as:List ArgA) (i j:Nat) (x y:ArgA),as[i]? = some x→as[j]? = some y→i ≠ j→x.pc k + y.pc k ≤ pcL k as
 | [],i,j,x,y,h,_,_=>by simp at h
 | z :: as,i,j,x,y,h1,h2,hne=>by
  have one:∀ (as:List ArgA) (i:Nat) (x:ArgA),as[i]? = some x→x.pc k ≤ pcL k as:=by
   intro as;induction as with
   | nil=>intro i x h;simp at h
   | cons z as ih =>
    intro i x h;cases i with
    | zero=>simp only [List.getElem?_cons_zero,Option.some.injEq] at h;subst h;simp only [pcL];omega
    | succ i=>have:=ih i x (by simpa using h);simp only [pcL];omega
  cases i with
  | zero =>
   simp only [List.getElem?_cons_zero,Option.some.injEq] at h1;subst h1;cases j with
   | zero=>exact absurd rfl hne
   | succ j=>have:=one as j y (by simpa using h2);simp only [pcL];omega
  | succ i =>
   cases j with
   | zero =>
    simp only [List.getElem?_cons_zero,Option.some.injEq] at h2;subst h2;have:=one as i x (by simpa using h1);simp only [pcL];omega
   | succ j =>
    have:=aQl (k:=k) as i j x y (by simpa using h1) (by simpa using h2) (by omega)
    simp only [pcL];omega
def aCe (N:Nat) (w:World) (Z:Nat→Prop) (as:List ArgA) (pin:List (Nat × Value):=[]):Ctx:=⟨N,w,Z,fun k=>0 < sH k as + pcL k as,tD as,aL6 N 0 as,pin⟩
theorem aGt {N:Nat} {as:List ArgA} {pin:List (Nat × Value)} (hA:ArgsOk Z w.heap as) (hN:as.length ≤ N):SOk (aCe N w Z as pin) (aBn N (as.map ArgA.er)) { tmps:=(as.map ArgA.value).toArray ++ Array.replicate (N - as.length) undef,defers:=[] } w:=by
 have hget:∀ n y,as[n]? = some y→((as.map ArgA.value).toArray ++ Array.replicate (N - as.length) undef).getD n undef=y.value:=by
  intro n y hy;have hlt:=(List.getElem?_eq_some_iff.1 hy).1;rw [Array.getD_eq_getD_getElem?,Array.getElem?_append_left (by simpa using hlt)]
  simp [hy]
 have hcnt:∀ k,(StA.mk (aCd N 0 as) (wT N 0 as) []).cnt k=sH k as + pcL k as:=by
  intro k;have:=aJr N k as 0;simp only [StA.cnt,TA.cntL];omega
 have hpc:∀ x ∈ tD as,0 < pcL x.1 as:=by
  intro x hx;rw [oE];exact aKm hx rfl
 refine ⟨⟨aCd N 0 as,wT N 0 as,[]⟩,Z,?_,rfl,?_⟩
 ·simp only [StA.er,aBn,aJp,aJq]
 exact {
  defers:=rfl
  size:=by simp [aCe];omega
  tm:=fun n x hx=>by
   obtain ⟨_,y,h1,h2⟩:=aBg N as 0 n x hx;rw [Nat.sub_zero] at h1;subst h2;show ValOk _ _ _ _ (Array.getD _ n undef);rw [hget n y h1];have hy:=hA.holds y (List.mem_of_getElem? h1);cases y with
   | val t=>exact ⟨rfl,hy⟩
   | ptr b off cs =>
    have:=xV N as 0 n b off cs h1;rw [Nat.add_zero] at this;exact ⟨some (b,off),cs,(b,off),by simp [StA.rootCells,this],by simp [TA.addrP],rfl⟩
  bx:=fun n x hx=>by
   obtain ⟨j,h1,h2⟩:=tZ N as 0 n x hx;exact hA.holds _ (List.mem_of_getElem? h2)
  uniq:=fun k=>by rw [hcnt];exact hA.uniq k
  notZ:=fun k hk=>hA.notZ k (by rwa [hcnt] at hk)
  lt:=fun k hk=>by
   rw [hcnt] at hk;have hex:∃ x ∈ as,0 < x.inn k + x.pc k:=by
    clear hcnt hget hA hN hpc;induction as with
    | nil=>simp [sH,pcL] at hk
    | cons x as ih =>
     simp only [sH,pcL] at hk;by_cases h:0 < x.inn k + x.pc k
     ·exact ⟨x,by simp,h⟩
     obtain ⟨y,h1,h2⟩:=ih (by omega)
     exact ⟨y,by simp [h1],h2⟩
   obtain ⟨x,hx,h⟩:=hex;have hH:=hA.holds x hx;cases x with
   | val t=>simp only [ArgA.inn,ArgA.pc] at h;exact TA.Holds.lt t hH (by omega)
   | ptr b off cs =>
    simp only [ArgA.inn,ArgA.pc] at h;by_cases e:b=k
    ·subst e;exact hH.1.lt
    rw [if_neg e] at h;exact TA.HoldsL.lt cs hH.2.1 (by omega)
  zlt:=hA.zlt
  own:=fun k hk=>.inl (by rwa [hcnt] at hk)
  z0:=fun k hk=>hk
  zext:=fun k hk=>.inl hk
  os:=rfl
  tape:=rfl
  output:=rfl
  grown:=Nat.le_refl _
  kept:=fun _ _ _=>rfl
  part:=fun x hx=>by
   obtain ⟨cs,h1,h2⟩:=(aCj as x).1 hx;obtain ⟨⟨c,e,fr,g1,_⟩,_⟩:=hA.holds _ h1;exact ⟨c,c,e,fr,g1,g1,rfl,fun _ _=>rfl⟩
  pbx:=fun x hx n y hy hyb=>by
   obtain ⟨j,h1,h2⟩:=tZ N as 0 n y hy;obtain ⟨cs,h3,h4⟩:=(aCj as x).1 hx;obtain ⟨i,hi⟩:=List.getElem?_of_mem h3;by_cases e:i=j
   ·subst e;rw [hi] at h2;simp only [Option.some.injEq,ArgA.ptr.injEq] at h2;obtain ⟨e1,e2,e3⟩:=h2;exact ⟨e2.symm,by rw [← e3,h4];exact Nat.le_refl _⟩
   exfalso;have:=aQl (k:=x.1) as i j _ _ hi h2 e;have hu:=hA.uniq x.1;simp only [ArgA.pc,hyb,if_true] at this;omega
  pbo:=fun x hx n y hy=>by
   have h1:=hpc x hx;have h2:=hA.uniq x.1;obtain ⟨_,z,h3,h4⟩:=aBg N as 0 n y hy;subst h4;have h5:=aGl (k:=x.1) (List.mem_of_getElem? h3);cases z with
   | val t=>simp only [aJs,AVA.cnt];simp only [ArgA.inn] at h5;omega
   | ptr b off cs=>rfl
  pbi:=fun x hx n y hy=>by
   have h1:=hpc x hx;have h2:=hA.uniq x.1;obtain ⟨j,_,h3⟩:=tZ N as 0 n y hy;have h5:=aGl (k:=x.1) (List.mem_of_getElem? h3);simp only [ArgA.inn] at h5;omega
  hand:=trivial
  pbh:=fun _ _=>rfl
  pk:=fun x hx=>by
   obtain ⟨j,cs,h1,h2,h3⟩:=aGu N as 0 x hx;refine ⟨by show N ≤ x.1;omega,cs,?_,h3⟩
   rw [h1];exact xV N as 0 j _ _ _ h2 }
theorem aGv (N:Nat):∀ (as:List ArgA) (n j:Nat) (b off:Nat) (cs:List TA),as[j]? = some (.ptr b off cs)→(N + n + j,b,off,cs.length) ∈ aL6 N n as
 | [],n,j,b,off,cs,h=>by simp at h
 | .val y :: as,n,0,b,off,cs,h=>by simp at h
 | .val y :: as,n,j + 1,b,off,cs,h=>by
  have:=aGv N as (n + 1) j b off cs (by simpa using h)
  simp only [aL6];rw [show N + n + (j + 1)=N + (n + 1) + j by omega]
  exact this
 | .ptr b2 off2 cs2 :: as,n,0,b,off,cs,h=>by
  simp only [List.getElem?_cons_zero,Option.some.injEq,ArgA.ptr.injEq] at h;obtain ⟨rfl,rfl,rfl⟩:=h;simp [aL6]
 | .ptr b2 off2 cs2 :: as,n,j + 1,b,off,cs,h=>by
  have:=aGv N as (n + 1) j b off cs (by simpa using h)
  simp only [aL6,List.mem_cons];right;rw [show N + n + (j + 1)=N + (n + 1) + j by omega]
  exact this
end Go.OM
namespace Go.OM
variable {C:Ctx} {Z Z':Nat→Prop} {s:StA} {a:Act} {w w':World} {E:Env} {o:Oper} {σ σ':St} {K:Act→World→Prop} {Q:Exit→Act→World→Prop}
def St.res1 (E:Env) (N:Nat) (r:ResultVar) (σ:St):Option (T × St):=match r with
 | .tmp t=>σ.take N (.tmp t)
 | .cell c t=>(E.ty t).bind fun ti=>match σ.get c with
  | .ref r o p=>(σ.rootCells r).bind fun cs=>(T.getP cs o p ti.size).bind fun l=>some (mkT ti.kk l,σ.setRoot true r (T.setP cs o p (l.map T.bury)))
  | _=>none
def St.resL (E:Env) (N:Nat):List ResultVar→St→Option (List T × St)
 | [],σ=>some ([],σ)
 | r :: rs,σ=>(σ.res1 E N r).bind fun y=>(St.resL E N rs y.2).bind fun z=>some (y.1 :: z.1,z.2)
def aKi (tmps:Array Value):ResultVar→Sem Value
 | .tmp t=>pure (tmps.getD t undef)
 | .cell a t=>do loadVar t (← asAddr (tmps.getD a undef))
theorem aB8 (fn:Func) (tmps:Array Value):results fn tmps=(do
  let vs ← fn.results.mapM (aKi tmps)
  pure (if h:vs.size=1 then vs[0] else .tuple vs)):=by
 unfold results
 congr 2
theorem aR8 {r:ResultVar} {y:T} (H:SRel C Z s a w) (h:s.er.res1 E C.N r=some (y,σ')) :
  ∃ s' yA,yA.er=y∧s'.er=σ'∧s'.hd=yA :: s.hd∧SRel C Z s' a w∧(aKi a.tmps r).run E.P w = .ok yA.val w∧yA.Holds Z w.heap:=by
 cases r with
 | tmp t =>
  simp only [St.res1] at h;obtain ⟨s',yA,t1,t2,t3,t4,t5,t6⟩:=vT H h;refine ⟨s',yA,t1,t2,t3,t4,?_,t6⟩;have hev:a.eval (.tmp t)=a.tmps.getD t undef:=rfl;rw [hev] at t5;simp [aKi,t5]
 | cell c t =>
  simp only [St.res1] at h;obtain ⟨ti,hti,h⟩:=Option.bind_eq_some_iff.1 h;split at h
  case h_2=>cases h
  rename_i r p q hx;obtain ⟨csT,hcs,h⟩:=Option.bind_eq_some_iff.1 h;obtain ⟨lT,hl,h⟩:=Option.bind_eq_some_iff.1 h;simp only [Option.some.injEq,Prod.mk.injEq] at h;obtain ⟨rfl,rfl⟩:=h;obtain ⟨xA,e1,e2⟩:=opA H (.tmp c);simp only [St.op] at e1;rw [hx] at e1;rw [uH e1] at e2;obtain ⟨base,cs,ad,g1,g2,g3⟩:=e2;rw [StA.er_rootCells,g1] at hcs;simp only [Option.map_some,Option.some.injEq] at hcs;subst hcs;obtain ⟨l,t1,t2⟩:=TA.er_get _ _ _ _ _ hl;subst t2;obtain ⟨h1,h2,h3,h4⟩:=gL H g1;obtain ⟨r1,r2,r3⟩:=H.takePlace g1 t1;obtain ⟨m1,m2,m3,m4,m5⟩:=tY q base cs p ti.size l ad t1 g2 h1 h3;obtain ⟨kg,k1⟩:=aBi E hti;have hlen:=TA.getP_length _ _ _ _ _ t1;have hk:ti.kk=none→l.length=1:=fun e=>by rw [hlen];exact k1 e
  have hev:a.eval (.tmp c)=a.tmps.getD c undef:=rfl;refine ⟨_,yM ti.kk l,wS ti.kk l,?_,?_,r1.drop (hd':=yM ti.kk l :: s.hd) (fun q=>?_) ?_,?_,gN hk r3 r2⟩
  ·show StA.er _=_;have:=StA.er_setRoot s true r (TA.setP cs p q (l.map TA.bury)) (l ++ s.hd);rw [TA.er_set,rC] at this;exact this
  ·rfl
  ·rw [pK];simp only [TA.cntL,TA.cntL_append,qZ q hk];omega
  ·simp only [TA.HoldsL];exact ⟨gN hk r3 r2,H.hand⟩
  have hload:=uW (w:=w) hti (b:=ad.1) (off:=ad.2) m3 hlen r3 m5;rw [hev] at g3;rw [qY hk r3];simp only [aKi,g3,Sem.run_bind,asAddr];simpa using hload
theorem aGb:∀ (rs:List ResultVar) (s:StA) (ys:List T) (σ':St),SRel C Z s a w→St.resL E C.N rs s.er=some (ys,σ') →
  ∃ s' ysA,TA.erL ysA=ys∧s'.er=σ'∧SRel C Z s' a w∧(∀ k,TA.cntL k s'.hd=TA.cntL k ysA + TA.cntL k s.hd)∧TA.HoldsL Z w.heap ysA ∧
   (rs.mapM (aKi a.tmps)).run E.P w = .ok (ysA.map TA.val) w
 | [],s,ys,σ',H,h=>by
  simp only [St.resL,Option.some.injEq,Prod.mk.injEq] at h;obtain ⟨rfl,rfl⟩:=h;exact ⟨s,[],rfl,rfl,H,(fun k=>by simp [TA.cntL]),trivial,by simp⟩
 | r :: rs,s,ys,σ',H,h=>by
  simp only [St.resL] at h;obtain ⟨⟨y,σ1⟩,h1,h⟩:=Option.bind_eq_some_iff.1 h;obtain ⟨⟨zs,σ2⟩,h2,h⟩:=Option.bind_eq_some_iff.1 h;simp only [Option.some.injEq,Prod.mk.injEq] at h;obtain ⟨rfl,rfl⟩:=h;obtain ⟨s1,yA,t1,t2,t3,t4,t5,t6⟩:=aR8 H h1;subst t2;obtain ⟨s',zsA,r1,r2,r3,r4,r5,r6⟩:=aGb rs s1 _ _ t4 h2;refine ⟨s',yA :: zsA,by simp [TA.erL,t1,r1],r2,r3,fun k=>?_,?_,?_⟩
  ·rw [r4,t3];simp only [TA.cntL];omega
  ·simp only [TA.HoldsL];refine ⟨?_,r5⟩;exact t6
  rw [List.mapM_cons];simp only [Sem.run_bind,t5,Result.andThen_ok,r6,Sem.run_pure,List.map_cons]
def St.outsAt (N:Nat) (σ:St):Nat→List Arg→Option (List (List T))
 | _,[]=>some []
 | n,.val _ :: as=>σ.outsAt N (n + 1) as
 | n,.ptr _ :: as=>(look σ.bx (N + n)).bind fun cs=>(σ.outsAt N (n + 1) as).map fun z=>cs :: z
def St.leave (E:Env) (N:Nat) (rs:List ResultVar) (args:List Arg) (σ:St):Option (List T × List (List T)):=(σ.resL E N rs).bind fun y=>(y.2.outsAt N 0 args).map fun z=>(y.1,z)
theorem zX {N:Nat} {s:StA} (H:SRel C Z s a w):∀ (as:List ArgA) (n:Nat) (outs:List (List T)),(∀ x ∈ aL6 N n as,∃ cs,look s.bx x.1=some ⟨x.2.1,x.2.2.1,cs⟩∧cs.length=x.2.2.2)→s.er.outsAt N n (as.map ArgA.er)=some outs →
  ∃ ls,ls.map TA.erL=outs∧yL Z w.heap (tD as) ls∧(∀ l ∈ ls,∃ m x,look s.bx m=some x∧x.cs=l)∧∃ keys:List Nat,(∀ m ∈ keys,N + n ≤ m)∧keys.Nodup∧(∀ k,pcL k as + TA.cntL k ls.flatten=(keys.map fun m=>((look s.bx m).map (BoxA.cnt k)).getD 0).sum)
 | [],n,outs,hk,h=>by
  simp only [List.map_nil,St.outsAt,Option.some.injEq] at h;subst h;exact ⟨[],rfl,trivial,by simp,[],by simp,by simp,fun k=>rfl⟩
 | .val x :: as,n,outs,hk,h=>by
  simp only [List.map_cons,ArgA.er,St.outsAt] at h;obtain ⟨ls,h1,h2,h3,keys,h4,h5,h6⟩:=zX H as (n + 1) outs hk h;exact ⟨ls,h1,h2,h3,keys,(fun m hm=>by have:=h4 m hm;omega),h5,fun k=>by simp only [pcL,ArgA.pc,Nat.zero_add];exact h6 k⟩
 | .ptr b off cs0 :: as,n,outs,hk,h=>by
  simp only [List.map_cons,ArgA.er,St.outsAt] at h;obtain ⟨csT,hcs,h⟩:=Option.bind_eq_some_iff.1 h;obtain ⟨z,hz,h⟩:=Option.map_eq_some_iff.1 h;subst h;obtain ⟨cs,g1,g2⟩:=hk (N + n,b,off,cs0.length) (by simp [aL6])
  simp only at g1 g2;rw [lY,g1] at hcs;simp only [Option.map_some,Option.some.injEq] at hcs;subst hcs;obtain ⟨ls,h1,h2,h3,keys,h4,h5,h6⟩:=zX H as (n + 1) z (fun x hx=>hk x (by simp [aL6,hx])) hz
  obtain ⟨m1,m2,m3⟩:=H.bx _ _ g1;simp only at m1 m2 m3;refine ⟨cs :: ls,by simp [h1],⟨by rw [← g2];exact m1,m2,m3,g2,h2⟩,?_,(N + n) :: keys,?_,?_,fun k=>?_⟩
  ·intro l hl;rcases List.mem_cons.1 hl with rfl | hl
   ·exact ⟨_,_,g1,rfl⟩
   exact h3 l hl
  ·intro m hm;rcases List.mem_cons.1 hm with rfl | hm
   ·exact Nat.le_refl _
   have:=h4 m hm;omega
  ·refine List.nodup_cons.2 ⟨fun hm=>?_,h5⟩;have:=h4 _ hm;omega
  have:=h6 k;simp only [pcL,ArgA.pc,List.flatten_cons,TA.cntL_append,List.map_cons,List.sum_cons,g1,Option.map_some,Option.getD_some,BoxA.cnt];omega
theorem aA6 {α:Type} (f:α→Nat):∀ (l:List (Nat × α)) (keys:List Nat),keys.Nodup→(keys.map fun m=>((look l m).map f).getD 0).sum ≤ tot f l
 | [],keys,_=>by
  have:(keys.map fun m=>((look ([]:List (Nat × α)) m).map f).getD 0).sum=0:=by
   induction keys with
   | nil=>rfl
   | cons m ms ih=>simp only [List.map_cons,List.sum_cons,look,Option.map_none,Option.getD_none,Nat.zero_add];exact ih (List.nodup_cons.1 (by assumption)).2
  omega
 | (n,x) :: l,keys,hn=>by
  have ih:=aA6 f l keys hn;have key:∀ (keys:List Nat),keys.Nodup→(keys.map fun m=>((look ((n,x) :: l) m).map f).getD 0).sum ≤ (keys.map fun m=>((look l m).map f).getD 0).sum + (if n ∈ keys then f x else 0):=by
   intro keys;induction keys with
   | nil=>intro _;simp
   | cons m ms ihk =>
    intro hn;obtain ⟨hm,hms⟩:=List.nodup_cons.1 hn;have:=ihk hms;simp only [List.map_cons,List.sum_cons,look];by_cases e:n=m
    ·subst e;rw [if_neg hm] at this;rw [if_pos rfl,if_pos (by simp)]
     simp only [Option.map_some,Option.getD_some];simp only [look] at this;omega
    rw [if_neg e];simp only [look] at this;by_cases e2:n ∈ ms
    ·rw [if_pos e2] at this;rw [if_pos (by simp [e2])]
     omega
    rw [if_neg e2] at this;rw [if_neg (by simp [e,e2])]
    omega
  have h2:=key keys hn;simp only [tot];split at h2<;>omega
theorem OkIO.ok {f:FuncId} {args:List Arg} {res:List T} {outs:List (List T)} (h:OkIO E f args res outs []):Ok E f args res outs:=by
 intro w Z as h1 h2 h3;refine (h w Z as h1 h2 h3).mono fun e w' ⟨Z',rs,ls,gs,e1,e2,e3,e4,_,e5⟩=>?_;have hg:gs=[]:=by
  cases gs with
  | nil=>rfl
  | cons g gs=>simp [TA.erL] at e4
 subst hg;rw [List.append_nil] at e5;exact ⟨Z',rs,ls,e1,e2,e3,e5⟩
def St.leaveIO (E:Env) (N:Nat) (rs:List ResultVar) (io:List Nat) (args:List Arg) (σ:St):Option (List T × List T × List (List T)) :=
 (σ.resL E N rs).bind fun y=>(St.resL E N (io.map fun n=>.tmp n) y.2).bind fun x=>(x.2.outsAt N 0 args).map fun z=>(y.1,x.1,z)
theorem aI3 (tmps:Array Value) (w:World) (P:Program):∀ (ns:List Nat),((ns.map fun n=>ResultVar.tmp n).mapM (aKi tmps)).run P w = .ok (ns.map fun n=>tmps.getD n undef) w
 | []=>by simp
 | n :: ns=>by
  rw [List.map_cons,List.mapM_cons];simp only [aKi,pure_bind,Sem.run_bind,aI3 tmps w P ns,Result.andThen_ok]
  rfl
def Arg.isVal:Arg→Bool
 | .val _=>true
 | _=>false
theorem aBc:∀ as:List ArgA,(as.map ArgA.er).all Arg.isVal=true→tD as=[]
 | [],_=>rfl
 | .val x :: as,h=>by
  simp only [List.map_cons,List.all_cons,Bool.and_eq_true] at h;exact aBc as h.2
 | .ptr b off cs :: as,h=>by simp [ArgA.er,Arg.isVal] at h
theorem aIo (N:Nat) (as:List ArgA) (i:Nat) (cs:List T) (h:(as.map ArgA.er)[i]? = some (.ptr cs)):∃ b off,(N + i,b,off,cs.length) ∈ aL6 N 0 as:=by
 rw [List.getElem?_map] at h;obtain ⟨x,hx,hx2⟩:=Option.map_eq_some_iff.1 h;cases x with
 | val t=>simp [ArgA.er] at hx2
 | ptr b off l =>
  simp only [ArgA.er,Arg.ptr.injEq] at hx2;subst hx2;have:=aGv N as 0 i b off l hx;rw [TA.erL_map,List.length_map];exact ⟨b,off,by simpa using this⟩
theorem zZ {f:FuncId} {fn:Func} {c:Code} {args:List Arg} {res:List T} {outs:List (List T)} (io:List (Nat × T)) (hf:E.P.funcs[f]? = some fn) (hb:fn.body=some c) (hN:args.length ≤ fn.ntmps) (hio:io.all (fun p=>decide (p.1 < args.length))=true)
  (h:∀ C:Ctx,C.N=fn.ntmps→C.pin.map Prod.fst=io.map Prod.fst→(args.all Arg.isVal=true→C.PB=[])→(∀ (i:Nat) (cs:List T),args[i]? = some (.ptr cs)→∃ b off,(fn.ntmps + i,b,off,cs.length) ∈ C.PK)→O E C c (fun e σ=>(e = .ret ∨ e = .normal)∧σ.leaveIO E fn.ntmps fn.results.toList (io.map Prod.fst) args=some (res,io.map Prod.snd,outs)) (aBn fn.ntmps args)):OkIO E f args res outs io:=by
 intro w Z as has hA hG;subst has;rw [List.length_map] at hN;refine calls_of_wp hf hb ?_;have hent:=aGt (pin:=io.map fun p=>(p.1,((as.map ArgA.value)[p.1]?).getD undef)) hA hN;have hsz:(as.map ArgA.value).toArray.size=as.length:=by simp
 rw [hsz];have hpin0:PinOk E (aCe fn.ntmps w Z as (io.map fun p=>(p.1,((as.map ArgA.value)[p.1]?).getD undef))) { tmps:=(as.map ArgA.value).toArray ++ Array.replicate (fn.ntmps - as.length) undef,defers:=[] }:=by
  refine ⟨fun x hx=>?_,hG,fun b hb=>?_⟩;rotate_left
  ·show ¬ (0 < sH b.1 as + pcL b.1 as);intro h0;exact hA.notZ b.1 h0 (hG b hb).1
  obtain ⟨p,hp,rfl⟩:=List.mem_map.1 hx;have h1:=List.all_eq_true.1 hio p hp;simp only [decide_eq_true_eq,List.length_map] at h1;show Array.getD _ p.1 undef=_;rw [Array.getD_eq_getD_getElem?,Array.getElem?_append_left (by simpa using h1)]
  simp
 refine Code.wp_mono (fun e a w' ⟨σ',⟨he,hl⟩,hS⟩=>?_) (h (aCe fn.ntmps w Z as (io.map fun p=>(p.1,((as.map ArgA.value)[p.1]?).getD undef))) rfl (by simp [aCe]) (fun hv=>aBc as hv) (fun i cs hi=>aIo fn.ntmps as i cs hi) _ w ⟨hent,hpin0⟩)
 obtain ⟨⟨s,Z',q1,q2,q3⟩,hpin⟩:=hS;subst q1;unfold St.leaveIO at hl;obtain ⟨⟨ys,σ1⟩,hr,hl⟩:=Option.bind_eq_some_iff.1 hl;obtain ⟨⟨xs,σ2⟩,hr2,hl⟩:=Option.bind_eq_some_iff.1 hl;obtain ⟨z,hz,hl⟩:=Option.map_eq_some_iff.1 hl;simp only [Prod.mk.injEq] at hl;obtain ⟨rfl,rfl,rfl⟩:=hl;obtain ⟨s1,rs0,p1,p2,p3,p4,p5,p6⟩:=aGb (E:=E) _ _ _ _ q3 hr;subst p2;obtain ⟨s',gsA,g1,g2,r3,g4,g5,g6⟩:=aGb (E:=E) _ _ _ _ p3 hr2;subst g2;have hgv:gsA.map TA.val=io.map (fun p=>(((as.map ArgA.value)[p.1]?).getD undef)):=by
  have e1:=aI3 a.tmps w' E.P (io.map Prod.fst);rw [e1] at g6;injection g6 with g6 _
  rw [← g6,List.map_map];apply List.map_congr_left;intro p hp;exact hpin.1 (p.1,((as.map ArgA.value)[p.1]?).getD undef) (List.mem_map.2 ⟨p,hp,rfl⟩)
 generalize hrs:rs0 ++ gsA=rsA;have r4:∀ k,TA.cntL k s'.hd=TA.cntL k rsA + TA.cntL k s.hd:=by
  intro k;rw [g4,p4,← hrs,TA.cntL_append];omega
 have r5:TA.HoldsL Z' w'.heap rsA:=by rw [← hrs];exact holdsL_append.2 ⟨p5,g5⟩
 obtain ⟨ls,o1,o2,o3,keys,o4,o5,o6⟩:=zX r3 as 0 z (fun x hx=>(r3.pk x hx).2) hz;have hhd:∀ k,TA.cntL k s'.hd=TA.cntL k rsA:=by
  intro k;rw [r4,q2];simp [TA.cntL]
 have htot:∀ k,TA.cntL k rsA + TA.cntL k ls.flatten + pcL k as ≤ s'.cnt k:=by
  intro k;have h1:=aA6 (BoxA.cnt k) s'.bx keys o5;have h2:=o6 k;have h3:=hhd k;simp only [StA.cnt];omega
 have hptr:∀ k,0 < TA.cntL k rsA + TA.cntL k ls.flatten→pcL k as=0:=by
  intro k hk;have h1:=htot k;have h2:=r3.uniq k;omega
 have hB:Back w Z as Z' rsA ls w':={
  holds:=r5
  outs:=o2
  uniq:=fun k=>by have:=htot k;have:=r3.uniq k;omega
  own:=fun k hk=>by
   have h1:=htot k;refine ⟨?_,r3.notZ k (by omega)⟩
   rcases r3.own k (by omega) with h2 | h2
   ·left;have h2:0 < sH k as + pcL k as:=h2;have h3:=hptr k hk;omega
   exact .inr h2
  zle:=r3.z0
  zext:=fun k hk=>by
   rcases r3.zext k hk with h1 | h1 | ⟨h1,h2⟩
   ·exact .inl h1
   ·exact .inr (.inl h1)
   right;right;have h1:0 < sH k as + pcL k as:=h1;have:pcL k as=0:=by
    rcases Nat.eq_zero_or_pos (pcL k as) with h | h
    ·exact h
    exfalso;have h2:∀ x ∈ tD as,x.1 ≠ k:=h2;rw [oE] at h;generalize tD as=qs at h h2;induction qs with
    | nil=>simp at h
    | cons q qs ih =>
     simp only [List.map_cons,List.sum_cons] at h;rw [if_neg (h2 q (by simp))] at h
     exact ih (by omega) (fun x hx=>h2 x (by simp [hx]))
   omega
  zlt:=r3.zlt
  os:=r3.os
  tape:=r3.tape
  output:=r3.output
  grown:=r3.grown
  kept:=fun k hk h0=>r3.kept k hk (by show ¬ (0 < sH k as + pcL k as);omega)
  part:=r3.part }
 have hres:(results fn a.tmps).run E.P w' = .ok (aKh rs0) w':=by
  rw [aB8];have hml:fn.results.mapM (aKi a.tmps)=List.toArray <$> (fn.results.toList.mapM (aKi a.tmps)):=by
   conv=>lhs;rw [show fn.results=fn.results.toList.toArray by simp]
   rw [List.mapM_toArray]
  rw [hml];simp only [Sem.run_bind,Sem.run_map,p6,Result.andThen_ok]
  match rs0 with
  | []=>rfl
  | [x]=>rfl
  | x :: y :: l=>simp [aKh]
 have hpost:∃ v,(results fn a.tmps).run E.P w' = .ok v w'∧∃ Z' rs ls gs,Ending.returned v = .returned (aKh rs)∧TA.erL rs=ys∧ls.map TA.erL=z∧TA.erL gs=io.map Prod.snd∧gs.map TA.val=io.map (fun p=>(((as.map ArgA.value)[p.1]?).getD undef))∧Back w Z as Z' (rs ++ gs) ls w':=⟨_,hres,Z',rs0,ls,gsA,rfl,p1,o1,g1,hgv,by rw [hrs];exact hB⟩
 rcases he with rfl | rfl
 ·exact ⟨r3.defers,hpost⟩
 exact ⟨r3.defers,hpost⟩
theorem aGg {f:FuncId} {fn:Func} {c:Code} {args:List Arg} {res:List T} {outs:List (List T)} (io:List (Nat × T)) (hf:E.P.funcs[f]? = some fn) (hb:fn.body=some c) (hN:args.length ≤ fn.ntmps) (hio:io.all (fun p=>decide (p.1 < args.length))=true)
  (h:∀ C:Ctx,C.N=fn.ntmps→C.pin.map Prod.fst=io.map Prod.fst→(args.all Arg.isVal=true→C.PB=[])→O E C c (fun e σ=>(e = .ret ∨ e = .normal)∧σ.leaveIO E fn.ntmps fn.results.toList (io.map Prod.fst) args=some (res,io.map Prod.snd,outs)) (aBn fn.ntmps args)):OkIO E f args res outs io :=
 zZ io hf hb hN hio fun C h1 h2 h3 _=>h C h1 h2 h3
theorem aBz {f:FuncId} {fn:Func} {c:Code} {args:List Arg} {res:List T} {outs:List (List T)} (io:List (Nat × T)) (hf:E.P.funcs[f]? = some fn) (hb:fn.body=some c) (hN:args.length ≤ fn.ntmps) (hio:io.all (fun p=>decide (p.1 < args.length))=true)
  (h:∀ C:Ctx,C.N=fn.ntmps→C.pin.map Prod.fst=io.map Prod.fst→O E C c (fun e σ=>(e = .ret ∨ e = .normal)∧σ.leaveIO E fn.ntmps fn.results.toList (io.map Prod.fst) args=some (res,io.map Prod.snd,outs)) (aBn fn.ntmps args)):OkIO E f args res outs io :=
 aGg io hf hb hN hio fun C h1 h2 _=>h C h1 h2
theorem oB {f:FuncId} {fn:Func} {c:Code} {args:List Arg} {res:List T} {outs:List (List T)} (hf:E.P.funcs[f]? = some fn) (hb:fn.body=some c) (hN:args.length ≤ fn.ntmps)
  (h:∀ C:Ctx,C.N=fn.ntmps→C.pin=[]→O E C c (fun e σ=>(e = .ret ∨ e = .normal)∧σ.leave E fn.ntmps fn.results.toList args=some (res,outs)) (aBn fn.ntmps args)):Ok E f args res outs:=by
 refine OkIO.ok (aBz [] hf hb hN rfl fun C hC hp=>?_);refine (h C hC (by simpa using hp)).mono fun e σ ⟨h1,h2⟩=>⟨h1,?_⟩
 unfold St.leave at h2;unfold St.leaveIO;obtain ⟨y,hy,h2⟩:=Option.bind_eq_some_iff.1 h2;obtain ⟨z,hz,h2⟩:=Option.map_eq_some_iff.1 h2;simp only [Prod.mk.injEq] at h2;obtain ⟨rfl,rfl⟩:=h2;rw [hy];simp [St.resL,hz]
theorem aJa {f:FuncId} {fn:Func} {c:Code} {args:List Arg} {res:List T} {outs:List (List T)} (hf:E.P.funcs[f]? = some fn) (hb:fn.body=some c) (hN:args.length ≤ fn.ntmps)
  (h:∀ C:Ctx,C.N=fn.ntmps→C.pin=[]→(∀ (i:Nat) (cs:List T),args[i]? = some (.ptr cs)→∃ b off,(fn.ntmps + i,b,off,cs.length) ∈ C.PK)→O E C c (fun e σ=>(e = .ret ∨ e = .normal)∧σ.leave E fn.ntmps fn.results.toList args=some (res,outs)) (aBn fn.ntmps args)):Ok E f args res outs:=by
 refine OkIO.ok (zZ [] hf hb hN rfl fun C hC hp _ hB=>?_);refine (h C hC (by simpa using hp) hB).mono fun e σ ⟨h1,h2⟩=>⟨h1,?_⟩
 unfold St.leave at h2;unfold St.leaveIO;obtain ⟨y,hy,h2⟩:=Option.bind_eq_some_iff.1 h2;obtain ⟨z,hz,h2⟩:=Option.map_eq_some_iff.1 h2;simp only [Prod.mk.injEq] at h2;obtain ⟨rfl,rfl⟩:=h2;rw [hy];simp [St.resL,hz]
end Go.OM
namespace Go.OM
variable {C:Ctx} {Z Z':Nat→Prop} {s:StA} {a:Act} {w w':World} {E:Env} {o:Oper} {σ σ':St} {K:Act→World→Prop} {Q:Exit→Act→World→Prop}
def Cap.kept (kb:List Nat):Cap→Bool
 | .bx n=>kb.contains n
 | .ro _=>true
theorem CapA.all_kept (kb:List Nat) (xs:List CapA):(xs.map CapA.er).all (Cap.kept kb)=true ↔ ∀ n,CapA.bx n ∈ xs→n ∈ kb:=by
 rw [List.all_map,List.all_eq_true];refine ⟨fun h n hn=>by simpa [CapA.er,Cap.kept] using h _ hn,fun h c hc=>?_⟩
 cases c with
 | bx n=>simpa [CapA.er,Cap.kept] using h n hc
 | ro x=>rfl
def Root.kept (ks kb:List Nat):Root→Bool
 | .slot n=>ks.contains n
 | .box n=>kb.contains n
def AV.keep (ks kb:List Nat):AV→AV
 | .al r o p k=>if r.kept ks kb=true then .al r o p k else .u
 | .ref r o p=>if r.kept ks kb=true then .ref r o p else .u
 | .clo f xs=>if xs.all (Cap.kept kb)=true then .clo f xs else .u
 | x=>x
def AVA.keep (ks kb:List Nat):AVA→AVA
 | .al r o p k=>if r.kept ks kb=true then .al r o p k else .u
 | .ref r o p=>if r.kept ks kb=true then .ref r o p else .u
 | .clo f xs=>if (xs.map CapA.er).all (Cap.kept kb)=true then .clo f xs else .u
 | x=>x
def St.keep (ks kb:List Nat) (σ:St):St:=⟨ks.map fun n=>(n,(σ.get n).keep ks kb),kb.filterMap fun n=>(look σ.bx n).map fun x=>(n,x)⟩
def StA.keep (ks kb:List Nat) (s:StA):StA:=⟨ks.map fun n=>(n,((look s.tm n).getD .u).keep ks kb),kb.filterMap fun n=>(look s.bx n).map fun x=>(n,x),s.hd⟩
def St.keepOk (N:Nat) (ks kb:List Nat) (σ:St):Bool:=decide ks.Nodup && decide kb.Nodup && σ.bx.all fun e=>decide (e.1 < N) || kb.contains e.1
theorem AVA.er_keep (ks kb:List Nat) (x:AVA):(x.keep ks kb).er=x.er.keep ks kb:=by
 cases x with
 | al r o p k=>by_cases h:r.kept ks kb=true<;>simp [AVA.keep,AVA.er,AV.keep,h]
 | ref r o p=>by_cases h:r.kept ks kb=true<;>simp [AVA.keep,AVA.er,AV.keep,h]
 | clo f xs=>by_cases h:(xs.map CapA.er).all (Cap.kept kb)=true<;>simp only [AVA.keep,AVA.er,AV.keep,h]<;>rfl
 | _=>rfl
theorem AVA.cnt_keep (ks kb:List Nat) (k:Nat) (x:AVA):(x.keep ks kb).cnt k=x.cnt k:=by
 cases x with
 | al r o p j=>by_cases h:r.kept ks kb=true<;>simp [AVA.keep,AVA.cnt,h]
 | ref r o p=>by_cases h:r.kept ks kb=true<;>simp [AVA.keep,AVA.cnt,h]
 | clo f xs=>by_cases h:(xs.map CapA.er).all (Cap.kept kb)=true<;>simp only [AVA.keep,AVA.cnt,h]<;>rfl
 | _=>rfl
theorem aDk {α:Type} (f:Nat→α):∀ (ks:List Nat) (n:Nat),look (ks.map fun n=>(n,f n)) n=if n ∈ ks then some (f n) else none
 | [],n=>by simp [look]
 | k :: ks,n=>by
  simp only [List.map_cons,look,aDk f ks n,List.mem_cons];by_cases e:k=n
  ·subst e;simp
  have:n ≠ k:=fun h=>e h.symm;simp [e,this]
theorem wF {α:Type} (f:Nat→Option α):∀ (ks:List Nat) (n:Nat),look (ks.filterMap fun n=>(f n).map fun x=>(n,x)) n=if n ∈ ks then f n else none
 | [],n=>by simp [look]
 | k :: ks,n=>by
  simp only [List.filterMap_cons];cases hk:f k with
  | none =>
   simp only [Option.map_none,wF f ks n,List.mem_cons];by_cases e:n=k
   ·subst e;simp [hk]
   simp [e]
  | some x =>
   simp only [Option.map_some,look,wF f ks n,List.mem_cons];by_cases e:k=n
   ·subst e;simp [hk]
   have:n ≠ k:=fun h=>e h.symm;simp [e,this]
theorem aK8 {α:Type} (f:α→Nat) (g:Nat→α):∀ ks:List Nat,tot f (ks.map fun n=>(n,g n))=(ks.map fun n=>f (g n)).sum
 | []=>rfl
 | k :: ks=>by simp only [List.map_cons,tot,aK8 f g ks,List.sum_cons]
theorem aFu {α:Type} (f:α→Nat) (g:Nat→Option α):∀ ks:List Nat,tot f (ks.filterMap fun n=>(g n).map fun x=>(n,x))=(ks.map fun n=>((g n).map f).getD 0).sum
 | []=>rfl
 | k :: ks=>by
  simp only [List.filterMap_cons,List.map_cons,List.sum_cons];cases g k with
  | none=>simp [aFu f g ks]
  | some x=>simp [tot,aFu f g ks]
theorem er_keep (s:StA) (ks kb:List Nat):(s.keep ks kb).er=s.er.keep ks kb:=by
 have h1:(s.keep ks kb).er.tm=(s.er.keep ks kb).tm:=by
  simp only [StA.keep,StA.er,St.keep,List.map_map];apply List.map_congr_left;intro n _;simp only [Function.comp,AVA.er_keep,St.get];have:=nF s n;simp only [StA.er] at this;rw [this];cases look s.tm n<;>rfl
 have h2:(s.keep ks kb).er.bx=(s.er.keep ks kb).bx:=by
  simp only [StA.keep,StA.er,St.keep];rw [List.map_filterMap]
  congr 1
  funext n;have:=lY s n;simp only [StA.er] at this;rw [this];cases look s.bx n<;>rfl
 cases hh:(s.keep ks kb).er;rw [hh] at h1 h2;simp only at h1 h2;cases hg:s.er.keep ks kb;rw [hg] at h1 h2;simp only at h1 h2;rw [h1,h2]
theorem SRel.keep {ks kb:List Nat} (H:SRel C Z s a w) (hk:s.er.keepOk C.N ks kb=true):SRel C Z (s.keep ks kb) a w:=by
 simp only [St.keepOk,Bool.and_eq_true,decide_eq_true_eq] at hk;obtain ⟨⟨hn1,hn2⟩,hall⟩:=hk;have hcnt:∀ k,(s.keep ks kb).cnt k ≤ s.cnt k:=by
  intro k;have e1:=aA6 (AVA.cnt k) s.tm ks hn1;have e2:=aA6 (BoxA.cnt k) s.bx kb hn2;have e3:tot (AVA.cnt k) (s.keep ks kb).tm=(ks.map fun m=>((look s.tm m).map (AVA.cnt k)).getD 0).sum:=by
   simp only [StA.keep,aK8,AVA.cnt_keep]
   congr 1
   apply List.map_congr_left;intro n _;cases look s.tm n<;>rfl
  have e4:tot (BoxA.cnt k) (s.keep ks kb).bx=(kb.map fun m=>((look s.bx m).map (BoxA.cnt k)).getD 0).sum:=by
   simp only [StA.keep,aFu]
  have e5:(s.keep ks kb).hd=s.hd:=rfl;simp only [StA.cnt,e3,e4,e5];omega
 have hlt:∀ n y,look (s.keep ks kb).tm n=some y→y = .u ∨ ∃ x,look s.tm n=some x∧y=x.keep ks kb∧n ∈ ks:=by
  intro n y hy;simp only [StA.keep,aDk] at hy;split at hy
  ·rename_i hm;injection hy with hy
   cases hx:look s.tm n with
   | none=>rw [hx] at hy;left;exact hy.symm
   | some x=>rw [hx] at hy;right;exact ⟨x,rfl,hy.symm,hm⟩
  cases hy
 have hlb:∀ n y,look (s.keep ks kb).bx n=some y→look s.bx n=some y:=by
  intro n y hy;simp only [StA.keep,wF] at hy;split at hy
  ·exact hy
  cases hy
 have hroots:∀ r,r.kept ks kb=true→(s.keep ks kb).rootCells r=s.rootCells r:=by
  intro r hr;cases r with
  | slot m =>
   simp only [Root.kept,List.contains_iff_mem] at hr;simp only [StA.rootCells,StA.keep,aDk,if_pos hr];cases hx:look s.tm m with
   | none=>rfl
   | some x =>
    cases x with
    | al r o p k=>simp only [Option.getD_some,AVA.keep];split<;>(rename_i h;split at h<;>simp_all)
    | ref r o p=>simp only [Option.getD_some,AVA.keep];split<;>(rename_i h;split at h<;>simp_all)
    | clo f xs=>simp only [Option.getD_some,AVA.keep];split<;>(rename_i h;split at h<;>simp_all)
    | _=>rfl
  | box m =>
   simp only [Root.kept,List.contains_iff_mem] at hr;simp only [StA.rootCells,StA.keep,wF,if_pos hr]
 exact {
  defers:=H.defers
  size:=H.size
  tm:=fun n y hy=>by
   rcases hlt n y hy with rfl | ⟨x,hx,rfl,hm⟩
   ·trivial
   have hv:=H.tm n x hx;cases x with
   | al r o p k =>
    simp only [AVA.keep];split
    ·rename_i hr;exact hv.keep (fun _ hz=>hz) (fun _ _=>rfl) (fun r' o' p' k' e _ _ _ _ _ _=>by simp only [AVA.al.injEq] at e;obtain ⟨rfl,_⟩:=e;exact hroots _ hr) (fun r' o' p' e=>by cases e)
    trivial
   | ref r o p =>
    simp only [AVA.keep];split
    ·rename_i hr;exact hv.keep (fun _ hz=>hz) (fun _ _=>rfl) (fun r' o' p' k' e=>by cases e) (fun r' o' p' e base cs ad h1 h2=>by
      obtain ⟨rfl,rfl,rfl⟩:=AVA.ref.inj e;exact ⟨base,cs,(hroots _ hr).trans h1,h2⟩)
    trivial
   | u=>trivial
   | t x=>exact hv
   | tup xs=>exact hv
   | rop b off cs o=>exact hv
   | clo f xs =>
    simp only [AVA.keep];split
    ·rename_i hr;exact hv.keep (fun _ hz=>hz) (fun _ _=>rfl) (fun r' o' p' k' e=>by cases e) (fun r' o' p' e base cs ad h1 h2=>by
      obtain ⟨⟨rfl,rfl⟩,m,rfl,hm⟩:=e;exact ⟨base,cs,(hroots _ (by simpa [Root.kept] using (CapA.all_kept kb xs).1 hr m hm)).trans h1,h2⟩)
    trivial
  bx:=fun n y hy=>H.bx n y (hlb n y hy)
  uniq:=fun k=>Nat.le_trans (hcnt k) (H.uniq k)
  notZ:=fun k hk=>H.notZ k (Nat.lt_of_lt_of_le hk (hcnt k))
  lt:=fun k hk=>H.lt k (Nat.lt_of_lt_of_le hk (hcnt k))
  zlt:=H.zlt
  own:=fun k hk=>H.own k (Nat.lt_of_lt_of_le hk (hcnt k))
  z0:=H.z0
  zext:=H.zext
  os:=H.os
  tape:=H.tape
  output:=H.output
  grown:=H.grown
  kept:=H.kept
  part:=H.part
  pbx:=fun x hx n y hy=>H.pbx x hx n y (hlb n y hy)
  pbo:=fun x hx n y hy=>by
   rcases hlt n y hy with rfl | ⟨z,hz,rfl,_⟩
   ·rfl
   rw [AVA.cnt_keep];exact H.pbo x hx n z hz
  pbi:=fun x hx n y hy=>H.pbi x hx n y (hlb n y hy)
  hand:=H.hand
  pbh:=H.pbh
  pk:=fun x hx=>by
   obtain ⟨q1,cs,q2,q3⟩:=H.pk x hx;refine ⟨q1,cs,?_,q3⟩;have hin:x.1 ∈ kb:=by
    have h5:look s.er.bx x.1=some (TA.erL cs):=by rw [lY,q2];rfl
    have key:∀ (l:List (Nat × List T)) (n:Nat) (y:List T),look l n=some y→(n,y) ∈ l:=by
     intro l;induction l with
     | nil=>intro n y h;simp [look] at h
     | cons e l ih =>
      intro n y h;obtain ⟨k,z⟩:=e;simp only [look] at h;by_cases e:k=n
      ·rw [if_pos e] at h;injection h with h
       subst h;subst e;simp
      rw [if_neg e] at h;exact List.mem_cons_of_mem _ (ih n y h)
    have h6:=List.all_eq_true.1 hall _ (key _ _ _ h5);simp only [Bool.or_eq_true,decide_eq_true_eq] at h6;rcases h6 with h6 | h6
    ·omega
    simpa using h6
   simp only [StA.keep,wF,if_pos hin];exact q2 }
theorem SOk.keep {ks kb:List Nat} (H:SOk C σ a w) (hk:σ.keepOk C.N ks kb=true):SOk C (σ.keep ks kb) a w:=by
 obtain ⟨s,Z,h1,h2,h3⟩:=H;subst h1;exact ⟨s.keep ks kb,Z,er_keep s ks kb,h2,h3.keep hk⟩
variable {S:Exit→St→Prop} {c d:Code}
theorem O.keep (ks kb:List Nat) (hk:σ.keepOk C.N ks kb=true) (h:O E C c S (σ.keep ks kb)):O E C c S σ:=fun a w H=>h a w ⟨H.1.keep hk,H.2⟩
theorem O.loopK {α:Type} (ks kb:List Nat) (inv:α→St) (μ:α→Nat) (I:α→Prop) (g:α) (hI:I g) (hk:σ.keepOk C.N ks kb=true) (hσ:inv g=σ.keep ks kb)
  (h:∀ g,I g→O E C c (aO (fun σ'=>∃ g',I g'∧σ'.keepOk C.N ks kb=true∧inv g'=σ'.keep ks kb∧μ g' < μ g) S) (inv g)):O E C (.loop c) S σ:=fun a w H=>by
 have H':SOk2 E C (σ.keep ks kb) a w:=⟨H.1.keep hk,H.2⟩;rw [← hσ] at H';refine wp_loop_ghost (fun n a w=>∃ g,I g∧μ g=n∧SOk2 E C (inv g) a w) (μ g) ⟨g,hI,rfl,H'⟩ ?_;intro n a w ⟨g,hI,hn,H⟩;subst hn;refine Code.wp_mono (fun e a w ⟨σ',h1,h2⟩=>?_) (h g hI a w H);cases e with
 | normal =>
  obtain ⟨g',q1,q2,q3,q4⟩:=h1;exact ⟨μ g',q4,g',q1,rfl,q3 ▸ ⟨h2.1.keep q2,h2.2⟩⟩
 | _=>exact ⟨σ',h1,h2⟩
end Go.OM
namespace Go.OM
variable {C:Ctx} {E:Env} {σ:St} {S:Exit→St→Prop} {d:Code}
theorem O.sR {id:Nat} {ops:Array Oper} {l:List Oper} (hl:ops.toList=l) (hp:oX C.pin l=true) (h:∀ K:St→Prop,(∀ σ',O E C d S σ'→K σ')→σ.wps E C.N l l K):O E C (.seq (.region id ops false) d) S σ :=
 O.seq (O.region (by rw [hl];exact hp) (by rw [hl];exact h _ fun σ' h=>h))
theorem O.reg {id:Nat} {ops:Array Oper} {l:List Oper} (hl:ops.toList=l) (hp:oX C.pin l=true) (h:∀ K:St→Prop,(∀ σ',S .normal σ'→K σ')→σ.wps E C.N l l K):O E C (.region id ops false) S σ :=
 O.region (by rw [hl];exact hp) (by rw [hl];exact h _ fun σ' h=>h)
theorem O.zR {ks:List Nat} {id:Nat} {ops:Array Oper} {l:List Oper} (u:∀ l,yK ks l=true→oX C.pin l=true) (h:∀ K:St→Prop,(∀ σ',O E C d S σ'→K σ')→σ.wps E C.N l l K) (hl:ops.toList=l:=by rfl) (hp:yK ks l=true:=by rfl):O E C (.seq (.region id ops false) d) S σ:=O.sR hl (u _ hp) h
theorem O.zG {ks:List Nat} {id:Nat} {ops:Array Oper} {l:List Oper} (u:∀ l,yK ks l=true→oX C.pin l=true) (h:∀ K:St→Prop,(∀ σ',S .normal σ'→K σ')→σ.wps E C.N l l K) (hl:ops.toList=l:=by rfl) (hp:yK ks l=true:=by rfl):O E C (.region id ops false) S σ:=O.reg hl (u _ hp) h
theorem zW {pin:List (Nat × Value)} (h:pin=[]):∀ l,yK [] l=true→oX pin l=true:=pO (by rw [h];rfl)
def St.stepK (E:Env) (N:Nat) (ops:List Oper) (o:Oper) (K:St→Prop) (σ:St):Prop:=match σ.wants ops o with
  | some false=>∃ σ1,σ.put? N o.dst (.tup [])=some σ1∧K σ1
  | some true=>∃ σ1,σ.op1 E N o=some σ1∧K σ1
  | none=>False
theorem wC {N:Nat} {ops os:List Oper} {o:Oper} {K:St→Prop} (hc:fN o=none) (h:∀ K':St→Prop,(∀ σ1,σ1.wps E N ops os K→K' σ1)→σ.stepK E N ops o K'):σ.wps E N ops (o :: os) K:=by
 have h':=h _ fun _ h=>h;unfold St.stepK at h';simp only [St.wps,hc];split at h'<;>rename_i hw<;>try simp only [hw]
 ·exact h'
 ·obtain ⟨σ1,h1,h2⟩:=h';exact ⟨σ1,.inl h1,h2⟩
 exact h'.elim
theorem wO {N:Nat} {ops os:List Oper} {o:Oper} {K:St→Prop} (h:∀ K':St→Prop,(∀ σ1,σ1.wps E N ops os K→K' σ1)→σ.wants ops o=some false∧∃ σ1,σ.put? N o.dst (.tup [])=some σ1∧K' σ1):σ.wps E N ops (o :: os) K:=by
 obtain ⟨hw,h2⟩:=h _ fun _ h=>h;simp only [St.wps,hw];exact h2
theorem wN {N:Nat} {ops:List Oper} {K:St→Prop} (h:K σ):σ.wps E N ops [] K:=h
def vO (args:List Arg) (K:List Pl→St→Prop):Option (List Arg × List Pl × St)→Prop
 | some z=>z.1=args∧K z.2.1 z.2.2
 | none=>False
def zB (K:St→Prop):Option St→Prop
 | some z=>K z
 | none=>False
theorem aMw {N:Nat} {ops os:List Oper} {o:Oper} {K:St→Prop} {t:TypeId} {x:Operand} (ho:o.op = .load t x) (h:∀ K':St→Prop,(∀ σ1,σ1.wps E N ops os K→K' σ1)→σ.wants ops o=some true∧zB K' (aAy E N o.dst t x σ)):σ.wps E N ops (o :: os) K:=by
 obtain ⟨hw,h3⟩:=h _ fun _ h=>h;have hc:fN o=none:=by unfold fN;rw [ho]
 unfold zB at h3;split at h3
 case h_2=>exact h3.elim
 rename_i z hz;simp only [St.wps,hw,hc];exact ⟨z,.inr ⟨t,x,ho,hz⟩,h3⟩
theorem wL {N:Nat} {ops os:List Oper} {o:Oper} {K:St→Prop} {g:Operand} {xs:List Operand} {f:FuncId} (ms:List (Mode × Operand)) {args:List Arg} {res:List T} {outs:List (List T)} (hc:fN o=some (g,xs)) (hms:(ms.all (fun m=>m.1.real),ms.map Prod.snd)=(true,xs)) (he:dR E.P f)
  (hok:Ok E f args res outs) (h:∀ K':St→Prop,(∀ σ1,σ1.wps E N ops os K→K' σ1)→σ.wants ops o=some true∧σ.fn g=some f∧vO args (fun pls σ2=>zB K' (St.land N o.dst (ms.any fun m=>m.1.isBor) pls res outs σ2)) (σ.lend N ms)):σ.wps E N ops (o :: os) K:=by
 obtain ⟨hw,hf,h3⟩:=h _ fun _ h=>h;unfold vO at h3;split at h3
 case h_2=>exact h3.elim
 rename_i z hz;obtain ⟨h4,h5⟩:=h3;unfold zB at h5;split at h5
 case h_2=>exact h5.elim
 rename_i σ1 hσ1;simp only [St.wps,hw,hc];exact .inl ⟨f,hf,he,.inl ⟨ms,args,z.2.1,z.2.2,hms,by rw [hz,← h4],res,outs,hok,σ1,hσ1,h5⟩⟩
def ioK (args:List Arg) (K:St→Prop):Option (List Arg × St)→Prop
 | some z=>z.1=args∧K z.2
 | none=>False
@[simp] theorem ioK_some (args:List Arg) (K:St→Prop) (z:List Arg × St):ioK args K (some z)=(z.1=args∧K z.2):=rfl
theorem aCt {N:Nat} {ops os:List Oper} {o:Oper} {K:St→Prop} {g x:Operand} {xs:List Operand} {f:FuncId} {args:List Arg} {res:List T} {y':T} (pre:List Operand) (hc:fN o=some (g,pre ++ x :: xs)) (he:dR E.P f)
  (hok:OkIO E f args res [] [(pre.length,y')]) (h:∀ K':St→Prop,(∀ σ1,σ1.wps E N ops os K→K' σ1)→σ.wants ops o=some true∧σ.fn g=some f∧ioK args K' (σ.callIO N o.dst pre x xs y' res)):σ.wps E N ops (o :: os) K:=by
 obtain ⟨hw,hf,h3⟩:=h _ fun _ h=>h;unfold ioK at h3;split at h3
 case h_2=>exact h3.elim
 rename_i z hz;obtain ⟨h4,h5⟩:=h3;simp only [St.wps,hw,hc];exact .inl ⟨f,hf,he,.inr ⟨pre,x,xs,y',res,args,z.2,rfl,by rw [hz,← h4],hok,h5⟩⟩
theorem O.condT {x:Operand} {c:Code} (hx:σ.sc x=some (.bool true)) (h:O E C c S σ):O E C (.cond x c d) S σ:=O.cond hx h
theorem O.condF {x:Operand} {c:Code} (hx:σ.sc x=some (.bool false)) (h:O E C d S σ):O E C (.cond x c d) S σ:=O.cond hx (by simpa using h)
theorem cH {α:Type} (f:α→T) (h:∀ x,(f x).hasOwn=false):∀ l:List α,T.hasOwnL (l.map f)=false
 | []=>rfl
 | x :: l=>by simp [T.hasOwnL,h,cH f h l]
theorem eJ {α:Type} (f:α→T) (h:∀ x,(f x).noRo=true):∀ l:List α,T.noRoL (l.map f)=true
 | []=>rfl
 | x :: l=>by simp [T.noRoL,h,eJ f h l]
theorem fC {α:Type} (f g:α→T) (h:∀ x,(f x).ro=g x) (l:List α):T.roL (l.map f)=l.map g:=by
 rw [T.roL_map,List.map_map];exact List.map_congr_left fun x _=>h x
@[simp] theorem wrap64 {n:Int} (h1 : -9223372036854775808 ≤ n) (h2:n ≤ 9223372036854775807):IntKind.wrap .i64 n=n:=by rw [IntKind.wrap_i64];omega
@[simp] theorem cells_agg (cs:List T):(T.agg cs).cells=cs:=rfl
@[simp] theorem cells_v (x:Value):(T.v x).cells=[.v x]:=rfl
@[simp] theorem cells_sl (o:Bool) (s:Nat) (es:List T):(T.sl o s es).cells=[.sl o s es]:=rfl
@[simp] theorem cells_dead:T.dead.cells=[.dead]:=rfl
@[simp] theorem with_agg (cs l:List T):(T.agg cs).withCells l = .agg l:=rfl
@[simp] theorem with_v (x:Value) (y:T):(T.v x).withCells [y]=y:=rfl
@[simp] theorem with_sl (o:Bool) (s:Nat) (es:List T) (y:T):(T.sl o s es).withCells [y]=y:=rfl
@[simp] theorem with_dead (y:T):T.dead.withCells [y]=y:=rfl
@[simp] theorem kOf_agg (cs:List T):kOf (.agg cs)=some cs.length:=rfl
@[simp] theorem kOf_v (x:Value):kOf (.v x)=none:=rfl
@[simp] theorem kOf_sl (o:Bool) (s:Nat) (es:List T):kOf (.sl o s es)=none:=rfl
@[simp] theorem bury_v (x:Value):(T.v x).bury = .v x:=rfl
@[simp] theorem bury_own (s:Nat) (es:List T):(T.sl true s es).bury = .dead:=rfl
@[simp] theorem bury_dead:T.dead.bury = .dead:=rfl
@[simp] theorem buryV_agg (cs:List T):(T.agg cs).buryV = .agg (cs.map T.bury):=rfl
@[simp] theorem buryV_sl (s:Nat) (es:List T):(T.sl true s es).buryV = .dead:=rfl
@[simp] theorem lendK_some (args:List Arg) (K:List Pl→St→Prop) (z:List Arg × List Pl × St):vO args K (some z)=(z.1=args∧K z.2.1 z.2.2):=rfl
@[simp] theorem optK_some (K:St→Prop) (z:St):zB K (some z)=K z:=rfl
attribute [simp] St.stepK St.wants St.gives St.gone St.op1 aHh aCf aK9 aG2 aPg aG1 aP6 aKc aAy aFv aKa aPi aPc nJ aBf stUn aKd aN9 aPe St.capsR aKb aFw aFz aPa aFy zE aCg aP8
attribute [simp] St.take St.takeN St.takeRow St.takeAll St.bnd St.len St.isStr aKx aGj rR aAk aRa aIa St.op St.sc scal St.get St.put? St.set St.free St.kill St.killAll AV.kill AV.killAll AV.hasOwn AV.into AV.plain St.fn St.rootCells St.setRoot AV.killK St.setRootE AV.killE St.newBox OM.look OM.put OM.putB
attribute [simp] aMu ibin aO0 aDp sbin unV TI.kk TK.isStruct mkT T.hasOwn T.hasOwnL T.ro T.roL T.noRo T.noRoL T.getP T.setP TA.er TA.erL xB aMp aEe yM aO2
attribute [simp] St.lend St.lendT St.lendP St.lendB St.view St.land St.back Mode.isBor St.opr Mode.real Mode.cap St.fnC St.capv aM2 St.leave St.resL St.res1 St.outsAt St.keep AV.keep Root.kept St.keepOk aBn entT aRr entV
attribute [simp] aFx aG0 aR5 St.callIO St.plains St.freeze1 St.freezeL St.leaveIO
end Go.OM
namespace Go.OM
open Go.ChangeShapes Go.WideShapes
inductive Sh where
 | int (k:IntKind)
 | bool
 | str
 | sl (sz:Nat) (one:Bool) (e:Sh)
 | st (fs:List Sh)
mutual
def Sh.ok:Sh→List T→Prop
 | .int k,l=>∃ n,l=[.v (.int k n)]∧(Lit.int k n).wf=true
 | .bool,l=>∃ b,l=[.v (.bool b)]
 | .str,l=>∃ s:ByteArray,l=[.v (.string s)]∧s.size ≤ maxLen
 | .sl sz one e,l=>∃ es:List T,l=[.sl false sz es]∧es.length ≤ maxLen∧∀ x ∈ es,(one=true→Sh.ok e [x])∧(one=false→∃ cs,x = .agg cs∧Sh.ok e cs)
 | .st fs,l=>Sh.okL fs l
def Sh.okL:List Sh→List T→Prop
 | [],l=>l=[]
 | f :: fs,l=>∃ a b,l=a ++ b∧Sh.ok f a∧Sh.okL fs b
end
mutual
def Sh.fits (E:Env):Sh→TypeId→Prop
 | .int k,t=>E.P.underlying t=some (.int k)
 | .bool,t=>E.P.underlying t=some .bool
 | .str,t=>E.P.underlying t=some .string
 | .sl sz one e,t=>∃ et ti,E.P.underlying t=some (.slice et)∧E.ty et=some ti∧ti.size=sz∧0 < sz∧ti.kind.isStruct = !one∧Sh.fits E e et
 | .st fs,t=>∃ (fields:Array Field) (ti:TI),E.P.underlying t=some (.struct fields)∧E.ty t=some ti∧Sh.fitsL E fs fields.toList 0 ti.size
def Sh.fitsL (E:Env):List Sh→List Field→Nat→Nat→Prop
 | [],[],o,n=>o=n
 | s :: ss,f :: fs,o,n=>f.offset=o∧∃ ti,E.ty f.type=some ti∧Sh.fits E s f.type∧Sh.fitsL E ss fs (o + ti.size) n
 | _,_,_,_=>False
end
variable {E:Env} {w:World} {H:Type} {enc:TypeId × Value→H}
theorem aBq {t:TypeId} {ti:TI} (h:E.ty t=some ti):E.P.cellsOf t=ti.size:=by
 obtain ⟨i,h1,h2,h3,h4⟩:=(E.ok t ti h).info;simp [Program.cellsOf,h1,h3]
def aRy (w:World) (s:Sh) (cs:List Value):Prop:=∃ l:List TA,TA.vals l=cs∧TA.HoldsL (fun k=>k < w.heap.size) w.heap l∧(∀ c ∈ l,c.isCell=true)∧(∀ k,TA.cntL k l=0)∧s.ok (TA.erL l)
mutual
theorem aB7 : ∀ (s : Sh) (t : TypeId) (fuel : Nat) (cs : List Value) (x : DataW H × List MemPlace), s.fits E t → DataW.trod enc E.P w 0 (fun _ => true) true fuel t cs = some x → aRy w s cs
  | .int k, t, fuel, cs, x, hf, h => by
    simp only [Sh.fits] at hf;obtain ⟨n, rfl, _, hw⟩ := DataW.trod_int hf h;exact ⟨[.v (.int k n)], rfl, by simp [TA.HoldsL, TA.Holds, TA.OneCell], by simp [TA.isCell], fun k => by simp [TA.cntL, TA.cnt], by simp only [Sh.ok]; exact ⟨n, rfl, hw⟩⟩
  | .bool, t, fuel, cs, x, hf, h => by
    simp only [Sh.fits] at hf;obtain ⟨b, rfl, _⟩ := DataW.trod_bool hf h;exact ⟨[.v (.bool b)], rfl, by simp [TA.HoldsL, TA.Holds, TA.OneCell], by simp [TA.isCell], fun k => by simp [TA.cntL, TA.cnt], by simp only [Sh.ok]; exact ⟨b, rfl⟩⟩
  | .str, t, fuel, cs, x, hf, h => by
    simp only [Sh.fits] at hf;obtain ⟨b, rfl, _, hs⟩ := DataW.trod_string hf h;exact ⟨[.v (.string b)], rfl, by simp [TA.HoldsL, TA.Holds, TA.OneCell], by simp [TA.isCell], fun k => by simp [TA.cntL, TA.cnt], by simp only [Sh.ok]; exact ⟨b, rfl, hs⟩⟩
  | .sl sz one e, t, fuel, cs, x, hf, h => by
    simp only [Sh.fits] at hf;obtain ⟨et, ti, hu, hti, rfl, hpos, hone, hfe⟩ := hf;have hce := aBq hti;rcases Go.Deep.open_slice hu h with ⟨rfl, _⟩ | ⟨a, len, cap, m, n, D, Pl, rfl, _, hle, hmax, hm, _, hel⟩
    · exact ⟨[.nl false ti.size none], rfl, by simp [TA.HoldsL, TA.Holds], by simp [TA.isCell], fun k => by simp [TA.cntL, TA.cnt], by simp only [Sh.ok]; exact ⟨[], rfl, by simp, by simp⟩⟩
    simp only [if_true] at hm;subst hm;rw [hce] at hel;have hall : ∀ i, i < m → ∃ li : List TA, (∃ cs', w.cells? 0 (a.add (i * ti.size)) ti.size = some cs' ∧ TA.vals li = cs') ∧ TA.HoldsL (fun k => k < w.heap.size) w.heap li ∧ (∀ c ∈ li, c.isCell = true) ∧ (∀ k, TA.cntL k li = 0) ∧ e.ok (TA.erL li) := by
      intro i hi;obtain ⟨cs', h1, h2⟩ := hel i hi;obtain ⟨li, q1, q2, q3, q4, q5⟩ := aB7 e et n cs' _ hfe h2;exact ⟨li, ⟨cs', h1, q1⟩, q2, q3, q4, q5⟩
    obtain ⟨L, hL⟩ := Go.Deep.choose_lt hall;by_cases hm0 : m = 0
    · subst hm0;have hl0 : len = 0 := by omega
      subst hl0;exact ⟨[.nl false ti.size (some a)], rfl, by simp [TA.HoldsL, TA.Holds], by simp [TA.isCell], fun k => by simp [TA.cntL, TA.cnt], by simp only [Sh.ok]; exact ⟨[], rfl, by simp, by simp⟩⟩
    -- the block
    have hlen : ∀ i, i < m → (L i).length = ti.size := by
      intro i hi;obtain ⟨⟨cs', h1, h2⟩, _⟩ := hL i hi;obtain ⟨_, h3, _⟩ := World.cells?_some h1;rw [← TA.vals_length, h2, h3]
    have hcell : ∀ i, i < m → ∀ r, r < ti.size → w.cell? (a.add (i * ti.size + r)) = (TA.vals (L i))[r]? := by
      intro i hi r hr;obtain ⟨⟨cs', h1, h2⟩, _⟩ := hL i hi;obtain ⟨_, _, h4⟩ := World.cells?_some h1;rw [h2, ← Go.Deep.add_add];exact h4 r hr
    have h00 := hcell 0 (by omega) 0 hpos
    rw [Nat.zero_mul, Nat.add_zero] at h00;have hlt0 : 0 < (TA.vals (L 0)).length := by rw [TA.vals_length, hlen 0 (by omega)]; exact hpos
    rw [List.getElem?_eq_getElem hlt0] at h00;obtain ⟨b, off, sp⟩ := a;have ha0 : (⟨b, off, sp⟩ : Addr).add 0 = ⟨b, off, sp⟩ := rfl;rw [ha0] at h00;unfold World.cell? at h00;simp only at h00;split at h00
    case h_2 => cases h00
    rename_i c ety fr hb;split at h00
    · cases h00
    rename_i hsp;have hsp' : sp = none := by
      cases sp with
      | none => rfl
      | some z => simp at hsp
    subst hsp'
    let El : Nat → TA := fun i => if one = true then (L i).headD (.dead undef) else .agg (L i)
    have hEl : ∀ i, i < m → (El i).cells = L i ∧ (El i).Holds (fun k => k < w.heap.size) w.heap ∧ ∀ k, (El i).cnt k = 0 := by
      intro i hi;obtain ⟨_, q2, q3, q4, q5⟩ := hL i hi;by_cases ho : one = true
      · have h1 : (L i).length = 1 := by
          rw [hlen i hi];have ok := E.ok et ti hti;exact ok.one (by rw [hone, ho]; rfl)
        obtain ⟨y, hy⟩ := List.length_eq_one_iff.1 h1;have hyc := q3 y (by rw [hy]; simp)
        simp only [El, if_pos ho, hy, List.headD_cons];rw [hy] at q2;simp only [TA.HoldsL] at q2;refine ⟨by cases y <;> first | (simp [TA.isCell] at hyc; done) | rfl, q2.1, fun k => ?_⟩
        have := q4 k;rw [hy] at this;simpa [TA.cntL] using this
      simp only [El, if_neg ho];exact ⟨rfl, by simp only [TA.Holds]; exact ⟨q2, q3⟩, fun k => by simp only [TA.cnt]; exact q4 k⟩
    have hcs : ∀ x ∈ (List.range len).map El, x.cells.length = ti.size := by
      intro x hx;obtain ⟨i, hi, rfl⟩ := List.mem_map.1 hx;have hi' : i < m := by have := List.mem_range.1 hi; omega
      rw [(hEl i hi').1, hlen i hi']
    refine ⟨[.sl false ti.size b off m ((List.range len).map El)], by simp [TA.vals, TA.val1], ?_, by simp [TA.isCell], fun k => ?_, ?_⟩
    · simp only [TA.HoldsL, TA.Holds];refine ⟨⟨⟨c, ety, fr, hb, (fun h => nomatch h), fun j u hj => ?_⟩, by simp; exact hle, fun _ => ⟨(Array.getElem?_eq_some_iff.1 hb).1, fun k => ?_⟩, ?_, hcs⟩, trivial⟩
      · have hjl : j < len * ti.size := by
          have := (List.getElem?_eq_some_iff.1 hj).1;rw [TA.vals_length, iL hcs] at this;simpa using this
        have hi : j / ti.size < len := Nat.div_lt_of_lt_mul (by rw [Nat.mul_comm]; exact hjl)
        have hr : j % ti.size < ti.size := Nat.mod_lt _ hpos;have hsplit : j / ti.size * ti.size + j % ti.size = j := by rw [Nat.mul_comm]; exact Nat.div_add_mod j ti.size
        have h5 := hcell (j / ti.size) (by omega) (j % ti.size) hr
        rw [hsplit] at h5;rw [TA.vals_get, ← hsplit, sU hcs _ _ hr] at hj;have hget : ((List.range len).map El)[j / ti.size]? = some (El (j / ti.size)) := by simp [hi]
        rw [hget] at hj;simp only [Option.bind_some, (hEl (j / ti.size) (by omega)).1] at hj
        rw [TA.vals_get, hj] at h5;rw [iI] at h5;unfold World.cell? at h5;simp only [hb] at h5;simpa using h5
      · rw [show (List.range len).map El = (List.range len).map El from rfl];have key : ∀ l : List TA, (∀ x ∈ l, x.cnt k = 0) → TA.cntL k l = 0 := by
          intro l;induction l with
          | nil => intro _; rfl
          | cons y l ih => intro h; simp only [TA.cntL, h y (by simp), ih (fun x hx => h x (by simp [hx]))]
        refine key _ fun x hx => ?_;obtain ⟨i, hi, rfl⟩ := List.mem_map.1 hx;exact (hEl i (by have := List.mem_range.1 hi; omega)).2.2 k
      refine TA.holdsL_iff.2 fun x hx => ?_;obtain ⟨i, hi, rfl⟩ := List.mem_map.1 hx;exact (hEl i (by have := List.mem_range.1 hi; omega)).2.1
    · have key : ∀ l : List TA, (∀ x ∈ l, x.cnt k = 0) → TA.cntL k l = 0 := by
          intro l;induction l with
          | nil => intro _; rfl
          | cons y l ih => intro h; simp only [TA.cntL, h y (by simp), ih (fun x hx => h x (by simp [hx]))]
      simp only [TA.cntL, TA.cnt, Bool.false_eq_true, false_and, if_false, Nat.zero_add, Nat.add_zero];refine key _ fun x hx => ?_;obtain ⟨i, hi, rfl⟩ := List.mem_map.1 hx;exact (hEl i (by have := List.mem_range.1 hi; omega)).2.2 k
    simp only [Sh.ok];refine ⟨TA.erL ((List.range len).map El), rfl, by rw [TA.er_len]; simp; omega, fun x hx => ?_⟩
    rw [TA.erL_map] at hx;obtain ⟨y, hy, rfl⟩ := List.mem_map.1 hx;obtain ⟨i, hi, rfl⟩ := List.mem_map.1 hy;have hi' : i < m := by have := List.mem_range.1 hi; omega
    obtain ⟨_, q2, q3, q4, q5⟩ := hL i hi';have hc := (hEl i hi').1;refine ⟨fun ho => ?_, fun ho => ?_⟩
    · have h1 : (L i).length = 1 := by
        rw [hlen i hi'];exact (E.ok et ti hti).one (by rw [hone, ho]; rfl)
      obtain ⟨y, hy⟩ := List.length_eq_one_iff.1 h1;rw [hy] at q5;simp only [El, if_pos ho, hy, List.headD_cons];exact q5
    exact ⟨TA.erL (L i), by simp [El, ho, TA.er], q5⟩
  | .st fs, t, fuel, cs, x, hf, h => by
    simp only [Sh.fits] at hf;obtain ⟨fields, ti, hu, hti, hfl⟩ := hf;obtain ⟨xs, n, rfl, _, hlen, hxl, hfs⟩ := DataW.trod_struct hu h;rw [aBq hti] at hlen;have := aDa fs fields.toList 0 ti.size n cs hfl hlen (fun f hf => by
      obtain ⟨i, hi, hfi⟩ := List.mem_iff_getElem.1 hf;have h5 := hfs i f (by rw [← Array.getElem?_toList, List.getElem?_eq_getElem hi, hfi])
      have : i < xs.length := by rw [hxl]; simpa using hi
      rw [List.getElem?_eq_getElem this] at h5;exact ⟨_, h5⟩)
    obtain ⟨l, q1, q2, q3, q4, q5⟩ := this;exact ⟨l, by simpa using q1, q2, q3, q4, by simp only [Sh.ok]; exact q5⟩
theorem aDa:∀ (ss:List Sh) (fs:List Field) (o n fuel:Nat) (cs:List Value),Sh.fitsL E ss fs o n→cs.length=n→(∀ f ∈ fs,∃ x,DataW.trod enc E.P w 0 (fun _=>true) true fuel f.type ((cs.drop f.offset).take (E.P.cellsOf f.type))=some x) →
  ∃ l:List TA,TA.vals l=cs.drop o∧TA.HoldsL (fun k=>k < w.heap.size) w.heap l∧(∀ c ∈ l,c.isCell=true)∧(∀ k,TA.cntL k l=0)∧Sh.okL ss (TA.erL l)
 | [],[],o,n,fuel,cs,hf,hl,h=>by
  simp only [Sh.fitsL] at hf;exact ⟨[],by simp [TA.vals];omega,trivial,by simp,fun k=>rfl,by simp only [Sh.okL];rfl⟩
 | [],_ :: _,o,n,fuel,cs,hf,hl,h=>by simp [Sh.fitsL] at hf
 | _ :: _,[],o,n,fuel,cs,hf,hl,h=>by simp [Sh.fitsL] at hf
 | s :: ss,f :: fs,o,n,fuel,cs,hf,hl,h=>by
  simp only [Sh.fitsL] at hf;obtain ⟨rfl,ti,hti,hfs,hrest⟩:=hf;obtain ⟨x,hx⟩:=h f (by simp)
  rw [aBq hti] at hx;obtain ⟨l1,p1,p2,p3,p4,p5⟩:=aB7 s f.type fuel _ x hfs hx;obtain ⟨l2,q1,q2,q3,q4,q5⟩:=aDa ss fs (f.offset + ti.size) n fuel cs hrest hl (fun g hg=>h g (by simp [hg]))
  refine ⟨l1 ++ l2,?_,holdsL_append.2 ⟨p2,q2⟩,?_,fun k=>by rw [TA.cntL_append,p4,q4],?_⟩
  ·rw [TA.vals_append,p1,q1,← List.drop_drop,List.take_append_drop]
  ·intro c hc;rcases List.mem_append.1 hc with h | h
   ·exact p3 c h
   exact q3 c h
  simp only [Sh.okL];exact ⟨TA.erL l1,TA.erL l2,by simp [TA.erL_map],p5,q5⟩
end
end Go.OM
namespace Go.OM
open Go.ChangeShapes Go.WideShapes Go.RowKit
variable {E:Env} {w W W':World} {H:Type} {enc:TypeId × Value→H} {P:Program}
def aJy:List (Bool × Sh)→List T→Prop
 | [],[]=>True
 | (one,s) :: ps,x :: xs=>((one=true→s.ok [x])∧(one=false→∃ cs,x = .agg cs∧s.ok cs))∧aJy ps xs
 | _,_=>False
def aIx (E:Env):List (Bool × Sh)→List TypeId→Prop
 | [],[]=>True
 | (one,s) :: ps,t :: ts=>(s.fits E t∧∃ ti,E.ty t=some ti∧ti.kind.isStruct = !one)∧aIx E ps ts
 | _,_=>False
theorem aLl {t:TypeId} {ti:TI} (h:E.ty t=some ti):(ti.kind.isStruct=true→∃ fs,E.P.underlying t=some (.struct fs))∧(ti.kind.isStruct=false→(∀ fs,E.P.underlying t ≠ some (.struct fs))∧∀ n e,E.P.underlying t ≠ some (.array n e)):=by
 have hk:=(E.ok t ti h).2.1;obtain ⟨d,hd,hs⟩:=(E.ok t ti h).und;refine ⟨fun hh=>?_,fun hh=>⟨fun fs e=>?_,fun n e' e=>?_⟩⟩
 ·cases hkind:ti.kind with
  | struct offs =>
   rw [hkind] at hk;simp only [aJ1,bH] at hk;split at hk
   ·rename_i fs hfs;exact ⟨fs,hfs⟩
   cases hk
  | _=>rw [hkind] at hh;cases hh
 ·rw [hd] at e;injection e with e
  subst e;rw [hh] at hs;cases hs
 rw [hd] at e;injection e with e
 subst e;rw [hh] at hs;cases hs
theorem aJx {one:Bool} {s:Sh} {t:TypeId} {v:Value} {d:DataW H} {p:List MemPlace} (hf:s.fits E t) (ht:∃ ti,E.ty t=some ti∧ti.kind.isStruct = !one) (hv:Value.okWide E.P W .any 0 t v) (h:DataW.Trod enc E.P W 0 (fun _=>true) true t v d p) :
  ∃ x:TA,x.val=v∧x.Holds (fun k=>k < W.heap.size) W.heap∧(∀ k,x.cnt k=0)∧((one=true→s.ok [x.er])∧(one=false→∃ cs,x.er = .agg cs∧s.ok cs)):=by
 obtain ⟨n,hn⟩:=h;obtain ⟨l,q1,q2,q3,q4,q5⟩:=aB7 s t n _ _ hf hn;obtain ⟨ti,hti,hone⟩:=ht;obtain ⟨u1,u2⟩:=aLl hti;cases one with
 | false =>
  obtain ⟨fs,hu⟩:=u1 (by rw [hone];rfl)
  unfold Value.okWide at hv;rw [hu] at hv;obtain ⟨cs,rfl,_,_⟩:=hv;refine ⟨.agg l,?_,by simp only [TA.Holds];exact ⟨q2,q3⟩,fun k=>by simp only [TA.cnt];exact q4 k,(fun h=>by cases h),fun _=>⟨TA.erL l,rfl,q5⟩⟩
  simp only [TA.val,q1,Value.cells]
 | true =>
  obtain ⟨v1,v2⟩:=u2 (by rw [hone];rfl)
  have hc:Cell.okWide E.P W .any 0 t v:=by
   unfold Value.okWide at hv;split at hv
   ·rename_i fs hfs;exact absurd hfs (v1 fs)
   ·rename_i m e he;exact absurd he (v2 m e)
   exact hv
  have hone1:v.cells.toList=[v]:=by
   cases v with
   | agg cs=>exfalso;unfold Cell.okWide Cell.ok at hc;split at hc<;>simp_all
   | tuple cs=>exfalso;unfold Cell.okWide Cell.ok at hc;split at hc<;>simp_all
   | _=>rfl
  rw [hone1] at q1;have hl:l.length=1:=by rw [← TA.vals_length,q1];rfl
  obtain ⟨x,rfl⟩:=List.length_eq_one_iff.1 hl;have hxc:=q3 x (by simp)
  simp only [TA.vals,List.map_cons,List.map_nil,List.cons.injEq,and_true] at q1;refine ⟨x,by cases x<;>first | (simp [TA.isCell] at hxc;done) | exact q1,by simpa [TA.HoldsL] using q2,fun k=>by have:=q4 k;simpa [TA.cntL] using this,fun _=>q5,fun h=>by cases h⟩
theorem aC3:∀ (ps:List (Bool × Sh)) (ts:List TypeId) (vs:List Value) (ds:List (DataW H)) (p:List MemPlace),aIx E ps ts→(∀ (j:Nat) t v,ts[j]? = some t→vs[j]? = some v→Value.okWide E.P W .any 0 t v)→DataW.TrodAll enc E.P W 0 (fun _=>true) true ts vs ds p →
  ∃ xs:List TA,xs.map TA.val=vs∧TA.HoldsL (fun k=>k < W.heap.size) W.heap xs∧(∀ k,TA.cntL k xs=0)∧aJy ps (TA.erL xs)
 | [],[],vs,ds,p,_,_,h=>by
  obtain ⟨rfl,rfl,rfl⟩:=trodAll_nil h;exact ⟨[],rfl,trivial,fun k=>rfl,trivial⟩
 | [],_ :: _,_,_,_,h,_,_=>h.elim
 | (_,_) :: _,[],_,_,_,h,_,_=>by simp [aIx] at h
 | (one,s) :: ps,t :: ts,vs,ds,p,hf,hv,h=>by
  obtain ⟨v,vs1,d,ds1,a,b,rfl,rfl,rfl,h1,h2⟩:=trodAll_cons h;obtain ⟨x,x1,x2,x3,x4⟩:=aJx hf.1.1 hf.1.2 (hv 0 t v rfl rfl) h1;obtain ⟨xs,y1,y2,y3,y4⟩:=aC3 ps ts vs1 ds1 b hf.2 (fun j t v h1 h2=>hv (j + 1) t v (by simpa using h1) (by simpa using h2)) h2
  exact ⟨x :: xs,by simp [x1,y1],⟨x2,y2⟩,fun k=>by simp only [TA.cntL,x3,y3],x4,y4⟩
theorem aNx {f:FuncId} (hgl:∀ g ∈ E.gl,∃ (cs:Array Value) (t:TypeId) (fr:Nat × Nat),W.heap[g.1]? = some (.cells cs t fr)∧g.2 cs) (ps:List (Bool × Sh)) {ts:List TypeId} (hfit:aIx E ps ts) (hok:∀ xs,aJy ps xs→Ok E f (xs.map Arg.val) [.v (.bool true)] []) {args:Array Value} {ds:List (DataW H)} {p:List MemPlace}
  (hv:∀ (j:Nat) t v,ts[j]? = some t→args[j]? = some v→Value.okWide E.P W .any 0 t v) (hA:DataW.TrodAll enc E.P W 0 (fun _=>true) true ts args.toList ds p):Calls E.P f args W fun e W'=>e = .returned (.bool true)∧Below W.heap.size W W':=by
 obtain ⟨xs,x1,x2,x3,x4⟩:=aC3 ps ts args.toList ds p hfit (fun j t v h1 h2=>hv j t v h1 (by rw [← Array.getElem?_toList];exact h2)) hA
 have hinn:∀ k,sH k (xs.map ArgA.val)=0:=by
  intro k;have:=x3 k;clear x1 x2 x3 x4;induction xs with
  | nil=>rfl
  | cons x xs ih=>simp only [TA.cntL] at this;simp only [List.map_cons,sH,ArgA.inn];have:=ih (by omega);omega
 have hpc:∀ k,pcL k (xs.map ArgA.val)=0:=by
  intro k;clear x1 x2 x3 x4 hinn;induction xs with
  | nil=>rfl
  | cons x xs ih=>simp only [List.map_cons,pcL,ArgA.pc,ih]
 have hargs:ArgsOk (fun k=>k < W.heap.size) W.heap (xs.map ArgA.val):=⟨fun a ha=>by
   obtain ⟨x,hx,rfl⟩:=List.mem_map.1 ha;exact TA.holdsL_iff.1 x2 x hx,fun k=>by rw [hinn,hpc];omega,fun k hk=>by rw [hinn,hpc] at hk;omega,fun k hk=>hk⟩
 have hcall:=hok (TA.erL xs) x4 W (fun k=>k < W.heap.size) (xs.map ArgA.val) (by rw [TA.erL_map];simp [ArgA.er]) hargs (fun b hb=>by
  obtain ⟨cs,t,fr,h1,h2⟩:=hgl b hb;exact ⟨(Array.getElem?_eq_some_iff.1 h1).1,cs,t,fr,h1,h2⟩)
 have hvs:((xs.map ArgA.val).map ArgA.value).toArray=args:=by
  apply Array.toList_inj.1;rw [← x1];simp [ArgA.value]
 rw [hvs] at hcall;refine hcall.mono fun e W' ⟨Z',rs,ls,he,hrs,hls,B⟩=>?_;have hrs':rs=[.v (.bool true)]:=by
  cases rs with
  | nil=>simp [TA.erL] at hrs
  | cons r rs =>
   cases rs with
   | nil =>
    simp only [TA.erL,List.cons.injEq,and_true] at hrs;rw [er_v hrs]
   | cons r2 rs=>simp [TA.erL] at hrs
 subst hrs';exact ⟨he,⟨B.os,B.tape,B.output,B.grown,fun k hk=>B.kept k hk (by rw [hinn,hpc])⟩⟩
theorem zD (hl:laidOutB P=true):∀ {ts:List TypeId} {vs:List Value} {ds:List (DataW H)} {p:List MemPlace},(∀ t ∈ ts,P.readableRec t=true∧t < P.types.size)→DataW.TrodAll enc P W 0 (fun _=>true) true ts vs ds p→Below W.heap.size W W'→(∀ x ∈ p,x.block < W.heap.size)→∀ sp:Nat→Bool,(∀ x ∈ p,sp x.block=true)→DataW.TrodAll enc P W' 0 sp true ts vs ds p
 | [],vs,ds,p,_,h,_,_,_,_=>by
  obtain ⟨rfl,rfl,rfl⟩:=trodAll_nil h;exact rfl
 | t :: ts,vs,ds,p,hr,h,hb,hlt,sp,hsp=>by
  obtain ⟨v,vs1,d,ds1,a,b,rfl,rfl,rfl,h1,h2⟩:=trodAll_cons h;exact ⟨a,b,WideElems.Trod_stays hl (hr t (by simp)).1 (hr t (by simp)).2 h1 (fun x hx=>hb.same (hlt x (by simp [hx]))) (fun x hx=>hsp x (by simp [hx])),
   zD hl (fun t ht=>hr t (by simp [ht])) h2 hb (fun x hx=>hlt x (by simp [hx])) sp (fun x hx=>hsp x (by simp [hx])),rfl⟩
theorem aPs {f:Func} {s:ChangeSpec} {apart fresh handsOn again:Bool} {args:Array Value} {ds gs:List (DataW H)} {before:List MemPlace} {t:TypeId} (hl:laidOutB P=true) (hr:∀ t ∈ f.params.toList,P.readableRec t=true∧t < P.types.size) (hvars:s.vars=[])
  (hW:DataW.Whole enc P f.params.toList s.vars apart W args.toList ds gs before) (hB:Below W.heap.size W W') (hres:f.resultTypes = #[t]) (ht:P.underlying t=some .bool) (hfn:s.fn H ds = { results:=[.lit (.bool true)],args:=ds }):s.post enc P f apart fresh handsOn again W args (.bool true) W':=by
 have hlt:=hW.lt;obtain ⟨p,q,hA,hV,rfl,hz,hn⟩:=id hW;have hV0:=hV;rw [hvars] at hV0;obtain ⟨rfl,rfl⟩:=trodVars_none hV0;rw [List.append_nil] at hlt hn hz;have hargs:∀ sp:Nat→Bool,(∀ x ∈ p,sp x.block=true)→DataW.TrodAll enc P W' 0 sp true f.params.toList args.toList ds p:=fun sp hsp=>zD hl hr hA hB hlt sp hsp;have hvs:∀ sp:Nat→Bool,DataW.TrodVars enc P W' sp s.vars ([]:List (DataW H)) []:=fun sp=>by rw [hvars];exact rfl
 have hrs:∀ (b:Nat) (sp:Nat→Bool) (hd:Bool),DataW.TrodAll enc P W' b sp hd f.resultTypes.toList ((Value.bool true).resultList f.resultTypes.size) [.lit (.bool true)] []:=fun b sp hd=>by
  rw [hres];exact trodAll_mk1 (shut_bool ht true)
 have hfn':s.fn H (ds ++ []) = { results:=[.lit (.bool true)],args:=ds }:=by rw [List.append_nil];exact hfn
 refine ⟨ds,[],p ++ [],[],p,[],hW,?_,?_,?_,hB.frame _,fun _=>?_⟩
 ·rw [hfn'];exact hrs _ _ _
 ·rw [hfn'];exact hargs _ (fun x hx=>by simpa using hlt x hx)
 ·rw [hfn'];exact hvs _
 refine ⟨?_,[.lit (.bool true)] ++ ds,[],([] ++ p) ++ [],⟨[] ++ p,[],trodAll_append (hargs _ (fun _ _=>rfl)) (hrs _ _ _),hvs _,rfl,?_,?_⟩,?_⟩
 ·exact ok_one hres rfl (okWide_bool_mk ht _)
 ·intro b off hp;have hp':MemPlace.cell b off ∈ p:=by simpa using hp
  rw [hB.frozen (hlt _ hp')];exact hz b off hp'
 ·intro ha;simpa using hn ha
 intro x hx _;simpa using hx
end Go.OM
namespace Go.OM
variable {C:Ctx} {Z Z':Nat→Prop} {s:StA} {a:Act} {w w':World} {E:Env} {o:Oper} {σ σ':St} {Q:Exit→Act→World→Prop} {S:Exit→St→Prop}
def bY (D:Nat→Bool) (i:Nat):Nat→Bool:=fun k=>if k=i then true else D k
theorem aQw {P:Program} {K:Act→World→Prop} (h:o.wp P a w (Exit.then K Q .normal) (Exit.then K Q)):o.wp P a w K Q:=by
 unfold Oper.wp at *;generalize (execOp a.eval o).run P w=r at *;cases r with
 | ok n w' =>
  cases n<;>simp only [Oper.upon] at h ⊢ <;>
   first
    | exact h
    | exact Calls.mono h (fun e w'' he=>by cases e<;>exact he)
 | halt x w'=>cases x<;>simp only [Oper.upon] at h ⊢<;>exact h
def lN (o:Oper) (D:Nat→Bool):Prop:=∀ e ∈ o.after.toList,Region.binds .any e=true→D e.on=true
theorem pP {α:Type}:∀ (l m:List (Nat × α)) (n:Nat),look (l ++ m) n=match look l n with | some x=>some x | none=>look m n
 | [],m,n=>rfl
 | (k,x) :: l,m,n=>by
  simp only [List.cons_append,look];by_cases e:k=n
  ·simp [e]
  simp only [if_neg e];exact pP l m n
theorem aN0 {α:Type} (f:α→Nat):∀ (l m:List (Nat × α)),tot f (l ++ m)=tot f l + tot f m
 | [],m=>by simp [tot]
 | e :: l,m=>by simp only [List.cons_append,tot,aN0 f l m];omega
theorem eO {P : Program} {f : FuncId} {fn : Func} (hf : P.funcs[f]? = some fn) (hn : (fn.name == "runtime.NumGoroutine") = false) (hb : fn.body.isNone = false) : dR P f := by
 intro args w;unfold callFunc;have hp:(program:Sem Program).run P w = .ok P w:=rfl;simp only [Sem.run_bind,hp,Result.andThen_ok,hf,hn,hb,Bool.false_eq_true,if_false]
 rfl
theorem SOk.pad (ds:List Nat) (H:SOk C σ a w):SOk C ⟨σ.tm ++ ds.map (fun d=>(d,.u)),σ.bx⟩ a w:=by
 obtain ⟨s,Z,h1,h2,h3⟩:=H;subst h1;have hu:∀ n x,look (ds.map fun d=>(d,AVA.u)) n=some x→x = .u:=by
  intro n x;induction ds with
  | nil=>intro h;simp [look] at h
  | cons d ds ih =>
   simp only [List.map_cons,look];intro h;split at h
   ·injection h with h;exact h.symm
   exact ih h
 have ht:∀ k,tot (AVA.cnt k) (ds.map fun d=>(d,AVA.u))=0:=by
  intro k;induction ds with
  | nil=>rfl
  | cons d ds ih=>simp only [List.map_cons,tot,AVA.cnt];have:=ih (fun n x h=>by
    clear ih;have:∀ (ds:List Nat) (n:Nat) (x:AVA),look (ds.map fun d=>(d,AVA.u)) n=some x→x = .u:=by
     intro ds;induction ds with
     | nil=>intro n x h;simp [look] at h
     | cons d ds ih =>
      simp only [List.map_cons,look];intro n x h;split at h
      ·injection h with h;exact h.symm
      exact ih n x h
    exact this ds n x h);omega
 have hcnt:∀ k,(StA.mk (s.tm ++ ds.map fun d=>(d,.u)) s.bx s.hd).cnt k=s.cnt k:=by
  intro k;simp only [StA.cnt,aN0,ht];omega
 have hroots:∀ r,(StA.mk (s.tm ++ ds.map fun d=>(d,.u)) s.bx s.hd).rootCells r=s.rootCells r:=by
  intro r;cases r with
  | box n=>rfl
  | slot n =>
   simp only [StA.rootCells,pP];cases hx:look s.tm n with
   | some x=>rfl
   | none =>
    simp only;cases hy:look (ds.map fun d=>(d,AVA.u)) n with
    | none=>rfl
    | some y=>rw [hu n y hy]
 have hlk:∀ n y,look (s.tm ++ ds.map fun d=>(d,AVA.u)) n=some y→y = .u ∨ look s.tm n=some y:=by
  intro n y hy;rw [pP] at hy;cases hx:look s.tm n with
  | some x=>rw [hx] at hy;exact .inr hy
  | none=>rw [hx] at hy;exact .inl (hu n y hy)
 refine ⟨⟨s.tm ++ ds.map fun d=>(d,.u),s.bx,s.hd⟩,Z,by simp [StA.er,AVA.er,Function.comp],h2,?_⟩
 exact {
  defers:=h3.defers
  size:=h3.size
  tm:=fun n y hy=>by
   rcases hlk n y hy with rfl | h
   ·trivial
   exact (h3.tm n y h).keep (fun _ hz=>hz) (fun _ _=>rfl) (fun r _ _ _ _ _ _ _ _ _ _=>hroots r) (fun r o p e base cs ad g1 g2=>⟨base,cs,(hroots r).trans g1,g2⟩)
  bx:=h3.bx
  uniq:=fun k=>by rw [hcnt];exact h3.uniq k
  notZ:=fun k hk=>h3.notZ k (by rwa [hcnt] at hk)
  lt:=fun k hk=>h3.lt k (by rwa [hcnt] at hk)
  zlt:=h3.zlt
  own:=fun k hk=>h3.own k (by rwa [hcnt] at hk)
  z0:=h3.z0
  zext:=h3.zext
  os:=h3.os
  tape:=h3.tape
  output:=h3.output
  grown:=h3.grown
  kept:=h3.kept
  part:=h3.part
  pbx:=h3.pbx
  pbo:=fun x hx n y hy=>by
   rcases hlk n y hy with rfl | h
   ·rfl
   exact h3.pbo x hx n y h
  pbi:=h3.pbi
  hand:=h3.hand
  pbh:=h3.pbh
  pk:=h3.pk }
end Go.OM
namespace Go.OM
variable {C:Ctx} {E:Env} {σ σ':St} {S:Exit→St→Prop}
def aC4 (p:Nat→Oper→Prop):Nat→List Oper→Prop
 | _,[]=>True
 | n,o :: os=>p n o∧aC4 p (n + 1) os
theorem rF {p:Nat→Oper→Prop}:∀ (l:List Oper) (n i:Nat) (o:Oper),aC4 p n l→l[i]? = some o→p (n + i) o
 | [],n,i,o,_,h=>by simp at h
 | x :: l,n,i,o,h,hi=>by
  cases i with
  | zero=>simp only [List.getElem?_cons_zero,Option.some.injEq] at hi;subst hi;exact h.1
  | succ i =>
   simp only [List.getElem?_cons_succ] at hi;have:=rF l (n + 1) i o h.2 hi;rwa [show n + 1 + i=n + (i + 1) by omega] at this
def aPt:Nat→List Oper→Bool
 | _,[]=>true
 | n,o :: os=>o.after.toList.all (fun e=>!Region.binds .any e || decide (e.on < n)) && aPt (n + 1) os
theorem xM:∀ (l:List Oper) (n i:Nat) (o:Oper),aPt n l=true→l[i]? = some o→∀ e ∈ o.after.toList,Region.binds .any e=true→e.on < n + i
 | [],n,i,o,_,h=>by simp at h
 | x :: l,n,i,o,h,hi=>by
  simp only [aPt,Bool.and_eq_true,List.all_eq_true] at h;cases i with
  | zero=>simp only [List.getElem?_cons_zero,Option.some.injEq] at hi;subst hi;exact fun e he hb=>by have:=h.1 e he;rw [hb] at this;simpa using this
  | succ i =>
   simp only [List.getElem?_cons_succ] at hi;have:=xM l (n + 1) i o h.2 hi;intro e he hb;have:=this e he hb;omega
end Go.OM
namespace Go.OM
variable {C:Ctx} {E:Env} {σ σ1:St} {S:Exit→St→Prop} {c d:Code}
def aP {α:Type} (l:List α) (i:Int):Option α:=if 0 ≤ i then l[i.toNat]? else none
def fO {α:Type} (l:List α) (i:Int) (x:α):Option (List α):=if 0 ≤ i∧i < l.length then some (l.set i.toNat x) else none
def bO {α:Type} (bytes:Nat) (a b:List α):Option (List α):=if (a.length + b.length) * bytes ≤ 140737488355328∧a.length + b.length ≤ 140737488355328 then some (a ++ b) else none
def mkI {α:Type} (bytes:Int) (n:Int) (z:α):Option (List α):=if 0 ≤ n∧bytes * n ≤ 140737488355328∧n ≤ 140737488355328 then some (List.replicate n.toNat z) else none
def eS {α:Type} (l:List α) (lo hi:Int):Option (List α):=if 0 ≤ lo∧lo ≤ hi∧hi ≤ l.length then some ((l.take hi.toNat).drop lo.toNat) else none
def sAt (z:ByteArray) (i:Int):Option Int:=if 0 ≤ i∧i < z.size then some (sC z i) else none
def eK (z:ByteArray) (lo hi:Int):Option ByteArray:=if 0 ≤ lo∧lo ≤ hi∧hi ≤ z.size then some (z.extract lo.toNat hi.toNat) else none
def bN (x y:ByteArray):Option ByteArray:=if x.size + y.size ≤ 9223372036854775807 then some (x ++ y) else none
def bF {α β:Type} (x:α) (f:α→β):β:=f x
theorem bZ {α β:Type} {x:α} {f:α→Option β} {r:β} (h:bF x f=some r):∃ y,y=x∧f y=some r:=⟨x,rfl,h⟩
theorem bS {α β:Type} {x:Option α} {f:α→Option β} {r:β} (h:x.bind f=some r):∃ y,x=some y∧f y=some r:=Option.bind_eq_some_iff.1 h
theorem gS {α:Type} {l:List α} {i:Int} {x:α} (h:aP l i=some x):0 ≤ i∧i < l.length∧l[i.toNat]? = some x∧∀ hl:i.toNat < l.length,l[i.toNat]'hl=x:=by
 unfold aP at h;split at h
 ·rename_i hi;obtain ⟨hlt,he⟩:=List.getElem?_eq_some_iff.1 h;exact ⟨hi,by omega,h,fun _=>he⟩
 cases h
theorem aS {α:Type} {n:Nat} {a b m:List α} (h:bO n a b=some m):(a.length + b.length) * n ≤ 140737488355328∧a.length + b.length ≤ 140737488355328∧m=a ++ b:=by
 unfold bO at h;split at h
 ·rename_i hi;injection h with h
  exact ⟨hi.1,hi.2,h.symm⟩
 cases h
theorem mS {α:Type} {b:Int} {n:Int} {z:α} {m:List α} (h:mkI b n z=some m):0 ≤ n∧b * n ≤ 140737488355328∧n ≤ 140737488355328∧m=List.replicate n.toNat z:=by
 unfold mkI at h;split at h
 ·rename_i hi;injection h with h
  exact ⟨hi.1,hi.2.1,hi.2.2,h.symm⟩
 cases h
theorem aN2 {α:Type} {l m:List α} {lo hi:Int} (h:eS l lo hi=some m):0 ≤ lo∧0 ≤ hi∧lo.toNat ≤ hi.toNat∧hi.toNat ≤ l.length∧m=(l.take hi.toNat).drop lo.toNat∧max lo 0 ≤ hi∧lo ≤ hi∧hi ≤ l.length:=by
 unfold eS at h;split at h
 ·rename_i hi;injection h with h
  exact ⟨hi.1,by omega,by omega,by omega,h.symm,by omega,by omega,by omega⟩
 cases h
theorem aPl {z:ByteArray} {i x:Int} (h:sAt z i=some x):0 ≤ i∧i < z.size∧sC z i=x:=by
 unfold sAt at h;split at h
 ·rename_i hi;injection h with h
  exact ⟨hi.1,hi.2,h⟩
 cases h
theorem aNf {z m:ByteArray} {lo hi:Int} (h:eK z lo hi=some m):0 ≤ lo∧0 ≤ hi∧lo.toNat ≤ hi.toNat∧hi.toNat ≤ z.size∧z.extract lo.toNat hi.toNat=m∧max lo 0 ≤ hi∧lo ≤ hi∧hi ≤ z.size:=by
 unfold eK at h;split at h
 ·rename_i hi;injection h with h
  exact ⟨hi.1,by omega,by omega,by omega,h,by omega,by omega,by omega⟩
 cases h
theorem aC {x y m:ByteArray} (h:bN x y=some m):x.size + y.size ≤ 9223372036854775807∧x ++ y=m:=by
 unfold bN at h;split at h
 ·rename_i hi;injection h with h
  exact ⟨hi,h⟩
 cases h
def shlI (k:IntKind) (x y:Int):Option Int:=if y < 0 then none else some (k.wrap (x * 2 ^ (min y.toNat k.bits)))
def shrI (k:IntKind) (x y:Int):Option Int:=if y < 0 then none else some (x.fdiv (2 ^ (min y.toNat k.bits)))
theorem aNd {k:IntKind} {x y z:Int} (h:shlI k x y=some z):¬ y < 0∧k.wrap (x * 2 ^ (min y.toNat k.bits))=z:=by
 unfold shlI at h;split at h
 ·cases h
 injection h with h;exact ⟨by assumption,h⟩
theorem aNc {k:IntKind} {x y z:Int} (h:shrI k x y=some z):¬ y < 0∧x.fdiv (2 ^ (min y.toNat k.bits))=z:=by
 unfold shrI at h;split at h
 ·cases h
 injection h with h;exact ⟨by assumption,h⟩
theorem qT {α:Type} {f:α→T} {l m:List α} {i:Nat} {x:α} (h:m=l.set i x):(l.map f).set i (f x)=m.map f:=by subst h;rw [List.map_set]
theorem kG {α:Type} {f:α→T} {a b m:List α} (h:m=a ++ b):a.map f ++ b.map f=m.map f:=by subst h;rw [List.map_append]
theorem aR9 {α:Type} {f:α→T} {n:Nat} {z:α} {m:List α} (h:m=List.replicate n z):List.replicate n (f z)=m.map f:=by subst h;rw [List.map_replicate]
theorem aR3 {α:Type} {f:α→T} {l m:List α} {a b:Nat} (h:m=(l.take b).drop a):((l.map f).take b).drop a=m.map f:=by subst h;rw [List.map_drop,List.map_take]
def uZ {α ρ:Type} (f:α→Option (α ⊕ ρ)):Nat→α→Option ρ
 | 0,_=>none
 | n + 1,a=>match f a with
  | none=>none
  | some (.inl b)=>uZ f n b
  | some (.inr r)=>some r
theorem aBj {α ρ:Type} (f:α→Option (α ⊕ ρ)):∀ (n m:Nat) (a:α) (r:ρ),uZ f n a=some r→n ≤ m→uZ f m a=some r
 | 0,m,a,r,h,_=>by simp [uZ] at h
 | n + 1,0,a,r,_,h=>by omega
 | n + 1,m + 1,a,r,h,hm=>by
  simp only [uZ] at h ⊢;cases hf:f a with
  | none=>rw [hf] at h;exact h
  | some s =>
   rw [hf] at h;cases s with
   | inl b=>exact aBj f n m b r h (by omega)
   | inr r'=>exact h
noncomputable def aI {α ρ:Type} (f:α→Option (α ⊕ ρ)) (a:α):Option ρ :=
 open Classical in if h : ∃ n, (uZ f n a).isSome = true then uZ f (Classical.choose h) a else none
theorem loopP_some {α ρ:Type} {f:α→Option (α ⊕ ρ)} {a:α} {r:ρ}:aI f a=some r ↔ ∃ n,uZ f n a=some r:=by
 unfold aI;constructor
 ·intro h;split at h
  ·exact ⟨_,h⟩
  cases h
 rintro ⟨n,h⟩;have hex:∃ n,(uZ f n a).isSome=true:=⟨n,by rw [h];rfl⟩
 rw [dif_pos hex];have h2:=Classical.choose_spec hex;obtain ⟨s,hs⟩:=Option.isSome_iff_exists.1 h2;have e1:=aBj f _ (max n (Classical.choose hex)) a r h (by omega)
 have e2:=aBj f _ (max n (Classical.choose hex)) a s hs (by omega)
 rw [hs,← e2,e1]
noncomputable def loopK {α ρ:Type} (f:α→Option (α ⊕ ρ)):Option (α ⊕ ρ)→Option ρ
 | none=>none
 | some (.inl b)=>aI f b
 | some (.inr r)=>some r
theorem xQ {α ρ:Type} (f:α→Option (α ⊕ ρ)) (a:α):aI f a=loopK f (f a):=by
 apply Option.ext;intro r;rw [loopP_some];cases hf:f a with
 | none =>
  simp only [loopK,reduceCtorEq,iff_false];rintro ⟨n,h⟩;cases n<;>simp [uZ,hf] at h
 | some s =>
  cases s with
  | inl b =>
   simp only [loopK,loopP_some];constructor
   ·rintro ⟨n,h⟩;cases n with
    | zero=>simp [uZ] at h
    | succ n=>simp only [uZ,hf] at h;exact ⟨n,h⟩
   rintro ⟨n,h⟩;exact ⟨n + 1,by simp only [uZ,hf];exact h⟩
  | inr r' =>
   simp only [loopK];constructor
   ·rintro ⟨n,h⟩;cases n with
    | zero=>simp [uZ] at h
    | succ n=>simpa only [uZ,hf] using h
   intro h;exact ⟨1,by simp only [uZ,hf];exact h⟩
theorem dY {α ρ:Type} {f:α→Option (α ⊕ ρ)} (I:α→Prop) (μ:α→Nat) (R:ρ→Prop) (h:∀ a,I a→(∃ b,f a=some (.inl b)∧I b∧μ b < μ a) ∨ ∃ r,f a=some (.inr r)∧R r):∀ a,I a→∃ r,aI f a=some r∧R r:=by
 intro a;generalize hn:μ a=n;induction n using Nat.strongRecOn generalizing a with
 | _ n ih =>
  intro hI;rw [xQ];rcases h a hI with ⟨b,h1,h2,h3⟩ | ⟨r,h1,h2⟩
  ·rw [h1];exact ih (μ b) (hn ▸ h3) b rfl h2
  rw [h1];exact ⟨r,rfl,h2⟩
def St.shed (N:Nat) (fz ks kb:List Nat) (σ:St):Option St:=(σ.freezeL N fz).bind fun σ1=>if σ1.keepOk N ks kb=true then some (σ1.keep ks kb) else none
theorem SOk2.shed {fz ks kb:List Nat} {σ':St} {a:Act} {w:World} (H:SOk2 E C σ a w) (h:σ.shed C.N fz ks kb=some σ'):SOk2 E C σ' a w:=by
 unfold St.shed at h;obtain ⟨σ1,h1,h2⟩:=Option.bind_eq_some_iff.1 h;split at h2
 ·rename_i hk;injection h2 with h2
  subst h2;exact ⟨(H.1.freezeL h1).keep hk,H.2⟩
 cases h2
attribute [simp] St.shed
theorem O.shed {fz ks kb:List Nat} {σ':St} (hk:σ.shed C.N fz ks kb=some σ') (h:O E C c S σ'):O E C c S σ:=fun a w H=>h a w (H.shed hk)
theorem O.loopO {α ρ:Type} (fz ks kb:List Nat) (inv:α→St) (f:α→Option (α ⊕ ρ)) (out:ρ) (g:α) (hg:aI f g=some out) (hk:σ.shed C.N fz ks kb=some (inv g))
  (h:∀ (g:α) (s:α ⊕ ρ),f g=some s→(∀ o,s = .inr o→o=out)→O E C c (aO (fun σ'=>∃ g' fz,s = .inl g'∧σ'.shed C.N fz ks kb=some (inv g')) S) (inv g)):O E C (.loop c) S σ:=by
 intro a w H;have H':=H.shed hk;obtain ⟨n,hn⟩:=loopP_some.1 hg;refine wp_loop_ghost (fun n a w=>∃ g,uZ f n g=some out∧SOk2 E C (inv g) a w) n ⟨g,hn,H'⟩ ?_;intro n a w ⟨g,hn,H⟩;cases n with
 | zero=>simp [uZ] at hn
 | succ n =>
  simp only [uZ] at hn;cases hf:f g with
  | none=>rw [hf] at hn;cases hn
  | some s =>
   rw [hf] at hn;refine Code.wp_mono (fun e a w ⟨σ',h1,h2⟩=>?_) (h g s hf (fun o ho=>by subst ho;injection hn) a w H)
   cases e with
   | normal =>
    obtain ⟨g',fz',q1,q2⟩:=h1;subst q1;exact ⟨n,by omega,g',hn,h2.shed q2⟩
   | _=>exact ⟨σ',h1,h2⟩
theorem O.seqC {β:Type} (ks kb:List Nat) (inv:β→St) (J:β→Prop) (hrest:∀ v,J v→O E C d S (inv v)) (h:∀ K:St→Prop,(∀ σ' v fz,J v→σ'.shed C.N fz ks kb=some (inv v)→K σ')→O E C c (aO K S) σ):O E C (.seq c d) S σ :=
 O.seq (h _ fun σ' v fz hv hk=>O.shed hk (hrest v hv))
theorem O.seqRC {β:Type} {id:Nat} {ops:Array Oper} {l:List Oper} (hl:ops.toList=l) (hp:oX C.pin l=true) (ks kb:List Nat) (inv:β→St) (J:β→Prop) (hrest:∀ v,J v→O E C d S (inv v)) (h:∀ K:St→Prop,(∀ σ' v fz,J v→σ'.shed C.N fz ks kb=some (inv v)→K σ')→σ.wps E C.N l l K):O E C (.seq (.region id ops false) d) S σ :=
 O.sR hl hp fun K hK=>h K fun σ' v fz hv hk=>hK σ' (O.shed hk (hrest v hv))
theorem O.cT' {x:Operand} {b:Bool} (hx:σ.sc x=some (.bool b)) (hb:b=true) (h:O E C c S σ):O E C (.cond x c d) S σ:=O.cond hx (by rw [hb];exact h)
theorem O.cF' {x:Operand} {b:Bool} (hx:σ.sc x=some (.bool b)) (hb:¬ b=true) (h:O E C d S σ):O E C (.cond x c d) S σ:=O.cond hx (by rw [if_neg hb];exact h)
end Go.OM
namespace Go.OM
variable {C:Ctx} {E:Env} {σ σ':St} {Q:Exit→Act→World→Prop} {S:Exit→St→Prop} {a:Act} {w:World} {P:Program}
theorem ready_mem {ops:Array Oper} {listed:Array Bool} {i:Nat}:i ∈ Region.ready .any ops listed ↔ i < ops.size∧listed.getD i true=false∧∀ o,ops[i]? = some o→∀ e ∈ o.after.toList,Region.binds .any e=true→listed.getD e.on false=true:=by
 unfold Region.ready;rw [List.mem_filter,List.mem_range];constructor
 ·rintro ⟨h1,h2⟩;have ho:ops[i]? = some ops[i]:=Array.getElem?_eq_getElem h1;rw [ho] at h2;simp only [Option.map_some,Option.getD_some,Bool.and_eq_true,Bool.not_eq_true',Array.all_eq_true_iff_forall_mem,Bool.or_eq_true] at h2;refine ⟨h1,h2.1,fun o ho' e he hb=>?_⟩;rw [ho] at ho';injection ho' with ho'
  subst ho';rcases h2.2 e (by simpa using he) with h | h
  ·rw [hb] at h;cases h
  exact h
 rintro ⟨h1,h2,h3⟩;refine ⟨h1,?_⟩;have ho:ops[i]? = some ops[i]:=Array.getElem?_eq_getElem h1;rw [ho];simp only [Option.map_some,Option.getD_some,Bool.and_eq_true,Bool.not_eq_true',Array.all_eq_true_iff_forall_mem,Bool.or_eq_true];refine ⟨h2,fun e he=>?_⟩;cases hb:Region.binds .any e with
 | false=>left;rfl
 | true=>right;exact h3 _ ho e (by simpa using he) hb
theorem aL2 {l:Array Bool} {i j:Nat} {d:Bool} (hi:i < l.size):(l.setIfInBounds i true).getD j d=if j=i then true else l.getD j d:=by
 rw [Array.getD_eq_getD_getElem?,Array.getElem?_setIfInBounds];by_cases e:i=j
 ·subst e;simp [hi]
 rw [if_neg e,if_neg (fun h=>e h.symm),Array.getD_eq_getD_getElem?]
end Go.OM
namespace Go.OM
variable {C:Ctx} {E:Env} {σ σ':St} {S:Exit→St→Prop} {d:Code}
def xT (D:Nat→Bool):Nat→List (Nat × AV)→List (Nat × AV)
 | _,[]=>[]
 | i,(k,v) :: vs=>(k,if D i=true then v else .u) :: xT D (i + 1) vs
theorem aAi (D:Nat→Bool):∀ (i:Nat) (vs:List (Nat × AV)),(xT D i vs).map Prod.fst=vs.map Prod.fst
 | _,[]=>rfl
 | i,(k,v) :: vs=>by simp [xT,aAi D (i + 1) vs]
theorem aCq (D:Nat→Bool):∀ (i:Nat) (vs:List (Nat × AV)),(∀ j,i ≤ j→j < i + vs.length→D j=true)→xT D i vs=vs
 | _,[],_=>rfl
 | i,(k,v) :: vs,h=>by
  rw [xT,h i (Nat.le_refl _) (by simp),if_pos rfl,aCq D (i + 1) vs (fun j h1 h2=>h j (by omega) (by simp only [List.length_cons];omega))]
theorem aAh:∀ (i:Nat) (vs:List (Nat × AV)),xT (fun _=>false) i vs=vs.map fun e=>(e.1,.u)
 | _,[]=>rfl
 | i,(k,v) :: vs=>by simp [xT,aAh (i + 1) vs]
theorem wD {α:Type}:∀ {l:List (Nat × α)} {n:Nat},n ∉ l.map Prod.fst→look l n=none
 | [],n,_=>rfl
 | (k,x) :: l,n,h=>by
  simp only [List.map_cons,List.mem_cons,not_or] at h;simp only [look,if_neg (fun e:k=n=>h.1 e.symm)];exact wD h.2
theorem aCp (D:Nat→Bool):∀ (i:Nat) (vs:List (Nat × AV)) (j:Nat) (e:Nat × AV),(vs.map Prod.fst).Nodup→vs[j]? = some e→look (xT D i vs) e.1=some (if D (i + j)=true then e.2 else .u)
 | i,[],j,e,_,h=>by simp at h
 | i,(k,v) :: vs,j,e,hn,h=>by
  simp only [List.map_cons,List.nodup_cons] at hn;cases j with
  | zero =>
   simp only [List.getElem?_cons_zero,Option.some.injEq] at h;subst h;simp [xT,look]
  | succ j =>
   simp only [List.getElem?_cons_succ] at h;have hne:k ≠ e.1:=fun hk=>hn.1 (List.mem_map.2 ⟨e,List.mem_of_getElem? h,hk.symm⟩);simp only [xT,look,if_neg hne];rw [aCp D (i + 1) vs j e hn.2 h,show i + 1 + j=i + (j + 1) by omega]
theorem aGf {α:Type}:∀ (l m:List (Nat × α)) (n:Nat) (x:α),n ∉ l.map Prod.fst→put (l ++ m) n x=l ++ put m n x
 | [],m,n,x,_=>rfl
 | (k,y) :: l,m,n,x,h=>by
  simp only [List.map_cons,List.mem_cons,not_or] at h;simp only [List.cons_append,put,if_neg (fun e:k=n=>h.1 e.symm),aGf l m n x h.2]
theorem aCi (D:Nat→Bool):∀ (i:Nat) (vs:List (Nat × AV)) (j:Nat) (e:Nat × AV),(vs.map Prod.fst).Nodup→vs[j]? = some e→put (xT D i vs) e.1 e.2=xT (bY D (i + j)) i vs
 | i,[],j,e,_,h=>by simp at h
 | i,(k,v) :: vs,j,e,hn,h=>by
  simp only [List.map_cons,List.nodup_cons] at hn;have hun:∀ (n:Nat) (i:Nat) (vs:List (Nat × AV)),n < i→xT (bY D n) i vs=xT D i vs:=by
   intro n i vs;induction vs generalizing i with
   | nil=>intro _;rfl
   | cons e vs ih =>
    intro hni;obtain ⟨k,v⟩:=e;simp only [xT,ih (i + 1) (by omega)]
    have:bY D n i=D i:=by unfold bY;rw [if_neg (by omega)]
    rw [this]
  cases j with
  | zero =>
   simp only [List.getElem?_cons_zero,Option.some.injEq] at h;subst h;simp only [xT,put,if_true,Nat.add_zero,hun i (i + 1) vs (by omega)]
   simp [bY]
  | succ j =>
   simp only [List.getElem?_cons_succ] at h;have hne:k ≠ e.1:=fun hk=>hn.1 (List.mem_map.2 ⟨e,List.mem_of_getElem? h,hk.symm⟩);simp only [xT,put,if_neg hne];rw [aCi D (i + 1) vs j e hn.2 h,show i + 1 + j=i + (j + 1) by omega]
   have:bY D (i + (j + 1)) i=D i:=by unfold bY;rw [if_neg (by omega)]
   rw [this]
def tdB (td:List (List Nat)):Nat→List Oper→Bool
 | _,[]=>true
 | i,o :: os=>((td.getD i []).all fun j=>decide (j < i) && o.after.toList.any fun e=>Region.binds .any e && (e.on == j || (decide (e.on < i) && (td.getD e.on []).contains j))) && tdB td (i + 1) os
theorem aAw {td:List (List Nat)}:∀ (l:List Oper) (n i:Nat) (o:Oper),tdB td n l=true→l[i]? = some o→∀ j ∈ td.getD (n + i) [],∃ e ∈ o.after.toList,Region.binds .any e=true∧(e.on=j ∨ (e.on < n + i∧j ∈ td.getD e.on []))
 | [],n,i,o,_,h=>by simp at h
 | x :: l,n,i,o,h,hi=>by
  simp only [tdB,Bool.and_eq_true] at h;cases i with
  | zero =>
   simp only [List.getElem?_cons_zero,Option.some.injEq] at hi;subst hi;intro j hj;rw [Nat.add_zero] at hj ⊢;have:=List.all_eq_true.1 h.1 j hj;simp only [Bool.and_eq_true] at this;have h2:=List.any_eq_true.1 this.2;obtain ⟨e,he,hb⟩:=h2;simp only [Bool.and_eq_true,Bool.or_eq_true,beq_iff_eq,decide_eq_true_eq,List.contains_iff_mem] at hb;exact ⟨e,he,hb.1,hb.2⟩
  | succ i =>
   simp only [List.getElem?_cons_succ] at hi;have:=aAw l (n + 1) i o h.2 hi;rwa [show n + 1 + i=n + (i + 1) by omega] at this
def bQ (vs:List (Nat × AV)) (j:Nat):Nat × AV:=vs.getD j (0,.u)
def owed (E:Env) (C:Ctx) (σ:St) (l:List Oper) (vs:List (Nat × AV)) (td:List (List Nat)) (i:Nat) (o:Oper):Prop :=
 ∀ τ:St,τ.bx=σ.bx→(∀ n,n ∉ vs.map Prod.fst→look τ.tm n=look σ.tm n)→(∀ j ∈ td.getD i [],look τ.tm (bQ vs j).1=some (bQ vs j).2)→look τ.tm (bQ vs i).1=some .u→∀ K:St→Prop,(∀ σ',σ'=⟨put τ.tm (bQ vs i).1 (bQ vs i).2,τ.bx⟩→K σ')→τ.wps E C.N l [o] K
end Go.OM
namespace Go.OM
variable {C:Ctx} {Z Z':Nat→Prop} {s:StA} {a:Act} {w w':World} {E:Env} {o:Oper} {σ σ':St} {K:Act→World→Prop} {Q:Exit→Act→World→Prop} {S:Exit→St→Prop} {c d:Code}
def St.callAt (N : Nat) (dst : Option Nat) (r : Root) (o : Nat) (p : Path) (k : Option Nat) (xs : List Operand) (y' : T) (res : List T) (σ : St) : Option (List Arg × St) := (σ.rootCells r).bind fun cs => (T.getP cs o p (k.getD 1)).bind fun l => (St.plains σ xs).bind fun ys =>
      if kOf y' = k ∧ y'.cells.length = k.getD 1 then (((σ.setRoot true r (T.setP cs o p (l.map T.bury))).setRoot true r (T.setP (T.setP cs o p (l.map T.bury)) o p y'.cells)).put? N dst (aM2 res)).map fun σ1 => (.val (mkT k l) :: ys.map Arg.val, σ1) else none
end Go.OM
namespace Go.OM
variable {C:Ctx} {Z Z':Nat→Prop} {s:StA} {a:Act} {w w':World} {E:Env} {o:Oper} {σ σ':St} {K:St→Prop} {Q:Exit→Act→World→Prop} {S:Exit→St→Prop} {c d:Code} {ops os:List Oper}
def St.W (E:Env) (C:Ctx) (ops:List Oper):List Oper→(St→Prop)→St→Prop
 | [],K,σ=>K σ
 | o :: os,K,σ=>(∃ K':St→Prop,σ.wps E C.N ops [o] K'∧∀ σ1,K' σ1→St.W E C ops os K σ1) ∨
   (o.guard=none∧∃ t n V X,o.op = .box t (.tmp n)∧(n,V) ∈ C.pin∧σ.op (.tmp n) = .t X∧∀ cs:List Value,V.cells.toList=cs→cs.length=X.cells.length→∃ σ1,σ.newBox C.N o.dst (cs.map T.v)=some σ1∧St.W E C ops os K σ1) ∨
   (o.guard=none∧∃ g x xs f n off k V args res y' σ1,fN o=some (g,x :: xs)∧σ.fn g=some f∧dR E.P f∧(n,V) ∈ C.pin∧σ.op x = .t (mkT k (((V.cells.toList.drop off).take (k.getD 1)).map T.v))∧σ.callAt C.N o.dst (.slot n) off [] k xs y' res=some (args,σ1)∧OkIO E f args res [] [(0,y')]∧St.W E C ops os K σ1)
theorem vals_v (rs:List Value):TA.vals (rs.map TA.v)=rs:=by
 simp only [TA.vals,List.map_map];exact (List.map_congr_left (fun x _=>rfl)).trans (List.map_id _)
theorem aDi {P:Program} {K1 K2:Act→World→Prop} (hK:∀ a w,K1 a w→K2 a w) (h:o.wp P a w K1 Q):o.wp P a w K2 Q:=by
 unfold Oper.wp at *;generalize (execOp a.eval o).run P w=r at *;cases r with
 | ok n w' =>
  cases n<;>simp only [Oper.upon] at h ⊢ <;>
   first
    | exact hK _ _ h
    | exact Calls.mono h (fun e w'' he=>by cases e<;>first | exact hK _ _ he | exact he)
    | exact Rows.mono h (fun _ _ he=>hK _ _ he)
    | exact h
 | halt x w'=>cases x<;>simp only [Oper.upon] at h ⊢<;>exact h
attribute [simp] St.callAt
end Go.OM
namespace Go.OM
open Go.Sort
theorem aO9:∀ {as:List ArgA} {xs:List Value},as.map ArgA.er=xs.map (fun x=>Arg.val (.v x))→as=xs.map fun x=>ArgA.val (.v x)
 | [],[],_=>rfl
 | [],x :: xs,h=>by simp at h
 | a :: as,[],h=>by simp at h
 | a :: as,x :: xs,h=>by
  simp only [List.map_cons,List.cons.injEq] at h ⊢;refine ⟨?_,aO9 h.2⟩;have h1:=h.1;cases a<;>simp only [ArgA.er,Arg.val.injEq,reduceCtorEq] at h1
  rename_i z;cases z<;>simp only [TA.er,T.v.injEq,reduceCtorEq] at h1
  rw [h1]
theorem aMy (q:Nat):∀ xs:List Value,pcL q (xs.map fun x=>ArgA.val (.v x))=0
 | []=>rfl
 | x :: xs=>by simp only [List.map_cons,pcL,ArgA.pc,aMy q xs]
theorem aCw:∀ xs:List Value,tD (xs.map fun x=>ArgA.val (.v x))=[]
 | []=>rfl
 | x :: xs=>by simp only [List.map_cons,tD,aCw xs]
def Env.Gl (E:Env) (w:World):Prop:=∀ g ∈ E.gl,∃ (cs:Array Value) (t:TypeId) (fr:Nat × Nat),w.heap[g.1]? = some (.cells cs t fr)∧g.2 cs
end Go.OM
namespace Go.OM
open Go.Sort
theorem aQp:∀ es:List Value,(es.map TA.v).flatMap TA.cells=es.map TA.v
 | []=>rfl
 | e :: es=>by simp only [List.map_cons,List.flatMap_cons,TA.cells,aQp es];rfl
theorem aPv {E:Env} {f:FuncId} {xs es:List Value} {ty:TypeId} (h1c:∀ v ∈ es,TA.OneCell v)
  (h:∀ w,E.Gl w→Calls E.P f xs.toArray w fun e w'=>e = .returned (.slice (some ⟨w.heap.size,0,none⟩) es.length es.length)∧w'=w.alloc (.cells es.toArray ty)):Ok E f (xs.map fun x=>Arg.val (.v x)) [.sl true 1 (es.map T.v)] []:=by
 intro w Z as has hA hG;have:=aO9 has;subst this;have hv:((xs.map fun x=>ArgA.val (.v x)).map ArgA.value)=xs:=by
  rw [List.map_map];exact (List.map_congr_left (fun x _=>rfl)).trans (List.map_id _)
 rw [hv];refine (h w fun g hg=>(hG g hg).2).mono fun e w' ⟨he,hw⟩=>?_;subst hw;have hcnt:∀ (q:Nat) (l:List Value),TA.cntL q (l.map TA.v)=0:=by
  intro q l;induction l with
  | nil=>rfl
  | cons c cs ih=>simp only [List.map_cons,TA.cntL,TA.cnt,ih]
 have hH:∀ (h:Array Obj) (l:List Value),(∀ v ∈ l,TA.OneCell v)→TA.HoldsL Z h (l.map TA.v):=by
  intro h l;induction l with
  | nil=>intro _;simp [TA.HoldsL]
  | cons c cs ih=>intro hc;simp only [List.map_cons,TA.HoldsL,TA.Holds];exact ⟨hc c (by simp),ih fun v hv=>hc v (by simp [hv])⟩
 have hheap:(w.alloc (.cells es.toArray ty)).heap=w.heap.push (.cells es.toArray ty):=rfl;have hvals:TA.vals ((es.map TA.v).flatMap TA.cells)=es:=by
  rw [aQp,vals_v]
 have hnew:∀ q,TA.cnt q (TA.sl true 1 w.heap.size 0 es.length (es.map TA.v))=if w.heap.size=q then 1 else 0:=by
  intro q;simp only [TA.cnt,hcnt];split<;>simp_all
 refine ⟨Z,[.sl true 1 w.heap.size 0 es.length (es.map TA.v)],[],?_,?_,rfl,?_⟩
 ·rw [he];simp [aKh,TA.val,TA.val1]
 ·simp only [TA.erL,TA.er,TA.erL_map,List.map_map];rfl
 exact {
  holds:=by
   simp only [TA.HoldsL,TA.Holds,and_true];refine ⟨⟨es.toArray,ty,(0,0),by rw [hheap];simp,fun _=>⟨by simp,rfl⟩,fun j u hu=>?_⟩,by simp,by simp,hH _ _ h1c,?_⟩
   ·rw [hvals] at hu;simpa using hu
   intro e he;obtain ⟨x,_,rfl⟩:=List.mem_map.1 he
   rfl
  outs:=by rw [aCw];trivial
  uniq:=fun q=>by
   rw [aMy];simp only [TA.cntL,hnew,List.flatten_nil];split<;>omega
  own:=fun q hq=>by
   simp only [TA.cntL,hnew,List.flatten_nil] at hq;split at hq
   ·rename_i e;subst e;exact ⟨.inr (Nat.le_refl _),fun hz=>by have:=hA.zlt _ hz;omega⟩
   omega
  zle:=fun _ h=>h
  zext:=fun _ h=>.inl h
  zlt:=fun q hq=>by have:=hA.zlt q hq;rw [hheap,Array.size_push];omega
  os:=rfl
  tape:=rfl
  output:=rfl
  grown:=by rw [hheap,Array.size_push];omega
  kept:=fun q hq _=>by rw [hheap,Array.getElem?_push_lt hq];simp [hq]
  part:=fun x hx=>by rw [aCw] at hx;cases hx }
end Go.OM
namespace Go.OM
variable {C:Ctx} {E:Env} {σ σ':St} {S:Exit→St→Prop} {c d:Code}
theorem aH {N n:Nat} {ops os:List Oper} {o:Oper} {K:St→Prop} {τ:St} (q:N=n) (h:τ.wps E N ops os K) (hc:fN o=none:=by rfl) (h1:σ.stepK E n ops o (fun s=>s=τ):=by simp;rfl):σ.wps E N ops (o :: os) K:=by
 subst q;refine wC hc fun K' hK'=>?_;unfold St.stepK at h1 ⊢;split at h1<;>rename_i hw<;>try simp only [hw]
 ·obtain ⟨σ1,e,rfl⟩:=h1;exact ⟨σ1,e,hK' _ h⟩
 ·obtain ⟨σ1,e,rfl⟩:=h1;exact ⟨σ1,e,hK' _ h⟩
 exact h1
theorem fP {N n:Nat} {ops os:List Oper} {o:Oper} {K:St→Prop} {τ:St} {g:Operand} {xs:List Operand} {f:FuncId} (ms:List (Mode × Operand)) {args:List Arg} {res:List T} {outs:List (List T)} (q:N=n) (he:dR E.P f) (hok:Ok E f args res outs) (h:τ.wps E N ops os K)
  (hc:fN o=some (g,xs):=by rfl) (hms:(ms.all (fun m=>m.1.real),ms.map Prod.snd)=(true,xs):=by rfl)
  (h1:σ.wants ops o=some true∧σ.fn g=some f∧vO args (fun pls σ2=>zB (fun s=>s=τ) (St.land n o.dst (ms.any fun m=>m.1.isBor) pls res outs σ2)) (σ.lend n ms):=by simp;rfl):σ.wps E N ops (o :: os) K:=by
 subst q;refine wL ms hc hms he hok fun K' hK'=>⟨h1.1,h1.2.1,?_⟩;have h2:=h1.2.2;unfold vO at h2 ⊢;split at h2
 case h_2=>exact h2.elim
 rename_i z hz;refine ⟨h2.1,?_⟩;have h3:zB (fun s=>s=τ) (St.land N o.dst (ms.any fun m=>m.1.isBor) z.2.1 res outs z.2.2):=h2.2;show zB K' (St.land N o.dst (ms.any fun m=>m.1.isBor) z.2.1 res outs z.2.2);generalize St.land N o.dst (ms.any fun m=>m.1.isBor) z.2.1 res outs z.2.2=y at h3 ⊢;cases y with
 | none=>exact h3.elim
 | some s =>
  have e:s=τ:=h3;subst e;exact hK' _ h
theorem O.cI {α:Type} {x:Operand} {b:Bool} {p q:Option α} {r:α} (h:(if b=true then p else q)=some r) (ht:b=true→p=some r→O E C c S σ) (hf:¬ b=true→q=some r→O E C d S σ) (hx:σ.sc x=some (.bool b):=by simp):O E C (.cond x c d) S σ:=by
 by_cases hb:b=true
 ·rw [if_pos hb] at h;exact O.cT' hx hb (ht hb h)
 rw [if_neg hb] at h;exact O.cF' hx hb (hf hb h)
theorem O.zS {ks:List Nat} {id:Nat} {ops:Array Oper} {l:List Oper} (u:∀ l,yK ks l=true→oX C.pin l=true) (h:σ.wps E C.N l l fun σ'=>O E C d S σ') (hl:ops.toList=l:=by rfl) (hp:yK ks l=true:=by rfl):O E C (.seq (.region id ops false) d) S σ :=
 O.seq (O.region (by rw [hl];exact u _ hp) (by rw [hl];exact h))
theorem O.zH {ks:List Nat} {id:Nat} {ops:Array Oper} {l:List Oper} (u:∀ l,yK ks l=true→oX C.pin l=true) (h:σ.wps E C.N l l fun σ'=>S .normal σ') (hl:ops.toList=l:=by rfl) (hp:yK ks l=true:=by rfl):O E C (.region id ops false) S σ :=
 O.region (by rw [hl];exact u _ hp) (by rw [hl];exact h)
end Go.OM
namespace Go.OM
variable {C:Ctx} {E:Env} {σ σ':St} {Q:Exit→Act→World→Prop} {S:Exit→St→Prop} {a:Act} {w:World} {P:Program}
theorem aCu {ops:Array Oper} {m:Nat} (hord:∀ (i:Nat) (o:Oper),ops[i]? = some o→∀ e ∈ o.after.toList,Region.binds .any e=true→e.on < i)
  (hlast:∀ (i:Nat) (o:Oper),m ≤ i→ops[i]? = some o→∀ D:Nat→Bool,(∀ (j:Nat) (o':Oper),ops[j]? = some o'→D j=true→lN o' D)→lN o D→∀ j,j < i→D j=true) :
  ∀ (fuel k:Nat) (listed:Array Bool) (a:Act) (w:World),m ≤ k→k ≤ ops.size→listed.size=ops.size→(∀ i d,i < ops.size→listed.getD i d=decide (i < k))→ops.size - k ≤ fuel→wpList P ops Q (ops.toList.drop k) a w→wpAny P .any ops Q fuel listed a w:=by
 intro fuel;induction fuel with
 | zero =>
  intro k listed a w hm hk hsz hl hf h;have hkk:k=ops.size:=by omega
  refine ⟨?_,?_⟩
  ·rw [List.eq_nil_iff_forall_not_mem];intro i hi;obtain ⟨h1,h2,_⟩:=ready_mem.1 hi;rw [hl i true h1] at h2;simp at h2;omega
  rw [List.drop_eq_nil_of_le (by simp;omega)] at h
  exact h
 | succ fuel ih =>
  intro k listed a w hm hk hsz hl hf h;by_cases hkk:k=ops.size
  ·have hnil:Region.ready .any ops listed=[]:=by
    rw [List.eq_nil_iff_forall_not_mem];intro i hi;obtain ⟨h1,h2,_⟩:=ready_mem.1 hi;rw [hl i true h1] at h2;simp at h2;omega
   rw [List.drop_eq_nil_of_le (by simp;omega)] at h
   refine ⟨fun _=>h,fun i hi=>?_⟩;rw [hnil] at hi;cases hi
  have hlt:k < ops.size:=by omega
  have ho:ops[k]? = some ops[k]:=Array.getElem?_eq_getElem hlt;have hmem:k ∈ Region.ready .any ops listed:=by
   rw [ready_mem];refine ⟨hlt,by rw [hl k true hlt];simp,fun o ho' e he hb=>?_⟩
   have:=hord k o ho' e he hb;rw [hl e.on false (by omega)]
   simpa using this
  refine ⟨fun hr=>(by rw [hr] at hmem;cases hmem),fun i hi=>?_⟩
  obtain ⟨h1,h2,h3⟩:=ready_mem.1 hi;have hik:i=k:=by
   rw [hl i true h1] at h2;simp only [decide_eq_false_iff_not,Nat.not_lt] at h2;rcases Nat.lt_or_ge k i with hki | hki
   ·exfalso;have hoi:ops[i]? = some ops[i]:=Array.getElem?_eq_getElem h1;have:=hlast i _ (by omega) hoi (fun j=>decide (j < k)) (fun j o' ho' hj e he hb=>by
     have h5:=hord j o' ho' e he hb;simp only [decide_eq_true_eq] at hj ⊢;omega) (fun e he hb=>by
     have h5:=h3 _ hoi e he hb;rwa [hl _ false (by have:=hord i _ hoi e he hb;omega)] at h5) k hki
    simp at this
   omega
  subst hik;have hdrop:ops.toList.drop i=ops[i] :: ops.toList.drop (i + 1):=by
   rw [List.drop_eq_getElem_cons (by simpa using hlt)];simp
  rw [hdrop] at h;have h':wpOp P ops Q i (wpList P ops Q (ops.toList.drop (i + 1))) a w:=by
   unfold wpOp;rw [ho];exact h
  refine wpOp_mono (fun a w h=>ih (i + 1) _ a w (by omega) (by omega) (by simpa using hsz) (fun j d hj=>?_) (by omega) h) h'
  rw [aL2 (by omega),hl j d hj]
  by_cases e:j=i
  ·subst e;simp
  rw [if_neg e];congr 1;apply propext;omega
def VL (E:Env) (C:Ctx) (ops:List Oper) (os:List Oper) (K:St→Prop) (σ:St):Prop :=
 ∀ (ps:Array Oper) (Q:Exit→Act→World→Prop) (a:Act) (w:World),ps.toList=ops→oX C.pin os=true→SOk2 E C σ a w→(∀ σ' a' w',K σ'→SOk2 E C σ' a' w'→Q .normal a' w')→wpList E.P ps Q os a w
theorem VL_of {ops os:List Oper} {K:St→Prop} (h:σ.wps E C.N ops os K):VL E C ops os K σ:=fun ps Q a w h1 h2 H hQ=>by
 subst h1;exact sZ os σ a w _ h2 h H hQ
theorem aAt {ops:Array Oper} (hpin:oX C.pin ops.toList=true) (m:Nat) (hm:m ≤ ops.size) (fam:(Nat→Bool)→St) (hord:∀ (i:Nat) (o:Oper),ops[i]? = some o→∀ e ∈ o.after.toList,Region.binds .any e=true→e.on < i)
  (hlast:∀ (i:Nat) (o:Oper),m ≤ i→ops[i]? = some o→∀ D:Nat→Bool,(∀ (j:Nat) (o':Oper),ops[j]? = some o'→D j=true→lN o' D)→lN o D→∀ j,j < i→D j=true)
  (hstep:∀ (i:Nat) (o:Oper),i < m→ops[i]? = some o→∀ D:Nat→Bool,D i=false→(∀ j o',ops[j]? = some o'→D j=true→lN o' D)→lN o D→VL E C ops.toList [o] (fun σ'=>σ'=fam (bY D i)) (fam D))
  (hend:∀ D:Nat→Bool,(∀ i,i < m→D i=true)→∀ a w,SOk2 E C (fam D) a w→wpList E.P ops Q (ops.toList.drop m) a w) :
  ∀ (fuel:Nat) (listed:Array Bool) (D:Nat→Bool) (a:Act) (w:World),listed.size=ops.size→(∀ i d,i < ops.size→listed.getD i d=D i)→(∀ i,m ≤ i→D i=false)→(∀ j o',ops[j]? = some o'→D j=true→lN o' D)→(listed.toList.countP (fun b=>!b)) ≤ fuel→SOk2 E C (fam D) a w→wpAny E.P .any ops Q fuel listed a w:=by
 intro fuel;induction fuel with
 | zero =>
  intro listed D a w hsz hl hD hcl hc H;have hall:∀ i,i < ops.size→D i=true:=by
   intro i hi;rw [← hl i true hi];have hlt:i < listed.size:=by omega
   rw [Array.getD_eq_getD_getElem?,Array.getElem?_eq_getElem hlt];simp only [Option.getD_some];have h0:listed.toList.countP (fun b=>!b)=0:=by omega
   rw [List.countP_eq_zero] at h0;have:=h0 listed[i] (by simp)
   simpa using this
  have hmm:m=ops.size:=by
   rcases Nat.lt_or_ge m ops.size with h | h
   ·have:=hall m h;rw [hD m (Nat.le_refl _)] at this;cases this
   omega
  refine aCu hord hlast 0 m listed a w (Nat.le_refl _) hm hsz (fun i d hi=>?_) (by omega) (hend D (fun i hi=>hall i (by omega)) a w H)
  rw [hl i d hi,hall i hi];simp;omega
 | succ fuel ih =>
  intro listed D a w hsz hl hD hcl hc H;by_cases hall:∀ i,i < m→D i=true
  ·have hcount:listed.toList.countP (fun b=>!b)=ops.size - m ∨ True:=.inr trivial;have hle:ops.size - m ≤ fuel + 1:=by
    refine Nat.le_trans ?_ hc;have hsub:(listed.toList.drop m).countP (fun b=>!b) ≤ listed.toList.countP (fun b=>!b):=List.Sublist.countP_le (List.drop_sublist m _);refine Nat.le_trans ?_ hsub;have:(listed.toList.drop m).countP (fun b=>!b)=(listed.toList.drop m).length:=by
     rw [List.countP_eq_length];intro b hb;obtain ⟨j,hj,rfl⟩:=List.mem_iff_getElem.1 hb;rw [List.length_drop] at hj;simp only [List.getElem_drop,Bool.not_eq_true'];have hj2:m + j < listed.size:=by simp at hj;omega
     have h5:=hl (m + j) true (by omega)
     rw [Array.getD_eq_getD_getElem?,Array.getElem?_eq_getElem hj2] at h5;simp only [Option.getD_some] at h5;rw [Array.getElem_toList,h5];exact hD _ (by omega)
    rw [this,List.length_drop];simp;omega
   refine aCu hord hlast (fuel + 1) m listed a w (Nat.le_refl _) hm hsz (fun i d hi=>?_) hle (hend D hall a w H);rw [hl i d hi];rcases Nat.lt_or_ge i m with h | h
   ·rw [hall i h];simp [h]
   rw [hD i h];simp;omega
  have hne:∀ i,i ∈ Region.ready .any ops listed→i < m:=by
   intro i hi;obtain ⟨h1,h2,h3⟩:=ready_mem.1 hi;rcases Nat.lt_or_ge i m with h | h
   ·exact h
   exfalso;apply hall;intro j hj;have hoi:ops[i]? = some ops[i]:=Array.getElem?_eq_getElem h1;exact hlast i _ h hoi D hcl (fun e he hb=>by
    have h5:=h3 _ hoi e he hb;rwa [hl _ false (by have:=hord i _ hoi e he hb;omega)] at h5) j (by omega)
  refine ⟨fun hr=>?_,fun i hi=>?_⟩
  ·exfalso;apply hall;intro i;induction i using Nat.strongRecOn with
   | _ i ihi =>
    intro him;cases hDi:D i with
    | true=>rfl
    | false =>
     exfalso;have hmem:i ∈ Region.ready .any ops listed:=by
      rw [ready_mem];refine ⟨by omega,by rw [hl i true (by omega),hDi],fun o ho e he hb=>?_⟩
      have:=hord i o ho e he hb;rw [hl e.on false (by omega)]
      exact ihi e.on this (by omega)
     rw [hr] at hmem;cases hmem
  have him:=hne i hi;obtain ⟨h1,h2,h3⟩:=ready_mem.1 hi;have ho:ops[i]? = some ops[i]:=Array.getElem?_eq_getElem h1;have hDi:D i=false:=by rw [← hl i true h1];exact h2
  have hdep:lN ops[i] D:=by
   intro e he hb;have:=h3 _ ho e he hb;rwa [hl e.on false (by have:=hord i _ ho e he hb;omega)] at this
  have hlt':i < listed.size:=by omega
  have hnext:∀ a w,SOk2 E C (fam (bY D i)) a w→wpAny E.P .any ops Q fuel (listed.setIfInBounds i true) a w:=by
   intro a w H';refine ih _ (bY D i) a w (by simpa using hsz) ?_ ?_ ?_ ?_ H'
   ·intro j d hj;rw [aL2 hlt',hl j d hj]
    rfl
   ·intro j hj;unfold bY;rw [if_neg (by omega)]
    exact hD j hj
   ·intro j o' ho' hj;unfold bY at hj;by_cases e:j=i
    ·subst e;rw [ho] at ho';injection ho' with ho'
     subst ho';intro e he hb;have:=hdep e he hb;unfold bY;by_cases e2:e.on=j
     ·rw [if_pos e2]
     rw [if_neg e2];exact this
    rw [if_neg e] at hj;intro e' he hb;have:=hcl j o' ho' hj e' he hb;unfold bY;by_cases e2:e'.on=i
    ·rw [if_pos e2]
    rw [if_neg e2];exact this
   have hv:listed[i]=false:=by
    have:=hl i true h1;rw [Array.getD_eq_getD_getElem?,Array.getElem?_eq_getElem hlt',hDi] at this;simpa using this
   rw [Array.toList_setIfInBounds,List.countP_set (by simpa using hlt')]
   have hp:0 < listed.toList.countP (fun b=>!b):=by
    rw [List.countP_pos_iff];exact ⟨listed[i],by simp,by simp [hv]⟩
   have hv':listed.toList[i]'(by simpa using hlt')=false:=by simpa using hv
   rw [hv'];simp only [Bool.not_false,Bool.not_true,if_true,Bool.false_eq_true,if_false];omega
  have hone:=hstep i ops[i] him ho D hDi hcl hdep;have hpi:oX C.pin [ops[i]]=true:=by
   have:=List.all_eq_true.1 hpin ops[i] (by simp)
   simp only [oX,List.all_cons,List.all_nil,Bool.and_true];exact this
  have hl2:=hone ops (Exit.then (wpAny E.P .any ops Q fuel (listed.setIfInBounds i true)) Q) a w rfl hpi H (fun σ' a' w' hσ H'=>hnext a' w' (hσ ▸ H'));unfold wpOp;rw [ho];unfold wpList at hl2;simp only;split at hl2
  ·rename_i hw;rw [if_pos hw];rcases hl2 with hl2 | ⟨h5,h6⟩
   ·exact .inl (aQw hl2)
   exact .inr ⟨h5,h6⟩
  rename_i hw;rw [if_neg hw];exact hl2
theorem aAu {ops:Array Oper} (hpin:oX C.pin ops.toList=true) (m:Nat) (hm:m ≤ ops.size) (fam:(Nat→Bool)→St) (hord:∀ (i:Nat) (o:Oper),ops[i]? = some o→∀ e ∈ o.after.toList,Region.binds .any e=true→e.on < i)
  (hlast:∀ (i:Nat) (o:Oper),m ≤ i→ops[i]? = some o→∀ D:Nat→Bool,(∀ (j:Nat) (o':Oper),ops[j]? = some o'→D j=true→lN o' D)→lN o D→∀ j,j < i→D j=true)
  (hstep:∀ (i:Nat) (o:Oper),i < m→ops[i]? = some o→∀ D:Nat→Bool,D i=false→(∀ j o',ops[j]? = some o'→D j=true→lN o' D)→lN o D→(fam D).wps E C.N ops.toList [o] (fun σ'=>σ'=fam (bY D i)))
  (hend:∀ D:Nat→Bool,(∀ i,i < m→D i=true)→∀ a w,SOk2 E C (fam D) a w→wpList E.P ops Q (ops.toList.drop m) a w) :
  ∀ (fuel:Nat) (listed:Array Bool) (D:Nat→Bool) (a:Act) (w:World),listed.size=ops.size→(∀ i d,i < ops.size→listed.getD i d=D i)→(∀ i,m ≤ i→D i=false)→(∀ j o',ops[j]? = some o'→D j=true→lN o' D)→(listed.toList.countP (fun b=>!b)) ≤ fuel→SOk2 E C (fam D) a w→wpAny E.P .any ops Q fuel listed a w :=
 aAt hpin m hm fam hord hlast (fun i o h1 h2 D h3 h4 h5=>VL_of (hstep i o h1 h2 D h3 h4 h5)) hend
def aJe (td:List (List Nat)) (m n:Nat):Bool:=(List.range n).all fun i=>decide (i < m) || (List.range i).all fun j=>(td.getD i []).contains j
theorem wH {td:List (List Nat)} {m n i j:Nat} (h:aJe td m n=true) (h1:m ≤ i) (h2:i < n) (hj:j < i):j ∈ td.getD i []:=by
 have h3:=List.all_eq_true.1 h i (List.mem_range.2 h2);simp only [Bool.or_eq_true,decide_eq_true_eq] at h3;rcases h3 with h3 | h3
 ·omega
 exact List.contains_iff_mem.1 (List.all_eq_true.1 h3 j (List.mem_range.2 hj))
theorem O.dT {id:Nat} {ops:Array Oper} {l:List Oper} (hl:ops.toList=l) (hp:oX C.pin l=true) (vs:List (Nat × AV)) (td:List (List Nat)) (hm:vs.length ≤ l.length) (hdup:decide (vs.map Prod.fst).Nodup=true) (hfresh:∀ n ∈ vs.map Prod.fst,look σ.tm n=none) (hord:aPt 0 l=true) (hlast:aJe td vs.length l.length=true) (htd:tdB td 0 l=true)
  (hstep:aC4 (owed E C σ l vs td) 0 (l.take vs.length))
  (hend:∀ K:St→Prop,(∀ σ,S .normal σ→K σ)→(⟨σ.tm ++ vs,σ.bx⟩:St).wps E C.N l (l.drop vs.length) K):O E C (.region id ops true) S σ:=fun a w H=>by
 subst hl;have hnd:(vs.map Prod.fst).Nodup:=of_decide_eq_true hdup;have hdis:∀ e ∈ vs,e.1 ∉ σ.tm.map Prod.fst:=by
  intro e he hm;have h1:=hfresh e.1 (List.mem_map.2 ⟨e,he,rfl⟩);obtain ⟨f,hf,hfe⟩:=List.mem_map.1 hm;have:∀ (l:List (Nat × AV)) (n:Nat),n ∈ l.map Prod.fst→look l n ≠ none:=by
   intro l;induction l with
   | nil=>intro n h;simp at h
   | cons x l ih =>
    intro n h;obtain ⟨k,y⟩:=x;simp only [look];by_cases e:k=n
    ·simp [e]
    rw [if_neg e];simp only [List.map_cons,List.mem_cons] at h;exact ih n (h.resolve_left fun h=>e h.symm)
  exact this σ.tm e.1 hm h1
 have hordI:∀ (i:Nat) (o:Oper),ops[i]? = some o→∀ e ∈ o.after.toList,Region.binds .any e=true→e.on < i:=by
  intro i o ho;have:=xM ops.toList 0 i o hord (by rw [Array.getElem?_toList];exact ho)
  simpa using this
 have key:∀ D:Nat→Bool,(∀ (j:Nat) (o':Oper),ops[j]? = some o'→D j=true→lN o' D)→∀ (i:Nat) (o:Oper),ops[i]? = some o→lN o D→∀ j ∈ td.getD i [],j < i∧D j=true:=by
  intro D hcl i;induction i using Nat.strongRecOn with
  | _ i ih =>
   intro o ho hdep j hj;have h1:=aAw ops.toList 0 i o htd (by rw [Array.getElem?_toList];exact ho)
   rw [Nat.zero_add] at h1;obtain ⟨e,he,hb,h2⟩:=h1 j hj;have hei:=hordI i o ho e he hb;rcases h2 with h2 | ⟨_,h2⟩
   ·subst h2;exact ⟨hei,hdep e he hb⟩
   have hlt:e.on < ops.size:=by have:=(Array.getElem?_eq_some_iff.1 ho).1;omega
   have hoe:ops[e.on]? = some ops[e.on]:=Array.getElem?_eq_getElem hlt;obtain ⟨h3,h4⟩:=ih e.on hei _ hoe (hcl e.on _ hoe (hdep e he hb)) j h2;exact ⟨by omega,h4⟩
 refine wp_region_any E.mixed ?_;refine aAu (C:=C) (E:=E) hp vs.length (by simpa using hm) (fun D=>⟨σ.tm ++ xT D 0 vs,σ.bx⟩) hordI (fun i o hi ho=>?_) (fun i o hi ho D hD hcl hdep=>?_) (fun D hD a w H=>?_) ops.size _ (fun _=>false) a _ (by simp) (fun i d hi=>by simp [Array.getD,hi]) (fun _ _=>rfl) (fun _ _ _ h=>by cases h) ?_ ?_
 ·intro D hcl hdep j hj;have hlt:i < ops.size:=(Array.getElem?_eq_some_iff.1 ho).1;exact (key D hcl i o ho hdep j (wH hlast hi (by simpa using hlt) hj)).2
 ·have hget:(ops.toList.take vs.length)[i]? = some o:=by
   rw [List.getElem?_take,if_pos hi,Array.getElem?_toList];exact ho
  have hob:=rF _ 0 i o hstep hget;rw [Nat.zero_add] at hob;have hvi:vs[i]? = some (bQ vs i):=by
   unfold bQ;rw [List.getD_eq_getElem?_getD,List.getElem?_eq_getElem hi];rfl
  have hlk:∀ j,j < vs.length→look (σ.tm ++ xT D 0 vs) (bQ vs j).1=some (if D j=true then (bQ vs j).2 else .u):=by
   intro j hj;have hvj:vs[j]? = some (bQ vs j):=by
    unfold bQ;rw [List.getD_eq_getElem?_getD,List.getElem?_eq_getElem hj];rfl
   rw [pP,hfresh _ (List.mem_map.2 ⟨_,List.mem_of_getElem? hvj,rfl⟩)];have:=aCp D 0 vs j _ hnd hvj;rw [Nat.zero_add] at this;exact this
  refine hob ⟨σ.tm ++ xT D 0 vs,σ.bx⟩ rfl (fun n hn=>?_) ?_ ?_ _ (fun σ' hσ'=>?_)
  ·show look (σ.tm ++ xT D 0 vs) n=_;rw [pP];cases h:look σ.tm n with
   | some x=>rfl
   | none=>exact wD (by rw [aAi];exact hn)
  ·-- what it leans on is done
   intro j hj;obtain ⟨h1,h2⟩:=key D hcl i o ho hdep j hj;have:=hlk j (by omega)
   rw [h2,if_pos rfl] at this;exact this
  ·have:=hlk i hi;rw [hD] at this;simpa using this
  subst hσ';show (⟨_,_⟩:St)=⟨_,_⟩
  congr 1
  have hmem:bQ vs i ∈ vs:=List.mem_of_getElem? hvi;rw [aGf _ _ _ _ (hdis _ hmem)];have:=aCi D 0 vs i _ hnd hvi;rw [Nat.zero_add] at this;rw [this]
 ·have hall:xT D 0 vs=vs:=aCq D 0 vs (fun j _ hj=>hD j (by omega))
  have h2:=hend (fun σ'=>S .normal σ') (fun _ h=>h);simp only [hall] at H;have hpd:oX C.pin (ops.toList.drop vs.length)=true:=List.all_eq_true.2 fun o ho=>List.all_eq_true.1 hp o (List.mem_of_mem_drop ho);exact sZ (E:=E) _ _ a w _ hpd h2 H (fun σ' a' w' hS H'=>⟨σ',hS,H'⟩)
 ·exact Nat.le_trans List.countP_le_length (by simp)
 have:=H.1.pad (vs.map Prod.fst);rw [aAh];rw [List.map_map] at this;exact ⟨this.drew _,H.2⟩
end Go.OM
namespace Go.OM
variable {C:Ctx} {E:Env} {σ σ':St} {Q:Exit→Act→World→Prop} {S:Exit→St→Prop} {a:Act} {w:World} {P:Program}
def cN:List (Nat × AV)→List (Nat × AV)→List (Nat × AV)
 | tm,[]=>tm
 | tm,e :: d=>cN (put tm e.1 e.2) d
def nP (D:Nat→Bool):Nat→List (List (Nat × AV))→List (Nat × AV)→List (Nat × AV)
 | _,[],tm=>tm
 | i,d :: ds,tm=>nP D (i + 1) ds (if D i=true then cN tm d else tm)
theorem aE2:∀ (i:Nat) (ds:List (List (Nat × AV))) (tm:List (Nat × AV)),nP (fun _=>false) i ds tm=tm
 | _,[],_=>rfl
 | i,d :: ds,tm=>by simp only [nP,Bool.false_eq_true,if_false];exact aE2 (i + 1) ds tm
theorem xU {D D':Nat→Bool}:∀ (i:Nat) (ds:List (List (Nat × AV))) (tm:List (Nat × AV)),(∀ j,i ≤ j→j < i + ds.length→D j=D' j)→nP D i ds tm=nP D' i ds tm
 | _,[],_,_=>rfl
 | i,d :: ds,tm,h=>by
  simp only [nP];rw [h i (Nat.le_refl _) (by simp),xU (i + 1) ds _ fun j h1 h2=>h j (by omega) (by simp only [List.length_cons];omega)]
end Go.OM
namespace Go.OM
variable {C:Ctx} {E:Env} {σ σ':St} {Q:Exit→Act→World→Prop} {S:Exit→St→Prop} {a:Act} {w:World} {P:Program}
def aX:List (Nat × List T)→List (Nat × List T)→List (Nat × List T)
 | bx,[]=>bx
 | bx,e :: d=>aX (putB bx e.1 e.2) d
def aQ (D:Nat→Bool):Nat→List (List (Nat × List T))→List (Nat × List T)→List (Nat × List T)
 | _,[],bx=>bx
 | i,d :: ds,bx=>aQ D (i + 1) ds (if D i=true then aX bx d else bx)
theorem wR:∀ (i:Nat) (ds:List (List (Nat × List T))) (bx:List (Nat × List T)),aQ (fun _=>false) i ds bx=bx
 | _,[],_=>rfl
 | i,d :: ds,bx=>by simp only [aQ,Bool.false_eq_true,if_false];exact wR (i + 1) ds bx
theorem uG {D D':Nat→Bool}:∀ (i:Nat) (ds:List (List (Nat × List T))) (bx:List (Nat × List T)),(∀ j,i ≤ j→j < i + ds.length→D j=D' j)→aQ D i ds bx=aQ D' i ds bx
 | _,[],_,_=>rfl
 | i,d :: ds,bx,h=>by
  simp only [aQ];rw [h i (Nat.le_refl _) (by simp),uG (i + 1) ds _ fun j h1 h2=>h j (by omega) (by simp only [List.length_cons];omega)]
end Go.OM
namespace Go.OM
variable {C:Ctx} {E:Env} {σ σ':St} {Q:Exit→Act→World→Prop} {S:Exit→St→Prop} {a:Act} {w:World} {P:Program}
def aBe (r:Root):AV→Bool
 | .al r' _ _ _=>!decide (r'=r)
 | .ref r' _ _=>!decide (r'=r)
 | .clo _ xs=>!(xs.any (Cap.at r))
 | _=>true
def Lies (D:Nat→Bool) (base vs:List (Nat × AV)) (e:Nat × AV):Prop:=e.2 = .u ∨ e ∈ base ∨ ∃ j,j < vs.length∧D j=true∧e=bQ vs j
theorem aMf {tm base vs : List (Nat × AV)} {D : Nat → Bool} (r : Root) (bad : List Nat) (h : ∀ e ∈ tm, Lies D base vs e) (hb : base.all (fun e => aBe r e.2) = true) (hv : ((List.range vs.length).all fun j => aBe r (bQ vs j).2 || bad.contains j) = true) (hbad : ∀ j ∈ bad, D j = false) : (tm.map fun e => (e.1, e.2.killAll r)) = tm := by
  have key : ∀ x : AV, aBe r x = true → x.killAll r = x := by
    intro x hx;cases x with
    | clo f xs =>
      simp only [aBe, Bool.not_eq_true'] at hx;simp only [AV.killAll, hx, Bool.false_eq_true, if_false]
    | _ => simp_all [aBe, AV.killAll]
  have h2 : ∀ e ∈ tm, (e.1, e.2.killAll r) = e := by
    intro e he;have hx : e.2.killAll r = e.2 := by
      rcases h e he with h1 | h1 | ⟨j, h1, h2, h3⟩
      · rw [h1]; rfl
      · exact key _ (List.all_eq_true.1 hb e h1)
      subst h3;have h4 := List.all_eq_true.1 hv j (List.mem_range.2 h1);rw [Bool.or_eq_true] at h4;rcases h4 with h4 | h4
      · exact key _ h4
      rw [hbad j (by simpa using h4)] at h2; cases h2
    rw [hx]
  calc (tm.map fun e => (e.1, e.2.killAll r)) = tm.map id := List.map_congr_left h2
    _ = tm := List.map_id tm
theorem aE1 (D:Nat→Bool):∀ (vs:List (Nat × AV)) (i:Nat) (e:Nat × AV),e ∈ xT D i vs→e.2 = .u ∨ ∃ j,j < vs.length∧D (i + j)=true∧e=bQ vs j
 | [],i,e,h=>by cases h
 | v :: vs,i,e,h=>by
  simp only [xT,List.mem_cons] at h;rcases h with h | h
  ·cases hD:D i with
   | true =>
    right;refine ⟨0,by simp,by simpa using hD,?_⟩
    rw [h,hD];rfl
   | false=>left;rw [h,hD];rfl
  rcases aE1 D vs (i + 1) e h with h1 | ⟨j,h1,h2,h3⟩
  ·exact .inl h1
  refine .inr ⟨j + 1,by simp only [List.length_cons];omega,by rw [show i + (j + 1)=i + 1 + j by omega];exact h2,?_⟩
  rw [h3];rfl
def owedY (E:Env) (C:Ctx) (σ:St) (l:List Oper) (vs:List (Nat × AV)) (xs:List (List (Nat × List T))) (td:List (List Nat)) (i:Nat) (o:Oper):Prop :=
 ∀ (τ:St) (D:Nat→Bool),τ.bx=aQ D 0 xs σ.bx→(∀ n,n ∉ vs.map Prod.fst→look τ.tm n=look σ.tm n)→(∀ j ∈ td.getD i [],look τ.tm (bQ vs j).1=some (bQ vs j).2)→look τ.tm (bQ vs i).1=some .u →
  D i=false→(∀ j ∈ td.getD i [],D j=true)→(∀ j,i ∈ td.getD j []→j < vs.length→D j=false)→(∀ e ∈ τ.tm,Lies D σ.tm vs e)→∀ K:St→Prop,(∀ σ',σ'=⟨put τ.tm (bQ vs i).1 (bQ vs i).2,aQ (bY D i) 0 xs σ.bx⟩→K σ')→τ.wps E C.N l [o] K
theorem O.drawY {id:Nat} {ops:Array Oper} {l:List Oper} (hl:ops.toList=l) (hp:oX C.pin l=true) (vs:List (Nat × AV)) (xs:List (List (Nat × List T))) (td:List (List Nat)) (hxl:xs.length=vs.length) (hm:vs.length ≤ l.length) (hdup:decide (vs.map Prod.fst).Nodup=true) (hfresh:∀ n ∈ vs.map Prod.fst,look σ.tm n=none) (hord:aPt 0 l=true) (hlast:aJe td vs.length l.length=true) (htd:tdB td 0 l=true)
  (hstep:aC4 (owedY E C σ l vs xs td) 0 (l.take vs.length))
  (hend:∀ K:St→Prop,(∀ σ,S .normal σ→K σ)→(⟨σ.tm ++ vs,aQ (fun _=>true) 0 xs σ.bx⟩:St).wps E C.N l (l.drop vs.length) K):O E C (.region id ops true) S σ:=fun a w H=>by
 subst hl;have hnd:(vs.map Prod.fst).Nodup:=of_decide_eq_true hdup;have hdis:∀ e ∈ vs,e.1 ∉ σ.tm.map Prod.fst:=by
  intro e he hm;have h1:=hfresh e.1 (List.mem_map.2 ⟨e,he,rfl⟩);obtain ⟨f,hf,hfe⟩:=List.mem_map.1 hm;have:∀ (l:List (Nat × AV)) (n:Nat),n ∈ l.map Prod.fst→look l n ≠ none:=by
   intro l;induction l with
   | nil=>intro n h;simp at h
   | cons x l ih =>
    intro n h;obtain ⟨k,y⟩:=x;simp only [look];by_cases e:k=n
    ·simp [e]
    rw [if_neg e];simp only [List.map_cons,List.mem_cons] at h;exact ih n (h.resolve_left fun h=>e h.symm)
  exact this σ.tm e.1 hm h1
 have hordI:∀ (i:Nat) (o:Oper),ops[i]? = some o→∀ e ∈ o.after.toList,Region.binds .any e=true→e.on < i:=by
  intro i o ho;have:=xM ops.toList 0 i o hord (by rw [Array.getElem?_toList];exact ho)
  simpa using this
 have key:∀ D:Nat→Bool,(∀ (j:Nat) (o':Oper),ops[j]? = some o'→D j=true→lN o' D)→∀ (i:Nat) (o:Oper),ops[i]? = some o→lN o D→∀ j ∈ td.getD i [],j < i∧D j=true:=by
  intro D hcl i;induction i using Nat.strongRecOn with
  | _ i ih =>
   intro o ho hdep j hj;have h1:=aAw ops.toList 0 i o htd (by rw [Array.getElem?_toList];exact ho)
   rw [Nat.zero_add] at h1;obtain ⟨e,he,hb,h2⟩:=h1 j hj;have hei:=hordI i o ho e he hb;rcases h2 with h2 | ⟨_,h2⟩
   ·subst h2;exact ⟨hei,hdep e he hb⟩
   have hlt:e.on < ops.size:=by have:=(Array.getElem?_eq_some_iff.1 ho).1;omega
   have hoe:ops[e.on]? = some ops[e.on]:=Array.getElem?_eq_getElem hlt;obtain ⟨h3,h4⟩:=ih e.on hei _ hoe (hcl e.on _ hoe (hdep e he hb)) j h2;exact ⟨by omega,h4⟩
 refine wp_region_any E.mixed ?_;refine aAu (C:=C) (E:=E) hp vs.length (by simpa using hm) (fun D=>⟨σ.tm ++ xT D 0 vs,aQ D 0 xs σ.bx⟩) hordI (fun i o hi ho=>?_) (fun i o hi ho D hD hcl hdep=>?_) (fun D hD a w H=>?_) ops.size _ (fun _=>false) a _ (by simp) (fun i d hi=>by simp [Array.getD,hi]) (fun _ _=>rfl) (fun _ _ _ h=>by cases h) ?_ ?_
 ·intro D hcl hdep j hj;have hlt:i < ops.size:=(Array.getElem?_eq_some_iff.1 ho).1;exact (key D hcl i o ho hdep j (wH hlast hi (by simpa using hlt) hj)).2
 ·have hget:(ops.toList.take vs.length)[i]? = some o:=by
   rw [List.getElem?_take,if_pos hi,Array.getElem?_toList];exact ho
  have hob:=rF _ 0 i o hstep hget;rw [Nat.zero_add] at hob;have hvi:vs[i]? = some (bQ vs i):=by
   unfold bQ;rw [List.getD_eq_getElem?_getD,List.getElem?_eq_getElem hi];rfl
  have hlk:∀ j,j < vs.length→look (σ.tm ++ xT D 0 vs) (bQ vs j).1=some (if D j=true then (bQ vs j).2 else .u):=by
   intro j hj;have hvj:vs[j]? = some (bQ vs j):=by
    unfold bQ;rw [List.getD_eq_getElem?_getD,List.getElem?_eq_getElem hj];rfl
   rw [pP,hfresh _ (List.mem_map.2 ⟨_,List.mem_of_getElem? hvj,rfl⟩)];have:=aCp D 0 vs j _ hnd hvj;rw [Nat.zero_add] at this;exact this
  refine hob ⟨σ.tm ++ xT D 0 vs,aQ D 0 xs σ.bx⟩ D rfl (fun n hn=>?_) ?_ ?_ hD (fun j hj=>(key D hcl i o ho hdep j hj).2) ?_ (fun e he=>?_) _ (fun σ' hσ'=>?_)
  ·show look (σ.tm ++ xT D 0 vs) n=_;rw [pP];cases h:look σ.tm n with
   | some x=>rfl
   | none=>exact wD (by rw [aAi];exact hn)
  ·-- what it leans on is done
   intro j hj;obtain ⟨h1,h2⟩:=key D hcl i o ho hdep j hj;have:=hlk j (by omega)
   rw [h2,if_pos rfl] at this;exact this
  ·have:=hlk i hi;rw [hD] at this;simpa using this
  ·intro j hj hjl;cases hDj:D j with
   | false=>rfl
   | true =>
    exfalso;have hlt:j < ops.size:=by simp only [Array.length_toList] at hm;omega
    have hoj:ops[j]? = some ops[j]:=Array.getElem?_eq_getElem hlt;have:=(key D hcl j _ hoj (hcl j _ hoj hDj) i hj).2;rw [hD] at this;cases this
  ·rcases List.mem_append.1 he with he | he
   ·exact .inr (.inl he)
   rcases aE1 D vs 0 e he with h1 | ⟨j,h1,h2,h3⟩
   ·exact .inl h1
   exact .inr (.inr ⟨j,h1,by simpa using h2,h3⟩)
  subst hσ';show (⟨_,_⟩:St)=⟨_,_⟩
  congr 1
  have hmem:bQ vs i ∈ vs:=List.mem_of_getElem? hvi;rw [aGf _ _ _ _ (hdis _ hmem)];have:=aCi D 0 vs i _ hnd hvi;rw [Nat.zero_add] at this;rw [this]
 ·have hall:xT D 0 vs=vs:=aCq D 0 vs (fun j _ hj=>hD j (by omega))
  have h2:=hend (fun σ'=>S .normal σ') (fun _ h=>h);have hallX:aQ D 0 xs σ.bx=aQ (fun _=>true) 0 xs σ.bx:=uG 0 xs _ fun j _ h=>hD j (by omega)
  simp only [hall,hallX] at H;have hpd:oX C.pin (ops.toList.drop vs.length)=true:=List.all_eq_true.2 fun o ho=>List.all_eq_true.1 hp o (List.mem_of_mem_drop ho);exact sZ (E:=E) _ _ a w _ hpd h2 H (fun σ' a' w' hS H'=>⟨σ',hS,H'⟩)
 ·exact Nat.le_trans List.countP_le_length (by simp)
 have:=H.1.pad (vs.map Prod.fst);rw [aAh,wR];rw [List.map_map] at this;exact ⟨this.drew _,H.2⟩
end Go.OM
namespace Go.OM
variable {C:Ctx} {E:Env} {Z Z':Nat→Prop} {s:StA} {σ σ':St} {S:Exit→St→Prop} {a:Act} {w:World} {c:Code}
def Cap.thaw (n:Nat) (cs:List T):Cap→Cap
 | .bx m=>if m=n then .ro (.pt cs) else .bx m
 | .ro x=>.ro x
def CapA.thaw (n b off:Nat) (cs:List TA):CapA→CapA
 | .bx m=>if m=n then .ro (.pt b off cs) else .bx m
 | .ro x=>.ro x
def AV.thaw (n:Nat) (cs:List T):AV→AV
 | .al r o p k=>if r = .box n then .u else .al r o p k
 | .ref r o p=>if r = .box n then (if p=[] then .rop cs o else .u) else .ref r o p
 | .clo f xs=>aM7 f (xs.map (Cap.thaw n cs))
 | x=>x
def AVA.thaw (n b off:Nat) (cs:List TA):AVA→AVA
 | .al r o p k=>if r = .box n then .u else .al r o p k
 | .ref r o p=>if r = .box n then (if p=[] then .rop b off cs o else .u) else .ref r o p
 | .clo f xs=>aA1 f (xs.map (CapA.thaw n b off cs))
 | x=>x
def St.thaw (n:Nat) (σ:St):Option St:=(look σ.bx n).map fun cs=>⟨σ.tm.map fun e=>(e.1,e.2.thaw n (T.roL cs)),σ.bx.filter fun e=>e.1 != n⟩
theorem aQ5 (n b off:Nat) (cs:List TA) (x:CapA):(x.thaw n b off cs).er=x.er.thaw n (TA.erL cs):=by
 cases x with
 | bx m=>by_cases h:m=n<;>simp [CapA.thaw,CapA.er,Cap.thaw,TA.er,h]
 | ro x=>rfl
theorem aRq (n b off:Nat) (cs:List TA) (x:AVA):(x.thaw n b off cs).er=x.er.thaw n (TA.erL cs):=by
 cases x with
 | al r o p k=>by_cases h:r = .box n<;>simp [AVA.thaw,AVA.er,AV.thaw,h]
 | ref r o p=>by_cases h:r = .box n<;>by_cases h2:p=[]<;>simp [AVA.thaw,AVA.er,AV.thaw,h,h2]
 | clo f xs =>
  show (aA1 f (xs.map (CapA.thaw n b off cs))).er=aM7 f ((xs.map CapA.er).map (Cap.thaw n (TA.erL cs)));rw [aL5,List.map_map,List.map_map]
  congr 1
  exact List.map_congr_left fun x _=>aQ5 n b off cs x
 | _=>rfl
theorem aQ9 (n b off k:Nat) (cs:List TA) (x:AVA):(x.thaw n b off cs).cnt k=x.cnt k:=by
 cases x with
 | al r o p k=>simp only [AVA.thaw];split<;>rfl
 | ref r o p=>simp only [AVA.thaw];split<;>(try split)<;>rfl
 | clo f xs=>simp only [AVA.thaw,aA1];split<;>rfl
 | _=>rfl
theorem uY {α:Type} (n:Nat):∀ (l:List (Nat × α)) (m:Nat),look (l.filter fun e=>e.1 != n) m=if m=n then none else look l m
 | [],m=>by simp [look]
 | e :: l,m=>by
  have ih:=uY n l m;simp only [List.filter_cons];by_cases e1:e.1=n
  ·have:(e.1 != n)=false:=by simp [e1]
   rw [this];simp only [Bool.false_eq_true,if_false,ih,look];by_cases e2:m=n
   ·rw [if_pos e2,if_pos e2]
   rw [if_neg e2,if_neg e2,if_neg (by omega)]
  have:(e.1 != n)=true:=by simpa using e1
  rw [this];simp only [if_true,look,ih];by_cases e2:e.1=m
  ·rw [if_pos e2,if_pos e2,if_neg (by omega)]
  rw [if_neg e2,if_neg e2]
theorem aEz {α:Type} (f:α→Nat) (n:Nat):∀ (l:List (Nat × α)),tot f (l.filter fun e=>e.1 != n) ≤ tot f l
 | []=>by simp [tot]
 | e :: l=>by
  have ih:=aEz f n l;simp only [List.filter_cons];split
  ·simp only [tot];omega
  simp only [tot];omega
theorem vS {α:Type} (f:α→Nat) (n:Nat) {x:α}:∀ (l:List (Nat × α)),look l n=some x→tot f (l.filter fun e=>e.1 != n) + f x ≤ tot f l
 | [],h=>by simp [look] at h
 | e :: l,h=>by
  simp only [look] at h;simp only [List.filter_cons];by_cases e1:e.1=n
  ·rw [if_pos e1] at h;injection h with h
   subst h;have:(e.1 != n)=false:=by simp [e1]
   rw [this];simp only [Bool.false_eq_true,if_false,tot];have:=aEz f n l;omega
  rw [if_neg e1] at h;have:(e.1 != n)=true:=by simpa using e1
  rw [this];have:=vS f n l h;simp only [if_true,tot];omega
theorem SRel.thaw {n:Nat} {y:BoxA} (H:SRel C Z s a w) (hPB:C.PB=[]) (hn:n < C.N) (hy:look s.bx n=some y) :
  SRel C (fun k=>Z k ∨ 0 < y.cnt k) ⟨s.tm.map fun e=>(e.1,e.2.thaw n y.b y.off (TA.roL y.cs)),s.bx.filter fun e=>e.1 != n,s.hd⟩ a w:=by
 obtain ⟨b1,b2,b3⟩:=H.bx n y hy;have hcy:=wV hy;have hcle:∀ k,(StA.mk (s.tm.map fun e=>(e.1,e.2.thaw n y.b y.off (TA.roL y.cs))) (s.bx.filter fun e=>e.1 != n) s.hd).cnt k + y.cnt k ≤ s.cnt k:=by
  intro k;have h1:=vS (BoxA.cnt k) n s.bx hy;have h2:tot (AVA.cnt k) (s.tm.map fun e=>(e.1,e.2.thaw n y.b y.off (TA.roL y.cs)))=tot (AVA.cnt k) s.tm:=by
   rw [uQ];exact congrArg (fun f=>tot f s.tm) (funext fun x=>aQ9 n y.b y.off k _ x)
  simp only [StA.cnt,h2];omega
 have hroot:∀ r,r ≠ .box n→∀ z,s.rootCells r=some z→(StA.mk (s.tm.map fun e=>(e.1,e.2.thaw n y.b y.off (TA.roL y.cs))) (s.bx.filter fun e=>e.1 != n) s.hd).rootCells r=some z:=by
  intro r hr z hz;cases r with
  | slot m =>
   simp only [StA.rootCells,bU] at hz ⊢;cases hx:look s.tm m with
   | none=>rw [hx] at hz;cases hz
   | some x =>
    rw [hx] at hz;cases x with
    | t x=>exact hz
    | _=>cases hz
  | box m =>
   simp only [StA.rootCells,uY] at hz ⊢;rw [if_neg (fun e=>hr (by rw [e]))]
   exact hz
 have hZ:∀ k,Z k→(Z k ∨ 0 < y.cnt k):=fun k h=>.inl h;have hro:TA.HoldsL (fun k=>Z k ∨ 0 < y.cnt k) w.heap (TA.roL y.cs):=TA.HoldsL.ro y.cs b2 (fun _ h=>.inl h) (fun k hk=>.inr (by simp only [BoxA.cnt];omega))
 have hmem:TA.Mem w.heap false y.b y.off 0 (TA.vals (TA.roL y.cs)):=by
  obtain ⟨cs,ety,fr,g1,g2,g3⟩:=b1;rw [TA.roL_map,TA.vals_ro];exact ⟨cs,ety,fr,g1,(fun h=>nomatch h),g3⟩
 have hZb:Z y.b ∨ 0 < y.cnt y.b:=.inr (by simp only [BoxA.cnt,if_true];omega)
 have hcell:∀ c ∈ TA.roL y.cs,c.isCell=true:=by
  intro c hc;rw [TA.roL_map] at hc;obtain ⟨d,hd,rfl⟩:=List.mem_map.1 hc;rw [TA.isCell_ro];exact b3 d hd
 have hcap:∀ (xs:List CapA) (vs:List Value),CapA.OkL s Z w.heap xs vs→CapA.OkL ⟨s.tm.map fun e=>(e.1,e.2.thaw n y.b y.off (TA.roL y.cs)),s.bx.filter fun e=>e.1 != n,s.hd⟩ (fun k=>Z k ∨ 0 < y.cnt k) w.heap (xs.map (CapA.thaw n y.b y.off (TA.roL y.cs))) vs:=by
  intro xs;induction xs with
  | nil=>intro vs h;cases vs with
   | nil=>trivial
   | cons v vs=>exact h.elim
  | cons x xs ih =>
   intro vs h;cases vs with
   | nil=>exact h.elim
   | cons v vs =>
    refine ⟨?_,ih vs h.2⟩;cases x with
    | bx m =>
     obtain ⟨base,l,ad,h1,h2,h3⟩:=h.1;simp only [CapA.thaw];by_cases e:m=n
     ·subst e;rw [if_pos rfl];simp only [StA.rootCells,hy,Option.map_some,Option.some.injEq,Prod.mk.injEq] at h1;obtain ⟨rfl,rfl⟩:=h1;simp only [TA.addrP,Nat.add_zero,Option.some.injEq,Option.map_some] at h2;subst h2;refine ⟨h3,?_,fun k=>rfl⟩;simp only [TA.Holds];exact ⟨hZb,hmem,hro,fun k=>TA.cntL_ro k y.cs,List.all_eq_true.2 hcell⟩
     rw [if_neg e];exact ⟨base,l,ad,hroot _ (fun e2=>e (by injection e2)) _ h1,h2,h3⟩
    | ro t =>
     obtain ⟨h1,h2,h3⟩:=h.1;exact ⟨h1,TA.Holds.frame t h2 hZ (fun _ _=>rfl),h3⟩
 exact {
  defers:=H.defers
  size:=H.size
  tm:=fun m x hx=>by
   simp only [bU] at hx;obtain ⟨z,hz,rfl⟩:=Option.map_eq_some_iff.1 hx;have hv:=H.tm m z hz;cases z with
   | u=>trivial
   | t z=>exact ⟨hv.1,TA.Holds.frame z hv.2 hZ (fun _ _=>rfl)⟩
   | tup zs=>exact ⟨hv.1,TA.HoldsL.frame zs hv.2 hZ (fun _ _=>rfl)⟩
   | al r o p k =>
    simp only [AVA.thaw];split
    ·trivial
    rename_i hne;obtain ⟨base,cs,l,g1,g2⟩:=hv;exact ⟨base,cs,l,hroot r hne _ g1,g2⟩
   | ref r o p =>
    simp only [AVA.thaw];split
    ·rename_i e;subst e;split
     ·rename_i e2;subst e2;obtain ⟨base,cs,ad,g1,g2,g3⟩:=hv;simp only [StA.rootCells,hy,Option.map_some,Option.some.injEq,Prod.mk.injEq] at g1;obtain ⟨rfl,rfl⟩:=g1;simp only [TA.addrP,Option.map_some,Option.some.injEq] at g2;subst g2;exact ⟨g3,hZb,hmem,hro,fun k=>TA.cntL_ro k y.cs,hcell⟩
     trivial
    rename_i hne;obtain ⟨base,cs,ad,g1,g2⟩:=hv;exact ⟨base,cs,ad,hroot r hne _ g1,g2⟩
   | rop b off cs o =>
    obtain ⟨g1,g2,g3,g4,g5⟩:=hv;exact ⟨g1,.inl g2,g3,TA.HoldsL.frame cs g4 hZ (fun _ _=>rfl),g5⟩
   | clo f xs =>
    obtain ⟨vs,g1,g2⟩:=hv;exact aKs g1 (hcap xs vs g2)
  bx:=fun m x hx=>by
   rw [uY] at hx;split at hx
   ·cases hx
   obtain ⟨g1,g2,g3⟩:=H.bx m x hx;exact ⟨g1,TA.HoldsL.frame _ g2 hZ (fun _ _=>rfl),g3⟩
  uniq:=fun k=>by have:=hcle k;have:=H.uniq k;omega
  notZ:=fun k hk hz=>by
   have h1:=hcle k;have h2:=H.uniq k;rcases hz with hz | hz
   ·exact H.notZ k (by omega) hz
   omega
  lt:=fun k hk=>H.lt k (by have:=hcle k;omega)
  zlt:=fun k hk=>by
   rcases hk with hk | hk
   ·exact H.zlt k hk
   exact H.lt k (by have:=hcy k;omega)
  own:=fun k hk=>H.own k (by have:=hcle k;omega)
  z0:=fun k h=>.inl (H.z0 k h)
  zext:=fun k hk=>by
   rcases hk with hk | hk
   ·exact H.zext k hk
   rcases H.own k (by have:=hcy k;omega) with h | h
   ·exact .inr (.inr ⟨h,fun x hx=>by rw [hPB] at hx;cases hx⟩)
   exact .inr (.inl h)
  os:=H.os
  tape:=H.tape
  output:=H.output
  grown:=H.grown
  kept:=H.kept
  part:=H.part
  pbx:=fun x hx=>by rw [hPB] at hx;cases hx
  pbo:=fun x hx=>by rw [hPB] at hx;cases hx
  pbi:=fun x hx=>by rw [hPB] at hx;cases hx
  hand:=TA.HoldsL.frame _ H.hand hZ (fun _ _=>rfl)
  pbh:=fun x hx=>by rw [hPB] at hx;cases hx
  pk:=fun x hx=>by
   obtain ⟨g1,cs,g2,g3⟩:=H.pk x hx;exact ⟨g1,cs,by rw [uY,if_neg (by omega)];exact g2,g3⟩ }
theorem SOk.thaw {n:Nat} (H:SOk C σ a w) (hPB:C.PB=[]) (hn:n < C.N) (h:σ.thaw n=some σ'):SOk C σ' a w:=by
 obtain ⟨s,Z,h1,h2,h3⟩:=H;subst h1;unfold St.thaw at h;rw [lY] at h;obtain ⟨cs,hcs,rfl⟩:=Option.map_eq_some_iff.1 h;obtain ⟨y,hy,rfl⟩:=Option.map_eq_some_iff.1 hcs;refine ⟨_,_,?_,?_,h3.thaw hPB hn hy⟩
 ·simp only [StA.er,List.map_map,St.mk.injEq];refine ⟨List.map_congr_left fun e _=>?_,?_⟩
  ·simp only [Function.comp_apply,aRq,TA.erL_ro]
  rw [List.filter_map];rfl
 exact h2
theorem O.thaw (n:Nat) (hPB:C.PB=[]) (hn:n < C.N) (h:∀ K:Option St→Prop,(∀ σ',O E C c S σ'→K (some σ'))→K (σ.thaw n)):O E C c S σ:=by
 obtain ⟨σ',h1,h2⟩:=h (fun o=>∃ σ',o=some σ'∧O E C c S σ') fun σ' h=>⟨σ',rfl,h⟩;exact fun a w H=>h2 a w ⟨H.1.thaw hPB hn h1,H.2⟩
@[simp] theorem cells_clo (f:Nat) (cs:List T):(T.clo f cs).cells=[.clo f cs]:=rfl
@[simp] theorem cells_pt (cs:List T):(T.pt cs).cells=[.pt cs]:=rfl
@[simp] theorem kOf_clo (f:Nat) (cs:List T):kOf (.clo f cs)=none:=rfl
@[simp] theorem kOf_pt (cs:List T):kOf (.pt cs)=none:=rfl
def St.freezeB (n i:Nat) (σ:St):Option St:=(look σ.bx n).bind fun cs=>(cs[i]?).map fun c=>⟨σ.tm.map fun e=>(e.1,e.2.kill (.box n)),put σ.bx n (cs.set i c.ro)⟩
theorem SRel.freezeB {n i:Nat} {y:BoxA} {c:TA} (H:SRel C Z s a w) (hy:look s.bx n=some y) (hc:y.cs[i]? = some c) :
  SRel C (fun k=>Z k ∨ 0 < c.cnt k) ⟨s.tm.map fun e=>(e.1,e.2.kill (.box n)),Go.OM.put s.bx n ⟨y.b,y.off,y.cs.set i c.ro⟩,s.hd⟩ a w:=by
 obtain ⟨b1,b2,b3⟩:=H.bx n y hy;have hcy:=wV hy;have hmem:=List.mem_of_getElem? hc;have hcs:∀ k,TA.cntL k (y.cs.set i c.ro) + c.cnt k=TA.cntL k y.cs:=fun k=>by
  have:=oQ y.cs i c c.ro k hc;rw [TA.cnt_ro] at this;omega
 have hcle:∀ k,(StA.mk (s.tm.map fun e=>(e.1,e.2.kill (.box n))) (Go.OM.put s.bx n ⟨y.b,y.off,y.cs.set i c.ro⟩) s.hd).cnt k + c.cnt k=s.cnt k:=by
  intro k;have h1:=eF (BoxA.cnt k) (x:=⟨y.b,y.off,y.cs.set i c.ro⟩) hy;have h2:tot (AVA.cnt k) (s.tm.map fun e=>(e.1,e.2.kill (.box n)))=tot (AVA.cnt k) s.tm:=by
   rw [uQ];exact congrArg (fun f=>tot f s.tm) (funext fun x=>AVA.cnt_kill _ k x)
  have h3:=hcs k;simp only [BoxA.cnt] at h1;simp only [StA.cnt,h2];have h11:∀ l,tot (fun x:BoxA=>(if x.b=k then 1 else 0) + TA.cntL k x.cs) l=tot (BoxA.cnt k) l:=fun _=>rfl;omega
 have hZ:∀ k,Z k→(Z k ∨ 0 < c.cnt k):=fun k h=>.inl h;have hlen:(y.cs.set i c.ro).length=y.cs.length:=by simp
 have hvals:TA.vals (y.cs.set i c.ro)=TA.vals y.cs:=by
  apply List.ext_getElem?;intro j;simp only [TA.vals,List.getElem?_map,List.getElem?_set];split
  ·rename_i e;subst e;split
   ·rw [hc];simp [TA.val1_ro]
   rename_i h;rw [List.getElem?_eq_none (by omega)]
   try rfl
  rfl
 have hholds:TA.HoldsL (fun k=>Z k ∨ 0 < c.cnt k) w.heap (y.cs.set i c.ro):=TA.holdsL_iff.2 fun t ht=>by
  rcases List.mem_or_eq_of_mem_set ht with h | h
  ·exact TA.Holds.frame t (TA.holdsL_iff.1 b2 t h) hZ (fun _ _=>rfl)
  rw [h];exact TA.Holds.ro c (TA.holdsL_iff.1 b2 c hmem) hZ (fun k hk=>.inr hk)
 have hcell:∀ x ∈ y.cs.set i c.ro,x.isCell=true:=by
  intro x hx;rcases List.mem_or_eq_of_mem_set hx with h | h
  ·exact b3 x h
  rw [h,TA.isCell_ro];exact b3 c hmem
 have hroot:∀ r,r ≠ .box n→∀ z,s.rootCells r=some z→(StA.mk (s.tm.map fun e=>(e.1,e.2.kill (.box n))) (Go.OM.put s.bx n ⟨y.b,y.off,y.cs.set i c.ro⟩) s.hd).rootCells r=some z:=by
  intro r hr z hz;cases r with
  | slot m =>
   simp only [StA.rootCells,bU] at hz ⊢;cases hx:look s.tm m with
   | none=>rw [hx] at hz;cases hz
   | some x =>
    rw [hx] at hz;cases x with
    | t x=>exact hz
    | _=>cases hz
  | box m =>
   simp only [StA.rootCells] at hz ⊢;rw [cM _ _ (fun e=>hr (by rw [e]))]
   exact hz
 have hself:(StA.mk (s.tm.map fun e=>(e.1,e.2.kill (.box n))) (Go.OM.put s.bx n ⟨y.b,y.off,y.cs.set i c.ro⟩) s.hd).rootCells (.box n)=some (some (y.b,y.off),y.cs.set i c.ro):=by
  simp only [StA.rootCells,bR,Option.map_some]
 have hold:s.rootCells (.box n)=some (some (y.b,y.off),y.cs):=by simp only [StA.rootCells,hy,Option.map_some]
 have href:∀ (r:Root) (o:Nat) base cs ad,s.rootCells r=some (base,cs)→TA.addrP base cs o []=some ad→∃ base' cs',(StA.mk (s.tm.map fun e=>(e.1,e.2.kill (.box n))) (Go.OM.put s.bx n ⟨y.b,y.off,y.cs.set i c.ro⟩) s.hd).rootCells r=some (base',cs')∧TA.addrP base' cs' o []=some ad:=by
  intro r o base cs ad h1 h2;by_cases hr:r = .box n
  ·subst hr;rw [hold] at h1;simp only [Option.some.injEq,Prod.mk.injEq] at h1;obtain ⟨rfl,rfl⟩:=h1;exact ⟨_,_,hself,by simpa [TA.addrP] using h2⟩
  exact ⟨base,cs,hroot r hr _ h1,h2⟩
 exact {
  defers:=H.defers
  size:=H.size
  tm:=fun m x hx=>by
   simp only [bU] at hx;obtain ⟨z,hz,rfl⟩:=Option.map_eq_some_iff.1 hx;have hv:=H.tm m z hz;cases z with
   | u=>trivial
   | t z=>exact ⟨hv.1,TA.Holds.frame z hv.2 hZ (fun _ _=>rfl)⟩
   | tup zs=>exact ⟨hv.1,TA.HoldsL.frame zs hv.2 hZ (fun _ _=>rfl)⟩
   | al r o p k =>
    simp only [AVA.kill];split
    ·trivial
    rename_i hne;obtain ⟨base,cs,l,g1,g2⟩:=hv;exact ⟨base,cs,l,hroot r hne _ g1,g2⟩
   | ref r o p =>
    simp only [AVA.kill];split
    ·trivial
    rename_i hne;obtain ⟨base,cs,ad,g1,g2,g3⟩:=hv;by_cases hr:r = .box n
    ·have hp:p=[]:=Classical.byContradiction fun h=>hne ⟨hr,h⟩;subst hp;obtain ⟨base',cs',q1,q2⟩:=href r o base cs ad g1 g2;exact ⟨base',cs',ad,q1,q2,g3⟩
    exact ⟨base,cs,ad,hroot r hr _ g1,g2,g3⟩
   | rop b off cs o =>
    obtain ⟨g1,g2,g3,g4,g5⟩:=hv;exact ⟨g1,.inl g2,g3,TA.HoldsL.frame cs g4 hZ (fun _ _=>rfl),g5⟩
   | clo f xs =>
    obtain ⟨vs,g1,g2⟩:=hv;exact ⟨vs,g1,CapA.OkL.keep hZ (fun _ _=>rfl) xs vs (fun m _ base cs ad h1 h2=>href (.box m) 0 base cs ad h1 h2) g2⟩
  bx:=fun m x hx=>by
   by_cases e:m=n
   ·subst e;rw [bR] at hx;injection hx with hx
    subst hx;refine ⟨?_,hholds,hcell⟩;simp only [hvals,hlen];exact b1
   rw [cM _ _ e] at hx;obtain ⟨g1,g2,g3⟩:=H.bx m x hx;exact ⟨g1,TA.HoldsL.frame _ g2 hZ (fun _ _=>rfl),g3⟩
  uniq:=fun k=>by have:=hcle k;have:=H.uniq k;omega
  notZ:=fun k hk hz=>by
   have h1:=hcle k;have h2:=H.uniq k;rcases hz with hz | hz
   ·exact H.notZ k (by omega) hz
   omega
  lt:=fun k hk=>H.lt k (by have:=hcle k;omega)
  zlt:=fun k hk=>by
   rcases hk with hk | hk
   ·exact H.zlt k hk
   exact H.lt k (by have:=hcle k;omega)
  own:=fun k hk=>H.own k (by have:=hcle k;omega)
  z0:=fun k h=>.inl (H.z0 k h)
  zext:=fun k hk=>by
   rcases hk with hk | hk
   ·exact H.zext k hk
   rcases H.own k (by have:=hcle k;omega) with h | h
   ·refine .inr (.inr ⟨h,fun x hx e=>?_⟩);have h1:=H.pbi x hx n y hy;have h2:=hcs x.1;rw [e] at h1 h2;omega
   exact .inr (.inl h)
  os:=H.os
  tape:=H.tape
  output:=H.output
  grown:=H.grown
  kept:=H.kept
  part:=H.part
  pbx:=fun x hx m z hz hb=>by
   by_cases e:m=n
   ·subst e;rw [bR] at hz;injection hz with hz
    subst hz;have:=H.pbx x hx m y hy hb;simpa using this
   rw [cM _ _ e] at hz;exact H.pbx x hx m z hz hb
  pbo:=fun x hx m z hz=>by
   simp only [bU] at hz;obtain ⟨u1,hu,rfl⟩:=Option.map_eq_some_iff.1 hz;rw [AVA.cnt_kill];exact H.pbo x hx m u1 hu
  pbi:=fun x hx m z hz=>by
   by_cases e:m=n
   ·subst e;rw [bR] at hz;injection hz with hz
    subst hz;have h1:=H.pbi x hx m y hy;have h2:=hcs x.1;simp only;omega
   rw [cM _ _ e] at hz;exact H.pbi x hx m z hz
  hand:=TA.HoldsL.frame _ H.hand hZ (fun _ _=>rfl)
  pbh:=H.pbh
  pk:=fun x hx=>by
   obtain ⟨g1,cs,g2,g3⟩:=H.pk x hx;by_cases e:x.1=n
   ·rw [e,hy] at g2;injection g2 with g2
    refine ⟨g1,y.cs.set i c.ro,?_,by rw [hlen];rw [g2];exact g3⟩
    rw [e,bR];rw [g2]
   exact ⟨g1,cs,by rw [cM _ _ e];exact g2,g3⟩ }
theorem SOk.freezeB {n i:Nat} (H:SOk C σ a w) (h:σ.freezeB n i=some σ'):SOk C σ' a w:=by
 obtain ⟨s,Z,h1,h2,h3⟩:=H;subst h1;unfold St.freezeB at h;rw [lY] at h;obtain ⟨cs,hcs,h⟩:=Option.bind_eq_some_iff.1 h;obtain ⟨y,hy,rfl⟩:=Option.map_eq_some_iff.1 hcs;obtain ⟨c,hc,rfl⟩:=Option.map_eq_some_iff.1 h;rw [TA.erL_map,List.getElem?_map] at hc;obtain ⟨cA,hcA,rfl⟩:=Option.map_eq_some_iff.1 hc;refine ⟨_,_,?_,?_,h3.freezeB hy hcA⟩
 ·simp only [StA.er,List.map_map,St.mk.injEq];refine ⟨List.map_congr_left fun e _=>?_,?_⟩
  ·simp only [Function.comp_apply,AVA.er_kill]
  rw [pH (fun x:BoxA=>TA.erL x.cs)];simp only [TA.erL_map,List.map_set,TA.er_ro]
 exact h2
theorem O.freezeB (n i:Nat) (h:∀ K:Option St→Prop,(∀ σ',O E C c S σ'→K (some σ'))→K (σ.freezeB n i)):O E C c S σ:=by
 obtain ⟨σ',h1,h2⟩:=h (fun o=>∃ σ',o=some σ'∧O E C c S σ') fun σ' h=>⟨σ',rfl,h⟩;exact fun a w H=>h2 a w ⟨H.1.freezeB h1,H.2⟩
theorem O.postB (n i:Nat) (h:O E C c (fun e σ'=>match e with
 | .normal=>∀ K2:Option St→Prop,(∀ σ2,S .normal σ2→K2 (some σ2))→K2 (σ'.freezeB n i)
 | e=>S e σ') σ):O E C c S σ:=by
 intro a w H;refine Code.wp_mono (fun e a w ⟨σ',g1,g2⟩=>?_) (h a w H);cases e with
 | normal =>
  obtain ⟨σ2,q1,q2⟩:=g1 (fun o=>∃ σ2,o=some σ2∧S .normal σ2) fun σ2 h2=>⟨σ2,rfl,h2⟩;exact ⟨σ2,q2,g2.1.freezeB q1,g2.2⟩
 | _=>exact ⟨σ',g1,g2⟩
@[simp] theorem cap_at_bx (r:Root) (n:Nat):Cap.at r (.bx n)=decide (r = .box n):=rfl
@[simp] theorem cap_at_ro (r:Root) (x:T):Cap.at r (.ro x)=false:=rfl
@[simp] theorem filt_cons {α:Type} (n m:Nat) (x:α) (l:List (Nat × α)):List.filter (fun e=>e.1 != n) ((m,x) :: l)=if m=n then List.filter (fun e=>e.1 != n) l else (m,x) :: List.filter (fun e=>e.1 != n) l:=by
 by_cases h:m=n<;>simp [h]
attribute [simp] St.freezeB Cap.kept Cap.thaw Cap.pts aM7 AV.thaw St.thaw
end Go.OM
