import Derived.Test.YtgcgpnhokjhghabGreatDoorW1
import Derived.Test.YtgcgpnhokjhghabGreatDoorW10
import Derived.Test.YtgcgpnhokjhghabGreatDoorW14
import Derived.Test.YtgcgpnhokjhghabGreatDoorW17
import Derived.Test.YtgcgpnhokjhghabGreatDoorW2
import Derived.Test.YtgcgpnhokjhghabGreatDoorW22
import Derived.Test.YtgcgpnhokjhghabGreatDoorW23
import Derived.Test.YtgcgpnhokjhghabGreatDoorW3
set_option linter.unusedVariables false
set_option linter.unusedSimpArgs false
set_option linter.unusedVariables false
set_option linter.unusedSimpArgs false
set_option maxHeartbeats 8000000
set_option maxRecDepth 100000
namespace Go.Proofs.T
open Go.OM
section
attribute [local irreducible] Hg O St.wps aO iB Lv Ct Lp VL Option.bind aP sAt eK bN bO mkI eS fO bF aI ite Dr
instance e15_:Ent E 15:=aY Tryz.func15
instance c15_ (p1:GProgram) (a0:Int) {r0:List Int}:Con E 15 (gG p1 a0=some r0) [.val (GProgram.enc false p1),.val (vi a0)] [.sl true 1 (List.map vi r0)] []:=by
 refine eZ Tryz.func15 fun C q=>?_;unfold gG;repeat' first | refine And.intro ?_ ?_ | refine Prod.forall.2 ?_ | (intro _;try dsimp only) | refine eY ?_ | exact Z | refine bG 8016 [2,5,6,29,30,31] [2] (fun v=>[(5,.t (.sl true 1 (List.map vi v.1))),(31,.t (vi v.2))]) (fun _=>[]) (by unfold iE;rfl) ?_ | refine cG 7021 [2,5,6] [2] (fun v=>[(5,.t (.sl true 1 (List.map vi v)))]) (fun _=>[]) ?_ | refine bG 5029 [2,5,6] [2] (fun v=>[(5,.t (.sl true 1 (List.map vi v.1))),(6,.t (vi v.2))]) (fun _=>[]) (by unfold iF;rfl) ?_ | refine cG 4033 [5] [] (fun v=>[(5,.t (.sl true 1 (List.map vi v)))]) (fun _=>[]) ?_ | refine S ?_
instance e13_:Ent E 13:=aY Tryz.func13
instance c13_ (p1:GProgram) (a0:Int) {r0:List Int}:Con E 13 (nA p1 a0=some r0) [.val (GProgram.enc false p1),.val (vi a0)] [.sl true 1 (List.map vi r0)] []:=by
 refine eZ Tryz.func13 fun C q=>?_;unfold nA;repeat' first | refine And.intro ?_ ?_ | refine Prod.forall.2 ?_ | (intro _;try dsimp only) | refine eY ?_ | exact Z | refine bG 3016 [1,2,5,9,10] [2] (fun v=>[(5,.t (.sl true 1 (List.map vi v.1))),(10,.t (vi v.2))]) (fun _=>[]) (by unfold jD;rfl) ?_ | refine cG 2020 [5] [] (fun v=>[(5,.t (.sl true 1 (List.map vi v)))]) (fun _=>[]) ?_ | refine S ?_
instance e45_:Ent E 45:=aY Tryz.func45
instance c45_ (p1:GProgram) {r0:Bool}:Con E 45 (lK p1=some r0) [.val (GProgram.enc false p1)] [vb r0] []:=by
 refine eZ Tryz.func45 fun C q=>?_;unfold lK;repeat' first | refine And.intro ?_ ?_ | refine Prod.forall.2 ?_ | (intro _;try dsimp only) | refine eY ?_ | exact Z | refine bG 10012 [1,3,4,5,14,15,16,26,27,28] [1,4] (fun v=>[(5,.t (.sl true 1 (List.map vs v.1))),(28,.t (vi v.2))]) (fun _=>[]) (by unfold fE;rfl) ?_ | refine cG 9016 [1,3,4,5,14,15,16] [1,4] (fun v=>[(5,.t (.sl true 1 (List.map vs v)))]) (fun _=>[]) ?_ | refine bG 17016 [1,3,4,5,14,15,16,51,52,53] [1,4] (fun v=>[(5,.t (.sl true 1 (List.map vs v.1))),(53,.t (vi v.2))]) (fun _=>[]) (by unfold fD;rfl) ?_ | refine cG 16020 [1,3,4,5,14,15,16] [1,4] (fun v=>[(5,.t (.sl true 1 (List.map vs v)))]) (fun _=>[]) ?_ | refine cR 22 [1,14,15,16,85] [1] (fun v=>[(85,.t (vb v))]) (fun _=>[]) ?_ | refine eW 5066 [1,14,15,16] [1] (fun _=>[]) (fun _=>[]) ?_ | refine bG 4074 [1,14,15,16] [1] (fun v=>[(16,.t (vi v))]) (fun _=>[]) (by unfold iG;rfl) ?_ | refine eW 3078 [] [] (fun _=>[]) (fun _=>[]) ?_ | refine S ?_
abbrev K46 (f:GProgram→Int→Option (Int)):Prop:=∀ (a0:GProgram) (a1:Int) (r0:Int),Con E 46 (f a0 a1=some r0) [.val (GProgram.enc false a0),.val (vi a1)] [vi r0] []
instance e46_:Ent E 46:=aY Tryz.func46
theorem aDv (a0:GProgram→Int→Option (Int)) (a1:K46 a0):K46 (qJ a0):=by
 intro p1 a2 r0;refine eZ Tryz.func46 fun C q=>?_;unfold qJ;repeat' first | refine And.intro ?_ ?_ | refine Prod.forall.2 ?_ | (intro _;try dsimp only) | refine eY ?_ | exact Z | refine bG 3012 [2,5,10,11,12] [2] (fun v=>[(5,.t (vi v.1)),(12,.t (vi v.2))]) (fun _=>[]) (by unfold mA;rfl) ?_ | refine cG 2016 [5] [] (fun v=>[(5,.t (vi v))]) (fun _=>[]) ?_ | refine S ?_
theorem uD:∀ n:Nat,K46 (fR n)
 | 0=>(fun _ _ _=>Con.mk fun h=>nomatch h)
 | n + 1=>aDv _ (uD n)
instance c46_:K46 aBk:=(uD bL)
instance e16_:Ent E 16:=aY Tryz.func16
instance c16_ (p1:GProgram) (a0:Int) {r0:List Int}:Con E 16 (gC p1 a0=some r0) [.val (GProgram.enc false p1),.val (vi a0)] [.sl true 1 (List.map vi r0)] []:=by
 refine eZ Tryz.func16 fun C q=>?_;unfold gC;repeat' first | refine And.intro ?_ ?_ | refine Prod.forall.2 ?_ | (intro _;try dsimp only) | refine eY ?_ | exact Z | refine bG 12016 [2,5,6,7,8,9,10] [2] (fun v=>[(6,.t (.sl true 1 (List.map vb v.1))),(7,.t (.sl true 1 (List.map vi v.2.1))),(10,.t (vi v.2.2))]) (fun _=>[]) (by unfold gY;rfl) ?_ | refine cG 10023 [2,5,6,7,8] [2] (fun v=>[(6,.t (.sl true 1 (List.map vb v.1))),(7,.t (.sl true 1 (List.map vi v.2)))]) (fun _=>[]) ?_ | refine bG 8031 [2,5,6,7,8] [2] (fun v=>[(6,.t (.sl true 1 (List.map vb v.1))),(7,.t (.sl true 1 (List.map vi v.2.1))),(8,.t (vi v.2.2))]) (fun _=>[]) (by unfold gZ;rfl) ?_ | refine cG 7035 [5,6] [] (fun v=>[(6,.t (.sl true 1 (List.map vb v)))]) (fun _=>[]) ?_ | refine bG 18014 [5,6,11] [] (fun v=>[(5,.t (.sl true 1 (List.map vi v.1))),(11,.t (vi v.2))]) (fun _=>[]) (by unfold gX;rfl) ?_ | refine cG 17018 [5] [] (fun v=>[(5,.t (.sl true 1 (List.map vi v)))]) (fun _=>[]) ?_ | refine S ?_
instance e14_:Ent E 14:=aY Tryz.func14
instance c14_ (p1:GProgram) (a0:Int) {r0:List Int}:Con E 14 (mO p1 a0=some r0) [.val (GProgram.enc false p1),.val (vi a0)] [.sl true 1 (List.map vi r0)] []:=by
 refine eZ Tryz.func14 fun C q=>?_;unfold mO;repeat' first | refine And.intro ?_ ?_ | refine Prod.forall.2 ?_ | (intro _;try dsimp only) | refine eY ?_ | exact Z | refine bG 7014 [1,2,5,6,7,8] [2] (fun v=>[(5,.t (.sl true 1 (List.map vi v.1))),(8,.t (vi v.2))]) (fun _=>[]) (by unfold eP;rfl) ?_ | refine cG 5021 [1,2,5,6] [2] (fun v=>[(5,.t (.sl true 1 (List.map vi v)))]) (fun _=>[]) ?_ | refine bG 3029 [1,2,5,6] [2] (fun v=>[(5,.t (.sl true 1 (List.map vi v.1))),(6,.t (vi v.2))]) (fun _=>[]) (by unfold iV;rfl) ?_ | refine cG 2033 [5] [] (fun v=>[(5,.t (.sl true 1 (List.map vi v)))]) (fun _=>[]) ?_ | refine S ?_
instance e21_:Ent E 21:=aY Tryz.func21
instance c21_ (p1:GProgram) {r0:Int}:Con E 21 (pY p1=some r0) [.val (GProgram.enc false p1)] [vi r0] []:=by
 refine eZ Tryz.func21 fun C q=>?_;unfold pY;repeat' first | refine And.intro ?_ ?_ | refine Prod.forall.2 ?_ | (intro _;try dsimp only) | refine eY ?_ | exact Z | refine cG 12001 [1,3,4,5,6,53] [1] (fun v=>[(53,.t (vb v))]) (fun _=>[]) ?_ | refine bG 10014 [1,3,4,5,6] [1] (fun v=>[(3,.t (.sl true 1 (List.map vi v.1))),(6,.t (vi v.2))]) (fun _=>[]) (by unfold iU;rfl) ?_ | refine cG 7023 [1,3,4] [1] (fun v=>[(3,.t (.sl true 1 (List.map vi v)))]) (fun _=>[]) ?_ | refine bG 5031 [1,3,4] [1] (fun v=>[(3,.t (.sl true 1 (List.map vi v.1))),(4,.t (vi v.2))]) (fun _=>[]) (by unfold lC;rfl) ?_ | refine cG 4035 [3] [] (fun v=>[(3,.t (.sl true 1 (List.map vi v)))]) (fun _=>[]) ?_ | refine S ?_
end
theorem aR7:Tryz.f69.results.toList=[.cell 2 27,.tmp 3]:=rfl
theorem ent69:dR E.P 69:=eO Tryz.func69 (by simp [Tryz.f69]) rfl
instance c69_ (t1:ByteArray) {r0:GProgram} {r1:Bool}:Con E 69 (cT t1=some (r0,r1)) [.val (vs t1)] [GProgram.enc true r0,vb r1] []:=Con.mk fun h=>by
 refine oB Tryz.func69 rfl (by simp [Tryz.f69]) fun C (q:C.N=66) hP=>?_
 have y:=zW hP;unfold cT at h
 iterate 6 first|refine aH q ?_|apply wN|refine O.zS y ?_
 obtain ⟨⟨r2,r3⟩,d6,h⟩:=bS h;try dsimp only at h
 refine fP [(.take,.tmp 9)] q (Ent.ok (E:=E) (f:=89)) (Con.ok d6) ?_
 iterate 5 refine aH q ?_
 apply wN;refine O.seq ?_;refine O.zS y ?_
 iterate 2 refine aH q ?_
 apply wN;refine O.cI h (fun e7 h=>?_) fun e8 h=>?_
 ·refine O.zS y ?_
  iterate 3 refine aH q ?_
  apply wN;cases h;refine O.ret ?_;simp [aO,iB,aR7]
 iterate 12 first|refine aH q ?_|apply wN|refine O.zS y ?_|refine O.skip ?_
 obtain ⟨⟨c4,c0⟩,d7,h⟩:=bS h;try dsimp only at h
 refine O.seqC [2,6,7] [2,7,18] (fun _:Unit=>⟨[(2,.ref (.box 2) 0 []),(6,.ref (.box 18) 0 []),(7,.ref (.box 7) 0 [])],[(2,[.sl true 4 [],.sl true 5 []]),(7,[.sl true 4 (List.map (GNode.enc true) c4.Nodes),.sl true 5 (List.map (GFn.enc true) c4.Fns)]),(18,[.sl true 3 (List.map GSign.enc c0.list),vi c0.at_,vb c0.bad,vi c0.deep,.sl true 4 (List.map (GNode.enc true) c0.nodes)])]⟩) (fun _=>True) (fun _ _=>?_) fun K8 d8=>?_;rotate_left
 ·refine O.block ?_;refine O.loopO [] [2,6,7] [2,7,18] (fun v:GProgram × Gl05Read=>⟨[(2,.ref (.box 2) 0 []),(6,.ref (.box 18) 0 []),(7,.ref (.box 7) 0 [])],[(2,[.sl true 4 [],.sl true 5 []]),(7,[.sl true 4 (List.map (GNode.enc true) v.1.Nodes),.sl true 5 (List.map (GFn.enc true) v.1.Fns)]),(18,[.sl true 3 (List.map GSign.enc v.2.list),vi v.2.at_,vb v.2.bad,vi v.2.deep,.sl true 4 (List.map (GNode.enc true) v.2.nodes)])]⟩) (eN) _ ((⟨[],[]⟩:GProgram),(⟨r2,0,false,0,[]⟩:Gl05Read)) d7 (by simp [q]) ?_
  intro g e9 a9 c5;obtain ⟨c6,b0⟩:=g;simp only [eN] at a9;try dsimp only
  refine O.seq ?_;obtain ⟨d9,a3,a9⟩:=bS a9;refine O.seqC [2,6,7,42] [2,7,18] (fun _:Unit=>⟨[(2,.ref (.box 2) 0 []),(6,.ref (.box 18) 0 []),(7,.ref (.box 7) 0 []),(42,.t (vb d9))],[(2,[.sl true 4 [],.sl true 5 []]),(7,[.sl true 4 (List.map (GNode.enc true) c6.Nodes),.sl true 5 (List.map (GFn.enc true) c6.Fns)]),(18,[.sl true 3 (List.map GSign.enc b0.list),vi b0.at_,vb b0.bad,vi b0.deep,.sl true 4 (List.map (GNode.enc true) b0.nodes)])]⟩) (fun _=>True) (fun _ _=>?_) fun g0 b8=>?_;rotate_left
  ·rcases mD a3 with ⟨a4,a3⟩ | ⟨a2,a3⟩
   ·have a1:=a4;try simp at a1
    refine O.dT rfl (y _ rfl) (en 20 [rf 18 0,rf 18 0,rf 18 2,.t (vb b0.bad),.t (vb (!b0.bad)),.t (vb (!b0.bad)),rf 18 0,rf 18 0,rf 18 1,.t (vi b0.at_),rf 18 0,rf 18 0,rf 18 0,.al (.box 18) 0 [] none,.t (vi (b0.list.length:Int))]) [[],[0],[0,1],[0,1,2],rg 0 4,rg 0 5,rg 0 6,rg 0 7,rg 0 8,rg 0 9,rg 0 6,rg 0 6++[10],rg 0 6++[10,11],rg 0 6++[10,11,12],rg 0 6++rg 10 4,rg 0 15,rg 0 16,rg 0 17,rg 0 18,rg 0 19,rg 0 20,rg 0 21,rg 0 22] (by simp) (by simp) (by simp [look]) rfl rfl rfl ?_ fun K w=>?_
    ·refine ⟨?_,?_,?_,?_,?_,?_,?_,?_,?_,?_,?_,?_,?_,?_,?_,trivial⟩;all_goals (intro τ hbx hb hd hf K w;try simp [bQ] at hd;simp [bQ] at hf;first | (refine wC rfl fun K' z=>?_;simp [q,hbx,hb,hd,hf,a4,a1];exact z _ (wN (w _ (by simp [bQ,hbx,a4,a1])))))
    iterate 3 (refine aH q ?_ rfl (by simp [a4,a1];rfl))
    rcases mD a3 with ⟨b9,a3⟩ | ⟨b3,a3⟩
    ·have b1:=b9;try simp at b1
     iterate 5 (refine aH q ?_ rfl (by simp [a4,a1,b9,b1];rfl))
     apply wN;apply w;cases a3;exact b8 _ () [] trivial (by simp [q,a4,a1,b9,b1])
    have a7:=b3;try simp at a7
    iterate 4 (refine wO fun K r=>?_;simp [q,a4,a1,b3,a7];apply r)
    refine aH q ?_ rfl (by simp [a4,a1,b3,a7];rfl)
    apply wN;apply w;cases a3;exact b8 _ () [] trivial (by simp [q,a4,a1,b3,a7])
   have a0:=a2;try simp at a0
   refine O.dT rfl (y _ rfl) (en 20 [rf 18 0,rf 18 0,rf 18 2,.t (vb b0.bad),.t (vb (!b0.bad)),.t (vb (!b0.bad)),.tup [],.tup [],.tup [],.tup [],.tup [],.tup [],.tup [],.tup [],.tup []]) [[],[0],[0,1],[0,1,2],rg 0 4,rg 0 5,rg 0 6,rg 0 7,rg 0 8,rg 0 9,rg 0 6,rg 0 6++[10],rg 0 6++[10,11],rg 0 6++[10,11,12],rg 0 6++rg 10 4,rg 0 15,rg 0 16,rg 0 17,rg 0 18,rg 0 19,rg 0 20,rg 0 21,rg 0 22] (by simp) (by simp) (by simp [look]) rfl rfl rfl ?_ fun K w=>?_
   ·refine ⟨?_,?_,?_,?_,?_,?_,?_,?_,?_,?_,?_,?_,?_,?_,?_,trivial⟩;all_goals (intro τ hbx hb hd hf K w;try simp [bQ] at hd;simp [bQ] at hf;first | (refine wC rfl fun K' z=>?_;simp [q,hbx,hb,hd,hf,a2,a0];exact z _ (wN (w _ (by simp [bQ,hbx,a2,a0])))) | (refine wO fun K' z=>?_;simp [q,hbx,hb,hd,hf,a2,a0];exact z _ (wN (w _ (by simp [bQ,hbx,a2,a0])))))
   refine wO fun K r=>?_;simp [q,a2,a0];apply r
   iterate 2 (refine aH q ?_ rfl (by simp [a2,a0];rfl))
   iterate 4 (refine wO fun K r=>?_;simp [q,a2,a0];apply r)
   refine aH q ?_ rfl (by simp [a2,a0];rfl)
   apply wN;apply w;cases a3;exact b8 _ () [] trivial (by simp [q,a2,a0])
  refine O.cI a9 (fun e0 a9=>?_) fun e1 a9=>?_
  ·refine O.skip ?_;refine O.block ?_;obtain ⟨⟨c7,c1⟩,c8,a9⟩:=bS a9;try dsimp only at a9
   refine O.drawX2 rfl (y _ rfl) [43,44,45,46,47] [[(43,.ref (.box 7) 1 [])],[(44,.al (.box 7) 1 [] none)],[(45,.ref (.box 18) 0 [])],[(46,.t (GFn.enc true c7))],[(47,.t (.sl true 5 (List.map (GFn.enc true) [c7]))),(46,.u)]] [[],[],[],[(18,[.sl true 3 (List.map GSign.enc c1.list),vi c1.at_,vb c1.bad,vi c1.deep,.sl true 4 (List.map (GNode.enc true) c1.nodes)])],[]] [[],[0],[],[2],[2,3],rg 0 5,rg 0 6,rg 0 7] rfl (by simp) rfl rfl rfl ?_ fun K w=>?_
   ·refine ⟨?_,?_,?_,?_,?_,trivial⟩
    ·refine aG rfl rfl rfl ?_;intro τ D hbx hl d0 g1 g2 K w;cases d3:D 3<;>(simp [aQ,aX,d0,d3] at hbx;refine wC rfl fun K' z=>?_;simp [q,hbx,hl,bW,bV,look,d0,d3];exact z _ (wN (w _ (by simp [cN,aQ,aX,bY,hbx,d0,d3]))))
    ·refine aG rfl rfl rfl ?_;intro τ D hbx hl d1 g1 g2 K w;have d0:=g1 0 (by simp)
     cases d3:D 3<;>(simp [aQ,aX,d0,d1,d3] at hbx;refine wC rfl fun K' z=>?_;simp [q,hbx,hl,bW,bV,look,d0,d1,d3];exact z _ (wN (w _ (by simp [cN,aQ,aX,bY,hbx,d0,d1,d3]))))
    ·refine aG rfl rfl rfl ?_;intro τ D hbx hl d2 g1 g2 K w;have d3:=g2 3 (by simp) (by simp)
     (simp [aQ,aX,d2,d3] at hbx;refine wC rfl fun K' z=>?_;simp [q,hbx,hl,bW,bV,look,d2,d3];exact z _ (wN (w _ (by simp [cN,aQ,aX,bY,hbx,d2,d3]))))
    ·intro D d3 g1 g2 gc;have d2:D 2=true:=g1 2 (by simp)
     have d4:D 4=false:=g2 4 (by simp) (by simp)
     have p1_0:D 1=true→D 0=true:=fun h=>gc 1 0 h (by simp) (by simp)
     cases d0:D 0<;>cases d1:D 1<;>(simp [d1,d0] at p1_0)<;>(intro K w;simp [nP,cN,bY,aQ,aX,d0,d1,d2,d3,d4] at w ⊢;refine wL [((.ptr 5),.tmp 45)] rfl rfl (Ent.ok (E:=E) (f:=90)) (Con.ok c8) fun K' z=>?_;simp [q];refine z _ (wN ?_);first | exact w | simpa using w)
    intro D d4 g1 g2 gc;have d2:D 2=true:=g1 2 (by simp)
    have d3:D 3=true:=g1 3 (by simp)
    have p1_0:D 1=true→D 0=true:=fun h=>gc 1 0 h (by simp) (by simp)
    cases d0:D 0<;>cases d1:D 1<;>(simp [d1,d0] at p1_0)<;>(intro K w;simp [nP,cN,bY,aQ,aX,d0,d1,d2,d3,d4] at w ⊢;refine wC rfl fun K' z=>?_;simp [q];refine z _ (wN ?_);first | exact w | simpa using w)
   simp [nP,cN,aQ,aX];obtain ⟨e2,c9,a9⟩:=bS a9;obtain ⟨b5,b6,c2⟩:=aS c9;have b7:List.map (GFn.enc true) c6.Fns ++ List.map (GFn.enc true) [c7]=List.map (GFn.enc true) e2:=kG (f:=(GFn.enc true)) c2;simp [eSl,GFn.enc] at b5 b6 b7
   iterate 3 (refine aH q ?_ rfl (by simp [b5,b6,b7];rfl))
   apply wN;apply w;cases a9;exact ⟨_,[],rfl,by simp [q]⟩
  refine O.exit ?_;have e3:=congrArg some (c5 _ (Option.some.inj a9).symm);cases e3;exact d8 _ () [] trivial (by simp [q])
 refine O.zS y ?_
 iterate 6 refine aH q ?_
 apply wN;refine O.seq ?_;obtain ⟨e4,a6,h⟩:=bS h;refine O.seqRC rfl (y _ rfl) [2,7,63] [2,7] (fun _:Unit=>⟨[(2,.ref (.box 2) 0 []),(7,.ref (.box 7) 0 []),(63,.t (vb e4))],[(2,[.sl true 4 [],.sl true 5 []]),(7,[.sl true 4 (List.map (GNode.enc true) c0.nodes),.sl true 5 (List.map (GFn.enc true) c4.Fns)])]⟩) (fun _=>True) (fun _ _=>?_) fun g3 c3=>?_;rotate_left
 ·refine aH q ?_
  iterate 4 refine aH q ?_
  rcases mD a6 with ⟨b4,a6⟩ | ⟨b2,a6⟩
  ·have a8:=b4;try simp at a8
   iterate 3 (refine wO fun K r=>?_;simp [q,b4,a8];apply r)
   refine aH q ?_ rfl (by simp [b4,a8];rfl)
   refine wN ?_;cases a6;exact c3 _ () [] trivial (by simp [q,b4,a8])
  have a5:=b2;try simp at a5
  refine aH q ?_ rfl (by simp [b2,a5];rfl)
  obtain ⟨g4,d5,a6⟩:=bS a6;refine fP [(.bor,.tmp 60)] q aRt (Con.ok d5) ?_ rfl rfl (by simp [b2,a5];rfl)
  iterate 2 (refine aH q ?_ rfl (by simp [b2,a5];rfl))
  refine wN ?_;cases a6;exact c3 _ () [] trivial (by simp [q,b2,a5])
 refine O.cI h (fun e5 h=>?_) fun e6 h=>?_
 ·refine O.zS y ?_
  iterate 3 refine aH q ?_
  apply wN;cases h;refine O.ret ?_;simp [aO,iB,aR7]
 refine O.skip ?_;refine O.zS y ?_
 iterate 3 refine aH q ?_
 apply wN;cases h;refine O.ret ?_;simp [aO,iB,aR7]
instance e69_:Ent E 69:=⟨ent69⟩
end Go.Proofs.T
