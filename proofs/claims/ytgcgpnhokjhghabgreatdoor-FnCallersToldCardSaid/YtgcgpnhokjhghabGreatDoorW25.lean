import Derived.Test.YtgcgpnhokjhghabGreatDoorW1
import Derived.Test.YtgcgpnhokjhghabGreatDoorW11
import Derived.Test.YtgcgpnhokjhghabGreatDoorW14
import Derived.Test.YtgcgpnhokjhghabGreatDoorW17
import Derived.Test.YtgcgpnhokjhghabGreatDoorW2
import Derived.Test.YtgcgpnhokjhghabGreatDoorW23
import Derived.Test.YtgcgpnhokjhghabGreatDoorW24
import Derived.Test.YtgcgpnhokjhghabGreatDoorW7
import Derived.Test.YtgcgpnhokjhghabGreatDoorW9
set_option linter.unusedVariables false
set_option linter.unusedSimpArgs false
set_option linter.unusedVariables false
set_option linter.unusedSimpArgs false
set_option maxHeartbeats 8000000
set_option maxRecDepth 100000
namespace Go.Proofs.T
open Go.OM
section
attribute [local irreducible] Hg O St.wps aO iB Lv Ct Lp VL Option.bind aP sAt eK bN bO mkI eS fO bF aI ite Dr
instance e17_:Ent E 17:=aY Tryz.func17
instance c17_ (p1:GProgram) {r0:List Int}:Con E 17 (qN p1=some r0) [.val (GProgram.enc false p1)] [.sl true 1 (List.map vi r0)] []:=by
 refine eZ Tryz.func17 fun C q=>?_;unfold qN;repeat' first | refine And.intro ?_ ?_ | refine Prod.forall.2 ?_ | (intro _;try dsimp only) | refine eY ?_ | exact Z | refine bG 4016 [3,4,14,15] [] (fun v=>[(4,.t (.sl true 1 (List.map vi v.1))),(15,.t (vi v.2))]) (fun _=>[]) (by unfold lL;rfl) ?_ | refine cG 3020 [4] [] (fun v=>[(4,.t (.sl true 1 (List.map vi v)))]) (fun _=>[]) ?_ | refine S ?_
instance e20_:Ent E 20:=aY Tryz.func20
instance c20_ (p1:GProgram) {r0:Int}:Con E 20 (qO p1=some r0) [.val (GProgram.enc false p1)] [vi r0] []:=by
 refine eZ Tryz.func20 fun C q=>?_;unfold qO;repeat' first | refine And.intro ?_ ?_ | refine Prod.forall.2 ?_ | (intro _;try dsimp only) | refine eY ?_ | exact Z | refine S ?_
instance e8_:Ent E 8:=aY Tryz.func8
instance c8_ (p1:GProgram) {r0:GProgram} {r1:Bool}:Con E 8 (nZ p1=some (r0,r1)) [.val (GProgram.enc false p1)] [GProgram.enc true r0,vb r1] []:=by
 refine eZ Tryz.func8 fun C q=>?_;unfold nZ;repeat' first | refine And.intro ?_ ?_ | refine Prod.forall.2 ?_ | (intro _;try dsimp only) | refine eY ?_ | exact Z | refine bG 6010 [1,2,4,5,6] [1,2,4] (fun v=>[(6,.t (vi v.1))]) (fun v=>[(4,[.sl false 4 (List.map (GNode.enc false) v.2.Nodes),.sl true 5 (List.map (GFn.enc false) v.2.Fns)])]) (by unfold jU;rfl) ?_ | refine cG 5014 [1,2,4] [1,2,4] (fun _=>[]) (fun v=>[(4,[.sl false 4 (List.map (GNode.enc false) v.Nodes),.sl true 5 (List.map (GFn.enc false) v.Fns)])]) ?_ | refine S ?_
instance e18_:Ent E 18:=aY Tryz.func18
instance c18_ (p1:GProgram) {r0:List Int}:Con E 18 (pX p1=some r0) [.val (GProgram.enc false p1)] [.sl true 1 (List.map vi r0)] []:=by
 refine eZ Tryz.func18 fun C q=>?_;unfold pX;repeat' first | refine And.intro ?_ ?_ | refine Prod.forall.2 ?_ | (intro _;try dsimp only) | refine eY ?_ | exact Z | refine cR 7 [1,3,4,5,6,32] [1] (fun v=>[(32,.t (vb v))]) (fun _=>[]) ?_ | refine bG 5014 [1,3,4,5,6] [1] (fun v=>[(3,.t (.sl true 1 (List.map vi v.1))),(5,.t (vi v.2.1)),(6,.t (vi v.2.2))]) (fun _=>[]) (by unfold gD;rfl) ?_ | refine cG 4018 [3] [] (fun v=>[(3,.t (.sl true 1 (List.map vi v)))]) (fun _=>[]) ?_ | refine S ?_
instance e48_:Ent E 48:=aY Tryz.func48
instance c48_ (c1:Gl01Cur) {r0:GProgram} {q0:Gl01Cur}:Con E 48 (kL c1=some (r0,q0)) [.ptr [.sl false 1 (List.map (vk .u8) c1.b),vi c1.i,vi c1.h]] [GProgram.enc true r0] [[.sl false 1 (List.map (vk .u8) q0.b),vi q0.i,vi q0.h]]:=by
 refine eZ Tryz.func48 fun C q=>?_;unfold kL;repeat' first | refine And.intro ?_ ?_ | refine Prod.forall.2 ?_ | (intro _;try dsimp only) | refine eY ?_ | exact Z | refine S ?_
end
theorem res7:Tryz.f7.results.toList=[.cell 2 27,.tmp 3]:=rfl
theorem ent7:dR E.P 7:=eO Tryz.func7 (by simp [Tryz.f7]) rfl
instance c7_ (p1:GProgram) {r0:GProgram} {r1:Bool}:Con E 7 (oL p1=some (r0,r1)) [.val (GProgram.enc false p1)] [GProgram.enc true r0,vb r1] []:=Con.mk fun h=>by
 refine oB Tryz.func7 rfl (by simp [Tryz.f7]) fun C (q:C.N=50) hP=>?_
 have y:=zW hP;unfold oL at h;refine O.zS y ?_
 iterate 3 refine aH q ?_
 apply wN;refine O.seq ?_;refine O.zS y ?_;refine aH q ?_;obtain ⟨r2,c7,h⟩:=bS h;refine fP [(.take,.tmp 9)] q (Ent.ok (E:=E) (f:=27)) (Con.ok c7) ?_;refine aH q ?_;apply wN;refine O.cI h (fun e7 h=>?_) fun e8 h=>?_
 ·refine O.zS y ?_;refine aH q ?_;obtain ⟨r6,c8,h⟩:=bS h;refine fP [(.take,.tmp 12)] q aQ7 (Con.ok c8) ?_
  iterate 2 refine aH q ?_
  apply wN;cases h;refine O.ret ?_;simp [aO,iB,res7]
 refine O.skip ?_;refine O.zS y ?_;refine aH q ?_;obtain ⟨r8,c9,h⟩:=bS h;refine fP [(.take,.tmp 14)] q aQ7 (Con.ok c9) ?_
 iterate 7 first|refine aH q ?_|apply wN|refine O.zS y ?_
 obtain ⟨c6,a8,h⟩:=bS h;refine O.seqC [1,2,4] [1,2,4] (fun _:Unit=>⟨[(1,.ref (.box 1) 0 []),(2,.ref (.box 2) 0 []),(4,.ref (.box 4) 0 [])],[(1,[.sl false 4 (List.map (GNode.enc false) p1.Nodes),.sl false 5 (List.map (GFn.enc false) p1.Fns)]),(2,[.sl true 4 [],.sl true 5 []]),(4,[.sl true 4 (List.map (GNode.enc true) c6.Nodes),.sl true 5 (List.map (GFn.enc true) c6.Fns)])]⟩) (fun _=>True) (fun _ _=>?_) fun e9 b5=>?_;rotate_left
 ·refine O.zS y ?_
  iterate 5 refine aH q ?_
  obtain ⟨b6,b7,a8⟩:=bS a8;refine fP [(.take,.tmp 17),(.take,.tmp 21)] q (Ent.ok (E:=E) (f:=15)) (Con.ok b7) ?_
  iterate 2 refine aH q ?_
  apply wN;refine O.block ?_;refine O.loopO [] [1,2,4,22,23,24] [1,2,4] (fun v:Int × GProgram=>⟨[(1,.ref (.box 1) 0 []),(2,.ref (.box 2) 0 []),(4,.ref (.box 4) 0 []),(22,.t (.sl true 1 (List.map vi b6))),(23,.t (vi (b6.length:Int))),(24,.t (vi v.1))],[(1,[.sl false 4 (List.map (GNode.enc false) p1.Nodes),.sl false 5 (List.map (GFn.enc false) p1.Fns)]),(2,[.sl true 4 [],.sl true 5 []]),(4,[.sl true 4 (List.map (GNode.enc true) v.2.Nodes),.sl true 5 (List.map (GFn.enc true) v.2.Fns)])]⟩) (gP p1 b6) _ ((0:Int),(⟨r8.Nodes,[]⟩:GProgram)) a8 (by simp [q]) ?_
  intro g g0 a4 b8;obtain ⟨g3,d9⟩:=g;simp only [gP] at a4;try dsimp only
  refine O.zS y ?_;refine aH q ?_;apply wN;refine O.seq ?_;refine O.cI a4 (fun e0 a4=>?_) fun e1 a4=>?_
  ·refine O.skip ?_;refine O.seq ?_;refine O.block ?_;refine O.zS y ?_;obtain ⟨e2,b9,a4⟩:=bS a4;obtain ⟨b0,b1,b2,b3⟩:=gS b9
   iterate 3 (refine aH q ?_ rfl (by simp [b0,b1,b2,b3];rfl))
   apply wN;obtain ⟨a9,c0,a4⟩:=bS a4;obtain ⟨a0,a1,a2,a3⟩:=gS c0;obtain ⟨c1,c2,a4⟩:=bS a4;refine O.drawX2 rfl (y _ rfl) [28,29,30,31,32,33,34,35,36] [[(28,.ref (.box 4) 1 [])],[(29,.al (.box 4) 1 [] none)],[(30,.ref (.box 1) 1 [])],[(31,.t (.sl false 5 (List.map (GFn.enc false) p1.Fns)))],[(32,.t (vi e2))],[(33,.rop [vs a9.Name,.sl false 2 (List.map GParam.enc a9.Params),vi a9.Res,vi a9.Body,vi a9.Ret] 0)],[(34,.t (GFn.enc false a9))],[(35,.t (GFn.enc true c1))],[(36,.t (.sl true 5 (List.map (GFn.enc true) [c1]))),(35,.u)]] [[],[],[],[],[],[],[],[],[]] [[],[0],[],[2],[],[2,3,4],rg 2 4,rg 2 5,rg 2 6,rg 0 9,rg 0 10,rg 0 11] rfl (by simp) rfl rfl rfl ?_ fun K w=>?_
   ·refine ⟨?_,?_,?_,?_,?_,?_,?_,?_,?_,trivial⟩
    ·refine aG rfl rfl rfl ?_;intro τ D hbx hl d0 g1 g2 K w
     (simp [aQ,aX,d0] at hbx;refine wC rfl fun K' z=>?_;simp [q,hbx,hl,bW,bV,look,d0,a0,a1,a2,a3];exact z _ (wN (w _ (by simp [cN,aQ,aX,bY,hbx,d0,a0,a1,a2,a3]))))
    ·refine aG rfl rfl rfl ?_;intro τ D hbx hl d1 g1 g2 K w;have d0:=g1 0 (by simp)
     (simp [aQ,aX,d0,d1] at hbx;refine wC rfl fun K' z=>?_;simp [q,hbx,hl,bW,bV,look,d0,d1,a0,a1,a2,a3];exact z _ (wN (w _ (by simp [cN,aQ,aX,bY,hbx,d0,d1,a0,a1,a2,a3]))))
    ·refine aG rfl rfl rfl ?_;intro τ D hbx hl d2 g1 g2 K w
     (simp [aQ,aX,d2] at hbx;refine wC rfl fun K' z=>?_;simp [q,hbx,hl,bW,bV,look,d2,a0,a1,a2,a3];exact z _ (wN (w _ (by simp [cN,aQ,aX,bY,hbx,d2,a0,a1,a2,a3]))))
    ·refine aG rfl rfl rfl ?_;intro τ D hbx hl d3 g1 g2 K w;have d2:=g1 2 (by simp)
     (simp [aQ,aX,d2,d3] at hbx;refine wC rfl fun K' z=>?_;simp [q,hbx,hl,bW,bV,look,d2,d3,a0,a1,a2,a3];exact z _ (wN (w _ (by simp [cN,aQ,aX,bY,hbx,d2,d3,a0,a1,a2,a3]))))
    ·refine aG rfl rfl rfl ?_;intro τ D hbx hl d4 g1 g2 K w
     (simp [aQ,aX,d4] at hbx;refine wC rfl fun K' z=>?_;simp [q,hbx,hl,bW,bV,look,d4,a0,a1,a2,a3];exact z _ (wN (w _ (by simp [cN,aQ,aX,bY,hbx,d4,a0,a1,a2,a3]))))
    ·refine aG rfl rfl rfl ?_;intro τ D hbx hl d5 g1 g2 K w;have d3:=g1 3 (by simp)
     have d4:=g1 4 (by simp)
     (simp [aQ,aX,d3,d4,d5] at hbx;refine wC rfl fun K' z=>?_;simp [q,hbx,hl,bW,bV,look,d3,d4,d5,a0,a1,a2,a3];exact z _ (wN (w _ (by simp [cN,aQ,aX,bY,hbx,d3,d4,d5,a0,a1,a2,a3]))))
    ·refine aG rfl rfl rfl ?_;intro τ D hbx hl d6 g1 g2 K w;have d5:=g1 5 (by simp)
     (simp [aQ,aX,d5,d6] at hbx;refine wC rfl fun K' z=>?_;simp [q,hbx,hl,bW,bV,look,d5,d6,a0,a1,a2,a3];exact z _ (wN (w _ (by simp [cN,aQ,aX,bY,hbx,d5,d6,a0,a1,a2,a3]))))
    ·refine aG rfl rfl rfl ?_;intro τ D hbx hl d7 g1 g2 K w;have d6:=g1 6 (by simp)
     have d8:=g2 8 (by simp) (by simp)
     (simp [aQ,aX,d6,d7,d8] at hbx;refine wL [(.take,.tmp 34)] rfl rfl (Ent.ok (E:=E) (f:=29)) (Con.ok c2) fun K' z=>?_;simp [q,hbx,hl,bW,bV,look,d6,d7,d8,a0,a1,a2,a3];exact z _ (wN (w _ (by simp [cN,aQ,aX,bY,hbx,d6,d7,d8,a0,a1,a2,a3]))))
    intro D d8 g1 g2 gc;have d2:D 2=true:=g1 2 (by simp)
    have d3:D 3=true:=g1 3 (by simp)
    have d4:D 4=true:=g1 4 (by simp)
    have d5:D 5=true:=g1 5 (by simp)
    have d6:D 6=true:=g1 6 (by simp)
    have d7:D 7=true:=g1 7 (by simp)
    have p1_0:D 1=true→D 0=true:=fun h=>gc 1 0 h (by simp) (by simp)
    cases d0:D 0<;>cases d1:D 1<;>(simp [d1,d0] at p1_0)<;>(intro K w;simp [nP,cN,bY,aQ,aX,d0,d1,d2,d3,d4,d5,d6,d7,d8] at w ⊢;refine wC rfl fun K' z=>?_;simp [q,a0,a1,a2,a3];refine z _ (wN ?_);first | exact w | simpa [a0,a1,a2,a3] using w)
   simp [nP,cN,aQ,aX];obtain ⟨e3,c3,a4⟩:=bS a4;obtain ⟨a5,a6,b4⟩:=aS c3;have a7:List.map (GFn.enc true) d9.Fns ++ List.map (GFn.enc true) [c1]=List.map (GFn.enc true) e3:=kG (f:=(GFn.enc true)) b4;simp [eSl,GFn.enc] at a5 a6 a7
   iterate 3 (refine aH q ?_ rfl (by simp [a0,a1,a2,a3,a5,a6,a7];rfl))
   apply wN;apply w;refine O.zH y ?_
   iterate 2 refine aH q ?_
   apply wN;cases a4;exact ⟨_,[],rfl,by simp [q]⟩
  refine O.exit ?_;have e4:=congrArg some (b8 _ (Option.some.inj a4).symm);cases e4;exact b5 _ () [] trivial (by simp [q])
 refine O.zS y ?_;refine aH q ?_;obtain ⟨⟨g4,g5⟩,c4,h⟩:=bS h;try dsimp only at h
 refine fP [(.bor,.tmp 41)] q (Ent.ok (E:=E) (f:=30)) (Con.ok c4) ?_
 iterate 6 refine aH q ?_
 apply wN;refine O.seq ?_;refine O.zS y ?_
 iterate 2 refine aH q ?_
 apply wN;refine O.cI h (fun e5 h=>?_) fun e6 h=>?_
 ·refine O.zS y ?_;refine aH q ?_;obtain ⟨g6,c5,h⟩:=bS h;refine fP [(.take,.tmp 47)] q aQ7 (Con.ok c5) ?_
  iterate 2 refine aH q ?_
  apply wN;cases h;refine O.ret ?_;simp [aO,iB,res7]
 refine O.skip ?_;refine O.zS y ?_
 iterate 3 refine aH q ?_
 apply wN;cases h;refine O.ret ?_;simp [aO,iB,res7]
instance e7_:Ent E 7:=⟨ent7⟩
end Go.Proofs.T
