import Derived.Test.YtgcgpnhokjhghabGreatDoorW1
import Derived.Test.YtgcgpnhokjhghabGreatDoorW6
import Derived.Test.YtgcgpnhokjhghabGreatDoorW7
set_option linter.unusedVariables false
set_option linter.unusedSimpArgs false
set_option linter.unusedVariables false
set_option linter.unusedSimpArgs false
set_option maxHeartbeats 8000000
set_option maxRecDepth 100000
namespace Go.Proofs.T
open Go.OM
section
attribute [local irreducible] Hg O St.wps aO iB Lv Ct Lp VL Option.bind aP sAt eK bN bO mkI eS fO bF aI ite Dr
instance e117_:Ent E 117:=aY Tryz.func117
instance c117_ (r1:Gl05Read) (a0:ByteArray) {q0:Gl05Read}:Con E 117 (aW r1 a0=some q0) [.ptr [.sl true 3 (List.map GSign.enc r1.list),vi r1.at_,vb r1.bad,vi r1.deep,.sl true 4 (List.map (GNode.enc true) r1.nodes)],.val (vs a0)] [] [[.sl true 3 (List.map GSign.enc q0.list),vi q0.at_,vb q0.bad,vi q0.deep,.sl true 4 (List.map (GNode.enc true) q0.nodes)]]:=by
 refine eZ Tryz.func117 fun C q=>?_;unfold aW;repeat' first | refine And.intro ?_ ?_ | refine Prod.forall.2 ?_ | (intro _;try dsimp only) | refine eY ?_ | exact Z | refine S ?_
instance e130_:Ent E 130:=aY Tryz.func130
instance c130_ (a0:Int) (i2:Int) (a1:Int) {r0:Bool}:Con E 130 (qE a0 i2 a1=some r0) [.val (vi a0),.val (vi i2),.val (vi a1)] [vb r0] []:=by
 refine eZ Tryz.func130 fun C q=>?_;unfold qE;repeat' first | refine And.intro ?_ ?_ | refine Prod.forall.2 ?_ | (intro _;try dsimp only) | refine eY ?_ | exact Z | refine cR 3 [0,2,12] [] (fun v=>[(12,.t (vb v))]) (fun _=>[]) ?_ | refine S ?_
instance e19_:Ent E 19:=aY Tryz.func19
instance c19_ (a1:GProgram) (b2:GProgram) {r0:Bool}:Con E 19 (mQ a1 b2=some r0) [.val (GProgram.enc false a1),.val (GProgram.enc false b2)] [vb r0] []:=by
 refine eZ Tryz.func19 fun C q=>?_;unfold mQ;repeat' first | refine And.intro ?_ ?_ | refine Prod.forall.2 ?_ | (intro _;try dsimp only) | refine eY ?_ | exact Z | refine cR 1 [2,3,23] [2,3] (fun v=>[(23,.t (vb v))]) (fun _=>[]) ?_ | refine cR 8 [2,3,5,6,7,75] [2,3,6,7] (fun v=>[(75,.t (vb v))]) (fun _=>[]) ?_ | refine bG 11016 [2,3,5,6,7,8] [2,3,6,7] (fun v=>[(8,.t (vi v))]) (fun _=>[]) (by unfold fT;rfl) ?_ | refine eW 6033 [2,3,5] [2,3] (fun _=>[]) (fun _=>[]) ?_ | refine bG 4041 [2,3,5] [2,3] (fun v=>[(5,.t (vi v))]) (fun _=>[]) (by unfold fU;rfl) ?_ | refine eW 3045 [] [] (fun _=>[]) (fun _=>[]) ?_ | refine S ?_
end
theorem res28:Tryz.f28.results.toList=[.cell 2 27]:=rfl
theorem aQ7:dR E.P 28:=eO Tryz.func28 (by simp [Tryz.f28]) rfl
instance c28_ (p1:GProgram) {r0:GProgram}:Con E 28 (fG p1=some r0) [.val (GProgram.enc false p1)] [GProgram.enc true r0] []:=Con.mk fun h=>by
 refine oB Tryz.func28 rfl (by simp [Tryz.f28]) fun C (q:C.N=26) hP=>?_
 have y:=zW hP;unfold fG at h
 iterate 7 first|refine aH q ?_|apply wN|refine O.zS y ?_
 obtain ⟨r2,b4,h⟩:=bS h;refine fP [(.take,.tmp 7)] q (Ent.ok (E:=E) (f:=51)) (Con.ok b4) ?_
 iterate 3 refine aH q ?_
 apply wN;obtain ⟨b3,b5,h⟩:=bS h;refine O.seqC [2,3] [2,3] (fun _:Unit=>⟨[(2,.ref (.box 2) 0 []),(3,.ref (.box 3) 0 [])],[(2,[.sl true 4 [],.sl true 5 []]),(3,[.sl true 4 (List.map (GNode.enc true) b3.Nodes),.sl true 5 (List.map (GFn.enc true) b3.Fns)])]⟩) (fun _=>True) (fun _ _=>?_) fun K5 b6=>?_;rotate_left
 ·refine O.zS y ?_
  iterate 4 refine aH q ?_
  apply wN;refine O.block ?_;refine O.loopO [] [2,3,11,12,13] [2,3] (fun v:Int × GProgram=>⟨[(2,.ref (.box 2) 0 []),(3,.ref (.box 3) 0 []),(11,.t (.sl false 5 (List.map (GFn.enc false) p1.Fns))),(12,.t (vi (p1.Fns.length:Int))),(13,.t (vi v.1))],[(2,[.sl true 4 [],.sl true 5 []]),(3,[.sl true 4 (List.map (GNode.enc true) v.2.Nodes),.sl true 5 (List.map (GFn.enc true) v.2.Fns)])]⟩) (eR p1) _ ((0:Int),(⟨r2,[]⟩:GProgram)) b5 (by simp [q]) ?_
  intro g c2 h9 a8;obtain ⟨v7,v8⟩:=g;simp only [eR] at h9;try dsimp only
  refine O.zS y ?_;refine aH q ?_;apply wN;refine O.seq ?_;refine O.cI h9 (fun b7 h9=>?_) fun b8 h9=>?_
  ·refine O.skip ?_;refine O.seq ?_;refine O.block ?_;refine O.zS y ?_;obtain ⟨b9,a9,h9⟩:=bS h9;obtain ⟨a3,a4,a5,a6⟩:=gS a9
   iterate 4 (refine aH q ?_ rfl (by simp [a3,a4,a5,a6];rfl))
   apply wN;obtain ⟨b0,b1,h9⟩:=bS h9;refine O.drawX2 rfl (y _ rfl) [17,18,19,20,21] [[(17,.ref (.box 3) 1 [])],[(18,.al (.box 3) 1 [] none)],[(19,.t (GFn.enc false b9))],[(20,.t (GFn.enc true b0))],[(21,.t (.sl true 5 (List.map (GFn.enc true) [b0]))),(20,.u)]] [[],[],[],[],[]] [[],[0],[],[2],[2,3],rg 0 5,rg 0 6,rg 0 7] rfl (by simp) rfl rfl rfl ?_ fun K w=>?_
   ·refine ⟨?_,?_,?_,?_,?_,trivial⟩
    ·refine aG rfl rfl rfl ?_;intro τ D hbx hl d0 g1 g2 K w
     (simp [aQ,aX,d0] at hbx;refine wC rfl fun K' z=>?_;simp [q,hbx,hl,bW,bV,look,d0];exact z _ (wN (w _ (by simp [cN,aQ,aX,bY,hbx,d0]))))
    ·refine aG rfl rfl rfl ?_;intro τ D hbx hl d1 g1 g2 K w;have d0:=g1 0 (by simp)
     (simp [aQ,aX,d0,d1] at hbx;refine wC rfl fun K' z=>?_;simp [q,hbx,hl,bW,bV,look,d0,d1];exact z _ (wN (w _ (by simp [cN,aQ,aX,bY,hbx,d0,d1]))))
    ·refine aG rfl rfl rfl ?_;intro τ D hbx hl d2 g1 g2 K w
     (simp [aQ,aX,d2] at hbx;refine wC rfl fun K' z=>?_;simp [q,hbx,hl,bW,bV,look,d2];exact z _ (wN (w _ (by simp [cN,aQ,aX,bY,hbx,d2]))))
    ·refine aG rfl rfl rfl ?_;intro τ D hbx hl d3 g1 g2 K w;have d2:=g1 2 (by simp)
     have d4:=g2 4 (by simp) (by simp)
     (simp [aQ,aX,d2,d3,d4] at hbx;refine wL [(.take,.tmp 19)] rfl rfl (Ent.ok (E:=E) (f:=29)) (Con.ok b1) fun K' z=>?_;simp [q,hbx,hl,bW,bV,look,d2,d3,d4];exact z _ (wN (w _ (by simp [cN,aQ,aX,bY,hbx,d2,d3,d4]))))
    intro D d4 g1 g2 gc;have d2:D 2=true:=g1 2 (by simp)
    have d3:D 3=true:=g1 3 (by simp)
    have p1_0:D 1=true→D 0=true:=fun h=>gc 1 0 h (by simp) (by simp)
    cases d0:D 0<;>cases d1:D 1<;>(simp [d1,d0] at p1_0)<;>(intro K w;simp [nP,cN,bY,aQ,aX,d0,d1,d2,d3,d4] at w ⊢;refine wC rfl fun K' z=>?_;simp [q];refine z _ (wN ?_);first | exact w | simpa using w)
   simp [nP,cN,aQ,aX];obtain ⟨c0,b2,h9⟩:=bS h9;obtain ⟨a0,a1,a7⟩:=aS b2;have a2:List.map (GFn.enc true) v8.Fns ++ List.map (GFn.enc true) [b0]=List.map (GFn.enc true) c0:=kG (f:=(GFn.enc true)) a7;simp [eSl,GFn.enc] at a0 a1 a2
   iterate 3 (refine aH q ?_ rfl (by simp [a0,a1,a2];rfl))
   apply wN;apply w;refine O.zH y ?_
   iterate 2 refine aH q ?_
   apply wN;cases h9;exact ⟨_,[],rfl,by simp [q]⟩
  refine O.exit ?_;have c1:=congrArg some (a8 _ (Option.some.inj h9).symm);cases c1;exact b6 _ () [] trivial (by simp [q])
 refine O.zS y ?_
 iterate 2 refine aH q ?_
 apply wN;cases h;refine O.ret ?_;simp [aO,iB,res28]
instance e28_:Ent E 28:=⟨aQ7⟩
end Go.Proofs.T
