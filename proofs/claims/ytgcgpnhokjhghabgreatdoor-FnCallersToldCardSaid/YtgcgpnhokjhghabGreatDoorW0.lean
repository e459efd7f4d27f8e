import Derived.Test.YtgcgpnhokjhghabGreatDoorTA
set_option linter.unusedVariables false
set_option linter.unusedSimpArgs false
set_option linter.unusedVariables false
set_option linter.unusedSimpArgs false
set_option maxHeartbeats 8000000
set_option maxRecDepth 100000
namespace Go.Proofs.T
open Go.OM
section
attribute [local irreducible] Hg O St.wps aO iB Lv Ct Lp VL Option.bind aP sAt eK bN bO mkI eS fO bF aI ite Dr
instance e58_:Ent E 58:=aY Tryz.func58
instance c58_ (c1:Gl01Cur) {r0:Int} {q0:Gl01Cur}:Con E 58 (gW c1=some (r0,q0)) [.ptr [.sl false 1 (List.map (vk .u8) c1.b),vi c1.i,vi c1.h]] [vi r0] [[.sl false 1 (List.map (vk .u8) q0.b),vi q0.i,vi q0.h]]:=by
 refine eZ Tryz.func58 fun C q=>?_;unfold gW;repeat' first | refine And.intro ?_ ?_ | refine Prod.forall.2 ?_ | (intro _;try dsimp only) | refine eY ?_ | exact Z | refine S ?_
instance e102_:Ent E 102:=aY Tryz.func102
instance c102_ (b1:Int) {r0:Bool}:Con E 102 (eT b1=some r0) [.val (vk .u8 b1)] [vb r0] []:=by
 refine eZ Tryz.func102 fun C q=>?_;unfold eT;repeat' first | refine And.intro ?_ ?_ | refine Prod.forall.2 ?_ | (intro _;try dsimp only) | refine eY ?_ | exact Z | refine cR 1 [2] [] (fun v=>[(2,.t (vb v))]) (fun _=>[]) ?_ | refine S ?_
instance e141_:Ent E 141:=aY Tryz.func141
instance c141_ {r0:List ByteArray}:Con E 141 (nX=some r0) [] [.sl true 1 (List.map vs r0)] []:=by
 refine eZ Tryz.func141 fun C q=>?_;unfold nX;repeat' first | refine And.intro ?_ ?_ | refine Prod.forall.2 ?_ | (intro _;try dsimp only) | refine eY ?_ | exact Z | refine S ?_
instance e36_:Ent E 36:=aY Tryz.func36
instance c36_ (p1:GProgram) (a0:ByteArray) {r0:Int}:Con E 36 (qM p1 a0=some r0) [.val (GProgram.enc false p1),.val (vs a0)] [vi r0] []:=by
 refine eZ Tryz.func36 fun C q=>?_;unfold qM;repeat' first | refine And.intro ?_ ?_ | refine Prod.forall.2 ?_ | (intro _;try dsimp only) | refine eY ?_ | exact Z | refine bG 2018 [1,8,9,10] [] (fun v=>[(10,.t (vi v))]) (fun _=>[]) (by unfold qL;rfl) ?_ | refine eW 1022 [] [] (fun _=>[]) (fun _=>[]) ?_ | refine S ?_
instance e74_:Ent E 74:=aY Tryz.func74
instance c74_ (l1:List Int) {r0:List Int}:Con E 74 (oJ l1=some r0) [.val (.sl false 1 (List.map vi l1))] [.sl true 1 (List.map vi r0)] []:=by
 refine eZ Tryz.func74 fun C q=>?_;unfold oJ;repeat' first | refine And.intro ?_ ?_ | refine Prod.forall.2 ?_ | (intro _;try dsimp only) | refine eY ?_ | exact Z | refine S ?_
instance e66_:Ent E 66:=aY Tryz.func66
instance c66_ (a0:List GVar) (a1:ByteArray) {r0:Int}:Con E 66 (xH a0 a1=some r0) [.val (.sl false 3 (List.map GVar.enc a0)),.val (vs a1)] [vi r0] []:=by
 refine eZ Tryz.func66 fun C q=>?_;unfold xH;repeat' first | refine And.intro ?_ ?_ | refine Prod.forall.2 ?_ | (intro _;try dsimp only) | refine eY ?_ | exact Z | refine bG 2016 [0,1,5] [] (fun v=>[(5,.t (vi v))]) (fun _=>[]) (by unfold zK;rfl) ?_ | refine eW 1020 [] [] (fun _=>[]) (fun _=>[]) ?_ | refine S ?_
end
theorem aQi:Tryz.f120.results.toList=[.tmp 4]:=rfl
theorem ent120:dR E.P 120:=eO Tryz.func120 (by simp [Tryz.f120]) rfl
instance c120_ (r1:Gl05Read) (x2:GNode) {r0:Int} {q0:Gl05Read}:Con E 120 (aK r1 x2=some (r0,q0)) [.ptr [.sl true 3 (List.map GSign.enc r1.list),vi r1.at_,vb r1.bad,vi r1.deep,.sl true 4 (List.map (GNode.enc true) r1.nodes)],.val (GNode.enc true x2)] [vi r0] [[.sl true 3 (List.map GSign.enc q0.list),vi q0.at_,vb q0.bad,vi q0.deep,.sl true 4 (List.map (GNode.enc true) q0.nodes)]]:=Con.mk fun h=>by
 refine oB Tryz.func120 rfl (by simp [Tryz.f120]) fun C (q:C.N=36) hP=>?_
 have y:=zW hP;unfold aK at h;refine O.zS y ?_
 iterate 2 refine aH q ?_
 apply wN;refine O.seq ?_;obtain ⟨v7,a5,h⟩:=bS h;refine O.seqRC rfl (y _ rfl) [0,3,16] [3,36] (fun _:Unit=>⟨[(0,.ref (.box 36) 0 []),(3,.ref (.box 3) 0 []),(16,.t (vb v7))],[(3,[vi x2.Kind,vi x2.Num,vs x2.Name,.sl true 1 (List.map vi x2.Kids)]),(36,[.sl true 3 (List.map GSign.enc r1.list),vi r1.at_,vb r1.bad,vi r1.deep,.sl true 4 (List.map (GNode.enc true) r1.nodes)])]⟩) (fun _=>True) (fun _ _=>?_) fun K4 b0=>?_;rotate_left
 ·refine aH q ?_
  iterate 4 refine aH q ?_
  rcases mD a5 with ⟨a7,a5⟩ | ⟨a8,a5⟩
  ·have a3:=a7;try simp at a3
   iterate 6 (refine wO fun K z=>?_;simp [q,a7,a3];apply z)
   refine aH q ?_ rfl (by simp [a7,a3];rfl)
   refine wN ?_;cases a5;exact b0 _ () [] trivial (by simp [q,a7,a3])
  have a4:=a8;try simp at a4
  iterate 7 (refine aH q ?_ rfl (by simp [a8,a4];rfl))
  refine wN ?_;cases a5;exact b0 _ () [] trivial (by simp [q,a8,a4])
 refine O.cI h (fun b2 h=>?_) fun b3 h=>?_
 ·iterate 9 first|refine aH q ?_|apply wN|refine O.zS y ?_
  cases h;refine O.ret ?_;simp [aO,iB,aQi]
 refine O.skip ?_;refine O.seq ?_;obtain ⟨b1,a9,h⟩:=bS h;obtain ⟨a0,a1,a6⟩:=aS a9;have a2:List.map (GNode.enc true) r1.nodes ++ List.map (GNode.enc true) [x2]=List.map (GNode.enc true) b1:=kG (f:=(GNode.enc true)) a6;simp [eSl,GNode.enc] at a0 a1 a2;refine O.drawX2 rfl (y _ rfl) [20,21,22,23,24,25,26,27] [[(20,.ref (.box 36) 0 [])],[(21,.ref (.box 36) 0 [])],[(22,.ref (.box 36) 0 [])],[(23,.ref (.box 36) 4 [])],[(24,.al (.box 36) 4 [] none)],[(25,.al (.box 3) 0 [] (some 4))],[(26,.t (.sl true 4 (List.map (GNode.enc true) [x2]))),(25,.u)],[(27,.t (.sl true 4 (List.map (GNode.enc true) b1))),(24,.u),(26,.u)]] [[],[],[],[],[],[],[(3,[vi x2.Kind,vi x2.Num,vs x2.Name,.dead])],[(36,[.sl true 3 (List.map GSign.enc r1.list),vi r1.at_,vb r1.bad,vi r1.deep,.dead])]] [[],[],[1],[1,2],[1,2,3],[],[5],rg 1 6,rg 0 8,rg 0 9,rg 0 10] rfl (by simp) rfl rfl rfl ?_ fun K v=>?_
 ·refine ⟨?_,?_,?_,?_,?_,?_,?_,?_,trivial⟩
  ·refine aG rfl rfl rfl ?_;intro τ D hbx hl d0 g1 g2 K v;cases d6:D 6<;>cases d7:D 7<;>(simp [aQ,aX,d0,d6,d7] at hbx;refine wC rfl fun K' w=>?_;simp [q,hbx,hl,bW,bV,look,d0,d6,d7,a0,a1,a2];exact w _ (wN (v _ (by simp [cN,aQ,aX,bY,hbx,d0,d6,d7,a0,a1,a2]))))
  ·refine aG rfl rfl rfl ?_;intro τ D hbx hl d1 g1 g2 K v;have d7:=g2 7 (by simp) (by simp)
   cases d6:D 6<;>(simp [aQ,aX,d1,d6,d7] at hbx;refine wC rfl fun K' w=>?_;simp [q,hbx,hl,bW,bV,look,d1,d6,d7,a0,a1,a2];exact w _ (wN (v _ (by simp [cN,aQ,aX,bY,hbx,d1,d6,d7,a0,a1,a2]))))
  ·refine aG rfl rfl rfl ?_;intro τ D hbx hl d2 g1 g2 K v;have d1:=g1 1 (by simp)
   have d7:=g2 7 (by simp) (by simp)
   cases d6:D 6<;>(simp [aQ,aX,d1,d2,d6,d7] at hbx;refine wC rfl fun K' w=>?_;simp [q,hbx,hl,bW,bV,look,d1,d2,d6,d7,a0,a1,a2];exact w _ (wN (v _ (by simp [cN,aQ,aX,bY,hbx,d1,d2,d6,d7,a0,a1,a2]))))
  ·refine aG rfl rfl rfl ?_;intro τ D hbx hl d3 g1 g2 K v;have d2:=g1 2 (by simp)
   have d7:=g2 7 (by simp) (by simp)
   cases d6:D 6<;>(simp [aQ,aX,d2,d3,d6,d7] at hbx;refine wC rfl fun K' w=>?_;simp [q,hbx,hl,bW,bV,look,d2,d3,d6,d7,a0,a1,a2];exact w _ (wN (v _ (by simp [cN,aQ,aX,bY,hbx,d2,d3,d6,d7,a0,a1,a2]))))
  ·refine aG rfl rfl rfl ?_;intro τ D hbx hl d4 g1 g2 K v;have d3:=g1 3 (by simp)
   have d7:=g2 7 (by simp) (by simp)
   cases d6:D 6<;>(simp [aQ,aX,d3,d4,d6,d7] at hbx;refine wC rfl fun K' w=>?_;simp [q,hbx,hl,bW,bV,look,d3,d4,d6,d7,a0,a1,a2];exact w _ (wN (v _ (by simp [cN,aQ,aX,bY,hbx,d3,d4,d6,d7,a0,a1,a2]))))
  ·refine aG rfl rfl rfl ?_;intro τ D hbx hl d5 g1 g2 K v;have d6:=g2 6 (by simp) (by simp)
   have d7:=g2 7 (by simp) (by simp)
   (simp [aQ,aX,d5,d6,d7] at hbx;refine wC rfl fun K' w=>?_;simp [q,hbx,hl,bW,bV,look,d5,d6,d7,a0,a1,a2];exact w _ (wN (v _ (by simp [cN,aQ,aX,bY,hbx,d5,d6,d7,a0,a1,a2]))))
  ·intro D d6 g1 g2 gc;have d5:D 5=true:=g1 5 (by simp)
   have d7:D 7=false:=g2 7 (by simp) (by simp)
   have p2_1:D 2=true→D 1=true:=fun h=>gc 2 1 h (by simp) (by simp)
   have p3_2:D 3=true→D 2=true:=fun h=>gc 3 2 h (by simp) (by simp)
   have p4_3:D 4=true→D 3=true:=fun h=>gc 4 3 h (by simp) (by simp)
   cases d0:D 0<;>cases d1:D 1<;>cases d2:D 2<;>(simp [d2,d1] at p2_1)<;>cases d3:D 3<;>(simp [d3,d2] at p3_2)<;>cases d4:D 4<;>(simp [d4,d3] at p4_3)<;>(intro K v;simp [nP,cN,bY,aQ,aX,d0,d1,d2,d3,d4,d5,d6,d7] at v ⊢;refine wC rfl fun K' w=>?_;simp [q,a0,a1,a2];refine w _ (wN ?_);first | exact v | simpa [a0,a1,a2] using v)
  intro D d7 g1 g2 gc;have d1:D 1=true:=g1 1 (by simp)
  have d2:D 2=true:=g1 2 (by simp)
  have d3:D 3=true:=g1 3 (by simp)
  have d4:D 4=true:=g1 4 (by simp)
  have d5:D 5=true:=g1 5 (by simp)
  have d6:D 6=true:=g1 6 (by simp)
  cases d0:D 0<;>(intro K v;simp [nP,cN,bY,aQ,aX,d0,d1,d2,d3,d4,d5,d6,d7] at v ⊢;refine wC rfl fun K' w=>?_;simp [q,a0,a1,a2];refine w _ (wN ?_);first | exact v | simpa [a0,a1,a2] using v)
 simp [nP,cN,aQ,aX]
 iterate 3 (refine aH q ?_ rfl (by simp [a0,a1,a2];rfl))
 apply wN;apply v;refine O.zS y ?_
 iterate 7 refine aH q ?_
 apply wN;cases h;refine O.ret ?_;simp [aO,iB,aQi]
instance e120_:Ent E 120:=⟨ent120⟩
end Go.Proofs.T
