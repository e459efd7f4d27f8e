import Derived.Test.YtgcgpnhokjhghaaGreatDoorTA
set_option linter.unusedVariables false
set_option linter.unusedSimpArgs false
set_option linter.unusedVariables false
set_option linter.unusedSimpArgs false
set_option maxHeartbeats 8000000
set_option maxRecDepth 100000
namespace Go.Proofs.T
open Go.OM
section
attribute [local irreducible] Hg O St.wps aQ iB Lv Ct Lp VL Option.bind bD sAt gB bC cE mkI gK iZ bO aJ ite Dr
instance e111_:Ent E 111:=aZ Tryz.func111
instance c111_ {r0:List ByteArray}:Con E 111 (mL=some r0) [] [.sl true 1 (List.map vs r0)] []:=by
 refine iA Tryz.func111 fun C q=>?_
 unfold mL
 repeat' first | refine And.intro ?_ ?_ | refine Prod.forall.2 ?_ | (intro _;try dsimp only) | refine gW ?_ | exact Z | refine S ?_
instance e77_:Ent E 77:=aZ Tryz.func77
instance c77_ (a0:Int) {r0:Int} {r1:Int}:Con E 77 (mI a0=some (r0,r1)) [.val (vi a0)] [vi r0,vi r1] []:=by
 refine iA Tryz.func77 fun C q=>?_
 unfold mI
 repeat' first | refine And.intro ?_ ?_ | refine Prod.forall.2 ?_ | (intro _;try dsimp only) | refine gW ?_ | exact Z | refine eJ 2021 [4,5] [] (fun v=>[(5,.t (vb v))]) (fun _=>[]) ?_ | refine eJ 9013 [4,12] [] (fun v=>[(12,.t (vb v))]) (fun _=>[]) ?_ | refine S ?_
instance e44_:Ent E 44:=aZ Tryz.func44
instance c44_ (n1:Int) (a1:Int) (a0:Int) {r0:Bool}:Con E 44 (fQ n1 a1 a0=some r0) [.val (vi n1),.val (vi a1),.val (vi a0)] [vb r0] []:=by
 refine iA Tryz.func44 fun C q=>?_
 unfold fQ
 repeat' first | refine And.intro ?_ ?_ | refine Prod.forall.2 ?_ | (intro _;try dsimp only) | refine gW ?_ | exact Z | refine dL 1 [6] [] (fun v=>[(6,.t (vb v))]) (fun _=>[]) ?_ | refine S ?_
instance e75_:Ent E 75:=aZ Tryz.func75
instance c75_ (b1:Int) {r0:Bool}:Con E 75 (kU b1=some r0) [.val (vk .u8 b1)] [vb r0] []:=by
 refine iA Tryz.func75 fun C q=>?_
 unfold kU
 repeat' first | refine And.intro ?_ ?_ | refine Prod.forall.2 ?_ | (intro _;try dsimp only) | refine gW ?_ | exact Z | refine dL 1 [2] [] (fun v=>[(2,.t (vb v))]) (fun _=>[]) ?_ | refine S ?_
end
theorem res90:Tryz.f90.results.toList=[.tmp 4]:=rfl
theorem ent90:cN E.P 90:=eO Tryz.func90 (by simp [Tryz.f90]) rfl
instance c90_ (r1:Gl05Read) (x2:GNode) {r0:Int} {q0:Gl05Read}:Con E 90 (aG r1 x2=some (r0,q0)) [.ptr [.sl true 3 (List.map GSign.enc r1.list),vi r1.at_,vb r1.bad,vi r1.deep,.sl true 4 (List.map (GNode.enc true) r1.nodes)],.val (GNode.enc true x2)] [vi r0] [[.sl true 3 (List.map GSign.enc q0.list),vi q0.at_,vb q0.bad,vi q0.deep,.sl true 4 (List.map (GNode.enc true) q0.nodes)]]:=Con.mk fun h=>by
 refine oB Tryz.func90 rfl (by simp [Tryz.f90]) fun C (q:C.N=36) hP=>?_
 have y:=uM hP
 unfold aG at h
 refine O.zS y ?_
 iterate 2 refine aI q ?_
 apply wN
 refine O.seq ?_
 obtain ⟨v7,a5,h⟩:=bS h
 refine O.seqRC rfl (y _ rfl) [0,3,16] [3,36] (fun _:Unit=>⟨[(0,.ref (.box 36) 0 []),(3,.ref (.box 3) 0 []),(16,.t (vb v7))],[(3,[vi x2.Kind,vi x2.Num,vs x2.Name,.sl true 1 (List.map vi x2.Kids)]),(36,[.sl true 3 (List.map GSign.enc r1.list),vi r1.at_,vb r1.bad,vi r1.deep,.sl true 4 (List.map (GNode.enc true) r1.nodes)])]⟩) (fun _=>True) (fun _ _=>?_) fun K4 b0=>?_
 rotate_left
 ·refine aI q ?_
  iterate 4 refine aI q ?_
  rcases oR a5 with ⟨a7,a5⟩ | ⟨a8,a5⟩
  ·have a3:=a7
   try simp at a3
   iterate 6 (refine wO fun K z=>?_;simp [q,a7,a3];apply z)
   refine aI q ?_ rfl (by simp [a7,a3];rfl)
   refine wN ?_
   cases a5
   exact b0 _ () [] trivial (by simp [q,a7,a3])
  have a4:=a8
  try simp at a4
  iterate 7 (refine aI q ?_ rfl (by simp [a8,a4];rfl))
  refine wN ?_
  cases a5
  exact b0 _ () [] trivial (by simp [q,a8,a4])
 refine O.cI h (fun b2 h=>?_) fun b3 h=>?_
 ·iterate 9 first|refine aI q ?_|apply wN|refine O.zS y ?_
  cases h
  refine O.ret ?_
  simp [aQ,iB,res90]
 refine O.skip ?_
 refine O.seq ?_
 obtain ⟨b1,a9,h⟩:=bS h
 obtain ⟨a0,a1,a6⟩:=aS a9
 have a2:List.map (GNode.enc true) r1.nodes ++ List.map (GNode.enc true) [x2]=List.map (GNode.enc true) b1:=lY (f:=(GNode.enc true)) a6
 simp [eSl,GNode.enc] at a0 a1 a2
 refine O.drawX2 rfl (y _ rfl) [20,21,22,23,24,25,26,27] [[(20,.ref (.box 36) 0 [])],[(21,.ref (.box 36) 0 [])],[(22,.ref (.box 36) 0 [])],[(23,.ref (.box 36) 4 [])],[(24,.al (.box 36) 4 [] none)],[(25,.al (.box 3) 0 [] (some 4))],[(26,.t (.sl true 4 (List.map (GNode.enc true) [x2]))),(25,.u)],[(27,.t (.sl true 4 (List.map (GNode.enc true) b1))),(24,.u),(26,.u)]] [[],[],[],[],[],[],[(3,[vi x2.Kind,vi x2.Num,vs x2.Name,.dead])],[(36,[.sl true 3 (List.map GSign.enc r1.list),vi r1.at_,vb r1.bad,vi r1.deep,.dead])]] [[],[],[1],[1,2],[1,2,3],[],[5],rg 1 6,rg 0 8,rg 0 9,rg 0 10] rfl (by simp) rfl rfl rfl ?_ fun K v=>?_
 ·refine ⟨?_,?_,?_,?_,?_,?_,?_,?_,trivial⟩
  ·refine aV rfl rfl rfl ?_
   intro τ D hbx hl d0 g1 g2 K v
   cases d6:D 6<;>cases d7:D 7<;>(simp [bF,bP,d0,d6,d7] at hbx;refine wC rfl fun K' w=>?_;simp [q,hbx,hl,eW,eV,look,d0,d6,d7,a0,a1,a2];exact w _ (wN (v _ (by simp [gV,bF,bP,dK,hbx,d0,d6,d7,a0,a1,a2]))))
  ·refine aV rfl rfl rfl ?_
   intro τ D hbx hl d1 g1 g2 K v
   have d7:=g2 7 (by simp) (by simp)
   cases d6:D 6<;>(simp [bF,bP,d1,d6,d7] at hbx;refine wC rfl fun K' w=>?_;simp [q,hbx,hl,eW,eV,look,d1,d6,d7,a0,a1,a2];exact w _ (wN (v _ (by simp [gV,bF,bP,dK,hbx,d1,d6,d7,a0,a1,a2]))))
  ·refine aV rfl rfl rfl ?_
   intro τ D hbx hl d2 g1 g2 K v
   have d1:=g1 1 (by simp)
   have d7:=g2 7 (by simp) (by simp)
   cases d6:D 6<;>(simp [bF,bP,d1,d2,d6,d7] at hbx;refine wC rfl fun K' w=>?_;simp [q,hbx,hl,eW,eV,look,d1,d2,d6,d7,a0,a1,a2];exact w _ (wN (v _ (by simp [gV,bF,bP,dK,hbx,d1,d2,d6,d7,a0,a1,a2]))))
  ·refine aV rfl rfl rfl ?_
   intro τ D hbx hl d3 g1 g2 K v
   have d2:=g1 2 (by simp)
   have d7:=g2 7 (by simp) (by simp)
   cases d6:D 6<;>(simp [bF,bP,d2,d3,d6,d7] at hbx;refine wC rfl fun K' w=>?_;simp [q,hbx,hl,eW,eV,look,d2,d3,d6,d7,a0,a1,a2];exact w _ (wN (v _ (by simp [gV,bF,bP,dK,hbx,d2,d3,d6,d7,a0,a1,a2]))))
  ·refine aV rfl rfl rfl ?_
   intro τ D hbx hl d4 g1 g2 K v
   have d3:=g1 3 (by simp)
   have d7:=g2 7 (by simp) (by simp)
   cases d6:D 6<;>(simp [bF,bP,d3,d4,d6,d7] at hbx;refine wC rfl fun K' w=>?_;simp [q,hbx,hl,eW,eV,look,d3,d4,d6,d7,a0,a1,a2];exact w _ (wN (v _ (by simp [gV,bF,bP,dK,hbx,d3,d4,d6,d7,a0,a1,a2]))))
  ·refine aV rfl rfl rfl ?_
   intro τ D hbx hl d5 g1 g2 K v
   have d6:=g2 6 (by simp) (by simp)
   have d7:=g2 7 (by simp) (by simp)
   (simp [bF,bP,d5,d6,d7] at hbx;refine wC rfl fun K' w=>?_;simp [q,hbx,hl,eW,eV,look,d5,d6,d7,a0,a1,a2];exact w _ (wN (v _ (by simp [gV,bF,bP,dK,hbx,d5,d6,d7,a0,a1,a2]))))
  ·intro D d6 g1 g2 gc
   have d5:D 5=true:=g1 5 (by simp)
   have d7:D 7=false:=g2 7 (by simp) (by simp)
   have p2_1:D 2=true→D 1=true:=fun h=>gc 2 1 h (by simp) (by simp)
   have p3_2:D 3=true→D 2=true:=fun h=>gc 3 2 h (by simp) (by simp)
   have p4_3:D 4=true→D 3=true:=fun h=>gc 4 3 h (by simp) (by simp)
   cases d0:D 0<;>cases d1:D 1<;>cases d2:D 2<;>(simp [d2,d1] at p2_1)<;>cases d3:D 3<;>(simp [d3,d2] at p3_2)<;>cases d4:D 4<;>(simp [d4,d3] at p4_3)<;>(intro K v;simp [tP,gV,dK,bF,bP,d0,d1,d2,d3,d4,d5,d6,d7] at v ⊢;refine wC rfl fun K' w=>?_;simp [q,a0,a1,a2];refine w _ (wN ?_);first | exact v | simpa [a0,a1,a2] using v)
  intro D d7 g1 g2 gc
  have d1:D 1=true:=g1 1 (by simp)
  have d2:D 2=true:=g1 2 (by simp)
  have d3:D 3=true:=g1 3 (by simp)
  have d4:D 4=true:=g1 4 (by simp)
  have d5:D 5=true:=g1 5 (by simp)
  have d6:D 6=true:=g1 6 (by simp)
  cases d0:D 0<;>(intro K v;simp [tP,gV,dK,bF,bP,d0,d1,d2,d3,d4,d5,d6,d7] at v ⊢;refine wC rfl fun K' w=>?_;simp [q,a0,a1,a2];refine w _ (wN ?_);first | exact v | simpa [a0,a1,a2] using v)
 simp [tP,gV,bF,bP]
 iterate 3 (refine aI q ?_ rfl (by simp [a0,a1,a2];rfl))
 apply wN;apply v
 refine O.zS y ?_
 iterate 7 refine aI q ?_
 apply wN
 cases h
 refine O.ret ?_
 simp [aQ,iB,res90]
instance e90_:Ent E 90:=⟨ent90⟩
end Go.Proofs.T
