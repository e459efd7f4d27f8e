import Derived.Test.YteibeahceppedaaGreatDoorTA
set_option linter.unusedVariables false
set_option linter.unusedSimpArgs false
set_option linter.unusedVariables false
set_option linter.unusedSimpArgs false
set_option maxHeartbeats 8000000
set_option maxRecDepth 100000
namespace Go.Proofs.T
open Go.OM
section
attribute [local irreducible] Hg O St.wps aO iB Lv Ct Lp VL Option.bind aY sAt fD bK bW mkI fE gO bF aJ ite Dr
instance e4_:Ent E 4:=aX Tryz.func4
instance c4_ (a0:List Int) {r0:Bool}:Con E 4 (xU a0=some r0) [.val (.sl false 1 (List.map (vk .u8) a0))] [vb r0] []:=by
 refine fW Tryz.func4 fun C q=>?_
 unfold xU
 repeat' first | refine And.intro ?_ ?_ | refine Prod.forall.2 ?_ | (intro _;try dsimp only) | refine fS ?_ | exact Z | refine S ?_
instance e51_:Ent E 51:=aX Tryz.func51
instance c51_ (c1:Gl01Cur) {r0:Int} {q0:Gl01Cur}:Con E 51 (fO c1=some (r0,q0)) [.ptr [.sl false 1 (List.map (vk .u8) c1.b),vi c1.i,vi c1.h]] [vi r0] [[.sl false 1 (List.map (vk .u8) q0.b),vi q0.i,vi q0.h]]:=by
 refine fW Tryz.func51 fun C q=>?_
 unfold fO
 repeat' first | refine And.intro ?_ ?_ | refine Prod.forall.2 ?_ | (intro _;try dsimp only) | refine fS ?_ | exact Z | refine S ?_
instance e99_:Ent E 99:=aX Tryz.func99
instance c99_ (r1:Gl05Read) (a0:Int) (a1:ByteArray) {r0:Bool} {q0:Gl05Read}:Con E 99 (cS r1 a0 a1=some (r0,q0)) [.ptr [.sl true 3 (List.map GSign.enc r1.list),vi r1.at_,vb r1.bad,vi r1.deep,.sl true 4 (List.map (GNode.enc true) r1.nodes)],.val (vi a0),.val (vs a1)] [vb r0] [[.sl true 3 (List.map GSign.enc q0.list),vi q0.at_,vb q0.bad,vi q0.deep,.sl true 4 (List.map (GNode.enc true) q0.nodes)]]:=by
 refine fW Tryz.func99 fun C q=>?_
 unfold cS
 repeat' first | refine And.intro ?_ ?_ | refine Prod.forall.2 ?_ | (intro _;try dsimp only) | refine fS ?_ | exact Z | refine dP 1001 [0,6] [54] (fun v=>[(6,.t (vb v))]) (fun _=>[]) ?_ | refine S ?_
instance e110_:Ent E 110:=aX Tryz.func110
instance c110_ (x1:Int) {r0:Int}:Con E 110 (mG x1=some r0) [.val (vi x1)] [vk .u8 r0] []:=by
 refine fW Tryz.func110 fun C q=>?_
 unfold mG
 repeat' first | refine And.intro ?_ ?_ | refine Prod.forall.2 ?_ | (intro _;try dsimp only) | refine fS ?_ | exact Z | refine S ?_
instance e23_:Ent E 23:=aX Tryz.func23
instance c23_ (n1:Int) (a1:Int) (a0:Int) {r0:Bool}:Con E 23 (eZ n1 a1 a0=some r0) [.val (vi n1),.val (vi a1),.val (vi a0)] [vb r0] []:=by
 refine fW Tryz.func23 fun C q=>?_
 unfold eZ
 repeat' first | refine And.intro ?_ ?_ | refine Prod.forall.2 ?_ | (intro _;try dsimp only) | refine fS ?_ | exact Z | refine cK 1 [6] [] (fun v=>[(6,.t (vb v))]) (fun _=>[]) ?_ | refine S ?_
instance e74_:Ent E 74:=aX Tryz.func74
instance c74_ (b1:Int) {r0:Bool}:Con E 74 (lE b1=some r0) [.val (vk .u8 b1)] [vb r0] []:=by
 refine fW Tryz.func74 fun C q=>?_
 unfold lE
 repeat' first | refine And.intro ?_ ?_ | refine Prod.forall.2 ?_ | (intro _;try dsimp only) | refine fS ?_ | exact Z | refine cK 1 [2] [] (fun v=>[(2,.t (vb v))]) (fun _=>[]) ?_ | refine S ?_
instance e90_:Ent E 90:=aX Tryz.func90
instance c90_ (s1:ByteArray) (a0:ByteArray) {r0:Bool}:Con E 90 (sW s1 a0=some r0) [.val (vs s1),.val (vs a0)] [vb r0] []:=by
 refine fW Tryz.func90 fun C q=>?_
 unfold sW
 repeat' first | refine And.intro ?_ ?_ | refine Prod.forall.2 ?_ | (intro _;try dsimp only) | refine fS ?_ | exact Z | refine cH 2018 [0,8,9,10] [] (fun v=>[(10,.t (vi v))]) (fun _=>[]) (by unfold nL;rfl) ?_ | refine iF 1022 [] [] (fun _=>[]) (fun _=>[]) ?_ | refine S ?_
instance e35_:Ent E 35:=aX Tryz.func35
instance c35_ (a0:Bool) {r0:Int}:Con E 35 (vB a0=some r0) [.val (vb a0)] [vi r0] []:=by
 refine fW Tryz.func35 fun C q=>?_
 unfold vB
 repeat' first | refine And.intro ?_ ?_ | refine Prod.forall.2 ?_ | (intro _;try dsimp only) | refine fS ?_ | exact Z | refine S ?_
instance e45_:Ent E 45:=aX Tryz.func45
instance c45_ (a1:List Int) (b2:List Int) {r0:Bool}:Con E 45 (lD a1 b2=some r0) [.val (.sl false 1 (List.map vi a1)),.val (.sl false 1 (List.map vi b2))] [vb r0] []:=by
 refine fW Tryz.func45 fun C q=>?_
 unfold lD
 repeat' first | refine And.intro ?_ ?_ | refine Prod.forall.2 ?_ | (intro _;try dsimp only) | refine fS ?_ | exact Z | refine cH 4016 [0,1,5] [] (fun v=>[(5,.t (vi v))]) (fun _=>[]) (by unfold fJ;rfl) ?_ | refine iF 3020 [] [] (fun _=>[]) (fun _=>[]) ?_ | refine S ?_
end
theorem res105:Tryz.f105.results.toList=[]:=rfl
theorem aIg:eG E.P 105:=eO Tryz.func105 (by simp [Tryz.f105]) rfl
theorem jU (hb ho:Nat) (m1:Gl05Made) (b2:ByteArray) (m3:Gl01Cur) {q0:Gl05Made} {q2:Gl01Cur} (h:dD m1 b2 m3=some (q0,q2)):OkH E 105 2 [adr hb ho] [.ptr [.v (adr hb ho),.sl false 1 (List.map vs m1.ints),.sl false 1 (List.map vs m1.boxes),vi m1.n,vs m1.text,vb m1.wild],.val (vs b2),.ptr [.sl false 1 (List.map (vk .u8) m3.b),vi m3.i,vi m3.h]] [] [[.v (adr hb ho),.sl false 1 (List.map vs q0.ints),.sl false 1 (List.map vs q0.boxes),vi q0.n,vs q0.text,vb q0.wild],[.sl false 1 (List.map (vk .u8) q2.b),vi q2.i,vi q2.h]]:=by
 refine gU (fn:=Tryz.f105) (vis:=[.ptr [.v (adr hb ho),.sl false 1 (List.map vs m1.ints),.sl false 1 (List.map vs m1.boxes),vi m1.n,vs m1.text,vb m1.wild],.val (vs b2)]) [0,1] [45,47] Tryz.func105 rfl (by simp [Tryz.f105]) rfl rfl rfl rfl fun C hN hP hPK hPKi=>?_
 have y:∀ l,tU [] l=true→lO C.pin l=true:=pO (by rw [hP];rfl)
 have q:C.N=45:=hN
 clear hN
 unfold dD at h
 refine O.zT y ?_
 iterate 2 refine V_q q ?_
 apply aM
 obtain ⟨b7,c5,h⟩:=bS h
 refine O.seqC [0,4] [45,47] (fun _:Unit=>⟨[(0,.ref (.box 45) 0 []),(4,.t (.sl true 1 (List.map vs b7)))],[(45,[.v (adr hb ho),.sl false 1 (List.map vs m1.ints),.sl false 1 (List.map vs m1.boxes),vi m1.n,vs m1.text,vb m1.wild]),(47,[.sl false 1 (List.map (vk .u8) m3.b),vi m3.i,vi m3.h])]⟩) (fun _=>True) (fun _ _=>?_) fun K5 c6=>?_
 rotate_left
 ·refine O.zT y ?_
  refine V_q q ?_
  apply aM
  refine O.block ?_
  refine O.loopO [] [0,1,4,5] [45,47] (fun v:(List ByteArray) × Int=>⟨[(0,.ref (.box 45) 0 []),(1,.t (vs b2)),(4,.t (.sl true 1 (List.map vs v.1))),(5,.t (vi v.2))],[(45,[.v (adr hb ho),.sl false 1 (List.map vs m1.ints),.sl false 1 (List.map vs m1.boxes),vi m1.n,vs m1.text,vb m1.wild]),(47,[.sl false 1 (List.map (vk .u8) m3.b),vi m3.i,vi m3.h])]⟩) (gA m1 b2) _ ([],(0:Int)) c5 (by simp [q]) ?_
  intro g d5 h9 c1
  obtain ⟨b8,i8⟩:=g
  simp only [gA] at h9
  try dsimp only
  refine O.seq ?_
  refine O.zT y ?_
  iterate 7 refine V_q q ?_
  apply aM
  refine O.cI h9 (fun c7 h9=>?_) fun c8 h9=>?_
  ·refine O.skip ?_
   refine O.seq ?_
   refine O.block ?_
   obtain ⟨c9,a5,h9⟩:=bS h9
   refine O.seqRCV rfl (y _ rfl) [0,1,4,5,30] [45,47] (fun _:Unit=>⟨[(0,.ref (.box 45) 0 []),(1,.t (vs b2)),(4,.t (.sl true 1 (List.map vs b8))),(5,.t (vi i8)),(30,.t (vb c9))],[(45,[.v (adr hb ho),.sl false 1 (List.map vs m1.ints),.sl false 1 (List.map vs m1.boxes),vi m1.n,vs m1.text,vb m1.wild]),(47,[.sl false 1 (List.map (vk .u8) m3.b),vi m3.i,vi m3.h])]⟩) (fun _=>True) (fun _ _=>?_) fun d6 b9=>?_
   rotate_left
   ·refine V_q q ?_
    iterate 4 refine V_q q ?_
    obtain ⟨d7,c2,a5⟩:=bS a5
    obtain ⟨a0,a1,a2,a3⟩:=gS c2
    iterate 5 (refine V_q q ?_ rfl (by simp [a0,a1,a2,a3];rfl))
    rcases kC a5 with ⟨a6,a5⟩ | ⟨b6,a5⟩
    ·have a4:=a6
     try simp at a4
     refine jW fun KW hKW=>?_
     refine wO fun K u=>?_;simp [q,a0,a1,a2,a3,a6,a4];apply u
     refine wN (hKW _ ?_);clear hKW
     refine jW fun KW hKW=>?_
     refine wO fun K u=>?_;simp [q,a0,a1,a2,a3,a6,a4];apply u
     refine wN (hKW _ ?_);clear hKW
     refine jW fun KW hKW=>?_
     refine wO fun K u=>?_;simp [q,a0,a1,a2,a3,a6,a4];apply u
     refine wN (hKW _ ?_);clear hKW
     refine jW fun KW hKW=>?_
     refine wO fun K u=>?_;simp [q,a0,a1,a2,a3,a6,a4];apply u
     refine wN (hKW _ ?_);clear hKW
     refine V_q q ?_ rfl (by simp [a0,a1,a2,a3,a6,a4];rfl)
     refine aM ?_
     cases a5
     exact b9 _ () [] trivial (by simp [q,a0,a1,a2,a3,a6,a4])
    have a7:=b6
    try simp at a7
    iterate 5 (refine V_q q ?_ rfl (by simp [a0,a1,a2,a3,b6,a7];rfl))
    refine aM ?_
    cases a5
    exact b9 _ () [] trivial (by simp [q,a0,a1,a2,a3,b6,a7])
   refine O.cI h9 (fun d0 h9=>?_) fun d1 h9=>?_
   ·refine O.zU y ?_
    iterate 6 refine V_q q ?_
    obtain ⟨d2,c3,h9⟩:=bS h9
    obtain ⟨a8,a9,b0,b1⟩:=gS c3
    iterate 3 (refine V_q q ?_ rfl (by simp [a8,a9,b0,b1];rfl))
    obtain ⟨d3,c4,h9⟩:=bS h9
    obtain ⟨b3,b4,c0⟩:=aS c4
    have b5:List.map vs b8 ++ List.map vs [d2]=List.map vs d3:=kQ (f:=vs) c0
    simp [eSl] at b3 b4 b5
    iterate 2 (refine V_q q ?_ rfl (by simp [a8,a9,b0,b1,b3,b4,b5];rfl))
    apply aM
    refine O.zU y ?_
    iterate 3 refine V_q q ?_
    apply aM
    cases h9
    exact ⟨_,[],rfl,by simp [q]⟩
   refine O.skip ?_
   refine O.zU y ?_
   iterate 3 refine V_q q ?_
   apply aM
   cases h9
   exact ⟨_,[],rfl,by simp [q]⟩
  refine O.exit ?_
  have d4:=congrArg some (c1 _ (Option.some.inj h9).symm)
  cases d4
  exact c6 _ () [] trivial (by simp [q])
 refine O.zU y ?_
 iterate 5 refine V_q q ?_
 refine oP 45 2 fun K u=>?_;simp [q];apply u
 apply aM
 cases h
 simp [aO,iB,res105]
end Go.Proofs.T
