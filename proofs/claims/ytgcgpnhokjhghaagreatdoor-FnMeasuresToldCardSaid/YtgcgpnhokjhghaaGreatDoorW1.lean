import Derived.Test.YtgcgpnhokjhghaaGreatDoorTA
set_option linter.unusedVariables false
set_option linter.unusedSimpArgs false
set_option linter.unusedVariables false
set_option linter.unusedSimpArgs false
set_option maxHeartbeats 8000000
set_option maxRecDepth 100000
namespace Go.Proofs.T
open Go.OM
section
attribute [local irreducible] Hg O St.wps aQ iB Lv Ct Lp VL Option.bind bD sAt gB bC cE mkI gK iZ bO aJ ite Dr
instance e4_:Ent E 4:=aZ Tryz.func4
instance c4_ (a0:List Int) {r0:Bool}:Con E 4 (xR a0=some r0) [.val (.sl false 1 (List.map (vk .u8) a0))] [vb r0] []:=by
 refine iA Tryz.func4 fun C q=>?_
 unfold xR
 repeat' first | refine And.intro ?_ ?_ | refine Prod.forall.2 ?_ | (intro _;try dsimp only) | refine gW ?_ | exact Z | refine S ?_
instance e35_:Ent E 35:=aZ Tryz.func35
instance c35_ (c1:Gl01Cur) {r0:Int} {q0:Gl01Cur}:Con E 35 (fI c1=some (r0,q0)) [.ptr [.sl false 1 (List.map (vk .u8) c1.b),vi c1.i,vi c1.h]] [vi r0] [[.sl false 1 (List.map (vk .u8) q0.b),vi q0.i,vi q0.h]]:=by
 refine iA Tryz.func35 fun C q=>?_
 unfold fI
 repeat' first | refine And.intro ?_ ?_ | refine Prod.forall.2 ?_ | (intro _;try dsimp only) | refine gW ?_ | exact Z | refine S ?_
instance e82_:Ent E 82:=aZ Tryz.func82
instance c82_ (b1:Int) {r0:Bool}:Con E 82 (dM b1=some r0) [.val (vk .u8 b1)] [vb r0] []:=by
 refine iA Tryz.func82 fun C q=>?_
 unfold dM
 repeat' first | refine And.intro ?_ ?_ | refine Prod.forall.2 ?_ | (intro _;try dsimp only) | refine gW ?_ | exact Z | refine dL 1 [2] [] (fun v=>[(2,.t (vb v))]) (fun _=>[]) ?_ | refine S ?_
instance e68_:Ent E 68:=aZ Tryz.func68
instance c68_ (x1:Int) {r0:Int}:Con E 68 (mB x1=some r0) [.val (vi x1)] [vk .u8 r0] []:=by
 refine iA Tryz.func68 fun C q=>?_
 unfold mB
 repeat' first | refine And.intro ?_ ?_ | refine Prod.forall.2 ?_ | (intro _;try dsimp only) | refine gW ?_ | exact Z | refine S ?_
instance e9_:Ent E 9:=aZ Tryz.func9
instance c9_ (p1:GProgram) (a0:Int) {r0:Int}:Con E 9 (dN p1 a0=some r0) [.val (GProgram.enc false p1),.val (vi a0)] [vi r0] []:=by
 refine iA Tryz.func9 fun C q=>?_
 unfold dN
 repeat' first | refine And.intro ?_ ?_ | refine Prod.forall.2 ?_ | (intro _;try dsimp only) | refine gW ?_ | exact Z | refine dG 3016 [1,5,9,10,11] [] (fun v=>[(5,.t (vi v.1)),(11,.t (vi v.2))]) (fun _=>[]) (by unfold pX;rfl) ?_ | refine eJ 2020 [5] [] (fun v=>[(5,.t (vi v))]) (fun _=>[]) ?_ | refine S ?_
instance e47_:Ent E 47:=aZ Tryz.func47
instance c47_ (p1:GProgram) (a0:ByteArray) {r0:Int}:Con E 47 (rV p1 a0=some r0) [.val (GProgram.enc false p1),.val (vs a0)] [vi r0] []:=by
 refine iA Tryz.func47 fun C q=>?_
 unfold rV
 repeat' first | refine And.intro ?_ ?_ | refine Prod.forall.2 ?_ | (intro _;try dsimp only) | refine gW ?_ | exact Z | refine dG 2018 [1,8,9,10] [] (fun v=>[(10,.t (vi v))]) (fun _=>[]) (by unfold mW;rfl) ?_ | refine jZ 1022 [] [] (fun _=>[]) (fun _=>[]) ?_ | refine S ?_
end
theorem res121:Tryz.f121.results.toList=[]:=rfl
theorem aJ0:cN E.P 121:=eO Tryz.func121 (by simp [Tryz.f121]) rfl
theorem jO (hb ho:Nat) (m1:Gl05Made) (b2:ByteArray) (m3:Gl01Cur) {q0:Gl05Made} {q2:Gl01Cur} (h:cW m1 b2 m3=some (q0,q2)):OkH E 121 2 [adr hb ho] [.ptr [.v (adr hb ho),.sl false 1 (List.map vs m1.ints),.sl false 1 (List.map vs m1.boxes),vi m1.n,vs m1.text,vb m1.wild],.val (vs b2),.ptr [.sl false 1 (List.map (vk .u8) m3.b),vi m3.i,vi m3.h]] [] [[.v (adr hb ho),.sl false 1 (List.map vs q0.ints),.sl false 1 (List.map vs q0.boxes),vi q0.n,vs q0.text,vb q0.wild],[.sl false 1 (List.map (vk .u8) q2.b),vi q2.i,vi q2.h]]:=by
 refine gL (fn:=Tryz.f121) (vis:=[.ptr [.v (adr hb ho),.sl false 1 (List.map vs m1.ints),.sl false 1 (List.map vs m1.boxes),vi m1.n,vs m1.text,vb m1.wild],.val (vs b2)]) [0,1] [45,47] Tryz.func121 rfl (by simp [Tryz.f121]) rfl rfl rfl rfl fun C hN hP hPK hPKi=>?_
 have y:∀ l,tI [] l=true→lO C.pin l=true:=pO (by rw [hP];rfl)
 have q:C.N=45:=hN
 clear hN
 unfold cW at h
 refine O.zT y ?_
 iterate 2 refine V_q q ?_
 apply aP
 obtain ⟨b7,c5,h⟩:=bS h
 refine O.seqC [0,4] [45,47] (fun _:Unit=>⟨[(0,.ref (.box 45) 0 []),(4,.t (.sl true 1 (List.map vs b7)))],[(45,[.v (adr hb ho),.sl false 1 (List.map vs m1.ints),.sl false 1 (List.map vs m1.boxes),vi m1.n,vs m1.text,vb m1.wild]),(47,[.sl false 1 (List.map (vk .u8) m3.b),vi m3.i,vi m3.h])]⟩) (fun _=>True) (fun _ _=>?_) fun K5 c6=>?_
 rotate_left
 ·refine O.zT y ?_
  refine V_q q ?_
  apply aP
  refine O.block ?_
  refine O.loopO [] [0,1,4,5] [45,47] (fun v:(List ByteArray) × Int=>⟨[(0,.ref (.box 45) 0 []),(1,.t (vs b2)),(4,.t (.sl true 1 (List.map vs v.1))),(5,.t (vi v.2))],[(45,[.v (adr hb ho),.sl false 1 (List.map vs m1.ints),.sl false 1 (List.map vs m1.boxes),vi m1.n,vs m1.text,vb m1.wild]),(47,[.sl false 1 (List.map (vk .u8) m3.b),vi m3.i,vi m3.h])]⟩) (fU m1 b2) _ ([],(0:Int)) c5 (by simp [q]) ?_
  intro g d5 h9 c1
  obtain ⟨b8,i8⟩:=g
  simp only [fU] at h9
  try dsimp only
  refine O.seq ?_
  refine O.zT y ?_
  iterate 7 refine V_q q ?_
  apply aP
  refine O.cI h9 (fun c7 h9=>?_) fun c8 h9=>?_
  ·refine O.skip ?_
   refine O.seq ?_
   refine O.block ?_
   obtain ⟨c9,a5,h9⟩:=bS h9
   refine O.seqRCV rfl (y _ rfl) [0,1,4,5,30] [45,47] (fun _:Unit=>⟨[(0,.ref (.box 45) 0 []),(1,.t (vs b2)),(4,.t (.sl true 1 (List.map vs b8))),(5,.t (vi i8)),(30,.t (vb c9))],[(45,[.v (adr hb ho),.sl false 1 (List.map vs m1.ints),.sl false 1 (List.map vs m1.boxes),vi m1.n,vs m1.text,vb m1.wild]),(47,[.sl false 1 (List.map (vk .u8) m3.b),vi m3.i,vi m3.h])]⟩) (fun _=>True) (fun _ _=>?_) fun d6 b9=>?_
   rotate_left
   ·refine V_q q ?_
    iterate 4 refine V_q q ?_
    obtain ⟨d7,c2,a5⟩:=bS a5
    obtain ⟨a0,a1,a2,a3⟩:=gS c2
    iterate 5 (refine V_q q ?_ rfl (by simp [a0,a1,a2,a3];rfl))
    rcases oR a5 with ⟨a6,a5⟩ | ⟨b6,a5⟩
    ·have a4:=a6
     try simp at a4
     refine lK fun KW hKW=>?_
     refine wO fun K u=>?_;simp [q,a0,a1,a2,a3,a6,a4];apply u
     refine wN (hKW _ ?_);clear hKW
     refine lK fun KW hKW=>?_
     refine wO fun K u=>?_;simp [q,a0,a1,a2,a3,a6,a4];apply u
     refine wN (hKW _ ?_);clear hKW
     refine lK fun KW hKW=>?_
     refine wO fun K u=>?_;simp [q,a0,a1,a2,a3,a6,a4];apply u
     refine wN (hKW _ ?_);clear hKW
     refine lK fun KW hKW=>?_
     refine wO fun K u=>?_;simp [q,a0,a1,a2,a3,a6,a4];apply u
     refine wN (hKW _ ?_);clear hKW
     refine V_q q ?_ rfl (by simp [a0,a1,a2,a3,a6,a4];rfl)
     refine aP ?_
     cases a5
     exact b9 _ () [] trivial (by simp [q,a0,a1,a2,a3,a6,a4])
    have a7:=b6
    try simp at a7
    iterate 5 (refine V_q q ?_ rfl (by simp [a0,a1,a2,a3,b6,a7];rfl))
    refine aP ?_
    cases a5
    exact b9 _ () [] trivial (by simp [q,a0,a1,a2,a3,b6,a7])
   refine O.cI h9 (fun d0 h9=>?_) fun d1 h9=>?_
   ·refine O.zU y ?_
    iterate 6 refine V_q q ?_
    obtain ⟨d2,c3,h9⟩:=bS h9
    obtain ⟨a8,a9,b0,b1⟩:=gS c3
    iterate 3 (refine V_q q ?_ rfl (by simp [a8,a9,b0,b1];rfl))
    obtain ⟨d3,c4,h9⟩:=bS h9
    obtain ⟨b3,b4,c0⟩:=aS c4
    have b5:List.map vs b8 ++ List.map vs [d2]=List.map vs d3:=lY (f:=vs) c0
    simp [eSl] at b3 b4 b5
    iterate 2 (refine V_q q ?_ rfl (by simp [a8,a9,b0,b1,b3,b4,b5];rfl))
    apply aP
    refine O.zU y ?_
    iterate 3 refine V_q q ?_
    apply aP
    cases h9
    exact ⟨_,[],rfl,by simp [q]⟩
   refine O.skip ?_
   refine O.zU y ?_
   iterate 3 refine V_q q ?_
   apply aP
   cases h9
   exact ⟨_,[],rfl,by simp [q]⟩
  refine O.exit ?_
  have d4:=congrArg some (c1 _ (Option.some.inj h9).symm)
  cases d4
  exact c6 _ () [] trivial (by simp [q])
 refine O.zU y ?_
 iterate 5 refine V_q q ?_
 refine oF 45 2 fun K u=>?_;simp [q];apply u
 apply aP
 cases h
 simp [aQ,iB,res121]
end Go.Proofs.T
