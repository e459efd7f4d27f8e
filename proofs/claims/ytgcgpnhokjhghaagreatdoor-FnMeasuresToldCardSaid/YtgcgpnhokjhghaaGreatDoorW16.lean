import Derived.Test.YtgcgpnhokjhghaaGreatDoorW13
import Derived.Test.YtgcgpnhokjhghaaGreatDoorW2
import Derived.Test.YtgcgpnhokjhghaaGreatDoorW4
set_option linter.unusedVariables false
set_option linter.unusedSimpArgs false
set_option linter.unusedVariables false
set_option linter.unusedSimpArgs false
set_option maxHeartbeats 8000000
set_option maxRecDepth 100000
namespace Go.Proofs.T
open Go.OM
theorem res22:Tryz.f22.results.toList=[.tmp 4]:=rfl
theorem ent22:cN E.P 22:=eO Tryz.func22 (by simp [Tryz.f22]) rfl
instance c22_ (p1:GProgram) (d0:Int) {r0:List Int}:Con E 22 (mT p1 d0=some r0) [.val (GProgram.enc false p1),.val (vi d0)] [.sl true 1 (List.map vi r0)] []:=Con.mk fun h=>by
 refine oB Tryz.func22 rfl (by simp [Tryz.f22]) fun C (q:C.N=39) hP=>?_
 have y:=uM hP
 unfold mT at h
 iterate 7 first|refine aI q ?_|apply wN|refine O.zS y ?_
 obtain ⟨a6,b8,h⟩:=bS h
 refine O.seqC [5] [] (fun _:Unit=>⟨[(5,.t (.sl true 1 (List.map vi a6)))],[]⟩) (fun _=>True) (fun _ _=>?_) fun K4 d1=>?_
 rotate_left
 ·refine O.zS y ?_
  iterate 2 refine aI q ?_
  obtain ⟨r6,d2,b8⟩:=bS b8
  refine dW [(.take,.tmp 10),(.take,.tmp 11)] q (Ent.ok (E:=E) (f:=38)) (Con.ok d2) ?_
  iterate 2 refine aI q ?_
  apply wN
  refine O.block ?_
  refine O.loopO [] [2,5,12,13,14] [2] (fun v:(List Int) × Int=>⟨[(2,.ref (.box 2) 0 []),(5,.t (.sl true 1 (List.map vi v.1))),(12,.t (.sl true 1 (List.map vi r6))),(13,.t (vi (r6.length:Int))),(14,.t (vi v.2))],[(2,[.sl false 4 (List.map (GNode.enc false) p1.Nodes),.sl false 5 (List.map (GFn.enc false) p1.Fns)])]⟩) (eR p1 r6) _ ([],(0:Int)) b8 (by simp [q]) ?_
  intro g e3 a2 b9
  obtain ⟨c0,v9⟩:=g
  simp only [eR] at a2
  try dsimp only
  refine O.zS y ?_
  refine aI q ?_
  apply wN
  refine O.seq ?_
  refine O.cI a2 (fun d3 a2=>?_) fun d4 a2=>?_
  ·refine O.skip ?_
   obtain ⟨a7,a1,a2⟩:=bS a2
   refine O.seqC [2,5,12,13,14] [2] (fun _:Unit=>⟨[(2,.ref (.box 2) 0 []),(5,.t (.sl true 1 (List.map vi a7))),(12,.t (.sl true 1 (List.map vi r6))),(13,.t (vi (r6.length:Int))),(14,.t (vi v9))],[(2,[.sl false 4 (List.map (GNode.enc false) p1.Nodes),.sl false 5 (List.map (GFn.enc false) p1.Fns)])]⟩) (fun _=>True) (fun _ _=>?_) fun e4 c1=>?_
   rotate_left
   ·refine O.block ?_
    refine O.zS y ?_
    obtain ⟨e5,c2,a1⟩:=bS a1
    obtain ⟨a8,a9,b0,b1⟩:=gS c2
    iterate 3 (refine aI q ?_ rfl (by simp [a8,a9,b0,b1];rfl))
    apply wN
    refine O.zS y ?_
    iterate 2 refine aI q ?_
    obtain ⟨c3,c4,a1⟩:=bS a1
    refine dW [(.take,.tmp 18),(.take,.tmp 19)] q (Ent.ok (E:=E) (f:=39)) (Con.ok c4) ?_
    iterate 2 refine aI q ?_
    apply wN
    refine O.block ?_
    refine O.loopO [] [2,5,12,13,14,20,21,22] [2] (fun v:(List Int) × Int=>⟨[(2,.ref (.box 2) 0 []),(5,.t (.sl true 1 (List.map vi v.1))),(12,.t (.sl true 1 (List.map vi r6))),(13,.t (vi (r6.length:Int))),(14,.t (vi v9)),(20,.t (.sl true 1 (List.map vi c3))),(21,.t (vi (c3.length:Int))),(22,.t (vi v.2))],[(2,[.sl false 4 (List.map (GNode.enc false) p1.Nodes),.sl false 5 (List.map (GFn.enc false) p1.Fns)])]⟩) (gD c3) _ (c0,(0:Int)) a1 (by simp [q]) ?_
    intro g e6 a0 c5
    obtain ⟨b2,e7⟩:=g
    simp only [gD] at a0
    try dsimp only
    refine O.zS y ?_
    refine aI q ?_
    apply wN
    refine O.seq ?_
    refine O.cI a0 (fun d5 a0=>?_) fun d6 a0=>?_
    ·refine O.skip ?_
     refine O.seq ?_
     refine O.block ?_
     refine O.zS y ?_
     obtain ⟨d7,c6,a0⟩:=bS a0
     obtain ⟨b3,b4,b5,b6⟩:=gS c6
     iterate 3 (refine aI q ?_ rfl (by simp [b3,b4,b5,b6];rfl))
     apply wN
     refine O.zS y ?_
     iterate 2 refine aI q ?_
     obtain ⟨e8,c7,a0⟩:=bS a0
     refine dW [(.bor,.tmp 26),(.take,.tmp 27)] q (Ent.ok (E:=E) (f:=40)) (Con.ok c7) ?_
     refine aI q ?_
     apply wN
     refine O.cI a0 (fun d8 a0=>?_) fun d9 a0=>?_
     ·refine O.zH y ?_
      iterate 3 refine aI q ?_
      obtain ⟨e0,c8,a0⟩:=bS a0
      obtain ⟨a3,a4,b7⟩:=aS c8
      have a5:List.map vi b2 ++ List.map vi [d7]=List.map vi e0:=lY (f:=vi) b7
      simp [eSl] at a3 a4 a5
      iterate 2 (refine aI q ?_ rfl (by simp [a3,a4,a5];rfl))
      apply wN
      refine O.zH y ?_
      iterate 2 refine aI q ?_
      apply wN
      cases a0
      exact ⟨_,[],rfl,by simp [q]⟩
     refine O.skip ?_
     refine O.zH y ?_
     iterate 2 refine aI q ?_
     apply wN
     cases a0
     exact ⟨_,[],rfl,by simp [q]⟩
    refine O.exit ?_
    have e1:=congrArg some (c5 _ (Option.some.inj a0).symm)
    cases e1
    exact c1 _ () [] trivial (by simp [q])
   refine O.zH y ?_
   iterate 2 refine aI q ?_
   apply wN
   cases a2
   exact ⟨_,[],rfl,by simp [q]⟩
  refine O.exit ?_
  have e2:=congrArg some (b9 _ (Option.some.inj a2).symm)
  cases e2
  exact d1 _ () [] trivial (by simp [q])
 refine O.zS y ?_
 refine aI q ?_
 obtain ⟨e9,c9,h⟩:=bS h
 refine aA8 rfl ent41 (wT _ c9) fun K u=>?_;simp [q];apply u
 iterate 5 first|refine aI q ?_|apply wN|refine O.zS y ?_
 cases h
 refine O.ret ?_
 simp [aQ,iB,res22]
instance e22_:Ent E 22:=⟨ent22⟩
end Go.Proofs.T
