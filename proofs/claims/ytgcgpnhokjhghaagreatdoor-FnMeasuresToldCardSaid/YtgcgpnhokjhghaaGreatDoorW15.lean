import Derived.Test.YtgcgpnhokjhghaaGreatDoorW1
import Derived.Test.YtgcgpnhokjhghaaGreatDoorW13
import Derived.Test.YtgcgpnhokjhghaaGreatDoorW4
import Derived.Test.YtgcgpnhokjhghaaGreatDoorW7
set_option linter.unusedVariables false
set_option linter.unusedSimpArgs false
set_option linter.unusedVariables false
set_option linter.unusedSimpArgs false
set_option maxHeartbeats 8000000
set_option maxRecDepth 100000
namespace Go.Proofs.T
open Go.OM
theorem res13:Tryz.f13.results.toList=[.cell 2 32]:=rfl
theorem ent13:cN E.P 13:=eO Tryz.func13 (by simp [Tryz.f13]) rfl
instance c13_ (p1:GProgram) {r0:GMeasure}:Con E 13 (kV p1=some r0) [.val (GProgram.enc false p1)] [GMeasure.enc r0] []:=Con.mk fun h=>by
 refine oB Tryz.func13 rfl (by simp [Tryz.f13]) fun C (q:C.N=83) hP=>?_
 have y:=uM hP
 unfold kV at h
 refine O.zS y ?_
 iterate 2 refine aI q ?_
 apply wN
 refine O.seq ?_
 refine O.zS y ?_
 refine aI q ?_
 obtain ⟨r2,c8,h⟩:=bS h
 refine dW [(.take,.tmp 10)] q (Ent.ok (E:=E) (f:=24)) (Con.ok c8) ?_
 refine aI q ?_
 apply wN
 refine O.cI h (fun e5 h=>?_) fun e6 h=>?_
 ·refine O.zS y ?_
  iterate 2 refine aI q ?_
  apply wN
  cases h
  refine O.ret ?_
  simp [aQ,iB,res13]
 refine O.skip ?_
 refine O.zS y ?_
 iterate 9 refine aI q ?_
 apply wN
 obtain ⟨a1,c9,h⟩:=bS h
 refine O.seqC [1,2,3] [1,2,3] (fun _:Unit=>⟨[(1,.ref (.box 1) 0 []),(2,.ref (.box 2) 0 []),(3,.ref (.box 3) 0 [])],[(1,[.sl false 4 (List.map (GNode.enc false) p1.Nodes),.sl false 5 (List.map (GFn.enc false) p1.Fns)]),(2,[vi 0,vi 0,vi 0,vi 0,vi 0,vi 0,vi 0,vi 0,vi 0]),(3,[vi a1.Fns,vi a1.Nodes,vi a1.Steps,vi a1.Values,vi a1.Blocks,vi a1.Lets,vi a1.News,vi a1.Lends,vi a1.Deep])]⟩) (fun _=>True) (fun _ _=>?_) fun K7 d0=>?_
 rotate_left
 ·refine O.zS y ?_
  iterate 4 refine aI q ?_
  apply wN
  refine O.block ?_
  refine O.loopO [] [1,2,3,22,23,24] [1,2,3] (fun v:Int × GMeasure=>⟨[(1,.ref (.box 1) 0 []),(2,.ref (.box 2) 0 []),(3,.ref (.box 3) 0 []),(22,.t (.sl false 4 (List.map (GNode.enc false) p1.Nodes))),(23,.t (vi (p1.Nodes.length:Int))),(24,.t (vi v.1))],[(1,[.sl false 4 (List.map (GNode.enc false) p1.Nodes),.sl false 5 (List.map (GFn.enc false) p1.Fns)]),(2,[vi 0,vi 0,vi 0,vi 0,vi 0,vi 0,vi 0,vi 0,vi 0]),(3,[vi v.2.Fns,vi v.2.Nodes,vi v.2.Steps,vi v.2.Values,vi v.2.Blocks,vi v.2.Lets,vi v.2.News,vi v.2.Lends,vi v.2.Deep])]⟩) (dV p1) _ ((0:Int),(⟨(p1.Fns.length:Int),(p1.Nodes.length:Int),0,0,0,0,0,0,0⟩:GMeasure)) c9 (by simp [q]) ?_
  intro g e7 a0 b2
  obtain ⟨v9,e8⟩:=g
  simp only [dV] at a0
  try dsimp only
  refine O.zS y ?_
  refine aI q ?_
  apply wN
  refine O.seq ?_
  refine O.cI a0 (fun d1 a0=>?_) fun d2 a0=>?_
  ·refine O.skip ?_
   refine O.seq ?_
   refine O.block ?_
   refine O.zS y ?_
   obtain ⟨e9,b3,a0⟩:=bS a0
   obtain ⟨a4,a5,a6,a7⟩:=gS b3
   iterate 4 (refine aI q ?_ rfl (by simp [a4,a5,a6,a7];rfl))
   iterate 5 first|refine aI q ?_|apply wN|refine O.zS y ?_|refine O.block ?_
   obtain ⟨g0,b4,a0⟩:=bS a0
   refine dW [(.take,.tmp 30)] q (Ent.ok (E:=E) (f:=25)) (Con.ok b4) ?_
   refine aI q ?_
   apply wN
   refine O.cI a0 (fun d3 a0=>?_) fun d4 a0=>?_
   ·refine O.zH y ?_
    iterate 5 refine aI q ?_
    apply wN
    refine O.zH y ?_
    iterate 2 refine aI q ?_
    apply wN
    cases a0
    exact ⟨_,[],rfl,by simp [q]⟩
   refine O.zS y ?_
   iterate 2 refine aI q ?_
   obtain ⟨g1,b5,a0⟩:=bS a0
   refine dW [(.take,.tmp 38)] q (Ent.ok (E:=E) (f:=26)) (Con.ok b5) ?_
   refine aI q ?_
   apply wN
   refine O.cI a0 (fun d5 a0=>?_) fun d6 a0=>?_
   ·refine O.zH y ?_
    iterate 5 refine aI q ?_
    apply wN
    refine O.zH y ?_
    iterate 2 refine aI q ?_
    apply wN
    cases a0
    exact ⟨_,[],rfl,by simp [q]⟩
   refine O.skip ?_
   refine O.zH y ?_
   iterate 2 refine aI q ?_
   apply wN
   cases a0
   exact ⟨_,[],rfl,by simp [q]⟩
  refine O.exit ?_
  have d7:=congrArg some (b2 _ (Option.some.inj a0).symm)
  cases d7
  exact d0 _ () [] trivial (by simp [q])
 refine O.zS y ?_
 refine aI q ?_
 obtain ⟨d8,b6,h⟩:=bS h
 refine dW [(.take,.tmp 45),(.take,.const (.int .i64 20))] q (Ent.ok (E:=E) (f:=9)) (Con.ok b6) ?_
 iterate 5 first|refine aI q ?_|apply wN|refine O.zS y ?_
 obtain ⟨d9,b7,h⟩:=bS h
 refine dW [(.take,.tmp 48),(.take,.const (.int .i64 13))] q (Ent.ok (E:=E) (f:=9)) (Con.ok b7) ?_
 iterate 5 first|refine aI q ?_|apply wN|refine O.zS y ?_
 obtain ⟨e0,b8,h⟩:=bS h
 refine dW [(.take,.tmp 51),(.take,.const (.int .i64 8))] q (Ent.ok (E:=E) (f:=9)) (Con.ok b8) ?_
 iterate 2 refine aI q ?_
 apply wN
 refine O.seq ?_
 obtain ⟨c7,b9,h⟩:=bS h
 refine O.dT rfl (y _ rfl) (en 54 [.t (GProgram.enc false p1),.t (vi c7),.t (GProgram.enc false p1)]) [[],[0],[],[0,1,2],rg 0 4,rg 0 5,rg 0 6] (by simp) (by simp) (by simp [look]) rfl rfl rfl ?_ fun K u=>?_
 ·refine ⟨?_,?_,?_,trivial⟩
  all_goals (intro τ hbx hb hd hf K u;try simp [bM] at hd;simp [bM] at hf;first | (refine wC rfl fun K' w=>?_;simp [q,hbx,hb,hd,hf];exact w _ (wN (u _ (by simp [bM,hbx])))) | (refine wL [(.take,.tmp 54),(.take,.const (.int .i64 5))] rfl rfl (Ent.ok (E:=E) (f:=9)) (Con.ok b9) fun K' w=>?_;simp [q,hbx,hb,hd,hf];exact w _ (wN (u _ (by simp [bM,hbx])))))
 obtain ⟨e1,c0,h⟩:=bS h
 refine dW [(.take,.tmp 56),(.take,.const (.int .i64 6))] q (Ent.ok (E:=E) (f:=9)) (Con.ok c0) ?_
 iterate 3 refine aI q ?_
 apply wN;apply u
 refine O.zS y ?_
 iterate 6 refine aI q ?_
 obtain ⟨⟨c1,g2⟩,c2,h⟩:=bS h
 try dsimp only at h
 refine dW [(.take,.tmp 62),(.take,.tmp 66)] q (Ent.ok (E:=E) (f:=27)) (Con.ok c2) ?_
 iterate 5 refine aI q ?_
 apply wN
 obtain ⟨a2,c3,h⟩:=bS h
 refine O.seqC [2,3] [2,3] (fun _:Unit=>⟨[(2,.ref (.box 2) 0 []),(3,.ref (.box 3) 0 [])],[(2,[vi 0,vi 0,vi 0,vi 0,vi 0,vi 0,vi 0,vi 0,vi 0]),(3,[vi a2.Fns,vi a2.Nodes,vi a2.Steps,vi a2.Values,vi a2.Blocks,vi a2.Lets,vi a2.News,vi a2.Lends,vi a2.Deep])]⟩) (fun _=>True) (fun _ _=>?_) fun g3 c4=>?_
 rotate_left
 ·refine O.zS y ?_
  iterate 3 refine aI q ?_
  apply wN
  refine O.block ?_
  refine O.loopO [] [2,3,6,70,71,72] [2,3] (fun v:Int × GMeasure=>⟨[(2,.ref (.box 2) 0 []),(3,.ref (.box 3) 0 []),(6,.t (.sl true 1 (List.map vi c1))),(70,.al (.slot 6) 0 [] none),(71,.t (vi (c1.length:Int))),(72,.t (vi v.1))],[(2,[vi 0,vi 0,vi 0,vi 0,vi 0,vi 0,vi 0,vi 0,vi 0]),(3,[vi v.2.Fns,vi v.2.Nodes,vi v.2.Steps,vi v.2.Values,vi v.2.Blocks,vi v.2.Lets,vi v.2.News,vi v.2.Lends,vi v.2.Deep])]⟩) (dU c1) _ ((0:Int),(⟨a1.Fns,a1.Nodes,a1.Steps,a1.Values,d8,d9,e0,IntKind.wrap .i64 (c7 + e1),a1.Deep⟩:GMeasure)) c3 (by simp [q]) ?_
  intro g g4 a3 c5
  obtain ⟨g5,g6⟩:=g
  simp only [dU] at a3
  try dsimp only
  refine O.zS y ?_
  refine aI q ?_
  apply wN
  refine O.seq ?_
  refine O.cI a3 (fun e2 a3=>?_) fun e3 a3=>?_
  ·refine O.skip ?_
   refine O.seq ?_
   refine O.block ?_
   refine O.zS y ?_
   obtain ⟨g7,c6,a3⟩:=bS a3
   obtain ⟨a8,a9,b0,b1⟩:=gS c6
   iterate 3 (refine aI q ?_ rfl (by simp [a8,a9,b0,b1];rfl))
   apply wN
   refine O.zH y ?_
   iterate 6 refine aI q ?_
   apply wN
   refine O.zH y ?_
   iterate 2 refine aI q ?_
   apply wN
   cases a3
   exact ⟨_,[],rfl,by simp [q]⟩
  refine O.exit ?_
  have e4:=congrArg some (c5 _ (Option.some.inj a3).symm)
  cases e4
  exact c4 _ () [] trivial (by simp [q])
 refine O.zS y ?_
 iterate 2 refine aI q ?_
 apply wN
 cases h
 refine O.ret ?_
 simp [aQ,iB,res13]
instance e13_:Ent E 13:=⟨ent13⟩
end Go.Proofs.T
