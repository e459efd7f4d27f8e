import Derived.Test.YteibeahceppedaaGreatDoorW20
import Derived.Test.YteibeahceppedaaGreatDoorW21
import Derived.Test.YteibeahceppedaaGreatDoorW6
import Derived.Test.YteibeahceppedaaGreatDoorW7
set_option linter.unusedVariables false
set_option linter.unusedSimpArgs false
set_option linter.unusedVariables false
set_option linter.unusedSimpArgs false
set_option maxHeartbeats 8000000
set_option maxRecDepth 100000
namespace Go.Proofs.T
open Go.OM
theorem res40:Tryz.f40.results.toList=[.cell 2 27]:=rfl
theorem ent40:eG E.P 40:=eO Tryz.func40 (by simp [Tryz.f40]) rfl
instance c40_ (c1:Gl01Cur) {r0:GProgram} {q0:Gl01Cur}:Con E 40 (iU c1=some (r0,q0)) [.ptr [.sl false 1 (List.map (vk .u8) c1.b),vi c1.i,vi c1.h]] [GProgram.enc true r0] [[.sl false 1 (List.map (vk .u8) q0.b),vi q0.i,vi q0.h]]:=Con.mk fun h=>by
 refine oB Tryz.func40 rfl (by simp [Tryz.f40]) fun C (q:C.N=35) hP=>?_
 have y:=zZ hP
 unfold iU at h
 iterate 6 first|refine V_q q ?_|apply aM|refine O.zT y ?_
 refine vM 8 fun K u=>?_;simp [q];apply u
 obtain ⟨⟨r2,q3⟩,c0,h⟩:=bS h
 try dsimp only at h
 refine jW fun KW hKW=>?_
 refine hE [((.ptr 3),.tmp 7),(.take,.tmp 8)] q (Ent.ok (E:=E) (f:=55)) (Con.ok c0) ?_
 refine wN (hKW _ ?_);clear hKW
 obtain ⟨t5,c2,h⟩:=bS h
 obtain ⟨a7,a8⟩:=aB c2
 refine V_q q ?_ rfl (by simp [a7,a8];rfl)
 obtain ⟨t6,c3,h⟩:=bS h
 obtain ⟨a9,b0⟩:=aB c3
 refine V_q q ?_ rfl (by simp [a9,b0];rfl)
 refine V_q q ?_
 apply aM
 obtain ⟨⟨c4,b1⟩,c5,h⟩:=bS h
 try dsimp only at h
 refine O.seqC [0,2,3] [2,35] (fun _:Unit=>⟨[(0,.ref (.box 35) 0 []),(2,.ref (.box 2) 0 []),(3,.t (vs c4))],[(2,[.sl true 4 [],.sl true 5 []]),(35,[.sl false 1 (List.map (vk .u8) b1.b),vi b1.i,vi b1.h])]⟩) (fun _=>True) (fun _ _=>?_) fun K8 c6=>?_
 rotate_left
 ·refine O.zT y ?_
  refine V_q q ?_
  apply aM
  refine O.block ?_
  refine O.loopO [] [0,2,3,4] [2,35] (fun v:ByteArray × Int × Gl01Cur=>⟨[(0,.ref (.box 35) 0 []),(2,.ref (.box 2) 0 []),(3,.t (vs v.1)),(4,.t (vi v.2.1))],[(2,[.sl true 4 [],.sl true 5 []]),(35,[.sl false 1 (List.map (vk .u8) v.2.2.b),vi v.2.2.i,vi v.2.2.h])]⟩) (iP) _ (t6,(0:Int),q3) c5 (by simp [q]) ?_
  intro g d2 a0 b2
  obtain ⟨d3,d4,d5⟩:=g
  simp only [iP] at a0
  try dsimp only
  refine O.seq ?_
  refine O.zT y ?_
  iterate 2 refine V_q q ?_
  obtain ⟨⟨d6,d7⟩,b3,a0⟩:=bS a0
  try dsimp only at a0
  refine jW fun KW hKW=>?_
  refine hE [((.ptr 3),.tmp 13),(.take,.const (.int .i64 4))] q (Ent.ok (E:=E) (f:=33)) (Con.ok b3) ?_
  refine wN (hKW _ ?_);clear hKW
  refine V_q q ?_
  apply aM
  refine O.cI a0 (fun c7 a0=>?_) fun c8 a0=>?_
  ·refine O.skip ?_
   refine O.seq ?_
   refine O.block ?_
   refine O.zU y ?_
   iterate 3 refine V_q q ?_
   refine vM 20 fun K u=>?_;simp [q];apply u
   obtain ⟨⟨d8,d9⟩,b4,a0⟩:=bS a0
   try dsimp only at a0
   refine jW fun KW hKW=>?_
   refine hE [((.ptr 3),.tmp 19),(.take,.tmp 20)] q (Ent.ok (E:=E) (f:=55)) (Con.ok b4) ?_
   refine wN (hKW _ ?_);clear hKW
   obtain ⟨e0,b5,a0⟩:=bS a0
   obtain ⟨a1,a2⟩:=aB b5
   refine V_q q ?_ rfl (by simp [a1,a2];rfl)
   obtain ⟨e1,b6,a0⟩:=bS a0
   obtain ⟨a3,a4⟩:=aB b6
   refine V_q q ?_ rfl (by simp [a3,a4];rfl)
   refine V_q q ?_
   apply aM
   refine O.zU y ?_
   iterate 3 refine V_q q ?_
   apply aM
   cases a0
   exact ⟨_,[],rfl,by simp [q]⟩
  refine O.exit ?_
  have c9:=congrArg some (b2 _ (Option.some.inj a0).symm)
  cases c9
  exact c6 _ () [] trivial (by simp [q])
 refine O.zT y ?_
 refine V_q q ?_
 obtain ⟨e2,b7,h⟩:=bS h
 obtain ⟨a5,a6⟩:=aB b7
 refine V_q q ?_ rfl (by simp [a5,a6];rfl)
 obtain ⟨⟨e3,e4⟩,b8,h⟩:=bS h
 try dsimp only at h
 refine jW fun KW hKW=>?_
 refine hE [(.take,.tmp 26)] q ent56 (Con.ok b8) ?_
 refine wN (hKW _ ?_);clear hKW
 iterate 6 refine V_q q ?_
 apply aM
 refine O.seq ?_
 refine O.zT y ?_
 iterate 2 refine V_q q ?_
 apply aM
 refine O.cI h (fun d0 h=>?_) fun d1 h=>?_
 ·refine O.zT y ?_
  refine V_q q ?_
  obtain ⟨⟨e5,e6⟩,b9,h⟩:=bS h
  try dsimp only at h
  refine jW fun KW hKW=>?_
  refine hE [((.ptr 3),.tmp 32)] q (Ent.ok (E:=E) (f:=54)) (Con.ok b9) ?_
  refine wN (hKW _ ?_);clear hKW
  refine V_q q ?_
  apply aM
  cases h
  refine O.ret ?_
  simp [aO,iB,res40]
 refine O.skip ?_
 refine O.zT y ?_
 iterate 2 refine V_q q ?_
 apply aM
 cases h
 refine O.ret ?_
 simp [aO,iB,res40]
instance e40_:Ent E 40:=⟨ent40⟩
end Go.Proofs.T
