import Derived.Test.YtgcgpnhokjhghaaGreatDoorW11
import Derived.Test.YtgcgpnhokjhghaaGreatDoorW21
import Derived.Test.YtgcgpnhokjhghaaGreatDoorW3
import Derived.Test.YtgcgpnhokjhghaaGreatDoorW4
import Derived.Test.YtgcgpnhokjhghaaGreatDoorW5
set_option linter.unusedVariables false
set_option linter.unusedSimpArgs false
set_option linter.unusedVariables false
set_option linter.unusedSimpArgs false
set_option maxHeartbeats 8000000
set_option maxRecDepth 100000
namespace Go.Proofs.T
open Go.OM
theorem res5:Tryz.f5.results.toList=[.cell 2 27,.tmp 3]:=rfl
theorem ent5:cN E.P 5:=eO Tryz.func5 (by simp [Tryz.f5]) rfl
instance c5_ (a0:List Int) {r0:GProgram} {r1:Int}:Con E 5 (fJ a0=some (r0,r1)) [.val (.sl false 1 (List.map (vk .u8) a0))] [GProgram.enc true r0,vi r1] []:=Con.mk fun h=>by
 refine oB Tryz.func5 rfl (by simp [Tryz.f5]) fun C (q:C.N=13) hP=>?_
 have y:=uM hP
 unfold fJ at h
 iterate 6 first|refine V_q q ?_|apply aP|refine O.zT y ?_
 obtain ⟨r2,a1,h⟩:=bS h
 refine aC8 [(.take,.tmp 6)] 7 3 rfl rfl rfl aKp rfl (lZ _ a1) rfl fun K u=>?_;simp [q];apply u
 iterate 4 first|refine V_q q ?_|apply aP|refine O.zT y ?_
 obtain ⟨⟨r4,q5⟩,a2,h⟩:=bS h
 try dsimp only at h
 refine lK fun KW hKW=>?_
 refine dW [((.ptr 3),.tmp 8),(.take,.const (.int .i64 22))] q (Ent.ok (E:=E) (f:=18)) (Con.ok a2) ?_
 refine wN (hKW _ ?_);clear hKW
 iterate 4 first|refine V_q q ?_|apply aP|refine O.zT y ?_
 obtain ⟨⟨r7,q8⟩,a3,h⟩:=bS h
 try dsimp only at h
 refine lK fun KW hKW=>?_
 refine dW [((.ptr 3),.tmp 10)] q aIz (Con.ok a3) ?_
 refine wN (hKW _ ?_);clear hKW
 iterate 3 refine V_q q ?_
 apply aP
 cases h
 refine O.ret ?_
 simp [aQ,iB,res5]
instance e5_:Ent E 5:=⟨ent5⟩
theorem res20:Tryz.f20.results.toList=[.cell 2 27,.tmp 3]:=rfl
theorem ent20:cN E.P 20:=eO Tryz.func20 (by simp [Tryz.f20]) rfl
instance c20_ (a0:List Int) {r0:GProgram} {r1:Int}:Con E 20 (mF a0=some (r0,r1)) [.val (.sl false 1 (List.map (vk .u8) a0))] [GProgram.enc true r0,vi r1] []:=Con.mk fun h=>by
 refine oB Tryz.func20 rfl (by simp [Tryz.f20]) fun C (q:C.N=14) hP=>?_
 have y:=uM hP
 unfold mF at h
 iterate 6 first|refine V_q q ?_|apply aP|refine O.zT y ?_
 obtain ⟨r2,a1,h⟩:=bS h
 refine aC8 [(.take,.tmp 6)] 7 3 rfl rfl rfl aKp rfl (lZ _ a1) rfl fun K u=>?_;simp [q];apply u
 iterate 4 first|refine V_q q ?_|apply aP|refine O.zT y ?_
 obtain ⟨⟨r4,q5⟩,a2,h⟩:=bS h
 try dsimp only at h
 refine lK fun KW hKW=>?_
 refine dW [((.ptr 3),.tmp 8),(.take,.const (.int .i64 5))] q (Ent.ok (E:=E) (f:=18)) (Con.ok a2) ?_
 refine wN (hKW _ ?_);clear hKW
 iterate 5 first|refine V_q q ?_|apply aP|refine O.zT y ?_
 obtain ⟨⟨r7,q8⟩,a3,h⟩:=bS h
 try dsimp only at h
 refine lK fun KW hKW=>?_
 refine dW [((.ptr 3),.tmp 11)] q aIz (Con.ok a3) ?_
 refine wN (hKW _ ?_);clear hKW
 iterate 3 refine V_q q ?_
 apply aP
 cases h
 refine O.ret ?_
 simp [aQ,iB,res20]
instance e20_:Ent E 20:=⟨ent20⟩
theorem res7:Tryz.f7.results.toList=[.cell 2 27]:=rfl
theorem ent7:cN E.P 7:=eO Tryz.func7 (by simp [Tryz.f7]) rfl
instance c7_ (a0:List Int) {r0:GProgram}:Con E 7 (gA a0=some r0) [.val (.sl false 1 (List.map (vk .u8) a0))] [GProgram.enc true r0] []:=Con.mk fun h=>by
 refine oB Tryz.func7 rfl (by simp [Tryz.f7]) fun C (q:C.N=6) hP=>?_
 have y:=uM hP
 unfold gA at h
 iterate 5 first|refine V_q q ?_|apply aP|refine O.zT y ?_
 obtain ⟨r2,a1,h⟩:=bS h
 refine aC8 [(.take,.tmp 3)] 4 3 rfl rfl rfl aKp rfl (lZ _ a1) rfl fun K u=>?_;simp [q];apply u
 obtain ⟨⟨r4,q5⟩,a2,h⟩:=bS h
 try dsimp only at h
 refine lK fun KW hKW=>?_
 refine dW [((.ptr 3),.tmp 4)] q aIz (Con.ok a2) ?_
 refine wN (hKW _ ?_);clear hKW
 refine V_q q ?_
 apply aP
 cases h
 refine O.ret ?_
 simp [aQ,iB,res7]
instance e7_:Ent E 7:=⟨ent7⟩
theorem res8:Tryz.f8.results.toList=[.cell 2 32]:=rfl
theorem ent8:cN E.P 8:=eO Tryz.func8 (by simp [Tryz.f8]) rfl
instance c8_ (a0:List Int) {r0:GMeasure}:Con E 8 (dY a0=some r0) [.val (.sl false 1 (List.map (vk .u8) a0))] [GMeasure.enc r0] []:=Con.mk fun h=>by
 refine oB Tryz.func8 rfl (by simp [Tryz.f8]) fun C (q:C.N=14) hP=>?_
 have y:=uM hP
 unfold dY at h
 iterate 5 first|refine V_q q ?_|apply aP|refine O.zT y ?_
 obtain ⟨r2,a2,h⟩:=bS h
 refine aC8 [(.take,.tmp 5)] 6 3 rfl rfl rfl aKp rfl (lZ _ a2) rfl fun K u=>?_;simp [q];apply u
 iterate 4 first|refine V_q q ?_|apply aP|refine O.zT y ?_
 obtain ⟨⟨r4,q5⟩,a3,h⟩:=bS h
 try dsimp only at h
 refine lK fun KW hKW=>?_
 refine dW [((.ptr 3),.tmp 7)] q aIz (Con.ok a3) ?_
 refine wN (hKW _ ?_);clear hKW
 obtain ⟨r7,a4,h⟩:=bS h
 refine lK fun KW hKW=>?_
 refine dW [(.bor,.tmp 8)] q ent14 (Con.ok a4) ?_
 refine wN (hKW _ ?_);clear hKW
 iterate 2 refine V_q q ?_
 apply aP
 refine O.seq ?_
 refine O.zT y ?_
 refine V_q q ?_
 obtain ⟨⟨r9,a7⟩,a1,h⟩:=bS h
 try dsimp only at h
 refine lK fun KW hKW=>?_
 refine dW [((.ptr 3),.tmp 10),(.take,.const (.int .i64 4))] q (Ent.ok (E:=E) (f:=21)) (Con.ok a1) ?_
 refine wN (hKW _ ?_);clear hKW
 apply aP
 refine O.cI h (fun a5 h=>?_) fun a6 h=>?_
 ·refine O.zU y ?_
  iterate 7 first|refine V_q q ?_|apply aP|refine O.zT y ?_
  cases h
  refine O.ret ?_
  simp [aQ,iB,res8]
 refine O.skip ?_
 refine O.zT y ?_
 iterate 2 refine V_q q ?_
 apply aP
 cases h
 refine O.ret ?_
 simp [aQ,iB,res8]
instance e8_:Ent E 8:=⟨ent8⟩
end Go.Proofs.T
