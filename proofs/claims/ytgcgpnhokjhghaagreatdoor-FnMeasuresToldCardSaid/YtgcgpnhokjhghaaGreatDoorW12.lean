import Derived.Test.YtgcgpnhokjhghaaGreatDoorW2
import Derived.Test.YtgcgpnhokjhghaaGreatDoorW8
set_option linter.unusedVariables false
set_option linter.unusedSimpArgs false
set_option linter.unusedVariables false
set_option linter.unusedSimpArgs false
set_option maxHeartbeats 8000000
set_option maxRecDepth 100000
namespace Go.Proofs.T
open Go.OM
theorem res43:Tryz.f43.results.toList=[.tmp 4]:=rfl
theorem ent43:cN E.P 43:=eO Tryz.func43 (by simp [Tryz.f43]) rfl
instance c43_ (p1:GProgram) (k2:Int) {r0:List Int}:Con E 43 (nO p1 k2=some r0) [.val (GProgram.enc false p1),.val (vi k2)] [.sl true 1 (List.map vi r0)] []:=Con.mk fun h=>by
 refine oB Tryz.func43 rfl (by simp [Tryz.f43]) fun C (q:C.N=39) hP=>?_
 have y:=uM hP
 unfold nO at h
 iterate 8 first|refine aI q ?_|apply wN|refine O.zS y ?_
 refine O.seq ?_
 refine O.zS y ?_
 iterate 3 refine aI q ?_
 obtain ⟨r3,c1,h⟩:=bS h
 refine dW [(.take,.tmp 10),(.take,.tmp 11)] q (Ent.ok (E:=E) (f:=31)) (Con.ok c1) ?_
 refine aI q ?_
 apply wN
 refine O.cI h (fun d1 h=>?_) fun d2 h=>?_
 ·refine O.zS y ?_
  iterate 2 refine aI q ?_
  apply wN
  cases h
  refine O.ret ?_
  simp [aQ,iB,res43]
 refine O.skip ?_
 refine O.zS y ?_
 iterate 3 refine aI q ?_
 obtain ⟨l7,c2,h⟩:=bS h
 obtain ⟨b2,b3,b4,b5⟩:=mS c2
 have a4:List.replicate (p1.Nodes.length:Int).toNat (vb false)=List.map vb l7:=aIc (f:=vb) b5
 try simp only [Int.toNat_natCast] at a4
 iterate 2 (refine aI q ?_ rfl (by simp [b2,b3,b4,a4];rfl))
 apply wN
 refine O.zS y ?_
 iterate 4 refine aI q ?_
 obtain ⟨q8,c3,h⟩:=bS h
 refine tS [.tmp 20,.tmp 21] rfl ent59 (yD _ _ _ c3) fun K u=>?_;simp [q];apply u
 apply wN
 obtain ⟨a5,b6,h⟩:=bS h
 refine O.seqC [5] [] (fun _:Unit=>⟨[(5,.t (.sl true 1 (List.map vi a5)))],[]⟩) (fun _=>True) (fun _ _=>?_) fun d3 b7=>?_
 rotate_left
 ·refine O.zS y ?_
  refine aI q ?_
  apply wN
  refine O.block ?_
  refine O.loopO [] [5,6,7] [] (fun v:(List Int) × Int=>⟨[(5,.t (.sl true 1 (List.map vi v.1))),(6,.t (.sl true 1 (List.map vb q8))),(7,.t (vi v.2))],[]⟩) (jG q8) _ ([],(0:Int)) b6 (by simp [q]) ?_
  intro g d4 a0 b8
  obtain ⟨a6,c4⟩:=g
  simp only [jG] at a0
  try dsimp only
  refine O.seq ?_
  refine O.zS y ?_
  iterate 4 refine aI q ?_
  apply wN
  refine O.cI a0 (fun c5 a0=>?_) fun c6 a0=>?_
  ·refine O.skip ?_
   refine O.seq ?_
   refine O.block ?_
   refine O.zS y ?_
   iterate 2 refine aI q ?_
   obtain ⟨d5,b9,a0⟩:=bS a0
   obtain ⟨a7,a8,a9,b0⟩:=gS b9
   iterate 2 (refine aI q ?_ rfl (by simp [a7,a8,a9,b0];rfl))
   apply wN
   refine O.cI a0 (fun c7 a0=>?_) fun c8 a0=>?_
   ·refine O.zH y ?_
    iterate 3 refine aI q ?_
    obtain ⟨c9,c0,a0⟩:=bS a0
    obtain ⟨a1,a2,b1⟩:=aS c0
    have a3:List.map vi a6 ++ List.map vi [c4]=List.map vi c9:=lY (f:=vi) b1
    simp [eSl] at a1 a2 a3
    iterate 2 (refine aI q ?_ rfl (by simp [a1,a2,a3];rfl))
    apply wN
    refine O.zH y ?_
    iterate 3 refine aI q ?_
    apply wN
    cases a0
    exact ⟨_,[],rfl,by simp [q]⟩
   refine O.skip ?_
   refine O.zH y ?_
   iterate 3 refine aI q ?_
   apply wN
   cases a0
   exact ⟨_,[],rfl,by simp [q]⟩
  refine O.exit ?_
  have d0:=congrArg some (b8 _ (Option.some.inj a0).symm)
  cases d0
  exact b7 _ () [] trivial (by simp [q])
 refine O.zS y ?_
 iterate 2 refine aI q ?_
 apply wN
 cases h
 refine O.ret ?_
 simp [aQ,iB,res43]
instance e43_:Ent E 43:=⟨ent43⟩
end Go.Proofs.T
