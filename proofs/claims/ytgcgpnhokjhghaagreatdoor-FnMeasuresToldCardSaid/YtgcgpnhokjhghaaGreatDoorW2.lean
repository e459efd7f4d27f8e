import Derived.Test.YtgcgpnhokjhghaaGreatDoorTA
set_option linter.unusedVariables false
set_option linter.unusedSimpArgs false
set_option linter.unusedVariables false
set_option linter.unusedSimpArgs false
set_option maxHeartbeats 8000000
set_option maxRecDepth 100000
namespace Go.Proofs.T
open Go.OM
section
attribute [local irreducible] Hg O St.wps aQ iB Lv Ct Lp VL Option.bind bD sAt gB bC cE mkI gK iZ bO aJ ite Dr
instance e80_:Ent E 80:=aZ Tryz.func80
instance c80_ (b1:Int) {r0:Bool}:Con E 80 (cZ b1=some r0) [.val (vk .u8 b1)] [vb r0] []:=by
 refine iA Tryz.func80 fun C q=>?_
 unfold cZ
 repeat' first | refine And.intro ?_ ?_ | refine Prod.forall.2 ?_ | (intro _;try dsimp only) | refine gW ?_ | exact Z | refine dL 1 [2] [] (fun v=>[(2,.t (vb v))]) (fun _=>[]) ?_ | refine S ?_
instance e78_:Ent E 78:=aZ Tryz.func78
instance c78_ (a0:Int) {r0:Bool}:Con E 78 (kO a0=some r0) [.val (vi a0)] [vb r0] []:=by
 refine iA Tryz.func78 fun C q=>?_
 unfold kO
 repeat' first | refine And.intro ?_ ?_ | refine Prod.forall.2 ?_ | (intro _;try dsimp only) | refine gW ?_ | exact Z | refine eJ 2033 [4] [] (fun v=>[(4,.t (vb v))]) (fun _=>[]) ?_ | refine S ?_
instance e116_:Ent E 116:=aZ Tryz.func116
instance c116_ {r0:List ByteArray}:Con E 116 (kQ=some r0) [] [.sl true 1 (List.map vs r0)] []:=by
 refine iA Tryz.func116 fun C q=>?_
 unfold kQ
 repeat' first | refine And.intro ?_ ?_ | refine Prod.forall.2 ?_ | (intro _;try dsimp only) | refine gW ?_ | exact Z | refine S ?_
instance e117_:Ent E 117:=aZ Tryz.func117
instance c117_ (r1:Gl05Read) (a0:Int) (a1:ByteArray) {r0:Bool} {q0:Gl05Read}:Con E 117 (cL r1 a0 a1=some (r0,q0)) [.ptr [.sl true 3 (List.map GSign.enc r1.list),vi r1.at_,vb r1.bad,vi r1.deep,.sl true 4 (List.map (GNode.enc true) r1.nodes)],.val (vi a0),.val (vs a1)] [vb r0] [[.sl true 3 (List.map GSign.enc q0.list),vi q0.at_,vb q0.bad,vi q0.deep,.sl true 4 (List.map (GNode.enc true) q0.nodes)]]:=by
 refine iA Tryz.func117 fun C q=>?_
 unfold cL
 repeat' first | refine And.intro ?_ ?_ | refine Prod.forall.2 ?_ | (intro _;try dsimp only) | refine gW ?_ | exact Z | refine eJ 1001 [0,6] [54] (fun v=>[(6,.t (vb v))]) (fun _=>[]) ?_ | refine S ?_
instance e10_:Ent E 10:=aZ Tryz.func10
instance c10_ (p1:GProgram) (a0:Int) {r0:Int}:Con E 10 (cD p1 a0=some r0) [.val (GProgram.enc false p1),.val (vi a0)] [vi r0] []:=by
 refine iA Tryz.func10 fun C q=>?_
 unfold cD
 repeat' first | refine And.intro ?_ ?_ | refine Prod.forall.2 ?_ | (intro _;try dsimp only) | refine gW ?_ | exact Z | refine dG 3014 [1,2,5,6] [2] (fun v=>[(5,.t (vi v.1)),(6,.t (vi v.2))]) (fun _=>[]) (by unfold fY;rfl) ?_ | refine eJ 2018 [5] [] (fun v=>[(5,.t (vi v))]) (fun _=>[]) ?_ | refine S ?_
instance e40_:Ent E 40:=aZ Tryz.func40
instance c40_ (l1:List Int) (n2:Int) {r0:Bool}:Con E 40 (kF l1 n2=some r0) [.val (.sl false 1 (List.map vi l1)),.val (vi n2)] [vb r0] []:=by
 refine iA Tryz.func40 fun C q=>?_
 unfold kF
 repeat' first | refine And.intro ?_ ?_ | refine Prod.forall.2 ?_ | (intro _;try dsimp only) | refine gW ?_ | exact Z | refine dG 2018 [1,7,8,9] [] (fun v=>[(9,.t (vi v))]) (fun _=>[]) (by unfold jU;rfl) ?_ | refine jZ 1022 [] [] (fun _=>[]) (fun _=>[]) ?_ | refine S ?_
instance e61_:Ent E 61:=aZ Tryz.func61
instance c61_ (a0:Int) {r0:Int} {r1:Int}:Con E 61 (pU a0=some (r0,r1)) [.val (vi a0)] [vi r0,vi r1] []:=by
 refine iA Tryz.func61 fun C q=>?_
 unfold pU
 repeat' first | refine And.intro ?_ ?_ | refine Prod.forall.2 ?_ | (intro _;try dsimp only) | refine gW ?_ | exact Z | refine eJ 2021 [4,5] [] (fun v=>[(5,.t (vb v))]) (fun _=>[]) ?_ | refine eJ 9013 [4,12] [] (fun v=>[(12,.t (vb v))]) (fun _=>[]) ?_ | refine S ?_
end
theorem res59:Tryz.f59.results.toList=[]:=rfl
theorem ent59:cN E.P 59:=eO Tryz.func59 (by simp [Tryz.f59]) rfl
theorem vQ (a3:(List GNode)→Int→(List Bool)→Option (List Bool)) (a4:∀ (a0:List GNode) (a1:Int) (a2:List Bool) {q2:List Bool},a3 a0 a1 a2=some q2→OkIO E 59 [.val (.sl false 4 (List.map (GNode.enc false) a0)),.val (vi a1),.val (.sl true 1 (List.map vb a2))] [] [] [(2,.sl true 1 (List.map vb q2))]) (a5:List GNode) (k2:Int) (a7:List Bool) {q2:List Bool} (h:jR a3 a5 k2 a7=some q2):OkIO E 59 [.val (.sl false 4 (List.map (GNode.enc false) a5)),.val (vi k2),.val (.sl true 1 (List.map vb a7))] [] [] [(2,.sl true 1 (List.map vb q2))]:=by
 refine wU (fn:=Tryz.f59) [(2,.sl true 1 (List.map vb q2))] Tryz.func59 rfl (by simp [Tryz.f59]) rfl fun C hN hP=>?_
 have y:∀ l,tI [2] l=true→lO C.pin l=true:=pO (by rw [hP];rfl)
 have q:C.N=35:=hN
 clear hN
 unfold jR at h
 refine O.seq ?_
 refine O.zS y ?_
 iterate 2 refine aI q ?_
 obtain ⟨e4,d5,h⟩:=bS h
 obtain ⟨c5,c6,c7,c8⟩:=gS d5
 iterate 2 (refine aI q ?_ rfl (by simp [c5,c6,c7,c8];rfl))
 apply wN
 refine O.cI h (fun e1 h=>?_) fun e2 h=>?_
 ·cases h
  refine O.ret ?_
  simp [aQ,iB,res59]
 refine O.skip ?_
 refine O.zS y ?_
 iterate 2 refine aI q ?_
 obtain ⟨e7,d6,h⟩:=bS h
 obtain ⟨b6,b7,b8,b9⟩:=gS d6
 refine aI q ?_ rfl (by simp [b6,b7,b8,b9];rfl)
 obtain ⟨l8,d7,h⟩:=bZ h
 have c0:(List.map vb a7).set k2.toNat (vb true)=List.map vb l8:=nB (f:=vb) d7
 try simp only [Int.toNat_natCast] at c0
 refine aI q ?_ rfl (by simp [b6,b7,b8,b9,c0];rfl)
 iterate 5 first|refine aI q ?_|apply wN|refine O.zS y ?_|refine O.block ?_
 refine O.loopO [] [0,1,2,6] [] (fun v:(List Bool) × Int=>⟨[(0,.t (.sl false 4 (List.map (GNode.enc false) a5))),(1,.t (vi k2)),(2,.t (.sl true 1 (List.map vb v.1))),(6,.t (vi v.2))],[]⟩) (fX a3 a5 k2) _ (l8,(0:Int)) h (by simp [q]) ?_
 intro g e3 a6 c9
 obtain ⟨d4,e5⟩:=g
 simp only [fX] at a6
 try dsimp only
 refine O.seq ?_
 refine O.zS y ?_
 iterate 3 refine aI q ?_
 obtain ⟨e6,d0,a6⟩:=bS a6
 obtain ⟨c1,c2,c3,c4⟩:=gS d0
 iterate 5 (refine aI q ?_ rfl (by simp [c1,c2,c3,c4];rfl))
 apply wN
 refine O.cI a6 (fun d8 a6=>?_) fun d9 a6=>?_
 ·refine O.skip ?_
  refine O.seq ?_
  refine O.block ?_
  refine O.zH y ?_
  iterate 3 refine aI q ?_
  obtain ⟨e8,d1,a6⟩:=bS a6
  obtain ⟨a8,a9,b0,b1⟩:=gS d1
  iterate 4 (refine aI q ?_ rfl (by simp [a8,a9,b0,b1];rfl))
  obtain ⟨e9,d2,a6⟩:=bS a6
  obtain ⟨b2,b3,b4,b5⟩:=gS d2
  iterate 3 (refine aI q ?_ rfl (by simp [a8,a9,b0,b1,b2,b3,b4,b5];rfl))
  obtain ⟨g0,d3,a6⟩:=bS a6
  refine tS [.tmp 24,.tmp 32] rfl ent59 (a4 _ _ _ d3) fun K u=>?_;simp [q,a8,a9,b0,b1,b2,b3,b4,b5];apply u
  apply wN
  refine O.zH y ?_
  iterate 3 refine aI q ?_
  apply wN
  cases a6
  exact ⟨_,[],rfl,by simp [q]⟩
 refine O.exit ?_
 have e0:=congrArg some (c9 _ (Option.some.inj a6).symm)
 cases e0
 simp [aQ,iB,res59]
theorem nS:∀ n:Nat,(∀ (a0:List GNode) (a1:Int) (a2:List Bool) {q2:List Bool},(dR n) a0 a1 a2=some q2→OkIO E 59 [.val (.sl false 4 (List.map (GNode.enc false) a0)),.val (vi a1),.val (.sl true 1 (List.map vb a2))] [] [] [(2,.sl true 1 (List.map vb q2))])
 | 0=>(by intros;rename_i h;cases h)
 | n + 1=>vQ (dR n) (nS n)
theorem yD:∀ (a0:List GNode) (a1:Int) (a2:List Bool) {q2:List Bool},rK a0 a1 a2=some q2→OkIO E 59 [.val (.sl false 4 (List.map (GNode.enc false) a0)),.val (vi a1),.val (.sl true 1 (List.map vb a2))] [] [] [(2,.sl true 1 (List.map vb q2))]:=(nS eX)
end Go.Proofs.T
