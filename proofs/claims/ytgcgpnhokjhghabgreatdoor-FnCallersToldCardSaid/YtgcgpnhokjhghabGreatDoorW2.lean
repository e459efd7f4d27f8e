import Derived.Test.YtgcgpnhokjhghabGreatDoorTA
set_option linter.unusedVariables false
set_option linter.unusedSimpArgs false
set_option linter.unusedVariables false
set_option linter.unusedSimpArgs false
set_option maxHeartbeats 8000000
set_option maxRecDepth 100000
namespace Go.Proofs.T
open Go.OM
section
attribute [local irreducible] Hg O St.wps aO iB Lv Ct Lp VL Option.bind aP sAt eK bN bO mkI eS fO bF aI ite Dr
instance e4_:Ent E 4:=aY Tryz.func4
instance c4_ (a0:List Int) {r0:Bool}:Con E 4 (aCn a0=some r0) [.val (.sl false 1 (List.map (vk .u8) a0))] [vb r0] []:=by
 refine eZ Tryz.func4 fun C q=>?_;unfold aCn;repeat' first | refine And.intro ?_ ?_ | refine Prod.forall.2 ?_ | (intro _;try dsimp only) | refine eY ?_ | exact Z | refine S ?_
instance e100_:Ent E 100:=aY Tryz.func100
instance c100_ (b1:Int) {r0:Bool}:Con E 100 (dS b1=some r0) [.val (vk .u8 b1)] [vb r0] []:=by
 refine eZ Tryz.func100 fun C q=>?_;unfold dS;repeat' first | refine And.intro ?_ ?_ | refine Prod.forall.2 ?_ | (intro _;try dsimp only) | refine eY ?_ | exact Z | refine cR 1 [2] [] (fun v=>[(2,.t (vb v))]) (fun _=>[]) ?_ | refine S ?_
instance e39_:Ent E 39:=aY Tryz.func39
instance c39_ (p1:GProgram) (a0:ByteArray) {r0:Int}:Con E 39 (tS p1 a0=some r0) [.val (GProgram.enc false p1),.val (vs a0)] [vi r0] []:=by
 refine eZ Tryz.func39 fun C q=>?_;unfold tS;repeat' first | refine And.intro ?_ ?_ | refine Prod.forall.2 ?_ | (intro _;try dsimp only) | refine eY ?_ | exact Z | refine bG 2016 [1,2,5] [2] (fun v=>[(5,.t (vi v))]) (fun _=>[]) (by unfold aBy;rfl) ?_ | refine eW 1020 [] [] (fun _=>[]) (fun _=>[]) ?_ | refine S ?_
instance e142_:Ent E 142:=aY Tryz.func142
instance c142_ (r1:Gl05Read) (a0:Int) (a1:ByteArray) {r0:Bool} {q0:Gl05Read}:Con E 142 (dB r1 a0 a1=some (r0,q0)) [.ptr [.sl true 3 (List.map GSign.enc r1.list),vi r1.at_,vb r1.bad,vi r1.deep,.sl true 4 (List.map (GNode.enc true) r1.nodes)],.val (vi a0),.val (vs a1)] [vb r0] [[.sl true 3 (List.map GSign.enc q0.list),vi q0.at_,vb q0.bad,vi q0.deep,.sl true 4 (List.map (GNode.enc true) q0.nodes)]]:=by
 refine eZ Tryz.func142 fun C q=>?_;unfold dB;repeat' first | refine And.intro ?_ ?_ | refine Prod.forall.2 ?_ | (intro _;try dsimp only) | refine eY ?_ | exact Z | refine cG 1001 [0,6] [54] (fun v=>[(6,.t (vb v))]) (fun _=>[]) ?_ | refine S ?_
instance e37_:Ent E 37:=aY Tryz.func37
instance c37_ (l1:List Int) (n2:Int) {r0:Bool}:Con E 37 (gF l1 n2=some r0) [.val (.sl false 1 (List.map vi l1)),.val (vi n2)] [vb r0] []:=by
 refine eZ Tryz.func37 fun C q=>?_;unfold gF;repeat' first | refine And.intro ?_ ?_ | refine Prod.forall.2 ?_ | (intro _;try dsimp only) | refine eY ?_ | exact Z | refine bG 2018 [1,7,8,9] [] (fun v=>[(9,.t (vi v))]) (fun _=>[]) (by unfold mT;rfl) ?_ | refine eW 1022 [] [] (fun _=>[]) (fun _=>[]) ?_ | refine S ?_
instance e94_:Ent E 94:=aY Tryz.func94
instance c94_ (b1:Int) {r0:Bool}:Con E 94 (lZ b1=some r0) [.val (vk .u8 b1)] [vb r0] []:=by
 refine eZ Tryz.func94 fun C q=>?_;unfold lZ;repeat' first | refine And.intro ?_ ?_ | refine Prod.forall.2 ?_ | (intro _;try dsimp only) | refine eY ?_ | exact Z | refine cR 1 [2] [] (fun v=>[(2,.t (vb v))]) (fun _=>[]) ?_ | refine S ?_
instance e86_:Ent E 86:=aY Tryz.func86
instance c86_ (l1:List ByteArray) (s2:ByteArray) {r0:Bool}:Con E 86 (qF l1 s2=some r0) [.val (.sl false 1 (List.map vs l1)),.val (vs s2)] [vb r0] []:=by
 refine eZ Tryz.func86 fun C q=>?_;unfold qF;repeat' first | refine And.intro ?_ ?_ | refine Prod.forall.2 ?_ | (intro _;try dsimp only) | refine eY ?_ | exact Z | refine bG 2018 [1,7,8,9] [] (fun v=>[(9,.t (vi v))]) (fun _=>[]) (by unfold lI;rfl) ?_ | refine eW 1022 [] [] (fun _=>[]) (fun _=>[]) ?_ | refine S ?_
instance e23_:Ent E 23:=aY Tryz.func23
instance c23_ (p1:GProgram) (a0:ByteArray) {r0:Int}:Con E 23 (mP p1 a0=some r0) [.val (GProgram.enc false p1),.val (vs a0)] [vi r0] []:=by
 refine eZ Tryz.func23 fun C q=>?_;unfold mP;repeat' first | refine And.intro ?_ ?_ | refine Prod.forall.2 ?_ | (intro _;try dsimp only) | refine eY ?_ | exact Z | refine cR 5 [1,2,5,6,30] [2] (fun v=>[(30,.t (vb v))]) (fun _=>[]) ?_ | refine bG 3014 [1,2,5,6] [2] (fun v=>[(5,.t (vi v.1)),(6,.t (vi v.2))]) (fun _=>[]) (by unfold lW;rfl) ?_ | refine cG 2018 [5] [] (fun v=>[(5,.t (vi v))]) (fun _=>[]) ?_ | refine S ?_
end
theorem res80:Tryz.f80.results.toList=[]:=rfl
theorem ent80:dR E.P 80:=eO Tryz.func80 (by simp [Tryz.f80]) rfl
theorem aB3 (a3:(List GNode)→Int→(List Bool)→Option (List Bool)) (a4:∀ (a0:List GNode) (a1:Int) (a2:List Bool) {q2:List Bool},a3 a0 a1 a2=some q2→OkIO E 80 [.val (.sl false 4 (List.map (GNode.enc false) a0)),.val (vi a1),.val (.sl true 1 (List.map vb a2))] [] [] [(2,.sl true 1 (List.map vb q2))]) (a5:List GNode) (k2:Int) (a7:List Bool) {q2:List Bool} (h:mJ a3 a5 k2 a7=some q2):OkIO E 80 [.val (.sl false 4 (List.map (GNode.enc false) a5)),.val (vi k2),.val (.sl true 1 (List.map vb a7))] [] [] [(2,.sl true 1 (List.map vb q2))]:=by
 refine aBz (fn:=Tryz.f80) [(2,.sl true 1 (List.map vb q2))] Tryz.func80 rfl (by simp [Tryz.f80]) rfl fun C hN hP=>?_
 have y:∀ l,yK [2] l=true→oX C.pin l=true:=pO (by rw [hP];rfl)
 have q:C.N=35:=hN;clear hN;unfold mJ at h;refine O.seq ?_;refine O.zS y ?_
 iterate 2 refine aH q ?_
 obtain ⟨e4,d5,h⟩:=bS h;obtain ⟨c5,c6,c7,c8⟩:=gS d5
 iterate 2 (refine aH q ?_ rfl (by simp [c5,c6,c7,c8];rfl))
 apply wN;refine O.cI h (fun e1 h=>?_) fun e2 h=>?_
 ·cases h;refine O.ret ?_;simp [aO,iB,res80]
 refine O.skip ?_;refine O.zS y ?_
 iterate 2 refine aH q ?_
 obtain ⟨e7,d6,h⟩:=bS h;obtain ⟨b6,b7,b8,b9⟩:=gS d6;refine aH q ?_ rfl (by simp [b6,b7,b8,b9];rfl)
 obtain ⟨l8,d7,h⟩:=bZ h;have c0:(List.map vb a7).set k2.toNat (vb true)=List.map vb l8:=qT (f:=vb) d7;try simp only [Int.toNat_natCast] at c0
 refine aH q ?_ rfl (by simp [b6,b7,b8,b9,c0];rfl)
 iterate 5 first|refine aH q ?_|apply wN|refine O.zS y ?_|refine O.block ?_
 refine O.loopO [] [0,1,2,6] [] (fun v:(List Bool) × Int=>⟨[(0,.t (.sl false 4 (List.map (GNode.enc false) a5))),(1,.t (vi k2)),(2,.t (.sl true 1 (List.map vb v.1))),(6,.t (vi v.2))],[]⟩) (iR a3 a5 k2) _ (l8,(0:Int)) h (by simp [q]) ?_
 intro g e3 a6 c9;obtain ⟨d4,e5⟩:=g;simp only [iR] at a6;try dsimp only
 refine O.seq ?_;refine O.zS y ?_
 iterate 3 refine aH q ?_
 obtain ⟨e6,d0,a6⟩:=bS a6;obtain ⟨c1,c2,c3,c4⟩:=gS d0
 iterate 5 (refine aH q ?_ rfl (by simp [c1,c2,c3,c4];rfl))
 apply wN;refine O.cI a6 (fun d8 a6=>?_) fun d9 a6=>?_
 ·refine O.skip ?_;refine O.seq ?_;refine O.block ?_;refine O.zH y ?_
  iterate 3 refine aH q ?_
  obtain ⟨e8,d1,a6⟩:=bS a6;obtain ⟨a8,a9,b0,b1⟩:=gS d1
  iterate 4 (refine aH q ?_ rfl (by simp [a8,a9,b0,b1];rfl))
  obtain ⟨e9,d2,a6⟩:=bS a6;obtain ⟨b2,b3,b4,b5⟩:=gS d2
  iterate 3 (refine aH q ?_ rfl (by simp [a8,a9,b0,b1,b2,b3,b4,b5];rfl))
  obtain ⟨g0,d3,a6⟩:=bS a6;refine aCt [.tmp 24,.tmp 32] rfl ent80 (a4 _ _ _ d3) fun K u=>?_;simp [q,a8,a9,b0,b1,b2,b3,b4,b5];apply u;apply wN;refine O.zH y ?_
  iterate 3 refine aH q ?_
  apply wN;cases a6;exact ⟨_,[],rfl,by simp [q]⟩
 refine O.exit ?_;have e0:=congrArg some (c9 _ (Option.some.inj a6).symm);cases e0;simp [aO,iB,res80]
theorem rJ:∀ n:Nat,(∀ (a0:List GNode) (a1:Int) (a2:List Bool) {q2:List Bool},(fF n) a0 a1 a2=some q2→OkIO E 80 [.val (.sl false 4 (List.map (GNode.enc false) a0)),.val (vi a1),.val (.sl true 1 (List.map vb a2))] [] [] [(2,.sl true 1 (List.map vb q2))])
 | 0=>(by intros;rename_i h;cases h)
 | n + 1=>aB3 (fF n) (rJ n)
theorem aD0:∀ (a0:List GNode) (a1:Int) (a2:List Bool) {q2:List Bool},sQ a0 a1 a2=some q2→OkIO E 80 [.val (.sl false 4 (List.map (GNode.enc false) a0)),.val (vi a1),.val (.sl true 1 (List.map vb a2))] [] [] [(2,.sl true 1 (List.map vb q2))]:=(rJ bL)
instance e80_:Ent E 80:=⟨ent80⟩
instance c80_ (a0:List GNode) (a1:Int) (a2:List Bool) {q2:List Bool}:ConIO E 80 (sQ a0 a1 a2=some q2) [.val (.sl false 4 (List.map (GNode.enc false) a0)),.val (vi a1),.val (.sl true 1 (List.map vb a2))] [] 2 (.sl true 1 (List.map vb q2)):=⟨fun h=>aD0 _ _ _ h⟩
end Go.Proofs.T
