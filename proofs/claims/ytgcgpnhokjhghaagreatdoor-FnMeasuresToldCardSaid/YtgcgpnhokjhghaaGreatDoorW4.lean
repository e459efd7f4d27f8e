import Derived.Test.YtgcgpnhokjhghaaGreatDoorW0
import Derived.Test.YtgcgpnhokjhghaaGreatDoorW1
import Derived.Test.YtgcgpnhokjhghaaGreatDoorW2
import Derived.Test.YtgcgpnhokjhghaaGreatDoorW3
set_option linter.unusedVariables false
set_option linter.unusedSimpArgs false
set_option linter.unusedVariables false
set_option linter.unusedSimpArgs false
set_option maxHeartbeats 8000000
set_option maxRecDepth 100000
namespace Go.Proofs.T
open Go.OM
section
attribute [local irreducible] Hg O St.wps aQ iB Lv Ct Lp VL Option.bind bD sAt gB bC cE mkI gK iZ bO aJ ite Dr
instance e18_:Ent E 18:=aZ Tryz.func18
instance c18_ (c1:Gl01Cur) (n2:Int) {r0:Int} {q0:Gl01Cur}:Con E 18 (bN c1 n2=some (r0,q0)) [.ptr [.sl false 1 (List.map (vk .u8) c1.b),vi c1.i,vi c1.h],.val (vi n2)] [vi r0] [[.sl false 1 (List.map (vk .u8) q0.b),vi q0.i,vi q0.h]]:=by
 refine iA Tryz.func18 fun C q=>?_
 unfold bN
 repeat' first | refine And.intro ?_ ?_ | refine Prod.forall.2 ?_ | (intro _;try dsimp only) | refine gW ?_ | exact Z | refine S ?_
instance e36_:Ent E 36:=aZ Tryz.func36
instance c36_ (p1:GProgram) {r0:GProgram}:Con E 36 (mK p1=some r0) [.val (GProgram.enc false p1)] [GProgram.enc true r0] []:=by
 refine iA Tryz.func36 fun C q=>?_
 unfold mK
 repeat' first | refine And.intro ?_ ?_ | refine Prod.forall.2 ?_ | (intro _;try dsimp only) | refine gW ?_ | exact Z | refine dG 3014 [1,2,3,4] [1,2,3] (fun v=>[(4,.t (vi v.1))]) (fun v=>[(3,[.sl true 4 (List.map (GNode.enc true) v.2.Nodes),.sl true 5 (List.map (GFn.enc true) v.2.Fns)])]) (by unfold iN;rfl) ?_ | refine eJ 2018 [2,3] [2,3] (fun _=>[]) (fun v=>[(3,[.sl true 4 (List.map (GNode.enc true) v.Nodes),.sl true 5 (List.map (GFn.enc true) v.Fns)])]) ?_ | refine S ?_
instance e81_:Ent E 81:=aZ Tryz.func81
instance c81_ (s1:ByteArray) {r0:Bool}:Con E 81 (iX s1=some r0) [.val (vs s1)] [vb r0] []:=by
 refine iA Tryz.func81 fun C q=>?_
 unfold iX
 repeat' first | refine And.intro ?_ ?_ | refine Prod.forall.2 ?_ | (intro _;try dsimp only) | refine gW ?_ | exact Z | refine dG 3016 [0,3,4] [] (fun v=>[(4,.t (vi v))]) (fun _=>[]) (by unfold fZ;rfl) ?_ | refine jZ 2020 [] [] (fun _=>[]) (fun _=>[]) ?_ | refine S ?_
instance e29_:Ent E 29:=aZ Tryz.func29
instance c29_ (a0:Int) {r0:Bool}:Con E 29 (fH a0=some r0) [.val (vi a0)] [vb r0] []:=by
 refine iA Tryz.func29 fun C q=>?_
 unfold fH
 repeat' first | refine And.intro ?_ ?_ | refine Prod.forall.2 ?_ | (intro _;try dsimp only) | refine gW ?_ | exact Z | refine S ?_
instance e30_:Ent E 30:=aZ Tryz.func30
instance c30_ (a0:Int) {r0:Bool}:Con E 30 (eG a0=some r0) [.val (vi a0)] [vb r0] []:=by
 refine iA Tryz.func30 fun C q=>?_
 unfold eG
 repeat' first | refine And.intro ?_ ?_ | refine Prod.forall.2 ?_ | (intro _;try dsimp only) | refine gW ?_ | exact Z | refine S ?_
instance e84_:Ent E 84:=aZ Tryz.func84
instance c84_ (t1:ByteArray) (a0:Int) {r0:ByteArray}:Con E 84 (iQ t1 a0=some r0) [.val (vs t1),.val (vi a0)] [vs r0] []:=by
 refine iA Tryz.func84 fun C q=>?_
 unfold iQ
 repeat' first | refine And.intro ?_ ?_ | refine Prod.forall.2 ?_ | (intro _;try dsimp only) | refine gW ?_ | exact Z | refine eJ 6001 [0,1,5,6,38] [] (fun v=>[(38,.t (vb v))]) (fun _=>[]) ?_ | refine dG 3018 [0,1,5,6] [] (fun v=>[(6,.t (vi v))]) (fun _=>[]) (by unfold iP;rfl) ?_ | refine jZ 2022 [] [] (fun _=>[]) (fun _=>[]) ?_ | refine S ?_
instance e85_:Ent E 85:=aZ Tryz.func85
instance c85_ (r1:Gl05Read) (a0:Int) (a1:ByteArray) {r0:Bool} {q0:Gl05Read}:Con E 85 (aE r1 a0 a1=some (r0,q0)) [.ptr [.sl true 3 (List.map GSign.enc r1.list),vi r1.at_,vb r1.bad,vi r1.deep,.sl true 4 (List.map (GNode.enc true) r1.nodes)],.val (vi a0),.val (vs a1)] [vb r0] [[.sl true 3 (List.map GSign.enc q0.list),vi q0.at_,vb q0.bad,vi q0.deep,.sl true 4 (List.map (GNode.enc true) q0.nodes)]]:=by
 refine iA Tryz.func85 fun C q=>?_
 unfold aE
 repeat' first | refine And.intro ?_ ?_ | refine Prod.forall.2 ?_ | (intro _;try dsimp only) | refine gW ?_ | exact Z | refine S ?_
instance e53_:Ent E 53:=aZ Tryz.func53
instance c53_ (n1:Int) {r0:ByteArray}:Con E 53 (fK n1=some r0) [.val (vi n1)] [vs r0] []:=by
 refine iA Tryz.func53 fun C q=>?_
 unfold fK
 repeat' first | refine And.intro ?_ ?_ | refine Prod.forall.2 ?_ | (intro _;try dsimp only) | refine gW ?_ | exact Z | refine eJ 7005 [0,3,4,5] [] (fun v=>[(5,.t (vi v))]) (fun _=>[]) ?_ | refine dG 5018 [0,3,4] [] (fun v=>[(0,.t (vi v.1)),(4,.t (vs v.2))]) (fun _=>[]) (by unfold iY;rfl) ?_ | refine eJ 5020 [3,4] [] (fun v=>[(4,.t (vs v))]) (fun _=>[]) ?_ | refine S ?_
instance e38_:Ent E 38:=aZ Tryz.func38
instance c38_ (p1:GProgram) (a0:Int) {r0:List Int}:Con E 38 (pV p1 a0=some r0) [.val (GProgram.enc false p1),.val (vi a0)] [.sl true 1 (List.map vi r0)] []:=by
 refine iA Tryz.func38 fun C q=>?_
 unfold pV
 repeat' first | refine And.intro ?_ ?_ | refine Prod.forall.2 ?_ | (intro _;try dsimp only) | refine gW ?_ | exact Z | refine S ?_
instance e76_:Ent E 76:=aZ Tryz.func76
instance c76_ (s1:ByteArray) {r0:Bool}:Con E 76 (mU s1=some r0) [.val (vs s1)] [vb r0] []:=by
 refine iA Tryz.func76 fun C q=>?_
 unfold mU
 repeat' first | refine And.intro ?_ ?_ | refine Prod.forall.2 ?_ | (intro _;try dsimp only) | refine gW ?_ | exact Z | refine S ?_
instance e25_:Ent E 25:=aZ Tryz.func25
instance c25_ (a0:Int) {r0:Bool}:Con E 25 (lV a0=some r0) [.val (vi a0)] [vb r0] []:=by
 refine iA Tryz.func25 fun C q=>?_
 unfold lV
 repeat' first | refine And.intro ?_ ?_ | refine Prod.forall.2 ?_ | (intro _;try dsimp only) | refine gW ?_ | exact Z | refine S ?_
instance e26_:Ent E 26:=aZ Tryz.func26
instance c26_ (a0:Int) {r0:Bool}:Con E 26 (jA a0=some r0) [.val (vi a0)] [vb r0] []:=by
 refine iA Tryz.func26 fun C q=>?_
 unfold jA
 repeat' first | refine And.intro ?_ ?_ | refine Prod.forall.2 ?_ | (intro _;try dsimp only) | refine gW ?_ | exact Z | refine S ?_
instance e63_:Ent E 63:=aZ Tryz.func63
instance c63_ (a0:Int) {r0:Bool}:Con E 63 (mQ a0=some r0) [.val (vi a0)] [vb r0] []:=by
 refine iA Tryz.func63 fun C q=>?_
 unfold mQ
 repeat' first | refine And.intro ?_ ?_ | refine Prod.forall.2 ?_ | (intro _;try dsimp only) | refine gW ?_ | exact Z | refine dL 1 [2] [] (fun v=>[(2,.t (vb v))]) (fun _=>[]) ?_ | refine S ?_
instance e32_:Ent E 32:=aZ Tryz.func32
instance c32_ (s1:ByteArray) (n2:Int) {r0:ByteArray}:Con E 32 (bA s1 n2=some r0) [.val (vs s1),.val (vi n2)] [vs r0] []:=by
 refine iA Tryz.func32 fun C q=>?_
 unfold bA
 repeat' first | refine And.intro ?_ ?_ | refine Prod.forall.2 ?_ | (intro _;try dsimp only) | refine gW ?_ | exact Z | refine S ?_
end
theorem res57:Tryz.f57.results.toList=[.tmp 4]:=rfl
theorem ent57:cN E.P 57:=eO Tryz.func57 (by simp [Tryz.f57]) rfl
instance c57_ (a0:List GNode) (k2:Int) {r0:List Int}:Con E 57 (pT a0 k2=some r0) [.val (.sl false 4 (List.map (GNode.enc false) a0)),.val (vi k2)] [.sl true 1 (List.map vi r0)] []:=Con.mk fun h=>by
 refine oB Tryz.func57 rfl (by simp [Tryz.f57]) fun C (q:C.N=42) hP=>?_
 have y:=uM hP
 unfold pT at h
 iterate 8 first|refine aI q ?_|apply wN|refine O.zS y ?_
 obtain ⟨b0,d2,h⟩:=bS h
 refine O.seqC [5] [] (fun _:Unit=>⟨[(5,.t (.sl true 1 (List.map vi b0)))],[]⟩) (fun _=>True) (fun _ _=>?_) fun K4 d3=>?_
 rotate_left
 ·refine O.zS y ?_
  refine aI q ?_
  apply wN
  refine O.block ?_
  refine O.loopO [] [0,5,6] [] (fun v:(List Int) × Int=>⟨[(0,.t (.sl false 4 (List.map (GNode.enc false) a0))),(5,.t (.sl true 1 (List.map vi v.1))),(6,.t (vi v.2))],[]⟩) (jL a0) _ ([k2],(0:Int)) d2 (by simp [q]) ?_
  intro g e5 h8 d4
  obtain ⟨c2,i7⟩:=g
  simp only [jL] at h8
  try dsimp only
  refine O.seq ?_
  refine O.zS y ?_
  iterate 4 refine aI q ?_
  apply wN
  refine O.cI h8 (fun d5 h8=>?_) fun d6 h8=>?_
  ·refine O.skip ?_
   obtain ⟨b1,a2,h8⟩:=bS h8
   refine O.seqC [0,5,6] [] (fun _:Unit=>⟨[(0,.t (.sl false 4 (List.map (GNode.enc false) a0))),(5,.t (.sl true 1 (List.map vi b1))),(6,.t (vi i7))],[]⟩) (fun _=>True) (fun _ _=>?_) fun e6 c3=>?_
   rotate_left
   ·refine O.block ?_
    refine O.zS y ?_
    iterate 3 refine aI q ?_
    obtain ⟨e7,c4,a2⟩:=bS a2
    obtain ⟨a3,a4,a5,a6⟩:=gS c4
    iterate 2 (refine aI q ?_ rfl (by simp [a3,a4,a5,a6];rfl))
    obtain ⟨c5,c6,a2⟩:=bS a2
    obtain ⟨b2,b3,b4,b5⟩:=gS c6
    iterate 5 (refine aI q ?_ rfl (by simp [a3,a4,a5,a6,b2,b3,b4,b5];rfl))
    apply wN
    refine O.block ?_
    refine O.loopO [] [0,5,6,24,25,26] [] (fun v:(List Int) × Int=>⟨[(0,.t (.sl false 4 (List.map (GNode.enc false) a0))),(5,.t (.sl true 1 (List.map vi v.1))),(6,.t (vi i7)),(24,.t (.sl false 1 (List.map vi c5.Kids))),(25,.t (vi (c5.Kids.length:Int))),(26,.t (vi v.2))],[]⟩) (jK c5) _ (c2,(0:Int)) a2 (by simp [q]) ?_
    intro g e8 a1 c7
    obtain ⟨b6,e9⟩:=g
    simp only [jK] at a1
    try dsimp only
    refine O.zS y ?_
    refine aI q ?_
    apply wN
    refine O.seq ?_
    refine O.cI a1 (fun d7 a1=>?_) fun d8 a1=>?_
    ·refine O.skip ?_
     refine O.seq ?_
     refine O.block ?_
     refine O.zS y ?_
     obtain ⟨d9,c8,a1⟩:=bS a1
     obtain ⟨b7,b8,b9,c0⟩:=gS c8
     iterate 3 (refine aI q ?_ rfl (by simp [b7,b8,b9,c0];rfl))
     apply wN
     refine O.zS y ?_
     iterate 2 refine aI q ?_
     obtain ⟨g0,c9,a1⟩:=bS a1
     refine dW [(.bor,.tmp 30),(.take,.tmp 31)] q (Ent.ok (E:=E) (f:=40)) (Con.ok c9) ?_
     refine aI q ?_
     apply wN
     refine O.cI a1 (fun e0 a1=>?_) fun e1 a1=>?_
     ·refine O.zH y ?_
      iterate 3 refine aI q ?_
      obtain ⟨e2,d0,a1⟩:=bS a1
      obtain ⟨a7,a8,c1⟩:=aS d0
      have a9:List.map vi b6 ++ List.map vi [d9]=List.map vi e2:=lY (f:=vi) c1
      simp [eSl] at a7 a8 a9
      iterate 2 (refine aI q ?_ rfl (by simp [a7,a8,a9];rfl))
      apply wN
      refine O.zH y ?_
      iterate 2 refine aI q ?_
      apply wN
      cases a1
      exact ⟨_,[],rfl,by simp [q]⟩
     refine O.skip ?_
     refine O.zH y ?_
     iterate 2 refine aI q ?_
     apply wN
     cases a1
     exact ⟨_,[],rfl,by simp [q]⟩
    refine O.exit ?_
    have e3:=congrArg some (c7 _ (Option.some.inj a1).symm)
    cases e3
    exact c3 _ () [] trivial (by simp [q])
   refine O.zH y ?_
   iterate 3 refine aI q ?_
   apply wN
   cases h8
   exact ⟨_,[],rfl,by simp [q]⟩
  refine O.exit ?_
  have e4:=congrArg some (d4 _ (Option.some.inj h8).symm)
  cases e4
  exact d3 _ () [] trivial (by simp [q])
 refine O.zS y ?_
 refine aI q ?_
 obtain ⟨g1,d1,h⟩:=bS h
 refine aA8 rfl ent41 (wT _ d1) fun K u=>?_;simp [q];apply u
 iterate 5 first|refine aI q ?_|apply wN|refine O.zS y ?_
 cases h
 refine O.ret ?_
 simp [aQ,iB,res57]
instance e57_:Ent E 57:=⟨ent57⟩
end Go.Proofs.T
