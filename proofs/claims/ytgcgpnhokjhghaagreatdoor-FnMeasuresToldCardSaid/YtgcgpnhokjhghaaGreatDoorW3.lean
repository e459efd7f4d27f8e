import Derived.Test.YtgcgpnhokjhghaaGreatDoorTA
set_option linter.unusedVariables false
set_option linter.unusedSimpArgs false
set_option linter.unusedVariables false
set_option linter.unusedSimpArgs false
set_option maxHeartbeats 8000000
set_option maxRecDepth 100000
namespace Go.Proofs.T
open Go.OM
section
attribute [local irreducible] Hg O St.wps aQ iB Lv Ct Lp VL Option.bind bD sAt gB bC cE mkI gK iZ bO aJ ite Dr
instance e54_:Ent E 54:=aZ Tryz.func54
instance c54_ (a0:List GNode) {r0:List GNode}:Con E 54 (kN a0=some r0) [.val (.sl false 4 (List.map (GNode.enc false) a0))] [.sl true 4 (List.map (GNode.enc true) r0)] []:=by
 refine iA Tryz.func54 fun C q=>?_
 unfold kN
 repeat' first | refine And.intro ?_ ?_ | refine Prod.forall.2 ?_ | (intro _;try dsimp only) | refine gW ?_ | exact Z | refine dG 3014 [0,3,4] [] (fun v=>[(3,.t (.sl true 4 (List.map (GNode.enc true) v.1))),(4,.t (vi v.2))]) (fun _=>[]) (by unfold gR;rfl) ?_ | refine eJ 2018 [3] [] (fun v=>[(3,.t (.sl true 4 (List.map (GNode.enc true) v)))]) (fun _=>[]) ?_ | refine S ?_
instance e42_:Ent E 42:=aZ Tryz.func42
instance c42_ (x1:Int) (a0:Int) (a1:Int) {r0:Bool}:Con E 42 (bV x1 a0 a1=some r0) [.val (vi x1),.val (vi a0),.val (vi a1)] [vb r0] []:=by
 refine iA Tryz.func42 fun C q=>?_
 unfold bV
 repeat' first | refine And.intro ?_ ?_ | refine Prod.forall.2 ?_ | (intro _;try dsimp only) | refine gW ?_ | exact Z | refine dL 1 [6] [] (fun v=>[(6,.t (vb v))]) (fun _=>[]) ?_ | refine S ?_
instance e50_:Ent E 50:=aZ Tryz.func50
instance c50_ (a0:List GNode) {r0:List Int}:Con E 50 (mH a0=some r0) [.val (.sl false 4 (List.map (GNode.enc false) a0))] [.sl true 1 (List.map vi r0)] []:=by
 refine iA Tryz.func50 fun C q=>?_
 unfold mH
 repeat' first | refine And.intro ?_ ?_ | refine Prod.forall.2 ?_ | (intro _;try dsimp only) | refine gW ?_ | exact Z | refine dG 6010 [0,3,4,5] [] (fun v=>[(3,.t (.sl true 1 (List.map vi v.1))),(5,.t (vi v.2))]) (fun _=>[]) (by unfold iL;rfl) ?_ | refine eJ 5015 [0,3,4] [] (fun v=>[(3,.t (.sl true 1 (List.map vi v)))]) (fun _=>[]) ?_ | refine dG 3023 [0,3,4] [] (fun v=>[(3,.t (.sl true 1 (List.map vi v.1))),(4,.t (vi v.2))]) (fun _=>[]) (by unfold iM;rfl) ?_ | refine eJ 2027 [3] [] (fun v=>[(3,.t (.sl true 1 (List.map vi v)))]) (fun _=>[]) ?_ | refine S ?_
instance e66_:Ent E 66:=aZ Tryz.func66
instance c66_ (p1:GProgram) (a0:ByteArray) {r0:Int}:Con E 66 (uG p1 a0=some r0) [.val (GProgram.enc false p1),.val (vs a0)] [vi r0] []:=by
 refine iA Tryz.func66 fun C q=>?_
 unfold uG
 repeat' first | refine And.intro ?_ ?_ | refine Prod.forall.2 ?_ | (intro _;try dsimp only) | refine gW ?_ | exact Z | refine dG 2016 [1,2,5] [2] (fun v=>[(5,.t (vi v))]) (fun _=>[]) (by unfold wS;rfl) ?_ | refine jZ 1020 [] [] (fun _=>[]) (fun _=>[]) ?_ | refine S ?_
instance e74_:Ent E 74:=aZ Tryz.func74
instance c74_ (b1:Int) {r0:Bool}:Con E 74 (jM b1=some r0) [.val (vk .u8 b1)] [vb r0] []:=by
 refine iA Tryz.func74 fun C q=>?_
 unfold jM
 repeat' first | refine And.intro ?_ ?_ | refine Prod.forall.2 ?_ | (intro _;try dsimp only) | refine gW ?_ | exact Z | refine dL 1 [2] [] (fun v=>[(2,.t (vb v))]) (fun _=>[]) ?_ | refine S ?_
instance e110_:Ent E 110:=aZ Tryz.func110
instance c110_ (s1:ByteArray) (a0:ByteArray) {r0:Bool}:Con E 110 (sS s1 a0=some r0) [.val (vs s1),.val (vs a0)] [vb r0] []:=by
 refine iA Tryz.func110 fun C q=>?_
 unfold sS
 repeat' first | refine And.intro ?_ ?_ | refine Prod.forall.2 ?_ | (intro _;try dsimp only) | refine gW ?_ | exact Z | refine dG 2018 [0,8,9,10] [] (fun v=>[(10,.t (vi v))]) (fun _=>[]) (by unfold nK;rfl) ?_ | refine jZ 1022 [] [] (fun _=>[]) (fun _=>[]) ?_ | refine S ?_
instance e33_:Ent E 33:=aZ Tryz.func33
instance c33_ (n1:Int) {r0:ByteArray}:Con E 33 (mX n1=some r0) [.val (vi n1)] [vs r0] []:=by
 refine iA Tryz.func33 fun C q=>?_
 unfold mX
 repeat' first | refine And.intro ?_ ?_ | refine Prod.forall.2 ?_ | (intro _;try dsimp only) | refine gW ?_ | exact Z | refine S ?_
end
theorem aKp:cN E.P 17:=eO Tryz.func17 (by simp [Tryz.f17]) rfl
theorem lZ (a0:List Int) {r0:Gl01Cur} (h:iS a0=some r0):OkN E 17 [.val (.sl false 1 (List.map (vk .u8) a0))] [.sl false 1 (List.map (vk .u8) r0.b),vi r0.i,vi r0.h]:=by
 refine aE9 (fn:=Tryz.f17) Tryz.func17 rfl (by simp [Tryz.f17]) rfl rfl fun C hN hP=>?_
 have y:∀ l,tI [] l=true→lO C.pin l=true:=pO (by rw [hP];rfl)
 have q:C.N=32:=hN
 clear hN
 unfold iS at h
 refine O.zT y ?_
 refine aKx rfl rfl fun K u=>?_;simp [q];apply u
 iterate 7 first|refine V_q q ?_|apply aP|refine O.zT y ?_
 obtain ⟨b2,b3,h⟩:=bS h
 refine O.seqC [0,3] [] (fun _:Unit=>⟨[(0,.t (.sl false 1 (List.map (vk .u8) a0))),(3,.t (vi b2))],[]⟩) (fun _=>True) (fun _ _=>?_) fun K3 b4=>?_
 rotate_left
 ·refine O.zT y ?_
  refine V_q q ?_
  apply aP
  refine O.block ?_
  refine O.loopO [] [0,3,4] [] (fun v:Int × Int=>⟨[(0,.t (.sl false 1 (List.map (vk .u8) a0))),(3,.t (vi v.1)),(4,.t (vi v.2))],[]⟩) (mA a0) _ (IntKind.wrap .i64 (78201 + (a0.length:Int)),(0:Int)) b3 (by simp [q]) ?_
  intro g s9 h7 b5
  obtain ⟨h5,i6⟩:=g
  simp only [mA] at h7
  try dsimp only
  refine O.seq ?_
  obtain ⟨b6,a2,h7⟩:=bS h7
  refine O.seqRCV rfl (y _ rfl) [0,3,4,15] [] (fun _:Unit=>⟨[(0,.t (.sl false 1 (List.map (vk .u8) a0))),(3,.t (vi h5)),(4,.t (vi i6)),(15,.t (vb b6))],[]⟩) (fun _=>True) (fun _ _=>?_) fun c0 a6=>?_
  rotate_left
  ·refine V_q q ?_
   iterate 4 refine V_q q ?_
   rcases oR a2 with ⟨a5,a2⟩ | ⟨a3,a2⟩
   ·have a4:=a5
    try simp at a4
    iterate 3 (refine V_q q ?_ rfl (by simp [a5,a4];rfl))
    refine aP ?_
    cases a2
    exact a6 _ () [] trivial (by simp [q,a5,a4])
   have a1:=a3
   try simp at a1
   refine lK fun KW hKW=>?_
   refine wO fun K u=>?_;simp [q,a3,a1];apply u
   refine wN (hKW _ ?_);clear hKW
   refine lK fun KW hKW=>?_
   refine wO fun K u=>?_;simp [q,a3,a1];apply u
   refine wN (hKW _ ?_);clear hKW
   refine V_q q ?_ rfl (by simp [a3,a1];rfl)
   refine aP ?_
   cases a2
   exact a6 _ () [] trivial (by simp [q,a3,a1])
  refine O.cI h7 (fun b7 h7=>?_) fun b8 h7=>?_
  ·refine O.skip ?_
   refine O.seq ?_
   refine O.block ?_
   refine O.zU y ?_
   iterate 4 refine V_q q ?_
   obtain ⟨c1,b1,h7⟩:=bS h7
   obtain ⟨a7,a8,a9,b0⟩:=gS b1
   iterate 7 (refine V_q q ?_ rfl (by simp [a7,a8,a9,b0];rfl))
   apply aP
   refine O.zU y ?_
   iterate 3 refine V_q q ?_
   apply aP
   cases h7
   exact ⟨_,[],rfl,by simp [q]⟩
  refine O.exit ?_
  have b9:=congrArg some (b5 _ (Option.some.inj h7).symm)
  cases b9
  exact b4 _ () [] trivial (by simp [q])
 refine O.zT y ?_
 iterate 5 refine V_q q ?_
 apply aP
 cases h
 refine O.ret ?_
 simp only [aQ,iB]
 exact ⟨by simp,31,by simp,by simp⟩
end Go.Proofs.T
