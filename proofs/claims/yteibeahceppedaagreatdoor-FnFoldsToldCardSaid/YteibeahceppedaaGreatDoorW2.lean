import Derived.Test.YteibeahceppedaaGreatDoorTA
set_option linter.unusedVariables false
set_option linter.unusedSimpArgs false
set_option linter.unusedVariables false
set_option linter.unusedSimpArgs false
set_option maxHeartbeats 8000000
set_option maxRecDepth 100000
namespace Go.Proofs.T
open Go.OM
section
attribute [local irreducible] Hg O St.wps aO iB Lv Ct Lp VL Option.bind aY sAt fD bK bW mkI fE gO bF aJ ite Dr
instance e49_:Ent E 49:=aX Tryz.func49
instance c49_ (a0:List GNode) {r0:List GNode}:Con E 49 (kX a0=some r0) [.val (.sl false 4 (List.map (GNode.enc false) a0))] [.sl true 4 (List.map (GNode.enc true) r0)] []:=by
 refine fW Tryz.func49 fun C q=>?_
 unfold kX
 repeat' first | refine And.intro ?_ ?_ | refine Prod.forall.2 ?_ | (intro _;try dsimp only) | refine fS ?_ | exact Z | refine cH 3014 [0,3,4] [] (fun v=>[(3,.t (.sl true 4 (List.map (GNode.enc true) v.1))),(4,.t (vi v.2))]) (fun _=>[]) (by unfold hO;rfl) ?_ | refine dP 2018 [3] [] (fun v=>[(3,.t (.sl true 4 (List.map (GNode.enc true) v)))]) (fun _=>[]) ?_ | refine S ?_
instance e36_:Ent E 36:=aX Tryz.func36
instance c36_ (x1:Int) (a0:Int) (a1:Int) {r0:Bool}:Con E 36 (bY x1 a0 a1=some r0) [.val (vi x1),.val (vi a0),.val (vi a1)] [vb r0] []:=by
 refine fW Tryz.func36 fun C q=>?_
 unfold bY
 repeat' first | refine And.intro ?_ ?_ | refine Prod.forall.2 ?_ | (intro _;try dsimp only) | refine fS ?_ | exact Z | refine cK 1 [6] [] (fun v=>[(6,.t (vb v))]) (fun _=>[]) ?_ | refine S ?_
instance e78_:Ent E 78:=aX Tryz.func78
instance c78_ (b1:Int) {r0:Bool}:Con E 78 (dZ b1=some r0) [.val (vk .u8 b1)] [vb r0] []:=by
 refine fW Tryz.func78 fun C q=>?_
 unfold dZ
 repeat' first | refine And.intro ?_ ?_ | refine Prod.forall.2 ?_ | (intro _;try dsimp only) | refine fS ?_ | exact Z | refine cK 1 [2] [] (fun v=>[(2,.t (vb v))]) (fun _=>[]) ?_ | refine S ?_
instance e67_:Ent E 67:=aX Tryz.func67
instance c67_ (a0:Int) {r0:Int} {r1:Int}:Con E 67 (mO a0=some (r0,r1)) [.val (vi a0)] [vi r0,vi r1] []:=by
 refine fW Tryz.func67 fun C q=>?_
 unfold mO
 repeat' first | refine And.intro ?_ ?_ | refine Prod.forall.2 ?_ | (intro _;try dsimp only) | refine fS ?_ | exact Z | refine dP 2021 [4,5] [] (fun v=>[(5,.t (vb v))]) (fun _=>[]) ?_ | refine dP 9013 [4,12] [] (fun v=>[(12,.t (vb v))]) (fun _=>[]) ?_ | refine S ?_
instance e68_:Ent E 68:=aX Tryz.func68
instance c68_ (a0:Int) {r0:Bool}:Con E 68 (kY a0=some r0) [.val (vi a0)] [vb r0] []:=by
 refine fW Tryz.func68 fun C q=>?_
 unfold kY
 repeat' first | refine And.intro ?_ ?_ | refine Prod.forall.2 ?_ | (intro _;try dsimp only) | refine fS ?_ | exact Z | refine dP 2033 [4] [] (fun v=>[(4,.t (vb v))]) (fun _=>[]) ?_ | refine S ?_
instance e43_:Ent E 43:=aX Tryz.func43
instance c43_ (a0:List GNode) {r0:List Int}:Con E 43 (mN a0=some r0) [.val (.sl false 4 (List.map (GNode.enc false) a0))] [.sl true 1 (List.map vi r0)] []:=by
 refine fW Tryz.func43 fun C q=>?_
 unfold mN
 repeat' first | refine And.intro ?_ ?_ | refine Prod.forall.2 ?_ | (intro _;try dsimp only) | refine fS ?_ | exact Z | refine cH 6010 [0,3,4,5] [] (fun v=>[(3,.t (.sl true 1 (List.map vi v.1))),(5,.t (vi v.2))]) (fun _=>[]) (by unfold iW;rfl) ?_ | refine dP 5015 [0,3,4] [] (fun v=>[(3,.t (.sl true 1 (List.map vi v)))]) (fun _=>[]) ?_ | refine cH 3023 [0,3,4] [] (fun v=>[(3,.t (.sl true 1 (List.map vi v.1))),(4,.t (vi v.2))]) (fun _=>[]) (by unfold iX;rfl) ?_ | refine dP 2027 [3] [] (fun v=>[(3,.t (.sl true 1 (List.map vi v)))]) (fun _=>[]) ?_ | refine S ?_
instance e98_:Ent E 98:=aX Tryz.func98
instance c98_ {r0:List ByteArray}:Con E 98 (lA=some r0) [] [.sl true 1 (List.map vs r0)] []:=by
 refine fW Tryz.func98 fun C q=>?_
 unfold lA
 repeat' first | refine And.intro ?_ ?_ | refine Prod.forall.2 ?_ | (intro _;try dsimp only) | refine fS ?_ | exact Z | refine S ?_
abbrev K20 (f:(List GNode)→Int→Option (Int × Bool)):Prop:=∀ (a0:List GNode) (a1:Int) (r0:Int) (r1:Bool),Con E 20 (f a0 a1=some (r0,r1)) [.val (.sl false 4 (List.map (GNode.enc false) a0)),.val (vi a1)] [vi r0,vb r1] []
instance e20_:Ent E 20:=aX Tryz.func20
theorem uG (a0:(List GNode)→Int→Option (Int × Bool)) (a2:K20 a0):K20 (iV a0):=by
 intro a1 k2 r0 r1
 refine fW Tryz.func20 fun C q=>?_
 unfold iV
 repeat' first | refine And.intro ?_ ?_ | refine Prod.forall.2 ?_ | (intro _;try dsimp only) | refine fS ?_ | exact Z | refine dP 5009 [0,6,22] [6] (fun v=>[(22,.t (vb v))]) (fun _=>[]) ?_ | refine cK 10 [6,7,9,49] [6] (fun v=>[(49,.t (vb v))]) (fun _=>[]) ?_ | refine cK 15 [11,57] [] (fun v=>[(57,.t (vb v))]) (fun _=>[]) ?_ | refine dP 13010 [11] [] (fun v=>[(11,.t (vi v))]) (fun _=>[]) ?_ | refine S ?_
theorem nG:∀ n:Nat,K20 (gC n)
 | 0=>(fun _ _ _ _=>Con.mk fun h=>nomatch h)
 | n + 1=>uG _ (nG n)
instance c20_:K20 kU:=(nG bV)
instance e42_:Ent E 42:=aX Tryz.func42
instance c42_ (p1:GProgram) (a0:ByteArray) {r0:Int}:Con E 42 (rY p1 a0=some r0) [.val (GProgram.enc false p1),.val (vs a0)] [vi r0] []:=by
 refine fW Tryz.func42 fun C q=>?_
 unfold rY
 repeat' first | refine And.intro ?_ ?_ | refine Prod.forall.2 ?_ | (intro _;try dsimp only) | refine fS ?_ | exact Z | refine cH 2018 [1,8,9,10] [] (fun v=>[(10,.t (vi v))]) (fun _=>[]) (by unfold nB;rfl) ?_ | refine iF 1022 [] [] (fun _=>[]) (fun _=>[]) ?_ | refine S ?_
instance e47_:Ent E 47:=aX Tryz.func47
instance c47_ (f1:GFn) {r0:GFn}:Con E 47 (mC f1=some r0) [.val (GFn.enc false f1)] [GFn.enc true r0] []:=by
 refine fW Tryz.func47 fun C q=>?_
 unfold mC
 repeat' first | refine And.intro ?_ ?_ | refine Prod.forall.2 ?_ | (intro _;try dsimp only) | refine fS ?_ | exact Z | refine S ?_
end
theorem ent22:eG E.P 22:=eO Tryz.func22 (by simp [Tryz.f22]) rfl
theorem tH (a0:List Int) {r0:Gl01Cur} (h:lY a0=some r0):OkN E 22 [.val (.sl false 1 (List.map (vk .u8) a0))] [.sl false 1 (List.map (vk .u8) r0.b),vi r0.i,vi r0.h]:=by
 refine aDu (fn:=Tryz.f22) Tryz.func22 rfl (by simp [Tryz.f22]) rfl rfl fun C hN hP=>?_
 have y:∀ l,tU [] l=true→lO C.pin l=true:=pO (by rw [hP];rfl)
 have q:C.N=32:=hN
 clear hN
 unfold lY at h
 refine O.zT y ?_
 refine aK9 rfl rfl fun K u=>?_;simp [q];apply u
 iterate 7 first|refine V_q q ?_|apply aM|refine O.zT y ?_
 obtain ⟨b2,b3,h⟩:=bS h
 refine O.seqC [0,3] [] (fun _:Unit=>⟨[(0,.t (.sl false 1 (List.map (vk .u8) a0))),(3,.t (vi b2))],[]⟩) (fun _=>True) (fun _ _=>?_) fun K3 b4=>?_
 rotate_left
 ·refine O.zT y ?_
  refine V_q q ?_
  apply aM
  refine O.block ?_
  refine O.loopO [] [0,3,4] [] (fun v:Int × Int=>⟨[(0,.t (.sl false 1 (List.map (vk .u8) a0))),(3,.t (vi v.1)),(4,.t (vi v.2))],[]⟩) (mF a0) _ (IntKind.wrap .i64 (78201 + (a0.length:Int)),(0:Int)) b3 (by simp [q]) ?_
  intro g s9 h7 b5
  obtain ⟨h5,i6⟩:=g
  simp only [mF] at h7
  try dsimp only
  refine O.seq ?_
  obtain ⟨b6,a2,h7⟩:=bS h7
  refine O.seqRCV rfl (y _ rfl) [0,3,4,15] [] (fun _:Unit=>⟨[(0,.t (.sl false 1 (List.map (vk .u8) a0))),(3,.t (vi h5)),(4,.t (vi i6)),(15,.t (vb b6))],[]⟩) (fun _=>True) (fun _ _=>?_) fun c0 a6=>?_
  rotate_left
  ·refine V_q q ?_
   iterate 4 refine V_q q ?_
   rcases kC a2 with ⟨a5,a2⟩ | ⟨a3,a2⟩
   ·have a4:=a5
    try simp at a4
    iterate 3 (refine V_q q ?_ rfl (by simp [a5,a4];rfl))
    refine aM ?_
    cases a2
    exact a6 _ () [] trivial (by simp [q,a5,a4])
   have a1:=a3
   try simp at a1
   refine jW fun KW hKW=>?_
   refine wO fun K u=>?_;simp [q,a3,a1];apply u
   refine wN (hKW _ ?_);clear hKW
   refine jW fun KW hKW=>?_
   refine wO fun K u=>?_;simp [q,a3,a1];apply u
   refine wN (hKW _ ?_);clear hKW
   refine V_q q ?_ rfl (by simp [a3,a1];rfl)
   refine aM ?_
   cases a2
   exact a6 _ () [] trivial (by simp [q,a3,a1])
  refine O.cI h7 (fun b7 h7=>?_) fun b8 h7=>?_
  ·refine O.skip ?_
   refine O.seq ?_
   refine O.block ?_
   refine O.zU y ?_
   iterate 4 refine V_q q ?_
   obtain ⟨c1,b1,h7⟩:=bS h7
   obtain ⟨a7,a8,a9,b0⟩:=gS b1
   iterate 7 (refine V_q q ?_ rfl (by simp [a7,a8,a9,b0];rfl))
   apply aM
   refine O.zU y ?_
   iterate 3 refine V_q q ?_
   apply aM
   cases h7
   exact ⟨_,[],rfl,by simp [q]⟩
  refine O.exit ?_
  have b9:=congrArg some (b5 _ (Option.some.inj h7).symm)
  cases b9
  exact b4 _ () [] trivial (by simp [q])
 refine O.zT y ?_
 iterate 5 refine V_q q ?_
 apply aM
 cases h
 refine O.ret ?_
 simp only [aO,iB]
 exact ⟨by simp,31,by simp,by simp⟩
end Go.Proofs.T
