import Derived.Test.YtgcgpnhokjhghabGreatDoorTA
set_option linter.unusedVariables false
set_option linter.unusedSimpArgs false
set_option linter.unusedVariables false
set_option linter.unusedSimpArgs false
set_option maxHeartbeats 8000000
set_option maxRecDepth 100000
namespace Go.Proofs.T
open Go.OM
section
attribute [local irreducible] Hg O St.wps aO iB Lv Ct Lp VL Option.bind aP sAt eK bN bO mkI eS fO bF aI ite Dr
instance e56_:Ent E 56:=aY Tryz.func56
instance c56_ (a0:List GNode) {r0:List GNode}:Con E 56 (nU a0=some r0) [.val (.sl false 4 (List.map (GNode.enc false) a0))] [.sl true 4 (List.map (GNode.enc true) r0)] []:=by
 refine eZ Tryz.func56 fun C q=>?_;unfold nU;repeat' first | refine And.intro ?_ ?_ | refine Prod.forall.2 ?_ | (intro _;try dsimp only) | refine eY ?_ | exact Z | refine bG 3014 [0,3,4] [] (fun v=>[(3,.t (.sl true 4 (List.map (GNode.enc true) v.1))),(4,.t (vi v.2))]) (fun _=>[]) (by unfold jS;rfl) ?_ | refine cG 2018 [3] [] (fun v=>[(3,.t (.sl true 4 (List.map (GNode.enc true) v)))]) (fun _=>[]) ?_ | refine S ?_
instance e134_:Ent E 134:=aY Tryz.func134
instance c134_ {r0:List ByteArray}:Con E 134 (pW=some r0) [] [.sl true 1 (List.map vs r0)] []:=by
 refine eZ Tryz.func134 fun C q=>?_;unfold pW;repeat' first | refine And.intro ?_ ?_ | refine Prod.forall.2 ?_ | (intro _;try dsimp only) | refine eY ?_ | exact Z | refine S ?_
instance e98_:Ent E 98:=aY Tryz.func98
instance c98_ (a0:Int) {r0:Bool}:Con E 98 (nV a0=some r0) [.val (vi a0)] [vb r0] []:=by
 refine eZ Tryz.func98 fun C q=>?_;unfold nV;repeat' first | refine And.intro ?_ ?_ | refine Prod.forall.2 ?_ | (intro _;try dsimp only) | refine eY ?_ | exact Z | refine cG 2033 [4] [] (fun v=>[(4,.t (vb v))]) (fun _=>[]) ?_ | refine S ?_
instance e54_:Ent E 54:=aY Tryz.func54
instance c54_ (a0:List GNode) {r0:List Int}:Con E 54 (pT a0=some r0) [.val (.sl false 4 (List.map (GNode.enc false) a0))] [.sl true 1 (List.map vi r0)] []:=by
 refine eZ Tryz.func54 fun C q=>?_;unfold pT;repeat' first | refine And.intro ?_ ?_ | refine Prod.forall.2 ?_ | (intro _;try dsimp only) | refine eY ?_ | exact Z | refine bG 6010 [0,3,4,5] [] (fun v=>[(3,.t (.sl true 1 (List.map vi v.1))),(5,.t (vi v.2))]) (fun _=>[]) (by unfold kM;rfl) ?_ | refine cG 5015 [0,3,4] [] (fun v=>[(3,.t (.sl true 1 (List.map vi v)))]) (fun _=>[]) ?_ | refine bG 3023 [0,3,4] [] (fun v=>[(3,.t (.sl true 1 (List.map vi v.1))),(4,.t (vi v.2))]) (fun _=>[]) (by unfold kN;rfl) ?_ | refine cG 2027 [3] [] (fun v=>[(3,.t (.sl true 1 (List.map vi v)))]) (fun _=>[]) ?_ | refine S ?_
instance e154_:Ent E 154:=aY Tryz.func154
instance c154_ (x1:Int) {r0:Int}:Con E 154 (pM x1=some r0) [.val (vi x1)] [vk .u8 r0] []:=by
 refine eZ Tryz.func154 fun C q=>?_;unfold pM;repeat' first | refine And.intro ?_ ?_ | refine Prod.forall.2 ?_ | (intro _;try dsimp only) | refine eY ?_ | exact Z | refine S ?_
instance e41_:Ent E 41:=aY Tryz.func41
instance c41_ (n1:Int) (a1:Int) (a0:Int) {r0:Bool}:Con E 41 (eQ n1 a1 a0=some r0) [.val (vi n1),.val (vi a1),.val (vi a0)] [vb r0] []:=by
 refine eZ Tryz.func41 fun C q=>?_;unfold eQ;repeat' first | refine And.intro ?_ ?_ | refine Prod.forall.2 ?_ | (intro _;try dsimp only) | refine eY ?_ | exact Z | refine cR 1 [6] [] (fun v=>[(6,.t (vb v))]) (fun _=>[]) ?_ | refine S ?_
instance e132_:Ent E 132:=aY Tryz.func132
instance c132_ (s1:ByteArray) (a0:ByteArray) {r0:Bool}:Con E 132 (xS s1 a0=some r0) [.val (vs s1),.val (vs a0)] [vb r0] []:=by
 refine eZ Tryz.func132 fun C q=>?_;unfold xS;repeat' first | refine And.intro ?_ ?_ | refine Prod.forall.2 ?_ | (intro _;try dsimp only) | refine eY ?_ | exact Z | refine bG 2018 [0,8,9,10] [] (fun v=>[(10,.t (vi v))]) (fun _=>[]) (by unfold rA;rfl) ?_ | refine eW 1022 [] [] (fun _=>[]) (fun _=>[]) ?_ | refine S ?_
instance e129_:Ent E 129:=aY Tryz.func129
instance c129_ (a0:Int) {r0:Int} {r1:Int}:Con E 129 (uB a0=some (r0,r1)) [.val (vi a0)] [vi r0,vi r1] []:=by
 refine eZ Tryz.func129 fun C q=>?_;unfold uB;repeat' first | refine And.intro ?_ ?_ | refine Prod.forall.2 ?_ | (intro _;try dsimp only) | refine eY ?_ | exact Z | refine cG 2021 [4,5] [] (fun v=>[(5,.t (vb v))]) (fun _=>[]) ?_ | refine cG 9013 [4,12] [] (fun v=>[(12,.t (vb v))]) (fun _=>[]) ?_ | refine S ?_
instance e40_:Ent E 40:=aY Tryz.func40
instance c40_ (a0:List Int) (n2:Int) {r0:List Int}:Con E 40 (rH a0 n2=some r0) [.val (.sl true 1 (List.map vi a0)),.val (vi n2)] [.sl true 1 (List.map vi r0)] []:=by
 refine eZ Tryz.func40 fun C q=>?_;unfold rH;repeat' first | refine And.intro ?_ ?_ | refine Prod.forall.2 ?_ | (intro _;try dsimp only) | refine eY ?_ | exact Z | refine bG 2016 [0,1,5] [] (fun v=>[(5,.t (vi v))]) (fun _=>[]) (by unfold mG;rfl) ?_ | refine eW 1020 [0,1] [] (fun _=>[]) (fun _=>[]) ?_ | refine S ?_
instance e10_:Ent E 10:=aY Tryz.func10
instance c10_ (a1:List Int) (b2:List Int) {r0:Bool}:Con E 10 (fQ a1 b2=some r0) [.val (.sl false 1 (List.map vi a1)),.val (.sl false 1 (List.map vi b2))] [vb r0] []:=by
 refine eZ Tryz.func10 fun C q=>?_;unfold fQ;repeat' first | refine And.intro ?_ ?_ | refine Prod.forall.2 ?_ | (intro _;try dsimp only) | refine eY ?_ | exact Z | refine bG 4016 [0,1,5] [] (fun v=>[(5,.t (vi v))]) (fun _=>[]) (by unfold gO;rfl) ?_ | refine eW 3020 [] [] (fun _=>[]) (fun _=>[]) ?_ | refine S ?_
end
theorem aRu:dR E.P 26:=eO Tryz.func26 (by simp [Tryz.f26]) rfl
theorem tC (a0:List Int) {r0:Gl01Cur} (h:nD a0=some r0):OkN E 26 [.val (.sl false 1 (List.map (vk .u8) a0))] [.sl false 1 (List.map (vk .u8) r0.b),vi r0.i,vi r0.h]:=by
 refine aJb (fn:=Tryz.f26) Tryz.func26 rfl (by simp [Tryz.f26]) rfl rfl fun C hN hP=>?_
 have y:∀ l,yK [] l=true→oX C.pin l=true:=pO (by rw [hP];rfl)
 have q:C.N=32:=hN;clear hN;unfold nD at h;refine O.zT y ?_;refine aQf rfl rfl fun K u=>?_;simp [q];apply u
 iterate 7 first|refine V_q q ?_|apply aT|refine O.zT y ?_
 obtain ⟨b2,b3,h⟩:=bS h;refine O.seqC [0,3] [] (fun _:Unit=>⟨[(0,.t (.sl false 1 (List.map (vk .u8) a0))),(3,.t (vi b2))],[]⟩) (fun _=>True) (fun _ _=>?_) fun K3 b4=>?_;rotate_left
 ·refine O.zT y ?_;refine V_q q ?_;apply aT;refine O.block ?_;refine O.loopO [] [0,3,4] [] (fun v:Int × Int=>⟨[(0,.t (.sl false 1 (List.map (vk .u8) a0))),(3,.t (vi v.1)),(4,.t (vi v.2))],[]⟩) (pL a0) _ (IntKind.wrap .i64 (78201 + (a0.length:Int)),(0:Int)) b3 (by simp [q]) ?_
  intro g s9 h7 b5;obtain ⟨h5,i6⟩:=g;simp only [pL] at h7;try dsimp only
  refine O.seq ?_;obtain ⟨b6,a2,h7⟩:=bS h7;refine O.seqRCV rfl (y _ rfl) [0,3,4,15] [] (fun _:Unit=>⟨[(0,.t (.sl false 1 (List.map (vk .u8) a0))),(3,.t (vi h5)),(4,.t (vi i6)),(15,.t (vb b6))],[]⟩) (fun _=>True) (fun _ _=>?_) fun c0 a6=>?_;rotate_left
  ·refine V_q q ?_
   iterate 4 refine V_q q ?_
   rcases mD a2 with ⟨a5,a2⟩ | ⟨a3,a2⟩
   ·have a4:=a5;try simp at a4
    iterate 3 (refine V_q q ?_ rfl (by simp [a5,a4];rfl))
    refine aT ?_;cases a2;exact a6 _ () [] trivial (by simp [q,a5,a4])
   have a1:=a3;try simp at a1
   refine nQ fun KW hKW=>?_;refine wO fun K u=>?_;simp [q,a3,a1];apply u;refine wN (hKW _ ?_);clear hKW;refine nQ fun KW hKW=>?_;refine wO fun K u=>?_;simp [q,a3,a1];apply u;refine wN (hKW _ ?_);clear hKW;refine V_q q ?_ rfl (by simp [a3,a1];rfl)
   refine aT ?_;cases a2;exact a6 _ () [] trivial (by simp [q,a3,a1])
  refine O.cI h7 (fun b7 h7=>?_) fun b8 h7=>?_
  ·refine O.skip ?_;refine O.seq ?_;refine O.block ?_;refine O.zU y ?_
   iterate 4 refine V_q q ?_
   obtain ⟨c1,b1,h7⟩:=bS h7;obtain ⟨a7,a8,a9,b0⟩:=gS b1
   iterate 7 (refine V_q q ?_ rfl (by simp [a7,a8,a9,b0];rfl))
   apply aT;refine O.zU y ?_
   iterate 3 refine V_q q ?_
   apply aT;cases h7;exact ⟨_,[],rfl,by simp [q]⟩
  refine O.exit ?_;have b9:=congrArg some (b5 _ (Option.some.inj h7).symm);cases b9;exact b4 _ () [] trivial (by simp [q])
 refine O.zT y ?_
 iterate 5 refine V_q q ?_
 apply aT;cases h;refine O.ret ?_;simp only [aO,iB];exact ⟨by simp,31,by simp,by simp⟩
end Go.Proofs.T
