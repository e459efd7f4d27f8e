import Derived.Test.YtgcgpnhokjhghabGreatDoorW0
import Derived.Test.YtgcgpnhokjhghabGreatDoorW10
import Derived.Test.YtgcgpnhokjhghabGreatDoorW12
import Derived.Test.YtgcgpnhokjhghabGreatDoorW13
import Derived.Test.YtgcgpnhokjhghabGreatDoorW6
import Derived.Test.YtgcgpnhokjhghabGreatDoorW9
set_option linter.unusedVariables false
set_option linter.unusedSimpArgs false
set_option linter.unusedVariables false
set_option linter.unusedSimpArgs false
set_option maxHeartbeats 8000000
set_option maxRecDepth 100000
namespace Go.Proofs.T
open Go.OM
section
attribute [local irreducible] Hg O St.wps aO iB Lv Ct Lp VL Option.bind aP sAt eK bN bO mkI eS fO bF aI ite Dr
abbrev K121 (f:Gl05Read→Option (Int × Gl05Read)):Prop:=∀ (a0:Gl05Read) (r0:Int) (q0:Gl05Read),Con E 121 (f a0=some (r0,q0)) [.ptr [.sl true 3 (List.map GSign.enc a0.list),vi a0.at_,vb a0.bad,vi a0.deep,.sl true 4 (List.map (GNode.enc true) a0.nodes)]] [vi r0] [[.sl true 3 (List.map GSign.enc q0.list),vi q0.at_,vb q0.bad,vi q0.deep,.sl true 4 (List.map (GNode.enc true) q0.nodes)]]
instance e121_:Ent E 121:=aY Tryz.func121
abbrev K144 (f:Gl05Read→Option (Int × Gl05Read)):Prop:=∀ (a0:Gl05Read) (r0:Int) (q0:Gl05Read),Con E 144 (f a0=some (r0,q0)) [.ptr [.sl true 3 (List.map GSign.enc a0.list),vi a0.at_,vb a0.bad,vi a0.deep,.sl true 4 (List.map (GNode.enc true) a0.nodes)]] [vi r0] [[.sl true 3 (List.map GSign.enc q0.list),vi q0.at_,vb q0.bad,vi q0.deep,.sl true 4 (List.map (GNode.enc true) q0.nodes)]]
instance e144_:Ent E 144:=aY Tryz.func144
abbrev K153 (f:Gl05Read→Option (Int × Gl05Read)):Prop:=∀ (a0:Gl05Read) (r0:Int) (q0:Gl05Read),Con E 153 (f a0=some (r0,q0)) [.ptr [.sl true 3 (List.map GSign.enc a0.list),vi a0.at_,vb a0.bad,vi a0.deep,.sl true 4 (List.map (GNode.enc true) a0.nodes)]] [vi r0] [[.sl true 3 (List.map GSign.enc q0.list),vi q0.at_,vb q0.bad,vi q0.deep,.sl true 4 (List.map (GNode.enc true) q0.nodes)]]
instance e153_:Ent E 153:=aY Tryz.func153
abbrev K157 (f:Gl05Read→ByteArray→Option (Int × Gl05Read)):Prop:=∀ (a0:Gl05Read) (a1:ByteArray) (r0:Int) (q0:Gl05Read),Con E 157 (f a0 a1=some (r0,q0)) [.ptr [.sl true 3 (List.map GSign.enc a0.list),vi a0.at_,vb a0.bad,vi a0.deep,.sl true 4 (List.map (GNode.enc true) a0.nodes)],.val (vs a1)] [vi r0] [[.sl true 3 (List.map GSign.enc q0.list),vi q0.at_,vb q0.bad,vi q0.deep,.sl true 4 (List.map (GNode.enc true) q0.nodes)]]
instance e157_:Ent E 157:=aY Tryz.func157
theorem uT (a0:Gl05Read→Option (Int × Gl05Read)) (a4:K121 a0) (a3:Gl05Read→Option (Int × Gl05Read)) (a5:K144 a3) (a1:Gl05Read→Option (Int × Gl05Read)) (a6:K153 a1) (a2:Gl05Read→ByteArray→Option (Int × Gl05Read)) (a7:K157 a2):K121 (cV a0 a3 a1 a2):=by
 intro r1 r0 q0;refine eZ Tryz.func121 fun C q=>?_;unfold cV;repeat' first | refine And.intro ?_ ?_ | refine Prod.forall.2 ?_ | (intro _;try dsimp only) | refine eY ?_ | exact Z | refine cG 3009 [0,3,4] [24] (fun v=>[(4,.t (vi v.1))]) (fun v=>[(24,[.sl true 3 (List.map GSign.enc v.2.list),vi v.2.at_,vb v.2.bad,vi v.2.deep,.sl true 4 (List.map (GNode.enc true) v.2.nodes)])]) ?_ | refine S ?_
theorem vV (a0:Gl05Read→Option (Int × Gl05Read)) (a4:K121 a0) (a3:Gl05Read→Option (Int × Gl05Read)) (a5:K144 a3) (a1:Gl05Read→Option (Int × Gl05Read)) (a6:K153 a1) (a2:Gl05Read→ByteArray→Option (Int × Gl05Read)) (a7:K157 a2):K144 (dV a0 a3 a1 a2):=by
 intro r1 r0 q0;refine eZ Tryz.func144 fun C q=>?_;unfold dV;repeat' first | refine And.intro ?_ ?_ | refine Prod.forall.2 ?_ | (intro _;try dsimp only) | refine eY ?_ | exact Z | refine bG 2010 [0,3] [18] (fun v=>[(3,.t (vi v.1))]) (fun v=>[(18,[.sl true 3 (List.map GSign.enc v.2.list),vi v.2.at_,vb v.2.bad,vi v.2.deep,.sl true 4 (List.map (GNode.enc true) v.2.nodes)])]) (by unfold fZ;rfl) ?_ | refine cG 2012 [0,3] [18] (fun v=>[(3,.t (vi v.1))]) (fun v=>[(18,[.sl true 3 (List.map GSign.enc v.2.list),vi v.2.at_,vb v.2.bad,vi v.2.deep,.sl true 4 (List.map (GNode.enc true) v.2.nodes)])]) ?_ | refine S ?_
theorem vK (a0:Gl05Read→Option (Int × Gl05Read)) (a4:K121 a0) (a3:Gl05Read→Option (Int × Gl05Read)) (a5:K144 a3) (a1:Gl05Read→Option (Int × Gl05Read)) (a6:K153 a1) (a2:Gl05Read→ByteArray→Option (Int × Gl05Read)) (a7:K157 a2):K153 (dF a0 a3 a1 a2):=by
 intro r1 r0 q0;refine eZ Tryz.func153 fun C q=>?_;unfold dF;repeat' first | refine And.intro ?_ ?_ | refine Prod.forall.2 ?_ | (intro _;try dsimp only) | refine eY ?_ | exact Z | refine cG 1001 [0,28] [140] (fun v=>[(28,.t (vb v))]) (fun _=>[]) ?_ | refine cG 10042 [0,3] [140] (fun v=>[(3,.t (vi v.1))]) (fun v=>[(140,[.sl true 3 (List.map GSign.enc v.2.list),vi v.2.at_,vb v.2.bad,vi v.2.deep,.sl true 4 (List.map (GNode.enc true) v.2.nodes)])]) ?_ | refine S ?_
theorem vM (a0:Gl05Read→Option (Int × Gl05Read)) (a5:K121 a0) (a3:Gl05Read→Option (Int × Gl05Read)) (a6:K144 a3) (a1:Gl05Read→Option (Int × Gl05Read)) (a7:K153 a1) (a2:Gl05Read→ByteArray→Option (Int × Gl05Read)) (a8:K157 a2):K157 (dH a0 a3 a1 a2):=by
 intro r1 a4 r0 q0;refine eZ Tryz.func157 fun C q=>?_;unfold dH;repeat' first | refine And.intro ?_ ?_ | refine Prod.forall.2 ?_ | (intro _;try dsimp only) | refine eY ?_ | exact Z | refine bG 3016 [0,1,5] [29] (fun v=>[(5,.t (.sl true 1 (List.map vi v.1)))]) (fun v=>[(29,[.sl true 3 (List.map GSign.enc v.2.list),vi v.2.at_,vb v.2.bad,vi v.2.deep,.sl true 4 (List.map (GNode.enc true) v.2.nodes)])]) (by unfold fK;rfl) ?_ | refine cG 2022 [0,1,5] [29] (fun v=>[(5,.t (.sl true 1 (List.map vi v.1)))]) (fun v=>[(29,[.sl true 3 (List.map GSign.enc v.2.list),vi v.2.at_,vb v.2.bad,vi v.2.deep,.sl true 4 (List.map (GNode.enc true) v.2.nodes)])]) ?_ | refine S ?_
theorem aL:∀ n:Nat,K121 (aA n).1∧K144 (aA n).2.1∧K153 (aA n).2.2.1∧K157 (aA n).2.2.2
 | 0=>⟨(fun _ _ _=>Con.mk fun h=>nomatch h),(fun _ _ _=>Con.mk fun h=>nomatch h),(fun _ _ _=>Con.mk fun h=>nomatch h),(fun _ _ _ _=>Con.mk fun h=>nomatch h)⟩
 | n + 1=>⟨uT _ (aL n).1 _ (aL n).2.1 _ (aL n).2.2.1 _ (aL n).2.2.2,vV _ (aL n).1 _ (aL n).2.1 _ (aL n).2.2.1 _ (aL n).2.2.2,vK _ (aL n).1 _ (aL n).2.1 _ (aL n).2.2.1 _ (aL n).2.2.2,vM _ (aL n).1 _ (aL n).2.1 _ (aL n).2.2.1 _ (aL n).2.2.2⟩
instance c121_:K121 dU:=(aL bL).1
instance c144_:K144 aC6:=(aL bL).2.1
instance c153_:K153 aB0:=(aL bL).2.2.1
instance c157_:K157 aB2:=(aL bL).2.2.2
end
theorem aDb:Tryz.f122.results.toList=[.tmp 2]:=rfl
theorem aL8:dR E.P 122:=eO Tryz.func122 (by simp [Tryz.f122]) rfl
theorem gT (hb ho:Nat) (m1:Gl05Made) (m2:Gl01Cur) {r0:ByteArray} {q1:Gl01Cur} (h:cY m1 m2=some (r0,q1)):OkH E 122 1 [adr hb ho] [.ptr [.v (adr hb ho),.sl false 1 (List.map vs m1.ints),.sl false 1 (List.map vs m1.boxes),vi m1.n,vs m1.text,vb m1.wild],.ptr [.sl false 1 (List.map (vk .u8) m2.b),vi m2.i,vi m2.h]] [vs r0] [[.v (adr hb ho),.sl false 1 (List.map vs m1.ints),.sl false 1 (List.map vs m1.boxes),vi m1.n,vs m1.text,vb m1.wild],[.sl false 1 (List.map (vk .u8) q1.b),vi q1.i,vi q1.h]]:=by
 refine jM (fn:=Tryz.f122) (vis:=[.ptr [.v (adr hb ho),.sl false 1 (List.map vs m1.ints),.sl false 1 (List.map vs m1.boxes),vi m1.n,vs m1.text,vb m1.wild]]) [0] [56,57] Tryz.func122 rfl (by simp [Tryz.f122]) rfl rfl rfl rfl fun C hN hP hPK hPKi=>?_
 have y:∀ l,yK [] l=true→oX C.pin l=true:=pO (by rw [hP];rfl)
 have q:C.N=56:=hN;clear hN;unfold cY at h;refine O.zT y ?_;refine V_q q ?_;apply aT;refine O.seq ?_;refine O.zT y ?_
 iterate 4 refine V_q q ?_
 refine sE 6 57 hPK fun K u=>?_;simp [q];apply u;obtain ⟨⟨r3,q4⟩,g1,h⟩:=bS h;try dsimp only at h
 refine nQ fun KW hKW=>?_;refine fP [((.ptr 3),.tmp 6),(.take,.const (.int .i64 7))] q (Ent.ok (E:=E) (f:=34)) (Con.ok g1) ?_;refine wN (hKW _ ?_);clear hKW
 iterate 6 first|refine V_q q ?_|apply aT|refine O.zT y ?_|refine O.block ?_
 refine O.cI h (fun h2 h=>?_) fun h3 h=>?_
 ·refine O.zT y ?_;refine V_q q ?_;obtain ⟨⟨r8,q9⟩,c6,h⟩:=bS h;try dsimp only at h
  refine dE [((.ptr 6),.tmp 10)] 11 57 rfl rfl rfl (by simp [gE]) qP hPK (.inl rfl) (aV _ _ _ _ c6) fun K u=>?_;simp [q];apply u
  obtain ⟨h4,c7,h⟩:=bS h;obtain ⟨a0,a1⟩:=aC c7;refine V_q q ?_ rfl (by simp [a0,a1];rfl)
  refine V_q q ?_;obtain ⟨⟨h5,h6⟩,c8,h⟩:=bS h;try dsimp only at h
  refine dE [((.ptr 6),.tmp 13)] 14 57 rfl rfl rfl (by simp [gE]) qP hPK (.inl rfl) (aV _ _ _ _ c8) fun K u=>?_;simp [q];apply u
  obtain ⟨h7,c9,h⟩:=bS h;obtain ⟨a2,a3⟩:=aC c9;refine V_q q ?_ rfl (by simp [a2,a3];rfl)
  refine V_q q ?_;apply aT;cases h;refine O.ret ?_;simp [aO,iB,aDb]
 refine O.zT y ?_
 iterate 2 refine V_q q ?_
 apply aT;refine O.cI h (fun g2 h=>?_) fun g3 h=>?_
 ·refine O.zT y ?_;refine V_q q ?_;obtain ⟨⟨h8,h9⟩,d0,h⟩:=bS h;try dsimp only at h
  refine dE [((.ptr 6),.tmp 18)] 19 57 rfl rfl rfl (by simp [gE]) qP hPK (.inl rfl) (aV _ _ _ _ d0) fun K u=>?_;simp [q];apply u
  obtain ⟨i0,d1,h⟩:=bS h;obtain ⟨a4,a5⟩:=aC d1;refine V_q q ?_ rfl (by simp [a4,a5];rfl)
  refine V_q q ?_;obtain ⟨⟨i1,i2⟩,d2,h⟩:=bS h;try dsimp only at h
  refine dE [((.ptr 6),.tmp 21)] 22 57 rfl rfl rfl (by simp [gE]) qP hPK (.inl rfl) (aV _ _ _ _ d2) fun K u=>?_;simp [q];apply u
  obtain ⟨i3,d3,h⟩:=bS h;obtain ⟨a6,a7⟩:=aC d3;refine V_q q ?_ rfl (by simp [a6,a7];rfl)
  refine V_q q ?_;apply aT;cases h;refine O.ret ?_;simp [aO,iB,aDb]
 refine O.zT y ?_
 iterate 2 refine V_q q ?_
 apply aT;refine O.cI h (fun g4 h=>?_) fun g5 h=>?_
 ·refine O.zT y ?_;refine V_q q ?_;obtain ⟨⟨i4,i5⟩,d4,h⟩:=bS h;try dsimp only at h
  refine dE [((.ptr 6),.tmp 26)] 27 57 rfl rfl rfl (by simp [gE]) qP hPK (.inl rfl) (aV _ _ _ _ d4) fun K u=>?_;simp [q];apply u
  obtain ⟨i6,d5,h⟩:=bS h;obtain ⟨a8,a9⟩:=aC d5;refine V_q q ?_ rfl (by simp [a8,a9];rfl)
  obtain ⟨i7,d6,h⟩:=bS h;obtain ⟨b0,b1⟩:=aC d6;refine V_q q ?_ rfl (by simp [b0,b1];rfl)
  refine V_q q ?_;obtain ⟨⟨i8,i9⟩,d7,h⟩:=bS h;try dsimp only at h
  refine dE [((.ptr 6),.tmp 30)] 31 57 rfl rfl rfl (by simp [gE]) qP hPK (.inl rfl) (aV _ _ _ _ d7) fun K u=>?_;simp [q];apply u
  obtain ⟨j0,d8,h⟩:=bS h;obtain ⟨b2,b3⟩:=aC d8;refine V_q q ?_ rfl (by simp [b2,b3];rfl)
  obtain ⟨j1,d9,h⟩:=bS h;obtain ⟨b4,b5⟩:=aC d9;refine V_q q ?_ rfl (by simp [b4,b5];rfl)
  refine V_q q ?_;obtain ⟨⟨j2,j3⟩,e0,h⟩:=bS h;try dsimp only at h
  refine dE [((.ptr 6),.tmp 34)] 35 57 rfl rfl rfl (by simp [gE]) qP hPK (.inl rfl) (aV _ _ _ _ e0) fun K u=>?_;simp [q];apply u
  obtain ⟨j4,e1,h⟩:=bS h;obtain ⟨b6,b7⟩:=aC e1;refine V_q q ?_ rfl (by simp [b6,b7];rfl)
  refine V_q q ?_;apply aT;cases h;refine O.ret ?_;simp [aO,iB,aDb]
 refine O.zT y ?_
 iterate 2 refine V_q q ?_
 apply aT;refine O.cI h (fun g6 h=>?_) fun g7 h=>?_
 ·refine O.zT y ?_;refine V_q q ?_;obtain ⟨⟨j5,j6⟩,e2,h⟩:=bS h;try dsimp only at h
  refine dE [((.ptr 6),.tmp 39)] 40 57 rfl rfl rfl (by simp [gE]) qP hPK (.inl rfl) (aV _ _ _ _ e2) fun K u=>?_;simp [q];apply u
  obtain ⟨j7,e3,h⟩:=bS h;obtain ⟨b8,b9⟩:=aC e3;refine V_q q ?_ rfl (by simp [b8,b9];rfl)
  obtain ⟨j8,e4,h⟩:=bS h;obtain ⟨c0,c1⟩:=aC e4;refine V_q q ?_ rfl (by simp [c0,c1];rfl)
  refine V_q q ?_;obtain ⟨⟨j9,k0⟩,e5,h⟩:=bS h;try dsimp only at h
  refine dE [((.ptr 6),.tmp 43)] 44 57 rfl rfl rfl (by simp [gE]) qP hPK (.inl rfl) (aV _ _ _ _ e5) fun K u=>?_;simp [q];apply u
  obtain ⟨k1,e6,h⟩:=bS h;obtain ⟨c2,c3⟩:=aC e6;refine V_q q ?_ rfl (by simp [c2,c3];rfl)
  obtain ⟨k2,e7,h⟩:=bS h;obtain ⟨c4,c5⟩:=aC e7;refine V_q q ?_ rfl (by simp [c4,c5];rfl)
  refine V_q q ?_;apply aT;cases h;refine O.ret ?_;simp [aO,iB,aDb]
 refine O.zT y ?_
 iterate 2 refine V_q q ?_
 apply aT;refine O.cI h (fun g8 h=>?_) fun g9 h=>?_
 ·refine O.zT y ?_
  iterate 4 refine V_q q ?_
  refine sE 52 57 hPK fun K u=>?_;simp [q];apply u;obtain ⟨⟨k3,k4⟩,e8,h⟩:=bS h;try dsimp only at h
  refine nQ fun KW hKW=>?_;refine fP [((.ptr 3),.tmp 52),(.take,.const (.int .i64 3))] q (Ent.ok (E:=E) (f:=91)) (Con.ok e8) ?_;refine wN (hKW _ ?_);clear hKW;apply aT;refine O.cI h (fun h0 h=>?_) fun h1 h=>?_
  ·refine O.zT y ?_;refine V_q q ?_;apply aT;cases h;refine O.ret ?_;simp [aO,iB,aDb]
  refine O.skip ?_;refine O.zT y ?_;refine V_q q ?_;obtain ⟨⟨k5,k6⟩,e9,h⟩:=bS h;try dsimp only at h
  refine dE [((.ptr 6),.tmp 54)] 55 57 rfl rfl rfl (by simp [gE]) qP hPK (.inl rfl) (aV _ _ _ _ e9) fun K u=>?_;simp [q];apply u
  refine V_q q ?_;apply aT;cases h;refine O.ret ?_;simp [aO,iB,aDb]
 refine O.skip ?_;refine O.zT y ?_;refine V_q q ?_;obtain ⟨⟨k7,k8⟩,g0,h⟩:=bS h;try dsimp only at h
 refine dE [((.ptr 6),.tmp 54)] 55 57 rfl rfl rfl (by simp [gE]) qP hPK (.inl rfl) (aV _ _ _ _ g0) fun K u=>?_;simp [q];apply u
 refine V_q q ?_;apply aT;cases h;refine O.ret ?_;simp [aO,iB,aDb]
end Go.Proofs.T
