import Derived.Test.YtgcgpnhokjhghabGreatDoorW1
import Derived.Test.YtgcgpnhokjhghabGreatDoorW10
import Derived.Test.YtgcgpnhokjhghabGreatDoorW11
import Derived.Test.YtgcgpnhokjhghabGreatDoorW12
import Derived.Test.YtgcgpnhokjhghabGreatDoorW13
import Derived.Test.YtgcgpnhokjhghabGreatDoorW15
import Derived.Test.YtgcgpnhokjhghabGreatDoorW6
set_option linter.unusedVariables false
set_option linter.unusedSimpArgs false
set_option linter.unusedVariables false
set_option linter.unusedSimpArgs false
set_option maxHeartbeats 8000000
set_option maxRecDepth 100000
namespace Go.Proofs.T
open Go.OM
theorem wA:Tryz.f128.results.toList=[]:=rfl
theorem ent128:dR E.P 128:=eO Tryz.func128 (by simp [Tryz.f128]) rfl
theorem vW (hb ho:Nat) (m1:Gl05Made) (a5:Bool) (m3:Gl01Cur) {q0:Gl05Made} {q2:Gl01Cur} (h:gU m1 a5 m3=some (q0,q2)):OkH E 128 2 [adr hb ho] [.ptr [.v (adr hb ho),.sl false 1 (List.map vs m1.ints),.sl false 1 (List.map vs m1.boxes),vi m1.n,vs m1.text,vb m1.wild],.val (vb a5),.ptr [.sl false 1 (List.map (vk .u8) m3.b),vi m3.i,vi m3.h]] [] [[.v (adr hb ho),.sl false 1 (List.map vs q0.ints),.sl false 1 (List.map vs q0.boxes),vi q0.n,vs q0.text,vb q0.wild],[.sl false 1 (List.map (vk .u8) q2.b),vi q2.i,vi q2.h]]:=by
 refine jM (fn:=Tryz.f128) (vis:=[.ptr [.v (adr hb ho),.sl false 1 (List.map vs m1.ints),.sl false 1 (List.map vs m1.boxes),vi m1.n,vs m1.text,vb m1.wild],.val (vb a5)]) [0,1] [216,218] Tryz.func128 rfl (by simp [Tryz.f128]) rfl rfl rfl rfl fun C hN hP hPK hPKi=>?_
 have hPKs:PKs C [216,218]:=fun k hk=>by
  simp only [List.mem_cons,List.mem_nil_iff,or_false] at hk;rcases hk with rfl | rfl
  ·obtain ⟨b,off,h1⟩:=hPKi 0 _ rfl;exact ⟨b,off,_,h1⟩
  obtain ⟨b,off,h1⟩:=hPKi 2 _ rfl;exact ⟨b,off,_,h1⟩
 have y:∀ l,yK [] l=true→oX C.pin l=true:=pO (by rw [hP];rfl)
 have q:C.N=216:=hN;clear hN;unfold gU at h;refine O.zT y ?_
 iterate 5 refine V_q q ?_
 obtain ⟨⟨r4,q5⟩,w3,h⟩:=bS h;try dsimp only at h
 refine dE [((.ptr 6),.tmp 9),(.take,.tmp 13)] 14 218 rfl rfl rfl (by simp [gE]) aL7 hPK (.inl rfl) (iN _ _ _ _ _ w3) fun K z=>?_;simp [q];apply z
 iterate 7 first|refine V_q q ?_|apply aT|refine O.zT y ?_
 refine sE 18 218 hPK fun K z=>?_;simp [q];apply z;obtain ⟨⟨r7,q8⟩,w4,h⟩:=bS h;try dsimp only at h
 refine nQ fun KW hKW=>?_;refine fP [((.ptr 3),.tmp 18),(.take,.const (.int .i64 9))] q (Ent.ok (E:=E) (f:=34)) (Con.ok w4) ?_;refine wN (hKW _ ?_);clear hKW
 iterate 6 first|refine V_q q ?_|apply aT|refine O.zT y ?_|refine O.block ?_
 refine O.cI h (fun w5 h=>?_) fun w6 h=>?_
 ·refine O.zT y ?_;refine V_q q ?_;obtain ⟨⟨B8,B9,C0⟩,o7,h⟩:=bS h;try dsimp only at h
  refine dE [((.ptr 6),.tmp 54),(.take,.const (.string (⟨#[114]⟩:ByteArray)))] 55 218 rfl rfl rfl (by simp [gE]) aE5 hPK (.inl rfl) (cP _ _ _ _ _ o7) fun K z=>?_;simp [q];apply z
  refine V_q q ?_;apply aT;refine O.zU y ?_
  iterate 5 refine V_q q ?_
  obtain ⟨C1,o8,h⟩:=bS h;obtain ⟨j7,j8⟩:=aC o8;refine V_q q ?_ rfl (by simp [j7,j8];rfl)
  refine V_q q ?_;obtain ⟨C2,o9,h⟩:=bS h;obtain ⟨j9,k0⟩:=aC o9;refine V_q q ?_ rfl (by simp [j9,k0];rfl)
  obtain ⟨C3,p0,h⟩:=bS h;obtain ⟨k1,k2⟩:=aC p0;refine V_q q ?_ rfl (by simp [k1,k2];rfl)
  refine V_q q ?_;obtain ⟨C4,p1,h⟩:=bS h;obtain ⟨k3,k4⟩:=aC p1;refine V_q q ?_ rfl (by simp [k3,k4];rfl)
  obtain ⟨C5,p2,h⟩:=bS h;obtain ⟨k5,k6⟩:=aC p2;refine V_q q ?_ rfl (by simp [k5,k6];rfl)
  refine V_q q ?_;obtain ⟨C6,p3,h⟩:=bS h;obtain ⟨k7,k8⟩:=aC p3;refine V_q q ?_ rfl (by simp [k7,k8];rfl)
  obtain ⟨C7,p4,h⟩:=bS h;obtain ⟨k9,l0⟩:=aC p4;refine V_q q ?_ rfl (by simp [k9,l0];rfl)
  iterate 3 refine V_q q ?_
  apply aT;cases h;simp [aO,iB,wA]
 refine O.zT y ?_
 iterate 2 refine V_q q ?_
 apply aT;refine O.cI h (fun w7 h=>?_) fun w8 h=>?_
 ·refine O.zT y ?_;refine V_q q ?_;obtain ⟨⟨v2,j1,C8⟩,p5,h⟩:=bS h;try dsimp only at h
  refine dE [((.ptr 6),.tmp 75),(.take,.const (.string (⟨#[109]⟩:ByteArray)))] 76 218 rfl rfl rfl (by simp [gE]) aE5 hPK (.inl rfl) (cP _ _ _ _ _ p5) fun K z=>?_;simp [q];apply z
  refine V_q q ?_;apply aT;obtain ⟨w9,p6,h⟩:=bS h;obtain ⟨a6,a7⟩:=aC p6;obtain ⟨x0,p7,h⟩:=bS h;obtain ⟨a8,a9⟩:=aC p7;obtain ⟨x1,p8,h⟩:=bS h;obtain ⟨b0,b1⟩:=aC p8;obtain ⟨x2,p9,h⟩:=bS h;obtain ⟨b2,b3⟩:=aC p9;obtain ⟨x3,q1,h⟩:=bS h;obtain ⟨b4,b5⟩:=aC q1;obtain ⟨x4,q3,h⟩:=bS h;obtain ⟨b6,b7⟩:=aC q3;obtain ⟨x5,q4,h⟩:=bS h;obtain ⟨b8,b9⟩:=aC q4;obtain ⟨⟨q6,j2⟩,q7,h⟩:=bS h;try dsimp only at h
  obtain ⟨x6,q9,h⟩:=bS h;obtain ⟨c0,c1⟩:=aC q9;obtain ⟨x7,r0,h⟩:=bS h;obtain ⟨c2,c3⟩:=aC r0;refine O.keepK [0,4,6] [216,218] fun K z=>?_;simp [q];apply z;refine O.drawYV rfl (y _ rfl) (en 77 [rf 216 0,rf 216 0,rf 216 0,rf 216 4,.t (vs j1.text),.t (vs w9),.t (vs v2),.t (vs x0),.t (vs x1),.t (vs r4),.t (vs x2),.t (vs x3),.t (vs v2),.t (vs x4),.t (vs x5),rf 216 0,.t (vs q6),.t (vs x6),.t (vs x7)]) [[],[],[],[],[],[],[],[],[],[],[],[],[],[],[],[],[(218,[.sl false 1 (List.map (vk .u8) j2.b),vi j2.i,vi j2.h])],[],[]] [[],[],[1],[1,2],[1,2,3],rg 1 4,[],rg 1 6,rg 1 7,[],rg 1 9,rg 1 10,[],rg 1 12,rg 1 13,[],[15],rg 1 16,rg 1 17,rg 0 19,rg 0 20,rg 0 21] rfl (by simp) (by simp) (by simp [look]) rfl rfl rfl ?_ fun K u=>?_
  ·refine ⟨?_,?_,?_,?_,?_,?_,?_,?_,?_,?_,?_,?_,?_,?_,?_,?_,?_,?_,?_,trivial⟩;all_goals first | (intro τ D hbx hqb hd hf di g1 g2 hT K u;cases l1:D 16<;>(simp [aQ,aX,l1] at hbx;try simp [bQ] at hd;simp [bQ] at hf;first | (refine xC rfl fun K1 c4=>?_;simp [q,hbx,hqb,hd,hf,a6,a7,a8,a9,b0,b1,b2,b3,b4,b5,b6,b7,b8,b9,c0,c1,c2,c3];refine c4 _ ?_;clear c4;exact aT (u _ (by simp [bQ,aQ,aX,bY,hbx,l1,a6,a7,a8,a9,b0,b1,b2,b3,b4,b5,b6,b7,b8,b9,c0,c1,c2,c3]))));done) | skip
   ·intro τ D hbx hqb hd hf v3 g1 g2 hT K u;simp [aQ,aX,v3] at hbx;try simp [bQ] at hd
    refine sW (ks:=[216,218]) (tm0:=[(92,.ref (.box 216) 0 [])]) (tm1:=[(92,.ref (.box 216) 0 []),(93,.t (vs q6))]) (bx1:=[(216,[.v (adr hb ho),.sl false 1 (List.map vs j1.ints),.sl false 1 (List.map vs j1.boxes),vi j1.n,vs j1.text,vb j1.wild]),(218,[.sl false 1 (List.map (vk .u8) j2.b),vi j2.i,vi j2.h])]) (v:=.t (vs q6)) hPKs rfl rfl (fL rfl rfl hT) (by simp [jG]) (by simp [hqb,hd]) ?_ (by simp [look]) rfl (qX rfl _ (fL rfl rfl hT)) (u _ (by simp [bQ,aQ,aX,bY,v3]))
    rw [hbx];refine dE [((.ptr 6),.tmp 92)] 93 218 rfl rfl rfl (by simp [gE]) qP hPK (.inl rfl) (aV _ _ _ _ q7) fun K' w=>?_;simp [q,a6,a7,a8,a9,b0,b1,b2,b3,b4,b5,b6,b7,b8,b9,c0,c1,c2,c3];exact w _ (aT rfl)
  simp [aQ,aX]
  iterate 3 refine V_q q ?_
  apply aT;apply u;cases h;simp [aO,iB,wA]
 refine O.zT y ?_
 iterate 2 refine V_q q ?_
 apply aT;refine O.cI h (fun x8 h=>?_) fun x9 h=>?_
 ·refine O.zU y ?_
  iterate 5 refine V_q q ?_
  obtain ⟨C9,r1,h⟩:=bS h;obtain ⟨l2,l3⟩:=aC r1;refine V_q q ?_ rfl (by simp [l2,l3];rfl)
  refine V_q q ?_;obtain ⟨D0,r2,h⟩:=bS h;obtain ⟨l4,l5⟩:=aC r2;refine V_q q ?_ rfl (by simp [l4,l5];rfl)
  obtain ⟨D1,r3,h⟩:=bS h;obtain ⟨l6,l7⟩:=aC r3;refine V_q q ?_ rfl (by simp [l6,l7];rfl)
  iterate 3 refine V_q q ?_
  apply aT;cases h;simp [aO,iB,wA]
 refine O.zT y ?_
 iterate 2 refine V_q q ?_
 apply aT;refine O.cI h (fun y0 h=>?_) fun y1 h=>?_
 ·obtain ⟨y2,r5,h⟩:=bS h;obtain ⟨c5,c6⟩:=aC r5;obtain ⟨y3,r6,h⟩:=bS h;obtain ⟨c7,c8⟩:=aC r6;obtain ⟨y4,r8,h⟩:=bS h;obtain ⟨c9,d0⟩:=aC r8;obtain ⟨⟨r9,j3⟩,s0,h⟩:=bS h;try dsimp only at h
  obtain ⟨y5,s1,h⟩:=bS h;obtain ⟨d1,d2⟩:=aC s1;obtain ⟨y6,s2,h⟩:=bS h;obtain ⟨d3,d4⟩:=aC s2;refine O.keepK [0,4] [216,218] fun K z=>?_;simp [q];apply z;refine O.drawYV rfl (y _ rfl) (en 113 [rf 216 0,rf 216 0,rf 216 0,rf 216 4,.t (vs m1.text),.t (vs y2),.t (vs r4),.t (vs y3),.t (vs y4),rf 216 0,.t (vs r9),.t (vs y5),.t (vs y6)]) [[],[],[],[],[],[],[],[],[],[],[(218,[.sl false 1 (List.map (vk .u8) j3.b),vi j3.i,vi j3.h])],[],[]] [[],[],[1],[1,2],[1,2,3],rg 1 4,[],rg 1 6,rg 1 7,[],[9],rg 1 10,rg 1 11,rg 0 13,rg 0 14,rg 0 15] rfl (by simp) (by simp) (by simp [look]) rfl rfl rfl ?_ fun K u=>?_
  ·refine ⟨?_,?_,?_,?_,?_,?_,?_,?_,?_,?_,?_,?_,?_,trivial⟩;all_goals first | (intro τ D hbx hqb hd hf di g1 g2 hT K u;cases d5:D 10<;>(simp [aQ,aX,d5] at hbx;try simp [bQ] at hd;simp [bQ] at hf;first | (refine xC rfl fun K1 c4=>?_;simp [q,hbx,hqb,hd,hf,c5,c6,c7,c8,c9,d0,d1,d2,d3,d4];refine c4 _ ?_;clear c4;exact aT (u _ (by simp [bQ,aQ,aX,bY,hbx,d5,c5,c6,c7,c8,c9,d0,d1,d2,d3,d4]))));done) | skip
   ·intro τ D hbx hqb hd hf l8 g1 g2 hT K u;simp [aQ,aX,l8] at hbx;try simp [bQ] at hd
    refine sW (ks:=[216,218]) (tm0:=[(122,.ref (.box 216) 0 [])]) (tm1:=[(122,.ref (.box 216) 0 []),(123,.t (vs r9))]) (bx1:=[(216,[.v (adr hb ho),.sl false 1 (List.map vs m1.ints),.sl false 1 (List.map vs m1.boxes),vi m1.n,vs m1.text,vb m1.wild]),(218,[.sl false 1 (List.map (vk .u8) j3.b),vi j3.i,vi j3.h])]) (v:=.t (vs r9)) hPKs rfl rfl (fL rfl rfl hT) (by simp [jG]) (by simp [hqb,hd]) ?_ (by simp [look]) rfl (qX rfl _ (fL rfl rfl hT)) (u _ (by simp [bQ,aQ,aX,bY,l8]))
    rw [hbx];refine dE [((.ptr 6),.tmp 122)] 123 218 rfl rfl rfl (by simp [gE]) aQr hPK (.inl rfl) (oZ _ _ _ _ s0) fun K' w=>?_;simp [q,c5,c6,c7,c8,c9,d0,d1,d2,d3,d4];exact w _ (aT rfl)
  simp [aQ,aX]
  iterate 3 refine V_q q ?_
  apply aT;apply u;cases h;simp [aO,iB,wA]
 refine O.zT y ?_
 iterate 2 refine V_q q ?_
 apply aT;refine O.cI h (fun y7 h=>?_) fun y8 h=>?_
 ·refine O.zT y ?_;refine V_q q ?_;obtain ⟨⟨v4,D2,D3⟩,s3,h⟩:=bS h;try dsimp only at h
  refine dE [((.ptr 6),.tmp 130),(.take,.const (.string (⟨#[98]⟩:ByteArray)))] 131 218 rfl rfl rfl (by simp [gE]) aE5 hPK (.inl rfl) (cP _ _ _ _ _ s3) fun K z=>?_;simp [q];apply z
  iterate 8 first|refine V_q q ?_|apply aT|refine O.zT y ?_
  obtain ⟨D4,s4,h⟩:=bS h;obtain ⟨l9,m0⟩:=aC s4;refine V_q q ?_ rfl (by simp [l9,m0];rfl)
  refine V_q q ?_;obtain ⟨D5,s5,h⟩:=bS h;obtain ⟨m2,m4⟩:=aC s5;refine V_q q ?_ rfl (by simp [m2,m4];rfl)
  obtain ⟨D6,s6,h⟩:=bS h;obtain ⟨m5,m6⟩:=aC s6;refine V_q q ?_ rfl (by simp [m5,m6];rfl)
  refine V_q q ?_;obtain ⟨D7,s7,h⟩:=bS h;obtain ⟨m7,m8⟩:=aC s7;refine V_q q ?_ rfl (by simp [m7,m8];rfl)
  obtain ⟨D8,s8,h⟩:=bS h;obtain ⟨m9,n0⟩:=aC s8;refine V_q q ?_ rfl (by simp [m9,n0];rfl)
  iterate 3 refine V_q q ?_
  apply aT;obtain ⟨⟨j4,s9⟩,a0,h⟩:=bS h;try dsimp only at h
  refine O.seqC [0,7] [216,218] (fun _:Unit=>⟨[(0,.ref (.box 216) 0 []),(7,.t (vs v4))],[(216,[.v (adr hb ho),.sl false 1 (List.map vs j4.ints),.sl false 1 (List.map vs j4.boxes),vi j4.n,vs j4.text,vb j4.wild]),(218,[.sl false 1 (List.map (vk .u8) s9.b),vi s9.i,vi s9.h])]⟩) (fun _=>True) (fun _ _=>?_) fun K68 n1=>?_;rotate_left
  ·refine O.zT y ?_
   iterate 4 refine V_q q ?_
   refine sE 149 218 hPK fun K z=>?_;simp [q];apply z;obtain ⟨⟨D9,E0⟩,t0,a0⟩:=bS a0;try dsimp only at a0
   refine nQ fun KW hKW=>?_;refine fP [((.ptr 3),.tmp 149),(.take,.const (.int .i64 3))] q (Ent.ok (E:=E) (f:=91)) (Con.ok t0) ?_;refine wN (hKW _ ?_);clear hKW;apply aT;refine O.cI a0 (fun y9 a0=>?_) fun z0 a0=>?_
   ·refine O.zU y ?_
    iterate 2 refine V_q q ?_
    obtain ⟨⟨E1,E2⟩,t1,a0⟩:=bS a0;try dsimp only at a0
    refine dE [((.ptr 6),.tmp 151),(.take,.tmp 152)] 153 218 rfl rfl rfl (by simp [gE]) aOd hPK (.inl rfl) (mE _ _ _ _ _ t1) fun K z=>?_;simp [q];apply z
    apply aT;cases a0;exact n1 _ () [] trivial (by simp [q])
   refine O.skip ?_;cases a0;exact n1 _ () [] trivial (by simp [q])
  refine O.zU y ?_
  iterate 6 refine V_q q ?_
  obtain ⟨E3,t2,h⟩:=bS h;obtain ⟨d6,d7,v5⟩:=aS t2;simp [eSl] at d6 d7
  iterate 3 (refine V_q q ?_ rfl (by simp [d6,d7];rfl))
  obtain ⟨z1,t3,h⟩:=bS h;obtain ⟨h0,h2,n2⟩:=aS t3;have h3:List.map vs j4.boxes ++ List.map vs [v4]=List.map vs z1:=kG (f:=vs) n2;simp [eSl] at h0 h2 h3
  iterate 4 (refine V_q q ?_ rfl (by simp [d6,d7,h0,h2,h3];rfl))
  refine sF 216 2 fun K z=>?_;simp [q];apply z;apply aT;cases h;simp [aO,iB,wA]
 refine O.zT y ?_
 iterate 2 refine V_q q ?_
 apply aT;refine O.cI h (fun z2 h=>?_) fun z3 h=>?_
 ·obtain ⟨z4,t4,h⟩:=bS h;obtain ⟨d8,e0⟩:=aC t4;obtain ⟨z5,t5,h⟩:=bS h;obtain ⟨e1,e2⟩:=aC t5;obtain ⟨z6,t6,h⟩:=bS h;obtain ⟨e3,e4⟩:=aC t6;obtain ⟨⟨t7,j5⟩,t8,h⟩:=bS h;try dsimp only at h
  obtain ⟨z7,t9,h⟩:=bS h;obtain ⟨e5,e6⟩:=aC t9;obtain ⟨z8,u0,h⟩:=bS h;obtain ⟨e7,e8⟩:=aC u0;refine O.keepK [0,4] [216,218] fun K z=>?_;simp [q];apply z;refine O.drawYV rfl (y _ rfl) (en 168 [rf 216 0,rf 216 0,rf 216 0,rf 216 4,.t (vs m1.text),.t (vs z4),.t (vs r4),.t (vs z5),.t (vs z6),rf 216 0,.t (vs t7),.t (vs z7),.t (vs z8)]) [[],[],[],[],[],[],[],[],[],[],[(218,[.sl false 1 (List.map (vk .u8) j5.b),vi j5.i,vi j5.h])],[],[]] [[],[],[1],[1,2],[1,2,3],rg 1 4,[],rg 1 6,rg 1 7,[],[9],rg 1 10,rg 1 11,rg 0 13,rg 0 14,rg 0 15] rfl (by simp) (by simp) (by simp [look]) rfl rfl rfl ?_ fun K u=>?_
  ·refine ⟨?_,?_,?_,?_,?_,?_,?_,?_,?_,?_,?_,?_,?_,trivial⟩;all_goals first | (intro τ D hbx hqb hd hf di g1 g2 hT K u;cases d5:D 10<;>(simp [aQ,aX,d5] at hbx;try simp [bQ] at hd;simp [bQ] at hf;first | (refine xC rfl fun K1 c4=>?_;simp [q,hbx,hqb,hd,hf,d8,e0,e1,e2,e3,e4,e5,e6,e7,e8];refine c4 _ ?_;clear c4;exact aT (u _ (by simp [bQ,aQ,aX,bY,hbx,d5,d8,e0,e1,e2,e3,e4,e5,e6,e7,e8]))));done) | skip
   ·intro τ D hbx hqb hd hf l8 g1 g2 hT K u;simp [aQ,aX,l8] at hbx;try simp [bQ] at hd
    refine sW (ks:=[216,218]) (tm0:=[(177,.ref (.box 216) 0 [])]) (tm1:=[(177,.ref (.box 216) 0 []),(178,.t (vs t7))]) (bx1:=[(216,[.v (adr hb ho),.sl false 1 (List.map vs m1.ints),.sl false 1 (List.map vs m1.boxes),vi m1.n,vs m1.text,vb m1.wild]),(218,[.sl false 1 (List.map (vk .u8) j5.b),vi j5.i,vi j5.h])]) (v:=.t (vs t7)) hPKs rfl rfl (fL rfl rfl hT) (by simp [jG]) (by simp [hqb,hd]) ?_ (by simp [look]) rfl (qX rfl _ (fL rfl rfl hT)) (u _ (by simp [bQ,aQ,aX,bY,l8]))
    rw [hbx];refine dE [((.ptr 6),.tmp 177)] 178 218 rfl rfl rfl (by simp [gE]) aL8 hPK (.inl rfl) (gT _ _ _ _ t8) fun K' w=>?_;simp [q,d8,e0,e1,e2,e3,e4,e5,e6,e7,e8];exact w _ (aT rfl)
  simp [aQ,aX]
  iterate 3 refine V_q q ?_
  apply aT;apply u;cases h;simp [aO,iB,wA]
 refine O.zT y ?_
 iterate 2 refine V_q q ?_
 apply aT;refine O.cI h (fun z9 h=>?_) fun A0 h=>?_
 ·obtain ⟨A1,u1,h⟩:=bS h;obtain ⟨e9,g0⟩:=aC u1;obtain ⟨A2,u2,h⟩:=bS h;obtain ⟨g3,g4⟩:=aC u2;obtain ⟨⟨u3,j6⟩,u4,h⟩:=bS h;try dsimp only at h
  obtain ⟨A3,u5,h⟩:=bS h;obtain ⟨g5,g6⟩:=aC u5;obtain ⟨u6,n3,h⟩:=bS h;obtain ⟨a1,a2⟩:=aC n3;refine O.keepK [0,4] [216,218] fun K z=>?_;simp [q];apply z;refine O.drawYV rfl (y _ rfl) (en 185 [rf 216 0,rf 216 0,rf 216 0,rf 216 4,.t (vs m1.text),.t (vs r4),.t (vs A1),.t (vs A2),rf 216 0,.t (vs u3),.t (vs A3),.t (vs u6)]) [[],[],[],[],[],[],[],[],[],[(218,[.sl false 1 (List.map (vk .u8) j6.b),vi j6.i,vi j6.h])],[],[]] [[],[],[1],[1,2],[1,2,3],[],rg 1 5,rg 1 6,[],[8],rg 1 9,rg 1 10,rg 0 12,rg 0 13,rg 0 14] rfl (by simp) (by simp) (by simp [look]) rfl rfl rfl ?_ fun K u=>?_
  ·refine ⟨?_,?_,?_,?_,?_,?_,?_,?_,?_,?_,?_,?_,trivial⟩;all_goals first | (intro τ D hbx hqb hd hf di g1 g2 hT K u;cases v6:D 9<;>(simp [aQ,aX,v6] at hbx;try simp [bQ] at hd;simp [bQ] at hf;first | (refine xC rfl fun K1 c4=>?_;simp [q,hbx,hqb,hd,hf,e9,g0,g3,g4,g5,g6,a1,a2];refine c4 _ ?_;clear c4;exact aT (u _ (by simp [bQ,aQ,aX,bY,hbx,v6,e9,g0,g3,g4,g5,g6,a1,a2]))));done) | skip
   ·intro τ D hbx hqb hd hf d9 g1 g2 hT K u;simp [aQ,aX,d9] at hbx;try simp [bQ] at hd
    refine sW (ks:=[216,218]) (tm0:=[(193,.ref (.box 216) 0 [])]) (tm1:=[(193,.ref (.box 216) 0 []),(194,.t (vs u3))]) (bx1:=[(216,[.v (adr hb ho),.sl false 1 (List.map vs m1.ints),.sl false 1 (List.map vs m1.boxes),vi m1.n,vs m1.text,vb m1.wild]),(218,[.sl false 1 (List.map (vk .u8) j6.b),vi j6.i,vi j6.h])]) (v:=.t (vs u3)) hPKs rfl rfl (fL rfl rfl hT) (by simp [jG]) (by simp [hqb,hd]) ?_ (by simp [look]) rfl (qX rfl _ (fL rfl rfl hT)) (u _ (by simp [bQ,aQ,aX,bY,d9]))
    rw [hbx];refine dE [((.ptr 6),.tmp 193)] 194 218 rfl rfl rfl (by simp [gE]) qP hPK (.inl rfl) (aV _ _ _ _ u4) fun K' w=>?_;simp [q,e9,g0,g3,g4,g5,g6,a1,a2];exact w _ (aT rfl)
  simp [aQ,aX]
  iterate 3 refine V_q q ?_
  apply aT;apply u;cases h;simp [aO,iB,wA]
 refine O.zT y ?_
 iterate 2 refine V_q q ?_
 apply aT;refine O.cI h (fun v7 h=>?_) fun v8 h=>?_
 ·refine O.zT y ?_;refine V_q q ?_;apply aT;refine O.cI h (fun v9 h=>?_) fun w0 h=>?_
  ·refine O.zT y ?_
   iterate 5 refine V_q q ?_
   obtain ⟨A4,n4,h⟩:=bS h;obtain ⟨h4,h5⟩:=aC n4;refine V_q q ?_ rfl (by simp [h4,h5];rfl)
   refine V_q q ?_;obtain ⟨A5,n5,h⟩:=bS h;obtain ⟨h6,h7⟩:=aC n5;refine V_q q ?_ rfl (by simp [h6,h7];rfl)
   obtain ⟨A6,n6,h⟩:=bS h;obtain ⟨h8,h9⟩:=aC n6;refine V_q q ?_ rfl (by simp [h8,h9];rfl)
   iterate 3 refine V_q q ?_
   apply aT;refine O.zU y ?_
   iterate 2 refine V_q q ?_
   obtain ⟨⟨A7,A8⟩,n7,h⟩:=bS h;try dsimp only at h
   refine dE [((.ptr 6),.tmp 213),(.take,.tmp 214)] 215 218 rfl rfl rfl (by simp [gE]) aOd hPK (.inl rfl) (mE _ _ _ _ _ n7) fun K z=>?_;simp [q];apply z
   apply aT;cases h;simp [aO,iB,wA]
  refine O.skip ?_;cases h;simp [aO,iB,wA]
 refine O.zT y ?_;refine V_q q ?_;apply aT;refine O.cI h (fun w1 h=>?_) fun w2 h=>?_
 ·refine O.zT y ?_;refine V_q q ?_;obtain ⟨⟨u7,A9,B0⟩,n8,h⟩:=bS h;try dsimp only at h
  refine dE [((.ptr 6),.tmp 21),(.take,.const (.string (⟨#[98]⟩:ByteArray)))] 22 218 rfl rfl rfl (by simp [gE]) aE5 hPK (.inl rfl) (cP _ _ _ _ _ n8) fun K z=>?_;simp [q];apply z
  iterate 8 first|refine V_q q ?_|apply aT|refine O.zT y ?_
  obtain ⟨B1,n9,h⟩:=bS h;obtain ⟨i0,i1⟩:=aC n9;refine V_q q ?_ rfl (by simp [i0,i1];rfl)
  refine V_q q ?_;obtain ⟨B2,o0,h⟩:=bS h;obtain ⟨i2,i3⟩:=aC o0;refine V_q q ?_ rfl (by simp [i2,i3];rfl)
  obtain ⟨B3,o1,h⟩:=bS h;obtain ⟨i4,i5⟩:=aC o1;refine V_q q ?_ rfl (by simp [i4,i5];rfl)
  refine V_q q ?_;obtain ⟨B4,o2,h⟩:=bS h;obtain ⟨i6,i7⟩:=aC o2;refine V_q q ?_ rfl (by simp [i6,i7];rfl)
  obtain ⟨B5,o3,h⟩:=bS h;obtain ⟨i8,i9⟩:=aC o3;refine V_q q ?_ rfl (by simp [i8,i9];rfl)
  iterate 7 first|refine V_q q ?_|apply aT|refine O.zT y ?_
  obtain ⟨⟨u9,B6⟩,o4,h⟩:=bS h;try dsimp only at h
  refine dE [((.ptr 6),.tmp 37),(.take,.tmp 38)] 39 218 rfl rfl rfl (by simp [gE]) aOd hPK (.inl rfl) (mE _ _ _ _ _ o4) fun K z=>?_;simp [q];apply z
  apply aT;refine O.zU y ?_
  iterate 6 refine V_q q ?_
  obtain ⟨B7,o5,h⟩:=bS h;obtain ⟨a3,a4,v0⟩:=aS o5;simp [eSl] at a3 a4
  iterate 3 (refine V_q q ?_ rfl (by simp [a3,a4];rfl))
  obtain ⟨v1,o6,h⟩:=bS h;obtain ⟨g7,g8,j0⟩:=aS o6;have g9:List.map vs u9.boxes ++ List.map vs [u7]=List.map vs v1:=kG (f:=vs) j0;simp [eSl] at g7 g8 g9
  iterate 4 (refine V_q q ?_ rfl (by simp [a3,a4,g7,g8,g9];rfl))
  refine sF 216 2 fun K z=>?_;simp [q];apply z;apply aT;cases h;simp [aO,iB,wA]
 refine O.skip ?_;cases h;simp [aO,iB,wA]
end Go.Proofs.T
