import Derived.Test.YtgcgpnhokjhghabGreatDoorW10
import Derived.Test.YtgcgpnhokjhghabGreatDoorW11
import Derived.Test.YtgcgpnhokjhghabGreatDoorW13
import Derived.Test.YtgcgpnhokjhghabGreatDoorW15
import Derived.Test.YtgcgpnhokjhghabGreatDoorW16
import Derived.Test.YtgcgpnhokjhghabGreatDoorW6
set_option linter.unusedVariables false
set_option linter.unusedSimpArgs false
set_option linter.unusedVariables false
set_option linter.unusedSimpArgs false
set_option maxHeartbeats 8000000
set_option maxRecDepth 100000
namespace Go.Proofs.T
open Go.OM
theorem aJ8:Tryz.f92.results.toList=[]:=rfl
theorem ent92:dR E.P 92:=eO Tryz.func92 (by simp [Tryz.f92]) rfl
theorem res126:Tryz.f126.results.toList=[]:=rfl
theorem aOe:dR E.P 126:=eO Tryz.func126 (by simp [Tryz.f126]) rfl
theorem vN (a6:Gl05Made→Int→Bool→Gl01Cur→Option (Gl05Made × Gl01Cur)) (c8:∀ (hb ho:Nat) (a0:Gl05Made) (a1:Int) (a2:Bool) (a3:Gl01Cur) {q0:Gl05Made} {q3:Gl01Cur},a6 a0 a1 a2 a3=some (q0,q3)→OkH E 92 3 [adr hb ho] [.ptr [.v (adr hb ho),.sl false 1 (List.map vs a0.ints),.sl false 1 (List.map vs a0.boxes),vi a0.n,vs a0.text,vb a0.wild],.val (vi a1),.val (vb a2),.ptr [.sl false 1 (List.map (vk .u8) a3.b),vi a3.i,vi a3.h]] [] [[.v (adr hb ho),.sl false 1 (List.map vs q0.ints),.sl false 1 (List.map vs q0.boxes),vi q0.n,vs q0.text,vb q0.wild],[.sl false 1 (List.map (vk .u8) q3.b),vi q3.i,vi q3.h]]) (a5:Gl05Made→Int→ByteArray→Gl01Cur→Option (Gl05Made × Gl01Cur)) (a4:∀ (hb ho:Nat) (a0:Gl05Made) (a1:Int) (a2:ByteArray) (a3:Gl01Cur) {q0:Gl05Made} {q3:Gl01Cur},a5 a0 a1 a2 a3=some (q0,q3)→OkH E 126 3 [adr hb ho] [.ptr [.v (adr hb ho),.sl false 1 (List.map vs a0.ints),.sl false 1 (List.map vs a0.boxes),vi a0.n,vs a0.text,vb a0.wild],.val (vi a1),.val (vs a2),.ptr [.sl false 1 (List.map (vk .u8) a3.b),vi a3.i,vi a3.h]] [] [[.v (adr hb ho),.sl false 1 (List.map vs q0.ints),.sl false 1 (List.map vs q0.boxes),vi q0.n,vs q0.text,vb q0.wild],[.sl false 1 (List.map (vk .u8) q3.b),vi q3.i,vi q3.h]]) (hb ho:Nat) (m1:Gl05Made) (c4:Int) (c5:Bool) (m4:Gl01Cur) {q0:Gl05Made} {q3:Gl01Cur} (h:gB a6 a5 m1 c4 c5 m4=some (q0,q3)):OkH E 92 3 [adr hb ho] [.ptr [.v (adr hb ho),.sl false 1 (List.map vs m1.ints),.sl false 1 (List.map vs m1.boxes),vi m1.n,vs m1.text,vb m1.wild],.val (vi c4),.val (vb c5),.ptr [.sl false 1 (List.map (vk .u8) m4.b),vi m4.i,vi m4.h]] [] [[.v (adr hb ho),.sl false 1 (List.map vs q0.ints),.sl false 1 (List.map vs q0.boxes),vi q0.n,vs q0.text,vb q0.wild],[.sl false 1 (List.map (vk .u8) q3.b),vi q3.i,vi q3.h]]:=by
 refine jM (fn:=Tryz.f92) (vis:=[.ptr [.v (adr hb ho),.sl false 1 (List.map vs m1.ints),.sl false 1 (List.map vs m1.boxes),vi m1.n,vs m1.text,vb m1.wild],.val (vi c4),.val (vb c5)]) [0,1,2] [227,230] Tryz.func92 rfl (by simp [Tryz.f92]) rfl rfl rfl rfl fun C hN hP hPK hPKi=>?_
 have hPKs:PKs C [227,230]:=fun k hk=>by
  simp only [List.mem_cons,List.mem_nil_iff,or_false] at hk;rcases hk with rfl | rfl
  ·obtain ⟨b,off,h1⟩:=hPKi 0 _ rfl;exact ⟨b,off,_,h1⟩
  obtain ⟨b,off,h1⟩:=hPKi 3 _ rfl;exact ⟨b,off,_,h1⟩
 have y:∀ l,yK [] l=true→oX C.pin l=true:=pO (by rw [hP];rfl)
 have q:C.N=227:=hN;clear hN;unfold gB at h;refine O.zT y ?_
 iterate 4 refine V_q q ?_
 refine sE 16 230 hPK fun K z=>?_;simp [q];apply z;obtain ⟨⟨r5,q6⟩,x4,h⟩:=bS h;try dsimp only at h
 refine nQ fun KW hKW=>?_;refine fP [((.ptr 3),.tmp 16),(.take,.const (.int .i64 14))] q (Ent.ok (E:=E) (f:=34)) (Con.ok x4) ?_;refine wN (hKW _ ?_);clear hKW;refine V_q q ?_;apply aT;refine O.block ?_;obtain ⟨x5,l2,h⟩:=bS h;refine O.seqRCV rfl (y _ rfl) [0,1,2,6,21] [227,230] (fun _:Unit=>⟨[(0,.ref (.box 227) 0 []),(1,.t (vi c4)),(2,.t (vb c5)),(6,.t (vi r5)),(21,.t (vb x5))],[(227,[.v (adr hb ho),.sl false 1 (List.map vs m1.ints),.sl false 1 (List.map vs m1.boxes),vi m1.n,vs m1.text,vb m1.wild]),(230,[.sl false 1 (List.map (vk .u8) q6.b),vi q6.i,vi q6.h])]⟩) (fun _=>True) (fun _ _=>?_) fun K9 w7=>?_;rotate_left
 ·refine V_q q ?_
  iterate 2 refine V_q q ?_
  rcases mD l2 with ⟨c9,l2⟩ | ⟨j6,l2⟩
  ·have c2:=c9;try simp at c2
   refine nQ fun KW hKW=>?_;refine wO fun K z=>?_;simp [q,c9,c2];apply z;refine wN (hKW _ ?_);clear hKW;refine nQ fun KW hKW=>?_;refine wO fun K z=>?_;simp [q,c9,c2];apply z;refine wN (hKW _ ?_);clear hKW;refine nQ fun KW hKW=>?_;refine wO fun K z=>?_;simp [q,c9,c2];apply z;refine wN (hKW _ ?_);clear hKW;refine nQ fun KW hKW=>?_;refine wO fun K z=>?_;simp [q,c9,c2];apply z;refine wN (hKW _ ?_);clear hKW;refine nQ fun KW hKW=>?_;refine wO fun K z=>?_;simp [q,c9,c2];apply z;refine wN (hKW _ ?_);clear hKW;refine nQ fun KW hKW=>?_;refine wO fun K z=>?_;simp [q,c9,c2];apply z;refine wN (hKW _ ?_);clear hKW
   iterate 2 (refine V_q q ?_ rfl (by simp [c9,c2];rfl))
   refine aT ?_;cases l2;exact w7 _ () [] trivial (by simp [q,c9,c2])
  have g0:=j6;try simp at g0
  iterate 8 (refine V_q q ?_ rfl (by simp [j6,g0];rfl))
  refine aT ?_;cases l2;exact w7 _ () [] trivial (by simp [q,j6,g0])
 refine O.cI h (fun x6 h=>?_) fun x7 h=>?_
 ·refine O.zT y ?_;refine V_q q ?_;obtain ⟨⟨C2,C3⟩,r4,h⟩:=bS h;try dsimp only at h
  refine dE [((.ptr 6),.tmp 32)] 33 230 rfl rfl rfl (by simp [gE]) aL8 hPK (.inl rfl) (gT _ _ _ _ r4) fun K z=>?_;simp [q];apply z
  iterate 4 first|refine V_q q ?_|apply aT|refine O.zT y ?_
  obtain ⟨⟨x8,x9,C4⟩,r6,h⟩:=bS h;try dsimp only at h
  refine dE [((.ptr 6),.tmp 34),(.take,.const (.string (⟨#[105]⟩:ByteArray)))] 35 230 rfl rfl rfl (by simp [gE]) aE5 hPK (.inl rfl) (cP _ _ _ _ _ r6) fun K z=>?_;simp [q];apply z
  iterate 8 first|refine V_q q ?_|apply aT|refine O.zT y ?_
  obtain ⟨C5,r7,h⟩:=bS h;obtain ⟨l3,l4⟩:=aC r7;refine V_q q ?_ rfl (by simp [l3,l4];rfl)
  refine V_q q ?_;obtain ⟨C6,r8,h⟩:=bS h;obtain ⟨l5,l6⟩:=aC r8;refine V_q q ?_ rfl (by simp [l5,l6];rfl)
  obtain ⟨C7,r9,h⟩:=bS h;obtain ⟨l7,l8⟩:=aC r9;refine V_q q ?_ rfl (by simp [l7,l8];rfl)
  refine V_q q ?_;obtain ⟨C8,s0,h⟩:=bS h;obtain ⟨l9,m0⟩:=aC s0;refine V_q q ?_ rfl (by simp [l9,m0];rfl)
  obtain ⟨C9,s1,h⟩:=bS h;obtain ⟨m2,m3⟩:=aC s1;refine V_q q ?_ rfl (by simp [m2,m3];rfl)
  iterate 3 refine V_q q ?_
  apply aT;refine O.zU y ?_
  iterate 6 refine V_q q ?_
  obtain ⟨D0,s2,h⟩:=bS h;obtain ⟨g3,g4,w8⟩:=aS s2;simp [eSl] at g3 g4
  iterate 3 (refine V_q q ?_ rfl (by simp [g3,g4];rfl))
  obtain ⟨y0,s3,h⟩:=bS h;obtain ⟨i9,j0,m5⟩:=aS s3;have j1:List.map vs x9.ints ++ List.map vs [x8]=List.map vs y0:=kG (f:=vs) m5;simp [eSl] at i9 j0 j1
  iterate 4 (refine V_q q ?_ rfl (by simp [g3,g4,i9,j0,j1];rfl))
  refine sF 227 1 fun K z=>?_;simp [q];apply z;apply aT;cases h;simp [aO,iB,aJ8]
 obtain ⟨y1,g5,h⟩:=bS h;refine O.seqRCV rfl (y _ rfl) [0,1,2,6,62] [227,230] (fun _:Unit=>⟨[(0,.ref (.box 227) 0 []),(1,.t (vi c4)),(2,.t (vb c5)),(6,.t (vi r5)),(62,.t (vb y1))],[(227,[.v (adr hb ho),.sl false 1 (List.map vs m1.ints),.sl false 1 (List.map vs m1.boxes),vi m1.n,vs m1.text,vb m1.wild]),(230,[.sl false 1 (List.map (vk .u8) q6.b),vi q6.i,vi q6.h])]⟩) (fun _=>True) (fun _ _=>?_) fun D1 m6=>?_;rotate_left
 ·refine V_q q ?_
  iterate 2 refine V_q q ?_
  rcases mD g5 with ⟨d0,g5⟩ | ⟨j7,g5⟩
  ·have c3:=d0;try simp at c3
   refine nQ fun KW hKW=>?_;refine wO fun K z=>?_;simp [q,d0,c3];apply z;refine wN (hKW _ ?_);clear hKW;refine nQ fun KW hKW=>?_;refine wO fun K z=>?_;simp [q,d0,c3];apply z;refine wN (hKW _ ?_);clear hKW;refine nQ fun KW hKW=>?_;refine wO fun K z=>?_;simp [q,d0,c3];apply z;refine wN (hKW _ ?_);clear hKW;refine nQ fun KW hKW=>?_;refine wO fun K z=>?_;simp [q,d0,c3];apply z;refine wN (hKW _ ?_);clear hKW;refine nQ fun KW hKW=>?_;refine wO fun K z=>?_;simp [q,d0,c3];apply z;refine wN (hKW _ ?_);clear hKW;refine nQ fun KW hKW=>?_;refine wO fun K z=>?_;simp [q,d0,c3];apply z;refine wN (hKW _ ?_);clear hKW
   iterate 2 (refine V_q q ?_ rfl (by simp [d0,c3];rfl))
   refine aT ?_;cases g5;exact m6 _ () [] trivial (by simp [q,d0,c3])
  have g6:=j7;try simp at g6
  iterate 8 (refine V_q q ?_ rfl (by simp [j7,g6];rfl))
  refine aT ?_;cases g5;exact m6 _ () [] trivial (by simp [q,j7,g6])
 refine O.cI h (fun y2 h=>?_) fun y3 h=>?_
 ·refine O.zT y ?_;refine V_q q ?_;obtain ⟨⟨D2,D3⟩,s4,h⟩:=bS h;try dsimp only at h
  refine dE [((.ptr 6),.tmp 73)] 74 230 rfl rfl rfl (by simp [gE]) qP hPK (.inl rfl) (aV _ _ _ _ s4) fun K z=>?_;simp [q];apply z
  obtain ⟨D4,s5,h⟩:=bS h;obtain ⟨m7,m8⟩:=aC s5;refine V_q q ?_ rfl (by simp [m7,m8];rfl)
  refine V_q q ?_;apply aT;obtain ⟨⟨y4,m9,s6⟩,c1,h⟩:=bS h;try dsimp only at h
  refine O.seqC [0,9] [227,230] (fun _:Unit=>⟨[(0,.ref (.box 227) 0 []),(9,.t (vs y4))],[(227,[.v (adr hb ho),.sl false 1 (List.map vs m9.ints),.sl false 1 (List.map vs m9.boxes),vi m9.n,vs m9.text,vb m9.wild]),(230,[.sl false 1 (List.map (vk .u8) s6.b),vi s6.i,vi s6.h])]⟩) (fun _=>True) (fun _ _=>?_) fun D5 n0=>?_;rotate_left
  ·refine O.zT y ?_
   iterate 4 refine V_q q ?_
   refine sE 79 230 hPK fun K z=>?_;simp [q];apply z;obtain ⟨⟨D6,D7⟩,s7,c1⟩:=bS c1;try dsimp only at c1
   refine nQ fun KW hKW=>?_;refine fP [((.ptr 3),.tmp 79),(.take,.const (.int .i64 3))] q (Ent.ok (E:=E) (f:=91)) (Con.ok s7) ?_;refine wN (hKW _ ?_);clear hKW;apply aT;refine O.cI c1 (fun y5 c1=>?_) fun y6 c1=>?_
   ·refine O.zU y ?_;refine V_q q ?_;obtain ⟨⟨D8,D9⟩,s8,c1⟩:=bS c1;try dsimp only at c1
    refine dE [((.ptr 6),.tmp 81)] 82 230 rfl rfl rfl (by simp [gE]) qP hPK (.inl rfl) (aV _ _ _ _ s8) fun K z=>?_;simp [q];apply z
    obtain ⟨E0,s9,c1⟩:=bS c1;obtain ⟨n1,n2⟩:=aC s9;refine V_q q ?_ rfl (by simp [n1,n2];rfl)
    obtain ⟨E1,t0,c1⟩:=bS c1;obtain ⟨n3,n4⟩:=aC t0;refine V_q q ?_ rfl (by simp [n3,n4];rfl)
    refine V_q q ?_;apply aT;cases c1;exact n0 _ () [] trivial (by simp [q])
   refine O.skip ?_;cases c1;exact n0 _ () [] trivial (by simp [q])
  refine O.zT y ?_;refine V_q q ?_;obtain ⟨⟨y7,y8,E2⟩,t1,h⟩:=bS h;try dsimp only at h
  refine dE [((.ptr 6),.tmp 85),(.take,.const (.string (⟨#[98]⟩:ByteArray)))] 86 230 rfl rfl rfl (by simp [gE]) aE5 hPK (.inl rfl) (cP _ _ _ _ _ t1) fun K z=>?_;simp [q];apply z
  iterate 8 first|refine V_q q ?_|apply aT|refine O.zT y ?_
  obtain ⟨E3,t2,h⟩:=bS h;obtain ⟨n5,n6⟩:=aC t2;refine V_q q ?_ rfl (by simp [n5,n6];rfl)
  refine V_q q ?_;obtain ⟨E4,t3,h⟩:=bS h;obtain ⟨n7,n8⟩:=aC t3;refine V_q q ?_ rfl (by simp [n7,n8];rfl)
  obtain ⟨E5,t4,h⟩:=bS h;obtain ⟨n9,o0⟩:=aC t4;refine V_q q ?_ rfl (by simp [n9,o0];rfl)
  refine V_q q ?_;obtain ⟨E6,t5,h⟩:=bS h;obtain ⟨o1,o2⟩:=aC t5;refine V_q q ?_ rfl (by simp [o1,o2];rfl)
  obtain ⟨E7,t6,h⟩:=bS h;obtain ⟨o3,o4⟩:=aC t6;refine V_q q ?_ rfl (by simp [o3,o4];rfl)
  iterate 3 refine V_q q ?_
  apply aT;refine O.zU y ?_
  iterate 6 refine V_q q ?_
  obtain ⟨E8,t7,h⟩:=bS h;obtain ⟨g7,g8,w9⟩:=aS t7;simp [eSl] at g7 g8
  iterate 3 (refine V_q q ?_ rfl (by simp [g7,g8];rfl))
  obtain ⟨y9,t8,h⟩:=bS h;obtain ⟨j2,j3,o5⟩:=aS t8;have j4:List.map vs y8.boxes ++ List.map vs [y7]=List.map vs y9:=kG (f:=vs) o5;simp [eSl] at j2 j3 j4
  iterate 4 (refine V_q q ?_ rfl (by simp [g7,g8,j2,j3,j4];rfl))
  refine sF 227 2 fun K z=>?_;simp [q];apply z;apply aT;cases h;simp [aO,iB,aJ8]
 refine O.zT y ?_
 iterate 3 refine V_q q ?_
 apply aT;refine O.cI h (fun z0 h=>?_) fun z1 h=>?_
 ·obtain ⟨z2,t9,h⟩:=bS h;obtain ⟨g9,h0⟩:=aC t9;obtain ⟨⟨u0,k9⟩,u1,h⟩:=bS h;try dsimp only at h
  obtain ⟨z3,u2,h⟩:=bS h;obtain ⟨h2,h3⟩:=aC u2;obtain ⟨z4,u3,h⟩:=bS h;obtain ⟨h4,h5⟩:=aC u3;refine O.drawYV rfl (y _ rfl) (en 116 [rf 227 0,rf 227 0,rf 227 0,rf 227 4,.t (vs m1.text),.t (vs z2),rf 227 0,.t (vs u0),.t (vs z3),.t (vs z4)]) [[],[],[],[],[],[],[],[(230,[.sl false 1 (List.map (vk .u8) k9.b),vi k9.i,vi k9.h])],[],[]] [[],[],[1],[1,2],[1,2,3],rg 1 4,[],[6],rg 1 7,rg 1 8,rg 0 10,rg 0 11,rg 0 12] rfl (by simp) (by simp) (by simp [look]) rfl rfl rfl ?_ fun K u=>?_
  ·refine ⟨?_,?_,?_,?_,?_,?_,?_,?_,?_,?_,trivial⟩;all_goals first | (intro τ D hbx hqb hd hf di g1 g2 hT K u;cases o6:D 7<;>(simp [aQ,aX,o6] at hbx;try simp [bQ] at hd;simp [bQ] at hf;first | (refine xC rfl fun K1 c7=>?_;simp [q,hbx,hqb,hd,hf,g9,h0,h2,h3,h4,h5];refine c7 _ ?_;clear c7;exact aT (u _ (by simp [bQ,aQ,aX,bY,hbx,o6,g9,h0,h2,h3,h4,h5]))));done) | skip
   ·intro τ D hbx hqb hd hf d7 g1 g2 hT K u;simp [aQ,aX,d7] at hbx;try simp [bQ] at hd
    refine sW (ks:=[227,230]) (tm0:=[(122,.ref (.box 227) 0 [])]) (tm1:=[(122,.ref (.box 227) 0 []),(123,.t (vs u0))]) (bx1:=[(227,[.v (adr hb ho),.sl false 1 (List.map vs m1.ints),.sl false 1 (List.map vs m1.boxes),vi m1.n,vs m1.text,vb m1.wild]),(230,[.sl false 1 (List.map (vk .u8) k9.b),vi k9.i,vi k9.h])]) (v:=.t (vs u0)) hPKs rfl rfl (fL rfl rfl hT) (by simp [jG]) (by simp [hqb,hd]) ?_ (by simp [look]) rfl (qX rfl _ (fL rfl rfl hT)) (u _ (by simp [bQ,aQ,aX,bY,d7]))
    rw [hbx];refine dE [((.ptr 6),.tmp 122)] 123 230 rfl rfl rfl (by simp [gE]) aL8 hPK (.inl rfl) (gT _ _ _ _ u1) fun K' w=>?_;simp [q,g9,h0,h2,h3,h4,h5];exact w _ (aT rfl)
  simp [aQ,aX]
  iterate 3 refine V_q q ?_
  apply aT;apply u;cases h;simp [aO,iB,aJ8]
 refine O.zT y ?_
 iterate 3 refine V_q q ?_
 apply aT;refine O.cI h (fun z5 h=>?_) fun z6 h=>?_
 ·refine O.zT y ?_
  iterate 5 refine V_q q ?_
  obtain ⟨⟨z7,E9⟩,u4,h⟩:=bS h;try dsimp only at h
  refine dE [((.ptr 6),.tmp 131),(.take,.tmp 135)] 136 230 rfl rfl rfl (by simp [gE]) aL7 hPK (.inl rfl) (iN _ _ _ _ _ u4) fun K z=>?_;simp [q];apply z
  refine V_q q ?_;apply aT;obtain ⟨z8,u5,h⟩:=bS h;obtain ⟨h6,h7⟩:=aC u5;obtain ⟨z9,u6,h⟩:=bS h;obtain ⟨h8,h9⟩:=aC u6;obtain ⟨⟨u7,l0⟩,u9,h⟩:=bS h;try dsimp only at h
  obtain ⟨A0,v0,h⟩:=bS h;obtain ⟨i0,i1⟩:=aC v0;obtain ⟨A1,v1,h⟩:=bS h;obtain ⟨i2,i3⟩:=aC v1;refine O.keepK [0,11] [227,230] fun K z=>?_;simp [q];apply z;refine O.drawYV rfl (y _ rfl) (en 137 [rf 227 0,rf 227 0,rf 227 0,rf 227 4,.t (vs m1.text),.t (vs z7),.t (vs z8),.t (vs z9),rf 227 0,.t (vs u7),.t (vs A0),.t (vs A1)]) [[],[],[],[],[],[],[],[],[],[(230,[.sl false 1 (List.map (vk .u8) l0.b),vi l0.i,vi l0.h])],[],[]] [[],[],[1],[1,2],[1,2,3],[],rg 1 5,rg 1 6,[],[8],rg 1 9,rg 1 10,rg 0 12,rg 0 13,rg 0 14] rfl (by simp) (by simp) (by simp [look]) rfl rfl rfl ?_ fun K u=>?_
  ·refine ⟨?_,?_,?_,?_,?_,?_,?_,?_,?_,?_,?_,?_,trivial⟩;all_goals first | (intro τ D hbx hqb hd hf di g1 g2 hT K u;cases x0:D 9<;>(simp [aQ,aX,x0] at hbx;try simp [bQ] at hd;simp [bQ] at hf;first | (refine xC rfl fun K1 c7=>?_;simp [q,hbx,hqb,hd,hf,h6,h7,h8,h9,i0,i1,i2,i3];refine c7 _ ?_;clear c7;exact aT (u _ (by simp [bQ,aQ,aX,bY,hbx,x0,h6,h7,h8,h9,i0,i1,i2,i3]))));done) | skip
   ·intro τ D hbx hqb hd hf d9 g1 g2 hT K u;simp [aQ,aX,d9] at hbx;try simp [bQ] at hd
    refine sW (ks:=[227,230]) (tm0:=[(145,.ref (.box 227) 0 [])]) (tm1:=[(145,.ref (.box 227) 0 []),(146,.t (vs u7))]) (bx1:=[(227,[.v (adr hb ho),.sl false 1 (List.map vs m1.ints),.sl false 1 (List.map vs m1.boxes),vi m1.n,vs m1.text,vb m1.wild]),(230,[.sl false 1 (List.map (vk .u8) l0.b),vi l0.i,vi l0.h])]) (v:=.t (vs u7)) hPKs rfl rfl (fL rfl rfl hT) (by simp [jG]) (by simp [hqb,hd]) ?_ (by simp [look]) rfl (qX rfl _ (fL rfl rfl hT)) (u _ (by simp [bQ,aQ,aX,bY,d9]))
    rw [hbx];refine dE [((.ptr 6),.tmp 145)] 146 230 rfl rfl rfl (by simp [gE]) aL8 hPK (.inl rfl) (gT _ _ _ _ u9) fun K' w=>?_;simp [q,h6,h7,h8,h9,i0,i1,i2,i3];exact w _ (aT rfl)
  simp [aQ,aX]
  iterate 3 refine V_q q ?_
  apply aT;apply u;cases h;simp [aO,iB,aJ8]
 obtain ⟨A2,i4,h⟩:=bS h;refine O.seqRCV rfl (y _ rfl) [0,1,2,6,151] [227,230] (fun _:Unit=>⟨[(0,.ref (.box 227) 0 []),(1,.t (vi c4)),(2,.t (vb c5)),(6,.t (vi r5)),(151,.t (vb A2))],[(227,[.v (adr hb ho),.sl false 1 (List.map vs m1.ints),.sl false 1 (List.map vs m1.boxes),vi m1.n,vs m1.text,vb m1.wild]),(230,[.sl false 1 (List.map (vk .u8) q6.b),vi q6.i,vi q6.h])]⟩) (fun _=>True) (fun _ _=>?_) fun F0 o7=>?_;rotate_left
 ·refine V_q q ?_
  iterate 2 refine V_q q ?_
  rcases mD i4 with ⟨j8,i4⟩ | ⟨i5,i4⟩
  ·have i6:=j8;try simp at i6
   iterate 4 (refine V_q q ?_ rfl (by simp [j8,i6];rfl))
   refine aT ?_;cases i4;exact o7 _ () [] trivial (by simp [q,j8,i6])
  have d5:=i5;try simp at d5
  refine nQ fun KW hKW=>?_;refine wO fun K z=>?_;simp [q,i5,d5];apply z;refine wN (hKW _ ?_);clear hKW;refine nQ fun KW hKW=>?_;refine wO fun K z=>?_;simp [q,i5,d5];apply z;refine wN (hKW _ ?_);clear hKW
  iterate 2 (refine V_q q ?_ rfl (by simp [i5,d5];rfl))
  refine aT ?_;cases i4;exact o7 _ () [] trivial (by simp [q,i5,d5])
 refine O.cI h (fun A3 h=>?_) fun A4 h=>?_
 ·refine O.seq ?_;obtain ⟨A5,v2,h⟩:=bS h;obtain ⟨e1,e2⟩:=aC v2;obtain ⟨⟨v3,l1⟩,v4,h⟩:=bS h;try dsimp only at h
  obtain ⟨A6,v5,h⟩:=bS h;obtain ⟨e3,e4⟩:=aC v5;obtain ⟨A7,v6,h⟩:=bS h;obtain ⟨e5,e6⟩:=aC v6;obtain ⟨⟨j9,e7⟩,o8,h⟩:=bS h;try dsimp only at h
  obtain ⟨v7,o9,h⟩:=bS h;obtain ⟨d1,d2⟩:=aC o9;obtain ⟨v8,p0,h⟩:=bS h;obtain ⟨d3,d4⟩:=aC p0;refine O.drawYV rfl (y _ rfl) (en 158 [rf 227 0,rf 227 0,rf 227 0,rf 227 4,.t (vs m1.text),.t (vs A5),rf 227 0,.t (vs v3),.t (vs A6),.t (vs A7),rf 227 0,.t (vs j9),.t (vs v7),.t (vs v8)]) [[],[],[],[],[],[],[],[(230,[.sl false 1 (List.map (vk .u8) l1.b),vi l1.i,vi l1.h])],[],[],[],[(230,[.sl false 1 (List.map (vk .u8) e7.b),vi e7.i,vi e7.h])],[],[]] [[],[],[1],[1,2],[1,2,3],rg 1 4,[],[6],rg 1 7,rg 1 8,[],[6,7,10],rg 1 11,rg 1 12,rg 0 14,rg 0 15,rg 0 16] rfl (by simp) (by simp) (by simp [look]) rfl rfl rfl ?_ fun K u=>?_
  ·refine ⟨?_,?_,?_,?_,?_,?_,?_,?_,?_,?_,?_,?_,?_,?_,trivial⟩;all_goals first | (intro τ D hbx hqb hd hf di g1 g2 hT K u;cases o6:D 7<;>cases p1:D 11<;>(simp [aQ,aX,o6,p1] at hbx;try simp [bQ] at hd;simp [bQ] at hf;first | (refine xC rfl fun K1 c7=>?_;simp [q,hbx,hqb,hd,hf,e1,e2,e3,e4,e5,e6,d1,d2,d3,d4];refine c7 _ ?_;clear c7;exact aT (u _ (by simp [bQ,aQ,aX,bY,hbx,o6,p1,e1,e2,e3,e4,e5,e6,d1,d2,d3,d4]))));done) | skip
   ·intro τ D hbx hqb hd hf d7 g1 g2 hT K u;have p2:D 11=false:=g2 11 (by simp) (by simp)
    simp [aQ,aX,d7,p2] at hbx;try simp [bQ] at hd
    refine sW (ks:=[227,230]) (tm0:=[(164,.ref (.box 227) 0 [])]) (tm1:=[(164,.ref (.box 227) 0 []),(165,.t (vs v3))]) (bx1:=[(227,[.v (adr hb ho),.sl false 1 (List.map vs m1.ints),.sl false 1 (List.map vs m1.boxes),vi m1.n,vs m1.text,vb m1.wild]),(230,[.sl false 1 (List.map (vk .u8) l1.b),vi l1.i,vi l1.h])]) (v:=.t (vs v3)) hPKs rfl rfl (fL rfl rfl hT) (by simp [jG]) (by simp [hqb,hd]) ?_ (by simp [look]) rfl (qX rfl _ (fL rfl rfl hT)) (u _ (by simp [bQ,aQ,aX,bY,d7,p2]))
    rw [hbx];refine dE [((.ptr 6),.tmp 164)] 165 230 rfl rfl rfl (by simp [gE]) qP hPK (.inl rfl) (aV _ _ _ _ v4) fun K' w=>?_;simp [q,e1,e2,e3,e4,e5,e6,d1,d2,d3,d4];exact w _ (aT rfl)
   intro τ D hbx hqb hd hf p2 g1 g2 hT K u;have d7:D 7=true:=g1 7 (by simp)
   simp [aQ,aX,d7,p2] at hbx;try simp [bQ] at hd
   refine sW (ks:=[227,230]) (tm0:=[(168,.ref (.box 227) 0 [])]) (tm1:=[(168,.ref (.box 227) 0 []),(169,.t (vs j9))]) (bx1:=[(227,[.v (adr hb ho),.sl false 1 (List.map vs m1.ints),.sl false 1 (List.map vs m1.boxes),vi m1.n,vs m1.text,vb m1.wild]),(230,[.sl false 1 (List.map (vk .u8) e7.b),vi e7.i,vi e7.h])]) (v:=.t (vs j9)) hPKs rfl rfl (fL rfl rfl hT) (by simp [jG]) (by simp [hqb,hd]) ?_ (by simp [look]) rfl (qX rfl _ (fL rfl rfl hT)) (u _ (by simp [bQ,aQ,aX,bY,d7,p2]))
   rw [hbx];refine dE [((.ptr 6),.tmp 168)] 169 230 rfl rfl rfl (by simp [gE]) qP hPK (.inl rfl) (aV _ _ _ _ o8) fun K' w=>?_;simp [q,e1,e2,e3,e4,e5,e6,d1,d2,d3,d4];exact w _ (aT rfl)
  simp [aQ,aX]
  iterate 3 refine V_q q ?_
  apply aT;apply u;refine O.zT y ?_
  iterate 2 refine V_q q ?_
  obtain ⟨⟨A8,A9⟩,p3,h⟩:=bS h;try dsimp only at h
  refine dE [((.ptr 6),.tmp 174),(.take,.tmp 175),(.take,.const (.string (⟨#[]⟩:ByteArray)))] 176 230 rfl rfl rfl (by simp [gE]) aOe hPK (.inl rfl) (a4 _ _ _ _ _ _ p3) fun K z=>?_;simp [q];apply z
  apply aT;refine O.zT y ?_
  iterate 5 refine V_q q ?_
  obtain ⟨B0,p4,h⟩:=bS h;obtain ⟨k0,k1⟩:=aC p4;refine V_q q ?_ rfl (by simp [k0,k1];rfl)
  iterate 3 refine V_q q ?_
  apply aT;refine O.zU y ?_
  iterate 2 refine V_q q ?_
  obtain ⟨⟨B1,B2⟩,p5,h⟩:=bS h;try dsimp only at h
  refine dE [((.ptr 6),.tmp 185),(.take,.tmp 186),(.take,.const (.string (⟨#[]⟩:ByteArray)))] 187 230 rfl rfl rfl (by simp [gE]) aOe hPK (.inl rfl) (a4 _ _ _ _ _ _ p5) fun K z=>?_;simp [q];apply z
  apply aT;cases h;simp [aO,iB,aJ8]
 obtain ⟨v9,d6,h⟩:=bS h;refine O.seqRCV rfl (y _ rfl) [0,1,2,188] [227,230] (fun _:Unit=>⟨[(0,.ref (.box 227) 0 []),(1,.t (vi c4)),(2,.t (vb c5)),(188,.t (vb v9))],[(227,[.v (adr hb ho),.sl false 1 (List.map vs m1.ints),.sl false 1 (List.map vs m1.boxes),vi m1.n,vs m1.text,vb m1.wild]),(230,[.sl false 1 (List.map (vk .u8) q6.b),vi q6.i,vi q6.h])]⟩) (fun _=>True) (fun _ _=>?_) fun B3 j5=>?_;rotate_left
 ·refine V_q q ?_
  iterate 2 refine V_q q ?_
  rcases mD d6 with ⟨i7,d6⟩ | ⟨d8,d6⟩
  ·have e0:=i7;try simp at e0
   iterate 4 (refine V_q q ?_ rfl (by simp [i7,e0];rfl))
   refine aT ?_;cases d6;exact j5 _ () [] trivial (by simp [q,i7,e0])
  have c6:=d8;try simp at c6
  refine nQ fun KW hKW=>?_;refine wO fun K z=>?_;simp [q,d8,c6];apply z;refine wN (hKW _ ?_);clear hKW;refine nQ fun KW hKW=>?_;refine wO fun K z=>?_;simp [q,d8,c6];apply z;refine wN (hKW _ ?_);clear hKW
  iterate 2 (refine V_q q ?_ rfl (by simp [d8,c6];rfl))
  refine aT ?_;cases d6;exact j5 _ () [] trivial (by simp [q,d8,c6])
 refine O.cI h (fun x1 h=>?_) fun x2 h=>?_
 ·refine O.zT y ?_;refine V_q q ?_;obtain ⟨⟨p6,e8,B4⟩,p7,h⟩:=bS h;try dsimp only at h
  refine dE [((.ptr 6),.tmp 195),(.take,.const (.string (⟨#[119]⟩:ByteArray)))] 196 230 rfl rfl rfl (by simp [gE]) aE5 hPK (.inl rfl) (cP _ _ _ _ _ p7) fun K z=>?_;simp [q];apply z
  refine V_q q ?_;apply aT;refine O.seq ?_;obtain ⟨w0,p8,h⟩:=bS h;obtain ⟨a7,a8⟩:=aC p8;obtain ⟨w1,p9,h⟩:=bS h;obtain ⟨a9,b0⟩:=aC p9;obtain ⟨w2,q1,h⟩:=bS h;obtain ⟨b1,b2⟩:=aC q1;obtain ⟨w3,q2,h⟩:=bS h;obtain ⟨b3,b4⟩:=aC q2;obtain ⟨w4,q4,h⟩:=bS h;obtain ⟨b5,b6⟩:=aC q4;obtain ⟨⟨k2,e9⟩,q5,h⟩:=bS h;try dsimp only at h
  obtain ⟨w5,q7,h⟩:=bS h;obtain ⟨b7,b8⟩:=aC q7;obtain ⟨w6,q8,h⟩:=bS h;obtain ⟨b9,c0⟩:=aC q8;refine O.drawYV rfl (y _ rfl) (en 197 [rf 227 0,rf 227 0,rf 227 0,rf 227 4,.t (vs e8.text),.t (vs w0),.t (vs p6),.t (vs w1),.t (vs w2),.t (vs p6),.t (vs w3),.t (vs w4),rf 227 0,rf 227 0,rf 227 0,rf 230 0,.t (.sl false 1 (List.map vs [(⟨#[48]⟩:ByteArray),(⟨#[49]⟩:ByteArray),(⟨#[50]⟩:ByteArray),(⟨#[51]⟩:ByteArray)])),.t (vs k2),.t (vs w5),.t (vs w6)]) [[],[],[],[],[],[],[],[],[],[],[],[],[],[],[],[],[],[(230,[.sl false 1 (List.map (vk .u8) e9.b),vi e9.i,vi e9.h])],[],[]] [[],[],[1],[1,2],[1,2,3],rg 1 4,[],rg 1 6,rg 1 7,[],rg 1 9,rg 1 10,[],[12],[12,13],[12,13,14],[],rg 12 5,rg 1 17,rg 1 18,rg 0 20,rg 0 21,rg 0 22] rfl (by simp) (by simp) (by simp [look]) rfl rfl rfl ?_ fun K u=>?_
  ·refine ⟨?_,?_,?_,?_,?_,?_,?_,?_,?_,?_,?_,?_,?_,?_,?_,?_,?_,?_,?_,?_,trivial⟩;all_goals first | (intro τ D hbx hqb hd hf di g1 g2 hT K u;cases i8:D 17<;>(simp [aQ,aX,i8] at hbx;try simp [bQ] at hd;simp [bQ] at hf;first | (refine xC rfl fun K1 c7=>?_;simp [q,hbx,hqb,hd,hf,a7,a8,a9,b0,b1,b2,b3,b4,b5,b6,b7,b8,b9,c0];refine c7 _ ?_;clear c7;refine aT (u _ ?_);simp [bQ,T.ro,T.roL,aQ,aX,bY,hbx,i8,a7,a8,a9,b0,b1,b2,b3,b4,b5,b6,b7,b8,b9,c0];done) | (refine xC rfl fun K1 c7=>?_;simp [q,hbx,hqb,hd,hf,a7,a8,a9,b0,b1,b2,b3,b4,b5,b6,b7,b8,b9,c0];refine c7 _ ?_;clear c7;refine sE 212 230 hPK fun K1 c7=>?_;simp [q,hbx,hqb,hd,hf,iC,aGe,a7,a8,a9,b0,b1,b2,b3,b4,b5,b6,b7,b8,b9,c0];refine c7 _ ?_;clear c7;refine aT (u _ ?_);simp [bQ,T.ro,T.roL,aQ,aX,bY,hbx,i8,a7,a8,a9,b0,b1,b2,b3,b4,b5,b6,b7,b8,b9,c0];done) | (refine xC rfl fun K1 c7=>?_;simp [q,hbx,hqb,hd,hf,a7,a8,a9,b0,b1,b2,b3,b4,b5,b6,b7,b8,b9,c0];refine c7 _ ?_;clear c7;refine aOt (by simp [q]) (aMb (.slot 213) rfl rfl hT) ?_;refine aT (u _ ?_);simp [bQ,T.ro,T.roL,aQ,aX,bY,hbx,i8,a7,a8,a9,b0,b1,b2,b3,b4,b5,b6,b7,b8,b9,c0];done));done) | skip
   ·intro τ D hbx hqb hd hf x3 g1 g2 hT K u;simp [aQ,aX,x3] at hbx;try simp [bQ] at hd
    refine aRx (p:=213) (sz:=1) (es:=(List.map vs [(⟨#[48]⟩:ByteArray),(⟨#[49]⟩:ByteArray),(⟨#[50]⟩:ByteArray),(⟨#[51]⟩:ByteArray)])) (ks:=[227,230]) (tm0:=[(212,.ref (.box 230) 0 []),(213,.t (.sl false 1 (List.map vs [(⟨#[48]⟩:ByteArray),(⟨#[49]⟩:ByteArray),(⟨#[50]⟩:ByteArray),(⟨#[51]⟩:ByteArray)])))]) (tm1:=[(212,.ref (.box 230) 0 []),(213,.t (.sl false 1 (List.map vs [(⟨#[48]⟩:ByteArray),(⟨#[49]⟩:ByteArray),(⟨#[50]⟩:ByteArray),(⟨#[51]⟩:ByteArray)]))),(214,.t (vs k2))]) (bx1:=[(227,[.v (adr hb ho),.sl false 1 (List.map vs e8.ints),.sl false 1 (List.map vs e8.boxes),vi e8.n,vs e8.text,vb e8.wild]),(230,[.sl false 1 (List.map (vk .u8) e9.b),vi e9.i,vi e9.h])]) (v:=.t (vs k2)) (by simp [T.hasOwn]) hPKs rfl rfl (aFb rfl (by simp [jG]) hT) (by simp [hqb,hd]) (by simp [jG]) (by simp [hqb,hd]) ?_ (by simp [look]) (by simp [look]) rfl (aHt rfl _ (aFb rfl (by simp [jG]) hT)) (u _ (by simp [bQ,aQ,aX,bY,x3]))
    rw [hbx];refine nQ fun KV hKV=>?_;refine wL [((.ptr 3),.tmp 212),(.take,.tmp 213)] rfl rfl (Ent.ok (E:=E) (f:=127)) (Con.ok q5) fun K' w=>?_;simp [q,a7,a8,a9,b0,b1,b2,b3,b4,b5,b6,b7,b8,b9,c0];exact w _ (wN (hKV _ (aT rfl)))
  simp [aQ,aX]
  iterate 3 refine V_q q ?_
  apply aT;apply u;refine O.zU y ?_
  iterate 3 refine V_q q ?_
  obtain ⟨B5,q9,h⟩:=bS h;obtain ⟨k3,k4⟩:=aC q9;refine V_q q ?_ rfl (by simp [k3,k4];rfl)
  refine V_q q ?_;obtain ⟨B6,r0,h⟩:=bS h;obtain ⟨k5,k6⟩:=aC r0;refine V_q q ?_ rfl (by simp [k5,k6];rfl)
  obtain ⟨B7,r1,h⟩:=bS h;obtain ⟨k7,k8⟩:=aC r1;refine V_q q ?_ rfl (by simp [k7,k8];rfl)
  obtain ⟨⟨B8,B9⟩,r2,h⟩:=bS h;try dsimp only at h
  refine dE [((.ptr 6),.tmp 219),(.take,.tmp 220),(.take,.tmp 225)] 226 230 rfl rfl rfl (by simp [gE]) aOe hPK (.inl rfl) (a4 _ _ _ _ _ _ r2) fun K z=>?_;simp [q];apply z
  apply aT;cases h;simp [aO,iB,aJ8]
 refine O.zU y ?_
 iterate 2 refine V_q q ?_
 obtain ⟨⟨C0,C1⟩,r3,h⟩:=bS h;try dsimp only at h
 refine dE [((.ptr 6),.tmp 18),(.take,.tmp 19)] 20 230 rfl rfl rfl (by simp [gE]) ent128 hPK (.inl rfl) (vW _ _ _ _ _ r3) fun K z=>?_;simp [q];apply z
 apply aT;cases h;simp [aO,iB,aJ8]
theorem tQ (a4:Gl05Made→Int→Bool→Gl01Cur→Option (Gl05Made × Gl01Cur)) (a6:∀ (hb ho:Nat) (a0:Gl05Made) (a1:Int) (a2:Bool) (a3:Gl01Cur) {q0:Gl05Made} {q3:Gl01Cur},a4 a0 a1 a2 a3=some (q0,q3)→OkH E 92 3 [adr hb ho] [.ptr [.v (adr hb ho),.sl false 1 (List.map vs a0.ints),.sl false 1 (List.map vs a0.boxes),vi a0.n,vs a0.text,vb a0.wild],.val (vi a1),.val (vb a2),.ptr [.sl false 1 (List.map (vk .u8) a3.b),vi a3.i,vi a3.h]] [] [[.v (adr hb ho),.sl false 1 (List.map vs q0.ints),.sl false 1 (List.map vs q0.boxes),vi q0.n,vs q0.text,vb q0.wild],[.sl false 1 (List.map (vk .u8) q3.b),vi q3.i,vi q3.h]]) (a5:Gl05Made→Int→ByteArray→Gl01Cur→Option (Gl05Made × Gl01Cur)) (a7:∀ (hb ho:Nat) (a0:Gl05Made) (a1:Int) (a2:ByteArray) (a3:Gl01Cur) {q0:Gl05Made} {q3:Gl01Cur},a5 a0 a1 a2 a3=some (q0,q3)→OkH E 126 3 [adr hb ho] [.ptr [.v (adr hb ho),.sl false 1 (List.map vs a0.ints),.sl false 1 (List.map vs a0.boxes),vi a0.n,vs a0.text,vb a0.wild],.val (vi a1),.val (vs a2),.ptr [.sl false 1 (List.map (vk .u8) a3.b),vi a3.i,vi a3.h]] [] [[.v (adr hb ho),.sl false 1 (List.map vs q0.ints),.sl false 1 (List.map vs q0.boxes),vi q0.n,vs q0.text,vb q0.wild],[.sl false 1 (List.map (vk .u8) q3.b),vi q3.i,vi q3.h]]) (hb ho:Nat) (m1:Gl05Made) (a8:Int) (a9:ByteArray) (m4:Gl01Cur) {q0:Gl05Made} {q3:Gl01Cur} (h:eV a4 a5 m1 a8 a9 m4=some (q0,q3)):OkH E 126 3 [adr hb ho] [.ptr [.v (adr hb ho),.sl false 1 (List.map vs m1.ints),.sl false 1 (List.map vs m1.boxes),vi m1.n,vs m1.text,vb m1.wild],.val (vi a8),.val (vs a9),.ptr [.sl false 1 (List.map (vk .u8) m4.b),vi m4.i,vi m4.h]] [] [[.v (adr hb ho),.sl false 1 (List.map vs q0.ints),.sl false 1 (List.map vs q0.boxes),vi q0.n,vs q0.text,vb q0.wild],[.sl false 1 (List.map (vk .u8) q3.b),vi q3.i,vi q3.h]]:=by
 refine jM (fn:=Tryz.f126) (vis:=[.ptr [.v (adr hb ho),.sl false 1 (List.map vs m1.ints),.sl false 1 (List.map vs m1.boxes),vi m1.n,vs m1.text,vb m1.wild],.val (vi a8),.val (vs a9)]) [0,1,2] [60,63] Tryz.func126 rfl (by simp [Tryz.f126]) rfl rfl rfl rfl fun C hN hP hPK hPKi=>?_
 have y:∀ l,yK [] l=true→oX C.pin l=true:=pO (by rw [hP];rfl)
 have q:C.N=60:=hN;clear hN;unfold eV at h;refine O.zT y ?_
 iterate 5 refine V_q q ?_
 obtain ⟨l5,c8,h⟩:=bS h;obtain ⟨b1,b2,c9⟩:=aS c8;simp [eSl] at b1 b2
 iterate 2 (refine V_q q ?_ rfl (by simp [b1,b2];rfl))
 apply aT;refine O.zT y ?_
 iterate 5 refine V_q q ?_
 obtain ⟨l6,d0,h⟩:=bS h;obtain ⟨b3,b4,d1⟩:=aS d0;simp [eSl] at b3 b4
 iterate 2 (refine V_q q ?_ rfl (by simp [b3,b4];rfl))
 apply aT;refine O.zT y ?_
 iterate 5 refine V_q q ?_
 obtain ⟨t7,d2,h⟩:=bS h;obtain ⟨c0,c1⟩:=aC d2;refine V_q q ?_ rfl (by simp [c0,c1];rfl)
 iterate 3 refine V_q q ?_
 apply aT;obtain ⟨⟨b5,c2⟩,d3,h⟩:=bS h;try dsimp only at h
 refine O.seqC [0,2,6,7] [60,63] (fun _:Unit=>⟨[(0,.ref (.box 60) 0 []),(2,.t (vs a9)),(6,.t (.sl true 1 (List.map vs m1.ints))),(7,.t (.sl true 1 (List.map vs m1.boxes)))],[(60,[.v (adr hb ho),.sl false 1 (List.map vs b5.ints),.sl false 1 (List.map vs b5.boxes),vi b5.n,vs b5.text,vb b5.wild]),(63,[.sl false 1 (List.map (vk .u8) c2.b),vi c2.i,vi c2.h])]⟩) (fun _=>True) (fun _ _=>?_) fun K9 d4=>?_;rotate_left
 ·refine O.zT y ?_;refine V_q q ?_;apply aT;refine O.block ?_;refine O.loopO [] [0,1,2,6,7,8] [60,63] (fun v:Int × Gl05Made × Gl01Cur=>⟨[(0,.ref (.box 60) 0 []),(1,.t (vi a8)),(2,.t (vs a9)),(6,.t (.sl true 1 (List.map vs m1.ints))),(7,.t (.sl true 1 (List.map vs m1.boxes))),(8,.t (vi v.1))],[(60,[.v (adr hb ho),.sl false 1 (List.map vs v.2.1.ints),.sl false 1 (List.map vs v.2.1.boxes),vi v.2.1.n,vs v.2.1.text,vb v.2.1.wild]),(63,[.sl false 1 (List.map (vk .u8) v.2.2.b),vi v.2.2.i,vi v.2.2.h])]⟩) (gI a4 a8) _ ((0:Int),(⟨(),m1.ints,m1.boxes,m1.n,t7,m1.wild⟩:Gl05Made),m4) d3 (by simp [q]) ?_
  intro g d8 b0 c3;obtain ⟨d9,e0,e1⟩:=g;simp only [gI] at b0;try dsimp only
  refine O.seq ?_;refine O.zT y ?_
  iterate 5 refine V_q q ?_
  refine sE 33 63 hPK fun K u=>?_;simp [q];apply u;obtain ⟨⟨e2,e3⟩,c4,b0⟩:=bS b0;try dsimp only at b0
  refine nQ fun KW hKW=>?_;refine fP [((.ptr 3),.tmp 33),(.take,.const (.int .i64 3))] q (Ent.ok (E:=E) (f:=34)) (Con.ok c4) ?_;refine wN (hKW _ ?_);clear hKW;refine V_q q ?_;apply aT;refine O.cI b0 (fun d5 b0=>?_) fun d6 b0=>?_
  ·refine O.skip ?_;refine O.seq ?_;refine O.block ?_;refine O.zU y ?_
   iterate 3 refine V_q q ?_
   obtain ⟨⟨e4,e5⟩,c5,b0⟩:=bS b0;try dsimp only at b0
   refine dE [((.ptr 6),.tmp 38),(.take,.tmp 40),(.take,.const (.bool false))] 41 63 rfl rfl rfl (by simp [gE]) ent92 hPK (.inl rfl) (a6 _ _ _ _ _ _ c5) fun K u=>?_;simp [q];apply u
   apply aT;refine O.zU y ?_
   iterate 3 refine V_q q ?_
   apply aT;cases b0;exact ⟨_,[],rfl,by simp [q]⟩
  refine O.exit ?_;have d7:=congrArg some (c3 _ (Option.some.inj b0).symm);cases d7;exact d4 _ () [] trivial (by simp [q])
 refine O.zT y ?_
 iterate 6 refine V_q q ?_
 obtain ⟨e6,c6,h⟩:=bS h;obtain ⟨b6,b7⟩:=aC c6;refine V_q q ?_ rfl (by simp [b6,b7];rfl)
 obtain ⟨e7,c7,h⟩:=bS h;obtain ⟨b8,b9⟩:=aC c7;refine V_q q ?_ rfl (by simp [b8,b9];rfl)
 iterate 10 first|refine V_q q ?_|apply aT|refine O.zT y ?_
 refine sF 60 1 fun K u=>?_;simp [q];apply u;apply aT;refine O.zU y ?_
 iterate 5 refine V_q q ?_
 refine sF 60 2 fun K u=>?_;simp [q];apply u;apply aT;cases h;simp [aO,iB,res126]
theorem dM:∀ n:Nat,(∀ (hb ho:Nat) (a0:Gl05Made) (a1:Int) (a2:Bool) (a3:Gl01Cur) {q0:Gl05Made} {q3:Gl01Cur},(aU n).1 a0 a1 a2 a3=some (q0,q3)→OkH E 92 3 [adr hb ho] [.ptr [.v (adr hb ho),.sl false 1 (List.map vs a0.ints),.sl false 1 (List.map vs a0.boxes),vi a0.n,vs a0.text,vb a0.wild],.val (vi a1),.val (vb a2),.ptr [.sl false 1 (List.map (vk .u8) a3.b),vi a3.i,vi a3.h]] [] [[.v (adr hb ho),.sl false 1 (List.map vs q0.ints),.sl false 1 (List.map vs q0.boxes),vi q0.n,vs q0.text,vb q0.wild],[.sl false 1 (List.map (vk .u8) q3.b),vi q3.i,vi q3.h]])∧(∀ (hb ho:Nat) (a0:Gl05Made) (a1:Int) (a2:ByteArray) (a3:Gl01Cur) {q0:Gl05Made} {q3:Gl01Cur},(aU n).2 a0 a1 a2 a3=some (q0,q3)→OkH E 126 3 [adr hb ho] [.ptr [.v (adr hb ho),.sl false 1 (List.map vs a0.ints),.sl false 1 (List.map vs a0.boxes),vi a0.n,vs a0.text,vb a0.wild],.val (vi a1),.val (vs a2),.ptr [.sl false 1 (List.map (vk .u8) a3.b),vi a3.i,vi a3.h]] [] [[.v (adr hb ho),.sl false 1 (List.map vs q0.ints),.sl false 1 (List.map vs q0.boxes),vi q0.n,vs q0.text,vb q0.wild],[.sl false 1 (List.map (vk .u8) q3.b),vi q3.i,vi q3.h]])
 | 0=>⟨(by intros;rename_i h;cases h),(by intros;rename_i h;cases h)⟩
 | n + 1=>⟨vN ((aU n).1) ((dM n).1) ((aU n).2) ((dM n).2),tQ ((aU n).1) ((dM n).1) ((aU n).2) ((dM n).2)⟩
theorem xW:∀ (hb ho:Nat) (a0:Gl05Made) (a1:Int) (a2:Bool) (a3:Gl01Cur) {q0:Gl05Made} {q3:Gl01Cur},tP a0 a1 a2 a3=some (q0,q3)→OkH E 92 3 [adr hb ho] [.ptr [.v (adr hb ho),.sl false 1 (List.map vs a0.ints),.sl false 1 (List.map vs a0.boxes),vi a0.n,vs a0.text,vb a0.wild],.val (vi a1),.val (vb a2),.ptr [.sl false 1 (List.map (vk .u8) a3.b),vi a3.i,vi a3.h]] [] [[.v (adr hb ho),.sl false 1 (List.map vs q0.ints),.sl false 1 (List.map vs q0.boxes),vi q0.n,vs q0.text,vb q0.wild],[.sl false 1 (List.map (vk .u8) q3.b),vi q3.i,vi q3.h]]:=(dM bL).1
end Go.Proofs.T
