import Derived.Test.YtgcgpnhokjhghabGreatDoorW25
import Derived.Test.YtgcgpnhokjhghabGreatDoorW6
import Derived.Test.YtgcgpnhokjhghabGreatDoorW7
set_option linter.unusedVariables false
set_option linter.unusedSimpArgs false
set_option linter.unusedVariables false
set_option linter.unusedSimpArgs false
set_option maxHeartbeats 8000000
set_option maxRecDepth 100000
namespace Go.Proofs.T
open Go.OM
theorem aGc:Tryz.f25.results.toList=[.cell 2 27]:=rfl
theorem aQ8:dR E.P 25:=eO Tryz.func25 (by simp [Tryz.f25]) rfl
instance c25_ (c1:Gl01Cur) {r0:GProgram} {q0:Gl01Cur}:Con E 25 (nC c1=some (r0,q0)) [.ptr [.sl false 1 (List.map (vk .u8) c1.b),vi c1.i,vi c1.h]] [GProgram.enc true r0] [[.sl false 1 (List.map (vk .u8) q0.b),vi q0.i,vi q0.h]]:=Con.mk fun h=>by
 refine oB Tryz.func25 rfl (by simp [Tryz.f25]) fun C (q:C.N=132) hP=>?_
 have y:=zW hP;unfold nC at h
 iterate 5 first|refine aH q ?_|apply wN|refine O.zS y ?_
 obtain ⟨⟨r2,q3⟩,p9,h⟩:=bS h;try dsimp only at h
 refine fP [((.ptr 3),.tmp 7),(.take,.const (.int .i64 14))] q (Ent.ok (E:=E) (f:=34)) (Con.ok p9) ?_
 iterate 4 first|refine aH q ?_|apply wN|refine O.zS y ?_
 obtain ⟨⟨r5,q6⟩,q1,h⟩:=bS h;try dsimp only at h
 refine fP [((.ptr 3),.tmp 9),(.take,.const (.int .i64 200))] q (Ent.ok (E:=E) (f:=34)) (Con.ok q1) ?_
 iterate 4 first|refine aH q ?_|apply wN|refine O.zS y ?_
 obtain ⟨⟨r8,q9⟩,m2,h⟩:=bS h;try dsimp only at h
 refine fP [((.ptr 3),.tmp 11)] q (Ent.ok (E:=E) (f:=48)) (Con.ok m2) ?_;obtain ⟨c7,m3,h⟩:=bS h;refine fP [(.bor,.tmp 12)] q (Ent.ok (E:=E) (f:=32)) (Con.ok m3) ?_
 iterate 8 first|refine aH q ?_|apply wN|refine O.zS y ?_
 obtain ⟨g0,m4,h⟩:=bS h;obtain ⟨h8,l4⟩:=tV m4;have h9:=h8;try simp at h9
 iterate 2 (refine aH q ?_ rfl (by simp [h8,l4,h9];rfl))
 apply wN;refine O.seq ?_
 iterate 8 first|refine aH q ?_|apply wN|refine O.zS y ?_|refine O.block ?_
 refine O.cI h (fun q2 h=>?_) fun q4 h=>?_
 ·refine O.zH y ?_
  iterate 5 refine aH q ?_
  obtain ⟨m5,m6,h⟩:=bS h;obtain ⟨i0,i1,i2,i3⟩:=gS m6
  iterate 2 (refine aH q ?_ rfl (by simp [i0,i1,i2,i3];rfl))
  obtain ⟨q5,m7,h⟩:=bZ h;have i4:(List.map (GNode.enc true) c7.Nodes).set g0.toNat (.agg [vi (Int.tmod r5 22),vi m5.Num,vs m5.Name,.sl true 1 (List.map vi m5.Kids)])=List.map (GNode.enc true) q5:=qT (f:=(GNode.enc true)) m7;try simp only [Int.toNat_natCast] at i4
  refine aH q ?_ rfl (by simp [i0,i1,i2,i3,i4];rfl)
  iterate 5 first|refine aH q ?_|apply wN|refine O.zS y ?_
  cases h;refine O.ret ?_;simp [aO,iB,aGc]
 refine O.zS y ?_
 iterate 2 refine aH q ?_
 apply wN;refine O.cI h (fun q7 h=>?_) fun q8 h=>?_
 ·obtain ⟨m8,m9,h⟩:=bS h;obtain ⟨g4,b9,c0,c8⟩:=gS m9;have c9:=b9;try simp at c9
  try simp only [Int.toNat_natCast] at c0 c8
  have e0:=b9;try simp at e0
  have c2:(List.map vi [(-1),5,1000000001])[(Int.tmod r5 3).toNat]? = some (vi m8):=by rw [List.getElem?_map,c0];rfl
  try simp only [List.map_cons,List.map_nil] at c2
  have g5:=(List.getElem?_eq_some_iff.1 c2).2;refine O.dT rfl (y _ rfl) (en 31 [rf 5 0,.al (.box 5) 0 [] none,.t (vi g0),.t (.sl true 1 (List.map vi [(-1),5,1000000001])),.t (vi r5),.t (vi (Int.tmod r5 3)),.ref (.slot 34) 0 [((Int.tmod r5 3).toNat,0)],.t (vi m8)]) [[],[0],[],[],[],[4],[3,4,5],rg 3 4,rg 0 8,rg 0 9,rg 0 10] (by simp) (by simp) (by simp [look]) rfl rfl rfl ?_ fun K v=>?_
  ·refine ⟨?_,?_,?_,?_,?_,?_,?_,?_,trivial⟩;all_goals (intro τ hbx hb hd hf K v;try simp [bQ] at hd;simp [bQ] at hf;first | (refine wC rfl fun K' w=>?_;simp [q,hbx,hb,hd,hf,g4,b9,c0,c8,c9,e0,c2,g5];exact w _ (wN (v _ (by simp [bQ,hbx,g4,b9,c0,c8,c9,e0,c2,g5])))))
  obtain ⟨n0,n1,h⟩:=bS h;obtain ⟨i5,i6,i7,i8⟩:=gS n1
  iterate 2 (refine aH q ?_ rfl (by simp [g4,b9,c0,c8,c9,e0,c2,g5,i5,i6,i7,i8];rfl))
  obtain ⟨r1,n2,h⟩:=bZ h;have i9:(List.map (GNode.enc true) c7.Nodes).set g0.toNat (.agg [vi n0.Kind,vi m8,vs n0.Name,.sl true 1 (List.map vi n0.Kids)])=List.map (GNode.enc true) r1:=qT (f:=(GNode.enc true)) n2;try simp only [Int.toNat_natCast] at i9
  refine aH q ?_ rfl (by simp [g4,b9,c0,c8,c9,e0,c2,g5,i5,i6,i7,i8,i9];rfl)
  apply wN;apply v;refine O.zS y ?_
  iterate 2 refine aH q ?_
  apply wN;cases h;refine O.ret ?_;simp [aO,iB,aGc]
 refine O.zS y ?_
 iterate 2 refine aH q ?_
 apply wN;refine O.cI h (fun r3 h=>?_) fun r4 h=>?_
 ·obtain ⟨n3,n4,h⟩:=bS h;obtain ⟨g6,c3,c4,e1⟩:=gS n4;have e2:=c3;try simp at e2
  try simp only [Int.toNat_natCast] at c4 e1
  have e3:=c3;try simp at e3
  have c5:(List.map vs [(⟨#[]⟩:ByteArray),(⟨#[97]⟩:ByteArray),(⟨#[76,101,116]⟩:ByteArray),(⟨#[102,110]⟩:ByteArray)])[(Int.tmod r5 4).toNat]? = some (vs n3):=by rw [List.getElem?_map,c4];rfl
  try simp only [List.map_cons,List.map_nil] at c5
  have g7:=(List.getElem?_eq_some_iff.1 c5).2;refine O.dT rfl (y _ rfl) (en 43 [rf 5 0,.al (.box 5) 0 [] none,.t (vi g0),.t (.sl true 1 (List.map vs [(⟨#[]⟩:ByteArray),(⟨#[97]⟩:ByteArray),(⟨#[76,101,116]⟩:ByteArray),(⟨#[102,110]⟩:ByteArray)])),.t (vi r5),.t (vi (Int.tmod r5 4)),.ref (.slot 46) 0 [((Int.tmod r5 4).toNat,0)],.t (vs n3)]) [[],[0],[],[],[],[4],[3,4,5],rg 3 4,rg 0 8,rg 0 9,rg 0 10] (by simp) (by simp) (by simp [look]) rfl rfl rfl ?_ fun K v=>?_
  ·refine ⟨?_,?_,?_,?_,?_,?_,?_,?_,trivial⟩;all_goals (intro τ hbx hb hd hf K v;try simp [bQ] at hd;simp [bQ] at hf;first | (refine wC rfl fun K' w=>?_;simp [q,hbx,hb,hd,hf,g6,c3,c4,e1,e2,e3,c5,g7];exact w _ (wN (v _ (by simp [bQ,hbx,g6,c3,c4,e1,e2,e3,c5,g7])))))
  obtain ⟨n5,n6,h⟩:=bS h;obtain ⟨j0,j1,j2,j3⟩:=gS n6
  iterate 2 (refine aH q ?_ rfl (by simp [g6,c3,c4,e1,e2,e3,c5,g7,j0,j1,j2,j3];rfl))
  obtain ⟨r6,n7,h⟩:=bZ h;have j4:(List.map (GNode.enc true) c7.Nodes).set g0.toNat (.agg [vi n5.Kind,vi n5.Num,vs n3,.sl true 1 (List.map vi n5.Kids)])=List.map (GNode.enc true) r6:=qT (f:=(GNode.enc true)) n7;try simp only [Int.toNat_natCast] at j4
  refine aH q ?_ rfl (by simp [g6,c3,c4,e1,e2,e3,c5,g7,j0,j1,j2,j3,j4];rfl)
  apply wN;apply v;refine O.zS y ?_
  iterate 2 refine aH q ?_
  apply wN;cases h;refine O.ret ?_;simp [aO,iB,aGc]
 refine O.zS y ?_
 iterate 2 refine aH q ?_
 apply wN;refine O.cI h (fun r7 h=>?_) fun r9 h=>?_
 ·obtain ⟨l2,n8,h⟩:=bS h;obtain ⟨b3,b4,b5,b6⟩:=gS n8;obtain ⟨n9,o0,h⟩:=bS h;obtain ⟨b0,b1,l5⟩:=aS o0;have b2:List.map vi l2.Kids ++ List.map vi [Int.tmod r5 9]=List.map vi n9:=kG (f:=vi) l5;simp [eSl] at b0 b1 b2;refine O.drawX2 rfl (y _ rfl) [55,56,57,58,59,60,61,62,63,64,65,66,67] [[(55,.ref (.box 5) 0 [])],[(56,.al (.box 5) 0 [] none)],[(57,.t (vi g0))],[(58,.ref (.box 5) 0 [])],[(59,.al (.box 5) 0 [] none)],[(60,.t (vi g0))],[(61,.ref (.box 5) 0 [(g0.toNat,0)])],[(62,.ref (.box 5) 0 [(g0.toNat,3)])],[(63,.al (.box 5) 0 [(g0.toNat,3)] none)],[(64,.t (vi r5))],[(65,.t (vi (Int.tmod r5 9)))],[(66,.t (.sl true 1 (List.map vi [Int.tmod r5 9])))],[(67,.t (.sl true 1 (List.map vi n9))),(63,.u),(66,.u)]] [[],[],[],[],[],[],[],[],[],[],[],[],[(5,[.sl true 4 ((List.map (GNode.enc true) c7.Nodes).set g0.toNat (.agg [vi l2.Kind,vi l2.Num,vs l2.Name,.dead])),.sl true 5 (List.map (GFn.enc true) c7.Fns)])]] [[],[0],[],[],[3],[],[3,4,5],rg 3 4,rg 3 5,[],[9],[9,10],rg 3 9,rg 0 13,rg 0 14,rg 0 15] rfl (by simp) rfl rfl rfl ?_ fun K v=>?_
  ·refine ⟨?_,?_,?_,?_,?_,?_,?_,?_,?_,?_,?_,?_,?_,trivial⟩
   ·refine aG rfl rfl rfl ?_;intro τ D hbx hl d0 g1 g2 K v;cases b8:D 12<;>(simp [aQ,aX,d0,b8] at hbx;refine wC rfl fun K' w=>?_;simp [q,hbx,hl,bW,bV,look,d0,b8,b3,b4,b5,b6,b0,b1,b2];exact w _ (wN (v _ (by simp [cN,aQ,aX,bY,hbx,d0,b8,b3,b4,b5,b6,b0,b1,b2]))))
   ·refine aG rfl rfl rfl ?_;intro τ D hbx hl d1 g1 g2 K v;have d0:=g1 0 (by simp)
    cases b8:D 12<;>(simp [aQ,aX,d0,d1,b8] at hbx;refine wC rfl fun K' w=>?_;simp [q,hbx,hl,bW,bV,look,d0,d1,b8,b3,b4,b5,b6,b0,b1,b2];exact w _ (wN (v _ (by simp [cN,aQ,aX,bY,hbx,d0,d1,b8,b3,b4,b5,b6,b0,b1,b2]))))
   ·refine aG rfl rfl rfl ?_;intro τ D hbx hl d2 g1 g2 K v;cases b8:D 12<;>(simp [aQ,aX,d2,b8] at hbx;refine wC rfl fun K' w=>?_;simp [q,hbx,hl,bW,bV,look,d2,b8,b3,b4,b5,b6,b0,b1,b2];exact w _ (wN (v _ (by simp [cN,aQ,aX,bY,hbx,d2,b8,b3,b4,b5,b6,b0,b1,b2]))))
   ·refine aG rfl rfl rfl ?_;intro τ D hbx hl d3 g1 g2 K v;have b8:=g2 12 (by simp) (by simp)
    (simp [aQ,aX,d3,b8] at hbx;refine wC rfl fun K' w=>?_;simp [q,hbx,hl,bW,bV,look,d3,b8,b3,b4,b5,b6,b0,b1,b2];exact w _ (wN (v _ (by simp [cN,aQ,aX,bY,hbx,d3,b8,b3,b4,b5,b6,b0,b1,b2]))))
   ·refine aG rfl rfl rfl ?_;intro τ D hbx hl d4 g1 g2 K v;have d3:=g1 3 (by simp)
    have b8:=g2 12 (by simp) (by simp)
    (simp [aQ,aX,d3,d4,b8] at hbx;refine wC rfl fun K' w=>?_;simp [q,hbx,hl,bW,bV,look,d3,d4,b8,b3,b4,b5,b6,b0,b1,b2];exact w _ (wN (v _ (by simp [cN,aQ,aX,bY,hbx,d3,d4,b8,b3,b4,b5,b6,b0,b1,b2]))))
   ·refine aG rfl rfl rfl ?_;intro τ D hbx hl d5 g1 g2 K v;have b8:=g2 12 (by simp) (by simp)
    (simp [aQ,aX,d5,b8] at hbx;refine wC rfl fun K' w=>?_;simp [q,hbx,hl,bW,bV,look,d5,b8,b3,b4,b5,b6,b0,b1,b2];exact w _ (wN (v _ (by simp [cN,aQ,aX,bY,hbx,d5,b8,b3,b4,b5,b6,b0,b1,b2]))))
   ·refine aG rfl rfl rfl ?_;intro τ D hbx hl d6 g1 g2 K v;have d4:=g1 4 (by simp)
    have d5:=g1 5 (by simp)
    have b8:=g2 12 (by simp) (by simp)
    (simp [aQ,aX,d4,d5,d6,b8] at hbx;refine wC rfl fun K' w=>?_;simp [q,hbx,hl,bW,bV,look,d4,d5,d6,b8,b3,b4,b5,b6,b0,b1,b2];exact w _ (wN (v _ (by simp [cN,aQ,aX,bY,hbx,d4,d5,d6,b8,b3,b4,b5,b6,b0,b1,b2]))))
   ·refine aG rfl rfl rfl ?_;intro τ D hbx hl d7 g1 g2 K v;have d6:=g1 6 (by simp)
    have b8:=g2 12 (by simp) (by simp)
    (simp [aQ,aX,d6,d7,b8] at hbx;refine wC rfl fun K' w=>?_;simp [q,hbx,hl,bW,bV,look,d6,d7,b8,b3,b4,b5,b6,b0,b1,b2];exact w _ (wN (v _ (by simp [cN,aQ,aX,bY,hbx,d6,d7,b8,b3,b4,b5,b6,b0,b1,b2]))))
   ·refine aG rfl rfl rfl ?_;intro τ D hbx hl d8 g1 g2 K v;have d7:=g1 7 (by simp)
    have b8:=g2 12 (by simp) (by simp)
    (simp [aQ,aX,d7,d8,b8] at hbx;refine wC rfl fun K' w=>?_;simp [q,hbx,hl,bW,bV,look,d7,d8,b8,b3,b4,b5,b6,b0,b1,b2];exact w _ (wN (v _ (by simp [cN,aQ,aX,bY,hbx,d7,d8,b8,b3,b4,b5,b6,b0,b1,b2]))))
   ·refine aG rfl rfl rfl ?_;intro τ D hbx hl d9 g1 g2 K v;have b8:=g2 12 (by simp) (by simp)
    (simp [aQ,aX,d9,b8] at hbx;refine wC rfl fun K' w=>?_;simp [q,hbx,hl,bW,bV,look,d9,b8,b3,b4,b5,b6,b0,b1,b2];exact w _ (wN (v _ (by simp [cN,aQ,aX,bY,hbx,d9,b8,b3,b4,b5,b6,b0,b1,b2]))))
   ·refine aG rfl rfl rfl ?_;intro τ D hbx hl c6 g1 g2 K v;have d9:=g1 9 (by simp)
    have b8:=g2 12 (by simp) (by simp)
    (simp [aQ,aX,d9,c6,b8] at hbx;refine wC rfl fun K' w=>?_;simp [q,hbx,hl,bW,bV,look,d9,c6,b8,b3,b4,b5,b6,b0,b1,b2];exact w _ (wN (v _ (by simp [cN,aQ,aX,bY,hbx,d9,c6,b8,b3,b4,b5,b6,b0,b1,b2]))))
   ·refine aG rfl rfl rfl ?_;intro τ D hbx hl g3 g1 g2 K v;have c6:=g1 10 (by simp)
    have b8:=g2 12 (by simp) (by simp)
    (simp [aQ,aX,c6,g3,b8] at hbx;refine wC rfl fun K' w=>?_;simp [q,hbx,hl,bW,bV,look,c6,g3,b8,b3,b4,b5,b6,b0,b1,b2];exact w _ (wN (v _ (by simp [cN,aQ,aX,bY,hbx,c6,g3,b8,b3,b4,b5,b6,b0,b1,b2]))))
   intro D b8 g1 g2 gc;have d3:D 3=true:=g1 3 (by simp)
   have d4:D 4=true:=g1 4 (by simp)
   have d5:D 5=true:=g1 5 (by simp)
   have d6:D 6=true:=g1 6 (by simp)
   have d7:D 7=true:=g1 7 (by simp)
   have d8:D 8=true:=g1 8 (by simp)
   have d9:D 9=true:=g1 9 (by simp)
   have c6:D 10=true:=g1 10 (by simp)
   have g3:D 11=true:=g1 11 (by simp)
   have p1_0:D 1=true→D 0=true:=fun h=>gc 1 0 h (by simp) (by simp)
   cases d0:D 0<;>cases d1:D 1<;>(simp [d1,d0] at p1_0)<;>cases d2:D 2<;>(intro K v;simp [nP,cN,bY,aQ,aX,d0,d1,d2,d3,d4,d5,d6,d7,d8,d9,c6,g3,b8] at v ⊢;refine wC rfl fun K' w=>?_;simp [q,b3,b4,b5,b6,b0,b1,b2];refine w _ (wN ?_);first | exact v | simpa [b3,b4,b5,b6,b0,b1,b2] using v)
  simp [nP,cN,aQ,aX]
  iterate 2 (refine aH q ?_ rfl (by simp [b3,b4,b5,b6,b0,b1,b2];rfl))
  obtain ⟨s0,o1,h⟩:=bZ h;have j5:(List.map (GNode.enc true) c7.Nodes).set g0.toNat (.agg [vi l2.Kind,vi l2.Num,vs l2.Name,.sl true 1 (List.map vi n9)])=List.map (GNode.enc true) s0:=qT (f:=(GNode.enc true)) o1;try simp only [Int.toNat_natCast] at j5
  refine aH q ?_ rfl (by simp [b3,b4,b5,b6,b0,b1,b2,j5];rfl)
  apply wN;apply v;refine O.zS y ?_
  iterate 2 refine aH q ?_
  apply wN;cases h;refine O.ret ?_;simp [aO,iB,aGc]
 refine O.zS y ?_
 iterate 2 refine aH q ?_
 apply wN;refine O.cI h (fun s1 h=>?_) fun s2 h=>?_
 ·obtain ⟨p6,o2,h⟩:=bS h;obtain ⟨e4,g8⟩:=tV o2;have e5:=e4;try simp at e5
  refine O.dT rfl (y _ rfl) (en 72 [rf 5 1,.al (.box 5) 1 [] none,.t (vi r5),rf 5 1,.al (.box 5) 1 [] none,.t (vi (c7.Fns.length:Int)),.t (vi p6),.t (vi g0)]) [[],[0],[],[],[3],[3,4],rg 2 4,[],rg 0 8,rg 0 9,rg 0 10] (by simp) (by simp) (by simp [look]) rfl rfl rfl ?_ fun K v=>?_
  ·refine ⟨?_,?_,?_,?_,?_,?_,?_,?_,trivial⟩;all_goals (intro τ hbx hb hd hf K v;try simp [bQ] at hd;simp [bQ] at hf;first | (refine wC rfl fun K' w=>?_;simp [q,hbx,hb,hd,hf,e4,g8,e5];exact w _ (wN (v _ (by simp [bQ,hbx,e4,g8,e5])))))
  obtain ⟨l9,o3,h⟩:=bS h;obtain ⟨j6,j7,j8,j9⟩:=gS o3
  iterate 2 (refine aH q ?_ rfl (by simp [e4,g8,e5,j6,j7,j8,j9];rfl))
  obtain ⟨s3,o4,h⟩:=bZ h;have k0:(List.map (GFn.enc true) c7.Fns).set p6.toNat (.agg [vs l9.Name,.sl true 2 (List.map GParam.enc l9.Params),vi l9.Res,vi g0,vi l9.Ret])=List.map (GFn.enc true) s3:=qT (f:=(GFn.enc true)) o4;try simp only [Int.toNat_natCast] at k0
  refine aH q ?_ rfl (by simp [e4,g8,e5,j6,j7,j8,j9,k0];rfl)
  apply wN;apply v;refine O.zS y ?_
  iterate 2 refine aH q ?_
  apply wN;cases h;refine O.ret ?_;simp [aO,iB,aGc]
 refine O.zS y ?_
 iterate 2 refine aH q ?_
 apply wN;refine O.cI h (fun s4 h=>?_) fun s5 h=>?_
 ·obtain ⟨p7,o5,h⟩:=bS h;obtain ⟨e6,g9⟩:=tV o5;have e7:=e6;try simp at e7
  refine O.dT rfl (y _ rfl) (en 84 [rf 5 1,.al (.box 5) 1 [] none,.t (vi r5),rf 5 1,.al (.box 5) 1 [] none,.t (vi (c7.Fns.length:Int)),.t (vi p7),.t (vi g0)]) [[],[0],[],[],[3],[3,4],rg 2 4,[],rg 0 8,rg 0 9,rg 0 10] (by simp) (by simp) (by simp [look]) rfl rfl rfl ?_ fun K v=>?_
  ·refine ⟨?_,?_,?_,?_,?_,?_,?_,?_,trivial⟩;all_goals (intro τ hbx hb hd hf K v;try simp [bQ] at hd;simp [bQ] at hf;first | (refine wC rfl fun K' w=>?_;simp [q,hbx,hb,hd,hf,e6,g9,e7];exact w _ (wN (v _ (by simp [bQ,hbx,e6,g9,e7])))))
  obtain ⟨m0,o6,h⟩:=bS h;obtain ⟨k1,k2,k3,k4⟩:=gS o6
  iterate 2 (refine aH q ?_ rfl (by simp [e6,g9,e7,k1,k2,k3,k4];rfl))
  obtain ⟨s6,o7,h⟩:=bZ h;have k5:(List.map (GFn.enc true) c7.Fns).set p7.toNat (.agg [vs m0.Name,.sl true 2 (List.map GParam.enc m0.Params),vi m0.Res,vi m0.Body,vi g0])=List.map (GFn.enc true) s6:=qT (f:=(GFn.enc true)) o7;try simp only [Int.toNat_natCast] at k5
  refine aH q ?_ rfl (by simp [e6,g9,e7,k1,k2,k3,k4,k5];rfl)
  apply wN;apply v;refine O.zS y ?_
  iterate 2 refine aH q ?_
  apply wN;cases h;refine O.ret ?_;simp [aO,iB,aGc]
 refine O.zS y ?_
 iterate 2 refine aH q ?_
 apply wN;refine O.cI h (fun s7 h=>?_) fun s8 h=>?_
 ·obtain ⟨p8,o8,h⟩:=bS h;obtain ⟨e8,h0⟩:=tV o8;have e9:=e8;try simp at e9
  refine O.dT rfl (y _ rfl) (en 96 [rf 5 1,.al (.box 5) 1 [] none,.t (vi r5),rf 5 1,.al (.box 5) 1 [] none,.t (vi (c7.Fns.length:Int)),.t (vi p8)]) [[],[0],[],[],[3],[3,4],rg 2 4,rg 0 7,rg 0 8,rg 0 9] (by simp) (by simp) (by simp [look]) rfl rfl rfl ?_ fun K v=>?_
  ·refine ⟨?_,?_,?_,?_,?_,?_,?_,trivial⟩;all_goals (intro τ hbx hb hd hf K v;try simp [bQ] at hd;simp [bQ] at hf;first | (refine wC rfl fun K' w=>?_;simp [q,hbx,hb,hd,hf,e8,h0,e9];exact w _ (wN (v _ (by simp [bQ,hbx,e8,h0,e9])))))
  obtain ⟨m1,o9,h⟩:=bS h;obtain ⟨k6,k7,k8,k9⟩:=gS o9
  iterate 2 (refine aH q ?_ rfl (by simp [e8,h0,e9,k6,k7,k8,k9];rfl))
  obtain ⟨s9,p0,h⟩:=bZ h;have l0:(List.map (GFn.enc true) c7.Fns).set p8.toNat (.agg [vs (⟨#[115,104,111,119]⟩:ByteArray),.sl true 2 (List.map GParam.enc m1.Params),vi m1.Res,vi m1.Body,vi m1.Ret])=List.map (GFn.enc true) s9:=qT (f:=(GFn.enc true)) p0;try simp only [Int.toNat_natCast] at l0
  refine aH q ?_ rfl (by simp [e8,h0,e9,k6,k7,k8,k9,l0];rfl)
  apply wN;apply v;refine O.zS y ?_
  iterate 2 refine aH q ?_
  apply wN;cases h;refine O.ret ?_;simp [aO,iB,aGc]
 refine O.zS y ?_
 iterate 2 refine aH q ?_
 apply wN;refine O.cI h (fun t0 h=>?_) fun t1 h=>?_
 ·obtain ⟨l3,p1,h⟩:=bS h;obtain ⟨a0,a5⟩:=tV p1;have a1:=a0;try simp at a1
  obtain ⟨h1,p2,h⟩:=bS h;obtain ⟨a6,a7,a8,a9⟩:=gS p2;obtain ⟨p3,p4,h⟩:=bS h;obtain ⟨a2,a3,l6⟩:=aS p4;have a4:List.map GParam.enc h1.Params ++ List.map GParam.enc [(⟨(⟨#[122,122]⟩:ByteArray),Int.tmod r5 6⟩:GParam)]=List.map GParam.enc p3:=kG (f:=GParam.enc) l6;simp [eSl,GParam.enc] at a2 a3 a4;refine O.drawX2 rfl (y _ rfl) [107,108,109,110,111,112,113,114,115,116,117,118,119,120,121,122,123,124,125,126,127,128] [[(107,.ref (.box 5) 1 [])],[(108,.al (.box 5) 1 [] none)],[(109,.t (vi r5))],[(110,.ref (.box 5) 1 [])],[(111,.al (.box 5) 1 [] none)],[(112,.t (vi (c7.Fns.length:Int)))],[(113,.t (vi l3))],[(114,.ref (.box 5) 1 [])],[(115,.al (.box 5) 1 [] none)],[(116,.t (vi r5))],[(117,.ref (.box 5) 1 [])],[(118,.al (.box 5) 1 [] none)],[(119,.t (vi (c7.Fns.length:Int)))],[(120,.t (vi l3))],[(121,.ref (.box 5) 1 [(l3.toNat,0)])],[(122,.ref (.box 5) 1 [(l3.toNat,1)])],[(123,.al (.box 5) 1 [(l3.toNat,1)] none)],[(124,.t (vi r5))],[(125,.t (vi (Int.tmod r5 6)))],[(126,.t (.agg [vs (⟨#[122,122]⟩:ByteArray),vi (Int.tmod r5 6)]))],[(127,.t (.sl true 2 (List.map GParam.enc [(⟨(⟨#[122,122]⟩:ByteArray),Int.tmod r5 6⟩:GParam)])))],[(128,.t (.sl true 2 (List.map GParam.enc p3))),(123,.u),(127,.u)]] [[],[],[],[],[],[],[],[],[],[],[],[],[],[],[],[],[],[],[],[],[],[(5,[.sl true 4 (List.map (GNode.enc true) c7.Nodes),.sl true 5 ((List.map (GFn.enc true) c7.Fns).set l3.toNat (.agg [vs h1.Name,.dead,vi h1.Res,vi h1.Body,vi h1.Ret]))])]] [[],[0],[],[],[3],[3,4],rg 2 4,[],[7],[],[],[10],[10,11],rg 9 4,rg 7 7,rg 7 8,rg 7 9,[],[17],[17,18],[17,18,19],rg 7 14,rg 0 22,rg 0 23,rg 0 24] rfl (by simp) rfl rfl rfl ?_ fun K v=>?_
  ·refine ⟨?_,?_,?_,?_,?_,?_,?_,?_,?_,?_,?_,?_,?_,?_,?_,?_,?_,?_,?_,?_,?_,?_,trivial⟩
   ·refine aG rfl rfl rfl ?_;intro τ D hbx hl d0 g1 g2 K v;cases b7:D 21<;>(simp [aQ,aX,d0,b7] at hbx;refine wC rfl fun K' w=>?_;simp [q,hbx,hl,bW,bV,look,d0,b7,a0,a5,a1,a6,a7,a8,a9,a2,a3,a4];exact w _ (wN (v _ (by simp [cN,aQ,aX,bY,hbx,d0,b7,a0,a5,a1,a6,a7,a8,a9,a2,a3,a4]))))
   ·refine aG rfl rfl rfl ?_;intro τ D hbx hl d1 g1 g2 K v;have d0:=g1 0 (by simp)
    cases b7:D 21<;>(simp [aQ,aX,d0,d1,b7] at hbx;refine wC rfl fun K' w=>?_;simp [q,hbx,hl,bW,bV,look,d0,d1,b7,a0,a5,a1,a6,a7,a8,a9,a2,a3,a4];exact w _ (wN (v _ (by simp [cN,aQ,aX,bY,hbx,d0,d1,b7,a0,a5,a1,a6,a7,a8,a9,a2,a3,a4]))))
   ·refine aG rfl rfl rfl ?_;intro τ D hbx hl d2 g1 g2 K v;cases b7:D 21<;>(simp [aQ,aX,d2,b7] at hbx;refine wC rfl fun K' w=>?_;simp [q,hbx,hl,bW,bV,look,d2,b7,a0,a5,a1,a6,a7,a8,a9,a2,a3,a4];exact w _ (wN (v _ (by simp [cN,aQ,aX,bY,hbx,d2,b7,a0,a5,a1,a6,a7,a8,a9,a2,a3,a4]))))
   ·refine aG rfl rfl rfl ?_;intro τ D hbx hl d3 g1 g2 K v;cases b7:D 21<;>(simp [aQ,aX,d3,b7] at hbx;refine wC rfl fun K' w=>?_;simp [q,hbx,hl,bW,bV,look,d3,b7,a0,a5,a1,a6,a7,a8,a9,a2,a3,a4];exact w _ (wN (v _ (by simp [cN,aQ,aX,bY,hbx,d3,b7,a0,a5,a1,a6,a7,a8,a9,a2,a3,a4]))))
   ·refine aG rfl rfl rfl ?_;intro τ D hbx hl d4 g1 g2 K v;have d3:=g1 3 (by simp)
    cases b7:D 21<;>(simp [aQ,aX,d3,d4,b7] at hbx;refine wC rfl fun K' w=>?_;simp [q,hbx,hl,bW,bV,look,d3,d4,b7,a0,a5,a1,a6,a7,a8,a9,a2,a3,a4];exact w _ (wN (v _ (by simp [cN,aQ,aX,bY,hbx,d3,d4,b7,a0,a5,a1,a6,a7,a8,a9,a2,a3,a4]))))
   ·refine aG rfl rfl rfl ?_;intro τ D hbx hl d5 g1 g2 K v;have d4:=g1 4 (by simp)
    cases b7:D 21<;>(simp [aQ,aX,d4,d5,b7] at hbx;refine wC rfl fun K' w=>?_;simp [q,hbx,hl,bW,bV,look,d4,d5,b7,a0,a5,a1,a6,a7,a8,a9,a2,a3,a4];exact w _ (wN (v _ (by simp [cN,aQ,aX,bY,hbx,d4,d5,b7,a0,a5,a1,a6,a7,a8,a9,a2,a3,a4]))))
   ·refine aG rfl rfl rfl ?_;intro τ D hbx hl d6 g1 g2 K v;have d2:=g1 2 (by simp)
    have d5:=g1 5 (by simp)
    cases b7:D 21<;>(simp [aQ,aX,d2,d5,d6,b7] at hbx;refine wC rfl fun K' w=>?_;simp [q,hbx,hl,bW,bV,look,d2,d5,d6,b7,a0,a5,a1,a6,a7,a8,a9,a2,a3,a4];exact w _ (wN (v _ (by simp [cN,aQ,aX,bY,hbx,d2,d5,d6,b7,a0,a5,a1,a6,a7,a8,a9,a2,a3,a4]))))
   ·refine aG rfl rfl rfl ?_;intro τ D hbx hl d7 g1 g2 K v;have b7:=g2 21 (by simp) (by simp)
    (simp [aQ,aX,d7,b7] at hbx;refine wC rfl fun K' w=>?_;simp [q,hbx,hl,bW,bV,look,d7,b7,a0,a5,a1,a6,a7,a8,a9,a2,a3,a4];exact w _ (wN (v _ (by simp [cN,aQ,aX,bY,hbx,d7,b7,a0,a5,a1,a6,a7,a8,a9,a2,a3,a4]))))
   ·refine aG rfl rfl rfl ?_;intro τ D hbx hl d8 g1 g2 K v;have d7:=g1 7 (by simp)
    have b7:=g2 21 (by simp) (by simp)
    (simp [aQ,aX,d7,d8,b7] at hbx;refine wC rfl fun K' w=>?_;simp [q,hbx,hl,bW,bV,look,d7,d8,b7,a0,a5,a1,a6,a7,a8,a9,a2,a3,a4];exact w _ (wN (v _ (by simp [cN,aQ,aX,bY,hbx,d7,d8,b7,a0,a5,a1,a6,a7,a8,a9,a2,a3,a4]))))
   ·refine aG rfl rfl rfl ?_;intro τ D hbx hl d9 g1 g2 K v;have b7:=g2 21 (by simp) (by simp)
    (simp [aQ,aX,d9,b7] at hbx;refine wC rfl fun K' w=>?_;simp [q,hbx,hl,bW,bV,look,d9,b7,a0,a5,a1,a6,a7,a8,a9,a2,a3,a4];exact w _ (wN (v _ (by simp [cN,aQ,aX,bY,hbx,d9,b7,a0,a5,a1,a6,a7,a8,a9,a2,a3,a4]))))
   ·refine aG rfl rfl rfl ?_;intro τ D hbx hl c6 g1 g2 K v;have b7:=g2 21 (by simp) (by simp)
    (simp [aQ,aX,c6,b7] at hbx;refine wC rfl fun K' w=>?_;simp [q,hbx,hl,bW,bV,look,c6,b7,a0,a5,a1,a6,a7,a8,a9,a2,a3,a4];exact w _ (wN (v _ (by simp [cN,aQ,aX,bY,hbx,c6,b7,a0,a5,a1,a6,a7,a8,a9,a2,a3,a4]))))
   ·refine aG rfl rfl rfl ?_;intro τ D hbx hl g3 g1 g2 K v;have c6:=g1 10 (by simp)
    have b7:=g2 21 (by simp) (by simp)
    (simp [aQ,aX,c6,g3,b7] at hbx;refine wC rfl fun K' w=>?_;simp [q,hbx,hl,bW,bV,look,c6,g3,b7,a0,a5,a1,a6,a7,a8,a9,a2,a3,a4];exact w _ (wN (v _ (by simp [cN,aQ,aX,bY,hbx,c6,g3,b7,a0,a5,a1,a6,a7,a8,a9,a2,a3,a4]))))
   ·refine aG rfl rfl rfl ?_;intro τ D hbx hl b8 g1 g2 K v;have g3:=g1 11 (by simp)
    have b7:=g2 21 (by simp) (by simp)
    (simp [aQ,aX,g3,b8,b7] at hbx;refine wC rfl fun K' w=>?_;simp [q,hbx,hl,bW,bV,look,g3,b8,b7,a0,a5,a1,a6,a7,a8,a9,a2,a3,a4];exact w _ (wN (v _ (by simp [cN,aQ,aX,bY,hbx,g3,b8,b7,a0,a5,a1,a6,a7,a8,a9,a2,a3,a4]))))
   ·refine aG rfl rfl rfl ?_;intro τ D hbx hl h2 g1 g2 K v;have d9:=g1 9 (by simp)
    have b8:=g1 12 (by simp)
    have b7:=g2 21 (by simp) (by simp)
    (simp [aQ,aX,d9,b8,h2,b7] at hbx;refine wC rfl fun K' w=>?_;simp [q,hbx,hl,bW,bV,look,d9,b8,h2,b7,a0,a5,a1,a6,a7,a8,a9,a2,a3,a4];exact w _ (wN (v _ (by simp [cN,aQ,aX,bY,hbx,d9,b8,h2,b7,a0,a5,a1,a6,a7,a8,a9,a2,a3,a4]))))
   ·refine aG rfl rfl rfl ?_;intro τ D hbx hl h3 g1 g2 K v;have d8:=g1 8 (by simp)
    have h2:=g1 13 (by simp)
    have b7:=g2 21 (by simp) (by simp)
    (simp [aQ,aX,d8,h2,h3,b7] at hbx;refine wC rfl fun K' w=>?_;simp [q,hbx,hl,bW,bV,look,d8,h2,h3,b7,a0,a5,a1,a6,a7,a8,a9,a2,a3,a4];exact w _ (wN (v _ (by simp [cN,aQ,aX,bY,hbx,d8,h2,h3,b7,a0,a5,a1,a6,a7,a8,a9,a2,a3,a4]))))
   ·refine aG rfl rfl rfl ?_;intro τ D hbx hl h4 g1 g2 K v;have h3:=g1 14 (by simp)
    have b7:=g2 21 (by simp) (by simp)
    (simp [aQ,aX,h3,h4,b7] at hbx;refine wC rfl fun K' w=>?_;simp [q,hbx,hl,bW,bV,look,h3,h4,b7,a0,a5,a1,a6,a7,a8,a9,a2,a3,a4];exact w _ (wN (v _ (by simp [cN,aQ,aX,bY,hbx,h3,h4,b7,a0,a5,a1,a6,a7,a8,a9,a2,a3,a4]))))
   ·refine aG rfl rfl rfl ?_;intro τ D hbx hl l7 g1 g2 K v;have h4:=g1 15 (by simp)
    have b7:=g2 21 (by simp) (by simp)
    (simp [aQ,aX,h4,l7,b7] at hbx;refine wC rfl fun K' w=>?_;simp [q,hbx,hl,bW,bV,look,h4,l7,b7,a0,a5,a1,a6,a7,a8,a9,a2,a3,a4];exact w _ (wN (v _ (by simp [cN,aQ,aX,bY,hbx,h4,l7,b7,a0,a5,a1,a6,a7,a8,a9,a2,a3,a4]))))
   ·refine aG rfl rfl rfl ?_;intro τ D hbx hl h5 g1 g2 K v;have b7:=g2 21 (by simp) (by simp)
    (simp [aQ,aX,h5,b7] at hbx;refine wC rfl fun K' w=>?_;simp [q,hbx,hl,bW,bV,look,h5,b7,a0,a5,a1,a6,a7,a8,a9,a2,a3,a4];exact w _ (wN (v _ (by simp [cN,aQ,aX,bY,hbx,h5,b7,a0,a5,a1,a6,a7,a8,a9,a2,a3,a4]))))
   ·refine aG rfl rfl rfl ?_;intro τ D hbx hl h6 g1 g2 K v;have h5:=g1 17 (by simp)
    have b7:=g2 21 (by simp) (by simp)
    (simp [aQ,aX,h5,h6,b7] at hbx;refine wC rfl fun K' w=>?_;simp [q,hbx,hl,bW,bV,look,h5,h6,b7,a0,a5,a1,a6,a7,a8,a9,a2,a3,a4];exact w _ (wN (v _ (by simp [cN,aQ,aX,bY,hbx,h5,h6,b7,a0,a5,a1,a6,a7,a8,a9,a2,a3,a4]))))
   ·refine aG rfl rfl rfl ?_;intro τ D hbx hl h7 g1 g2 K v;have h6:=g1 18 (by simp)
    have b7:=g2 21 (by simp) (by simp)
    (simp [aQ,aX,h6,h7,b7] at hbx;refine wC rfl fun K' w=>?_;simp [q,hbx,hl,bW,bV,look,h6,h7,b7,a0,a5,a1,a6,a7,a8,a9,a2,a3,a4];exact w _ (wN (v _ (by simp [cN,aQ,aX,bY,hbx,h6,h7,b7,a0,a5,a1,a6,a7,a8,a9,a2,a3,a4]))))
   ·refine aG rfl rfl rfl ?_;intro τ D hbx hl l8 g1 g2 K v;have h7:=g1 19 (by simp)
    have b7:=g2 21 (by simp) (by simp)
    (simp [aQ,aX,h7,l8,b7] at hbx;refine wC rfl fun K' w=>?_;simp [q,hbx,hl,bW,bV,look,h7,l8,b7,a0,a5,a1,a6,a7,a8,a9,a2,a3,a4];exact w _ (wN (v _ (by simp [cN,aQ,aX,bY,hbx,h7,l8,b7,a0,a5,a1,a6,a7,a8,a9,a2,a3,a4]))))
   intro D b7 g1 g2 gc;have d7:D 7=true:=g1 7 (by simp)
   have d8:D 8=true:=g1 8 (by simp)
   have d9:D 9=true:=g1 9 (by simp)
   have c6:D 10=true:=g1 10 (by simp)
   have g3:D 11=true:=g1 11 (by simp)
   have b8:D 12=true:=g1 12 (by simp)
   have h2:D 13=true:=g1 13 (by simp)
   have h3:D 14=true:=g1 14 (by simp)
   have h4:D 15=true:=g1 15 (by simp)
   have l7:D 16=true:=g1 16 (by simp)
   have h5:D 17=true:=g1 17 (by simp)
   have h6:D 18=true:=g1 18 (by simp)
   have h7:D 19=true:=g1 19 (by simp)
   have l8:D 20=true:=g1 20 (by simp)
   have p1_0:D 1=true→D 0=true:=fun h=>gc 1 0 h (by simp) (by simp)
   have p4_3:D 4=true→D 3=true:=fun h=>gc 4 3 h (by simp) (by simp)
   have p5_4:D 5=true→D 4=true:=fun h=>gc 5 4 h (by simp) (by simp)
   have p6_2:D 6=true→D 2=true:=fun h=>gc 6 2 h (by simp) (by simp)
   have p6_5:D 6=true→D 5=true:=fun h=>gc 6 5 h (by simp) (by simp)
   cases d0:D 0<;>cases d1:D 1<;>(simp [d1,d0] at p1_0)<;>cases d2:D 2<;>cases d3:D 3<;>cases d4:D 4<;>(simp [d4,d3] at p4_3)<;>cases d5:D 5<;>(simp [d5,d4] at p5_4)<;>cases d6:D 6<;>(simp [d6,d2] at p6_2)<;>(simp [d6,d5] at p6_5)<;>(intro K v;simp [nP,cN,bY,aQ,aX,d0,d1,d2,d3,d4,d5,d6,d7,d8,d9,c6,g3,b8,h2,h3,h4,l7,h5,h6,h7,l8,b7] at v ⊢;refine wC rfl fun K' w=>?_;simp [q,a0,a5,a1,a6,a7,a8,a9,a2,a3,a4];refine w _ (wN ?_);first | exact v | simpa [a0,a5,a1,a6,a7,a8,a9,a2,a3,a4] using v)
  simp [nP,cN,aQ,aX]
  iterate 2 (refine aH q ?_ rfl (by simp [a0,a5,a1,a6,a7,a8,a9,a2,a3,a4];rfl))
  obtain ⟨t2,p5,h⟩:=bZ h;have l1:(List.map (GFn.enc true) c7.Fns).set l3.toNat (.agg [vs h1.Name,.sl true 2 (List.map GParam.enc p3),vi h1.Res,vi h1.Body,vi h1.Ret])=List.map (GFn.enc true) t2:=qT (f:=(GFn.enc true)) p5;try simp only [Int.toNat_natCast] at l1
  refine aH q ?_ rfl (by simp [a0,a5,a1,a6,a7,a8,a9,a2,a3,a4,l1];rfl)
  apply wN;apply v;refine O.zS y ?_
  iterate 2 refine aH q ?_
  apply wN;cases h;refine O.ret ?_;simp [aO,iB,aGc]
 refine O.skip ?_;refine O.zS y ?_
 iterate 2 refine aH q ?_
 apply wN;cases h;refine O.ret ?_;simp [aO,iB,aGc]
instance e25_:Ent E 25:=⟨aQ8⟩
end Go.Proofs.T
