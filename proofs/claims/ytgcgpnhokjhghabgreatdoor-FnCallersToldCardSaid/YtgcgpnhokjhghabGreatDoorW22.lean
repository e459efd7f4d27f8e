import Derived.Test.YtgcgpnhokjhghabGreatDoorW0
import Derived.Test.YtgcgpnhokjhghabGreatDoorW14
import Derived.Test.YtgcgpnhokjhghabGreatDoorW20
import Derived.Test.YtgcgpnhokjhghabGreatDoorW6
import Derived.Test.YtgcgpnhokjhghabGreatDoorW8
set_option linter.unusedVariables false
set_option linter.unusedSimpArgs false
set_option linter.unusedVariables false
set_option linter.unusedSimpArgs false
set_option maxHeartbeats 8000000
set_option maxRecDepth 100000
namespace Go.Proofs.T
open Go.OM
theorem aPp:Tryz.f47.results.toList=[.tmp 2]:=rfl
theorem ent47:dR E.P 47:=eO Tryz.func47 (by simp [Tryz.f47]) rfl
instance c47_ (p1:GProgram) {r0:Bool}:Con E 47 (kW p1=some r0) [.val (GProgram.enc false p1)] [vb r0] []:=Con.mk fun h=>by
 refine oB Tryz.func47 rfl (by simp [Tryz.f47]) fun C (q:C.N=97) hP=>?_
 have w:=zW hP;unfold kW at h;refine O.zS w ?_
 iterate 2 refine aH q ?_
 apply wN;refine O.seq ?_;refine O.zS w ?_;refine aH q ?_;obtain ⟨r2,j5,h⟩:=bS h;refine fP [(.take,.tmp 8)] q aRt (Con.ok j5) ?_;refine aH q ?_;apply wN;refine O.cI h (fun m0 h=>?_) fun m1 h=>?_
 ·refine O.zS w ?_;refine aH q ?_;apply wN;cases h;refine O.ret ?_;simp [aO,iB,aPp]
 refine O.skip ?_;obtain ⟨j8,j6,h⟩:=bS h;refine O.seqC [] [] (fun v:Unit=>⟨[],[]⟩) (fun v=>j8=Sum.inl v) (fun v hv=>?_) fun K7 j7=>?_;rotate_left
 ·refine O.zS w ?_;refine aH q ?_;apply wN;refine O.block ?_;refine O.loopO [] [1,3] [1] (fun v:Int=>⟨[(1,.ref (.box 1) 0 []),(3,.t (vi v))],[(1,[.sl false 4 (List.map (GNode.enc false) p1.Nodes),.sl false 5 (List.map (GFn.enc false) p1.Fns)])]⟩) (fB p1) _ (0:Int) j6 (by simp [q]) ?_
  intro g m2 b6 e5;obtain ⟨i9,hg⟩:∃ y,y=g:=⟨_,rfl⟩;subst hg;simp only [fB] at b6;try dsimp only
  refine O.seq ?_;refine O.zS w ?_
  iterate 5 refine aH q ?_
  apply wN;refine O.cI b6 (fun j9 b6=>?_) fun k0 b6=>?_
  ·refine O.skip ?_;obtain ⟨k1,b2,b6⟩:=bS b6;refine O.seqC [1,3] [1] (fun v:Unit=>⟨[(1,.ref (.box 1) 0 []),(3,.t (vi i9))],[(1,[.sl false 4 (List.map (GNode.enc false) p1.Nodes),.sl false 5 (List.map (GFn.enc false) p1.Fns)])]⟩) (fun v=>k1=Sum.inl v) (fun v hv=>?_) fun m3 h4=>?_;rotate_left
   ·refine O.block ?_;refine O.zS w ?_
    iterate 2 refine aH q ?_
    obtain ⟨j3,h5,b2⟩:=bS b2;refine fP [(.take,.tmp 18),(.take,.tmp 19)] q (Ent.ok (E:=E) (f:=65)) (Con.ok h5) ?_;refine aH q ?_;apply wN;obtain ⟨k2,h6,b2⟩:=bS b2;refine O.seqC [1,3] [1] (fun v:Unit=>⟨[(1,.ref (.box 1) 0 []),(3,.t (vi i9))],[(1,[.sl false 4 (List.map (GNode.enc false) p1.Nodes),.sl false 5 (List.map (GFn.enc false) p1.Fns)])]⟩) (fun v=>k2=Sum.inl v) (fun v hv=>?_) fun m4 h7=>?_;rotate_left
    ·refine O.zS w ?_;refine aH q ?_;apply wN;refine O.block ?_;refine O.loopO [] [1,3,4,5] [1] (fun v:Int=>⟨[(1,.ref (.box 1) 0 []),(3,.t (vi i9)),(4,.t (.sl true 3 (List.map GVar.enc j3))),(5,.t (vi v))],[(1,[.sl false 4 (List.map (GNode.enc false) p1.Nodes),.sl false 5 (List.map (GFn.enc false) p1.Fns)])]⟩) (dX j3) _ (0:Int) h6 (by simp [q]) ?_
     intro g m5 b4 e7;obtain ⟨m6,hg⟩:∃ y,y=g:=⟨_,rfl⟩;subst hg;simp only [dX] at b4;try dsimp only
     refine O.seq ?_;refine O.zS w ?_
     iterate 4 refine aH q ?_
     apply wN;refine O.cI b4 (fun k3 b4=>?_) fun k4 b4=>?_
     ·refine O.skip ?_;refine O.seq ?_
      iterate 5 first|refine aH q ?_|refine O.zS w ?_|refine O.block ?_
      obtain ⟨m7,h8,b4⟩:=bS b4;obtain ⟨b7,b8,b9,c0⟩:=gS h8
      iterate 3 (refine aH q ?_ rfl (by simp [b7,b8,b9,c0];rfl))
      obtain ⟨m8,h9,b4⟩:=bS b4;refine fP [(.bor,.tmp 27),(.take,.tmp 32)] q (Ent.ok (E:=E) (f:=66)) (Con.ok h9) ?_ rfl rfl (by simp [b7,b8,b9,c0];rfl)
      iterate 2 (refine aH q ?_ rfl (by simp [b7,b8,b9,c0];rfl))
      apply wN;refine O.cI b4 (fun k5 b4=>?_) fun k6 b4=>?_
      ·refine O.zS w ?_;refine aH q ?_;apply wN;have k7:=congrArg some (e7 _ (Option.some.inj b4).symm);cases k7;try dsimp only at b2
       cases b2;try dsimp only at b6
       have k8:=congrArg some (e5 _ (Option.some.inj b6).symm);cases k8;try dsimp only at h
       cases h;refine O.ret ?_;simp [aO,iB,aPp]
      refine O.skip ?_;refine O.zH w ?_
      iterate 3 refine aH q ?_
      apply wN;cases b4;exact ⟨_,[],rfl,by simp [q]⟩
     refine O.exit ?_;have k9:=congrArg some (e7 _ (Option.some.inj b4).symm);cases k9;exact h7 _ _ [] rfl (by simp [q])
    subst hv;obtain ⟨⟩:=v;try dsimp only at b2 ⊢
    refine O.zS w ?_
    iterate 5 refine aH q ?_
    apply wN;obtain ⟨e8,i0,b2⟩:=bS b2;refine O.seqC [1,3,6] [1,39] (fun _:Unit=>⟨[(1,.ref (.box 1) 0 []),(3,.t (vi i9)),(6,.ref (.box 39) 0 [])],[(1,[.sl false 4 (List.map (GNode.enc false) p1.Nodes),.sl false 5 (List.map (GFn.enc false) p1.Fns)]),(39,[.sl false 4 (List.map (GNode.enc false) e8.p.Nodes),.sl false 5 (List.map (GFn.enc false) e8.p.Fns),vi e8.fn,.sl true 1 (List.map vs e8.there),vb e8.bad])]⟩) (fun _=>True) (fun _ _=>?_) fun m9 i1=>?_;rotate_left
    ·refine O.zS w ?_;refine aH q ?_;apply wN;refine O.block ?_;refine O.loopO [] [1,3,6,7] [1,39] (fun v:Int × Gl07Seen=>⟨[(1,.ref (.box 1) 0 []),(3,.t (vi i9)),(6,.ref (.box 39) 0 []),(7,.t (vi v.1))],[(1,[.sl false 4 (List.map (GNode.enc false) p1.Nodes),.sl false 5 (List.map (GFn.enc false) p1.Fns)]),(39,[.sl false 4 (List.map (GNode.enc false) v.2.p.Nodes),.sl false 5 (List.map (GFn.enc false) v.2.p.Fns),vi v.2.fn,.sl true 1 (List.map vs v.2.there),vb v.2.bad])]⟩) (dW p1 i9) _ ((0:Int),(⟨p1,i9,[],false⟩:Gl07Seen)) i0 (by simp [q]) ?_
     intro g n0 b5 i2;obtain ⟨l0,e9⟩:=g;simp only [dW] at b5;try dsimp only
     refine O.seq ?_;refine O.zS w ?_
     iterate 4 refine aH q ?_
     obtain ⟨n1,i3,b5⟩:=bS b5;obtain ⟨g0,g3,g4,g5⟩:=gS i3
     iterate 5 (refine aH q ?_ rfl (by simp [g0,g3,g4,g5];rfl))
     apply wN;refine O.cI b5 (fun l1 b5=>?_) fun l2 b5=>?_
     ·refine O.skip ?_;refine O.seq ?_;refine O.block ?_;obtain ⟨c1,i4,b5⟩:=bS b5;obtain ⟨a3,a4,a5,a6⟩:=gS i4;obtain ⟨e6,i5,b5⟩:=bS b5;obtain ⟨a7,a8,a9,b0⟩:=gS i5;obtain ⟨j4,i6,b5⟩:=bS b5;obtain ⟨a0,a1,g6⟩:=aS i6;have a2:List.map vs e9.there ++ List.map vs [e6.Name]=List.map vs j4:=kG (f:=vs) g6;simp [eSl] at a0 a1 a2;refine O.drawX2 rfl (w _ rfl) [51,52,53,54,55,56,57,58,59,60,61,62,63,64,65,66,67] [[(51,.ref (.box 39) 0 [])],[(52,.ref (.box 39) 0 [])],[(53,.ref (.box 39) 0 [])],[(54,.ref (.box 39) 3 [])],[(55,.al (.box 39) 3 [] none)],[(56,.ref (.box 1) 1 [])],[(57,.t (.sl false 5 (List.map (GFn.enc false) p1.Fns)))],[(58,.t (vi i9))],[(59,.rop [vs c1.Name,.sl false 2 (List.map GParam.enc c1.Params),vi c1.Res,vi c1.Body,vi c1.Ret] 0)],[(60,.rop [vs c1.Name,.sl false 2 (List.map GParam.enc c1.Params),vi c1.Res,vi c1.Body,vi c1.Ret] 1)],[(61,.t (.sl false 2 (List.map GParam.enc c1.Params)))],[(62,.t (vi l0))],[(63,.rop [vs e6.Name,vi e6.Typ] 0)],[(64,.rop [vs e6.Name,vi e6.Typ] 0)],[(65,.t (vs e6.Name))],[(66,.t (.sl true 1 (List.map vs [e6.Name])))],[(67,.t (.sl true 1 (List.map vs j4))),(55,.u),(66,.u)]] [[],[],[],[],[],[],[],[],[],[],[],[],[],[],[],[],[(39,[.sl false 4 (List.map (GNode.enc false) e9.p.Nodes),.sl false 5 (List.map (GFn.enc false) e9.p.Fns),vi e9.fn,.dead,vb e9.bad])]] [[],[],[1],[1,2],[1,2,3],[],[5],[],[5,6,7],rg 5 4,rg 5 5,[],rg 5 7,rg 5 8,rg 5 9,rg 5 10,rg 1 15,rg 0 17,rg 0 18,rg 0 19] rfl (by simp) rfl rfl rfl ?_ fun K z=>?_
      ·refine ⟨?_,?_,?_,?_,?_,?_,?_,?_,?_,?_,?_,?_,?_,?_,?_,?_,?_,trivial⟩
       ·refine aG rfl rfl rfl ?_;intro τ D hbx hl d0 g1 g2 K z;cases b1:D 16<;>(simp [aQ,aX,d0,b1] at hbx;refine wC rfl fun K' r=>?_;simp [q,hbx,hl,bW,bV,look,d0,b1,a3,a4,a5,a6,a7,a8,a9,b0,a0,a1,a2];exact r _ (wN (z _ (by simp [cN,aQ,aX,bY,hbx,d0,b1,a3,a4,a5,a6,a7,a8,a9,b0,a0,a1,a2]))))
       ·refine aG rfl rfl rfl ?_;intro τ D hbx hl d1 g1 g2 K z;have b1:=g2 16 (by simp) (by simp)
        (simp [aQ,aX,d1,b1] at hbx;refine wC rfl fun K' r=>?_;simp [q,hbx,hl,bW,bV,look,d1,b1,a3,a4,a5,a6,a7,a8,a9,b0,a0,a1,a2];exact r _ (wN (z _ (by simp [cN,aQ,aX,bY,hbx,d1,b1,a3,a4,a5,a6,a7,a8,a9,b0,a0,a1,a2]))))
       ·refine aG rfl rfl rfl ?_;intro τ D hbx hl d2 g1 g2 K z;have d1:=g1 1 (by simp)
        have b1:=g2 16 (by simp) (by simp)
        (simp [aQ,aX,d1,d2,b1] at hbx;refine wC rfl fun K' r=>?_;simp [q,hbx,hl,bW,bV,look,d1,d2,b1,a3,a4,a5,a6,a7,a8,a9,b0,a0,a1,a2];exact r _ (wN (z _ (by simp [cN,aQ,aX,bY,hbx,d1,d2,b1,a3,a4,a5,a6,a7,a8,a9,b0,a0,a1,a2]))))
       ·refine aG rfl rfl rfl ?_;intro τ D hbx hl d3 g1 g2 K z;have d2:=g1 2 (by simp)
        have b1:=g2 16 (by simp) (by simp)
        (simp [aQ,aX,d2,d3,b1] at hbx;refine wC rfl fun K' r=>?_;simp [q,hbx,hl,bW,bV,look,d2,d3,b1,a3,a4,a5,a6,a7,a8,a9,b0,a0,a1,a2];exact r _ (wN (z _ (by simp [cN,aQ,aX,bY,hbx,d2,d3,b1,a3,a4,a5,a6,a7,a8,a9,b0,a0,a1,a2]))))
       ·refine aG rfl rfl rfl ?_;intro τ D hbx hl d4 g1 g2 K z;have d3:=g1 3 (by simp)
        have b1:=g2 16 (by simp) (by simp)
        (simp [aQ,aX,d3,d4,b1] at hbx;refine wC rfl fun K' r=>?_;simp [q,hbx,hl,bW,bV,look,d3,d4,b1,a3,a4,a5,a6,a7,a8,a9,b0,a0,a1,a2];exact r _ (wN (z _ (by simp [cN,aQ,aX,bY,hbx,d3,d4,b1,a3,a4,a5,a6,a7,a8,a9,b0,a0,a1,a2]))))
       ·refine aG rfl rfl rfl ?_;intro τ D hbx hl d5 g1 g2 K z;have b1:=g2 16 (by simp) (by simp)
        (simp [aQ,aX,d5,b1] at hbx;refine wC rfl fun K' r=>?_;simp [q,hbx,hl,bW,bV,look,d5,b1,a3,a4,a5,a6,a7,a8,a9,b0,a0,a1,a2];exact r _ (wN (z _ (by simp [cN,aQ,aX,bY,hbx,d5,b1,a3,a4,a5,a6,a7,a8,a9,b0,a0,a1,a2]))))
       ·refine aG rfl rfl rfl ?_;intro τ D hbx hl d6 g1 g2 K z;have d5:=g1 5 (by simp)
        have b1:=g2 16 (by simp) (by simp)
        (simp [aQ,aX,d5,d6,b1] at hbx;refine wC rfl fun K' r=>?_;simp [q,hbx,hl,bW,bV,look,d5,d6,b1,a3,a4,a5,a6,a7,a8,a9,b0,a0,a1,a2];exact r _ (wN (z _ (by simp [cN,aQ,aX,bY,hbx,d5,d6,b1,a3,a4,a5,a6,a7,a8,a9,b0,a0,a1,a2]))))
       ·refine aG rfl rfl rfl ?_;intro τ D hbx hl d7 g1 g2 K z;have b1:=g2 16 (by simp) (by simp)
        (simp [aQ,aX,d7,b1] at hbx;refine wC rfl fun K' r=>?_;simp [q,hbx,hl,bW,bV,look,d7,b1,a3,a4,a5,a6,a7,a8,a9,b0,a0,a1,a2];exact r _ (wN (z _ (by simp [cN,aQ,aX,bY,hbx,d7,b1,a3,a4,a5,a6,a7,a8,a9,b0,a0,a1,a2]))))
       ·refine aG rfl rfl rfl ?_;intro τ D hbx hl d8 g1 g2 K z;have d6:=g1 6 (by simp)
        have d7:=g1 7 (by simp)
        have b1:=g2 16 (by simp) (by simp)
        (simp [aQ,aX,d6,d7,d8,b1] at hbx;refine wC rfl fun K' r=>?_;simp [q,hbx,hl,bW,bV,look,d6,d7,d8,b1,a3,a4,a5,a6,a7,a8,a9,b0,a0,a1,a2];exact r _ (wN (z _ (by simp [cN,aQ,aX,bY,hbx,d6,d7,d8,b1,a3,a4,a5,a6,a7,a8,a9,b0,a0,a1,a2]))))
       ·refine aG rfl rfl rfl ?_;intro τ D hbx hl d9 g1 g2 K z;have d8:=g1 8 (by simp)
        have b1:=g2 16 (by simp) (by simp)
        (simp [aQ,aX,d8,d9,b1] at hbx;refine wC rfl fun K' r=>?_;simp [q,hbx,hl,bW,bV,look,d8,d9,b1,a3,a4,a5,a6,a7,a8,a9,b0,a0,a1,a2];exact r _ (wN (z _ (by simp [cN,aQ,aX,bY,hbx,d8,d9,b1,a3,a4,a5,a6,a7,a8,a9,b0,a0,a1,a2]))))
       ·refine aG rfl rfl rfl ?_;intro τ D hbx hl c2 g1 g2 K z;have d9:=g1 9 (by simp)
        have b1:=g2 16 (by simp) (by simp)
        (simp [aQ,aX,d9,c2,b1] at hbx;refine wC rfl fun K' r=>?_;simp [q,hbx,hl,bW,bV,look,d9,c2,b1,a3,a4,a5,a6,a7,a8,a9,b0,a0,a1,a2];exact r _ (wN (z _ (by simp [cN,aQ,aX,bY,hbx,d9,c2,b1,a3,a4,a5,a6,a7,a8,a9,b0,a0,a1,a2]))))
       ·refine aG rfl rfl rfl ?_;intro τ D hbx hl c3 g1 g2 K z;have b1:=g2 16 (by simp) (by simp)
        (simp [aQ,aX,c3,b1] at hbx;refine wC rfl fun K' r=>?_;simp [q,hbx,hl,bW,bV,look,c3,b1,a3,a4,a5,a6,a7,a8,a9,b0,a0,a1,a2];exact r _ (wN (z _ (by simp [cN,aQ,aX,bY,hbx,c3,b1,a3,a4,a5,a6,a7,a8,a9,b0,a0,a1,a2]))))
       ·refine aG rfl rfl rfl ?_;intro τ D hbx hl c4 g1 g2 K z;have c2:=g1 10 (by simp)
        have c3:=g1 11 (by simp)
        have b1:=g2 16 (by simp) (by simp)
        (simp [aQ,aX,c2,c3,c4,b1] at hbx;refine wC rfl fun K' r=>?_;simp [q,hbx,hl,bW,bV,look,c2,c3,c4,b1,a3,a4,a5,a6,a7,a8,a9,b0,a0,a1,a2];exact r _ (wN (z _ (by simp [cN,aQ,aX,bY,hbx,c2,c3,c4,b1,a3,a4,a5,a6,a7,a8,a9,b0,a0,a1,a2]))))
       ·refine aG rfl rfl rfl ?_;intro τ D hbx hl c5 g1 g2 K z;have c4:=g1 12 (by simp)
        have b1:=g2 16 (by simp) (by simp)
        (simp [aQ,aX,c4,c5,b1] at hbx;refine wC rfl fun K' r=>?_;simp [q,hbx,hl,bW,bV,look,c4,c5,b1,a3,a4,a5,a6,a7,a8,a9,b0,a0,a1,a2];exact r _ (wN (z _ (by simp [cN,aQ,aX,bY,hbx,c4,c5,b1,a3,a4,a5,a6,a7,a8,a9,b0,a0,a1,a2]))))
       ·refine aG rfl rfl rfl ?_;intro τ D hbx hl c6 g1 g2 K z;have c5:=g1 13 (by simp)
        have b1:=g2 16 (by simp) (by simp)
        (simp [aQ,aX,c5,c6,b1] at hbx;refine wC rfl fun K' r=>?_;simp [q,hbx,hl,bW,bV,look,c5,c6,b1,a3,a4,a5,a6,a7,a8,a9,b0,a0,a1,a2];exact r _ (wN (z _ (by simp [cN,aQ,aX,bY,hbx,c5,c6,b1,a3,a4,a5,a6,a7,a8,a9,b0,a0,a1,a2]))))
       ·refine aG rfl rfl rfl ?_;intro τ D hbx hl g7 g1 g2 K z;have c6:=g1 14 (by simp)
        have b1:=g2 16 (by simp) (by simp)
        (simp [aQ,aX,c6,g7,b1] at hbx;refine wC rfl fun K' r=>?_;simp [q,hbx,hl,bW,bV,look,c6,g7,b1,a3,a4,a5,a6,a7,a8,a9,b0,a0,a1,a2];exact r _ (wN (z _ (by simp [cN,aQ,aX,bY,hbx,c6,g7,b1,a3,a4,a5,a6,a7,a8,a9,b0,a0,a1,a2]))))
       intro D b1 g1 g2 gc;have d1:D 1=true:=g1 1 (by simp)
       have d2:D 2=true:=g1 2 (by simp)
       have d3:D 3=true:=g1 3 (by simp)
       have d4:D 4=true:=g1 4 (by simp)
       have d5:D 5=true:=g1 5 (by simp)
       have d6:D 6=true:=g1 6 (by simp)
       have d7:D 7=true:=g1 7 (by simp)
       have d8:D 8=true:=g1 8 (by simp)
       have d9:D 9=true:=g1 9 (by simp)
       have c2:D 10=true:=g1 10 (by simp)
       have c3:D 11=true:=g1 11 (by simp)
       have c4:D 12=true:=g1 12 (by simp)
       have c5:D 13=true:=g1 13 (by simp)
       have c6:D 14=true:=g1 14 (by simp)
       have g7:D 15=true:=g1 15 (by simp)
       cases d0:D 0<;>(intro K z;simp [nP,cN,bY,aQ,aX,d0,d1,d2,d3,d4,d5,d6,d7,d8,d9,c2,c3,c4,c5,c6,g7,b1] at z ⊢;refine wC rfl fun K' r=>?_;simp [q,a3,a4,a5,a6,a7,a8,a9,b0,a0,a1,a2];refine r _ (wN ?_);first | exact z | simpa [a3,a4,a5,a6,a7,a8,a9,b0,a0,a1,a2] using z)
      simp [nP,cN,aQ,aX]
      iterate 3 (refine aH q ?_ rfl (by simp [a3,a4,a5,a6,a7,a8,a9,b0,a0,a1,a2];rfl))
      apply wN;apply z;refine O.zH w ?_
      iterate 3 refine aH q ?_
      apply wN;cases b5;exact ⟨_,[],rfl,by simp [q]⟩
     refine O.exit ?_;have l3:=congrArg some (i2 _ (Option.some.inj b5).symm);cases l3;exact i1 _ () [] trivial (by simp [q])
    refine O.freezeB 39 3 fun K n=>?_;simp [q];apply n;refine O.zS w ?_
    iterate 4 refine aH q ?_
    obtain ⟨n2,i7,b2⟩:=bS b2;obtain ⟨c7,c8,c9,e0⟩:=gS i7
    iterate 3 (refine aH q ?_ rfl (by simp [c7,c8,c9,e0];rfl))
    obtain ⟨n3,i8,b2⟩:=bS b2;refine fP [((.ptr 5),.tmp 70),(.take,.tmp 76)] q aRs (Con.ok i8) ?_ rfl rfl (by simp [c7,c8,c9,e0];rfl)
    apply wN;obtain ⟨g8,b3,b2⟩:=bS b2;refine O.seqC [1,3,6] [1,39] (fun _:Unit=>⟨[(1,.ref (.box 1) 0 []),(3,.t (vi i9)),(6,.ref (.box 39) 0 [])],[(1,[.sl false 4 (List.map (GNode.enc false) p1.Nodes),.sl false 5 (List.map (GFn.enc false) p1.Fns)]),(39,[.sl false 4 (List.map (GNode.enc false) g8.p.Nodes),.sl false 5 (List.map (GFn.enc false) g8.p.Fns),vi g8.fn,.sl false 1 (List.map vs g8.there),vb g8.bad])]⟩) (fun _=>True) (fun _ _=>?_) fun n4 g9=>?_;rotate_left
    ·refine O.zS w ?_
     iterate 3 refine aH q ?_
     obtain ⟨n5,j0,b3⟩:=bS b3;obtain ⟨h0,h1,h2,h3⟩:=gS j0
     iterate 4 (refine aH q ?_ rfl (by simp [h0,h1,h2,h3];rfl))
     apply wN;refine O.cI b3 (fun l4 b3=>?_) fun l5 b3=>?_
     ·refine O.zH w ?_
      iterate 4 refine aH q ?_
      obtain ⟨n6,j1,b3⟩:=bS b3;obtain ⟨e1,e2,e3,e4⟩:=gS j1
      iterate 3 (refine aH q ?_ rfl (by simp [e1,e2,e3,e4];rfl))
      obtain ⟨n7,j2,b3⟩:=bS b3;refine fP [((.ptr 5),.tmp 85),(.take,.tmp 91)] q (Ent.ok (E:=E) (f:=68)) (Con.ok j2) ?_ rfl rfl (by simp [e1,e2,e3,e4];rfl)
      apply wN;cases b3;exact g9 _ () [] trivial (by simp [q])
     refine O.skip ?_;cases b3;exact g9 _ () [] trivial (by simp [q])
    refine O.zS w ?_
    iterate 4 refine aH q ?_
    apply wN;refine O.cI b2 (fun l6 b2=>?_) fun l7 b2=>?_
    ·refine O.zS w ?_;refine aH q ?_;apply wN;cases b2;try dsimp only at b6
     have l8:=congrArg some (e5 _ (Option.some.inj b6).symm);cases l8;try dsimp only at h
     cases h;refine O.ret ?_;simp [aO,iB,aPp]
    refine O.skip ?_;cases b2;exact h4 _ _ [] rfl (by simp [q])
   subst hv;obtain ⟨⟩:=v;try dsimp only at b6 ⊢
   refine O.zH w ?_
   iterate 3 refine aH q ?_
   apply wN;cases b6;exact ⟨_,[],rfl,by simp [q]⟩
  refine O.exit ?_;have l9:=congrArg some (e5 _ (Option.some.inj b6).symm);cases l9;exact j7 _ _ [] rfl (by simp [q])
 subst hv;obtain ⟨⟩:=v;try dsimp only at h ⊢
 refine O.zS w ?_;refine aH q ?_;apply wN;cases h;refine O.ret ?_;simp [aO,iB,aPp]
instance e47_:Ent E 47:=⟨ent47⟩
end Go.Proofs.T
