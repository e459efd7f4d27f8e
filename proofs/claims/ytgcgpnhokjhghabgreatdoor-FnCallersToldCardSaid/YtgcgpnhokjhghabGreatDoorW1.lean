import Derived.Test.YtgcgpnhokjhghabGreatDoorTA
set_option linter.unusedVariables false
set_option linter.unusedSimpArgs false
set_option linter.unusedVariables false
set_option linter.unusedSimpArgs false
set_option maxHeartbeats 8000000
set_option maxRecDepth 100000
namespace Go.Proofs.T
open Go.OM
section
attribute [local irreducible] Hg O St.wps aO iB Lv Ct Lp VL Option.bind aP sAt eK bN bO mkI eS fO bF aI ite Dr
instance e43_:Ent E 43:=aY Tryz.func43
instance c43_ (x1:Int) (a0:Int) (a1:Int) {r0:Bool}:Con E 43 (cF x1 a0 a1=some r0) [.val (vi x1),.val (vi a0),.val (vi a1)] [vb r0] []:=by
 refine eZ Tryz.func43 fun C q=>?_;unfold cF;repeat' first | refine And.intro ?_ ?_ | refine Prod.forall.2 ?_ | (intro _;try dsimp only) | refine eY ?_ | exact Z | refine cR 1 [6] [] (fun v=>[(6,.t (vb v))]) (fun _=>[]) ?_ | refine S ?_
instance e97_:Ent E 97:=aY Tryz.func97
instance c97_ (a0:Int) {r0:Int} {r1:Int}:Con E 97 (pU a0=some (r0,r1)) [.val (vi a0)] [vi r0,vi r1] []:=by
 refine eZ Tryz.func97 fun C q=>?_;unfold pU;repeat' first | refine And.intro ?_ ?_ | refine Prod.forall.2 ?_ | (intro _;try dsimp only) | refine eY ?_ | exact Z | refine cG 2021 [4,5] [] (fun v=>[(5,.t (vb v))]) (fun _=>[]) ?_ | refine cG 9013 [4,12] [] (fun v=>[(12,.t (vb v))]) (fun _=>[]) ?_ | refine S ?_
instance e95_:Ent E 95:=aY Tryz.func95
instance c95_ (b1:Int) {r0:Bool}:Con E 95 (oI b1=some r0) [.val (vk .u8 b1)] [vb r0] []:=by
 refine eZ Tryz.func95 fun C q=>?_;unfold oI;repeat' first | refine And.intro ?_ ?_ | refine Prod.forall.2 ?_ | (intro _;try dsimp only) | refine eY ?_ | exact Z | refine cR 1 [2] [] (fun v=>[(2,.t (vb v))]) (fun _=>[]) ?_ | refine S ?_
instance e29_:Ent E 29:=aY Tryz.func29
instance c29_ (f1:GFn) {r0:GFn}:Con E 29 (nH f1=some r0) [.val (GFn.enc false f1)] [GFn.enc true r0] []:=by
 refine eZ Tryz.func29 fun C q=>?_;unfold nH;repeat' first | refine And.intro ?_ ?_ | refine Prod.forall.2 ?_ | (intro _;try dsimp only) | refine eY ?_ | exact Z | refine S ?_
instance e84_:Ent E 84:=aY Tryz.func84
instance c84_ (a0:List GVar) (a1:ByteArray) {r0:Int}:Con E 84 (uE a0 a1=some r0) [.val (.sl false 3 (List.map GVar.enc a0)),.val (vs a1)] [vi r0] []:=by
 refine eZ Tryz.func84 fun C q=>?_;unfold uE;repeat' first | refine And.intro ?_ ?_ | refine Prod.forall.2 ?_ | (intro _;try dsimp only) | refine eY ?_ | exact Z | refine bG 2018 [1,7,8,9] [] (fun v=>[(9,.t (vi v))]) (fun _=>[]) (by unfold oK;rfl) ?_ | refine eW 1022 [] [] (fun _=>[]) (fun _=>[]) ?_ | refine S ?_
instance e88_:Ent E 88:=aY Tryz.func88
instance c88_ (a0:List ByteArray) (s2:ByteArray) {r0:Bool}:Con E 88 (pF a0 s2=some r0) [.val (.sl false 1 (List.map vs a0)),.val (vs s2)] [vb r0] []:=by
 refine eZ Tryz.func88 fun C q=>?_;unfold pF;repeat' first | refine And.intro ?_ ?_ | refine Prod.forall.2 ?_ | (intro _;try dsimp only) | refine eY ?_ | exact Z | refine bG 2016 [0,1,5] [] (fun v=>[(5,.t (vi v))]) (fun _=>[]) (by unfold mI;rfl) ?_ | refine eW 1020 [] [] (fun _=>[]) (fun _=>[]) ?_ | refine S ?_
instance e22_:Ent E 22:=aY Tryz.func22
instance c22_ (p1:GProgram) (a0:ByteArray) {r0:Int}:Con E 22 (nB p1 a0=some r0) [.val (GProgram.enc false p1),.val (vs a0)] [vi r0] []:=by
 refine eZ Tryz.func22 fun C q=>?_;unfold nB;repeat' first | refine And.intro ?_ ?_ | refine Prod.forall.2 ?_ | (intro _;try dsimp only) | refine eY ?_ | exact Z | refine cR 5 [1,5,9,10,11,23] [] (fun v=>[(23,.t (vb v))]) (fun _=>[]) ?_ | refine bG 3016 [1,5,9,10,11] [] (fun v=>[(5,.t (vi v.1)),(11,.t (vi v.2))]) (fun _=>[]) (by unfold mB;rfl) ?_ | refine cG 2020 [5] [] (fun v=>[(5,.t (vi v))]) (fun _=>[]) ?_ | refine S ?_
end
theorem res147:Tryz.f147.results.toList=[]:=rfl
theorem aOd:dR E.P 147:=eO Tryz.func147 (by simp [Tryz.f147]) rfl
theorem mE (hb ho:Nat) (m1:Gl05Made) (b2:ByteArray) (m3:Gl01Cur) {q0:Gl05Made} {q2:Gl01Cur} (h:dO m1 b2 m3=some (q0,q2)):OkH E 147 2 [adr hb ho] [.ptr [.v (adr hb ho),.sl false 1 (List.map vs m1.ints),.sl false 1 (List.map vs m1.boxes),vi m1.n,vs m1.text,vb m1.wild],.val (vs b2),.ptr [.sl false 1 (List.map (vk .u8) m3.b),vi m3.i,vi m3.h]] [] [[.v (adr hb ho),.sl false 1 (List.map vs q0.ints),.sl false 1 (List.map vs q0.boxes),vi q0.n,vs q0.text,vb q0.wild],[.sl false 1 (List.map (vk .u8) q2.b),vi q2.i,vi q2.h]]:=by
 refine jM (fn:=Tryz.f147) (vis:=[.ptr [.v (adr hb ho),.sl false 1 (List.map vs m1.ints),.sl false 1 (List.map vs m1.boxes),vi m1.n,vs m1.text,vb m1.wild],.val (vs b2)]) [0,1] [45,47] Tryz.func147 rfl (by simp [Tryz.f147]) rfl rfl rfl rfl fun C hN hP hPK hPKi=>?_
 have y:∀ l,yK [] l=true→oX C.pin l=true:=pO (by rw [hP];rfl)
 have q:C.N=45:=hN;clear hN;unfold dO at h;refine O.zT y ?_
 iterate 2 refine V_q q ?_
 apply aT;obtain ⟨b7,c5,h⟩:=bS h;refine O.seqC [0,4] [45,47] (fun _:Unit=>⟨[(0,.ref (.box 45) 0 []),(4,.t (.sl true 1 (List.map vs b7)))],[(45,[.v (adr hb ho),.sl false 1 (List.map vs m1.ints),.sl false 1 (List.map vs m1.boxes),vi m1.n,vs m1.text,vb m1.wild]),(47,[.sl false 1 (List.map (vk .u8) m3.b),vi m3.i,vi m3.h])]⟩) (fun _=>True) (fun _ _=>?_) fun K5 c6=>?_;rotate_left
 ·refine O.zT y ?_;refine V_q q ?_;apply aT;refine O.block ?_;refine O.loopO [] [0,1,4,5] [45,47] (fun v:(List ByteArray) × Int=>⟨[(0,.ref (.box 45) 0 []),(1,.t (vs b2)),(4,.t (.sl true 1 (List.map vs v.1))),(5,.t (vi v.2))],[(45,[.v (adr hb ho),.sl false 1 (List.map vs m1.ints),.sl false 1 (List.map vs m1.boxes),vi m1.n,vs m1.text,vb m1.wild]),(47,[.sl false 1 (List.map (vk .u8) m3.b),vi m3.i,vi m3.h])]⟩) (iO m1 b2) _ ([],(0:Int)) c5 (by simp [q]) ?_
  intro g d5 h9 c1;obtain ⟨b8,i8⟩:=g;simp only [iO] at h9;try dsimp only
  refine O.seq ?_;refine O.zT y ?_
  iterate 7 refine V_q q ?_
  apply aT;refine O.cI h9 (fun c7 h9=>?_) fun c8 h9=>?_
  ·refine O.skip ?_;refine O.seq ?_;refine O.block ?_;obtain ⟨c9,a5,h9⟩:=bS h9;refine O.seqRCV rfl (y _ rfl) [0,1,4,5,30] [45,47] (fun _:Unit=>⟨[(0,.ref (.box 45) 0 []),(1,.t (vs b2)),(4,.t (.sl true 1 (List.map vs b8))),(5,.t (vi i8)),(30,.t (vb c9))],[(45,[.v (adr hb ho),.sl false 1 (List.map vs m1.ints),.sl false 1 (List.map vs m1.boxes),vi m1.n,vs m1.text,vb m1.wild]),(47,[.sl false 1 (List.map (vk .u8) m3.b),vi m3.i,vi m3.h])]⟩) (fun _=>True) (fun _ _=>?_) fun d6 b9=>?_;rotate_left
   ·refine V_q q ?_
    iterate 4 refine V_q q ?_
    obtain ⟨d7,c2,a5⟩:=bS a5;obtain ⟨a0,a1,a2,a3⟩:=gS c2
    iterate 5 (refine V_q q ?_ rfl (by simp [a0,a1,a2,a3];rfl))
    rcases mD a5 with ⟨a6,a5⟩ | ⟨b6,a5⟩
    ·have a4:=a6;try simp at a4
     refine nQ fun KW hKW=>?_;refine wO fun K u=>?_;simp [q,a0,a1,a2,a3,a6,a4];apply u;refine wN (hKW _ ?_);clear hKW;refine nQ fun KW hKW=>?_;refine wO fun K u=>?_;simp [q,a0,a1,a2,a3,a6,a4];apply u;refine wN (hKW _ ?_);clear hKW;refine nQ fun KW hKW=>?_;refine wO fun K u=>?_;simp [q,a0,a1,a2,a3,a6,a4];apply u;refine wN (hKW _ ?_);clear hKW;refine nQ fun KW hKW=>?_;refine wO fun K u=>?_;simp [q,a0,a1,a2,a3,a6,a4];apply u;refine wN (hKW _ ?_);clear hKW;refine V_q q ?_ rfl (by simp [a0,a1,a2,a3,a6,a4];rfl)
     refine aT ?_;cases a5;exact b9 _ () [] trivial (by simp [q,a0,a1,a2,a3,a6,a4])
    have a7:=b6;try simp at a7
    iterate 5 (refine V_q q ?_ rfl (by simp [a0,a1,a2,a3,b6,a7];rfl))
    refine aT ?_;cases a5;exact b9 _ () [] trivial (by simp [q,a0,a1,a2,a3,b6,a7])
   refine O.cI h9 (fun d0 h9=>?_) fun d1 h9=>?_
   ·refine O.zU y ?_
    iterate 6 refine V_q q ?_
    obtain ⟨d2,c3,h9⟩:=bS h9;obtain ⟨a8,a9,b0,b1⟩:=gS c3
    iterate 3 (refine V_q q ?_ rfl (by simp [a8,a9,b0,b1];rfl))
    obtain ⟨d3,c4,h9⟩:=bS h9;obtain ⟨b3,b4,c0⟩:=aS c4;have b5:List.map vs b8 ++ List.map vs [d2]=List.map vs d3:=kG (f:=vs) c0;simp [eSl] at b3 b4 b5
    iterate 2 (refine V_q q ?_ rfl (by simp [a8,a9,b0,b1,b3,b4,b5];rfl))
    apply aT;refine O.zU y ?_
    iterate 3 refine V_q q ?_
    apply aT;cases h9;exact ⟨_,[],rfl,by simp [q]⟩
   refine O.skip ?_;refine O.zU y ?_
   iterate 3 refine V_q q ?_
   apply aT;cases h9;exact ⟨_,[],rfl,by simp [q]⟩
  refine O.exit ?_;have d4:=congrArg some (c1 _ (Option.some.inj h9).symm);cases d4;exact c6 _ () [] trivial (by simp [q])
 refine O.zU y ?_
 iterate 5 refine V_q q ?_
 refine sF 45 2 fun K u=>?_;simp [q];apply u;apply aT;cases h;simp [aO,iB,res147]
end Go.Proofs.T
