import Derived.Test.YtgcgpnhokjhghabGreatDoorW1
import Derived.Test.YtgcgpnhokjhghabGreatDoorW6
set_option linter.unusedVariables false
set_option linter.unusedSimpArgs false
set_option linter.unusedVariables false
set_option linter.unusedSimpArgs false
set_option maxHeartbeats 8000000
set_option maxRecDepth 100000
namespace Go.Proofs.T
open Go.OM
theorem res67:Tryz.f67.results.toList=[]:=rfl
theorem aRs:dR E.P 67:=eO Tryz.func67 (by simp [Tryz.f67]) rfl
theorem aNl:Tryz.f87.results.toList=[]:=rfl
theorem ent87:dR E.P 87:=eO Tryz.func87 (by simp [Tryz.f87]) rfl
theorem uS (a3:Gl07Seen→Int→Option (Gl07Seen)) (a5:∀ (a0:Gl07Seen) (a1:Int) {q0:Gl07Seen},a3 a0 a1=some q0→Ok E 67 [.ptr [.sl false 4 (List.map (GNode.enc false) a0.p.Nodes),.sl false 5 (List.map (GFn.enc false) a0.p.Fns),vi a0.fn,.sl false 1 (List.map vs a0.there),vb a0.bad],.val (vi a1)] [] [[.sl false 4 (List.map (GNode.enc false) q0.p.Nodes),.sl false 5 (List.map (GFn.enc false) q0.p.Fns),vi q0.fn,.sl false 1 (List.map vs q0.there),vb q0.bad]]) (a2:Gl07Seen→Int→Option (Gl07Seen)) (a4:∀ (a0:Gl07Seen) (a1:Int) {q0:Gl07Seen},a2 a0 a1=some q0→Ok E 87 [.ptr [.sl false 4 (List.map (GNode.enc false) a0.p.Nodes),.sl false 5 (List.map (GFn.enc false) a0.p.Fns),vi a0.fn,.sl false 1 (List.map vs a0.there),vb a0.bad],.val (vi a1)] [] [[.sl false 4 (List.map (GNode.enc false) q0.p.Nodes),.sl false 5 (List.map (GFn.enc false) q0.p.Fns),vi q0.fn,.sl false 1 (List.map vs q0.there),vb q0.bad]]) (s1:Gl07Seen) (k2:Int) {q0:Gl07Seen} (h:fJ a3 a2 s1 k2=some q0):Ok E 67 [.ptr [.sl false 4 (List.map (GNode.enc false) s1.p.Nodes),.sl false 5 (List.map (GFn.enc false) s1.p.Fns),vi s1.fn,.sl false 1 (List.map vs s1.there),vb s1.bad],.val (vi k2)] [] [[.sl false 4 (List.map (GNode.enc false) q0.p.Nodes),.sl false 5 (List.map (GFn.enc false) q0.p.Fns),vi q0.fn,.sl false 1 (List.map vs q0.there),vb q0.bad]]:=by
 refine oB Tryz.func67 rfl (by simp [Tryz.f67]) fun C (q:C.N=33) hP=>?_
 have y:=zW hP;unfold fJ at h;refine O.zS y ?_;refine aH q ?_;apply wN;refine O.block ?_;refine O.loopO [] [0,1,4] [33] (fun v:Int × Gl07Seen=>⟨[(0,.ref (.box 33) 0 []),(1,.t (vi k2)),(4,.t (vi v.1))],[(33,[.sl false 4 (List.map (GNode.enc false) v.2.p.Nodes),.sl false 5 (List.map (GFn.enc false) v.2.p.Fns),vi v.2.fn,.sl false 1 (List.map vs v.2.there),vb v.2.bad])]⟩) (dK a2 k2) _ ((0:Int),s1) h (by simp [q]) ?_
 intro g s7 h5 c1;obtain ⟨i3,v4⟩:=g;simp only [dK] at h5;try dsimp only
 refine O.seq ?_;refine O.zS y ?_
 iterate 7 refine aH q ?_
 obtain ⟨e8,c2,h5⟩:=bS h5;obtain ⟨b4,b5,b6,b7⟩:=gS c2
 iterate 5 (refine aH q ?_ rfl (by simp [b4,b5,b6,b7];rfl))
 apply wN;refine O.cI h5 (fun c5 h5=>?_) fun c3 h5=>?_
 ·refine O.skip ?_;refine O.seq ?_;refine O.block ?_;refine O.zH y ?_
  iterate 7 refine aH q ?_
  obtain ⟨c6,b8,h5⟩:=bS h5;obtain ⟨a6,a7,a8,a9⟩:=gS b8
  iterate 4 (refine aH q ?_ rfl (by simp [a6,a7,a8,a9];rfl))
  obtain ⟨c7,b9,h5⟩:=bS h5;obtain ⟨b0,b1,b2,b3⟩:=gS b9
  iterate 2 (refine aH q ?_ rfl (by simp [a6,a7,a8,a9,b0,b1,b2,b3];rfl))
  obtain ⟨c8,c0,h5⟩:=bS h5;refine fP [((.ptr 5),.tmp 19),(.take,.tmp 31)] q ent87 (a4 _ _ c0) ?_ rfl rfl (by simp [a6,a7,a8,a9,b0,b1,b2,b3];rfl)
  apply wN;refine O.zH y ?_
  iterate 3 refine aH q ?_
  apply wN;cases h5;exact ⟨_,[],rfl,by simp [q]⟩
 refine O.exit ?_;have c4:=congrArg some (c1 _ (Option.some.inj h5).symm);cases c4;simp [aO,iB,res67]
theorem vJ (a2:Gl07Seen→Int→Option (Gl07Seen)) (a9:∀ (a0:Gl07Seen) (a1:Int) {q0:Gl07Seen},a2 a0 a1=some q0→Ok E 67 [.ptr [.sl false 4 (List.map (GNode.enc false) a0.p.Nodes),.sl false 5 (List.map (GFn.enc false) a0.p.Fns),vi a0.fn,.sl false 1 (List.map vs a0.there),vb a0.bad],.val (vi a1)] [] [[.sl false 4 (List.map (GNode.enc false) q0.p.Nodes),.sl false 5 (List.map (GFn.enc false) q0.p.Fns),vi q0.fn,.sl false 1 (List.map vs q0.there),vb q0.bad]]) (a6:Gl07Seen→Int→Option (Gl07Seen)) (b2:∀ (a0:Gl07Seen) (a1:Int) {q0:Gl07Seen},a6 a0 a1=some q0→Ok E 87 [.ptr [.sl false 4 (List.map (GNode.enc false) a0.p.Nodes),.sl false 5 (List.map (GFn.enc false) a0.p.Fns),vi a0.fn,.sl false 1 (List.map vs a0.there),vb a0.bad],.val (vi a1)] [] [[.sl false 4 (List.map (GNode.enc false) q0.p.Nodes),.sl false 5 (List.map (GFn.enc false) q0.p.Fns),vi q0.fn,.sl false 1 (List.map vs q0.there),vb q0.bad]]) (s1:Gl07Seen) (k2:Int) {q0:Gl07Seen} (h:fY a2 a6 s1 k2=some q0):Ok E 87 [.ptr [.sl false 4 (List.map (GNode.enc false) s1.p.Nodes),.sl false 5 (List.map (GFn.enc false) s1.p.Fns),vi s1.fn,.sl false 1 (List.map vs s1.there),vb s1.bad],.val (vi k2)] [] [[.sl false 4 (List.map (GNode.enc false) q0.p.Nodes),.sl false 5 (List.map (GFn.enc false) q0.p.Fns),vi q0.fn,.sl false 1 (List.map vs q0.there),vb q0.bad]]:=by
 refine oB Tryz.func87 rfl (by simp [Tryz.f87]) fun C (q:C.N=83) hP=>?_
 have y:=zW hP;unfold fY at h;refine O.zS y ?_
 iterate 6 refine aH q ?_
 obtain ⟨e3,g9,h⟩:=bS h;obtain ⟨e5,e6,e7,e8⟩:=gS g9
 iterate 4 (refine aH q ?_ rfl (by simp [e5,e6,e7,e8];rfl))
 apply wN;refine O.zS y ?_
 iterate 3 refine aH q ?_
 obtain ⟨e4,h0,h⟩:=bS h;obtain ⟨c6,c7,c2,c3⟩:=gS h0;have c4:0 < e3.Kids.length:=by omega
 have c8:e3.Kids[0]? = some e4:=c2;have c9:e3.Kids[0]=e4:=c3 c4
 iterate 2 (refine aH q ?_ rfl (by simp [c6,c7,c2,c3,c4,c8,c9];rfl))
 obtain ⟨q5,h1,h⟩:=bS h;refine fP [((.ptr 5),.tmp 15),(.take,.tmp 19)] q (Ent.ok (E:=E) (f:=68)) (Con.ok h1) ?_ rfl rfl (by simp [c6,c7,c2,c3,c4,c8,c9];rfl)
 iterate 10 first|refine aH q ?_|apply wN|refine O.zS y ?_|refine O.block ?_
 refine O.cI h (fun i7 h=>?_) fun i8 h=>?_
 ·refine O.postB 83 3 ?_;obtain ⟨l9,h2,h⟩:=bS h;obtain ⟨a7,a8,h3⟩:=aS h2;simp [eSl] at a7 a8;obtain ⟨g7,e9,h⟩:=bS h;obtain ⟨a3,a4,e0⟩:=aS e9;have a5:List.map vs q5.there ++ List.map vs [e3.Name]=List.map vs g7:=kG (f:=vs) e0;simp [eSl] at a3 a4 a5;refine O.drawX2 rfl (y _ rfl) [25,26,27,28,29,30,31,32,33,34,35] [[(25,.ref (.box 83) 0 [])],[(26,.t (.sl true 1 []))],[(27,.ref (.box 83) 0 [])],[(28,.ref (.box 83) 0 [])],[(29,.ref (.box 83) 3 [])],[(30,.t (.sl false 1 (List.map vs q5.there)))],[(31,.t (.sl true 1 (List.map vs q5.there))),(26,.u)],[(32,.ref (.box 4) 2 [])],[(33,.t (vs e3.Name))],[(34,.t (.sl true 1 (List.map vs [e3.Name])))],[(35,.t (.sl true 1 (List.map vs g7))),(31,.u),(34,.u)]] [[],[],[],[],[],[],[],[],[],[],[]] [[],[],[],[2],[2,3],[2,3,4],rg 1 5,[],[7],[7,8],rg 1 9,rg 0 11,rg 0 12,rg 0 13] rfl (by simp) rfl rfl rfl ?_ fun K w=>?_
  ·refine ⟨?_,?_,?_,?_,?_,?_,?_,?_,?_,?_,?_,trivial⟩
   ·refine aG rfl rfl rfl ?_;intro τ D hbx hl d0 g1 g2 K w
    (simp [aQ,aX,d0] at hbx;refine wC rfl fun K' z=>?_;simp [q,hbx,hl,bW,bV,look,d0,a7,a8,a3,a4,a5];exact z _ (wN (w _ (by simp [cN,aQ,aX,bY,hbx,d0,a7,a8,a3,a4,a5]))))
   ·refine aG rfl rfl rfl ?_;intro τ D hbx hl d1 g1 g2 K w;have d6:=g2 6 (by simp) (by simp)
    (simp [aQ,aX,d1,d6] at hbx;refine wC rfl fun K' z=>?_;simp [q,hbx,hl,bW,bV,look,d1,d6,a7,a8,a3,a4,a5];exact z _ (wN (w _ (by simp [cN,aQ,aX,bY,hbx,d1,d6,a7,a8,a3,a4,a5]))))
   ·refine aG rfl rfl rfl ?_;intro τ D hbx hl d2 g1 g2 K w
    (simp [aQ,aX,d2] at hbx;refine wC rfl fun K' z=>?_;simp [q,hbx,hl,bW,bV,look,d2,a7,a8,a3,a4,a5];exact z _ (wN (w _ (by simp [cN,aQ,aX,bY,hbx,d2,a7,a8,a3,a4,a5]))))
   ·refine aG rfl rfl rfl ?_;intro τ D hbx hl d3 g1 g2 K w;have d2:=g1 2 (by simp)
    (simp [aQ,aX,d2,d3] at hbx;refine wC rfl fun K' z=>?_;simp [q,hbx,hl,bW,bV,look,d2,d3,a7,a8,a3,a4,a5];exact z _ (wN (w _ (by simp [cN,aQ,aX,bY,hbx,d2,d3,a7,a8,a3,a4,a5]))))
   ·refine aG rfl rfl rfl ?_;intro τ D hbx hl d4 g1 g2 K w;have d3:=g1 3 (by simp)
    (simp [aQ,aX,d3,d4] at hbx;refine wC rfl fun K' z=>?_;simp [q,hbx,hl,bW,bV,look,d3,d4,a7,a8,a3,a4,a5];exact z _ (wN (w _ (by simp [cN,aQ,aX,bY,hbx,d3,d4,a7,a8,a3,a4,a5]))))
   ·refine aG rfl rfl rfl ?_;intro τ D hbx hl d5 g1 g2 K w;have d4:=g1 4 (by simp)
    (simp [aQ,aX,d4,d5] at hbx;refine wC rfl fun K' z=>?_;simp [q,hbx,hl,bW,bV,look,d4,d5,a7,a8,a3,a4,a5];exact z _ (wN (w _ (by simp [cN,aQ,aX,bY,hbx,d4,d5,a7,a8,a3,a4,a5]))))
   ·intro D d6 g1 g2 gc;have d1:D 1=true:=g1 1 (by simp)
    have d2:D 2=true:=g1 2 (by simp)
    have d3:D 3=true:=g1 3 (by simp)
    have d4:D 4=true:=g1 4 (by simp)
    have d5:D 5=true:=g1 5 (by simp)
    have c5:D 10=false:=g2 10 (by simp) (by simp)
    have p8_7:D 8=true→D 7=true:=fun h=>gc 8 7 h (by simp) (by simp)
    have p9_8:D 9=true→D 8=true:=fun h=>gc 9 8 h (by simp) (by simp)
    cases d0:D 0<;>cases d7:D 7<;>cases d8:D 8<;>(simp [d8,d7] at p8_7)<;>cases d9:D 9<;>(simp [d9,d8] at p9_8)<;>(intro K w;simp [nP,cN,bY,aQ,aX,d0,d1,d2,d3,d4,d5,d6,d7,d8,d9,c5] at w ⊢;refine wC rfl fun K' z=>?_;simp [q,a7,a8,a3,a4,a5];refine z _ (wN ?_);first | exact w | simpa [a7,a8,a3,a4,a5] using w)
   ·refine aG rfl rfl rfl ?_;intro τ D hbx hl d7 g1 g2 K w
    (simp [aQ,aX,d7] at hbx;refine wC rfl fun K' z=>?_;simp [q,hbx,hl,bW,bV,look,d7,a7,a8,a3,a4,a5];exact z _ (wN (w _ (by simp [cN,aQ,aX,bY,hbx,d7,a7,a8,a3,a4,a5]))))
   ·refine aG rfl rfl rfl ?_;intro τ D hbx hl d8 g1 g2 K w;have d7:=g1 7 (by simp)
    (simp [aQ,aX,d7,d8] at hbx;refine wC rfl fun K' z=>?_;simp [q,hbx,hl,bW,bV,look,d7,d8,a7,a8,a3,a4,a5];exact z _ (wN (w _ (by simp [cN,aQ,aX,bY,hbx,d7,d8,a7,a8,a3,a4,a5]))))
   ·refine aG rfl rfl rfl ?_;intro τ D hbx hl d9 g1 g2 K w;have d8:=g1 8 (by simp)
    have c5:=g2 10 (by simp) (by simp)
    (simp [aQ,aX,d8,d9,c5] at hbx;refine wC rfl fun K' z=>?_;simp [q,hbx,hl,bW,bV,look,d8,d9,c5,a7,a8,a3,a4,a5];exact z _ (wN (w _ (by simp [cN,aQ,aX,bY,hbx,d8,d9,c5,a7,a8,a3,a4,a5]))))
   intro D c5 g1 g2 gc;have d1:D 1=true:=g1 1 (by simp)
   have d2:D 2=true:=g1 2 (by simp)
   have d3:D 3=true:=g1 3 (by simp)
   have d4:D 4=true:=g1 4 (by simp)
   have d5:D 5=true:=g1 5 (by simp)
   have d6:D 6=true:=g1 6 (by simp)
   have d7:D 7=true:=g1 7 (by simp)
   have d8:D 8=true:=g1 8 (by simp)
   have d9:D 9=true:=g1 9 (by simp)
   cases d0:D 0<;>(intro K w;simp [nP,cN,bY,aQ,aX,d0,d1,d2,d3,d4,d5,d6,d7,d8,d9,c5] at w ⊢;refine wC rfl fun K' z=>?_;simp [q,a7,a8,a3,a4,a5];refine z _ (wN ?_);first | exact w | simpa [a7,a8,a3,a4,a5] using w)
  simp [nP,cN,aQ,aX]
  iterate 3 (refine aH q ?_ rfl (by simp [a7,a8,a3,a4,a5];rfl))
  apply wN;apply w;intro K2 g8;simp [q];refine g8 _ ?_;clear g8;cases h;simp [aO,iB,aNl]
 obtain ⟨h4,b5,h⟩:=bS h;refine O.seqC [0,4,22,38] [4,83] (fun _:Unit=>⟨[(0,.ref (.box 83) 0 []),(4,.ref (.box 4) 0 []),(22,.t (vi e3.Kind)),(38,.t (vb h4))],[(4,[vi e3.Kind,vi e3.Num,vs e3.Name,.sl false 1 (List.map vi e3.Kids)]),(83,[.sl false 4 (List.map (GNode.enc false) q5.p.Nodes),.sl false 5 (List.map (GFn.enc false) q5.p.Fns),vi q5.fn,.sl false 1 (List.map vs q5.there),vb q5.bad])]⟩) (fun _=>True) (fun _ _=>?_) fun i9 e1=>?_;rotate_left
 ·refine O.zS y ?_
  iterate 2 refine aH q ?_
  apply wN;refine O.cI b5 (fun h5 b5=>?_) fun h6 b5=>?_
  ·refine O.skip ?_;cases b5;exact e1 _ () [] trivial (by simp [q])
  refine O.zH y ?_
  iterate 2 refine aH q ?_
  apply wN;cases b5;exact e1 _ () [] trivial (by simp [q])
 refine O.cI h (fun h7 h=>?_) fun h8 h=>?_
 ·rcases mD h with ⟨b3,h⟩ | ⟨b4,h⟩
  ·have b0:=b3;try simp at b0
   refine O.dT rfl (y _ rfl) (en 41 [rf 83 0,rf 83 0,rf 83 0,rf 83 4,.t (vb q5.bad),.t (vb q5.bad),.tup [],.tup [],.tup [],.tup [],.tup [],.tup [],.tup [],.tup [],.t (vb true)]) [[],[],[1],[1,2],[1,2,3],rg 1 4,rg 1 5,rg 1 6,rg 1 7,rg 1 8,rg 1 5,rg 1 5++[10],rg 1 11,rg 1 12,rg 1 13,rg 0 15,rg 0 16,rg 0 17] (by simp) (by simp) (by simp [look]) rfl rfl rfl ?_ fun K w=>?_
   ·refine ⟨?_,?_,?_,?_,?_,?_,?_,?_,?_,?_,?_,?_,?_,?_,?_,trivial⟩;all_goals (intro τ hbx hb hd hf K w;try simp [bQ] at hd;simp [bQ] at hf;first | (refine wC rfl fun K' z=>?_;simp [q,hbx,hb,hd,hf,b3,b0];exact z _ (wN (w _ (by simp [bQ,hbx,b3,b0])))) | (refine wO fun K' z=>?_;simp [q,hbx,hb,hd,hf,b3,b0];exact z _ (wN (w _ (by simp [bQ,hbx,b3,b0])))))
   iterate 3 (refine aH q ?_ rfl (by simp [b3,b0];rfl))
   apply wN;apply w;cases h;simp [aO,iB,aNl]
  have b1:=b4;try simp at b1
  obtain ⟨g0,g3,h⟩:=bS h;refine O.dT rfl (y _ rfl) (en 41 [rf 83 0,rf 83 0,rf 83 0,rf 83 4,.t (vb q5.bad),.t (vb q5.bad),rf 83 0,rf 83 0,rf 83 3,.t (.sl false 1 (List.map vs q5.there)),rf 4 2,.t (vs e3.Name),.t (vb g0),.t (vb (!g0)),.t (vb (!g0))]) [[],[],[1],[1,2],[1,2,3],rg 1 4,rg 1 5,rg 1 6,rg 1 7,rg 1 8,rg 1 5,rg 1 5++[10],rg 1 11,rg 1 12,rg 1 13,rg 0 15,rg 0 16,rg 0 17] (by simp) (by simp) (by simp [look]) rfl rfl rfl ?_ fun K w=>?_
  ·refine ⟨?_,?_,?_,?_,?_,?_,?_,?_,?_,?_,?_,?_,?_,?_,?_,trivial⟩;all_goals (intro τ hbx hb hd hf K w;try simp [bQ] at hd;simp [bQ] at hf;first | (refine wC rfl fun K' z=>?_;simp [q,hbx,hb,hd,hf,b4,b1];exact z _ (wN (w _ (by simp [bQ,hbx,b4,b1])))) | (refine wL [(.take,.tmp 50),(.take,.tmp 52)] rfl rfl (Ent.ok (E:=E) (f:=88)) (Con.ok g3) fun K' z=>?_;simp [q,hbx,hb,hd,hf,b4,b1];exact z _ (wN (w _ (by simp [bQ,hbx,b4,b1])))))
  iterate 3 (refine aH q ?_ rfl (by simp [b4,b1];rfl))
  apply wN;apply w;cases h;simp [aO,iB,aNl]
 obtain ⟨h9,b6,h⟩:=bS h;refine O.seqC [0,4,58] [4,83] (fun _:Unit=>⟨[(0,.ref (.box 83) 0 []),(4,.ref (.box 4) 0 []),(58,.t (vb h9))],[(4,[vi e3.Kind,vi e3.Num,vs e3.Name,.sl false 1 (List.map vi e3.Kids)]),(83,[.sl false 4 (List.map (GNode.enc false) q5.p.Nodes),.sl false 5 (List.map (GFn.enc false) q5.p.Fns),vi q5.fn,.sl false 1 (List.map vs q5.there),vb q5.bad])]⟩) (fun _=>True) (fun _ _=>?_) fun j0 e2=>?_;rotate_left
 ·refine O.zS y ?_
  iterate 2 refine aH q ?_
  apply wN;refine O.cI b6 (fun i0 b6=>?_) fun i1 b6=>?_
  ·refine O.skip ?_;cases b6;exact e2 _ () [] trivial (by simp [q])
  refine O.zH y ?_
  iterate 2 refine aH q ?_
  apply wN;cases b6;exact e2 _ () [] trivial (by simp [q])
 refine O.cI h (fun i2 h=>?_) fun i3 h=>?_
 ·refine O.zS y ?_;refine aH q ?_;apply wN;refine O.block ?_;refine O.loopO [] [0,4,5] [4,83] (fun v:Int × Gl07Seen=>⟨[(0,.ref (.box 83) 0 []),(4,.ref (.box 4) 0 []),(5,.t (vi v.1))],[(4,[vi e3.Kind,vi e3.Num,vs e3.Name,.sl false 1 (List.map vi e3.Kids)]),(83,[.sl false 4 (List.map (GNode.enc false) v.2.p.Nodes),.sl false 5 (List.map (GFn.enc false) v.2.p.Fns),vi v.2.fn,.sl false 1 (List.map vs v.2.there),vb v.2.bad])]⟩) (eD a2 e3) _ ((1:Int),q5) h (by simp [q]) ?_
  intro g j1 b7 g4;obtain ⟨j2,j3⟩:=g;simp only [eD] at b7;try dsimp only
  refine O.seq ?_;refine O.zS y ?_
  iterate 5 refine aH q ?_
  apply wN;refine O.cI b7 (fun i4 b7=>?_) fun i5 b7=>?_
  ·refine O.skip ?_;refine O.seq ?_
   iterate 13 first|refine aH q ?_|apply wN|refine O.zS y ?_|refine O.block ?_
   obtain ⟨j4,g5,b7⟩:=bS b7;obtain ⟨b8,b9,c0,c1⟩:=gS g5
   iterate 2 (refine aH q ?_ rfl (by simp [b8,b9,c0,c1];rfl))
   obtain ⟨j5,g6,b7⟩:=bS b7;refine fP [((.ptr 5),.tmp 72),(.take,.tmp 77)] q aRs (a9 _ _ g6) ?_ rfl rfl (by simp [b8,b9,c0,c1];rfl)
   apply wN;refine O.zH y ?_
   iterate 5 refine aH q ?_
   apply wN;refine O.zH y ?_
   iterate 3 refine aH q ?_
   apply wN;cases b7;exact ⟨_,[],rfl,by simp [q]⟩
  refine O.exit ?_;have i6:=congrArg some (g4 _ (Option.some.inj b7).symm);cases i6;simp [aO,iB,aNl]
 refine O.skip ?_;cases h;simp [aO,iB,aNl]
theorem cJ:∀ n:Nat,(∀ (a0:Gl07Seen) (a1:Int) {q0:Gl07Seen},(aM n).1 a0 a1=some q0→Ok E 67 [.ptr [.sl false 4 (List.map (GNode.enc false) a0.p.Nodes),.sl false 5 (List.map (GFn.enc false) a0.p.Fns),vi a0.fn,.sl false 1 (List.map vs a0.there),vb a0.bad],.val (vi a1)] [] [[.sl false 4 (List.map (GNode.enc false) q0.p.Nodes),.sl false 5 (List.map (GFn.enc false) q0.p.Fns),vi q0.fn,.sl false 1 (List.map vs q0.there),vb q0.bad]])∧(∀ (a0:Gl07Seen) (a1:Int) {q0:Gl07Seen},(aM n).2 a0 a1=some q0→Ok E 87 [.ptr [.sl false 4 (List.map (GNode.enc false) a0.p.Nodes),.sl false 5 (List.map (GFn.enc false) a0.p.Fns),vi a0.fn,.sl false 1 (List.map vs a0.there),vb a0.bad],.val (vi a1)] [] [[.sl false 4 (List.map (GNode.enc false) q0.p.Nodes),.sl false 5 (List.map (GFn.enc false) q0.p.Fns),vi q0.fn,.sl false 1 (List.map vs q0.there),vb q0.bad]])
 | 0=>⟨(by intros;rename_i h;cases h),(by intros;rename_i h;cases h)⟩
 | n + 1=>⟨uS ((aM n).1) ((cJ n).1) ((aM n).2) ((cJ n).2),vJ ((aM n).1) ((cJ n).1) ((aM n).2) ((cJ n).2)⟩
instance c67_ (a0:Gl07Seen) (a1:Int) {q0:Gl07Seen}:Con E 67 (nR a0 a1=some q0) [.ptr [.sl false 4 (List.map (GNode.enc false) a0.p.Nodes),.sl false 5 (List.map (GFn.enc false) a0.p.Fns),vi a0.fn,.sl false 1 (List.map vs a0.there),vb a0.bad],.val (vi a1)] [] [[.sl false 4 (List.map (GNode.enc false) q0.p.Nodes),.sl false 5 (List.map (GFn.enc false) q0.p.Fns),vi q0.fn,.sl false 1 (List.map vs q0.there),vb q0.bad]]:=Con.mk fun h=>(cJ bL).1 _ _ h
instance c87_ (a0:Gl07Seen) (a1:Int) {q0:Gl07Seen}:Con E 87 (aAz a0 a1=some q0) [.ptr [.sl false 4 (List.map (GNode.enc false) a0.p.Nodes),.sl false 5 (List.map (GFn.enc false) a0.p.Fns),vi a0.fn,.sl false 1 (List.map vs a0.there),vb a0.bad],.val (vi a1)] [] [[.sl false 4 (List.map (GNode.enc false) q0.p.Nodes),.sl false 5 (List.map (GFn.enc false) q0.p.Fns),vi q0.fn,.sl false 1 (List.map vs q0.there),vb q0.bad]]:=Con.mk fun h=>(cJ bL).2 _ _ h
instance e67_:Ent E 67:=⟨aRs⟩
instance e87_:Ent E 87:=⟨ent87⟩
end Go.Proofs.T
