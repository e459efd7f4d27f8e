import Derived.Test.YtgcgpnhokjhghabGreatDoorW3
set_option linter.unusedVariables false
set_option linter.unusedSimpArgs false
set_option linter.unusedVariables false
set_option linter.unusedSimpArgs false
set_option maxHeartbeats 8000000
set_option maxRecDepth 100000
namespace Go.Proofs.T
open Go.OM
theorem aPo:Tryz.f52.results.toList=[.tmp 6]:=rfl
theorem ent52:dR E.P 52:=eO Tryz.func52 (by simp [Tryz.f52]) rfl
theorem xZ (a3:Gpacker→Int→Int→Option (Int × Gpacker)) (a7:∀ (a0:Gpacker) (a1:Int) (a2:Int) {r0:Int} {q0:Gpacker},a3 a0 a1 a2=some (r0,q0)→Ok E 52 [.ptr [.sl false 4 (List.map (GNode.enc false) a0.from_),.sl true 4 (List.map (GNode.enc true) a0.to_),vb a0.bad],.val (vi a1),.val (vi a2)] [vi r0] [[.sl false 4 (List.map (GNode.enc false) q0.from_),.sl true 4 (List.map (GNode.enc true) q0.to_),vb q0.bad]]) (x1:Gpacker) (k2:Int) (b2:Int) {r0:Int} {q0:Gpacker} (h:fW a3 x1 k2 b2=some (r0,q0)):Ok E 52 [.ptr [.sl false 4 (List.map (GNode.enc false) x1.from_),.sl true 4 (List.map (GNode.enc true) x1.to_),vb x1.bad],.val (vi k2),.val (vi b2)] [vi r0] [[.sl false 4 (List.map (GNode.enc false) q0.from_),.sl true 4 (List.map (GNode.enc true) q0.to_),vb q0.bad]]:=by
 refine oB Tryz.func52 rfl (by simp [Tryz.f52]) fun C (q:C.N=97) hP=>?_
 have y:=zW hP;unfold fW at h;refine O.zS y ?_;refine aH q ?_;apply wN;refine O.seq ?_;obtain ⟨h0,b5,h⟩:=bS h;refine O.seqRC rfl (y _ rfl) [0,1,2,38] [97] (fun _:Unit=>⟨[(0,.ref (.box 97) 0 []),(1,.t (vi k2)),(2,.t (vi b2)),(38,.t (vb h0))],[(97,[.sl false 4 (List.map (GNode.enc false) x1.from_),.sl true 4 (List.map (GNode.enc true) x1.to_),vb x1.bad])]⟩) (fun _=>True) (fun _ _=>?_) fun K5 e8=>?_;rotate_left
 ·refine aH q ?_
  iterate 4 refine aH q ?_
  rcases mD b5 with ⟨c3,b5⟩ | ⟨b6,b5⟩
  ·have b3:=c3;try simp at b3
   iterate 9 (refine wO fun K r=>?_;simp [q,c3,b3];apply r)
   iterate 2 (refine aH q ?_ rfl (by simp [c3,b3];rfl))
   iterate 2 (refine wO fun K r=>?_;simp [q,c3,b3];apply r)
   iterate 2 (refine aH q ?_ rfl (by simp [c3,b3];rfl))
   iterate 6 (refine wO fun K r=>?_;simp [q,c3,b3];apply r)
   refine aH q ?_ rfl (by simp [c3,b3];rfl)
   refine wN ?_;cases b5;exact e8 _ () [] trivial (by simp [q,c3,b3])
  have a8:=b6;try simp at a8
  iterate 7 (refine aH q ?_ rfl (by simp [b6,a8];rfl))
  obtain ⟨r8,h1,b5⟩:=bS b5;refine fP [(.take,.tmp 17),(.take,.const (.int .i64 0)),(.take,.tmp 23)] q (Ent.ok (E:=E) (f:=41)) (Con.ok h1) ?_ rfl rfl (by simp [b6,a8];rfl)
  iterate 3 (refine aH q ?_ rfl (by simp [b6,a8];rfl))
  rcases mD b5 with ⟨b9,b5⟩ | ⟨b7,b5⟩
  ·have b0:=b9;try simp at b0
   iterate 2 (refine wO fun K r=>?_;simp [q,b6,a8,b9,b0];apply r)
   iterate 2 (refine aH q ?_ rfl (by simp [b6,a8,b9,b0];rfl))
   iterate 6 (refine wO fun K r=>?_;simp [q,b6,a8,b9,b0];apply r)
   refine aH q ?_ rfl (by simp [b6,a8,b9,b0];rfl)
   refine wN ?_;cases b5;exact e8 _ () [] trivial (by simp [q,b6,a8,b9,b0])
  have a9:=b7;try simp at a9
  iterate 4 (refine aH q ?_ rfl (by simp [b6,a8,b7,a9];rfl))
  rcases mD b5 with ⟨c2,b5⟩ | ⟨c7,b5⟩
  ·have b8:=c2;try simp at b8
   iterate 6 (refine wO fun K r=>?_;simp [q,b6,a8,b7,a9,c2,b8];apply r)
   refine aH q ?_ rfl (by simp [b6,a8,b7,a9,c2,b8];rfl)
   refine wN ?_;cases b5;exact e8 _ () [] trivial (by simp [q,b6,a8,b7,a9,c2,b8])
  have c0:=c7;try simp at c0
  iterate 7 (refine aH q ?_ rfl (by simp [b6,a8,b7,a9,c7,c0];rfl))
  refine wN ?_;cases b5;exact e8 _ () [] trivial (by simp [q,b6,a8,b7,a9,c7,c0])
 refine O.cI h (fun h2 h=>?_) fun h3 h=>?_
 ·iterate 9 first|refine aH q ?_|apply wN|refine O.zS y ?_
  cases h;refine O.ret ?_;simp [aO,iB,aPo]
 refine O.skip ?_;refine O.zS y ?_
 iterate 5 refine aH q ?_
 obtain ⟨b1,e9,h⟩:=bS h;obtain ⟨c9,d8,d9,e0⟩:=gS e9
 iterate 4 (refine aH q ?_ rfl (by simp [c9,d8,d9,e0];rfl))
 iterate 4 first|refine aH q ?_|apply wN|refine O.zS y ?_
 obtain ⟨h4,g0,h⟩:=bS h;refine O.seqC [0,7,8] [7,97] (fun v:(List Int) × Gpacker=>⟨[(0,.ref (.box 97) 0 []),(7,.ref (.box 7) 0 []),(8,.t (.sl true 1 (List.map vi v.1)))],[(7,[vi b1.Kind,vi b1.Num,vs b1.Name,.sl false 1 (List.map vi b1.Kids)]),(97,[.sl false 4 (List.map (GNode.enc false) v.2.from_),.sl true 4 (List.map (GNode.enc true) v.2.to_),vb v.2.bad])]⟩) (fun v=>h4=Sum.inl v) (fun v hv=>?_) fun i5 g3=>?_;rotate_left
 ·refine O.zS y ?_
  iterate 4 refine aH q ?_
  apply wN;refine O.block ?_;refine O.loopO [] [0,2,7,8,50,51,52] [7,97] (fun v:(List Int) × Int × Gpacker=>⟨[(0,.ref (.box 97) 0 []),(2,.t (vi b2)),(7,.ref (.box 7) 0 []),(8,.t (.sl true 1 (List.map vi v.1))),(50,.t (.sl false 1 (List.map vi b1.Kids))),(51,.t (vi (b1.Kids.length:Int))),(52,.t (vi v.2.1))],[(7,[vi b1.Kind,vi b1.Num,vs b1.Name,.sl false 1 (List.map vi b1.Kids)]),(97,[.sl false 4 (List.map (GNode.enc false) v.2.2.from_),.sl true 4 (List.map (GNode.enc true) v.2.2.to_),vb v.2.2.bad])]⟩) (dZ a3 b2 b1) _ ([],(0:Int),x1) g0 (by simp [q]) ?_
  intro g i6 b4 e1;obtain ⟨c8,i7,i8⟩:=g;simp only [dZ] at b4;try dsimp only
  refine O.zS y ?_;refine aH q ?_;apply wN;refine O.seq ?_;refine O.cI b4 (fun h5 b4=>?_) fun h6 b4=>?_
  ·refine O.skip ?_;refine O.seq ?_;refine O.block ?_;refine O.zS y ?_;obtain ⟨i9,g4,b4⟩:=bS b4;obtain ⟨e2,e3,e4,e5⟩:=gS g4
   iterate 3 (refine aH q ?_ rfl (by simp [e2,e3,e4,e5];rfl))
   apply wN;refine O.zS y ?_
   iterate 4 refine aH q ?_
   obtain ⟨⟨h7,j0⟩,g5,b4⟩:=bS b4;try dsimp only at b4
   refine fP [((.ptr 3),.tmp 56),(.take,.tmp 57),(.take,.tmp 59)] q ent52 (a7 _ _ _ g5) ?_;refine aH q ?_;apply wN;refine O.seq ?_;refine O.zS y ?_
   iterate 4 refine aH q ?_
   apply wN;refine O.cI b4 (fun h8 b4=>?_) fun h9 b4=>?_
   ·refine O.zS y ?_;refine aH q ?_;apply wN;have i0:=congrArg some (e1 _ (Option.some.inj b4).symm);cases i0;try dsimp only at h
    cases h;refine O.ret ?_;simp [aO,iB,aPo]
   refine O.skip ?_;refine O.zH y ?_
   iterate 3 refine aH q ?_
   obtain ⟨i1,g6,b4⟩:=bS b4;obtain ⟨c4,c5,e6⟩:=aS g6;have c6:List.map vi c8 ++ List.map vi [h7]=List.map vi i1:=kG (f:=vi) e6;simp [eSl] at c4 c5 c6
   iterate 2 (refine aH q ?_ rfl (by simp [c4,c5,c6];rfl))
   apply wN;refine O.zH y ?_
   iterate 2 refine aH q ?_
   apply wN;cases b4;exact ⟨_,[],rfl,by simp [q]⟩
  refine O.exit ?_;have i2:=congrArg some (e1 _ (Option.some.inj b4).symm);cases i2;exact g3 _ _ [] rfl (by simp [q])
 subst hv;obtain ⟨c1,g7⟩:=v;try dsimp only at h ⊢
 refine O.seq ?_;refine O.zS y ?_
 iterate 6 refine aH q ?_
 apply wN;refine O.cI h (fun i3 h=>?_) fun i4 h=>?_
 ·iterate 9 first|refine aH q ?_|apply wN|refine O.zS y ?_
  cases h;refine O.ret ?_;simp [aO,iB,aPo]
 refine O.skip ?_;refine O.zS y ?_
 iterate 3 refine aH q ?_
 apply wN;refine O.seq ?_;obtain ⟨g9,g8,h⟩:=bS h;obtain ⟨a4,a5,e7⟩:=aS g8;have a6:List.map (GNode.enc true) g7.to_ ++ List.map (GNode.enc true) [(⟨b1.Kind,b1.Num,b1.Name,c1⟩:GNode)]=List.map (GNode.enc true) g9:=kG (f:=(GNode.enc true)) e7;simp [eSl,GNode.enc] at a4 a5 a6;refine O.drawX2 rfl (y _ rfl) [81,82,83,84,85,86,87,88] [[(81,.ref (.box 97) 0 [])],[(82,.ref (.box 97) 0 [])],[(83,.ref (.box 97) 0 [])],[(84,.ref (.box 97) 1 [])],[(85,.al (.box 97) 1 [] none)],[(86,.al (.box 7) 0 [] (some 4))],[(87,.t (.sl true 4 (List.map (GNode.enc true) [(⟨b1.Kind,b1.Num,b1.Name,c1⟩:GNode)]))),(86,.u)],[(88,.t (.sl true 4 (List.map (GNode.enc true) g9))),(73,.u),(85,.u),(87,.u)]] [[],[],[],[],[],[],[(7,[vi b1.Kind,vi b1.Num,vs b1.Name,.dead])],[(97,[.sl false 4 (List.map (GNode.enc false) g7.from_),.dead,vb g7.bad])]] [[],[],[1],[1,2],[1,2,3],[],[5],rg 1 6,rg 0 8,rg 0 9,rg 0 10] rfl (by simp) rfl rfl rfl ?_ fun K w=>?_
 ·refine ⟨?_,?_,?_,?_,?_,?_,?_,?_,trivial⟩
  ·refine aG rfl rfl rfl ?_;intro τ D hbx hl d0 g1 g2 K w;cases d6:D 6<;>cases d7:D 7<;>(simp [aQ,aX,d0,d6,d7] at hbx;refine wC rfl fun K' z=>?_;simp [q,hbx,hl,bW,bV,look,d0,d6,d7,a4,a5,a6];exact z _ (wN (w _ (by simp [cN,aQ,aX,bY,hbx,d0,d6,d7,a4,a5,a6]))))
  ·refine aG rfl rfl rfl ?_;intro τ D hbx hl d1 g1 g2 K w;have d7:=g2 7 (by simp) (by simp)
   cases d6:D 6<;>(simp [aQ,aX,d1,d6,d7] at hbx;refine wC rfl fun K' z=>?_;simp [q,hbx,hl,bW,bV,look,d1,d6,d7,a4,a5,a6];exact z _ (wN (w _ (by simp [cN,aQ,aX,bY,hbx,d1,d6,d7,a4,a5,a6]))))
  ·refine aG rfl rfl rfl ?_;intro τ D hbx hl d2 g1 g2 K w;have d1:=g1 1 (by simp)
   have d7:=g2 7 (by simp) (by simp)
   cases d6:D 6<;>(simp [aQ,aX,d1,d2,d6,d7] at hbx;refine wC rfl fun K' z=>?_;simp [q,hbx,hl,bW,bV,look,d1,d2,d6,d7,a4,a5,a6];exact z _ (wN (w _ (by simp [cN,aQ,aX,bY,hbx,d1,d2,d6,d7,a4,a5,a6]))))
  ·refine aG rfl rfl rfl ?_;intro τ D hbx hl d3 g1 g2 K w;have d2:=g1 2 (by simp)
   have d7:=g2 7 (by simp) (by simp)
   cases d6:D 6<;>(simp [aQ,aX,d2,d3,d6,d7] at hbx;refine wC rfl fun K' z=>?_;simp [q,hbx,hl,bW,bV,look,d2,d3,d6,d7,a4,a5,a6];exact z _ (wN (w _ (by simp [cN,aQ,aX,bY,hbx,d2,d3,d6,d7,a4,a5,a6]))))
  ·refine aG rfl rfl rfl ?_;intro τ D hbx hl d4 g1 g2 K w;have d3:=g1 3 (by simp)
   have d7:=g2 7 (by simp) (by simp)
   cases d6:D 6<;>(simp [aQ,aX,d3,d4,d6,d7] at hbx;refine wC rfl fun K' z=>?_;simp [q,hbx,hl,bW,bV,look,d3,d4,d6,d7,a4,a5,a6];exact z _ (wN (w _ (by simp [cN,aQ,aX,bY,hbx,d3,d4,d6,d7,a4,a5,a6]))))
  ·refine aG rfl rfl rfl ?_;intro τ D hbx hl d5 g1 g2 K w;have d6:=g2 6 (by simp) (by simp)
   have d7:=g2 7 (by simp) (by simp)
   (simp [aQ,aX,d5,d6,d7] at hbx;refine wC rfl fun K' z=>?_;simp [q,hbx,hl,bW,bV,look,d5,d6,d7,a4,a5,a6];exact z _ (wN (w _ (by simp [cN,aQ,aX,bY,hbx,d5,d6,d7,a4,a5,a6]))))
  ·intro D d6 g1 g2 gc;have d5:D 5=true:=g1 5 (by simp)
   have d7:D 7=false:=g2 7 (by simp) (by simp)
   have p2_1:D 2=true→D 1=true:=fun h=>gc 2 1 h (by simp) (by simp)
   have p3_2:D 3=true→D 2=true:=fun h=>gc 3 2 h (by simp) (by simp)
   have p4_3:D 4=true→D 3=true:=fun h=>gc 4 3 h (by simp) (by simp)
   cases d0:D 0<;>cases d1:D 1<;>cases d2:D 2<;>(simp [d2,d1] at p2_1)<;>cases d3:D 3<;>(simp [d3,d2] at p3_2)<;>cases d4:D 4<;>(simp [d4,d3] at p4_3)<;>(intro K w;simp [nP,cN,bY,aQ,aX,d0,d1,d2,d3,d4,d5,d6,d7] at w ⊢;refine wC rfl fun K' z=>?_;simp [q,a4,a5,a6];refine z _ (wN ?_);first | exact w | simpa [a4,a5,a6] using w)
  intro D d7 g1 g2 gc;have d1:D 1=true:=g1 1 (by simp)
  have d2:D 2=true:=g1 2 (by simp)
  have d3:D 3=true:=g1 3 (by simp)
  have d4:D 4=true:=g1 4 (by simp)
  have d5:D 5=true:=g1 5 (by simp)
  have d6:D 6=true:=g1 6 (by simp)
  cases d0:D 0<;>(intro K w;simp [nP,cN,bY,aQ,aX,d0,d1,d2,d3,d4,d5,d6,d7] at w ⊢;refine wC rfl fun K' z=>?_;simp [q,a4,a5,a6];refine z _ (wN ?_);first | exact w | simpa [a4,a5,a6] using w)
 simp [nP,cN,aQ,aX]
 iterate 3 (refine aH q ?_ rfl (by simp [a4,a5,a6];rfl))
 apply wN;apply w;refine O.zS y ?_
 iterate 7 refine aH q ?_
 apply wN;cases h;refine O.ret ?_;simp [aO,iB,aPo]
theorem pD:∀ n:Nat,(∀ (a0:Gpacker) (a1:Int) (a2:Int) {r0:Int} {q0:Gpacker},(cE n) a0 a1 a2=some (r0,q0)→Ok E 52 [.ptr [.sl false 4 (List.map (GNode.enc false) a0.from_),.sl true 4 (List.map (GNode.enc true) a0.to_),vb a0.bad],.val (vi a1),.val (vi a2)] [vi r0] [[.sl false 4 (List.map (GNode.enc false) q0.from_),.sl true 4 (List.map (GNode.enc true) q0.to_),vb q0.bad]])
 | 0=>(by intros;rename_i h;cases h)
 | n + 1=>xZ (cE n) (pD n)
instance c52_ (a0:Gpacker) (a1:Int) (a2:Int) {r0:Int} {q0:Gpacker}:Con E 52 (iX a0 a1 a2=some (r0,q0)) [.ptr [.sl false 4 (List.map (GNode.enc false) a0.from_),.sl true 4 (List.map (GNode.enc true) a0.to_),vb a0.bad],.val (vi a1),.val (vi a2)] [vi r0] [[.sl false 4 (List.map (GNode.enc false) q0.from_),.sl true 4 (List.map (GNode.enc true) q0.to_),vb q0.bad]]:=Con.mk fun h=>(pD bL) _ _ _ h
instance e52_:Ent E 52:=⟨ent52⟩
end Go.Proofs.T
