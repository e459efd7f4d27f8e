import Derived.Test.YtgcgpnhokjhghabGreatDoorW1
set_option linter.unusedVariables false
set_option linter.unusedSimpArgs false
set_option linter.unusedVariables false
set_option linter.unusedSimpArgs false
set_option maxHeartbeats 8000000
set_option maxRecDepth 100000
namespace Go.Proofs.T
open Go.OM
theorem res57:Tryz.f57.results.toList=[.tmp 6]:=rfl
theorem ent57:dR E.P 57:=eO Tryz.func57 (by simp [Tryz.f57]) rfl
theorem vX (a8:Gl04Pack→Int→Int→Option (Int × Gl04Pack)) (b2:∀ (a0:Gl04Pack) (a1:Int) (a2:Int) {r0:Int} {q0:Gl04Pack},a8 a0 a1 a2=some (r0,q0)→Ok E 57 [.ptr [.sl false 4 (List.map (GNode.enc false) a0.from_),.sl true 4 (List.map (GNode.enc true) a0.to_),vb a0.bad],.val (vi a1),.val (vi a2)] [vi r0] [[.sl false 4 (List.map (GNode.enc false) q0.from_),.sl true 4 (List.map (GNode.enc true) q0.to_),vb q0.bad]]) (x1:Gl04Pack) (k2:Int) (b5:Int) {r0:Int} {q0:Gl04Pack} (h:cZ a8 x1 k2 b5=some (r0,q0)):Ok E 57 [.ptr [.sl false 4 (List.map (GNode.enc false) x1.from_),.sl true 4 (List.map (GNode.enc true) x1.to_),vb x1.bad],.val (vi k2),.val (vi b5)] [vi r0] [[.sl false 4 (List.map (GNode.enc false) q0.from_),.sl true 4 (List.map (GNode.enc true) q0.to_),vb q0.bad]]:=by
 refine oB Tryz.func57 rfl (by simp [Tryz.f57]) fun C (q:C.N=122) hP=>?_
 have y:=zW hP;unfold cZ at h;refine O.zS y ?_;refine aH q ?_;apply wN;refine O.seq ?_;obtain ⟨k7,c3,h⟩:=bS h;refine O.seqRC rfl (y _ rfl) [0,1,2,36] [122] (fun _:Unit=>⟨[(0,.ref (.box 122) 0 []),(1,.t (vi k2)),(2,.t (vi b5)),(36,.t (vb k7))],[(122,[.sl false 4 (List.map (GNode.enc false) x1.from_),.sl true 4 (List.map (GNode.enc true) x1.to_),vb x1.bad])]⟩) (fun _=>True) (fun _ _=>?_) fun K5 h7=>?_;rotate_left
 ·refine aH q ?_
  iterate 4 refine aH q ?_
  rcases mD c3 with ⟨g5,c3⟩ | ⟨c4,c3⟩
  ·have c1:=g5;try simp at c1
   iterate 2 (refine wO fun K r=>?_;simp [q,g5,c1];apply r)
   iterate 2 (refine aH q ?_ rfl (by simp [g5,c1];rfl))
   iterate 9 (refine wO fun K r=>?_;simp [q,g5,c1];apply r)
   iterate 2 (refine aH q ?_ rfl (by simp [g5,c1];rfl))
   iterate 6 (refine wO fun K r=>?_;simp [q,g5,c1];apply r)
   refine aH q ?_ rfl (by simp [g5,c1];rfl)
   refine wN ?_;cases c3;exact h7 _ () [] trivial (by simp [q,g5,c1])
  have b4:=c4;try simp at b4
  iterate 4 (refine aH q ?_ rfl (by simp [c4,b4];rfl))
  rcases mD c3 with ⟨h1,c3⟩ | ⟨e9,c3⟩
  ·have e2:=h1;try simp at e2
   iterate 9 (refine wO fun K r=>?_;simp [q,c4,b4,h1,e2];apply r)
   iterate 2 (refine aH q ?_ rfl (by simp [c4,b4,h1,e2];rfl))
   iterate 6 (refine wO fun K r=>?_;simp [q,c4,b4,h1,e2];apply r)
   refine aH q ?_ rfl (by simp [c4,b4,h1,e2];rfl)
   refine wN ?_;cases c3;exact h7 _ () [] trivial (by simp [q,c4,b4,h1,e2])
  have c0:=e9;try simp at c0
  iterate 7 (refine aH q ?_ rfl (by simp [c4,b4,e9,c0];rfl))
  obtain ⟨l7,h8,c3⟩:=bS c3;refine fP [(.take,.tmp 19),(.take,.const (.int .i64 0)),(.take,.tmp 25)] q (Ent.ok (E:=E) (f:=43)) (Con.ok h8) ?_ rfl rfl (by simp [c4,b4,e9,c0];rfl)
  iterate 3 (refine aH q ?_ rfl (by simp [c4,b4,e9,c0];rfl))
  rcases mD c3 with ⟨g0,c3⟩ | ⟨g9,c3⟩
  ·have c6:=g0;try simp at c6
   iterate 6 (refine wO fun K r=>?_;simp [q,c4,b4,e9,c0,g0,c6];apply r)
   refine aH q ?_ rfl (by simp [c4,b4,e9,c0,g0,c6];rfl)
   refine wN ?_;cases c3;exact h7 _ () [] trivial (by simp [q,c4,b4,e9,c0,g0,c6])
  have e3:=g9;try simp at e3
  iterate 7 (refine aH q ?_ rfl (by simp [c4,b4,e9,c0,g9,e3];rfl))
  refine wN ?_;cases c3;exact h7 _ () [] trivial (by simp [q,c4,b4,e9,c0,g9,e3])
 refine O.cI h (fun k8 h=>?_) fun k9 h=>?_
 ·iterate 9 first|refine aH q ?_|apply wN|refine O.zS y ?_
  cases h;refine O.ret ?_;simp [aO,iB,res57]
 refine O.skip ?_;refine O.seq ?_;obtain ⟨b3,h9,h⟩:=bS h;obtain ⟨a3,a4,a5,a6⟩:=gS h9;refine O.drawY rfl (y _ rfl) [(40,.ref (.box 122) 0 []),(41,.ref (.box 122) 0 []),(42,.ref (.box 122) 0 []),(43,.t (.sl false 4 (List.map (GNode.enc false) x1.from_))),(44,.t (vi k2)),(45,.rop [vi b3.Kind,vi b3.Num,vs b3.Name,.sl false 1 (List.map vi b3.Kids)] 0),(46,.rop [vi b3.Kind,vi b3.Num,vs b3.Name,.sl false 1 (List.map vi b3.Kids)] 0),(47,.t (vi b3.Kind)),(48,.ref (.box 122) 0 []),(49,.ref (.box 122) 0 []),(50,.ref (.box 122) 0 []),(51,.t (.sl false 4 (List.map (GNode.enc false) x1.from_))),(52,.t (vi k2)),(53,.rop [vi b3.Kind,vi b3.Num,vs b3.Name,.sl false 1 (List.map vi b3.Kids)] 0),(54,.rop [vi b3.Kind,vi b3.Num,vs b3.Name,.sl false 1 (List.map vi b3.Kids)] 1),(55,.t (vi b3.Num)),(56,.ref (.box 122) 0 []),(57,.ref (.box 122) 0 []),(58,.ref (.box 122) 0 []),(59,.t (.sl false 4 (List.map (GNode.enc false) x1.from_))),(60,.t (vi k2)),(61,.rop [vi b3.Kind,vi b3.Num,vs b3.Name,.sl false 1 (List.map vi b3.Kids)] 0),(62,.rop [vi b3.Kind,vi b3.Num,vs b3.Name,.sl false 1 (List.map vi b3.Kids)] 2),(63,.t (vs b3.Name)),(64,.t (.agg [vi b3.Kind,vi b3.Num,vs b3.Name,.sl true 1 []])),(7,.ref (.box 7) 0 [])] [[],[],[],[],[],[],[],[],[],[],[],[],[],[],[],[],[],[],[],[],[],[],[],[],[],[(7,[vi 0,vi 0,vs ByteArray.empty,.sl true 1 []])]] [[],[0],[0,1],[0,1,2],[],rg 0 5,rg 0 6,rg 0 7,[],[8],[8,9],[8,9,10],[],rg 8 5,rg 8 6,rg 8 7,[],[16],[16,17],[16,17,18],[],rg 16 5,rg 16 6,rg 16 7,rg 0 24,[],rg 0 26] rfl (by simp) (by simp) (by simp [look]) rfl rfl rfl ?_ fun K w=>?_
 ·refine ⟨?_,?_,?_,?_,?_,?_,?_,?_,?_,?_,?_,?_,?_,?_,?_,?_,?_,?_,?_,?_,?_,?_,?_,?_,?_,?_,trivial⟩
  ·intro τ D hbx hb hd hf d0 g1 g2 hT;cases a7:D 25<;>(intro K w;try simp [bQ] at hd;simp [bQ] at hf;simp [aQ,aX,d0,a7] at hbx;refine wC rfl fun K' z=>?_;simp [q,hbx,hb,hd,hf,a3,a4,a5,a6];exact z _ (wN (w _ (by simp [bQ,aQ,aX,bY,hbx,d0,a7,a3,a4,a5,a6]))))
  ·intro τ D hbx hb hd hf d1 g1 g2 hT;cases a7:D 25<;>(intro K w;try simp [bQ] at hd;simp [bQ] at hf;simp [aQ,aX,d1,a7] at hbx;refine wC rfl fun K' z=>?_;simp [q,hbx,hb,hd,hf,a3,a4,a5,a6];exact z _ (wN (w _ (by simp [bQ,aQ,aX,bY,hbx,d1,a7,a3,a4,a5,a6]))))
  ·intro τ D hbx hb hd hf d2 g1 g2 hT;cases a7:D 25<;>(intro K w;try simp [bQ] at hd;simp [bQ] at hf;simp [aQ,aX,d2,a7] at hbx;refine wC rfl fun K' z=>?_;simp [q,hbx,hb,hd,hf,a3,a4,a5,a6];exact z _ (wN (w _ (by simp [bQ,aQ,aX,bY,hbx,d2,a7,a3,a4,a5,a6]))))
  ·intro τ D hbx hb hd hf d3 g1 g2 hT;cases a7:D 25<;>(intro K w;try simp [bQ] at hd;simp [bQ] at hf;simp [aQ,aX,d3,a7] at hbx;refine wC rfl fun K' z=>?_;simp [q,hbx,hb,hd,hf,a3,a4,a5,a6];exact z _ (wN (w _ (by simp [bQ,aQ,aX,bY,hbx,d3,a7,a3,a4,a5,a6]))))
  ·intro τ D hbx hb hd hf d4 g1 g2 hT;cases a7:D 25<;>(intro K w;try simp [bQ] at hd;simp [bQ] at hf;simp [aQ,aX,d4,a7] at hbx;refine wC rfl fun K' z=>?_;simp [q,hbx,hb,hd,hf,a3,a4,a5,a6];exact z _ (wN (w _ (by simp [bQ,aQ,aX,bY,hbx,d4,a7,a3,a4,a5,a6]))))
  ·intro τ D hbx hb hd hf d5 g1 g2 hT;cases a7:D 25<;>(intro K w;try simp [bQ] at hd;simp [bQ] at hf;simp [aQ,aX,d5,a7] at hbx;refine wC rfl fun K' z=>?_;simp [q,hbx,hb,hd,hf,a3,a4,a5,a6];exact z _ (wN (w _ (by simp [bQ,aQ,aX,bY,hbx,d5,a7,a3,a4,a5,a6]))))
  ·intro τ D hbx hb hd hf d6 g1 g2 hT;cases a7:D 25<;>(intro K w;try simp [bQ] at hd;simp [bQ] at hf;simp [aQ,aX,d6,a7] at hbx;refine wC rfl fun K' z=>?_;simp [q,hbx,hb,hd,hf,a3,a4,a5,a6];exact z _ (wN (w _ (by simp [bQ,aQ,aX,bY,hbx,d6,a7,a3,a4,a5,a6]))))
  ·intro τ D hbx hb hd hf d7 g1 g2 hT;cases a7:D 25<;>(intro K w;try simp [bQ] at hd;simp [bQ] at hf;simp [aQ,aX,d7,a7] at hbx;refine wC rfl fun K' z=>?_;simp [q,hbx,hb,hd,hf,a3,a4,a5,a6];exact z _ (wN (w _ (by simp [bQ,aQ,aX,bY,hbx,d7,a7,a3,a4,a5,a6]))))
  ·intro τ D hbx hb hd hf d8 g1 g2 hT;cases a7:D 25<;>(intro K w;try simp [bQ] at hd;simp [bQ] at hf;simp [aQ,aX,d8,a7] at hbx;refine wC rfl fun K' z=>?_;simp [q,hbx,hb,hd,hf,a3,a4,a5,a6];exact z _ (wN (w _ (by simp [bQ,aQ,aX,bY,hbx,d8,a7,a3,a4,a5,a6]))))
  ·intro τ D hbx hb hd hf d9 g1 g2 hT;cases a7:D 25<;>(intro K w;try simp [bQ] at hd;simp [bQ] at hf;simp [aQ,aX,d9,a7] at hbx;refine wC rfl fun K' z=>?_;simp [q,hbx,hb,hd,hf,a3,a4,a5,a6];exact z _ (wN (w _ (by simp [bQ,aQ,aX,bY,hbx,d9,a7,a3,a4,a5,a6]))))
  ·intro τ D hbx hb hd hf j0 g1 g2 hT;cases a7:D 25<;>(intro K w;try simp [bQ] at hd;simp [bQ] at hf;simp [aQ,aX,j0,a7] at hbx;refine wC rfl fun K' z=>?_;simp [q,hbx,hb,hd,hf,a3,a4,a5,a6];exact z _ (wN (w _ (by simp [bQ,aQ,aX,bY,hbx,j0,a7,a3,a4,a5,a6]))))
  ·intro τ D hbx hb hd hf j1 g1 g2 hT;cases a7:D 25<;>(intro K w;try simp [bQ] at hd;simp [bQ] at hf;simp [aQ,aX,j1,a7] at hbx;refine wC rfl fun K' z=>?_;simp [q,hbx,hb,hd,hf,a3,a4,a5,a6];exact z _ (wN (w _ (by simp [bQ,aQ,aX,bY,hbx,j1,a7,a3,a4,a5,a6]))))
  ·intro τ D hbx hb hd hf j2 g1 g2 hT;cases a7:D 25<;>(intro K w;try simp [bQ] at hd;simp [bQ] at hf;simp [aQ,aX,j2,a7] at hbx;refine wC rfl fun K' z=>?_;simp [q,hbx,hb,hd,hf,a3,a4,a5,a6];exact z _ (wN (w _ (by simp [bQ,aQ,aX,bY,hbx,j2,a7,a3,a4,a5,a6]))))
  ·intro τ D hbx hb hd hf j3 g1 g2 hT;cases a7:D 25<;>(intro K w;try simp [bQ] at hd;simp [bQ] at hf;simp [aQ,aX,j3,a7] at hbx;refine wC rfl fun K' z=>?_;simp [q,hbx,hb,hd,hf,a3,a4,a5,a6];exact z _ (wN (w _ (by simp [bQ,aQ,aX,bY,hbx,j3,a7,a3,a4,a5,a6]))))
  ·intro τ D hbx hb hd hf j4 g1 g2 hT;cases a7:D 25<;>(intro K w;try simp [bQ] at hd;simp [bQ] at hf;simp [aQ,aX,j4,a7] at hbx;refine wC rfl fun K' z=>?_;simp [q,hbx,hb,hd,hf,a3,a4,a5,a6];exact z _ (wN (w _ (by simp [bQ,aQ,aX,bY,hbx,j4,a7,a3,a4,a5,a6]))))
  ·intro τ D hbx hb hd hf j5 g1 g2 hT;cases a7:D 25<;>(intro K w;try simp [bQ] at hd;simp [bQ] at hf;simp [aQ,aX,j5,a7] at hbx;refine wC rfl fun K' z=>?_;simp [q,hbx,hb,hd,hf,a3,a4,a5,a6];exact z _ (wN (w _ (by simp [bQ,aQ,aX,bY,hbx,j5,a7,a3,a4,a5,a6]))))
  ·intro τ D hbx hb hd hf j6 g1 g2 hT;cases a7:D 25<;>(intro K w;try simp [bQ] at hd;simp [bQ] at hf;simp [aQ,aX,j6,a7] at hbx;refine wC rfl fun K' z=>?_;simp [q,hbx,hb,hd,hf,a3,a4,a5,a6];exact z _ (wN (w _ (by simp [bQ,aQ,aX,bY,hbx,j6,a7,a3,a4,a5,a6]))))
  ·intro τ D hbx hb hd hf j7 g1 g2 hT;cases a7:D 25<;>(intro K w;try simp [bQ] at hd;simp [bQ] at hf;simp [aQ,aX,j7,a7] at hbx;refine wC rfl fun K' z=>?_;simp [q,hbx,hb,hd,hf,a3,a4,a5,a6];exact z _ (wN (w _ (by simp [bQ,aQ,aX,bY,hbx,j7,a7,a3,a4,a5,a6]))))
  ·intro τ D hbx hb hd hf j8 g1 g2 hT;cases a7:D 25<;>(intro K w;try simp [bQ] at hd;simp [bQ] at hf;simp [aQ,aX,j8,a7] at hbx;refine wC rfl fun K' z=>?_;simp [q,hbx,hb,hd,hf,a3,a4,a5,a6];exact z _ (wN (w _ (by simp [bQ,aQ,aX,bY,hbx,j8,a7,a3,a4,a5,a6]))))
  ·intro τ D hbx hb hd hf j9 g1 g2 hT;cases a7:D 25<;>(intro K w;try simp [bQ] at hd;simp [bQ] at hf;simp [aQ,aX,j9,a7] at hbx;refine wC rfl fun K' z=>?_;simp [q,hbx,hb,hd,hf,a3,a4,a5,a6];exact z _ (wN (w _ (by simp [bQ,aQ,aX,bY,hbx,j9,a7,a3,a4,a5,a6]))))
  ·intro τ D hbx hb hd hf k0 g1 g2 hT;cases a7:D 25<;>(intro K w;try simp [bQ] at hd;simp [bQ] at hf;simp [aQ,aX,k0,a7] at hbx;refine wC rfl fun K' z=>?_;simp [q,hbx,hb,hd,hf,a3,a4,a5,a6];exact z _ (wN (w _ (by simp [bQ,aQ,aX,bY,hbx,k0,a7,a3,a4,a5,a6]))))
  ·intro τ D hbx hb hd hf k1 g1 g2 hT;cases a7:D 25<;>(intro K w;try simp [bQ] at hd;simp [bQ] at hf;simp [aQ,aX,k1,a7] at hbx;refine wC rfl fun K' z=>?_;simp [q,hbx,hb,hd,hf,a3,a4,a5,a6];exact z _ (wN (w _ (by simp [bQ,aQ,aX,bY,hbx,k1,a7,a3,a4,a5,a6]))))
  ·intro τ D hbx hb hd hf k3 g1 g2 hT;cases a7:D 25<;>(intro K w;try simp [bQ] at hd;simp [bQ] at hf;simp [aQ,aX,k3,a7] at hbx;refine wC rfl fun K' z=>?_;simp [q,hbx,hb,hd,hf,a3,a4,a5,a6];exact z _ (wN (w _ (by simp [bQ,aQ,aX,bY,hbx,k3,a7,a3,a4,a5,a6]))))
  ·intro τ D hbx hb hd hf k4 g1 g2 hT;cases a7:D 25<;>(intro K w;try simp [bQ] at hd;simp [bQ] at hf;simp [aQ,aX,k4,a7] at hbx;refine wC rfl fun K' z=>?_;simp [q,hbx,hb,hd,hf,a3,a4,a5,a6];exact z _ (wN (w _ (by simp [bQ,aQ,aX,bY,hbx,k4,a7,a3,a4,a5,a6]))))
  ·intro τ D hbx hb hd hf k5 g1 g2 hT;cases a7:D 25<;>(intro K w;try simp [bQ] at hd;simp [bQ] at hf;simp [aQ,aX,k5,a7] at hbx;refine wC rfl fun K' z=>?_;simp [q,hbx,hb,hd,hf,a3,a4,a5,a6];exact z _ (wN (w _ (by simp [bQ,aQ,aX,bY,hbx,k5,a7,a3,a4,a5,a6]))))
  intro τ D hbx hb hd hf a7 g1 g2 hT;have hkl:=aMf (.box 7) [25] hT rfl rfl (by simp [a7])
  simp only [AV.killAll,List.any_eq_true] at hkl
  (intro K w;try simp [bQ] at hd;simp [bQ] at hf;simp [aQ,aX,a7] at hbx;refine wC rfl fun K' z=>?_;simp [q,hbx,hb,hd,hf,a3,a4,a5,a6,hkl];exact z _ (wN (w _ (by simp [bQ,aQ,aX,bY,hbx,a7,a3,a4,a5,a6,hkl]))))
 simp [nP,cN,aQ,aX];refine aH q ?_ rfl (by simp [a3,a4,a5,a6];rfl)
 apply wN;apply w;obtain ⟨⟨g3,h2⟩,i0,h⟩:=bS h;try dsimp only at h
 refine O.seqC [0,7] [7,122] (fun _:Unit=>⟨[(0,.ref (.box 122) 0 []),(7,.ref (.box 7) 0 [])],[(7,[vi g3.Kind,vi g3.Num,vs g3.Name,.sl true 1 (List.map vi g3.Kids)]),(122,[.sl false 4 (List.map (GNode.enc false) h2.from_),.sl true 4 (List.map (GNode.enc true) h2.to_),vb h2.bad])]⟩) (fun _=>True) (fun _ _=>?_) fun l8 i1=>?_;rotate_left
 ·refine O.zS y ?_;refine aH q ?_;apply wN;refine O.block ?_;refine O.loopO [] [0,1,2,7,8] [7,122] (fun v:Int × GNode × Gl04Pack=>⟨[(0,.ref (.box 122) 0 []),(1,.t (vi k2)),(2,.t (vi b5)),(7,.ref (.box 7) 0 []),(8,.t (vi v.1))],[(7,[vi v.2.1.Kind,vi v.2.1.Num,vs v.2.1.Name,.sl true 1 (List.map vi v.2.1.Kids)]),(122,[.sl false 4 (List.map (GNode.enc false) v.2.2.from_),.sl true 4 (List.map (GNode.enc true) v.2.2.to_),vb v.2.2.bad])]⟩) (cQ a8 k2 b5) _ ((0:Int),(⟨b3.Kind,b3.Num,b3.Name,[]⟩:GNode),x1) i0 (by simp [q]) ?_
  intro g l9 c2 i2;obtain ⟨l0,h3,i3⟩:=g;simp only [cQ] at c2;try dsimp only
  refine O.seq ?_;obtain ⟨l1,c5,c2⟩:=bS c2;refine O.seqRC rfl (y _ rfl) [0,1,2,7,8,82] [7,122] (fun _:Unit=>⟨[(0,.ref (.box 122) 0 []),(1,.t (vi k2)),(2,.t (vi b5)),(7,.ref (.box 7) 0 []),(8,.t (vi l0)),(82,.t (vb l1))],[(7,[vi h3.Kind,vi h3.Num,vs h3.Name,.sl true 1 (List.map vi h3.Kids)]),(122,[.sl false 4 (List.map (GNode.enc false) i3.from_),.sl true 4 (List.map (GNode.enc true) i3.to_),vb i3.bad])]⟩) (fun _=>True) (fun _ _=>?_) fun m0 h4=>?_;rotate_left
  ·refine aH q ?_
   iterate 5 refine aH q ?_
   obtain ⟨m1,i4,c5⟩:=bS c5;obtain ⟨b6,b7,b8,b9⟩:=gS i4
   iterate 6 (refine aH q ?_ rfl (by simp [b6,b7,b8,b9];rfl))
   rcases mD c5 with ⟨h0,c5⟩ | ⟨g4,c5⟩
   ·have e4:=h0;try simp at e4
    iterate 6 (refine aH q ?_ rfl (by simp [b6,b7,b8,b9,h0,e4];rfl))
    refine wN ?_;cases c5;exact h4 _ () [] trivial (by simp [q,b6,b7,b8,b9,h0,e4])
   have c7:=g4;try simp at c7
   iterate 5 (refine wO fun K r=>?_;simp [q,b6,b7,b8,b9,g4,c7];apply r)
   refine aH q ?_ rfl (by simp [b6,b7,b8,b9,g4,c7];rfl)
   refine wN ?_;cases c5;exact h4 _ () [] trivial (by simp [q,b6,b7,b8,b9,g4,c7])
  refine O.cI c2 (fun l2 c2=>?_) fun l3 c2=>?_
  ·refine O.skip ?_;refine O.seq ?_;refine O.block ?_;refine O.zS y ?_
   iterate 6 refine aH q ?_
   obtain ⟨m2,i5,c2⟩:=bS c2;obtain ⟨c8,c9,e0,e1⟩:=gS i5
   iterate 4 (refine aH q ?_ rfl (by simp [c8,c9,e0,e1];rfl))
   obtain ⟨m3,i6,c2⟩:=bS c2;obtain ⟨e5,e6,e7,e8⟩:=gS i6
   iterate 4 (refine aH q ?_ rfl (by simp [c8,c9,e0,e1,e5,e6,e7,e8];rfl))
   obtain ⟨⟨l4,m4⟩,i7,c2⟩:=bS c2;try dsimp only at c2
   refine fP [((.ptr 3),.tmp 85),(.take,.tmp 96),(.take,.tmp 98)] q ent57 (b2 _ _ _ i7) ?_ rfl rfl (by simp [c8,c9,e0,e1,e5,e6,e7,e8];rfl)
   refine aH q ?_ rfl (by simp [c8,c9,e0,e1,e5,e6,e7,e8];rfl)
   apply wN;refine O.zH y ?_
   iterate 4 refine aH q ?_
   obtain ⟨l5,i8,c2⟩:=bS c2;obtain ⟨g6,g7,h5⟩:=aS i8;have g8:List.map vi h3.Kids ++ List.map vi [l4]=List.map vi l5:=kG (f:=vi) h5;simp [eSl] at g6 g7 g8
   iterate 3 (refine aH q ?_ rfl (by simp [g6,g7,g8];rfl))
   apply wN;refine O.zH y ?_
   iterate 3 refine aH q ?_
   apply wN;cases c2;exact ⟨_,[],rfl,by simp [q]⟩
  refine O.exit ?_;have l6:=congrArg some (i2 _ (Option.some.inj c2).symm);cases l6;exact i1 _ () [] trivial (by simp [q])
 refine O.seq ?_;obtain ⟨k6,i9,h⟩:=bS h;obtain ⟨a9,b0,h6⟩:=aS i9;have b1:List.map (GNode.enc true) h2.to_ ++ List.map (GNode.enc true) [g3]=List.map (GNode.enc true) k6:=kG (f:=(GNode.enc true)) h6;simp [eSl,GNode.enc] at a9 b0 b1;refine O.drawX2 rfl (y _ rfl) [106,107,108,109,110,111,112,113] [[(106,.ref (.box 122) 0 [])],[(107,.ref (.box 122) 0 [])],[(108,.ref (.box 122) 0 [])],[(109,.ref (.box 122) 1 [])],[(110,.al (.box 122) 1 [] none)],[(111,.al (.box 7) 0 [] (some 4))],[(112,.t (.sl true 4 (List.map (GNode.enc true) [g3]))),(111,.u)],[(113,.t (.sl true 4 (List.map (GNode.enc true) k6))),(110,.u),(112,.u)]] [[],[],[],[],[],[],[(7,[vi g3.Kind,vi g3.Num,vs g3.Name,.dead])],[(122,[.sl false 4 (List.map (GNode.enc false) h2.from_),.dead,vb h2.bad])]] [[],[],[1],[1,2],[1,2,3],[],[5],rg 1 6,rg 0 8,rg 0 9,rg 0 10] rfl (by simp) rfl rfl rfl ?_ fun K w=>?_
 ·refine ⟨?_,?_,?_,?_,?_,?_,?_,?_,trivial⟩
  ·refine aG rfl rfl rfl ?_;intro τ D hbx hl d0 g1 g2 K w;cases d6:D 6<;>cases d7:D 7<;>(simp [aQ,aX,d0,d6,d7] at hbx;refine wC rfl fun K' z=>?_;simp [q,hbx,hl,bW,bV,look,d0,d6,d7,a9,b0,b1];exact z _ (wN (w _ (by simp [cN,aQ,aX,bY,hbx,d0,d6,d7,a9,b0,b1]))))
  ·refine aG rfl rfl rfl ?_;intro τ D hbx hl d1 g1 g2 K w;have d7:=g2 7 (by simp) (by simp)
   cases d6:D 6<;>(simp [aQ,aX,d1,d6,d7] at hbx;refine wC rfl fun K' z=>?_;simp [q,hbx,hl,bW,bV,look,d1,d6,d7,a9,b0,b1];exact z _ (wN (w _ (by simp [cN,aQ,aX,bY,hbx,d1,d6,d7,a9,b0,b1]))))
  ·refine aG rfl rfl rfl ?_;intro τ D hbx hl d2 g1 g2 K w;have d1:=g1 1 (by simp)
   have d7:=g2 7 (by simp) (by simp)
   cases d6:D 6<;>(simp [aQ,aX,d1,d2,d6,d7] at hbx;refine wC rfl fun K' z=>?_;simp [q,hbx,hl,bW,bV,look,d1,d2,d6,d7,a9,b0,b1];exact z _ (wN (w _ (by simp [cN,aQ,aX,bY,hbx,d1,d2,d6,d7,a9,b0,b1]))))
  ·refine aG rfl rfl rfl ?_;intro τ D hbx hl d3 g1 g2 K w;have d2:=g1 2 (by simp)
   have d7:=g2 7 (by simp) (by simp)
   cases d6:D 6<;>(simp [aQ,aX,d2,d3,d6,d7] at hbx;refine wC rfl fun K' z=>?_;simp [q,hbx,hl,bW,bV,look,d2,d3,d6,d7,a9,b0,b1];exact z _ (wN (w _ (by simp [cN,aQ,aX,bY,hbx,d2,d3,d6,d7,a9,b0,b1]))))
  ·refine aG rfl rfl rfl ?_;intro τ D hbx hl d4 g1 g2 K w;have d3:=g1 3 (by simp)
   have d7:=g2 7 (by simp) (by simp)
   cases d6:D 6<;>(simp [aQ,aX,d3,d4,d6,d7] at hbx;refine wC rfl fun K' z=>?_;simp [q,hbx,hl,bW,bV,look,d3,d4,d6,d7,a9,b0,b1];exact z _ (wN (w _ (by simp [cN,aQ,aX,bY,hbx,d3,d4,d6,d7,a9,b0,b1]))))
  ·refine aG rfl rfl rfl ?_;intro τ D hbx hl d5 g1 g2 K w;have d6:=g2 6 (by simp) (by simp)
   have d7:=g2 7 (by simp) (by simp)
   (simp [aQ,aX,d5,d6,d7] at hbx;refine wC rfl fun K' z=>?_;simp [q,hbx,hl,bW,bV,look,d5,d6,d7,a9,b0,b1];exact z _ (wN (w _ (by simp [cN,aQ,aX,bY,hbx,d5,d6,d7,a9,b0,b1]))))
  ·intro D d6 g1 g2 gc;have d5:D 5=true:=g1 5 (by simp)
   have d7:D 7=false:=g2 7 (by simp) (by simp)
   have p2_1:D 2=true→D 1=true:=fun h=>gc 2 1 h (by simp) (by simp)
   have p3_2:D 3=true→D 2=true:=fun h=>gc 3 2 h (by simp) (by simp)
   have p4_3:D 4=true→D 3=true:=fun h=>gc 4 3 h (by simp) (by simp)
   cases d0:D 0<;>cases d1:D 1<;>cases d2:D 2<;>(simp [d2,d1] at p2_1)<;>cases d3:D 3<;>(simp [d3,d2] at p3_2)<;>cases d4:D 4<;>(simp [d4,d3] at p4_3)<;>(intro K w;simp [nP,cN,bY,aQ,aX,d0,d1,d2,d3,d4,d5,d6,d7] at w ⊢;refine wC rfl fun K' z=>?_;simp [q,a9,b0,b1];refine z _ (wN ?_);first | exact w | simpa [a9,b0,b1] using w)
  intro D d7 g1 g2 gc;have d1:D 1=true:=g1 1 (by simp)
  have d2:D 2=true:=g1 2 (by simp)
  have d3:D 3=true:=g1 3 (by simp)
  have d4:D 4=true:=g1 4 (by simp)
  have d5:D 5=true:=g1 5 (by simp)
  have d6:D 6=true:=g1 6 (by simp)
  cases d0:D 0<;>(intro K w;simp [nP,cN,bY,aQ,aX,d0,d1,d2,d3,d4,d5,d6,d7] at w ⊢;refine wC rfl fun K' z=>?_;simp [q,a9,b0,b1];refine z _ (wN ?_);first | exact w | simpa [a9,b0,b1] using w)
 simp [nP,cN,aQ,aX]
 iterate 3 (refine aH q ?_ rfl (by simp [a9,b0,b1];rfl))
 apply wN;apply w;refine O.zS y ?_
 iterate 7 refine aH q ?_
 apply wN;cases h;refine O.ret ?_;simp [aO,iB,res57]
theorem nT:∀ n:Nat,(∀ (a0:Gl04Pack) (a1:Int) (a2:Int) {r0:Int} {q0:Gl04Pack},(bD n) a0 a1 a2=some (r0,q0)→Ok E 57 [.ptr [.sl false 4 (List.map (GNode.enc false) a0.from_),.sl true 4 (List.map (GNode.enc true) a0.to_),vb a0.bad],.val (vi a1),.val (vi a2)] [vi r0] [[.sl false 4 (List.map (GNode.enc false) q0.from_),.sl true 4 (List.map (GNode.enc true) q0.to_),vb q0.bad]])
 | 0=>(by intros;rename_i h;cases h)
 | n + 1=>vX (bD n) (nT n)
instance c57_ (a0:Gl04Pack) (a1:Int) (a2:Int) {r0:Int} {q0:Gl04Pack}:Con E 57 (gK a0 a1 a2=some (r0,q0)) [.ptr [.sl false 4 (List.map (GNode.enc false) a0.from_),.sl true 4 (List.map (GNode.enc true) a0.to_),vb a0.bad],.val (vi a1),.val (vi a2)] [vi r0] [[.sl false 4 (List.map (GNode.enc false) q0.from_),.sl true 4 (List.map (GNode.enc true) q0.to_),vb q0.bad]]:=Con.mk fun h=>(nT bL) _ _ _ h
instance e57_:Ent E 57:=⟨ent57⟩
end Go.Proofs.T
