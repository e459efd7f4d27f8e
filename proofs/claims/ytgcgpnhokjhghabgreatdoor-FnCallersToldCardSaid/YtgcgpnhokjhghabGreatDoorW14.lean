import Derived.Test.YtgcgpnhokjhghabGreatDoorW1
import Derived.Test.YtgcgpnhokjhghabGreatDoorW12
import Derived.Test.YtgcgpnhokjhghabGreatDoorW13
import Derived.Test.YtgcgpnhokjhghabGreatDoorW3
set_option linter.unusedVariables false
set_option linter.unusedSimpArgs false
set_option linter.unusedVariables false
set_option linter.unusedSimpArgs false
set_option maxHeartbeats 8000000
set_option maxRecDepth 100000
namespace Go.Proofs.T
open Go.OM
section
attribute [local irreducible] Hg O St.wps aO iB Lv Ct Lp VL Option.bind aP sAt eK bN bO mkI eS fO bF aI ite Dr
instance e49_:Ent E 49:=aY Tryz.func49
instance c49_ (a0:List GNode) (k2:Int) {r0:Int}:Con E 49 (pJ a0 k2=some r0) [.val (.sl false 4 (List.map (GNode.enc false) a0)),.val (vi k2)] [vi r0] []:=by
 refine eZ Tryz.func49 fun C q=>?_;unfold pJ;repeat' first | refine And.intro ?_ ?_ | refine Prod.forall.2 ?_ | (intro _;try dsimp only) | refine eY ?_ | exact Z | refine S ?_
instance e79_:Ent E 79:=aY Tryz.func79
instance c79_ (a0:List GNode) (k2:Int) {r0:Int}:Con E 79 (rN a0 k2=some r0) [.val (.sl false 4 (List.map (GNode.enc false) a0)),.val (vi k2)] [vi r0] []:=by
 refine eZ Tryz.func79 fun C q=>?_;unfold rN;repeat' first | refine And.intro ?_ ?_ | refine Prod.forall.2 ?_ | (intro _;try dsimp only) | refine eY ?_ | exact Z | refine S ?_
end
theorem aNm:Tryz.f31.results.toList=[.tmp 2]:=rfl
theorem aRt:dR E.P 31:=eO Tryz.func31 (by simp [Tryz.f31]) rfl
instance c31_ (p1:GProgram) {r0:Bool}:Con E 31 (iJ p1=some r0) [.val (GProgram.enc false p1)] [vb r0] []:=Con.mk fun h=>by
 refine oB Tryz.func31 rfl (by simp [Tryz.f31]) fun C (q:C.N=108) hP=>?_
 have u:=zW hP;unfold iJ at h;refine O.zS u ?_
 iterate 2 refine aH q ?_
 apply wN;refine O.seq ?_;obtain ⟨i3,d1,h⟩:=bS h;refine O.seqRC rfl (u _ rfl) [1,18] [1] (fun _:Unit=>⟨[(1,.ref (.box 1) 0 []),(18,.t (vb i3))],[(1,[.sl false 4 (List.map (GNode.enc false) p1.Nodes),.sl false 5 (List.map (GFn.enc false) p1.Fns)])]⟩) (fun _=>True) (fun _ _=>?_) fun K3 i1=>?_;rotate_left
 ·refine aH q ?_
  iterate 2 refine aH q ?_
  obtain ⟨r4,i4,d1⟩:=bS d1;refine fP [(.take,.tmp 9),(.take,.const (.int .i64 1)),(.take,.const (.int .i64 300))] q (Ent.ok (E:=E) (f:=43)) (Con.ok i4) ?_
  iterate 2 refine aH q ?_
  rcases mD d1 with ⟨g1,d1⟩ | ⟨e2,d1⟩
  ·have d2:=g1;try simp at d2
   iterate 5 (refine wO fun K r=>?_;simp [q,g1,d2];apply r)
   refine aH q ?_ rfl (by simp [g1,d2];rfl)
   refine wN ?_;cases d1;exact i1 _ () [] trivial (by simp [q,g1,d2])
  have c9:=e2;try simp at c9
  iterate 3 (refine aH q ?_ rfl (by simp [e2,c9];rfl))
  obtain ⟨r8,i5,d1⟩:=bS d1;refine fP [(.take,.tmp 15),(.take,.const (.int .i64 1)),(.take,.const (.int .i64 8))] q (Ent.ok (E:=E) (f:=43)) (Con.ok i5) ?_ rfl rfl (by simp [e2,c9];rfl)
  iterate 2 (refine aH q ?_ rfl (by simp [e2,c9];rfl))
  refine wN ?_;cases d1;exact i1 _ () [] trivial (by simp [q,e2,c9])
 refine O.cI h (fun i6 h=>?_) fun i7 h=>?_
 ·refine O.zS u ?_;refine aH q ?_;apply wN;cases h;refine O.ret ?_;simp [aO,iB,aNm]
 refine O.skip ?_;refine O.zS u ?_
 iterate 6 refine aH q ?_
 obtain ⟨l0,g3,h⟩:=bS h;refine fP [(.take,.tmp 20),(.take,.tmp 24)] q (Ent.ok (E:=E) (f:=53)) (Con.ok g3) ?_;refine aH q ?_;apply wN;refine O.seq ?_;refine O.zS u ?_
 iterate 4 refine aH q ?_
 obtain ⟨l1,g4,h⟩:=bS h;obtain ⟨e3,d4,d5,d6⟩:=gS g4;have d7:=d4;try simp at d7
 try simp only [Int.toNat_natCast] at d5 d6
 iterate 3 (refine aH q ?_ rfl (by simp [e3,d4,d5,d6,d7];rfl))
 apply wN;refine O.cI h (fun i8 h=>?_) fun i9 h=>?_
 ·refine O.zS u ?_;refine aH q ?_;apply wN;cases h;refine O.ret ?_;simp [aO,iB,aNm]
 refine O.skip ?_;refine O.zS u ?_
 iterate 2 refine aH q ?_
 obtain ⟨j0,g5,h⟩:=bS h;refine fP [(.take,.tmp 34)] q (Ent.ok (E:=E) (f:=54)) (Con.ok g5) ?_;refine aH q ?_;apply wN;obtain ⟨j1,g6,h⟩:=bS h;refine O.seqC [4] [] (fun v:List Int=>⟨[(4,.t (.sl true 1 (List.map vi v)))],[]⟩) (fun v=>j1=Sum.inl v) (fun v hv=>?_) fun l2 g7=>?_;rotate_left
 ·refine O.zS u ?_;refine aH q ?_;apply wN;refine O.block ?_;refine O.loopO [] [1,4,5] [1] (fun v:(List Int) × Int=>⟨[(1,.ref (.box 1) 0 []),(4,.t (.sl true 1 (List.map vi v.1))),(5,.t (vi v.2))],[(1,[.sl false 4 (List.map (GNode.enc false) p1.Nodes),.sl false 5 (List.map (GFn.enc false) p1.Fns)])]⟩) (dP p1) _ (j0,(0:Int)) g6 (by simp [q]) ?_
  intro g l3 a0 e4;obtain ⟨e0,g2⟩:=g;simp only [dP] at a0;try dsimp only
  refine O.seq ?_;refine O.zS u ?_
  iterate 5 refine aH q ?_
  apply wN;refine O.cI a0 (fun j2 a0=>?_) fun j3 a0=>?_
  ·refine O.skip ?_;refine O.seq ?_;refine O.block ?_;refine O.seq ?_;refine O.zS u ?_
   iterate 2 refine aH q ?_
   obtain ⟨l4,g8,a0⟩:=bS a0;refine fP [(.take,.tmp 43),(.take,.tmp 44)] q (Ent.ok (E:=E) (f:=55)) (Con.ok g8) ?_;refine aH q ?_;apply wN;refine O.cI a0 (fun j4 a0=>?_) fun j5 a0=>?_
   ·refine O.zS u ?_;refine aH q ?_;apply wN;have j6:=congrArg some (e4 _ (Option.some.inj a0).symm);cases j6;try dsimp only at h
    cases h;refine O.ret ?_;simp [aO,iB,aNm]
   refine O.skip ?_;refine O.seq ?_;obtain ⟨a1,g9,a0⟩:=bS a0;obtain ⟨b7,b8,b9,c0⟩:=gS g9;obtain ⟨h0,h1,a0⟩:=bS a0;obtain ⟨c1,a7,a8,a9⟩:=gS h1;have b0:=a7;try simp at b0
   try simp only [Int.toNat_natCast] at a8 a9
   refine O.dT rfl (u _ rfl) (en 47 [.al (.slot 4) 0 [] none,rf 1 1,.t (.sl false 5 (List.map (GFn.enc false) p1.Fns)),.t (vi g2),.rop [vs a1.Name,.sl false 2 (List.map GParam.enc a1.Params),vi a1.Res,vi a1.Body,vi a1.Ret] 0,.rop [vs a1.Name,.sl false 2 (List.map GParam.enc a1.Params),vi a1.Res,vi a1.Body,vi a1.Ret] 3,.t (vi a1.Body),.al (.slot 4) 0 [] none,rf 1 1,.t (.sl false 5 (List.map (GFn.enc false) p1.Fns)),.t (vi g2),.rop [vs a1.Name,.sl false 2 (List.map GParam.enc a1.Params),vi a1.Res,vi a1.Body,vi a1.Ret] 0,.rop [vs a1.Name,.sl false 2 (List.map GParam.enc a1.Params),vi a1.Res,vi a1.Body,vi a1.Ret] 3,.t (vi a1.Body),.ref (.slot 4) 0 [(a1.Body.toNat,0)],.t (vi h0),.t (vi (IntKind.wrap .i64 (h0 + 1000)))]) [[],[],[1],[],[1,2,3],rg 1 4,rg 1 5,[],[],[8],[],[8,9,10],rg 8 4,rg 8 5,rg 7 7,rg 7 8,rg 7 9,rg 0 17,rg 0 18] (by simp) (by simp) (by simp [look]) rfl rfl rfl ?_ fun K w=>?_
   ·refine ⟨?_,?_,?_,?_,?_,?_,?_,?_,?_,?_,?_,?_,?_,?_,?_,?_,?_,trivial⟩;all_goals (intro τ hbx hb hd hf K w;try simp [bQ] at hd;simp [bQ] at hf;first | (refine wC rfl fun K' z=>?_;simp [q,hbx,hb,hd,hf,b7,b8,b9,c0,c1,a7,a8,a9,b0];exact z _ (wN (w _ (by simp [bQ,hbx,b7,b8,b9,c0,c1,a7,a8,a9,b0])))))
   refine aH q ?_ rfl (by simp [b7,b8,b9,c0,c1,a7,a8,a9,b0];rfl)
   obtain ⟨i2,h2,a0⟩:=bZ a0;have d8:(List.map vi e0).set a1.Body.toNat (vi (IntKind.wrap .i64 (h0 + 1000)))=List.map vi i2:=qT (f:=vi) h2;try simp only [Int.toNat_natCast] at d8
   refine aH q ?_ rfl (by simp [b7,b8,b9,c0,c1,a7,a8,a9,b0,d8];rfl)
   apply wN;apply w;refine O.zS u ?_
   iterate 3 refine aH q ?_
   obtain ⟨l5,h3,a0⟩:=bS a0;obtain ⟨e5,e6,e7,e8⟩:=gS h3
   iterate 4 (refine aH q ?_ rfl (by simp [e5,e6,e7,e8];rfl))
   apply wN;refine O.cI a0 (fun j7 a0=>?_) fun j8 a0=>?_
   ·obtain ⟨a2,h4,a0⟩:=bS a0;obtain ⟨c2,c3,c4,c5⟩:=gS h4;obtain ⟨h5,h6,a0⟩:=bS a0;obtain ⟨c6,b1,b2,b3⟩:=gS h6;have b4:=b1;try simp at b4
    try simp only [Int.toNat_natCast] at b2 b3
    refine O.dT rfl (u _ rfl) (en 72 [.al (.slot 4) 0 [] none,rf 1 1,.t (.sl false 5 (List.map (GFn.enc false) p1.Fns)),.t (vi g2),.rop [vs a2.Name,.sl false 2 (List.map GParam.enc a2.Params),vi a2.Res,vi a2.Body,vi a2.Ret] 0,.rop [vs a2.Name,.sl false 2 (List.map GParam.enc a2.Params),vi a2.Res,vi a2.Body,vi a2.Ret] 4,.t (vi a2.Ret),.al (.slot 4) 0 [] none,rf 1 1,.t (.sl false 5 (List.map (GFn.enc false) p1.Fns)),.t (vi g2),.rop [vs a2.Name,.sl false 2 (List.map GParam.enc a2.Params),vi a2.Res,vi a2.Body,vi a2.Ret] 0,.rop [vs a2.Name,.sl false 2 (List.map GParam.enc a2.Params),vi a2.Res,vi a2.Body,vi a2.Ret] 4,.t (vi a2.Ret),.ref (.slot 4) 0 [(a2.Ret.toNat,0)],.t (vi h5),.t (vi (IntKind.wrap .i64 (h5 + 1000)))]) [[],[],[1],[],[1,2,3],rg 1 4,rg 1 5,[],[],[8],[],[8,9,10],rg 8 4,rg 8 5,rg 7 7,rg 7 8,rg 7 9,rg 0 17,rg 0 18] (by simp) (by simp) (by simp [look]) rfl rfl rfl ?_ fun K w=>?_
    ·refine ⟨?_,?_,?_,?_,?_,?_,?_,?_,?_,?_,?_,?_,?_,?_,?_,?_,?_,trivial⟩;all_goals (intro τ hbx hb hd hf K w;try simp [bQ] at hd;simp [bQ] at hf;first | (refine wC rfl fun K' z=>?_;simp [q,hbx,hb,hd,hf,c2,c3,c4,c5,c6,b1,b2,b3,b4];exact z _ (wN (w _ (by simp [bQ,hbx,c2,c3,c4,c5,c6,b1,b2,b3,b4])))))
    refine aH q ?_ rfl (by simp [c2,c3,c4,c5,c6,b1,b2,b3,b4];rfl)
    obtain ⟨j9,h7,a0⟩:=bZ a0;have d9:(List.map vi i2).set a2.Ret.toNat (vi (IntKind.wrap .i64 (h5 + 1000)))=List.map vi j9:=qT (f:=vi) h7;try simp only [Int.toNat_natCast] at d9
    refine aH q ?_ rfl (by simp [c2,c3,c4,c5,c6,b1,b2,b3,b4,d9];rfl)
    apply wN;apply w;refine O.zH u ?_
    iterate 3 refine aH q ?_
    apply wN;cases a0;exact ⟨_,[],rfl,by simp [q]⟩
   refine O.skip ?_;refine O.zH u ?_
   iterate 3 refine aH q ?_
   apply wN;cases a0;exact ⟨_,[],rfl,by simp [q]⟩
  refine O.exit ?_;have k0:=congrArg some (e4 _ (Option.some.inj a0).symm);cases k0;exact g7 _ _ [] rfl (by simp [q])
 subst hv;obtain ⟨b5,hv⟩:∃ y,y=v:=⟨_,rfl⟩;subst hv;try dsimp only at h ⊢
 obtain ⟨k1,h8,h⟩:=bS h;refine O.seqC [] [] (fun v:Unit=>⟨[],[]⟩) (fun v=>k1=Sum.inl v) (fun v hv=>?_) fun l6 h9=>?_;rotate_left
 ·refine O.zS u ?_;refine aH q ?_;apply wN;refine O.block ?_;refine O.loopO [] [4,6] [] (fun v:Int=>⟨[(4,.t (.sl true 1 (List.map vi b5))),(6,.t (vi v))],[]⟩) (fS b5) _ (0:Int) h8 (by simp [q]) ?_
  intro g l7 c8 e9;obtain ⟨k2,hg⟩:∃ y,y=g:=⟨_,rfl⟩;subst hg;simp only [fS] at c8;try dsimp only
  refine O.seq ?_;refine O.zS u ?_
  iterate 4 refine aH q ?_
  apply wN;refine O.cI c8 (fun k3 c8=>?_) fun k4 c8=>?_
  ·refine O.skip ?_;refine O.seq ?_;refine O.block ?_;obtain ⟨k5,b6,c8⟩:=bS c8;refine O.seqRC rfl (u _ rfl) [4,6,107] [] (fun _:Unit=>⟨[(4,.t (.sl true 1 (List.map vi b5))),(6,.t (vi k2)),(107,.t (vb k5))],[]⟩) (fun _=>True) (fun _ _=>?_) fun l8 g0=>?_;rotate_left
   ·refine aH q ?_;refine aH q ?_;obtain ⟨l9,i0,b6⟩:=bS b6;obtain ⟨a3,a4,a5,a6⟩:=gS i0
    iterate 4 (refine aH q ?_ rfl (by simp [a3,a4,a5,a6];rfl))
    rcases mD b6 with ⟨e1,b6⟩ | ⟨d3,b6⟩
    ·have d0:=e1;try simp at d0
     iterate 6 (refine aH q ?_ rfl (by simp [a3,a4,a5,a6,e1,d0];rfl))
     refine wN ?_;cases b6;exact g0 _ () [] trivial (by simp [q,a3,a4,a5,a6,e1,d0])
    have c7:=d3;try simp at c7
    iterate 5 (refine wO fun K r=>?_;simp [q,a3,a4,a5,a6,d3,c7];apply r)
    refine aH q ?_ rfl (by simp [a3,a4,a5,a6,d3,c7];rfl)
    refine wN ?_;cases b6;exact g0 _ () [] trivial (by simp [q,a3,a4,a5,a6,d3,c7])
   refine O.cI c8 (fun k6 c8=>?_) fun k7 c8=>?_
   ·refine O.zS u ?_;refine aH q ?_;apply wN;have k8:=congrArg some (e9 _ (Option.some.inj c8).symm);cases k8;try dsimp only at h
    cases h;refine O.ret ?_;simp [aO,iB,aNm]
   refine O.skip ?_;refine O.zH u ?_
   iterate 3 refine aH q ?_
   apply wN;cases c8;exact ⟨_,[],rfl,by simp [q]⟩
  refine O.exit ?_;have k9:=congrArg some (e9 _ (Option.some.inj c8).symm);cases k9;exact h9 _ _ [] rfl (by simp [q])
 subst hv;obtain ⟨⟩:=v;try dsimp only at h ⊢
 refine O.zS u ?_;refine aH q ?_;apply wN;cases h;refine O.ret ?_;simp [aO,iB,aNm]
instance e31_:Ent E 31:=⟨aRt⟩
end Go.Proofs.T
