import Derived.Test.YtgcgpnhokjhghabGreatDoorW0
import Derived.Test.YtgcgpnhokjhghabGreatDoorW1
import Derived.Test.YtgcgpnhokjhghabGreatDoorW10
import Derived.Test.YtgcgpnhokjhghabGreatDoorW12
import Derived.Test.YtgcgpnhokjhghabGreatDoorW15
import Derived.Test.YtgcgpnhokjhghabGreatDoorW18
import Derived.Test.YtgcgpnhokjhghabGreatDoorW19
import Derived.Test.YtgcgpnhokjhghabGreatDoorW2
import Derived.Test.YtgcgpnhokjhghabGreatDoorW20
import Derived.Test.YtgcgpnhokjhghabGreatDoorW21
import Derived.Test.YtgcgpnhokjhghabGreatDoorW3
import Derived.Test.YtgcgpnhokjhghabGreatDoorW6
import Derived.Test.YtgcgpnhokjhghabGreatDoorW9
set_option linter.unusedVariables false
set_option linter.unusedSimpArgs false
set_option linter.unusedVariables false
set_option linter.unusedSimpArgs false
set_option maxHeartbeats 8000000
set_option maxRecDepth 100000
namespace Go.Proofs.T
open Go.OM
section
attribute [local irreducible] Hg O St.wps aO iB Lv Ct Lp VL Option.bind aP sAt eK bN bO mkI eS fO bF aI ite Dr
instance e11_:Ent E 11:=aY Tryz.func11
instance c11_ (p1:GProgram) (a0:Int) {r0:List Int}:Con E 11 (jJ p1 a0=some r0) [.val (GProgram.enc false p1),.val (vi a0)] [.sl true 1 (List.map vi r0)] []:=by
 refine eZ Tryz.func11 fun C q=>?_;unfold jJ;repeat' first | refine And.intro ?_ ?_ | refine Prod.forall.2 ?_ | (intro _;try dsimp only) | refine eY ?_ | exact Z | refine cR 8 [2,5,9,12,13,14,37] [2] (fun v=>[(37,.t (vb v))]) (fun _=>[]) ?_ | refine bG 3024 [2,5,12,13,14] [2] (fun v=>[(5,.t (.sl true 1 (List.map vi v.1))),(14,.t (vi v.2))]) (fun _=>[]) (by unfold lM;rfl) ?_ | refine cG 2028 [5] [] (fun v=>[(5,.t (.sl true 1 (List.map vi v)))]) (fun _=>[]) ?_ | refine S ?_
instance e63_:Ent E 63:=aY Tryz.func63
instance c63_ (p1:GProgram) (a0:Int) {r0:Bool}:Con E 63 (qD p1 a0=some r0) [.val (GProgram.enc false p1),.val (vi a0)] [vb r0] []:=by
 refine eZ Tryz.func63 fun C q=>?_;unfold qD;repeat' first | refine And.intro ?_ ?_ | refine Prod.forall.2 ?_ | (intro _;try dsimp only) | refine eY ?_ | exact Z | refine bG 3018 [5,11,12,13] [] (fun v=>[(13,.t (vi v))]) (fun _=>[]) (by unfold lH;rfl) ?_ | refine eW 2022 [] [] (fun _=>[]) (fun _=>[]) ?_ | refine S ?_
instance e90_:Ent E 90:=aY Tryz.func90
instance c90_ (r1:Gl05Read) {r0:GFn} {q0:Gl05Read}:Con E 90 (gA r1=some (r0,q0)) [.ptr [.sl true 3 (List.map GSign.enc r1.list),vi r1.at_,vb r1.bad,vi r1.deep,.sl true 4 (List.map (GNode.enc true) r1.nodes)]] [GFn.enc true r0] [[.sl true 3 (List.map GSign.enc q0.list),vi q0.at_,vb q0.bad,vi q0.deep,.sl true 4 (List.map (GNode.enc true) q0.nodes)]]:=by
 refine eZ Tryz.func90 fun C q=>?_;unfold gA;repeat' first | refine And.intro ?_ ?_ | refine Prod.forall.2 ?_ | (intro _;try dsimp only) | refine eY ?_ | exact Z | refine cG 1005 [0,2] [2,67] (fun _=>[]) (fun v=>[(67,[.sl true 3 (List.map GSign.enc v.list),vi v.at_,vb v.bad,vi v.deep,.sl true 4 (List.map (GNode.enc true) v.nodes)])]) ?_ | refine bG 6022 [0,2,3] [2,3,67] (fun _=>[]) (fun v=>[(3,[vs v.1.Name,.sl true 2 (List.map GParam.enc v.1.Params),vi v.1.Res,vi v.1.Body,vi v.1.Ret]),(67,[.sl true 3 (List.map GSign.enc v.2.list),vi v.2.at_,vb v.2.bad,vi v.2.deep,.sl true 4 (List.map (GNode.enc true) v.2.nodes)])]) (by unfold gR;rfl) ?_ | refine cG 5028 [0,2,3] [2,3,67] (fun _=>[]) (fun v=>[(3,[vs v.1.Name,.sl true 2 (List.map GParam.enc v.1.Params),vi v.1.Res,vi v.1.Body,vi v.1.Ret]),(67,[.sl true 3 (List.map GSign.enc v.2.list),vi v.2.at_,vb v.2.bad,vi v.2.deep,.sl true 4 (List.map (GNode.enc true) v.2.nodes)])]) ?_ | refine cG 13005 [0,2,3] [2,3,67] (fun _=>[]) (fun v=>[(3,[vs v.1.Name,.sl true 2 (List.map GParam.enc v.1.Params),vi v.1.Res,vi v.1.Body,vi v.1.Ret]),(67,[.sl true 3 (List.map GSign.enc v.2.list),vi v.2.at_,vb v.2.bad,vi v.2.deep,.sl true 4 (List.map (GNode.enc true) v.2.nodes)])]) ?_ | refine cG 18007 [0,2,3] [2,3,67] (fun _=>[]) (fun v=>[(3,[vs v.1.Name,.sl true 2 (List.map GParam.enc v.1.Params),vi v.1.Res,vi v.1.Body,vi v.1.Ret]),(67,[.sl true 3 (List.map GSign.enc v.2.list),vi v.2.at_,vb v.2.bad,vi v.2.deep,.sl true 4 (List.map (GNode.enc true) v.2.nodes)])]) ?_ | refine S ?_
instance e12_:Ent E 12:=aY Tryz.func12
instance c12_ (p1:GProgram) (a0:Int) {r0:List Int}:Con E 12 (jI p1 a0=some r0) [.val (GProgram.enc false p1),.val (vi a0)] [.sl true 1 (List.map vi r0)] []:=by
 refine eZ Tryz.func12 fun C q=>?_;unfold jI;repeat' first | refine And.intro ?_ ?_ | refine Prod.forall.2 ?_ | (intro _;try dsimp only) | refine eY ?_ | exact Z | refine bG 4022 [2,5,6,7] [2] (fun v=>[(5,.t (.sl true 1 (List.map vi v.1))),(7,.t (vi v.2))]) (fun _=>[]) (by unfold lD;rfl) ?_ | refine cG 3026 [5] [] (fun v=>[(5,.t (.sl true 1 (List.map vi v)))]) (fun _=>[]) ?_ | refine S ?_
end
theorem res70:Tryz.f70.results.toList=[.tmp 4]:=rfl
theorem ent70:dR E.P 70:=eO Tryz.func70 (by simp [Tryz.f70]) rfl
instance c70_ (c1:Gl01Cur) (a0:Int) {r0:ByteArray} {q0:Gl01Cur}:Con E 70 (pS c1 a0=some (r0,q0)) [.ptr [.sl false 1 (List.map (vk .u8) c1.b),vi c1.i,vi c1.h],.val (vi a0)] [vs r0] [[.sl false 1 (List.map (vk .u8) q0.b),vi q0.i,vi q0.h]]:=Con.mk fun h=>by
 refine aJa (fn:=Tryz.f70) Tryz.func70 rfl (by simp [Tryz.f70]) fun C hN hP a5=>?_
 obtain ⟨hb,ho,hPK⟩:=a5 0 _ rfl;have hPK:(30,hb,ho,3) ∈ C.PK:=hPK;have y:∀ l,yK [] l=true→oX C.pin l=true:=pO (by rw [hP];rfl)
 have q:C.N=30:=hN;clear hN;unfold pS at h
 iterate 6 first|refine V_q q ?_|apply aT|refine O.zT y ?_
 obtain ⟨⟨r3,q4⟩,b1,h⟩:=bS h;try dsimp only at h
 refine nQ fun KW hKW=>?_;refine fP [((.ptr 3),.tmp 8),(.take,.const (.int .i64 6))] q (Ent.ok (E:=E) (f:=91)) (Con.ok b1) ?_;refine wN (hKW _ ?_);clear hKW;refine V_raw 7 30 hPK fun K u=>?_;simp [q];apply u
 iterate 10 first|refine V_q q ?_|apply aT|refine O.zT y ?_
 obtain ⟨⟨a2,a6⟩,b2,h⟩:=bS h;try dsimp only at h
 refine O.seqC [0,5] [11,30] (fun _:Unit=>⟨[(0,.ref (.box 30) 0 []),(5,.ref (.box 11) 0 [])],[(11,[.v (adr hb ho),.sl false 1 (List.map vs a2.ints),.sl false 1 (List.map vs a2.boxes),vi a2.n,vs a2.text,vb a2.wild]),(30,[.sl false 1 (List.map (vk .u8) a6.b),vi a6.i,vi a6.h])]⟩) (fun _=>True) (fun _ _=>?_) fun K7 b3=>?_;rotate_left
 ·refine O.zT y ?_;refine V_q q ?_;apply aT;refine O.block ?_;refine O.freezeB 11 1 fun K u=>?_;simp [q];apply u;refine O.freezeB 11 2 fun K u=>?_;simp [q];apply u;refine O.loopO [] [0,1,5,6] [11,30] (fun v:Int × Gl05Made × Gl01Cur=>⟨[(0,.ref (.box 30) 0 []),(1,.t (vi a0)),(5,.ref (.box 11) 0 []),(6,.t (vi v.1))],[(11,[.v (adr hb ho),.sl false 1 (List.map vs v.2.1.ints),.sl false 1 (List.map vs v.2.1.boxes),vi v.2.1.n,vs v.2.1.text,vb v.2.1.wild]),(30,[.sl false 1 (List.map (vk .u8) v.2.2.b),vi v.2.2.i,vi v.2.2.h])]⟩) (nS a0) _ ((0:Int),(⟨(),[],[],0,(⟨#[102,110,32,115,117,109,40,97,58,32,105,110,116,44,32,98,58,32,105,110,116,41,32,45,62,32,105,110,116,32,123,32,114,101,116,32,97,32,43,32,98,59,32,125,32,102,110,32,115,104,111,119,40,114,58,32,38,98,111,120,41,32,123,32,112,114,105,110,116,32,42,114,59,32,125,32,102,110,32,98,117,109,112,40,109,58,32,38,109,117,116,32,98,111,120,44,32,110,58,32,105,110,116,41,32,123,32,42,109,32,61,32,42,109,32,43,32,110,59,32,125,32,102,110,32,109,97,107,101,40,110,58,32,105,110,116,41,32,45,62,32,98,111,120,32,123,32,108,101,116,32,118,32,61,32,110,101,119,32,110,59,32,114,101,116,32,118,59,32,125,32,102,110,32,101,97,116,40,98,58,32,98,111,120,41,32,123,32,112,114,105,110,116,32,42,98,59,32,125,32,102,110,32,109,97,105,110,40,41,32,123,32]⟩:ByteArray),r3⟩:Gl05Made),q4) b2 (by simp [q]) ?_
  intro g b7 a1 a7;obtain ⟨i9,b8,b9⟩:=g;simp only [nS] at a1;try dsimp only
  refine O.seq ?_;refine O.zT y ?_
  iterate 3 refine V_q q ?_
  obtain ⟨⟨c0,c2⟩,a8,a1⟩:=bS a1;try dsimp only at a1
  refine nQ fun KW hKW=>?_;refine fP [((.ptr 3),.tmp 16),(.take,.tmp 17)] q (Ent.ok (E:=E) (f:=34)) (Con.ok a8) ?_;refine wN (hKW _ ?_);clear hKW
  iterate 2 refine V_q q ?_
  apply aT;refine O.cI a1 (fun b4 a1=>?_) fun b5 a1=>?_
  ·refine O.skip ?_;refine O.seq ?_;refine O.block ?_;refine O.zU y ?_;refine V_q q ?_;obtain ⟨⟨c3,c4⟩,a9,a1⟩:=bS a1;try dsimp only at a1
   refine dE [((.ptr 6),.tmp 23),(.take,.const (.int .i64 2)),(.take,.const (.bool true))] 24 30 rfl rfl rfl (by simp [gE]) ent92 hPK (.inl rfl) (xW _ _ _ _ _ _ a9) fun K u=>?_;simp [q];apply u
   apply aT;refine O.zU y ?_
   iterate 3 refine V_q q ?_
   apply aT;cases a1;exact ⟨_,[],rfl,by simp [q]⟩
  refine O.exit ?_;have b6:=congrArg some (a7 _ (Option.some.inj a1).symm);cases b6;exact b3 _ () [] trivial (by simp [q])
 refine O.zT y ?_
 iterate 4 refine V_q q ?_
 obtain ⟨c5,b0,h⟩:=bS h;obtain ⟨a3,a4⟩:=aC b0;refine V_q q ?_ rfl (by simp [a3,a4];rfl)
 refine V_q q ?_;apply aT;cases h;refine O.ret ?_;simp [aO,iB,res70]
instance e70_:Ent E 70:=⟨ent70⟩
end Go.Proofs.T
