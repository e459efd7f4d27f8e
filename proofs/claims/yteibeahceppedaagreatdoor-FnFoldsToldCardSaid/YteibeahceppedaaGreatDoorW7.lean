import Derived.Test.YteibeahceppedaaGreatDoorW0
import Derived.Test.YteibeahceppedaaGreatDoorW2
import Derived.Test.YteibeahceppedaaGreatDoorW5
import Derived.Test.YteibeahceppedaaGreatDoorW6
set_option linter.unusedVariables false
set_option linter.unusedSimpArgs false
set_option linter.unusedVariables false
set_option linter.unusedSimpArgs false
set_option maxHeartbeats 8000000
set_option maxRecDepth 100000
namespace Go.Proofs.T
open Go.OM
section
attribute [local irreducible] Hg O St.wps aO iB Lv Ct Lp VL Option.bind aY sAt fD bK bW mkI fE gO bF aJ ite Dr
instance e59_:Ent E 59:=aX Tryz.func59
instance c59_ (s1:ByteArray) {r0:Bool}:Con E 59 (fU s1=some r0) [.val (vs s1)] [vb r0] []:=by
 refine fW Tryz.func59 fun C q=>?_
 unfold fU
 repeat' first | refine And.intro ?_ ?_ | refine Prod.forall.2 ?_ | (intro _;try dsimp only) | refine fS ?_ | exact Z | refine cK 1 [0,17] [] (fun v=>[(17,.t (vb v))]) (fun _=>[]) ?_ | refine cK 6 [0,3,35] [] (fun v=>[(35,.t (vb v))]) (fun _=>[]) ?_ | refine cH 4016 [0,3] [] (fun v=>[(3,.t (vi v))]) (fun _=>[]) (by unfold iH;rfl) ?_ | refine iF 3020 [] [] (fun _=>[]) (fun _=>[]) ?_ | refine S ?_
instance e69_:Ent E 69:=aX Tryz.func69
instance c69_ (a0:Int) (a2:Int) (a1:Int) {r0:Bool}:Con E 69 (mP a0 a2 a1=some r0) [.val (vi a0),.val (vi a2),.val (vi a1)] [vb r0] []:=by
 refine fW Tryz.func69 fun C q=>?_
 unfold mP
 repeat' first | refine And.intro ?_ ?_ | refine Prod.forall.2 ?_ | (intro _;try dsimp only) | refine fS ?_ | exact Z | refine dP 4005 [1,2,7,12] [] (fun v=>[(12,.t (vb v))]) (fun _=>[]) ?_ | refine S ?_
instance e55_:Ent E 55:=aX Tryz.func55
instance c55_ (c1:Gl01Cur) (a0:List ByteArray) {r0:ByteArray} {q0:Gl01Cur}:Con E 55 (fN c1 a0=some (r0,q0)) [.ptr [.sl false 1 (List.map (vk .u8) c1.b),vi c1.i,vi c1.h],.val (.sl false 1 (List.map vs a0))] [vs r0] [[.sl false 1 (List.map (vk .u8) q0.b),vi q0.i,vi q0.h]]:=by
 refine fW Tryz.func55 fun C q=>?_
 unfold fN
 repeat' first | refine And.intro ?_ ?_ | refine Prod.forall.2 ?_ | (intro _;try dsimp only) | refine fS ?_ | exact Z | refine S ?_
instance e13_:Ent E 13:=aX Tryz.func13
instance c13_ (a1:GProgram) (b2:GProgram) {r0:Bool}:Con E 13 (kA a1 b2=some r0) [.val (GProgram.enc false a1),.val (GProgram.enc false b2)] [vb r0] []:=by
 refine fW Tryz.func13 fun C q=>?_
 unfold kA
 repeat' first | refine And.intro ?_ ?_ | refine Prod.forall.2 ?_ | (intro _;try dsimp only) | refine fS ?_ | exact Z | refine cK 1 [2,3,23] [2,3] (fun v=>[(23,.t (vb v))]) (fun _=>[]) ?_ | refine cK 8 [2,3,5,6,7,75] [2,3,6,7] (fun v=>[(75,.t (vb v))]) (fun _=>[]) ?_ | refine cH 11016 [2,3,5,6,7,8] [2,3,6,7] (fun v=>[(8,.t (vi v))]) (fun _=>[]) (by unfold eQ;rfl) ?_ | refine iF 6033 [2,3,5] [2,3] (fun _=>[]) (fun _=>[]) ?_ | refine cH 4041 [2,3,5] [2,3] (fun v=>[(5,.t (vi v))]) (fun _=>[]) (by unfold eR;rfl) ?_ | refine iF 3045 [] [] (fun _=>[]) (fun _=>[]) ?_ | refine S ?_
end
theorem res93:Tryz.f93.results.toList=[.tmp 4]:=rfl
theorem aE9:eG E.P 93:=eO Tryz.func93 (by simp [Tryz.f93]) rfl
theorem cF (hb ho:Nat) (m1:Gl05Made) (s2:ByteArray) (m3:Gl01Cur) {r0:ByteArray} {q0:Gl05Made} {q2:Gl01Cur} (h:bR m1 s2 m3=some (r0,q0,q2)):OkH E 93 2 [adr hb ho] [.ptr [.v (adr hb ho),.sl false 1 (List.map vs m1.ints),.sl false 1 (List.map vs m1.boxes),vi m1.n,vs m1.text,vb m1.wild],.val (vs s2),.ptr [.sl false 1 (List.map (vk .u8) m3.b),vi m3.i,vi m3.h]] [vs r0] [[.v (adr hb ho),.sl false 1 (List.map vs q0.ints),.sl false 1 (List.map vs q0.boxes),vi q0.n,vs q0.text,vb q0.wild],[.sl false 1 (List.map (vk .u8) q2.b),vi q2.i,vi q2.h]]:=by
 refine gU (fn:=Tryz.f93) (vis:=[.ptr [.v (adr hb ho),.sl false 1 (List.map vs m1.ints),.sl false 1 (List.map vs m1.boxes),vi m1.n,vs m1.text,vb m1.wild],.val (vs s2)]) [0,1] [20,22] Tryz.func93 rfl (by simp [Tryz.f93]) rfl rfl rfl rfl fun C hN hP hPK hPKi=>?_
 have y:∀ l,tU [] l=true→lO C.pin l=true:=pO (by rw [hP];rfl)
 have q:C.N=20:=hN
 clear hN
 unfold bR at h
 iterate 20 first|refine V_q q ?_|apply aM|refine O.zT y ?_
 obtain ⟨r4,a2,h⟩:=bS h
 refine jW fun KW hKW=>?_
 refine hE [(.take,.tmp 17)] q (Ent.ok (E:=E) (f:=103)) (Con.ok a2) ?_
 refine wN (hKW _ ?_);clear hKW
 obtain ⟨t6,a3,h⟩:=bS h
 obtain ⟨a0,a1⟩:=aB a3
 refine V_q q ?_ rfl (by simp [a0,a1];rfl)
 refine V_q q ?_
 apply aM
 cases h
 refine O.ret ?_
 simp [aO,iB,res93]
theorem res29:Tryz.f29.results.toList=[.cell 2 27]:=rfl
theorem ent29:eG E.P 29:=eO Tryz.func29 (by simp [Tryz.f29]) rfl
instance c29_ (p1:GProgram) {r0:GProgram}:Con E 29 (eH p1=some r0) [.val (GProgram.enc false p1)] [GProgram.enc true r0] []:=Con.mk fun h=>by
 refine oB Tryz.func29 rfl (by simp [Tryz.f29]) fun C (q:C.N=26) hP=>?_
 have y:=zZ hP
 unfold eH at h
 iterate 7 first|refine aK q ?_|apply wN|refine O.zS y ?_
 obtain ⟨r2,b4,h⟩:=bS h
 refine hE [(.take,.tmp 7)] q (Ent.ok (E:=E) (f:=46)) (Con.ok b4) ?_
 iterate 3 refine aK q ?_
 apply wN
 obtain ⟨b3,b5,h⟩:=bS h
 refine O.seqC [2,3] [2,3] (fun _:Unit=>⟨[(2,.ref (.box 2) 0 []),(3,.ref (.box 3) 0 [])],[(2,[.sl true 4 [],.sl true 5 []]),(3,[.sl true 4 (List.map (GNode.enc true) b3.Nodes),.sl true 5 (List.map (GFn.enc true) b3.Fns)])]⟩) (fun _=>True) (fun _ _=>?_) fun K5 b6=>?_
 rotate_left
 ·refine O.zS y ?_
  iterate 4 refine aK q ?_
  apply wN
  refine O.block ?_
  refine O.loopO [] [2,3,11,12,13] [2,3] (fun v:Int × GProgram=>⟨[(2,.ref (.box 2) 0 []),(3,.ref (.box 3) 0 []),(11,.t (.sl false 5 (List.map (GFn.enc false) p1.Fns))),(12,.t (vi (p1.Fns.length:Int))),(13,.t (vi v.1))],[(2,[.sl true 4 [],.sl true 5 []]),(3,[.sl true 4 (List.map (GNode.enc true) v.2.Nodes),.sl true 5 (List.map (GFn.enc true) v.2.Fns)])]⟩) (dY p1) _ ((0:Int),(⟨r2,[]⟩:GProgram)) b5 (by simp [q]) ?_
  intro g c2 h9 a8
  obtain ⟨v7,v8⟩:=g
  simp only [dY] at h9
  try dsimp only
  refine O.zS y ?_
  refine aK q ?_
  apply wN
  refine O.seq ?_
  refine O.cI h9 (fun b7 h9=>?_) fun b8 h9=>?_
  ·refine O.skip ?_
   refine O.seq ?_
   refine O.block ?_
   refine O.zS y ?_
   obtain ⟨b9,a9,h9⟩:=bS h9
   obtain ⟨a3,a4,a5,a6⟩:=gS a9
   iterate 4 (refine aK q ?_ rfl (by simp [a3,a4,a5,a6];rfl))
   apply wN
   obtain ⟨b0,b1,h9⟩:=bS h9
   refine O.drawX2 rfl (y _ rfl) [17,18,19,20,21] [[(17,.ref (.box 3) 1 [])],[(18,.al (.box 3) 1 [] none)],[(19,.t (GFn.enc false b9))],[(20,.t (GFn.enc true b0))],[(21,.t (.sl true 5 (List.map (GFn.enc true) [b0]))),(20,.u)]] [[],[],[],[],[]] [[],[0],[],[2],[2,3],rg 0 5,rg 0 6,rg 0 7] rfl (by simp) rfl rfl rfl ?_ fun K w=>?_
   ·refine ⟨?_,?_,?_,?_,?_,trivial⟩
    ·refine aL rfl rfl rfl ?_
     intro τ D hbx hl d0 g1 g2 K w
     (simp [aW,bB,d0] at hbx;refine wC rfl fun K' z=>?_;simp [q,hbx,hl,dG,dF,look,d0];exact z _ (wN (w _ (by simp [dW,aW,bB,cE,hbx,d0]))))
    ·refine aL rfl rfl rfl ?_
     intro τ D hbx hl d1 g1 g2 K w
     have d0:=g1 0 (by simp)
     (simp [aW,bB,d0,d1] at hbx;refine wC rfl fun K' z=>?_;simp [q,hbx,hl,dG,dF,look,d0,d1];exact z _ (wN (w _ (by simp [dW,aW,bB,cE,hbx,d0,d1]))))
    ·refine aL rfl rfl rfl ?_
     intro τ D hbx hl d2 g1 g2 K w
     (simp [aW,bB,d2] at hbx;refine wC rfl fun K' z=>?_;simp [q,hbx,hl,dG,dF,look,d2];exact z _ (wN (w _ (by simp [dW,aW,bB,cE,hbx,d2]))))
    ·refine aL rfl rfl rfl ?_
     intro τ D hbx hl d3 g1 g2 K w
     have d2:=g1 2 (by simp)
     have d4:=g2 4 (by simp) (by simp)
     (simp [aW,bB,d2,d3,d4] at hbx;refine wL [(.take,.tmp 19)] rfl rfl (Ent.ok (E:=E) (f:=47)) (Con.ok b1) fun K' z=>?_;simp [q,hbx,hl,dG,dF,look,d2,d3,d4];exact z _ (wN (w _ (by simp [dW,aW,bB,cE,hbx,d2,d3,d4]))))
    intro D d4 g1 g2 gc
    have d2:D 2=true:=g1 2 (by simp)
    have d3:D 3=true:=g1 3 (by simp)
    have p1_0:D 1=true→D 0=true:=fun h=>gc 1 0 h (by simp) (by simp)
    cases d0:D 0<;>cases d1:D 1<;>(simp [d1,d0] at p1_0)<;>(intro K w;simp [lW,dW,cE,aW,bB,d0,d1,d2,d3,d4] at w ⊢;refine wC rfl fun K' z=>?_;simp [q];refine z _ (wN ?_);first | exact w | simpa using w)
   simp [lW,dW,aW,bB]
   obtain ⟨c0,b2,h9⟩:=bS h9
   obtain ⟨a0,a1,a7⟩:=aS b2
   have a2:List.map (GFn.enc true) v8.Fns ++ List.map (GFn.enc true) [b0]=List.map (GFn.enc true) c0:=kQ (f:=(GFn.enc true)) a7
   simp [eSl,GFn.enc] at a0 a1 a2
   iterate 3 (refine aK q ?_ rfl (by simp [a0,a1,a2];rfl))
   apply wN;apply w
   refine O.zH y ?_
   iterate 2 refine aK q ?_
   apply wN
   cases h9
   exact ⟨_,[],rfl,by simp [q]⟩
  refine O.exit ?_
  have c1:=congrArg some (a8 _ (Option.some.inj h9).symm)
  cases c1
  exact b6 _ () [] trivial (by simp [q])
 refine O.zS y ?_
 iterate 2 refine aK q ?_
 apply wN
 cases h
 refine O.ret ?_
 simp [aO,iB,res29]
instance e29_:Ent E 29:=⟨ent29⟩
end Go.Proofs.T
