import Derived.Test.YtgcgpnhokjhghabGreatDoorPA
import Derived.KernelRfl
set_option linter.unusedVariables false
set_option linter.unusedSimpArgs false
set_option linter.unusedVariables false
set_option linter.unusedSimpArgs false
set_option maxHeartbeats 4000000
namespace Go.OM
variable {α:Type} {Q:α→Prop}
theorem aQt {r0 r:Gl05Read} {p:Prop} {f:Int × Gl05Read→Option α} (h:Adv r0 p r) (K:∀ k r',Adv r0 p r'→Ends (f (k,r')) Q):Ends ((dL r).bind f) Q:=by
 unfold dL;refine Ends.bind (P:=fun x=>Adv r0 p x.2) ?_ fun ⟨k,r'⟩ h=>K k r' h;refine dI h (fun r1 _ h1=>Ends.one (h1.weak fun _=>trivial)) fun r1 h1=>?_;dsimp only;rw [qC];refine dI h1 (fun r2 _ h2=>Ends.one (h2.weak fun _=>trivial)) fun r2 h2=>?_;dsimp only;rw [qC];refine sX h2 fun r3 h3=>?_;refine Ends.bind (P:=fun x:Int × Gl05Read=>Adv r0 True x.2) ?_ ?_
 ·exact dI h3 (fun r4 _ h4=>Ends.one h4) fun r4 h4=>Ends.one h4
 rintro ⟨k,r4⟩ h4;dsimp only at h4 ⊢;exact dI h4 (fun r5 _ h5=>Ends.one (h5.weak fun _=>trivial)) fun r5 h5=>Ends.one (h5.fail.weak fun _=>trivial)
structure FOk (f:GFn):Prop where
 nm:f.Name.size ≤ 3000
 pl:f.Params.length ≤ 4000
 ps:∀ q ∈ f.Params,q.Name.size ≤ 3000
theorem aRz {r0 r:Gl05Read} {p:Prop} (h:Adv r0 p r) (hd:r0.deep=0):Ends (kH r) (fun x=>Adv r0 p x.2∧x.1.length ≤ 4000):=by
 have h1:=h.dp;exact ((aLm 1048576 r h.ok).1 (.inr ⟨by omega,by omega⟩)).mono fun x hx=>⟨h.trans' hx.1,hx.2⟩
theorem E_fn {r:Gl05Read} (hr:ROk r) (hd:r.deep=0):Ends (gA r) (fun x=>Adv r False x.2∧FOk x.1):=by
 unfold gA;refine Ends.bind (P:=fun x=>Adv r True x) ?_ fun r1 h1=>?_
 ·exact dI (Adv.refl hr) (fun r1 _ h1=>Ends.one h1) fun r1 h1=>Ends.one h1.fail
 refine yP h1 fun nm r2 hn h2=>?_;dsimp only;refine sX h2 fun r3 h3=>?_;have fz:FOk ⟨nm,[],0,0,(-1)⟩:=⟨hn,by simp,by simp⟩
 refine Ends.bind (P:=fun x:GFn × Gl05Read=>Adv r True x.2∧FOk x.1) ?_ ?_
 ·refine dI h3 (fun r4 _ h4=>Ends.one ⟨h4,fz⟩) fun r4 h4=>?_;dsimp only;rw [aQo];refine Ends.loop (fun s:GFn × Gl05Read=>Adv r True s.2∧FOk s.1∧Kl s.1.Params.length s.2) (fun s=>rmu s.2) _ ?_ ⟨h4,fz,Kl.zero h4.ok⟩;rintro ⟨f,r5⟩ ⟨h5,h6,h7⟩;dsimp only at h5 h6 h7;have hk:=h7.le h5.ok;unfold gR;dsimp only;refine Ends.ite (fun hb=>?_) fun hb=>Ends.one (.inr ⟨_,rfl,h5,h6⟩);have hb':r5.bad=false:=by simpa using hb
  refine yP (Adv.refl h5.ok) fun nm2 r6 hn2 h8=>?_;dsimp only;refine sX h8 fun r7 h9=>?_;refine aQt h9 fun k r8 h10=>?_;dsimp only;refine Ends.app1 (by omega) (by omega) ?_
  have hps:∀ q ∈ f.Params ++ [(⟨nm2,k⟩:GParam)],q.Name.size ≤ 3000:=by
   intro q hq;rcases List.mem_append.1 hq with hq | hq
   ·exact h6.ps q hq
   rw [List.mem_singleton.1 hq];exact hn2
  have hpl:(f.Params ++ [(⟨nm2,k⟩:GParam)]).length ≤ 4000:=by simp only [List.length_append,List.length_cons,List.length_nil];omega
  refine dI h10 (fun r9 _ h11=>Ends.one (.inr ⟨_,rfl,h5.trans h11,⟨h6.nm,hpl,hps⟩⟩)) fun r9 h11=>?_;dsimp only;rw [qC];refine sX h11 fun r10 h12=>Ends.one (.inl ⟨_,rfl,⟨h5.trans h12,⟨h6.nm,hpl,hps⟩,?_⟩,aKf h5.ok h12 hb'⟩);simp only [List.length_append,List.length_cons,List.length_nil];exact h7.step hb' h12
 rintro ⟨f,r4⟩ ⟨h4,h5⟩;dsimp only at h4 h5 ⊢;refine Ends.bind (P:=fun x:GFn × Gl05Read=>Adv r True x.2∧FOk x.1) ?_ ?_
 ·refine dI h4 (fun r5 _ h6=>?_) fun r5 h6=>Ends.one ⟨h6,h5⟩;dsimp only;rw [aC1];exact aQt h6 fun k r6 h7=>Ends.one ⟨h7,⟨h5.nm,h5.pl,h5.ps⟩⟩
 rintro ⟨f2,r5⟩ ⟨h6,h7⟩;dsimp only at h6 h7 ⊢;refine sX h6 fun r6 h8=>?_;refine Ends.bind (aRz h8 hd) ?_;rintro ⟨ks,r7⟩ ⟨h9,h10⟩;dsimp only at h9 h10 ⊢;refine yB h9 ⟨by dsimp only;decide,h10⟩ fun k r8 h11=>?_
 dsimp only;refine Ends.bind (P:=fun x:GFn × Gl05Read=>Adv r True x.2∧FOk x.1) ?_ ?_
 ·refine dI h11 (fun r9 _ h12=>?_) fun r9 h12=>Ends.one ⟨h12,⟨h7.nm,h7.pl,h7.ps⟩⟩;dsimp only;rw [aC1];refine Ends.bind (aH1 h12) ?_;rintro ⟨k2,r10⟩ h13;exact sX h13 fun r11 h14=>Ends.one ⟨h14,⟨h7.nm,h7.pl,h7.ps⟩⟩
 rintro ⟨f3,r9⟩ ⟨h12,h13⟩;dsimp only at h12 h13 ⊢;exact sX h12 fun r10 h14=>Ends.one ⟨h14.weak fun _=>trivial,h13⟩
theorem vD (t:ByteArray):Ends (cT t) (fun r=>GProgram.le 4000 r.1∧(r.2=true→uX r.1=true)∧(r.2=false→r.1=⟨[],[]⟩)):=by
 have h00:GProgram.le 4000 ⟨[],[]⟩:=⟨⟨by simp,by simp⟩,⟨by simp,by simp⟩⟩
 unfold cT;refine Ends.bind (aOv t) ?_;rintro ⟨l,b⟩ ⟨h1,h2⟩;dsimp only at h1 h2 ⊢;refine Ends.ite (fun _=>Ends.one ⟨h00,(fun h=>by cases h),fun _=>rfl⟩) fun _=>?_
 refine Ends.bind (P:=fun x:GProgram × Gl05Read=>ROk x.2∧x.1.Fns.length ≤ 9∧∀ f ∈ x.1.Fns,FOk f) ?_ ?_
 ·refine Ends.loop (fun s:GProgram × Gl05Read=>ROk s.2∧s.2.deep=0∧s.1.Fns.length ≤ 9∧∀ f ∈ s.1.Fns,FOk f) (fun s=>9 - s.1.Fns.length) _ ?_ ⟨⟨h1,h2,by dsimp only;omega,by dsimp only;omega,by dsimp only;omega,by dsimp only;omega,by simp,by simp⟩,rfl,by simp,by simp⟩
  rintro ⟨q,r⟩ ⟨h3,h4,h5,h6⟩;dsimp only at h3 h4 h5 h6;unfold eN;dsimp only;refine Ends.bind (P:=fun v=>v=true→q.Fns.length ≤ 8) ?_ fun v hv=>?_
  ·refine Ends.ite (fun _=>Ends.ite (fun _=>Ends.one fun h=>?_) fun _=>Ends.one fun h=>by cases h) fun _=>Ends.one fun h=>by cases h
   simp only [decide_eq_true_eq] at h;omega
  refine Ends.ite (fun hv2=>?_) fun _=>Ends.one (.inr ⟨_,rfl,h3,h5,h6⟩);have h7:=hv hv2;refine Ends.bind (E_fn h3 h4) ?_;rintro ⟨f,r2⟩ ⟨h8,h9⟩;dsimp only at h8 h9 ⊢;refine Ends.app1 (by omega) (by omega) (Ends.one (.inl ⟨_,rfl,⟨h8.ok,h8.dp.trans h4,?_,fun g hg=>?_⟩,?_⟩))
  ·simp only [List.length_append,List.length_cons,List.length_nil];omega
  ·rcases List.mem_append.1 hg with hg | hg
   ·exact h6 g hg
   rw [List.mem_singleton.1 hg];exact h9
  simp only [List.length_append,List.length_cons,List.length_nil];omega
 rintro ⟨q,r⟩ ⟨h3,h4,h5⟩;dsimp only at h3 h4 h5 ⊢;have hn:=h3.nl;have hle:GProgram.le 4000 ⟨r.nodes,q.Fns⟩:=⟨⟨by dsimp only;omega,fun x hx=>⟨by have:=(h3.nk x hx).1;omega,by have:=(h3.nk x hx).2;omega⟩⟩,⟨by dsimp only;omega,fun f hf=>⟨by have:=(h5 f hf).nm;omega,by have:=(h5 f hf).pl;omega,fun y hy=>by have:=(h5 f hf).ps y hy;unfold GParam.le;omega⟩⟩⟩
 refine Ends.bind (P:=fun v=>v=false→uX ⟨r.nodes,q.Fns⟩=true) ?_ fun v hv=>?_
 ·refine Ends.ite (fun _=>Ends.one fun h=>by cases h) fun _=>?_
  rw [lV ⟨r.nodes,q.Fns⟩ (by dsimp only;omega) (by dsimp only;omega)]
  exact Ends.one fun h=>by simpa using h
 refine Ends.ite (fun _=>Ends.one ⟨h00,(fun h=>by cases h),fun _=>rfl⟩) fun hv2=>Ends.one ⟨hle,fun _=>hv (by simpa using hv2),fun h=>by cases h⟩
end Go.OM
set_option maxRecDepth 100000
namespace Go.OM
def yV {α ρ:Type}:Nat→(α→Option (α ⊕ ρ))→α→Option ρ
 | 0,_,_=>none
 | n + 1,f,a=>match f a with
  | none=>none
  | some (.inl b)=>yV n f b
  | some (.inr r)=>some r
def sEqC (x y:ByteArray):Bool:=x.data.toList == y.data.toList
theorem aGa (x y:ByteArray):sEqC x y=sEq x y:=by
 rw [aG9];unfold sEqC;cases x with
 | mk a =>
  cases y with
  | mk b =>
   by_cases h:a=b
   ·subst h;simp
   simp [h,Array.toList_inj]
def Le {α:Type} (x y:Option α):Prop:=∀ r,x=some r→y=some r
theorem Le.refl {α:Type} (x:Option α):Le x x:=fun _ h=>h
theorem Le.none {α:Type} {y:Option α}:Le Option.none y:=fun _ h=>by cases h
theorem Le.ite {α:Type} {c:Prop} [Decidable c] {a b a' b':Option α} (h1:c→Le a a') (h2:¬ c→Le b b'):Le (if c then a else b) (if c then a' else b'):=by
 by_cases h:c
 ·rw [if_pos h,if_pos h];exact h1 h
 rw [if_neg h,if_neg h];exact h2 h
theorem Le.bind {α β:Type} {x y:Option α} {f g:α→Option β} (h:Le x y) (k:∀ a,Le (f a) (g a)):Le (x.bind f) (y.bind g):=by
 intro r hr;cases x with
 | none=>cases hr
 | some a =>
  rw [h a rfl];exact k a r hr
theorem Le.loop {α ρ:Type} {f g:α→Option (α ⊕ ρ)} (h:∀ s,Le (f s) (g s)):∀ {n:Nat} {a:α},Le (yV n f a) (aI g a)
 | 0,a=>fun _ h=>by cases h
 | n + 1,a=>by
  intro r hr;rw [xQ];unfold yV at hr;cases hf:f a with
  | none=>rw [hf] at hr;cases hr
  | some s =>
   rw [hf] at hr;rw [h a s hf];cases s with
   | inl b=>exact Le.loop h r hr
   | inr q=>exact hr
def oW (s1:ByteArray) (r2:List ByteArray):Int→Option ((Int) ⊕ ((Unit) ⊕ (Bool))):=fun i7 =>
 if (decide (i7 < (r2.length:Int)))=true then
  (aP r2 i7).bind fun e13 =>
  if (sEqC e13 s1)=true then
   some (Sum.inr (Sum.inr true))
  else
   some (Sum.inl (IntKind.wrap .i64 (i7 + 1)))
 else
  some (Sum.inr (Sum.inl ()))
theorem wZ (s1:ByteArray) (r2:List ByteArray) (s):Le (oW s1 r2 s) (iS s1 r2 s):=by
 unfold oW iS;try simp only [aGa]
 repeat' first
  | exact Le.refl _
  | refine Le.ite (fun _=>?_) fun _=>?_
  | refine Le.bind ?_ fun _=>?_
  | refine Le.loop fun _=>?_
  | split
  | dsimp only
def sB (s1:ByteArray):Option (Bool) :=
 (pW ).bind fun r2 =>
 Option.bind (
  yV 400 (oW s1 r2) (0:Int)) fun j6 =>
 match j6 with
 | Sum.inr z=>some z
 | Sum.inl () =>
  some false
theorem aAq (s1:ByteArray):Le (sB s1) (kX s1):=by
 unfold sB kX
 repeat' first
  | exact wZ _ _ _
  | exact Le.refl _
  | refine Le.ite (fun _=>?_) fun _=>?_
  | refine Le.bind ?_ fun _=>?_
  | refine Le.loop fun _=>?_
  | split
  | dsimp only
def tN (s1:ByteArray):Option (Bool) :=
 Option.bind (
  (cF (s1.size:Int) 1 8).bind fun r4 =>
  if (!r4)=true then
   some true
  else
   (sAt s1 0).bind fun c8 =>
   (dS c8).bind fun r9 =>
   if (!r9)=true then
    some true
   else
    (sB s1).bind fun r13 =>
    some r13) fun v15 =>
 if v15=true then
  some false
 else
  Option.bind (
   yV 400 (jY s1) (0:Int)) fun j20 =>
  match j20 with
  | Sum.inr z=>some z
  | Sum.inl () =>
   some true
theorem aBr (s1:ByteArray):Le (tN s1) (iK s1):=by
 unfold tN iK
 repeat' first
  | exact aAq _
  | exact Le.refl _
  | refine Le.ite (fun _=>?_) fun _=>?_
  | refine Le.bind ?_ fun _=>?_
  | refine Le.loop fun _=>?_
  | split
  | dsimp only
def oT (t1:ByteArray) (at2:Int) (r3:List ByteArray):Int→Option ((Int) ⊕ ((Unit) ⊕ (ByteArray))):=fun i8 =>
 if (decide (i8 < (r3.length:Int)))=true then
  (aP r3 i8).bind fun e14 =>
  Option.bind (
   if (decide (IntKind.wrap .i64 (at2 + (e14.size:Int)) ≤ (t1.size:Int)))=true then
    (eK t1 at2 (IntKind.wrap .i64 (at2 + (e14.size:Int)))).bind fun t19 =>
    (aP r3 i8).bind fun e20 =>
    some (sEqC t19 e20)
   else
    some false) fun v21 =>
  if v21=true then
   (aP r3 i8).bind fun e24 =>
   some (Sum.inr (Sum.inr e24))
  else
   some (Sum.inl (IntKind.wrap .i64 (i8 + 1)))
 else
  some (Sum.inr (Sum.inl ()))
theorem wX (t1:ByteArray) (at2:Int) (r3:List ByteArray) (s):Le (oT t1 at2 r3 s) (kP t1 at2 r3 s):=by
 unfold oT kP;try simp only [aGa]
 repeat' first
  | exact Le.refl _
  | refine Le.ite (fun _=>?_) fun _=>?_
  | refine Le.bind ?_ fun _=>?_
  | refine Le.loop fun _=>?_
  | split
  | dsimp only
def sA (t1:ByteArray) (at2:Int):Option (ByteArray) :=
 (nX ).bind fun r3 =>
 Option.bind (
  yV 400 (oT t1 at2 r3) (0:Int)) fun j7 =>
 match j7 with
 | Sum.inr z=>some z
 | Sum.inl () =>
  some (⟨#[]⟩:ByteArray)
theorem aAo (t1:ByteArray) (at2:Int):Le (sA t1 at2) (kQ t1 at2):=by
 unfold sA kQ
 repeat' first
  | exact wX _ _ _ _
  | exact Le.refl _
  | refine Le.ite (fun _=>?_) fun _=>?_
  | refine Le.bind ?_ fun _=>?_
  | refine Le.loop fun _=>?_
  | split
  | dsimp only
def oU (t1:ByteArray):((List GSign) × Int)→Option (((List GSign) × Int) ⊕ ((List GSign) ⊕ ((List GSign) × Bool))):=fun ⟨out7,at8⟩ =>
 if (decide (at8 < (t1.size:Int)))=true then
  Option.bind (
   (sAt t1 at8).bind fun c16 =>
   if (c16 == 32)=true then
    some true
   else
    some (c16 == 10)) fun v19 =>
  if v19=true then
   some (Sum.inl (out7,IntKind.wrap .i64 (at8 + 1)))
  else
   Option.bind (
    (sAt t1 at8).bind fun c25 =>
    (dS c25).bind fun r26 =>
    if r26=true then
     Option.bind (
      yV 400 (kT t1) at8) fun n52 =>
     if (decide (IntKind.wrap .i64 (n52 - at8) > 8))=true then
      some (Sum.inr (Sum.inr (Sum.inr ([],false))))
     else
      (eK t1 at8 n52).bind fun t56 =>
      (bO 32 out7 [(⟨1,t56,0⟩:GSign)]).bind fun l57 =>
      some (Sum.inr (Sum.inl (l57,n52)))
    else
     some (Sum.inl (out7,at8,at8))) fun j24 =>
   match j24 with
   | Sum.inr z=>some z
   | Sum.inl (out58,at59,n60) =>
    Option.bind (
     (sAt t1 at59).bind fun c64 =>
     (eT c64).bind fun r65 =>
     if r65=true then
      Option.bind (
       yV 400 (kS t1 at59) (n60,(0:Int))) fun ⟨n91,v92⟩ =>
      Option.bind (
       if (decide (IntKind.wrap .i64 (n91 - at59) > 10))=true then
        some true
       else
        some (decide (v92 > 1000000000))) fun v97 =>
      if v97=true then
       some (Sum.inr (Sum.inr (Sum.inr ([],false))))
      else
       (bO 32 out58 [(⟨2,ByteArray.empty,v92⟩:GSign)]).bind fun l101 =>
       some (Sum.inr (Sum.inl (l101,n91)))
     else
      some (Sum.inl (out58,at59))) fun j63 =>
    match j63 with
    | Sum.inr z=>some z
    | Sum.inl (out102,at103) =>
     (sA t1 at103).bind fun r104 =>
     if (sEqC r104 (⟨#[]⟩:ByteArray))=true then
      some (Sum.inr (Sum.inr ([],false)))
     else
      (bO 32 out102 [(⟨3,r104,0⟩:GSign)]).bind fun l109 =>
      some (Sum.inl (l109,IntKind.wrap .i64 (at103 + (r104.size:Int))))
 else
  some (Sum.inr (Sum.inl out7))
theorem wY (t1:ByteArray) (s):Le (oU t1 s) (kU t1 s):=by
 unfold oU kU;try simp only [aGa]
 repeat' first
  | exact aAo _ _
  | exact Le.refl _
  | refine Le.ite (fun _=>?_) fun _=>?_
  | refine Le.bind ?_ fun _=>?_
  | refine Le.loop fun _=>?_
  | split
  | dsimp only
def oV (t1:ByteArray):Option ((List GSign) × Bool) :=
 if (decide ((t1.size:Int) > 3000))=true then
  some ([],false)
 else
  Option.bind (
   yV 400 (oU t1) ([],(0:Int))) fun j6 =>
  match j6 with
  | Sum.inr z=>some z
  | Sum.inl out111 =>
   some (out111,true)
theorem aAp (t1:ByteArray):Le (oV t1) (kV t1):=by
 unfold oV kV
 repeat' first
  | exact wY _ _
  | exact Le.refl _
  | refine Le.ite (fun _=>?_) fun _=>?_
  | refine Le.bind ?_ fun _=>?_
  | refine Le.loop fun _=>?_
  | split
  | dsimp only
def iH (r1:Gl05Read) (kind2:Int) (text3:ByteArray):Option (Bool × Gl05Read) :=
 Option.bind (
  if (!r1.bad)=true then
   if (decide (r1.at_ < (r1.list.length:Int)))=true then
    (aP r1.list r1.at_).bind fun e10 =>
    if (e10.Kind == kind2)=true then
     some (sEqC e10.Text text3)
    else
     some false
   else
    some false
  else
   some false) fun v13 =>
 some (v13,r1)
theorem qS (r1:Gl05Read) (kind2:Int) (text3:ByteArray):Le (iH r1 kind2 text3) (dB r1 kind2 text3):=by
 unfold iH dB;try simp only [aGa]
 repeat' first
  | exact Le.refl _
  | refine Le.ite (fun _=>?_) fun _=>?_
  | refine Le.bind ?_ fun _=>?_
  | refine Le.loop fun _=>?_
  | split
  | dsimp only
def aE (r1:Gl05Read) (kind2:Int) (text3:ByteArray):Option (Bool × Gl05Read) :=
 (iH r1 kind2 text3).bind fun ⟨r4,q5⟩ =>
 if r4=true then
  some (true,(⟨q5.list,IntKind.wrap .i64 (q5.at_ + 1),q5.bad,q5.deep,q5.nodes⟩:Gl05Read))
 else
  some (false,q5)
theorem bE (r1:Gl05Read) (kind2:Int) (text3:ByteArray):Le (aE r1 kind2 text3) (aF r1 kind2 text3):=by
 unfold aE aF
 repeat' first
  | exact qS _ _ _
  | exact Le.refl _
  | refine Le.ite (fun _=>?_) fun _=>?_
  | refine Le.bind ?_ fun _=>?_
  | refine Le.loop fun _=>?_
  | split
  | dsimp only
def bM (r1:Gl05Read):Option (ByteArray × Gl05Read) :=
 Option.bind (
  if r1.bad=true then
   some true
  else
   if (decide (r1.at_ ≥ (r1.list.length:Int)))=true then
    some true
   else
    (aP r1.list r1.at_).bind fun e8 =>
    if (e8.Kind != 1)=true then
     some true
    else
     (tN e8.Text).bind fun r11 =>
     some (!r11)) fun v13 =>
 if v13=true then
  some ((⟨#[]⟩:ByteArray),(⟨r1.list,r1.at_,true,r1.deep,r1.nodes⟩:Gl05Read))
 else
  (aP r1.list (IntKind.wrap .i64 ((IntKind.wrap .i64 (r1.at_ + 1)) - 1))).bind fun e17 =>
  some (e17.Text,(⟨r1.list,IntKind.wrap .i64 (r1.at_ + 1),r1.bad,r1.deep,r1.nodes⟩:Gl05Read))
theorem eB (r1:Gl05Read):Le (bM r1) (bJ r1):=by
 unfold bM bJ
 repeat' first
  | exact aBr _
  | exact Le.refl _
  | refine Le.ite (fun _=>?_) fun _=>?_
  | refine Le.bind ?_ fun _=>?_
  | refine Le.loop fun _=>?_
  | split
  | dsimp only
def bA (r1:Gl05Read) (text2:ByteArray):Option (Gl05Read) :=
 (aE r1 3 text2).bind fun ⟨r3,q4⟩ =>
 if (!r3)=true then
  some (⟨q4.list,q4.at_,true,q4.deep,q4.nodes⟩:Gl05Read)
 else
  some q4
theorem cD (r1:Gl05Read) (text2:ByteArray):Le (bA r1 text2) (aW r1 text2):=by
 unfold bA aW
 repeat' first
  | exact bE _ _ _
  | exact Le.refl _
  | refine Le.ite (fun _=>?_) fun _=>?_
  | refine Le.bind ?_ fun _=>?_
  | refine Le.loop fun _=>?_
  | split
  | dsimp only
def iP (r1:Gl05Read):Option (Int × Gl05Read) :=
 (aE r1 1 (⟨#[105,110,116]⟩:ByteArray)).bind fun ⟨r2,q3⟩ =>
 if r2=true then
  some (1,q3)
 else
  (aE q3 1 (⟨#[98,111,120]⟩:ByteArray)).bind fun ⟨r7,q8⟩ =>
  if r7=true then
   some (2,q8)
  else
   (bA q8 (⟨#[38]⟩:ByteArray)).bind fun q12 =>
   Option.bind (
    (aE q12 1 (⟨#[109,117,116]⟩:ByteArray)).bind fun ⟨r17,q18⟩ =>
    if r17=true then
     some ((4:Int),q18)
    else
     some ((3:Int),q18)) fun ⟨t22,v23⟩ =>
   (aE v23 1 (⟨#[98,111,120]⟩:ByteArray)).bind fun ⟨r24,q25⟩ =>
   if (!r24)=true then
    some (t22,(⟨q25.list,q25.at_,true,q25.deep,q25.nodes⟩:Gl05Read))
   else
    some (t22,q25)
theorem oR (r1:Gl05Read):Le (iP r1) (dL r1):=by
 unfold iP dL
 repeat' first
  | exact bE _ _ _
  | exact cD _ _
  | exact Le.refl _
  | refine Le.ite (fun _=>?_) fun _=>?_
  | refine Le.bind ?_ fun _=>?_
  | refine Le.loop fun _=>?_
  | split
  | dsimp only
def mF (r1:Gl05Read):Option (Int × Gl05Read) :=
 (aE r1 1 (⟨#[109,117,116]⟩:ByteArray)).bind fun ⟨r2,q3⟩ =>
 if r2=true then
  (bM q3).bind fun ⟨r7,q8⟩ =>
  (aK q8 (⟨6,0,r7,[]⟩:GNode)).bind fun ⟨r10,q11⟩ =>
  some (r10,q11)
 else
  (bM q3).bind fun ⟨r13,q14⟩ =>
  (aK q14 (⟨5,0,r13,[]⟩:GNode)).bind fun ⟨r16,q17⟩ =>
  some (r16,q17)
theorem vC (r1:Gl05Read):Le (mF r1) (eL r1):=by
 unfold mF eL
 repeat' first
  | exact bE _ _ _
  | exact eB _
  | exact Le.refl _
  | refine Le.ite (fun _=>?_) fun _=>?_
  | refine Le.bind ?_ fun _=>?_
  | refine Le.loop fun _=>?_
  | split
  | dsimp only
def jO (rec_spec_l05Read_value:Gl05Read→Option (Int × Gl05Read)) (rec_spec_l05Read_sum:Gl05Read→Option (Int × Gl05Read)) (rec_spec_l05Read_term:Gl05Read→Option (Int × Gl05Read)) (rec_spec_l05Read_args:Gl05Read→ByteArray→Option (Int × Gl05Read)) (r1:Gl05Read):Option (Int × Gl05Read) :=
 (rec_spec_l05Read_sum r1).bind fun ⟨r2,q3⟩ =>
 Option.bind (
  (aE q3 3 (⟨#[60]⟩:ByteArray)).bind fun ⟨r8,q9⟩ =>
  if r8=true then
   some ((10:Int),q9)
  else
   (aE q9 3 (⟨#[61,61]⟩:ByteArray)).bind fun ⟨r13,q14⟩ =>
   if r13=true then
    some ((11:Int),q14)
   else
    some ((0:Int),q14)) fun ⟨kind18,v19⟩ =>
 if (kind18 != 0)=true then
  (rec_spec_l05Read_sum v19).bind fun ⟨r22,q23⟩ =>
  (aK q23 (⟨kind18,0,ByteArray.empty,[r2,r22]⟩:GNode)).bind fun ⟨r25,q26⟩ =>
  some (r25,q26)
 else
  some (r2,v19)
theorem sL {crec_spec_l05Read_value rec_spec_l05Read_value:Gl05Read→Option (Int × Gl05Read)} (hrec_spec_l05Read_value:∀ y0,Le (crec_spec_l05Read_value y0) (rec_spec_l05Read_value y0)) {crec_spec_l05Read_sum rec_spec_l05Read_sum:Gl05Read→Option (Int × Gl05Read)} (hrec_spec_l05Read_sum:∀ y0,Le (crec_spec_l05Read_sum y0) (rec_spec_l05Read_sum y0)) {crec_spec_l05Read_term rec_spec_l05Read_term:Gl05Read→Option (Int × Gl05Read)} (hrec_spec_l05Read_term:∀ y0,Le (crec_spec_l05Read_term y0) (rec_spec_l05Read_term y0)) {crec_spec_l05Read_args rec_spec_l05Read_args:Gl05Read→ByteArray→Option (Int × Gl05Read)} (hrec_spec_l05Read_args:∀ y0 y1,Le (crec_spec_l05Read_args y0 y1) (rec_spec_l05Read_args y0 y1)) (r1:Gl05Read):Le (jO crec_spec_l05Read_value crec_spec_l05Read_sum crec_spec_l05Read_term crec_spec_l05Read_args r1) (cV rec_spec_l05Read_value rec_spec_l05Read_sum rec_spec_l05Read_term rec_spec_l05Read_args r1):=by
 unfold jO cV
 repeat' first
  | exact bE _ _ _
  | exact hrec_spec_l05Read_value _
  | exact hrec_spec_l05Read_sum _
  | exact hrec_spec_l05Read_term _
  | exact hrec_spec_l05Read_args _ _
  | exact Le.refl _
  | refine Le.ite (fun _=>?_) fun _=>?_
  | refine Le.bind ?_ fun _=>?_
  | refine Le.loop fun _=>?_
  | split
  | dsimp only
def kD (rec_spec_l05Read_term:Gl05Read→Option (Int × Gl05Read)):(Int × Gl05Read)→Option ((Int × Gl05Read) ⊕ (Int × Gl05Read)):=fun ⟨k8,v9⟩ =>
 (aE v9 3 (⟨#[43]⟩:ByteArray)).bind fun ⟨r13,q14⟩ =>
 if r13=true then
  (rec_spec_l05Read_term q14).bind fun ⟨r18,q19⟩ =>
  (aK q19 (⟨9,0,ByteArray.empty,[k8,r18]⟩:GNode)).bind fun ⟨r21,q22⟩ =>
  some (Sum.inl (r21,q22))
 else
  some (Sum.inr (k8,q14))
theorem tJ {crec_spec_l05Read_term rec_spec_l05Read_term:Gl05Read→Option (Int × Gl05Read)} (hrec_spec_l05Read_term:∀ y0,Le (crec_spec_l05Read_term y0) (rec_spec_l05Read_term y0)) (s):Le (kD crec_spec_l05Read_term s) (fZ rec_spec_l05Read_term s):=by
 unfold kD fZ
 repeat' first
  | exact bE _ _ _
  | exact hrec_spec_l05Read_term _
  | exact Le.refl _
  | refine Le.ite (fun _=>?_) fun _=>?_
  | refine Le.bind ?_ fun _=>?_
  | refine Le.loop fun _=>?_
  | split
  | dsimp only
def lO (rec_spec_l05Read_value:Gl05Read→Option (Int × Gl05Read)) (rec_spec_l05Read_sum:Gl05Read→Option (Int × Gl05Read)) (rec_spec_l05Read_term:Gl05Read→Option (Int × Gl05Read)) (rec_spec_l05Read_args:Gl05Read→ByteArray→Option (Int × Gl05Read)) (r1:Gl05Read):Option (Int × Gl05Read) :=
 (rec_spec_l05Read_term r1).bind fun ⟨r2,q3⟩ =>
 Option.bind (
  yV 400 (kD rec_spec_l05Read_term) (r2,q3)) fun ⟨k25,v26⟩ =>
 some (k25,v26)
theorem uI {crec_spec_l05Read_value rec_spec_l05Read_value:Gl05Read→Option (Int × Gl05Read)} (hrec_spec_l05Read_value:∀ y0,Le (crec_spec_l05Read_value y0) (rec_spec_l05Read_value y0)) {crec_spec_l05Read_sum rec_spec_l05Read_sum:Gl05Read→Option (Int × Gl05Read)} (hrec_spec_l05Read_sum:∀ y0,Le (crec_spec_l05Read_sum y0) (rec_spec_l05Read_sum y0)) {crec_spec_l05Read_term rec_spec_l05Read_term:Gl05Read→Option (Int × Gl05Read)} (hrec_spec_l05Read_term:∀ y0,Le (crec_spec_l05Read_term y0) (rec_spec_l05Read_term y0)) {crec_spec_l05Read_args rec_spec_l05Read_args:Gl05Read→ByteArray→Option (Int × Gl05Read)} (hrec_spec_l05Read_args:∀ y0 y1,Le (crec_spec_l05Read_args y0 y1) (rec_spec_l05Read_args y0 y1)) (r1:Gl05Read):Le (lO crec_spec_l05Read_value crec_spec_l05Read_sum crec_spec_l05Read_term crec_spec_l05Read_args r1) (dV rec_spec_l05Read_value rec_spec_l05Read_sum rec_spec_l05Read_term rec_spec_l05Read_args r1):=by
 unfold lO dV
 repeat' first
  | exact tJ hrec_spec_l05Read_term _
  | exact hrec_spec_l05Read_value _
  | exact hrec_spec_l05Read_sum _
  | exact hrec_spec_l05Read_term _
  | exact hrec_spec_l05Read_args _ _
  | exact Le.refl _
  | refine Le.ite (fun _=>?_) fun _=>?_
  | refine Le.bind ?_ fun _=>?_
  | refine Le.loop fun _=>?_
  | split
  | dsimp only
def kC (rec_spec_l05Read_value:Gl05Read→Option (Int × Gl05Read)) (rec_spec_l05Read_sum:Gl05Read→Option (Int × Gl05Read)) (rec_spec_l05Read_term:Gl05Read→Option (Int × Gl05Read)) (rec_spec_l05Read_args:Gl05Read→ByteArray→Option (Int × Gl05Read)) (r1:Gl05Read):Option (Int × Gl05Read) :=
 Option.bind (
  if r1.bad=true then
   some true
  else
   if (decide (r1.at_ ≥ (r1.list.length:Int)))=true then
    some true
   else
    some (decide (r1.deep > 12))) fun v8 =>
 if v8=true then
  some (0,(⟨r1.list,r1.at_,true,r1.deep,r1.nodes⟩:Gl05Read))
 else
  Option.bind (
   (aP r1.list r1.at_).bind fun e15 =>
   if (e15.Kind == 2)=true then
    (aP r1.list (IntKind.wrap .i64 ((IntKind.wrap .i64 (r1.at_ + 1)) - 1))).bind fun e19 =>
    (aK (⟨r1.list,IntKind.wrap .i64 (r1.at_ + 1),r1.bad,IntKind.wrap .i64 (r1.deep + 1),r1.nodes⟩:Gl05Read) (⟨1,e19.Num,ByteArray.empty,[]⟩:GNode)).bind fun ⟨r20,q21⟩ =>
    some (r20,q21)
   else
    (aE (⟨r1.list,r1.at_,r1.bad,IntKind.wrap .i64 (r1.deep + 1),r1.nodes⟩:Gl05Read) 3 (⟨#[42]⟩:ByteArray)).bind fun ⟨r23,q24⟩ =>
    if r23=true then
     (bM q24).bind fun ⟨r28,q29⟩ =>
     (aK q29 (⟨3,0,r28,[]⟩:GNode)).bind fun ⟨r31,q32⟩ =>
     some (r31,q32)
    else
     (aE q24 3 (⟨#[38]⟩:ByteArray)).bind fun ⟨r34,q35⟩ =>
     if r34=true then
      (mF q35).bind fun ⟨r39,q40⟩ =>
      some (r39,q40)
     else
      (aE q35 3 (⟨#[40]⟩:ByteArray)).bind fun ⟨r42,q43⟩ =>
      if r42=true then
       (rec_spec_l05Read_value q43).bind fun ⟨r47,q48⟩ =>
       (bA q48 (⟨#[41]⟩:ByteArray)).bind fun q50 =>
       some (r47,q50)
      else
       (aE q43 1 (⟨#[99,108,111,110,101]⟩:ByteArray)).bind fun ⟨r52,q53⟩ =>
       if r52=true then
        (bM q53).bind fun ⟨r57,q58⟩ =>
        (aK q58 (⟨4,0,r57,[]⟩:GNode)).bind fun ⟨r60,q61⟩ =>
        some (r60,q61)
       else
        (aE q53 1 (⟨#[105,110,112,117,116]⟩:ByteArray)).bind fun ⟨r63,q64⟩ =>
        if r63=true then
         (aK q64 (⟨7,0,ByteArray.empty,[]⟩:GNode)).bind fun ⟨r68,q69⟩ =>
         some (r68,q69)
        else
         (aE q64 1 (⟨#[110,101,119]⟩:ByteArray)).bind fun ⟨r71,q72⟩ =>
         if r71=true then
          (rec_spec_l05Read_term q72).bind fun ⟨r76,q77⟩ =>
          (aK q77 (⟨8,0,ByteArray.empty,[r76]⟩:GNode)).bind fun ⟨r79,q80⟩ =>
          some (r79,q80)
         else
          (bM q72).bind fun ⟨r82,q83⟩ =>
          (aE q83 3 (⟨#[40]⟩:ByteArray)).bind fun ⟨r85,q86⟩ =>
          if r85=true then
           (rec_spec_l05Read_args q86 r82).bind fun ⟨r90,q91⟩ =>
           some (r90,q91)
          else
           (aK q86 (⟨2,0,r82,[]⟩:GNode)).bind fun ⟨r93,q94⟩ =>
           some (r93,q94)) fun ⟨k96,v97⟩ =>
  some (k96,(⟨v97.list,v97.at_,v97.bad,IntKind.wrap .i64 (v97.deep - 1),v97.nodes⟩:Gl05Read))
theorem tI {crec_spec_l05Read_value rec_spec_l05Read_value:Gl05Read→Option (Int × Gl05Read)} (hrec_spec_l05Read_value:∀ y0,Le (crec_spec_l05Read_value y0) (rec_spec_l05Read_value y0)) {crec_spec_l05Read_sum rec_spec_l05Read_sum:Gl05Read→Option (Int × Gl05Read)} (hrec_spec_l05Read_sum:∀ y0,Le (crec_spec_l05Read_sum y0) (rec_spec_l05Read_sum y0)) {crec_spec_l05Read_term rec_spec_l05Read_term:Gl05Read→Option (Int × Gl05Read)} (hrec_spec_l05Read_term:∀ y0,Le (crec_spec_l05Read_term y0) (rec_spec_l05Read_term y0)) {crec_spec_l05Read_args rec_spec_l05Read_args:Gl05Read→ByteArray→Option (Int × Gl05Read)} (hrec_spec_l05Read_args:∀ y0 y1,Le (crec_spec_l05Read_args y0 y1) (rec_spec_l05Read_args y0 y1)) (r1:Gl05Read):Le (kC crec_spec_l05Read_value crec_spec_l05Read_sum crec_spec_l05Read_term crec_spec_l05Read_args r1) (dF rec_spec_l05Read_value rec_spec_l05Read_sum rec_spec_l05Read_term rec_spec_l05Read_args r1):=by
 unfold kC dF
 repeat' first
  | exact bE _ _ _
  | exact eB _
  | exact vC _
  | exact cD _ _
  | exact hrec_spec_l05Read_value _
  | exact hrec_spec_l05Read_sum _
  | exact hrec_spec_l05Read_term _
  | exact hrec_spec_l05Read_args _ _
  | exact Le.refl _
  | refine Le.ite (fun _=>?_) fun _=>?_
  | refine Le.bind ?_ fun _=>?_
  | refine Le.loop fun _=>?_
  | split
  | dsimp only
def jR (rec_spec_l05Read_value:Gl05Read→Option (Int × Gl05Read)):((List Int) × Gl05Read)→Option (((List Int) × Gl05Read) ⊕ ((List Int) × Gl05Read)):=fun ⟨kids11,v12⟩ =>
 if (!v12.bad)=true then
  (rec_spec_l05Read_value v12).bind fun ⟨r18,q19⟩ =>
  (bO 8 kids11 [r18]).bind fun l21 =>
  (aE q19 3 (⟨#[41]⟩:ByteArray)).bind fun ⟨r22,q23⟩ =>
  if r22=true then
   some (Sum.inr (l21,q23))
  else
   (bA q23 (⟨#[44]⟩:ByteArray)).bind fun q28 =>
   some (Sum.inl (l21,q28))
 else
  some (Sum.inr (kids11,v12))
theorem sO {crec_spec_l05Read_value rec_spec_l05Read_value:Gl05Read→Option (Int × Gl05Read)} (hrec_spec_l05Read_value:∀ y0,Le (crec_spec_l05Read_value y0) (rec_spec_l05Read_value y0)) (s):Le (jR crec_spec_l05Read_value s) (fK rec_spec_l05Read_value s):=by
 unfold jR fK
 repeat' first
  | exact bE _ _ _
  | exact cD _ _
  | exact hrec_spec_l05Read_value _
  | exact Le.refl _
  | refine Le.ite (fun _=>?_) fun _=>?_
  | refine Le.bind ?_ fun _=>?_
  | refine Le.loop fun _=>?_
  | split
  | dsimp only
def kF (rec_spec_l05Read_value:Gl05Read→Option (Int × Gl05Read)) (rec_spec_l05Read_sum:Gl05Read→Option (Int × Gl05Read)) (rec_spec_l05Read_term:Gl05Read→Option (Int × Gl05Read)) (rec_spec_l05Read_args:Gl05Read→ByteArray→Option (Int × Gl05Read)) (r1:Gl05Read) (name2:ByteArray):Option (Int × Gl05Read) :=
 Option.bind (
  (aE r1 3 (⟨#[41]⟩:ByteArray)).bind fun ⟨r6,q7⟩ =>
  if (!r6)=true then
   yV 400 (jR rec_spec_l05Read_value) ([],q7)
  else
   some ([],q7)) fun ⟨kids31,v32⟩ =>
 (aK v32 (⟨12,0,name2,kids31⟩:GNode)).bind fun ⟨r33,q34⟩ =>
 some (r33,q34)
theorem tL {crec_spec_l05Read_value rec_spec_l05Read_value:Gl05Read→Option (Int × Gl05Read)} (hrec_spec_l05Read_value:∀ y0,Le (crec_spec_l05Read_value y0) (rec_spec_l05Read_value y0)) {crec_spec_l05Read_sum rec_spec_l05Read_sum:Gl05Read→Option (Int × Gl05Read)} (hrec_spec_l05Read_sum:∀ y0,Le (crec_spec_l05Read_sum y0) (rec_spec_l05Read_sum y0)) {crec_spec_l05Read_term rec_spec_l05Read_term:Gl05Read→Option (Int × Gl05Read)} (hrec_spec_l05Read_term:∀ y0,Le (crec_spec_l05Read_term y0) (rec_spec_l05Read_term y0)) {crec_spec_l05Read_args rec_spec_l05Read_args:Gl05Read→ByteArray→Option (Int × Gl05Read)} (hrec_spec_l05Read_args:∀ y0 y1,Le (crec_spec_l05Read_args y0 y1) (rec_spec_l05Read_args y0 y1)) (r1:Gl05Read) (name2:ByteArray):Le (kF crec_spec_l05Read_value crec_spec_l05Read_sum crec_spec_l05Read_term crec_spec_l05Read_args r1 name2) (dH rec_spec_l05Read_value rec_spec_l05Read_sum rec_spec_l05Read_term rec_spec_l05Read_args r1 name2):=by
 unfold kF dH
 repeat' first
  | exact bE _ _ _
  | exact sO hrec_spec_l05Read_value _
  | exact hrec_spec_l05Read_value _
  | exact hrec_spec_l05Read_sum _
  | exact hrec_spec_l05Read_term _
  | exact hrec_spec_l05Read_args _ _
  | exact Le.refl _
  | refine Le.ite (fun _=>?_) fun _=>?_
  | refine Le.bind ?_ fun _=>?_
  | refine Le.loop fun _=>?_
  | split
  | dsimp only
def aJ:Nat→(Gl05Read→Option (Int × Gl05Read)) × (Gl05Read→Option (Int × Gl05Read)) × (Gl05Read→Option (Int × Gl05Read)) × (Gl05Read→ByteArray→Option (Int × Gl05Read))
 | 0=>(fun _=>none,fun _=>none,fun _=>none,fun _ _=>none)
 | n + 1=>(jO ((aJ n).1) ((aJ n).2.1) ((aJ n).2.2.1) ((aJ n).2.2.2),lO ((aJ n).1) ((aJ n).2.1) ((aJ n).2.2.1) ((aJ n).2.2.2),kC ((aJ n).1) ((aJ n).2.1) ((aJ n).2.2.1) ((aJ n).2.2.2),kF ((aJ n).1) ((aJ n).2.1) ((aJ n).2.2.1) ((aJ n).2.2.2))
theorem kJ:∀ n m:Nat,n ≤ m→(∀ x0,Le ((aJ n).1 x0) ((aA m).1 x0))∧(∀ x0,Le ((aJ n).2.1 x0) ((aA m).2.1 x0))∧(∀ x0,Le ((aJ n).2.2.1 x0) ((aA m).2.2.1 x0))∧(∀ x0 x1,Le ((aJ n).2.2.2 x0 x1) ((aA m).2.2.2 x0 x1))
 | 0,m,_=>⟨fun _=>Le.none,fun _=>Le.none,fun _=>Le.none,fun _ _=>Le.none⟩
 | n + 1,0,h=>absurd h (by omega)
 | n + 1,m + 1,h=>by
  have ih:=kJ n m (by omega)
  exact ⟨fun _=>sL ih.1 ih.2.1 ih.2.2.1 ih.2.2.2 _,fun _=>uI ih.1 ih.2.1 ih.2.2.1 ih.2.2.2 _,fun _=>tI ih.1 ih.2.1 ih.2.2.1 ih.2.2.2 _,fun _ _=>tL ih.1 ih.2.1 ih.2.2.1 ih.2.2.2 _ _⟩
def eX:Gl05Read→Option (Int × Gl05Read):=(aJ 60).1
theorem jE:∀ x0,Le (eX x0) (dU x0):=(kJ 60 bL (by decide)).1
def cS (r1:Gl05Read) (kind2:Int) (name3:ByteArray):Option (Int × Gl05Read) :=
 (eX r1).bind fun ⟨r4,q5⟩ =>
 (bA q5 (⟨#[59]⟩:ByteArray)).bind fun q7 =>
 (aK q7 (⟨kind2,0,name3,[r4]⟩:GNode)).bind fun ⟨r9,q10⟩ =>
 some (r9,q10)
theorem uL (r1:Gl05Read) (kind2:Int) (name3:ByteArray):Le (cS r1 kind2 name3) (cB r1 kind2 name3):=by
 unfold cS cB
 repeat' first
  | exact jE _
  | exact cD _ _
  | exact Le.refl _
  | refine Le.ite (fun _=>?_) fun _=>?_
  | refine Le.bind ?_ fun _=>?_
  | refine Le.loop fun _=>?_
  | split
  | dsimp only
def jF (rec_spec_l05Read_step:Gl05Read→Option (Int × Gl05Read)):((List Int) × Gl05Read)→Option (((List Int) × Gl05Read) ⊕ ((List Int) × Gl05Read)):=fun ⟨out5,v6⟩ =>
 Option.bind (
  if (!v6.bad)=true then
   (iH v6 3 (⟨#[125]⟩:ByteArray)).bind fun ⟨r14,q15⟩ =>
   if (!r14)=true then
    (iH q15 1 (⟨#[114,101,116]⟩:ByteArray)).bind fun ⟨r19,q20⟩ =>
    some (!r19,q20)
   else
    some (false,q15)
  else
   some (false,v6)) fun ⟨v22,v23⟩ =>
 if v22=true then
  (rec_spec_l05Read_step v23).bind fun ⟨r26,q27⟩ =>
  (bO 8 out5 [r26]).bind fun l29 =>
  some (Sum.inl (l29,q27))
 else
  some (Sum.inr (out5,v23))
theorem rZ {crec_spec_l05Read_step rec_spec_l05Read_step:Gl05Read→Option (Int × Gl05Read)} (hrec_spec_l05Read_step:∀ y0,Le (crec_spec_l05Read_step y0) (rec_spec_l05Read_step y0)) (s):Le (jF crec_spec_l05Read_step s) (eU rec_spec_l05Read_step s):=by
 unfold jF eU
 repeat' first
  | exact qS _ _ _
  | exact hrec_spec_l05Read_step _
  | exact Le.refl _
  | refine Le.ite (fun _=>?_) fun _=>?_
  | refine Le.bind ?_ fun _=>?_
  | refine Le.loop fun _=>?_
  | split
  | dsimp only
def jP (rec_spec_l05Read_steps:Gl05Read→Option ((List Int) × Gl05Read)) (rec_spec_l05Read_step:Gl05Read→Option (Int × Gl05Read)) (rec_spec_l05Read_block:Gl05Read→Option (Int × Gl05Read)) (r1:Gl05Read):Option ((List Int) × Gl05Read) :=
 Option.bind (
  yV 400 (jF rec_spec_l05Read_step) ([],r1)) fun ⟨out31,v32⟩ =>
 some (out31,v32)
theorem sM {crec_spec_l05Read_steps rec_spec_l05Read_steps:Gl05Read→Option ((List Int) × Gl05Read)} (hrec_spec_l05Read_steps:∀ y0,Le (crec_spec_l05Read_steps y0) (rec_spec_l05Read_steps y0)) {crec_spec_l05Read_step rec_spec_l05Read_step:Gl05Read→Option (Int × Gl05Read)} (hrec_spec_l05Read_step:∀ y0,Le (crec_spec_l05Read_step y0) (rec_spec_l05Read_step y0)) {crec_spec_l05Read_block rec_spec_l05Read_block:Gl05Read→Option (Int × Gl05Read)} (hrec_spec_l05Read_block:∀ y0,Le (crec_spec_l05Read_block y0) (rec_spec_l05Read_block y0)) (r1:Gl05Read):Le (jP crec_spec_l05Read_steps crec_spec_l05Read_step crec_spec_l05Read_block r1) (cW rec_spec_l05Read_steps rec_spec_l05Read_step rec_spec_l05Read_block r1):=by
 unfold jP cW
 repeat' first
  | exact rZ hrec_spec_l05Read_step _
  | exact hrec_spec_l05Read_steps _
  | exact hrec_spec_l05Read_step _
  | exact hrec_spec_l05Read_block _
  | exact Le.refl _
  | refine Le.ite (fun _=>?_) fun _=>?_
  | refine Le.bind ?_ fun _=>?_
  | refine Le.loop fun _=>?_
  | split
  | dsimp only
def kE (rec_spec_l05Read_steps:Gl05Read→Option ((List Int) × Gl05Read)) (rec_spec_l05Read_step:Gl05Read→Option (Int × Gl05Read)) (rec_spec_l05Read_block:Gl05Read→Option (Int × Gl05Read)) (r1:Gl05Read):Option (Int × Gl05Read) :=
 (aE r1 1 (⟨#[108,101,116]⟩:ByteArray)).bind fun ⟨r2,q3⟩ =>
 if r2=true then
  (bM q3).bind fun ⟨r7,q8⟩ =>
  (bA q8 (⟨#[61]⟩:ByteArray)).bind fun q10 =>
  (cS q10 13 r7).bind fun ⟨r12,q13⟩ =>
  some (r12,q13)
 else
  (aE q3 3 (⟨#[42]⟩:ByteArray)).bind fun ⟨r15,q16⟩ =>
  if r15=true then
   (bM q16).bind fun ⟨r20,q21⟩ =>
   (bA q21 (⟨#[61]⟩:ByteArray)).bind fun q23 =>
   (cS q23 15 r20).bind fun ⟨r25,q26⟩ =>
   some (r25,q26)
  else
   (aE q16 1 (⟨#[105,102]⟩:ByteArray)).bind fun ⟨r28,q29⟩ =>
   if r28=true then
    (eX q29).bind fun ⟨r33,q34⟩ =>
    (rec_spec_l05Read_block q34).bind fun ⟨r36,q37⟩ =>
    Option.bind (
     (aE q37 1 (⟨#[101,108,115,101]⟩:ByteArray)).bind fun ⟨r42,q43⟩ =>
     if (!r42)=true then
      some (⟨q43.list,q43.at_,true,q43.deep,q43.nodes⟩:Gl05Read)
     else
      some q43) fun v47 =>
    (rec_spec_l05Read_block v47).bind fun ⟨r48,q49⟩ =>
    (aK q49 (⟨16,0,ByteArray.empty,[r33,r36,r48]⟩:GNode)).bind fun ⟨r51,q52⟩ =>
    some (r51,q52)
   else
    (aE q29 1 (⟨#[119,104,105,108,101]⟩:ByteArray)).bind fun ⟨r54,q55⟩ =>
    if r54=true then
     (eX q55).bind fun ⟨r59,q60⟩ =>
     (rec_spec_l05Read_block q60).bind fun ⟨r62,q63⟩ =>
     (aK q63 (⟨17,0,ByteArray.empty,[r59,r62]⟩:GNode)).bind fun ⟨r65,q66⟩ =>
     some (r65,q66)
    else
     (aE q55 1 (⟨#[112,114,105,110,116]⟩:ByteArray)).bind fun ⟨r68,q69⟩ =>
     if r68=true then
      (cS q69 18 (⟨#[]⟩:ByteArray)).bind fun ⟨r73,q74⟩ =>
      some (r73,q74)
     else
      (aE q69 1 (⟨#[100,111]⟩:ByteArray)).bind fun ⟨r76,q77⟩ =>
      if r76=true then
       (cS q77 19 (⟨#[]⟩:ByteArray)).bind fun ⟨r81,q82⟩ =>
       some (r81,q82)
      else
       (bM q77).bind fun ⟨r84,q85⟩ =>
       (bA q85 (⟨#[61]⟩:ByteArray)).bind fun q87 =>
       (cS q87 14 r84).bind fun ⟨r89,q90⟩ =>
       some (r89,q90)
theorem tK {crec_spec_l05Read_steps rec_spec_l05Read_steps:Gl05Read→Option ((List Int) × Gl05Read)} (hrec_spec_l05Read_steps:∀ y0,Le (crec_spec_l05Read_steps y0) (rec_spec_l05Read_steps y0)) {crec_spec_l05Read_step rec_spec_l05Read_step:Gl05Read→Option (Int × Gl05Read)} (hrec_spec_l05Read_step:∀ y0,Le (crec_spec_l05Read_step y0) (rec_spec_l05Read_step y0)) {crec_spec_l05Read_block rec_spec_l05Read_block:Gl05Read→Option (Int × Gl05Read)} (hrec_spec_l05Read_block:∀ y0,Le (crec_spec_l05Read_block y0) (rec_spec_l05Read_block y0)) (r1:Gl05Read):Le (kE crec_spec_l05Read_steps crec_spec_l05Read_step crec_spec_l05Read_block r1) (dG rec_spec_l05Read_steps rec_spec_l05Read_step rec_spec_l05Read_block r1):=by
 unfold kE dG
 repeat' first
  | exact bE _ _ _
  | exact eB _
  | exact cD _ _
  | exact uL _ _ _
  | exact jE _
  | exact hrec_spec_l05Read_steps _
  | exact hrec_spec_l05Read_step _
  | exact hrec_spec_l05Read_block _
  | exact Le.refl _
  | refine Le.ite (fun _=>?_) fun _=>?_
  | refine Le.bind ?_ fun _=>?_
  | refine Le.loop fun _=>?_
  | split
  | dsimp only
def jQ (rec_spec_l05Read_steps:Gl05Read→Option ((List Int) × Gl05Read)) (rec_spec_l05Read_step:Gl05Read→Option (Int × Gl05Read)) (rec_spec_l05Read_block:Gl05Read→Option (Int × Gl05Read)) (r1:Gl05Read):Option (Int × Gl05Read) :=
 Option.bind (
  if (decide (IntKind.wrap .i64 (r1.deep + 1) > 12))=true then
   some (⟨r1.list,r1.at_,true,IntKind.wrap .i64 (r1.deep + 1),r1.nodes⟩:Gl05Read)
  else
   some (⟨r1.list,r1.at_,r1.bad,IntKind.wrap .i64 (r1.deep + 1),r1.nodes⟩:Gl05Read)) fun v7 =>
 (bA v7 (⟨#[123]⟩:ByteArray)).bind fun q8 =>
 (rec_spec_l05Read_steps q8).bind fun ⟨r10,q11⟩ =>
 (bA q11 (⟨#[125]⟩:ByteArray)).bind fun q13 =>
 (aK (⟨q13.list,q13.at_,q13.bad,IntKind.wrap .i64 (q13.deep - 1),q13.nodes⟩:Gl05Read) (⟨20,0,ByteArray.empty,r10⟩:GNode)).bind fun ⟨r15,q16⟩ =>
 some (r15,q16)
theorem sN {crec_spec_l05Read_steps rec_spec_l05Read_steps:Gl05Read→Option ((List Int) × Gl05Read)} (hrec_spec_l05Read_steps:∀ y0,Le (crec_spec_l05Read_steps y0) (rec_spec_l05Read_steps y0)) {crec_spec_l05Read_step rec_spec_l05Read_step:Gl05Read→Option (Int × Gl05Read)} (hrec_spec_l05Read_step:∀ y0,Le (crec_spec_l05Read_step y0) (rec_spec_l05Read_step y0)) {crec_spec_l05Read_block rec_spec_l05Read_block:Gl05Read→Option (Int × Gl05Read)} (hrec_spec_l05Read_block:∀ y0,Le (crec_spec_l05Read_block y0) (rec_spec_l05Read_block y0)) (r1:Gl05Read):Le (jQ crec_spec_l05Read_steps crec_spec_l05Read_step crec_spec_l05Read_block r1) (cX rec_spec_l05Read_steps rec_spec_l05Read_step rec_spec_l05Read_block r1):=by
 unfold jQ cX
 repeat' first
  | exact cD _ _
  | exact hrec_spec_l05Read_steps _
  | exact hrec_spec_l05Read_step _
  | exact hrec_spec_l05Read_block _
  | exact Le.refl _
  | refine Le.ite (fun _=>?_) fun _=>?_
  | refine Le.bind ?_ fun _=>?_
  | refine Le.loop fun _=>?_
  | split
  | dsimp only
def aZ:Nat→(Gl05Read→Option ((List Int) × Gl05Read)) × (Gl05Read→Option (Int × Gl05Read)) × (Gl05Read→Option (Int × Gl05Read))
 | 0=>(fun _=>none,fun _=>none,fun _=>none)
 | n + 1=>(jP ((aZ n).1) ((aZ n).2.1) ((aZ n).2.2),kE ((aZ n).1) ((aZ n).2.1) ((aZ n).2.2),jQ ((aZ n).1) ((aZ n).2.1) ((aZ n).2.2))
theorem kK:∀ n m:Nat,n ≤ m→(∀ x0,Le ((aZ n).1 x0) ((aD m).1 x0))∧(∀ x0,Le ((aZ n).2.1 x0) ((aD m).2.1 x0))∧(∀ x0,Le ((aZ n).2.2 x0) ((aD m).2.2 x0))
 | 0,m,_=>⟨fun _=>Le.none,fun _=>Le.none,fun _=>Le.none⟩
 | n + 1,0,h=>absurd h (by omega)
 | n + 1,m + 1,h=>by
  have ih:=kK n m (by omega)
  exact ⟨fun _=>sM ih.1 ih.2.1 ih.2.2 _,fun _=>tK ih.1 ih.2.1 ih.2.2 _,fun _=>sN ih.1 ih.2.1 ih.2.2 _⟩
def qR:Gl05Read→Option ((List Int) × Gl05Read):=(aZ 60).1
theorem uJ:∀ x0,Le (qR x0) (kH x0):=(kK 60 bL (by decide)).1
def lP:(GFn × Gl05Read)→Option ((GFn × Gl05Read) ⊕ (GFn × Gl05Read)):=fun ⟨v24,v25⟩ =>
 if (!v25.bad)=true then
  (bM v25).bind fun ⟨r31,q32⟩ =>
  (bA q32 (⟨#[58]⟩:ByteArray)).bind fun q34 =>
  (iP q34).bind fun ⟨r36,q37⟩ =>
  (bO 24 v24.Params [(⟨r31,r36⟩:GParam)]).bind fun l39 =>
  (aE q37 3 (⟨#[41]⟩:ByteArray)).bind fun ⟨r40,q41⟩ =>
  if r40=true then
   some (Sum.inr ((⟨v24.Name,l39,v24.Res,v24.Body,v24.Ret⟩:GFn),q41))
  else
   (bA q41 (⟨#[44]⟩:ByteArray)).bind fun q46 =>
   some (Sum.inl ((⟨v24.Name,l39,v24.Res,v24.Body,v24.Ret⟩:GFn),q46))
 else
  some (Sum.inr (v24,v25))
theorem uK (s):Le (lP  s) (gR  s):=by
 unfold lP gR
 repeat' first
  | exact eB _
  | exact cD _ _
  | exact oR _
  | exact bE _ _ _
  | exact Le.refl _
  | refine Le.ite (fun _=>?_) fun _=>?_
  | refine Le.bind ?_ fun _=>?_
  | refine Le.loop fun _=>?_
  | split
  | dsimp only
def oS (r1:Gl05Read):Option (GFn × Gl05Read) :=
 Option.bind (
  (aE r1 1 (⟨#[102,110]⟩:ByteArray)).bind fun ⟨r5,q6⟩ =>
  if (!r5)=true then
   some (⟨q6.list,q6.at_,true,q6.deep,q6.nodes⟩:Gl05Read)
  else
   some q6) fun v10 =>
 (bM v10).bind fun ⟨r11,q12⟩ =>
 (bA q12 (⟨#[40]⟩:ByteArray)).bind fun q14 =>
 Option.bind (
  (aE q14 3 (⟨#[41]⟩:ByteArray)).bind fun ⟨r19,q20⟩ =>
  if (!r19)=true then
   yV 400 (lP) ((⟨r11,[],0,0,(-1)⟩:GFn),q20)
  else
   some ((⟨r11,[],0,0,(-1)⟩:GFn),q20)) fun ⟨v49,v50⟩ =>
 Option.bind (
  (aE v50 3 (⟨#[45,62]⟩:ByteArray)).bind fun ⟨r54,q55⟩ =>
  if r54=true then
   (iP q55).bind fun ⟨r59,q60⟩ =>
   some ((⟨v49.Name,v49.Params,r59,v49.Body,v49.Ret⟩:GFn),q60)
  else
   some (v49,q55)) fun ⟨v62,v63⟩ =>
 (bA v63 (⟨#[123]⟩:ByteArray)).bind fun q64 =>
 (qR q64).bind fun ⟨r66,q67⟩ =>
 (aK q67 (⟨20,0,ByteArray.empty,r66⟩:GNode)).bind fun ⟨r69,q70⟩ =>
 Option.bind (
  (aE q70 1 (⟨#[114,101,116]⟩:ByteArray)).bind fun ⟨r75,q76⟩ =>
  if r75=true then
   (eX q76).bind fun ⟨r80,q81⟩ =>
   (bA q81 (⟨#[59]⟩:ByteArray)).bind fun q83 =>
   some ((⟨v62.Name,v62.Params,v62.Res,r69,r80⟩:GFn),q83)
  else
   some ((⟨v62.Name,v62.Params,v62.Res,r69,v62.Ret⟩:GFn),q76)) fun ⟨v85,v86⟩ =>
 (bA v86 (⟨#[125]⟩:ByteArray)).bind fun q87 =>
 some (v85,q87)
theorem wW (r1:Gl05Read):Le (oS r1) (gA r1):=by
 unfold oS gA
 repeat' first
  | exact bE _ _ _
  | exact eB _
  | exact cD _ _
  | exact uK _
  | exact oR _
  | exact uJ _
  | exact jE _
  | exact Le.refl _
  | refine Le.ite (fun _=>?_) fun _=>?_
  | refine Le.bind ?_ fun _=>?_
  | refine Le.loop fun _=>?_
  | split
  | dsimp only
def gJ:(GProgram × Gl05Read)→Option ((GProgram × Gl05Read) ⊕ (GProgram × Gl05Read)):=fun ⟨v10,v11⟩ =>
 Option.bind (
  if (!v11.bad)=true then
   if (decide (v11.at_ < (v11.list.length:Int)))=true then
    some (decide ((v10.Fns.length:Int) ≤ 8))
   else
    some false
  else
   some false) fun v21 =>
 if v21=true then
  (oS v11).bind fun ⟨r24,q25⟩ =>
  (bO 64 v10.Fns [r24]).bind fun l27 =>
  some (Sum.inl ((⟨v10.Nodes,l27⟩:GProgram),q25))
 else
  some (Sum.inr (v10,v11))
theorem tM (s):Le (gJ  s) (eN  s):=by
 unfold gJ eN
 repeat' first
  | exact wW _
  | exact Le.refl _
  | refine Le.ite (fun _=>?_) fun _=>?_
  | refine Le.bind ?_ fun _=>?_
  | refine Le.loop fun _=>?_
  | split
  | dsimp only
def aLc (t:ByteArray):Option GProgram:=(oV t).bind fun x=>if (!x.2)=true then none else (yV 400 gJ (⟨[],[]⟩,⟨x.1,0,false,0,[]⟩)).bind fun y=>if y.2.bad=true then none else some ⟨y.2.nodes,y.1.Fns⟩
theorem aOk {t:ByteArray} (h:(aLc t).map uX=some true):∃ p,cT t=some (p,true)∧uX p=true∧aLc t=some p:=by
 cases hc:aLc t with
 | none=>rw [hc] at h;cases h
 | some p =>
  rw [hc] at h;simp only [Option.map_some,Option.some.injEq] at h;refine ⟨p,?_,h,rfl⟩;unfold aLc at hc;cases hs:oV t with
  | none=>rw [hs] at hc;cases hc
  | some x =>
   obtain ⟨l,b⟩:=x;rw [hs] at hc;simp only [Option.bind_some] at hc;cases b with
   | false=>cases hc
   | true =>
    simp only [Bool.not_true,Bool.false_eq_true,if_false] at hc;unfold cT;rw [aAp t _ hs];simp only [Option.bind_some,Bool.not_true,Bool.false_eq_true,if_false];cases hl:yV 400 gJ ((⟨[],[]⟩:GProgram),(⟨l,0,false,0,[]⟩:Gl05Read)) with
    | none=>rw [hl] at hc;cases hc
    | some y =>
     obtain ⟨q,r⟩:=y;rw [hl] at hc;rw [Le.loop (fun s=>tM s) _ hl];simp only [Option.bind_some] at hc ⊢;cases hb:r.bad with
     | true=>rw [hb] at hc;cases hc
     | false =>
      rw [hb] at hc;simp only [Bool.false_eq_true,if_false,Option.some.injEq] at hc ⊢;subst hc;obtain ⟨b1,b2,b3,b4,hu⟩:=tX h;rw [lV _ (by omega) (by dsimp only at b3 b4 ⊢;omega),h]
      rfl
theorem fall3:∃ p,cT (⟨#[102,110,32,109,97,105,110,40,41,32,123,32,112,114,105,110,116,32,49,59,32,125]⟩:ByteArray)=some (p,true)∧uX p=true:=by
 obtain ⟨p,h1,h2,_⟩:=aOk (t:=(⟨#[102,110,32,109,97,105,110,40,41,32,123,32,112,114,105,110,116,32,49,59,32,125]⟩:ByteArray)) (by kernel_rfl)
 exact ⟨p,h1,h2⟩
end Go.OM
namespace Go.OM
variable {α:Type} {Q:α→Prop}
theorem yW {n m:Nat} {p:GProgram} (h:GProgram.le n p) (hnm:n ≤ m):GProgram.le m p :=
 ⟨⟨Nat.le_trans h.1.1 hnm,fun x hx=>⟨Nat.le_trans (h.1.2 x hx).1 hnm,Nat.le_trans (h.1.2 x hx).2 hnm⟩⟩,⟨Nat.le_trans h.2.1 hnm,fun f hf=>⟨Nat.le_trans (h.2.2 f hf).1 hnm,Nat.le_trans (h.2.2 f hf).2.1 hnm,fun y hy=>Nat.le_trans ((h.2.2 f hf).2.2 y hy) hnm⟩⟩⟩
theorem aOw {c:Gl01Cur} (hc:Cur c):Ends (kL c) (fun r=>Cur r.2∧GProgram.le 4000 r.1∧uX r.1=true):=by
 unfold kL;refine Ends.bind (E_Text hc (by omega) (by omega)) ?_
 rintro ⟨t,q⟩ ⟨hq,_⟩;dsimp only at hq ⊢;refine Ends.bind (vD t) ?_;rintro ⟨p,b⟩ ⟨h1,h2,h3⟩;dsimp only at h1 h2 h3 ⊢;refine Ends.ite (fun _=>?_) fun hb=>Ends.one ⟨hq,h1,h2 (by simpa using hb)⟩
 refine Ends.bind (vD _) ?_;rintro ⟨p2,b2⟩ ⟨h4,h5,h6⟩;dsimp only at h4 h5 h6 ⊢;refine Ends.ite (fun _=>?_) fun hz=>Ends.one ⟨hq,h4,?_⟩
 ·obtain ⟨p3,h7,h8⟩:=fall3;obtain ⟨r,h9,h10,_⟩:=vD (⟨#[102,110,32,109,97,105,110,40,41,32,123,32,112,114,105,110,116,32,49,59,32,125]⟩:ByteArray);rw [h7] at h9;injection h9 with h9
  subst h9;rw [h7];exact Ends.one ⟨hq,h10,h8⟩
 cases hb:b2 with
 | true=>exact h5 hb
 | false=>rw [h6 hb] at hz;simp at hz
theorem aGh {p:GProgram} (h:GProgram.le 4000 p) (k:Nat) {x:GNode} (h1:x.Name.size ≤ 5000) (h2:x.Kids.length ≤ 5000):GProgram.le 5000 ⟨p.Nodes.set k x,p.Fns⟩:=by
 have h':=yW h (show 4000 ≤ 5000 by omega)
 refine ⟨⟨by rw [List.length_set];exact h'.1.1,fun y hy=>?_⟩,h'.2⟩
 rcases List.mem_or_eq_of_mem_set hy with hy | rfl
 ·exact h'.1.2 y hy
 exact ⟨h1,h2⟩
theorem aGi {p:GProgram} (h:GProgram.le 4000 p) (k:Nat) {x:GFn} (h1:GFn.le 5000 x):GProgram.le 5000 ⟨p.Nodes,p.Fns.set k x⟩:=by
 have h':=yW h (show 4000 ≤ 5000 by omega)
 refine ⟨h'.1,⟨by rw [List.length_set];exact h'.2.1,fun y hy=>?_⟩⟩
 rcases List.mem_or_eq_of_mem_set hy with hy | rfl
 ·exact h'.2.2 y hy
 exact h1
theorem aN1 {x:Int} (h:0 ≤ x) (n:Int) (hn:0 < n):0 ≤ Int.tmod x n∧Int.tmod x n < n:=⟨Int.tmod_nonneg _ h,Int.tmod_lt_of_pos _ hn⟩
theorem aK5 {c:Gl01Cur} (hc:Cur c):Ends (nC c) (fun r=>Cur r.2∧GProgram.le 5000 r.1∧1 ≤ r.1.Nodes.length):=by
 unfold nC;refine sG hc fun r2 q3 h1 h2 h3=>?_;dsimp only;refine sG h1 fun r5 q6 h4 h5 h6=>?_;dsimp only;refine Ends.bind (aOw h4) ?_;rintro ⟨p,q⟩ ⟨hq,hp,hok⟩;dsimp only at hq hp hok ⊢;rw [aFd p (yW hp (by omega))]
 simp only [Option.bind_some];obtain ⟨b1,b2,b3,b4,hu⟩:=tX hok;have hle:=yW hp (show 4000 ≤ 5000 by omega)
 refine Ends.bind (aDc h5 (by omega)) fun n ⟨n0,n1⟩=>?_
 have hn:∀ k:Nat,∀ x:GNode,1 ≤ (p.Nodes.set k x).length:=fun k x=>by rw [List.length_set];exact b1
 have hN:=hp.1.2;have hF:=hp.2.2;refine Ends.ite (fun _=>?_) fun _=>?_
 ·refine Ends.get n0 n1 fun e he=>?_;rw [eC];exact Ends.one ⟨hq,aGh hp _ (by have:=(hN e he).1;dsimp only;omega) (by have:=(hN e he).2;dsimp only;omega),hn _ _⟩
 refine Ends.ite (fun _=>?_) fun _=>?_
 ·have:=aN1 h5 3 (by omega)
  refine Ends.get this.1 (by simp only [List.length_cons,List.length_nil];omega) fun v _=>?_
  refine Ends.get n0 n1 fun e he=>?_;rw [eC];exact Ends.one ⟨hq,aGh hp _ (by have:=(hN e he).1;dsimp only;omega) (by have:=(hN e he).2;dsimp only;omega),hn _ _⟩
 refine Ends.ite (fun _=>?_) fun _=>?_
 ·have:=aN1 h5 4 (by omega)
  refine Ends.get this.1 (by simp only [List.length_cons,List.length_nil];omega) fun v hv=>?_
  have hvs:v.size ≤ 5000:=by
   simp only [List.mem_cons,List.mem_nil_iff,or_false] at hv;rcases hv with rfl | rfl | rfl | rfl<;>decide
  refine Ends.get n0 n1 fun e he=>?_;rw [eC];exact Ends.one ⟨hq,aGh hp _ hvs (by have:=(hN e he).2;dsimp only;omega),hn _ _⟩
 refine Ends.ite (fun _=>?_) fun _=>?_
 ·refine Ends.get n0 n1 fun e he=>?_;have h9:=(hN e he).2;refine Ends.app1 (by omega) (by omega) ?_
  rw [eC];exact Ends.one ⟨hq,aGh hp _ (by have:=(hN e he).1;dsimp only;omega) (by simp only [List.length_append,List.length_cons,List.length_nil];omega),hn _ _⟩
 refine Ends.ite (fun _=>?_) fun _=>?_
 ·refine Ends.bind (aDc h5 (by omega)) fun k ⟨k0,k1⟩=>Ends.get k0 k1 fun e he=>?_
  rw [eC];exact Ends.one ⟨hq,aGi hp _ (hle.2.2 e he),b1⟩
 refine Ends.ite (fun _=>?_) fun _=>?_
 ·refine Ends.bind (aDc h5 (by omega)) fun k ⟨k0,k1⟩=>Ends.get k0 k1 fun e he=>?_
  rw [eC];exact Ends.one ⟨hq,aGi hp _ (hle.2.2 e he),b1⟩
 refine Ends.ite (fun _=>?_) fun _=>?_
 ·refine Ends.bind (aDc h5 (by omega)) fun k ⟨k0,k1⟩=>Ends.get k0 k1 fun e he=>?_
  rw [eC];exact Ends.one ⟨hq,aGi hp _ ⟨by dsimp only;decide,(hle.2.2 e he).2⟩,b1⟩
 refine Ends.ite (fun _=>?_) fun _=>Ends.one ⟨hq,hle,b1⟩
 ·refine Ends.bind (aDc h5 (by omega)) fun k ⟨k0,k1⟩=>Ends.get k0 k1 fun e he=>?_
  have h9:=(hF e he).2.1;refine Ends.app1 (by omega) (by omega) ?_
  rw [eC];refine Ends.one ⟨hq,aGi hp _ ⟨(hle.2.2 e he).1,by simp only [List.length_append,List.length_cons,List.length_nil];omega,fun y hy=>?_⟩,b1⟩
  rcases List.mem_append.1 hy with hy | hy
  ·exact (hle.2.2 e he).2.2 y hy
  rw [List.mem_singleton.1 hy];unfold GParam.le;dsimp only;decide
theorem aG8 (x:ByteArray):sEq x x=true:=by rw [aG9];simp
theorem oD (l:List Int) (h:l.length ≤ 1048576):fQ l l=some true:=by
 unfold fQ;rw [if_neg (by simp)]
 have:aI (gO l l) 0=some (.inl ()):=by
  have h1:=rQ l (fun _=>true) (gO l l) (fun k hk=>by
   simp only [gO,aB hk,if_true,aN hk,Option.bind_some,bne_self_eq_false,Bool.false_eq_true,if_false,sP hk (show l.length ≤ maxLen by unfold maxLen;omega)]) (by simp [gO])
  rw [h1];simp
 rw [this]
 rfl
theorem aEm (l:List GNode) (h:l.length ≤ 1048576) (hN:∀ x ∈ l,x.Kids.length ≤ 1048576):mR l l=some true:=by
 unfold mR;rw [if_neg (by simp)]
 have:aI (fV l l) 0=some (.inl ()):=by
  have h1:=rQ l (fun _=>true) (fV l l) (fun k hk=>by
   simp only [fV,aB hk,if_true,aN hk,Option.bind_some,bne_self_eq_false,Bool.false_eq_true,if_false,aG8,Bool.not_true,oD _ (hN _ (List.getElem_mem hk)),sP hk (show l.length ≤ maxLen by unfold maxLen;omega)]) (by simp [fV])
  rw [h1];simp
 rw [this]
 rfl
theorem aD8 (f:GFn) (h:f.Params.length ≤ 1048576):aI (fT f f) 0=some (.inl ()):=by
 have h1:∀ (n k:Nat),n=f.Params.length - k→k ≤ f.Params.length→aI (fT f f) (k:Int)=some (.inl ()):=by
  intro n;induction n with
  | zero =>
   intro k hk hk2;have:k=f.Params.length:=by omega
   subst this;exact lG (by simp [fT])
  | succ n ih =>
   intro k hk hk2;have hlt:k < f.Params.length:=by omega
   refine (rP (b:=((k + 1:Nat):Int)) ?_).trans (ih (k + 1) (by omega) (by omega))
   simp only [fT,aB hlt,if_true,aN hlt,Option.bind_some,bne_self_eq_false,aG8,Bool.not_true,Bool.or_self,Bool.false_eq_true,if_false,sP hlt (show f.Params.length ≤ maxLen by unfold maxLen;omega)]
 exact h1 _ 0 rfl (Nat.zero_le _)
theorem aEl (p:GProgram) (h:GProgram.le 1048576 p):mQ p p=some true:=by
 unfold mQ;rw [aEm p.Nodes h.1.1 fun x hx=>(h.1.2 x hx).2];simp only [Option.bind_some,Bool.not_true,Bool.false_eq_true,if_false,bne_self_eq_false];have h1:∀ (n k:Nat),n=p.Fns.length - k→k ≤ p.Fns.length→aI (fU p p) (k:Int)=some (.inl ()):=by
  intro n;induction n with
  | zero =>
   intro k hk hk2;have:k=p.Fns.length:=by omega
   subst this;exact lG (by simp [fU])
  | succ n ih =>
   intro k hk hk2;have hlt:k < p.Fns.length:=by omega
   have hl:=h.2.1;refine (rP (b:=((k + 1:Nat):Int)) ?_).trans (ih (k + 1) (by omega) (by omega))
   simp only [fU,aB hlt,if_true,aN hlt,Option.bind_some,bne_self_eq_false,aG8,Bool.not_true,Bool.false_eq_true,if_false,aD8 p.Fns[k] (h.2.2 _ (List.getElem_mem hlt)).2.1,sP hlt (show p.Fns.length ≤ maxLen by unfold maxLen;omega)]
 have:=h1 _ 0 rfl (Nat.zero_le _);have h2:aI (fU p p) 0=some (.inl ()):=this;rw [h2]
 rfl
end Go.OM
namespace Go.OM
def pkL (rc:List GNode→Int→Option (Int × List GNode)):List Int→List Int × List GNode→Option (List Int × List GNode)
 | [],s=>some s
 | x :: xs,s=>match rc s.2 x with
  | none=>none
  | some r=>pkL rc xs (s.1 ++ [r.1],r.2)
def pkI (nodes:List GNode):Nat→Int→List GNode→Int→Option (Int × List GNode)
 | 0=>fun _ _ _=>none
 | f + 1=>fun d tq k=>if inB k 0 ((nodes.length:Int) - 1)=true∧d ≤ 10∧tq.length < 300 then (match nodes[k.toNat]? with
  | none=>none
  | some e=>match pkL (pkI nodes f (d + 1)) e.Kids ([],tq) with
   | none=>none
   | some s=>if s.2.length < 300 then some ((s.2.length:Int),s.2 ++ [⟨e.Kind,e.Num,e.Name,s.1⟩]) else none) else none
theorem aBd {nodes:List GNode}:∀ {f:Nat} {d:Int} {tq:List GNode} {k:Int} {r:Int × List GNode},pkI nodes f d tq k=some r→r.2.length ≤ 300
 | 0,d,tq,k,r,h=>by cases h
 | f + 1,d,tq,k,r,h=>by
  simp only [pkI] at h;split at h
  ·split at h
   ·cases h
   split at h
   ·cases h
   split at h
   ·have:=Option.some.inj h;subst this;simp only [List.length_append,List.length_cons,List.length_nil];omega
   cases h
  cases h
theorem aNr {rc:List GNode→Int→Option (Int × List GNode)} (hr:∀ tq k r,rc tq k=some r→r.2.length ≤ 300):∀ (l:List Int) (s s':List Int × List GNode),s.2.length ≤ 300→pkL rc l s=some s'→s'.2.length ≤ 300
 | [],s,s',hs,h=>by cases h;exact hs
 | x :: l,s,s',hs,h=>by
  simp only [pkL] at h;split at h
  ·cases h
  rename_i r hx;exact aNr hr l _ s' (hr _ _ _ hx) h
theorem app56 {l:List GNode} (h:l.length ≤ 1000000) (x:GNode):bO 56 l [x]=some (l ++ [x]):=aEw (by omega) (by omega)
theorem aA8 (nodes:List GNode) (hn:nodes.length ≤ 1048576) (hk:∀ x ∈ nodes,x.Kids.length ≤ 1048576):∀ (f:Nat) (d:Int) (tq:List GNode) (k:Int),1 ≤ d→d ≤ 11→12 ≤ d + f→tq.length ≤ 300 →
  (∀ r,pkI nodes f d tq k=some r→cE f ⟨nodes,tq,false⟩ k d=some (r.1,⟨nodes,r.2,false⟩))∧(pkI nodes f d tq k=none→∃ X,cE f ⟨nodes,tq,false⟩ k d=some (-1,⟨nodes,X,true⟩))
 | 0,d,tq,k,h1,h2,h3,_=>by omega
 | f + 1,d,tq,k,h1,h2,h3,h4=>by
  show (∀ r,pkI nodes (f + 1) d tq k=some r→fW (cE f) ⟨nodes,tq,false⟩ k d=some (r.1,⟨nodes,r.2,false⟩))∧(pkI nodes (f + 1) d tq k=none→∃ X,fW (cE f) ⟨nodes,tq,false⟩ k d=some (-1,⟨nodes,X,true⟩));unfold fW;simp only [pkI,eE,Option.bind_some,gH hn,Bool.false_eq_true,if_false];have hcond:(if (!(inB k 0 ((nodes.length:Int) - 1)))=true then some true else if decide (d > 10)=true then some true else some (decide ((tq.length:Int) ≥ 300)))=some (decide (¬ (inB k 0 ((nodes.length:Int) - 1)=true∧d ≤ 10∧tq.length < 300))):=by
   cases hi:inB k 0 ((nodes.length:Int) - 1) with
   | false=>simp
   | true =>
    by_cases hd:d > 10
    ·have:¬ d ≤ 10:=by omega
     simp [hd,this]
    have hd':d ≤ 10:=by omega
    simp only [Bool.not_true,Bool.false_eq_true,if_false,decide_eq_true_eq,if_neg hd]
    congr 1
    rw [decide_eq_decide];constructor
    ·rintro h ⟨_,_,h3⟩;omega
    intro h;rcases Nat.lt_or_ge tq.length 300 with h' | h'
    ·exact absurd ⟨trivial,hd',h'⟩ h
    omega
  rw [hcond];simp only [Option.bind_some,decide_eq_true_eq];by_cases hc:inB k 0 ((nodes.length:Int) - 1)=true∧d ≤ 10∧tq.length < 300
  ·rw [if_pos hc,if_neg (fun h=>h hc)];obtain ⟨hi,hd,hl⟩:=hc;have hi':=inB_iff.1 hi;have hlt:k.toNat < nodes.length:=by omega
   have hmem:=List.getElem_mem hlt;have hkl:=hk _ hmem;rw [eH hi'.1 (by omega),List.getElem?_eq_getElem hlt]
   simp only [Option.bind_some];generalize nodes[k.toNat]=e at *;have hw:IntKind.wrap .i64 (d + 1)=d + 1:=w64 (by omega) (by omega)
   obtain ⟨r,g1,g2⟩:=dY (f:=dZ (cE f) d e) (fun s:List Int × Int × Gpacker=>∃ (i:Nat) (t:List GNode),s.2.1=i∧i ≤ e.Kids.length∧s.1.length=i∧s.2.2=⟨nodes,t,false⟩∧t.length ≤ 300∧pkL (pkI nodes f (d + 1)) e.Kids ([],tq)=pkL (pkI nodes f (d + 1)) (e.Kids.drop i) (s.1,t)) (fun s=>e.Kids.length - s.2.1.toNat)
     (fun r=>(∀ s,pkL (pkI nodes f (d + 1)) e.Kids ([],tq)=some s→r = .inl (s.1,⟨nodes,s.2,false⟩))∧(pkL (pkI nodes f (d + 1)) e.Kids ([],tq)=none→∃ X,r = .inr (-1,⟨nodes,X,true⟩))) (by
    rintro ⟨ks,i,pk⟩ ⟨i,t,rfl,hi,hkl',rfl,ht,hp⟩;simp only at hi hkl' ht hp;by_cases hil:i < e.Kids.length
    ·rw [List.drop_eq_getElem_cons hil] at hp;simp only [pkL] at hp;obtain ⟨m1,m2⟩:=aA8 nodes hn hk f (d + 1) t e.Kids[i] (by omega) (by omega) (by omega) ht
     cases hx:pkI nodes f (d + 1) t e.Kids[i] with
     | none =>
      right;obtain ⟨X,hX⟩:=m2 hx;rw [hx] at hp;simp only at hp;refine ⟨.inr (-1,⟨nodes,X,true⟩),?_,fun s hs=>?_,fun _=>⟨X,rfl⟩⟩
      ·simp only [dZ,aB hil,if_true,aN hil,Option.bind_some,hw,hX]
      rw [hp] at hs;cases hs
     | some q =>
      left;have hq:=m1 q hx;rw [hx] at hp;simp only at hp;refine ⟨(ks ++ [q.1],((i + 1:Nat):Int),⟨nodes,q.2,false⟩),?_,⟨i + 1,q.2,rfl,by omega,by simp only [List.length_append,List.length_cons,List.length_nil];omega,rfl,aBd hx,hp⟩,by simp only [Int.toNat_natCast];omega⟩
      have happ:bO 8 ks [q.1]=some (ks ++ [q.1]):=app1 (by omega) (by omega)
      simp only [dZ,aB hil,if_true,aN hil,Option.bind_some,hw,hq,Bool.false_eq_true,if_false,happ,bC hil hkl]
    right;have:i=e.Kids.length:=by omega
    subst this;rw [List.drop_length] at hp;simp only [pkL] at hp;refine ⟨.inl (ks,⟨nodes,t,false⟩),by simp [dZ],fun s hs=>?_,fun h=>?_⟩
    ·rw [hp] at hs;have:=Option.some.inj hs;subst this;rfl
    rw [hp] at h;cases h) ([],0,⟨nodes,tq,false⟩) ⟨0,tq,rfl,by omega,rfl,rfl,h4,by simp⟩
   rw [g1];simp only [Option.bind_some];cases hp:pkL (pkI nodes f (d + 1)) e.Kids ([],tq) with
   | none =>
    obtain ⟨X,hX⟩:=g2.2 hp;subst hX;exact ⟨fun r h=>(by simp only at h;cases h),fun _=>⟨X,rfl⟩⟩
   | some s =>
    have hr:=g2.1 s hp;subst hr;have hsl:=aNr (fun _ _ _ h=>aBd h) _ _ _ h4 hp;simp only;by_cases hs:s.2.length < 300
    ·rw [if_pos hs,if_neg (show ¬ ((s.2.length:Int) ≥ 300) by omega),app56 (by omega)]
     refine ⟨fun r h=>?_,fun h=>(by cases h)⟩
     have:=Option.some.inj h;subst this;simp only [Option.bind_some,List.length_append,List.length_cons,List.length_nil];rw [w64 (by omega) (by omega)]
     congr 2
     omega
    rw [if_neg hs,if_pos (show (s.2.length:Int) ≥ 300 by omega)]
    exact ⟨fun r h=>(by cases h),fun _=>⟨_,rfl⟩⟩
  rw [if_neg hc,if_pos hc];exact ⟨fun r h=>(by cases h),fun _=>⟨_,rfl⟩⟩
theorem zI (nodes:List GNode) (hn:nodes.length ≤ 1048576) (f:Nat) (X:List GNode) (b:Bool) (hb:b=true ∨ X.length > 300) (k d:Int):bD (f + 1) ⟨nodes,X,b⟩ k d=some (-1,⟨nodes,X,true⟩):=by
 show cZ (bD f) ⟨nodes,X,b⟩ k d=_;unfold cZ;simp only [fA,Option.bind_some,gH hn];cases hbb:b with
 | true=>rfl
 | false =>
  have hx:X.length > 300:=by
   rcases hb with h | h
   ·rw [hbb] at h;cases h
   exact h
  have hd:decide ((X.length:Int) > 300)=true:=by simp only [decide_eq_true_eq];omega
  simp only [Bool.false_eq_true,if_false,hd];by_cases h10:decide (d > 10)=true
  ·rw [if_pos h10];rfl
  rw [if_neg h10];cases inB k 0 ((nodes.length:Int) - 1)<;>rfl
theorem zF (nodes:List GNode) (hn:nodes.length ≤ 1048576) (hk:∀ x ∈ nodes,x.Kids.length ≤ 1048576):∀ (f:Nat) (d:Int) (tq:List GNode) (k:Int),1 ≤ d→d ≤ 11→12 ≤ d + f→tq.length ≤ 300 →
  (∀ r,pkI nodes f d tq k=some r→bD f ⟨nodes,tq,false⟩ k d=some (r.1,⟨nodes,r.2,false⟩))∧(pkI nodes f d tq k=none→∃ (q:Int) (X:List GNode) (b:Bool),bD f ⟨nodes,tq,false⟩ k d=some (q,⟨nodes,X,b⟩)∧(b=true ∨ X.length > 300)∧(X.length:Int) ≤ 300 + (11 - d))
 | 0,d,tq,k,h1,h2,h3,_=>by omega
 | f + 1,d,tq,k,h1,h2,h3,h4=>by
  show (∀ r,pkI nodes (f + 1) d tq k=some r→cZ (bD f) ⟨nodes,tq,false⟩ k d=some (r.1,⟨nodes,r.2,false⟩))∧(pkI nodes (f + 1) d tq k=none→∃ (q:Int) (X:List GNode) (b:Bool),cZ (bD f) ⟨nodes,tq,false⟩ k d=some (q,⟨nodes,X,b⟩)∧(b=true ∨ X.length > 300)∧(X.length:Int) ≤ 300 + (11 - d));unfold cZ;simp only [pkI,fA,Option.bind_some,gH hn,Bool.false_eq_true,if_false];have hcond:(if decide (d > 10)=true then some true else if (!(inB k 0 ((nodes.length:Int) - 1)))=true then some true else some (decide ((tq.length:Int) > 300)))=some (decide (¬ (inB k 0 ((nodes.length:Int) - 1)=true∧d ≤ 10))):=by
   have hto:decide ((tq.length:Int) > 300)=false:=by simp only [decide_eq_false_iff_not];omega
   rw [hto];by_cases hd:d > 10
   ·have:¬ d ≤ 10:=by omega
    simp [hd,this]
   have hd':d ≤ 10:=by omega
   simp only [decide_eq_true_eq,if_neg hd];cases hi:inB k 0 ((nodes.length:Int) - 1)<;>simp [hd']
  rw [hcond];simp only [Option.bind_some,decide_eq_true_eq];by_cases hc:inB k 0 ((nodes.length:Int) - 1)=true∧d ≤ 10
  ·rw [if_neg (show ¬ ¬ (inB k 0 ((nodes.length:Int) - 1)=true∧d ≤ 10) from fun h=>h hc)];obtain ⟨hi,hd⟩:=hc;have hi':=inB_iff.1 hi;have hlt:k.toNat < nodes.length:=by omega
   have hmem:=List.getElem_mem hlt;have hkl:=hk _ hmem;have hge:aP nodes k=some nodes[k.toNat]:=eH hi'.1 (by omega)
   rw [List.getElem?_eq_getElem hlt,hge];simp only [Option.bind_some];generalize nodes[k.toNat]=e at *;have hw:IntKind.wrap .i64 (d + 1)=d + 1:=w64 (by omega) (by omega)
   -- is there room at all?
   generalize hpk:(if inB k 0 ((nodes.length:Int) - 1)=true∧d ≤ 10∧tq.length < 300 then (match pkL (pkI nodes f (d + 1)) e.Kids ([],tq) with | none=>none | some s=>if s.2.length < 300 then some ((s.2.length:Int),s.2 ++ [(⟨e.Kind,e.Num,e.Name,s.1⟩:GNode)]) else none) else none)=P
   have hf:∃ f',f=f' + 1:=by
    cases f with
    | zero=>omega
    | succ f'=>exact ⟨f',rfl⟩
   obtain ⟨r,g1,⟨ks,X,b,g2,g3⟩⟩:=dY (f:=cQ (bD f) k d) (fun s:Int × GNode × Gl04Pack=>∃ (i:Nat) (ks:List Int) (t:List GNode) (b:Bool),s.1=i∧i ≤ e.Kids.length∧ks.length ≤ i∧s.2.1=⟨e.Kind,e.Num,e.Name,ks⟩∧s.2.2=⟨nodes,t,b⟩ ∧
     ((b=false∧t.length ≤ 300∧pkL (pkI nodes f (d + 1)) e.Kids ([],tq)=pkL (pkI nodes f (d + 1)) (e.Kids.drop i) (ks,t)) ∨ (pkL (pkI nodes f (d + 1)) e.Kids ([],tq)=none∧(b=true ∨ t.length > 300)∧(t.length:Int) ≤ 300 + (10 - d)))) (fun s=>e.Kids.length - s.1.toNat)
     (fun r=>∃ (ks:List Int) (X:List GNode) (b:Bool),r=((⟨e.Kind,e.Num,e.Name,ks⟩:GNode),(⟨nodes,X,b⟩:Gl04Pack))∧((b=false∧X.length ≤ 300∧pkL (pkI nodes f (d + 1)) e.Kids ([],tq)=some (ks,X)) ∨ (pkL (pkI nodes f (d + 1)) e.Kids ([],tq)=none∧(b=true ∨ X.length > 300)∧(X.length:Int) ≤ 300 + (10 - d)))) (by
    rintro ⟨i,nd,pk⟩ ⟨i,ks,t,b,rfl,hi,hkl',rfl,rfl,hcase⟩;try simp only at hi hkl' hcase
    by_cases hil:i < e.Kids.length
    ·have hcnd:(if decide ((i:Int) < (e.Kids.length:Int))=true then some (!b) else some false)=some (!b):=by rw [aB hil];rfl
     cases hbb:b with
     | true =>
      right;refine ⟨(⟨e.Kind,e.Num,e.Name,ks⟩,⟨nodes,t,true⟩),?_,ks,t,true,rfl,?_⟩
      ·simp only [cQ,hge,Option.bind_some,aB hil,if_true,Bool.not_true,Bool.false_eq_true,if_false]
      rcases hcase with ⟨h,_⟩ | ⟨h1',_,h3'⟩
      ·rw [hbb] at h;cases h
      exact .inr ⟨h1',.inl rfl,h3'⟩
     | false =>
      left;have hstp:∀ (q:Int) (X:List GNode) (b':Bool),bD f ⟨nodes,t,false⟩ e.Kids[i] (d + 1)=some (q,⟨nodes,X,b'⟩)→cQ (bD f) k d ((i:Int),⟨e.Kind,e.Num,e.Name,ks⟩,⟨nodes,t,false⟩)=some (.inl (((i + 1:Nat):Int),⟨e.Kind,e.Num,e.Name,ks ++ [q]⟩,⟨nodes,X,b'⟩)):=by
       intro q X b' hq;have happ:bO 8 ks [q]=some (ks ++ [q]):=app1 (by omega) (by omega)
       simp only [cQ,hge,Option.bind_some,aB hil,if_true,Bool.not_false,aN hil,hw,hq,happ,bC hil hkl]
      by_cases hdoom:pkL (pkI nodes f (d + 1)) e.Kids ([],tq)=none∧(t.length > 300)∧(t.length:Int) ≤ 300 + (10 - d)
      ·obtain ⟨f',rfl⟩:=hf;have hq:=zI nodes hn f' t false (.inr hdoom.2.1) e.Kids[i] (d + 1);exact ⟨_,hstp _ _ _ hq,⟨i + 1,ks ++ [-1],t,true,rfl,by omega,by simp only [List.length_append,List.length_cons,List.length_nil];omega,rfl,rfl,.inr ⟨hdoom.1,.inl rfl,hdoom.2.2⟩⟩,by simp only [Int.toNat_natCast];omega⟩
      have hgood:t.length ≤ 300∧pkL (pkI nodes f (d + 1)) e.Kids ([],tq)=pkL (pkI nodes f (d + 1)) (e.Kids.drop i) (ks,t):=by
       rcases hcase with ⟨_,h5,h6⟩ | ⟨h5,h6,h7⟩
       ·exact ⟨h5,h6⟩
       rcases h6 with h6 | h6
       ·rw [hbb] at h6;cases h6
       exact absurd ⟨h5,h6,h7⟩ hdoom
      obtain ⟨ht,hp⟩:=hgood;rw [List.drop_eq_getElem_cons hil] at hp;simp only [pkL] at hp;obtain ⟨m1,m2⟩:=zF nodes hn hk f (d + 1) t e.Kids[i] (by omega) (by omega) (by omega) ht
      cases hx:pkI nodes f (d + 1) t e.Kids[i] with
      | none =>
       obtain ⟨q,X,b',n1,n2,n3⟩:=m2 hx;rw [hx] at hp;simp only at hp;exact ⟨_,hstp _ _ _ n1,⟨i + 1,ks ++ [q],X,b',rfl,by omega,by simp only [List.length_append,List.length_cons,List.length_nil];omega,rfl,rfl,.inr ⟨hp,n2,by omega⟩⟩,by simp only [Int.toNat_natCast];omega⟩
      | some q =>
       have hq:=m1 q hx;rw [hx] at hp;simp only at hp;exact ⟨_,hstp _ _ _ hq,⟨i + 1,ks ++ [q.1],q.2,false,rfl,by omega,by simp only [List.length_append,List.length_cons,List.length_nil];omega,rfl,rfl,.inl ⟨rfl,aBd hx,hp⟩⟩,by simp only [Int.toNat_natCast];omega⟩
    right;have:i=e.Kids.length:=by omega
    subst this;refine ⟨(⟨e.Kind,e.Num,e.Name,ks⟩,⟨nodes,t,b⟩),?_,ks,t,b,rfl,?_⟩
    ·simp only [cQ,hge,Option.bind_some,aMd,Bool.false_eq_true,if_false]
    rcases hcase with ⟨h5,h6,h7⟩ | h5
    ·rw [List.drop_length] at h7;exact .inl ⟨h5,h6,h7⟩
    exact .inr h5) (0,⟨e.Kind,e.Num,e.Name,[]⟩,⟨nodes,tq,false⟩) ⟨0,[],tq,false,rfl,by omega,by simp,rfl,rfl,.inl ⟨rfl,h4,by simp⟩⟩
   subst g2;rw [g1];simp only [Option.bind_some];have hXl:X.length ≤ 1000000:=by
    rcases g3 with ⟨_,h,_⟩ | ⟨_,_,h⟩<;>omega
   rw [app56 hXl];simp only [Option.bind_some,List.length_append,List.length_cons,List.length_nil];have hw2:IntKind.wrap .i64 (((X.length + (0 + 1):Nat):Int) - 1)=(X.length:Int):=by rw [w64 (by omega) (by omega)];omega
   rw [hw2];have hgoodP:∀ r,P=some r→b=false∧r=((X.length:Int),X ++ [(⟨e.Kind,e.Num,e.Name,ks⟩:GNode)]):=by
    intro r hr;rw [← hpk] at hr;split at hr
    ·rcases g3 with ⟨h5,h6,h7⟩ | ⟨h5,_⟩
     ·rw [h7] at hr;simp only at hr;split at hr
      ·exact ⟨h5,(Option.some.inj hr).symm⟩
      cases hr
     rw [h5] at hr;cases hr
    cases hr
   have hbadP:P=none→(b=true ∨ X.length ≥ 300):=by
    intro hr;rw [← hpk] at hr;rcases g3 with ⟨h5,h6,h7⟩ | ⟨_,h6,_⟩
    ·right;split at hr
     ·rw [h7] at hr;simp only at hr;split at hr
      ·cases hr
      omega
     rename_i hno;have hge300:¬ tq.length < 300:=fun h=>hno ⟨hi,hd,h⟩
     -- nothing is taken away
     have mono:∀ (l:List Int) (s s':List Int × List GNode),pkL (pkI nodes f (d + 1)) l s=some s'→s.2.length ≤ s'.2.length:=by
      intro l;induction l with
      | nil=>intro s s' h;cases h;exact Nat.le_refl _
      | cons x l ih =>
       intro s s' h;simp only [pkL] at h;split at h
       ·cases h
       rename_i q hq;have h8:=ih _ _ h;have h9:s.2.length ≤ q.2.length:=by
        have:∀ (f:Nat) (d:Int) (tq:List GNode) (k:Int) (q:Int × List GNode),pkI nodes f d tq k=some q→tq.length < 300:=by
         intro f d tq k q h;cases f with
         | zero=>cases h
         | succ f =>
          simp only [pkI] at h;split at h
          ·rename_i hh;exact hh.2.2
          cases h
        have hlt:=this _ _ _ _ _ hq;have hgr:∀ (f:Nat) (d:Int) (tq:List GNode) (k:Int) (q:Int × List GNode),pkI nodes f d tq k=some q→tq.length ≤ q.2.length:=by
         intro f;induction f with
         | zero=>intro d tq k q h;cases h
         | succ f ihf =>
          intro d tq k q h;simp only [pkI] at h;split at h
          ·split at h
           ·cases h
           split at h
           ·cases h
           rename_i s'' hs'';have hm:∀ (l:List Int) (s s':List Int × List GNode),pkL (pkI nodes f (d + 1)) l s=some s'→s.2.length ≤ s'.2.length:=by
            intro l;induction l with
            | nil=>intro s s' h;cases h;exact Nat.le_refl _
            | cons x l ihl =>
             intro s s' h;simp only [pkL] at h;split at h
             ·cases h
             rename_i q' hq';exact Nat.le_trans (ihf _ _ _ _ hq') (ihl _ _ h)
           have h10:=hm _ _ _ hs'';split at h
           ·have:=Option.some.inj h;subst this;simp only [List.length_append] at h10 ⊢;omega
           cases h
          cases h
        exact hgr _ _ _ _ _ hq
       exact Nat.le_trans h9 h8
     have:=mono _ _ _ h7;simp only at this;omega
    rcases h6 with h6 | h6
    ·exact .inl h6
    exact .inr (by omega)
   refine ⟨fun r hr=>?_,fun hr=>?_⟩
   ·obtain ⟨h5,h6⟩:=hgoodP r hr;subst h5 h6;rfl
   refine ⟨_,_,b,rfl,?_,?_⟩
   ·rcases hbadP hr with h | h
    ·exact .inl h
    right;simp only [List.length_append,List.length_cons,List.length_nil];omega
   simp only [List.length_append,List.length_cons,List.length_nil];rcases g3 with ⟨_,h,_⟩ | ⟨_,_,h⟩<;>omega
  rw [if_pos hc,if_neg (fun h=>hc ⟨h.1,h.2.1⟩)];exact ⟨fun r h=>(by cases h),fun _=>⟨_,_,true,rfl,.inl rfl,by first | omega | (simp only;omega)⟩⟩
end Go.OM
namespace Go.OM
theorem aKn {rc:List GNode→Int→Option (Int × List GNode)}:∀ (l:List Int) (s s':List Int × List GNode),pkL rc l s=some s'→s'.1.length=s.1.length + l.length
 | [],s,s',h=>by cases h;rfl
 | x :: l,s,s',h=>by
  simp only [pkL] at h;split at h
  ·cases h
  rename_i r hx;have:=aKn l _ s' h;rw [this];simp only [List.length_append,List.length_cons,List.length_nil];omega
theorem aQk {rc:List GNode→Int→Option (Int × List GNode)} (hr:∀ tq k r,NL tq→rc tq k=some r→NL r.2):∀ (l:List Int) (s s':List Int × List GNode),NL s.2→pkL rc l s=some s'→NL s'.2
 | [],s,s',hs,h=>by cases h;exact hs
 | x :: l,s,s',hs,h=>by
  simp only [pkL] at h;split at h
  ·cases h
  rename_i r hx;exact aQk hr l _ s' (hr _ _ _ hs hx) h
theorem aKo {nodes:List GNode} (hN:NL nodes):∀ (f:Nat) (d:Int) (tq:List GNode) (k:Int) (r:Int × List GNode),NL tq→pkI nodes f d tq k=some r→NL r.2
 | 0,d,tq,k,r,_,h=>by cases h
 | f + 1,d,tq,k,r,ht,h=>by
  simp only [pkI] at h;split at h
  ·split at h
   ·cases h
   rename_i e he;split at h
   ·cases h
   rename_i s hs;split at h
   ·have hr:=Option.some.inj h;subst hr;have h1:=aQk (fun tq k r=>aKo hN f (d + 1) tq k r) _ _ _ ht hs;have h2:=aKn _ _ _ hs;have h3:=hN e (List.mem_of_getElem? he);intro x hx;simp only [List.mem_append,List.mem_singleton] at hx;rcases hx with hx | hx
    ·exact h1 x hx
    subst hx;refine ⟨h3.1,?_⟩;simp only [List.length_nil,Nat.zero_add] at h2;simp only;rw [h2];exact h3.2
   cases h
  cases h
theorem aId (nodes:List GNode):∀ (f:Nat),1 ≤ f→∀ (X:List GNode) (k d:Int),cE f ⟨nodes,X,true⟩ k d=some (-1,⟨nodes,X,true⟩)
 | 0,h,_,_,_=>by omega
 | f + 1,_,X,k,d=>rfl
theorem aHj (nodes:List GNode) (hn:nodes.length ≤ 1048576):∀ (f:Nat),1 ≤ f→∀ (X:List GNode) (b:Bool),(b=true ∨ X.length > 300)→∀ (k d:Int),bD f ⟨nodes,X,b⟩ k d=some (-1,⟨nodes,X,true⟩)
 | 0,h,_,_,_,_,_=>by omega
 | f + 1,_,X,b,hb,k,d=>zI nodes hn f X b hb k d
def RelP (p:GProgram) (i:Nat) (pk:Gpacker) (pr:GProgram) (pr':GProgram) (pk':Gl04Pack):Prop :=
 (∃ (t:List GNode) (fs:List GFn),pk=⟨p.Nodes,t,false⟩∧pk'=⟨p.Nodes,t,false⟩∧t.length ≤ 300∧NL t∧pr=⟨[],fs⟩∧pr'=⟨[],fs⟩∧fs.length=i∧∀ f ∈ fs,GFn.le 1048576 f) ∨
 (∃ (X X':List GNode) (b':Bool) (fs fs':List GFn),pk=⟨p.Nodes,X,true⟩∧pk'=⟨p.Nodes,X',b'⟩∧(b'=true ∨ X'.length > 300)∧X'.length ≤ 1000∧pr=⟨[],fs⟩∧pr'=⟨[],fs'⟩∧fs.length=i∧fs'.length=i)
theorem aK3 (p:GProgram) (h:GProgram.le 1048576 p):∃ (q:GProgram) (b:Bool),rW p=some (q,b)∧rL p=some (q,b)∧(b=true→GProgram.le 1048576 q):=by
 obtain ⟨⟨hn,hN⟩,hF,hFl⟩:=h;have hk:∀ x ∈ p.Nodes,x.Kids.length ≤ 1048576:=fun x hx=>(hN x hx).2;have h1f:1 ≤ bL:=by rw [aB9];omega
 have h12:12 ≤ (1:Int) + (bL:Nat):=by rw [aB9];omega
 have ip:∀ (t:List GNode) (k:Int),t.length ≤ 300→(∀ r,pkI p.Nodes bL 1 t k=some r→iX ⟨p.Nodes,t,false⟩ k 1=some (r.1,⟨p.Nodes,r.2,false⟩))∧(pkI p.Nodes bL 1 t k=none→∃ X,iX ⟨p.Nodes,t,false⟩ k 1=some (-1,⟨p.Nodes,X,true⟩)):=fun t k ht=>aA8 p.Nodes hn hk bL 1 t k (by omega) (by omega) h12 ht
 have sp:∀ (t:List GNode) (k:Int),t.length ≤ 300→(∀ r,pkI p.Nodes bL 1 t k=some r→gK ⟨p.Nodes,t,false⟩ k 1=some (r.1,⟨p.Nodes,r.2,false⟩))∧(pkI p.Nodes bL 1 t k=none→∃ (q:Int) (X:List GNode) (b:Bool),gK ⟨p.Nodes,t,false⟩ k 1=some (q,⟨p.Nodes,X,b⟩)∧(b=true ∨ X.length > 300)∧(X.length:Int) ≤ 300 + (11 - 1)):=fun t k ht=>zF p.Nodes hn hk bL 1 t k (by omega) (by omega) h12 ht
 have ib:∀ (X:List GNode) (k:Int),iX ⟨p.Nodes,X,true⟩ k 1=some (-1,⟨p.Nodes,X,true⟩):=fun X k=>aId p.Nodes bL h1f X k 1;have sb:∀ (X:List GNode) (b:Bool) (k:Int),(b=true ∨ X.length > 300)→gK ⟨p.Nodes,X,b⟩ k 1=some (-1,⟨p.Nodes,X,true⟩):=fun X b k hb=>aHj p.Nodes hn bL h1f X b hb k 1
 obtain ⟨r,r',g1,g2,pk,pr,pr',pk',e1,e2,g3⟩:=aNv (f:=dD p) (g:=dC p) (fun (a:Int × Gpacker × GProgram) (b:Int × GProgram × Gl04Pack)=>∃ i:Nat,a.1=i∧b.1=i∧i ≤ p.Fns.length∧RelP p i a.2.1 a.2.2 b.2.1 b.2.2) (fun a=>p.Fns.length - a.1.toNat)
  (fun r r'=>∃ pk pr pr' pk',r=(pk,pr)∧r'=(pr',pk')∧RelP p p.Fns.length pk pr pr' pk') (by
  rintro ⟨i,pk,pr⟩ ⟨i',pr',pk'⟩ ⟨i,rfl,rfl,hi,hrel⟩;simp only at hi hrel;by_cases hlt:i < p.Fns.length
  ·left;have hfm:=List.getElem_mem hlt;have hfl:=hFl _ hfm;have hpar:(p.Fns[i]).Params.length ≤ 1048576:=hfl.2.1;have hcp:=aE8 p.Fns[i] hpar;have hap:=aAr (n:=24) hpar (by omega)
   have hgi:aP p.Fns (i:Int)=some p.Fns[i]:=aN hlt;generalize p.Fns[i]=f at *;have hwi:=bC hlt hF;have appF:∀ (fs:List GFn) (x:GFn),fs.length=i→bO 64 fs [x]=some (fs ++ [x]):=fun fs x hfs=>aEw (by omega) (by omega)
   -- both go wrong
   have wrong:∀ (X X':List GNode) (b':Bool) (z z':GFn) (fs fs':List GFn),(b'=true ∨ X'.length > 300)→X'.length ≤ 1000→fs.length=i→fs'.length=i→RelP p (i + 1) ⟨p.Nodes,X,true⟩ ⟨[],fs ++ [z]⟩ ⟨[],fs' ++ [z']⟩ ⟨p.Nodes,X',b'⟩:=fun X X' b' z z' fs fs' a1 a2 a3 a4=>.inr ⟨X,X',b',_,_,rfl,rfl,a1,a2,rfl,rfl,by simp [a3],by simp [a4]⟩
   by_cases hret:f.Ret ≥ 0
   ·have hrd:decide (f.Ret ≥ 0)=true:=by simpa using hret
    rcases hrel with ⟨t,fs,rfl,rfl,ht,hnl,rfl,rfl,hfs,hfle⟩ | ⟨X,X',b',fs,fs',rfl,rfl,hb,hXl,rfl,rfl,hfs,hfs'⟩
    ·obtain ⟨i1,i2⟩:=ip t f.Body ht;obtain ⟨s1,s2⟩:=sp t f.Body ht;cases hx:pkI p.Nodes bL 1 t f.Body with
     | none =>
      obtain ⟨X,hX⟩:=i2 hx;obtain ⟨q,X',b',n1,n2,n3⟩:=s2 hx;refine ⟨(((i + 1:Nat):Int),⟨p.Nodes,X,true⟩,⟨[],fs ++ [⟨f.Name,f.Params,f.Res,-1,-1⟩]⟩),(((i + 1:Nat):Int),⟨[],fs ++ [⟨f.Name,f.Params,f.Res,q,-1⟩]⟩,⟨p.Nodes,X',true⟩),?_,?_,⟨i + 1,rfl,rfl,by omega,wrong X X' true _ _ fs fs (.inl rfl) (by omega) hfs hfs⟩,by simp only [Int.toNat_natCast];omega⟩
      ·simp only [dD,aB hlt,if_true,hgi,Option.bind_some,hcp,hX,hrd,ib,appF _ _ hfs,hwi]
      simp only [dC,aB hlt,if_true,hgi,Option.bind_some,hap,n1,hrd,sb X' b' _ n2,appF _ _ hfs,hwi]
     | some r1 =>
      have hl1:=aBd hx;have hnl1:=aKo hN _ _ _ _ _ hnl hx;obtain ⟨j1,j2⟩:=ip r1.2 f.Ret hl1;obtain ⟨u1,u2⟩:=sp r1.2 f.Ret hl1;cases hy:pkI p.Nodes bL 1 r1.2 f.Ret with
      | none =>
       obtain ⟨X,hX⟩:=j2 hy;obtain ⟨q,X',b',n1,n2,n3⟩:=u2 hy;refine ⟨(((i + 1:Nat):Int),⟨p.Nodes,X,true⟩,⟨[],fs ++ [⟨f.Name,f.Params,f.Res,r1.1,-1⟩]⟩),(((i + 1:Nat):Int),⟨[],fs ++ [⟨f.Name,f.Params,f.Res,r1.1,q⟩]⟩,⟨p.Nodes,X',b'⟩),?_,?_,⟨i + 1,rfl,rfl,by omega,wrong X X' b' _ _ fs fs n2 (by omega) hfs hfs⟩,by simp only [Int.toNat_natCast];omega⟩
       ·simp only [dD,aB hlt,if_true,hgi,Option.bind_some,hcp,i1 r1 hx,hrd,hX,appF _ _ hfs,hwi]
       simp only [dC,aB hlt,if_true,hgi,Option.bind_some,hap,s1 r1 hx,hrd,n1,appF _ _ hfs,hwi]
      | some r2 =>
       refine ⟨(((i + 1:Nat):Int),⟨p.Nodes,r2.2,false⟩,⟨[],fs ++ [⟨f.Name,f.Params,f.Res,r1.1,r2.1⟩]⟩),(((i + 1:Nat):Int),⟨[],fs ++ [⟨f.Name,f.Params,f.Res,r1.1,r2.1⟩]⟩,⟨p.Nodes,r2.2,false⟩),?_,?_,⟨i + 1,rfl,rfl,by omega,.inl ⟨r2.2,_,rfl,rfl,aBd hy,aKo hN _ _ _ _ _ hnl1 hy,rfl,rfl,by simp [hfs],fun x hx=>?_⟩⟩,by simp only [Int.toNat_natCast];omega⟩
       ·simp only [dD,aB hlt,if_true,hgi,Option.bind_some,hcp,i1 r1 hx,hrd,j1 r2 hy,appF _ _ hfs,hwi]
       ·simp only [dC,aB hlt,if_true,hgi,Option.bind_some,hap,s1 r1 hx,hrd,u1 r2 hy,appF _ _ hfs,hwi]
       simp only [List.mem_append,List.mem_singleton] at hx;rcases hx with hx | hx
       ·exact hfle x hx
       subst hx;exact hfl
    refine ⟨(((i + 1:Nat):Int),⟨p.Nodes,X,true⟩,⟨[],fs ++ [⟨f.Name,f.Params,f.Res,-1,-1⟩]⟩),(((i + 1:Nat):Int),⟨[],fs' ++ [⟨f.Name,f.Params,f.Res,-1,-1⟩]⟩,⟨p.Nodes,X',true⟩),?_,?_,⟨i + 1,rfl,rfl,by omega,wrong X X' true _ _ fs fs' (.inl rfl) hXl hfs hfs'⟩,by simp only [Int.toNat_natCast];omega⟩
    ·simp only [dD,aB hlt,if_true,hgi,Option.bind_some,hcp,hrd,ib,appF _ _ hfs,hwi]
    simp only [dC,aB hlt,if_true,hgi,Option.bind_some,hap,hrd,sb X' b' _ hb,sb X' true _ (.inl rfl),appF _ _ hfs',hwi]
   have hrd:decide (f.Ret ≥ 0)=false:=by simpa using hret
   rcases hrel with ⟨t,fs,rfl,rfl,ht,hnl,rfl,rfl,hfs,hfle⟩ | ⟨X,X',b',fs,fs',rfl,rfl,hb,hXl,rfl,rfl,hfs,hfs'⟩
   ·obtain ⟨i1,i2⟩:=ip t f.Body ht;obtain ⟨s1,s2⟩:=sp t f.Body ht;cases hx:pkI p.Nodes bL 1 t f.Body with
    | none =>
     obtain ⟨X,hX⟩:=i2 hx;obtain ⟨q,X',b',n1,n2,n3⟩:=s2 hx;refine ⟨(((i + 1:Nat):Int),⟨p.Nodes,X,true⟩,⟨[],fs ++ [⟨f.Name,f.Params,f.Res,-1,f.Ret⟩]⟩),(((i + 1:Nat):Int),⟨[],fs ++ [⟨f.Name,f.Params,f.Res,q,f.Ret⟩]⟩,⟨p.Nodes,X',b'⟩),?_,?_,⟨i + 1,rfl,rfl,by omega,wrong X X' b' _ _ fs fs n2 (by omega) hfs hfs⟩,by simp only [Int.toNat_natCast];omega⟩
     ·simp only [dD,aB hlt,if_true,hgi,Option.bind_some,hcp,hX,hrd,Bool.false_eq_true,if_false,appF _ _ hfs,hwi]
     simp only [dC,aB hlt,if_true,hgi,Option.bind_some,hap,n1,hrd,Bool.false_eq_true,if_false,appF _ _ hfs,hwi]
    | some r1 =>
     refine ⟨(((i + 1:Nat):Int),⟨p.Nodes,r1.2,false⟩,⟨[],fs ++ [⟨f.Name,f.Params,f.Res,r1.1,f.Ret⟩]⟩),(((i + 1:Nat):Int),⟨[],fs ++ [⟨f.Name,f.Params,f.Res,r1.1,f.Ret⟩]⟩,⟨p.Nodes,r1.2,false⟩),?_,?_,⟨i + 1,rfl,rfl,by omega,.inl ⟨r1.2,_,rfl,rfl,aBd hx,aKo hN _ _ _ _ _ hnl hx,rfl,rfl,by simp [hfs],fun x hx=>?_⟩⟩,by simp only [Int.toNat_natCast];omega⟩
     ·simp only [dD,aB hlt,if_true,hgi,Option.bind_some,hcp,i1 r1 hx,hrd,Bool.false_eq_true,if_false,appF _ _ hfs,hwi]
     ·simp only [dC,aB hlt,if_true,hgi,Option.bind_some,hap,s1 r1 hx,hrd,Bool.false_eq_true,if_false,appF _ _ hfs,hwi]
     simp only [List.mem_append,List.mem_singleton] at hx;rcases hx with hx | hx
     ·exact hfle x hx
     subst hx;exact hfl
   refine ⟨(((i + 1:Nat):Int),⟨p.Nodes,X,true⟩,⟨[],fs ++ [⟨f.Name,f.Params,f.Res,-1,f.Ret⟩]⟩),(((i + 1:Nat):Int),⟨[],fs' ++ [⟨f.Name,f.Params,f.Res,-1,f.Ret⟩]⟩,⟨p.Nodes,X',true⟩),?_,?_,⟨i + 1,rfl,rfl,by omega,wrong X X' true _ _ fs fs' (.inl rfl) hXl hfs hfs'⟩,by simp only [Int.toNat_natCast];omega⟩
   ·simp only [dD,aB hlt,if_true,hgi,Option.bind_some,hcp,hrd,ib,Bool.false_eq_true,if_false,appF _ _ hfs,hwi]
   simp only [dC,aB hlt,if_true,hgi,Option.bind_some,hap,hrd,sb X' b' _ hb,Bool.false_eq_true,if_false,appF _ _ hfs',hwi]
  right;have:i=p.Fns.length:=by omega
  subst this;exact ⟨(pk,pr),(pr',pk'),by simp [dD],by simp [dC],pk,pr,pr',pk',rfl,rfl,hrel⟩) (0,⟨p.Nodes,[],false⟩,⟨[],[]⟩) (0,⟨[],[]⟩,⟨p.Nodes,[],false⟩) ⟨0,rfl,rfl,by omega,.inl ⟨[],[],rfl,rfl,by simp,fun x hx=>(by cases hx),rfl,rfl,rfl,fun x hx=>(by cases hx)⟩⟩
 subst e1 e2;unfold rW rL;rw [g1,g2];simp only [Option.bind_some];rcases g3 with ⟨t,fs,rfl,rfl,ht,hnl,rfl,rfl,hfs,hfle⟩ | ⟨X,X',b',fs,fs',rfl,rfl,hb,hXl,rfl,rfl,hfs,hfs'⟩
 ·have hd:decide ((t.length:Int) > 300)=false:=by simp only [decide_eq_false_iff_not];omega
  refine ⟨⟨t,fs⟩,true,by simp,by simp only [Bool.false_eq_true,if_false,hd,Option.bind_some],fun _=>⟨⟨by simp only;omega,hnl⟩,by simp only;omega,hfle⟩⟩
 refine ⟨⟨[],[]⟩,false,by simp,?_,fun h=>by cases h⟩
 have:(if b'=true then some true else some (decide ((X'.length:Int) > 300)))=some true:=by
  rcases hb with h | h
  ·rw [h];rfl
  have hd:decide ((X'.length:Int) > 300)=true:=by simp only [decide_eq_true_eq];omega
  rw [hd];split<;>rfl
 simp only [this,Option.bind_some,if_true]
end Go.OM
namespace Go.OM
end Go.OM
namespace Go.OM
end Go.OM
namespace Go.OM
def aLa (nodes:List GNode) (q:GNode→Bool):Nat→Int
 | 0=>0
 | n + 1=>aLa nodes q n + (match nodes[n]? with | some x=>if q x=true then 1 else 0 | none=>0)
theorem aL9 (nodes:List GNode) (q:GNode→Bool):∀ n:Nat,0 ≤ aLa nodes q n∧aLa nodes q n ≤ n
 | 0=>⟨Int.le_refl _,Int.le_refl _⟩
 | n + 1=>by
  have:=aL9 nodes q n;simp only [aLa];split
  ·split<;>omega
  omega
theorem aOj {nodes:List GNode} (q:GNode→Bool) {n:Nat} (h:n < nodes.length):aLa nodes q (n + 1)=if q nodes[n]=true then aLa nodes q n + 1 else aLa nodes q n:=by
 simp only [aLa,List.getElem?_eq_getElem h];split<;>omega
def aEa (nm:ByteArray) (x:GNode):Bool:=x.Kind == 12 && sEq x.Name nm
theorem yO (p:GProgram) (nm:ByteArray) (hp:p.Nodes.length ≤ 1048576) (f:Int × Int→Option ((Int × Int) ⊕ Int))
  (h1:∀ (n:Int) (k:Nat) (hk:k < p.Nodes.length),f (n,k)=some (.inl (if aEa nm p.Nodes[k]=true then IntKind.wrap .i64 (n + 1) else n,((k + 1:Nat):Int)))) (h2:∀ n:Int,f (n,p.Nodes.length)=some (.inr n)) :
  aI f (0,0)=some (aLa p.Nodes (aEa nm) p.Nodes.length):=by
 obtain ⟨r,h3,h4⟩:=dY (f:=f) (fun s:Int × Int=>∃ k:Nat,s.2=k∧k ≤ p.Nodes.length∧s.1=aLa p.Nodes (aEa nm) k) (fun s=>p.Nodes.length - s.2.toNat) (fun r=>r=aLa p.Nodes (aEa nm) p.Nodes.length) (by
  rintro ⟨n,i⟩ ⟨k,hi,hk,h0⟩;simp only at hi h0;subst hi;subst h0;by_cases hlt:k < p.Nodes.length
  ·left;have c1:=aL9 p.Nodes (aEa nm) k;have s1:=aOj (aEa nm) hlt;refine ⟨_,h1 _ k hlt,⟨k + 1,rfl,by omega,?_⟩,by simp only [Int.toNat_natCast];omega⟩
   simp only [s1,w64 (n:=aLa p.Nodes (aEa nm) k + 1) (by omega) (by omega)]
  right;have hke:k=p.Nodes.length:=by omega
  subst hke;exact ⟨_,h2 _,rfl⟩) (0,0) ⟨0,rfl,by omega,rfl⟩
 subst h4;exact h3
theorem aBl (p:GProgram) (hp:p.Nodes.length ≤ 1048576) (nm:ByteArray):nB p nm=some (aLa p.Nodes (aEa nm) p.Nodes.length):=by
 unfold nB;rw [yO p nm hp _ (fun n k hk=>by
  simp only [mB,aB hk,if_true,aN hk,Option.bind_some,bC hk hp];unfold aEa;cases h1:p.Nodes[k].Kind == 12<;>cases h2:sEq p.Nodes[k].Name nm<;>simp [h1,h2]) (fun n=>by simp [mB])]
 rfl
theorem aB4 (p:GProgram) (hp:p.Nodes.length ≤ 1048576) (nm:ByteArray):mP p nm=some (aLa p.Nodes (aEa nm) p.Nodes.length):=by
 unfold mP;rw [yO p nm hp _ (fun n k hk=>by
  simp only [lW,aB hk,if_true,aN hk,Option.bind_some,bC hk hp];unfold aEa;cases h1:p.Nodes[k].Kind == 12<;>cases h2:sEq p.Nodes[k].Name nm<;>simp [h1,h2]) (fun n=>by simp [lW])]
 rfl
end Go.OM
namespace Go.OM
def aMv (p:GProgram) (s:List GFn) (i:Int):List GFn:=match p.Fns[i.toNat]? with
 | some f=>s ++ [f]
 | none=>s
theorem aF0 (p:GProgram) (r:List Int) (hr:r.length ≤ 1048576) (hb:∀ i ∈ r,0 ≤ i∧i < p.Fns.length) (f:Int × GProgram→Option ((Int × GProgram) ⊕ GProgram))
  (hf:∀ (s:List GFn) (k:Nat) (hk:k < r.length) (g:GFn),s.length ≤ k→p.Fns[(r[k]).toNat]? = some g→aP p.Fns r[k]=some g→f ((k:Int),⟨p.Nodes,s⟩)=some (.inl (((k + 1:Nat):Int),⟨p.Nodes,s ++ [g]⟩)))
  (he:∀ s,f ((r.length:Int),⟨p.Nodes,s⟩)=some (.inr ⟨p.Nodes,s⟩)):aI f (0,⟨p.Nodes,[]⟩)=some ⟨p.Nodes,r.foldl (aMv p) []⟩:=by
 have:=cO r (fun (s:List GFn) k=>((k:Int),(⟨p.Nodes,s⟩:GProgram))) (fun k s=>s.length ≤ k) (fun s i=>.inl (aMv p s i)) (fun s=>(⟨p.Nodes,s⟩:GProgram)) f (fun s k hk hI=>by
  left;obtain ⟨b0,b1⟩:=hb _ (List.getElem_mem hk);have hlt:(r[k]).toNat < p.Fns.length:=by omega
  have hg:p.Fns[(r[k]).toNat]? = some p.Fns[(r[k]).toNat]:=List.getElem?_eq_getElem hlt;refine ⟨aMv p s r[k],rfl,?_,?_⟩
  ·rw [hf s k hk _ hI hg (eH b0 b1)];simp only [aMv,hg]
  simp only [aMv,hg,List.length_append,List.length_cons,List.length_nil];omega) (fun s _=>he s) [] (by simp)
 rw [dQ] at this;exact this
theorem aLg (p:GProgram):∀ (r:List Int) (s:List GFn),(∀ f ∈ s,f ∈ p.Fns)→(∀ f ∈ r.foldl (aMv p) s,f ∈ p.Fns)∧(r.foldl (aMv p) s).length ≤ s.length + r.length
 | [],s,h=>⟨h,by simp⟩
 | i :: r,s,h=>by
  rw [List.foldl_cons];have h1:(∀ f ∈ aMv p s i,f ∈ p.Fns)∧(aMv p s i).length ≤ s.length + 1:=by
   unfold aMv;split
   ·rename_i g hg;refine ⟨fun f hf=>?_,by simp⟩
    rcases List.mem_append.1 hf with h2 | h2
    ·exact h f h2
    rw [List.mem_singleton] at h2;rw [h2];exact List.mem_of_getElem? hg
   exact ⟨h,by omega⟩
  obtain ⟨h2,h3⟩:=aLg p r (aMv p s i) h1.1;exact ⟨h2,by simp only [List.length_cons];have:=h1.2;omega⟩
theorem aH0 (p:GProgram) (h:GProgram.le 1048576 p):∃ (q:GProgram) (b:Bool),oL p=some (q,b)∧nZ p=some (q,b)∧GProgram.le 1048576 q:=by
 have hle:=h;obtain ⟨c1,c2⟩:=aEu p h;obtain ⟨⟨hn,hN⟩,hF,hFl⟩:=h;unfold oL nZ;rw [uF p hn hF,lV p hn hF,c1,c2];simp only [Option.bind_some];cases hok:uX p with
 | false=>exact ⟨p,false,rfl,rfl,hle⟩
 | true =>
  simp only [Bool.not_true,Bool.false_eq_true,if_false];rw [oM p hn hF,oA p hn hF];simp only [Option.bind_some];generalize hfn:IntKind.wrap .i64 ((p.Fns.length:Int) - 1)=fn;have hrl:=xK p fn;have hrb:∀ i ∈ lE p fn,0 ≤ i∧i < p.Fns.length:=fun i hi=>aF3 hi;have e1:=aF0 p (lE p fn) (by omega) hrb (gP p (lE p fn)) (fun s k hk g hs hg hgi=>by
   have hgl:=hFl g (List.mem_of_getElem? hg);simp only [gP,aB hk,if_true,aN hk,hgi,Option.bind_some,aE8 g hgl.2.1,aEw (show s.length ≤ 1048576 by omega) (show 64 ≤ 64 by omega),bC hk (show (lE p fn).length ≤ 1048576 by omega)]) (fun s=>by simp [gP])
  have e2:=aF0 p (lE p fn) (by omega) hrb (jU p (lE p fn)) (fun s k hk g hs hg hgi=>by
   simp only [jU,aB hk,if_true,aN hk,hgi,Option.bind_some,aEw (show s.length ≤ 1048576 by omega) (show 64 ≤ 64 by omega),bC hk (show (lE p fn).length ≤ 1048576 by omega)]) (fun s=>by simp [jU])
  rw [e1,e2];simp only [Option.bind_some];obtain ⟨m1,m2⟩:=aLg p (lE p fn) [] (by simp)
  obtain ⟨q,b,g1,g2,g3⟩:=aK3 ⟨p.Nodes,(lE p fn).foldl (aMv p) []⟩ ⟨⟨hn,hN⟩,by simp only [List.length_nil] at m2;simp only;omega,fun f hf=>hFl f (m1 f hf)⟩
  rw [g1,g2];simp only [Option.bind_some];cases hb:b with
  | false=>exact ⟨p,false,rfl,rfl,hle⟩
  | true=>exact ⟨q,true,rfl,rfl,g3 hb⟩
end Go.OM
namespace Go.OM
theorem aOx {code:List Int} (h:code.length ≤ 9223372036854775807):Ends (pR code) (fun r=>GProgram.le 5000 r.1):=by
 unfold pR;refine Ends.bind (aS0 h) fun c hc=>?_;refine sG hc fun r q h1 h2 h3=>?_;dsimp only;refine Ends.bind (aK5 h1) ?_;rintro ⟨p,q2⟩ ⟨h4,h5,h6⟩;exact Ends.one h5
theorem aEx {code:List Int} (h:code.length ≤ 9223372036854775807):Ends (iT code) (fun p=>GProgram.le 5000 p):=by
 unfold iT;refine Ends.bind (aS0 h) fun c hc=>?_;refine Ends.bind (aK5 hc) ?_;rintro ⟨p,q2⟩ ⟨h4,h5,h6⟩;exact Ends.one h5
theorem aEc {code:List Int} (h:code.length ≤ 9223372036854775807):Ends (hE code) (fun r=>GProgram.le 5000 r.1):=by
 unfold hE;refine Ends.bind (aS0 h) fun c hc=>?_;refine sG hc fun r q h1 h2 h3=>?_;dsimp only;refine Ends.bind (aK5 h1) ?_;rintro ⟨p,q2⟩ ⟨h4,h5,h6⟩;dsimp only;split
 ·rename_i hlt;obtain ⟨k,rfl⟩:=Int.eq_ofNat_of_zero_le h2;have hk:k < p.Fns.length:=by simpa using hlt
  rw [aN hk,Option.bind_some];exact Ends.one h5
 exact Ends.one h5
theorem aDm (code:List Int) (hw:code.length ≤ maxLen):iD code=some true:=by
 have hl:code.length ≤ 9223372036854775807:=hw;unfold iD aCn;simp only [Option.bind_some];split
 ·rfl
 obtain ⟨⟨p,fn⟩,a1,a2⟩:=aOx hl;obtain ⟨q,b1,b2⟩:=aEx hl;obtain ⟨⟨x,s⟩,c1,c2⟩:=aEc hl;have ha:jV code=some (p,fn):=by unfold jV;rw [a1];rfl
 dsimp only at a2 c2;have hp:=yW a2 (show 5000 ≤ 1048576 by omega)
 have hq:=yW b2 (show 5000 ≤ 1048576 by omega)
 have hx:=yW c2 (show 5000 ≤ 1048576 by omega)
 obtain ⟨w,b,g1,g2,g3⟩:=aH0 q hq;have hc:=mC p fn;have l1:(cU p fn).length ≤ 1048576:=Nat.le_trans (eI hc.nd hc.bnd) hp.2.1;obtain ⟨d1,d2⟩:=aEy p hp.1.1 hp.2.1 fn;have l2:(aGw p fn).length ≤ 1048576:=Nat.le_trans (zO _ _) hp.2.1;have l3:(lE p fn).length ≤ 1048576:=Nat.le_trans (xK _ _) hp.2.1;have l4:(aOh p).length ≤ 1048576:=Nat.le_trans (zO _ _) hp.2.1;obtain ⟨n,e1,e2⟩:=aJ3 p hp.1.1 hp.2.1;rw [ha,b1,c1]
 simp only [Option.bind_some,g1,g2,oN p hp.1.1 hp.2.1,oC p hp.1.1 hp.2.1,d1,d2,oM p hp.1.1 hp.2.1,oA p hp.1.1 hp.2.1,aDx p hp.1.1 hp.2.1,aD4 p hp.1.1 hp.2.1,
  oD _ l1,oD _ l2,oD _ l3,oD _ l4,beq_self_eq_true,if_true,aEl w g3,e1,e2,aBl x hx.1.1,aB4 x hx.1.1]
end Go.OM
