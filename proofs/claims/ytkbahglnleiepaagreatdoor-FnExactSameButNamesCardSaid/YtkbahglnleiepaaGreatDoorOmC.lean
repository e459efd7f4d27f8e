import Derived.Test.YtkbahglnleiepaaGreatDoorOmB
import Derived.Sort.OwnSortedInts
set_option linter.unusedVariables false
set_option linter.unusedSimpArgs false
set_option linter.unusedVariables false
set_option linter.unusedSimpArgs false
namespace Go.OM
variable {C:Ctx} {E:Env} {Z Z':Nat→Prop} {s:StA} {σ σ':St} {S:Exit→St→Prop} {a:Act} {w:World} {c:Code}
def Cap.thaw (n:Nat) (cs:List T):Cap→Cap
 | .bx m=>if m=n then .ro (.pt cs) else .bx m
 | .ro x=>.ro x
def CapA.thaw (n b off:Nat) (cs:List TA):CapA→CapA
 | .bx m=>if m=n then .ro (.pt b off cs) else .bx m
 | .ro x=>.ro x
def AV.thaw (n:Nat) (cs:List T):AV→AV
 | .al r o p k=>if r = .box n then .u else .al r o p k
 | .ref r o p=>if r = .box n then (if p=[] then .rop cs o else .u) else .ref r o p
 | .clo f xs=>aJn f (xs.map (Cap.thaw n cs))
 | x=>x
def AVA.thaw (n b off:Nat) (cs:List TA):AVA→AVA
 | .al r o p k=>if r = .box n then .u else .al r o p k
 | .ref r o p=>if r = .box n then (if p=[] then .rop b off cs o else .u) else .ref r o p
 | .clo f xs=>uH f (xs.map (CapA.thaw n b off cs))
 | x=>x
def St.thaw (n:Nat) (σ:St):Option St:=(look σ.bx n).map fun cs=>⟨σ.tm.map fun e=>(e.1,e.2.thaw n (T.roL cs)),σ.bx.filter fun e=>e.1 != n⟩
theorem aNr (n b off:Nat) (cs:List TA) (x:CapA):(x.thaw n b off cs).er=x.er.thaw n (TA.erL cs):=by
 cases x with
 | bx m=>by_cases h:m=n<;>simp [CapA.thaw,CapA.er,Cap.thaw,TA.er,h]
 | ro x=>rfl
theorem aPi (n b off:Nat) (cs:List TA) (x:AVA):(x.thaw n b off cs).er=x.er.thaw n (TA.erL cs):=by
 cases x with
 | al r o p k=>by_cases h:r = .box n<;>simp [AVA.thaw,AVA.er,AV.thaw,h]
 | ref r o p=>by_cases h:r = .box n<;>by_cases h2:p=[]<;>simp [AVA.thaw,AVA.er,AV.thaw,h,h2]
 | clo f xs =>
  show (uH f (xs.map (CapA.thaw n b off cs))).er=aJn f ((xs.map CapA.er).map (Cap.thaw n (TA.erL cs)))
  rw [aIl,List.map_map,List.map_map]
  congr 1
  exact List.map_congr_left fun x _=>aNr n b off cs x
 | _=>rfl
theorem aNx (n b off k:Nat) (cs:List TA) (x:AVA):(x.thaw n b off cs).cnt k=x.cnt k:=by
 cases x with
 | al r o p k=>simp only [AVA.thaw];split<;>rfl
 | ref r o p=>simp only [AVA.thaw];split<;>(try split)<;>rfl
 | clo f xs=>simp only [AVA.thaw,uH];split<;>rfl
 | _=>rfl
theorem pK {α:Type} (n:Nat):∀ (l:List (Nat × α)) (m:Nat),look (l.filter fun e=>e.1 != n) m=if m=n then none else look l m
 | [],m=>by simp [look]
 | e :: l,m=>by
  have ih:=pK n l m
  simp only [List.filter_cons]
  by_cases e1:e.1=n
  ·have:(e.1 != n)=false:=by simp [e1]
   rw [this]
   simp only [Bool.false_eq_true,if_false,ih,look]
   by_cases e2:m=n
   ·rw [if_pos e2,if_pos e2]
   ·rw [if_neg e2,if_neg e2,if_neg (by omega)]
  ·have:(e.1 != n)=true:=by simpa using e1
   rw [this]
   simp only [if_true,look,ih]
   by_cases e2:e.1=m
   ·rw [if_pos e2,if_pos e2,if_neg (by omega)]
   ·rw [if_neg e2,if_neg e2]
theorem aBz {α:Type} (f:α→Nat) (n:Nat):∀ (l:List (Nat × α)),tot f (l.filter fun e=>e.1 != n) ≤ tot f l
 | []=>by simp [tot]
 | e :: l=>by
  have ih:=aBz f n l
  simp only [List.filter_cons]
  split
  ·simp only [tot];omega
  ·simp only [tot];omega
theorem qP {α:Type} (f:α→Nat) (n:Nat) {x:α}:∀ (l:List (Nat × α)),look l n=some x→tot f (l.filter fun e=>e.1 != n) + f x ≤ tot f l
 | [],h=>by simp [look] at h
 | e :: l,h=>by
  simp only [look] at h
  simp only [List.filter_cons]
  by_cases e1:e.1=n
  ·rw [if_pos e1] at h
   injection h with h
   subst h
   have:(e.1 != n)=false:=by simp [e1]
   rw [this]
   simp only [Bool.false_eq_true,if_false,tot]
   have:=aBz f n l
   omega
  ·rw [if_neg e1] at h
   have:(e.1 != n)=true:=by simpa using e1
   rw [this]
   have:=qP f n l h
   simp only [if_true,tot];omega
theorem SRel.thaw {n:Nat} {y:BoxA} (H:SRel C Z s a w) (hPB:C.PB=[]) (hn:n < C.N) (hy:look s.bx n=some y) :
  SRel C (fun k=>Z k ∨ 0 < y.cnt k) ⟨s.tm.map fun e=>(e.1,e.2.thaw n y.b y.off (TA.roL y.cs)),s.bx.filter fun e=>e.1 != n,s.hd⟩ a w:=by
 obtain ⟨b1,b2,b3⟩:=H.bx n y hy
 have hcy:=vD hy
 have hcle:∀ k,(StA.mk (s.tm.map fun e=>(e.1,e.2.thaw n y.b y.off (TA.roL y.cs))) (s.bx.filter fun e=>e.1 != n) s.hd).cnt k + y.cnt k ≤ s.cnt k:=by
  intro k
  have h1:=qP (BoxA.cnt k) n s.bx hy
  have h2:tot (AVA.cnt k) (s.tm.map fun e=>(e.1,e.2.thaw n y.b y.off (TA.roL y.cs)))=tot (AVA.cnt k) s.tm:=by
   rw [qO]
   exact congrArg (fun f=>tot f s.tm) (funext fun x=>aNx n y.b y.off k _ x)
  simp only [StA.cnt,h2]
  omega
 have hroot:∀ r,r ≠ .box n→∀ z,s.rootCells r=some z→(StA.mk (s.tm.map fun e=>(e.1,e.2.thaw n y.b y.off (TA.roL y.cs))) (s.bx.filter fun e=>e.1 != n) s.hd).rootCells r=some z:=by
  intro r hr z hz
  cases r with
  | slot m =>
   simp only [StA.rootCells,aU] at hz ⊢
   cases hx:look s.tm m with
   | none=>rw [hx] at hz;cases hz
   | some x =>
    rw [hx] at hz
    cases x with
    | t x=>exact hz
    | _=>cases hz
  | box m =>
   simp only [StA.rootCells,pK] at hz ⊢
   rw [if_neg (fun e=>hr (by rw [e]))]
   exact hz
 have hZ:∀ k,Z k→(Z k ∨ 0 < y.cnt k):=fun k h=>.inl h
 have hro:TA.HoldsL (fun k=>Z k ∨ 0 < y.cnt k) w.heap (TA.roL y.cs):=TA.HoldsL.ro y.cs b2 (fun _ h=>.inl h) (fun k hk=>.inr (by simp only [BoxA.cnt];omega))
 have hmem:TA.Mem w.heap false y.b y.off 0 (TA.vals (TA.roL y.cs)):=by
  obtain ⟨cs,ety,fr,g1,g2,g3⟩:=b1
  rw [TA.roL_map,TA.vals_ro]
  exact ⟨cs,ety,fr,g1,(fun h=>nomatch h),g3⟩
 have hZb:Z y.b ∨ 0 < y.cnt y.b:=.inr (by simp only [BoxA.cnt,if_true];omega)
 have hcell:∀ c ∈ TA.roL y.cs,c.isCell=true:=by
  intro c hc
  rw [TA.roL_map] at hc
  obtain ⟨d,hd,rfl⟩:=List.mem_map.1 hc
  rw [TA.isCell_ro];exact b3 d hd
 have hcap:∀ (xs:List CapA) (vs:List Value),CapA.OkL s Z w.heap xs vs→CapA.OkL ⟨s.tm.map fun e=>(e.1,e.2.thaw n y.b y.off (TA.roL y.cs)),s.bx.filter fun e=>e.1 != n,s.hd⟩ (fun k=>Z k ∨ 0 < y.cnt k) w.heap (xs.map (CapA.thaw n y.b y.off (TA.roL y.cs))) vs:=by
  intro xs
  induction xs with
  | nil=>intro vs h;cases vs with
   | nil=>trivial
   | cons v vs=>exact h.elim
  | cons x xs ih =>
   intro vs h
   cases vs with
   | nil=>exact h.elim
   | cons v vs =>
    refine ⟨?_,ih vs h.2⟩
    cases x with
    | bx m =>
     obtain ⟨base,l,ad,h1,h2,h3⟩:=h.1
     simp only [CapA.thaw]
     by_cases e:m=n
     ·subst e
      rw [if_pos rfl]
      simp only [StA.rootCells,hy,Option.map_some,Option.some.injEq,Prod.mk.injEq] at h1
      obtain ⟨rfl,rfl⟩:=h1
      simp only [TA.addrP,Nat.add_zero,Option.some.injEq,Option.map_some] at h2
      subst h2
      refine ⟨h3,?_,fun k=>rfl⟩
      simp only [TA.Holds]
      exact ⟨hZb,hmem,hro,fun k=>TA.cntL_ro k y.cs,List.all_eq_true.2 hcell⟩
     ·rw [if_neg e]
      exact ⟨base,l,ad,hroot _ (fun e2=>e (by injection e2)) _ h1,h2,h3⟩
    | ro t =>
     obtain ⟨h1,h2,h3⟩:=h.1
     exact ⟨h1,TA.Holds.frame t h2 hZ (fun _ _=>rfl),h3⟩
 exact {
  defers:=H.defers
  size:=H.size
  tm:=fun m x hx=>by
   simp only [aU] at hx
   obtain ⟨z,hz,rfl⟩:=Option.map_eq_some_iff.1 hx
   have hv:=H.tm m z hz
   cases z with
   | u=>trivial
   | t z=>exact ⟨hv.1,TA.Holds.frame z hv.2 hZ (fun _ _=>rfl)⟩
   | tup zs=>exact ⟨hv.1,TA.HoldsL.frame zs hv.2 hZ (fun _ _=>rfl)⟩
   | al r o p k =>
    simp only [AVA.thaw]
    split
    ·trivial
    ·rename_i hne
     obtain ⟨base,cs,l,g1,g2⟩:=hv
     exact ⟨base,cs,l,hroot r hne _ g1,g2⟩
   | ref r o p =>
    simp only [AVA.thaw]
    split
    ·rename_i e
     subst e
     split
     ·rename_i e2
      subst e2
      obtain ⟨base,cs,ad,g1,g2,g3⟩:=hv
      simp only [StA.rootCells,hy,Option.map_some,Option.some.injEq,Prod.mk.injEq] at g1
      obtain ⟨rfl,rfl⟩:=g1
      simp only [TA.addrP,Option.map_some,Option.some.injEq] at g2
      subst g2
      exact ⟨g3,hZb,hmem,hro,fun k=>TA.cntL_ro k y.cs,hcell⟩
     ·trivial
    ·rename_i hne
     obtain ⟨base,cs,ad,g1,g2⟩:=hv
     exact ⟨base,cs,ad,hroot r hne _ g1,g2⟩
   | rop b off cs o =>
    obtain ⟨g1,g2,g3,g4,g5⟩:=hv
    exact ⟨g1,.inl g2,g3,TA.HoldsL.frame cs g4 hZ (fun _ _=>rfl),g5⟩
   | clo f xs =>
    obtain ⟨vs,g1,g2⟩:=hv
    exact aHz g1 (hcap xs vs g2)
  bx:=fun m x hx=>by
   rw [pK] at hx
   split at hx
   ·cases hx
   ·obtain ⟨g1,g2,g3⟩:=H.bx m x hx
    exact ⟨g1,TA.HoldsL.frame _ g2 hZ (fun _ _=>rfl),g3⟩
  uniq:=fun k=>by have:=hcle k;have:=H.uniq k;omega
  notZ:=fun k hk hz=>by
   have h1:=hcle k
   have h2:=H.uniq k
   rcases hz with hz | hz
   ·exact H.notZ k (by omega) hz
   ·omega
  lt:=fun k hk=>H.lt k (by have:=hcle k;omega)
  zlt:=fun k hk=>by
   rcases hk with hk | hk
   ·exact H.zlt k hk
   ·exact H.lt k (by have:=hcy k;omega)
  own:=fun k hk=>H.own k (by have:=hcle k;omega)
  z0:=fun k h=>.inl (H.z0 k h)
  zext:=fun k hk=>by
   rcases hk with hk | hk
   ·exact H.zext k hk
   ·rcases H.own k (by have:=hcy k;omega) with h | h
    ·exact .inr (.inr ⟨h,fun x hx=>by rw [hPB] at hx;cases hx⟩)
    ·exact .inr (.inl h)
  os:=H.os
  tape:=H.tape
  output:=H.output
  grown:=H.grown
  kept:=H.kept
  part:=H.part
  pbx:=fun x hx=>by rw [hPB] at hx;cases hx
  pbo:=fun x hx=>by rw [hPB] at hx;cases hx
  pbi:=fun x hx=>by rw [hPB] at hx;cases hx
  hand:=TA.HoldsL.frame _ H.hand hZ (fun _ _=>rfl)
  pbh:=fun x hx=>by rw [hPB] at hx;cases hx
  pk:=fun x hx=>by
   obtain ⟨g1,cs,g2,g3⟩:=H.pk x hx
   exact ⟨g1,cs,by rw [pK,if_neg (by omega)];exact g2,g3⟩ }
theorem SOk.thaw {n:Nat} (H:SOk C σ a w) (hPB:C.PB=[]) (hn:n < C.N) (h:σ.thaw n=some σ'):SOk C σ' a w:=by
 obtain ⟨s,Z,h1,h2,h3⟩:=H
 subst h1
 unfold St.thaw at h
 rw [jD] at h
 obtain ⟨cs,hcs,rfl⟩:=Option.map_eq_some_iff.1 h
 obtain ⟨y,hy,rfl⟩:=Option.map_eq_some_iff.1 hcs
 refine ⟨_,_,?_,?_,h3.thaw hPB hn hy⟩
 ·simp only [StA.er,List.map_map,St.mk.injEq]
  refine ⟨List.map_congr_left fun e _=>?_,?_⟩
  ·simp only [Function.comp_apply,aPi,TA.erL_ro]
  ·rw [List.filter_map];rfl
 ·exact h2
theorem O.thaw (n:Nat) (hPB:C.PB=[]) (hn:n < C.N) (h:∀ K:Option St→Prop,(∀ σ',O E C c S σ'→K (some σ'))→K (σ.thaw n)):O E C c S σ:=by
 obtain ⟨σ',h1,h2⟩:=h (fun o=>∃ σ',o=some σ'∧O E C c S σ') fun σ' h=>⟨σ',rfl,h⟩
 exact fun a w H=>h2 a w ⟨H.1.thaw hPB hn h1,H.2⟩
def mcs (g:Operand) (n:Nat):List (Mode × Operand):=(List.range n).map fun j=>(.cval j,g)
theorem aI5 (N:Nat) (g:Operand):∀ (l:List Nat) (σ:St),σ.lendT N (l.map fun j=>(Mode.cval j,g))=some (List.replicate l.length none,σ)
 | [],σ=>rfl
 | j :: l,σ=>by
  simp only [List.map_cons,St.lendT,aI5 N g l σ,Option.bind_some,List.length_cons,List.replicate_succ]
theorem zX (N:Nat) (ms':List (Mode × Operand)) (k:Nat) (hm:∀ σ,St.lendT N ms' σ=some (List.replicate k none,σ)):∀ (ms:List (Mode × Operand)) (σ:St) (r:List (Option Arg) × St),σ.lendT N ms=some r→σ.lendT N (ms ++ ms')=some (r.1 ++ List.replicate k none,r.2)
 | [],σ,r,h=>by
  simp only [St.lendT,Option.some.injEq] at h
  subst h
  simpa using hm σ
 | (m,x) :: ms,σ,r,h=>by
  cases m<;>simp only [List.cons_append,St.lendT] at h ⊢
  case take =>
   obtain ⟨y,hy,h⟩:=Option.bind_eq_some_iff.1 h
   obtain ⟨z,hz,h⟩:=Option.bind_eq_some_iff.1 h
   injection h with h
   subst h
   rw [hy,Option.bind_some,zX N ms' k hm ms _ z hz]
   rfl
  all_goals
   obtain ⟨z,hz,h⟩:=Option.bind_eq_some_iff.1 h
   injection h with h
   subst h
   rw [zX N ms' k hm ms _ z hz]
   rfl
theorem aI6 (g:Operand):∀ (l:List Nat) (σ:St),σ.lendP (l.map fun j=>(Mode.cval j,g)) (List.replicate l.length none)=some (List.replicate l.length none,[],σ)
 | [],σ=>rfl
 | j :: l,σ=>by
  simp only [List.map_cons,List.length_cons,List.replicate_succ,St.lendP,aI6 g l σ,Option.bind_some]
theorem aFb (ms' : List (Mode × Operand)) (k : Nat) (hm : ∀ σ, St.lendP ms' (List.replicate k none) σ = some (List.replicate k none, [], σ)) : ∀ (ms : List (Mode × Operand)) (as : List (Option Arg)) (σ : St) (r : List (Option Arg) × List Pl × St), St.lendP ms as σ = some r → St.lendP (ms ++ ms') (as ++ List.replicate k none) σ = some (r.1 ++ List.replicate k none, r.2)
  | [], [], σ, r, h => by
    simp only [St.lendP, Option.some.injEq] at h
    subst h
    simpa using hm σ
  | [], _ :: _, σ, r, h => by simp [St.lendP] at h
  | (m, x) :: ms, [], σ, r, h => by cases m <;> simp [St.lendP] at h
  | (m, x) :: ms, y :: as, σ, r, h => by
    have ih := aFb ms' k hm ms as
    by_cases hp : ((∀ n, m ≠ .ptr n) ∧ ∀ j n, m ≠ .cptr j n) ∨ y ≠ none
    · obtain ⟨z, hz, rfl⟩ := vZ hp h
      have e : St.lendP ((m, x) :: (ms ++ ms')) (y :: (as ++ List.replicate k none)) σ = (St.lendP (ms ++ ms') (as ++ List.replicate k none) σ).bind fun z => some (y :: z.1, z.2) := by
        cases m with
        | ptr n => cases y with
          | none => rcases hp with hp | hp
                    · exact absurd rfl (hp.1 n)
                    · exact absurd rfl hp
          | some y => rfl
        | cptr j n => cases y with
          | none => rcases hp with hp | hp
                    · exact absurd rfl (hp.2 j n)
                    · exact absurd rfl hp
          | some y => rfl
        | take => cases y <;> rfl
        | bor => cases y <;> rfl
        | cval j => cases y <;> rfl
      show St.lendP ((m, x) :: (ms ++ ms')) (y :: (as ++ List.replicate k none)) σ = _
      rw [e, ih σ z hz]
      rfl
    · have hy : y = none := Classical.byContradiction fun h => hp (.inr h)
      subst hy
      have hm2 : (∃ n, m = .ptr n) ∨ ∃ j n, m = .cptr j n := Classical.byContradiction fun hc => hp (.inl ⟨fun n e => hc (.inl ⟨n, e⟩), fun j n e => hc (.inr ⟨j, n, e⟩)⟩)
      show St.lendP ((m, x) :: (ms ++ ms')) (none :: (as ++ List.replicate k none)) σ = _
      rcases hm2 with ⟨n, rfl⟩ | ⟨j, n, rfl⟩
      · simp only [St.lendP] at h ⊢
        obtain ⟨z, hz, h⟩ := Option.bind_eq_some_iff.1 h
        rw [ih σ z hz, Option.bind_some]
        split at h
        case h_2 => cases h
        rename_i rr o p hx
        simp only [hx]
        obtain ⟨csT, hcs, h⟩ := Option.bind_eq_some_iff.1 h
        obtain ⟨lT, hl, h⟩ := Option.bind_eq_some_iff.1 h
        rw [hcs, Option.bind_some, hl, Option.bind_some]
        split at h
        case isFalse => cases h
        rename_i hc
        rw [if_pos hc]
        injection h with h
        subst h
        rfl
      · simp only [St.lendP] at h ⊢
        obtain ⟨z, hz, h⟩ := Option.bind_eq_some_iff.1 h
        rw [ih σ z hz, Option.bind_some]
        split at h
        case h_2 => cases h
        rename_i f xs hx
        split at h
        case h_2 => cases h
        rename_i m2 hj
        simp only [hx, hj]
        obtain ⟨csT, hcs, h⟩ := Option.bind_eq_some_iff.1 h
        obtain ⟨lT, hl, h⟩ := Option.bind_eq_some_iff.1 h
        rw [hcs, Option.bind_some, hl, Option.bind_some]
        split at h
        case isFalse => cases h
        rename_i hc
        rw [if_pos hc]
        injection h with h
        subst h
        rfl
theorem aI7 (rs:List Root) (σ:St) (g:Operand) {f:Nat} {co:List T} (hg:σ.op g = .t (.clo f co)):∀ (l:List Nat) (us:List T),l.map (fun j=>co[j]?)=us.map some→σ.lendB rs (l.map fun j=>(Mode.cval j,g)) (List.replicate l.length none)=some (us.map .val)
 | [],us,h=>by
  cases us with
  | nil=>rfl
  | cons u us=>simp at h
 | j :: l,us,h=>by
  cases us with
  | nil=>simp at h
  | cons u us =>
   simp only [List.map_cons,List.cons.injEq] at h
   have hc:σ.capv j g=some u:=by
    unfold St.capv
    rw [hg]
    exact h.1
   simp only [List.map_cons,List.length_cons,List.replicate_succ,St.lendB,hc,Option.bind_some,aI7 rs σ g hg l us h.2]
theorem uM (rs:List Root) (σ:St) (ms':List (Mode × Operand)) (as':List (Option Arg)) (us:List Arg) (hu:σ.lendB rs ms' as'=some us):∀ (ms:List (Mode × Operand)) (as:List (Option Arg)) (r:List Arg),σ.lendB rs ms as=some r→σ.lendB rs (ms ++ ms') (as ++ as')=some (r ++ us)
 | [],[],r,h=>by
  simp only [St.lendB,Option.some.injEq] at h
  subst h
  simpa using hu
 | [],_ :: _,r,h=>by simp [St.lendB] at h
 | (m,x) :: ms,[],r,h=>by cases m<;>simp [St.lendB] at h
 | (m,x) :: ms,some y :: as,r,h=>by
  have h':∃ z,σ.lendB rs ms as=some z∧r=y :: z:=by
   cases m <;>
   ·simp only [St.lendB] at h
    obtain ⟨z,hz,h⟩:=Option.bind_eq_some_iff.1 h
    injection h with h
    exact ⟨z,hz,h.symm⟩
  obtain ⟨z,hz,rfl⟩:=h'
  have ih:=uM rs σ ms' as' us hu ms as z hz
  cases m<;>simp only [List.cons_append,St.lendB,ih,Option.bind_some]
 | (m,x) :: ms,none :: as,r,h=>by
  cases m with
  | take=>simp [St.lendB] at h
  | ptr n=>simp [St.lendB] at h
  | cptr j n=>simp [St.lendB] at h
  | bor =>
   simp only [St.lendB] at h
   obtain ⟨y,hy,h⟩:=Option.bind_eq_some_iff.1 h
   obtain ⟨z,hz,h⟩:=Option.bind_eq_some_iff.1 h
   injection h with h
   subst h
   have ih:=uM rs σ ms' as' us hu ms as z hz
   simp only [List.cons_append,St.lendB,hy,ih,Option.bind_some]
  | cval j =>
   simp only [St.lendB] at h
   obtain ⟨y,hy,h⟩:=Option.bind_eq_some_iff.1 h
   obtain ⟨z,hz,h⟩:=Option.bind_eq_some_iff.1 h
   injection h with h
   subst h
   have ih:=uM rs σ ms' as' us hu ms as z hz
   simp only [List.cons_append,St.lendB,hy,ih,Option.bind_some]
theorem aPb {N:Nat} {g:Operand} {f:Nat} {co:List T} {ms:List (Mode × Operand)} {args:List Arg} {σ2:St} (h:σ.lend N ms=some (args,[],σ2)) (hg:σ2.op g = .t (.clo f co)):σ.lend N (ms ++ mcs g co.length)=some (args ++ co.map .val,[],σ2):=by
 unfold St.lend at h ⊢
 obtain ⟨x,hx,h⟩:=Option.bind_eq_some_iff.1 h
 obtain ⟨y,hy,h⟩:=Option.bind_eq_some_iff.1 h
 obtain ⟨z,hz,h⟩:=Option.map_eq_some_iff.1 h
 obtain ⟨y1,y2,y3⟩:=y
 simp only [Prod.mk.injEq] at h
 obtain ⟨rfl,rfl,rfl⟩:=h
 have hl:(List.range co.length).length=co.length:=List.length_range
 unfold mcs
 have c1:∀ σ:St,σ.lendT N ((List.range co.length).map fun j=>(Mode.cval j,g))=some (List.replicate co.length none,σ):=fun σ=>by
  have:=aI5 N g (List.range co.length) σ
  rwa [hl] at this
 have c2:∀ σ:St,σ.lendP ((List.range co.length).map fun j=>(Mode.cval j,g)) (List.replicate co.length none)=some (List.replicate co.length none,[],σ):=fun σ=>by
  have:=aI6 g (List.range co.length) σ
  rwa [hl] at this
 rw [zX N _ co.length c1 ms σ x hx,Option.bind_some]
 simp only
 rw [aFb _ co.length c2 ms x.1 x.2 _ hy,Option.bind_some]
 simp only
 have hus:(List.range co.length).map (fun j=>co[j]?)=co.map some:=by
  apply List.ext_getElem?
  intro j
  simp only [List.getElem?_map]
  by_cases hj:j < co.length
  ·rw [List.getElem?_range hj,List.getElem?_eq_getElem hj];simp
  ·rw [List.getElem?_eq_none (by simpa using hj),List.getElem?_eq_none (by simpa using hj)];rfl
 have c3:=aI7 [] y3 g hg (List.range co.length) co hus
 rw [hl] at c3
 have:=uM [] y3 _ _ _ c3 ms y1 z hz
 rw [List.map_nil,this]
 rfl
theorem tQ {N:Nat} {ops os:List Oper} {o:Oper} {K:St→Prop} {g:Operand} {xs:List Operand} {f:FuncId} {co:List T} (ms:List (Mode × Operand)) {args:List Arg} {res:List T} (hc:nE o=some (g,xs)) (hms:(ms.all (fun m=>m.1.real),ms.map Prod.snd)=(true,xs)) (he:aE E.P f)
  (hok:Ok E f (args ++ co.map .val) res []) (h:∀ K':St→Prop,(∀ σ1,σ1.wps E N ops os K→K' σ1)→σ.wants ops o=some true∧σ.op g = .t (.clo f co)∧aLe args (fun pls σ2=>pls=[]∧σ2.op g = .t (.clo f co)∧aNa K' (St.land N o.dst (ms.any fun m=>m.1.isBor) [] res [] σ2)) (σ.lend N ms)):σ.wps E N ops (o :: os) K:=by
 obtain ⟨hw,hf,h3⟩:=h _ fun _ h=>h
 unfold aLe at h3
 split at h3
 case h_2=>exact h3.elim
 rename_i z hz
 obtain ⟨h4,h5,h6,h7⟩:=h3
 unfold aNa at h7
 split at h7
 case h_2=>exact h7.elim
 rename_i σ1 hσ1
 have h7':=h7
 obtain ⟨z1,z2,z3⟩:=z
 simp only at h4 h5 h6 hσ1
 subst h4;subst h5
 simp only [St.wps,hw,hc]
 have hany:((ms ++ mcs g co.length).any fun m=>m.1.isBor)=ms.any fun m=>m.1.isBor:=by
  rw [List.any_append]
  have:((mcs g co.length).any fun m=>m.1.isBor)=false:=by
   rw [List.any_eq_false]
   intro m hm
   obtain ⟨j,_,rfl⟩:=List.mem_map.1 hm
   simp [Mode.isBor]
  rw [this,Bool.or_false]
 refine .inr ⟨f,co.length,ms,mcs g co.length,_,_,_,by unfold St.fnC;rw [hf],he,hms,?_,aPb hz h6,res,[],hok,σ1,by rw [hany];exact hσ1,h7'⟩
 unfold mcs aM0
 rw [List.map_map]
 rfl
@[simp] theorem cells_clo (f:Nat) (cs:List T):(T.clo f cs).cells=[.clo f cs]:=rfl
@[simp] theorem cells_pt (cs:List T):(T.pt cs).cells=[.pt cs]:=rfl
@[simp] theorem kOf_clo (f:Nat) (cs:List T):kOf (.clo f cs)=none:=rfl
@[simp] theorem kOf_pt (cs:List T):kOf (.pt cs)=none:=rfl
def St.freezeB (n i:Nat) (σ:St):Option St:=(look σ.bx n).bind fun cs=>(cs[i]?).map fun c=>⟨σ.tm.map fun e=>(e.1,e.2.kill (.box n)),put σ.bx n (cs.set i c.ro)⟩
theorem SRel.freezeB {n i:Nat} {y:BoxA} {c:TA} (H:SRel C Z s a w) (hy:look s.bx n=some y) (hc:y.cs[i]? = some c) :
  SRel C (fun k=>Z k ∨ 0 < c.cnt k) ⟨s.tm.map fun e=>(e.1,e.2.kill (.box n)),Go.OM.put s.bx n ⟨y.b,y.off,y.cs.set i c.ro⟩,s.hd⟩ a w:=by
 obtain ⟨b1,b2,b3⟩:=H.bx n y hy
 have hcy:=vD hy
 have hmem:=List.mem_of_getElem? hc
 have hcs:∀ k,TA.cntL k (y.cs.set i c.ro) + c.cnt k=TA.cntL k y.cs:=fun k=>by
  have:=kB y.cs i c c.ro k hc
  rw [TA.cnt_ro] at this;omega
 have hcle:∀ k,(StA.mk (s.tm.map fun e=>(e.1,e.2.kill (.box n))) (Go.OM.put s.bx n ⟨y.b,y.off,y.cs.set i c.ro⟩) s.hd).cnt k + c.cnt k=s.cnt k:=by
  intro k
  have h1:=bX (BoxA.cnt k) (x:=⟨y.b,y.off,y.cs.set i c.ro⟩) hy
  have h2:tot (AVA.cnt k) (s.tm.map fun e=>(e.1,e.2.kill (.box n)))=tot (AVA.cnt k) s.tm:=by
   rw [qO]
   exact congrArg (fun f=>tot f s.tm) (funext fun x=>AVA.cnt_kill _ k x)
  have h3:=hcs k
  simp only [BoxA.cnt] at h1
  simp only [StA.cnt,h2]
  have h11:∀ l,tot (fun x:BoxA=>(if x.b=k then 1 else 0) + TA.cntL k x.cs) l=tot (BoxA.cnt k) l:=fun _=>rfl
  omega
 have hZ:∀ k,Z k→(Z k ∨ 0 < c.cnt k):=fun k h=>.inl h
 have hlen:(y.cs.set i c.ro).length=y.cs.length:=by simp
 have hvals:TA.vals (y.cs.set i c.ro)=TA.vals y.cs:=by
  apply List.ext_getElem?
  intro j
  simp only [TA.vals,List.getElem?_map,List.getElem?_set]
  split
  ·rename_i e
   subst e
   split
   ·rw [hc];simp [TA.val1_ro]
   ·rename_i h
    rw [List.getElem?_eq_none (by omega)]
    try rfl
  ·rfl
 have hholds:TA.HoldsL (fun k=>Z k ∨ 0 < c.cnt k) w.heap (y.cs.set i c.ro):=TA.holdsL_iff.2 fun t ht=>by
  rcases List.mem_or_eq_of_mem_set ht with h | h
  ·exact TA.Holds.frame t (TA.holdsL_iff.1 b2 t h) hZ (fun _ _=>rfl)
  ·rw [h];exact TA.Holds.ro c (TA.holdsL_iff.1 b2 c hmem) hZ (fun k hk=>.inr hk)
 have hcell:∀ x ∈ y.cs.set i c.ro,x.isCell=true:=by
  intro x hx
  rcases List.mem_or_eq_of_mem_set hx with h | h
  ·exact b3 x h
  ·rw [h,TA.isCell_ro];exact b3 c hmem
 have hroot:∀ r,r ≠ .box n→∀ z,s.rootCells r=some z→(StA.mk (s.tm.map fun e=>(e.1,e.2.kill (.box n))) (Go.OM.put s.bx n ⟨y.b,y.off,y.cs.set i c.ro⟩) s.hd).rootCells r=some z:=by
  intro r hr z hz
  cases r with
  | slot m =>
   simp only [StA.rootCells,aU] at hz ⊢
   cases hx:look s.tm m with
   | none=>rw [hx] at hz;cases hz
   | some x =>
    rw [hx] at hz
    cases x with
    | t x=>exact hz
    | _=>cases hz
  | box m =>
   simp only [StA.rootCells] at hz ⊢
   rw [bA _ _ (fun e=>hr (by rw [e]))]
   exact hz
 have hself:(StA.mk (s.tm.map fun e=>(e.1,e.2.kill (.box n))) (Go.OM.put s.bx n ⟨y.b,y.off,y.cs.set i c.ro⟩) s.hd).rootCells (.box n)=some (some (y.b,y.off),y.cs.set i c.ro):=by
  simp only [StA.rootCells,aN,Option.map_some]
 have hold:s.rootCells (.box n)=some (some (y.b,y.off),y.cs):=by simp only [StA.rootCells,hy,Option.map_some]
 have href:∀ (r:Root) (o:Nat) base cs ad,s.rootCells r=some (base,cs)→TA.addrP base cs o []=some ad→∃ base' cs',(StA.mk (s.tm.map fun e=>(e.1,e.2.kill (.box n))) (Go.OM.put s.bx n ⟨y.b,y.off,y.cs.set i c.ro⟩) s.hd).rootCells r=some (base',cs')∧TA.addrP base' cs' o []=some ad:=by
  intro r o base cs ad h1 h2
  by_cases hr:r = .box n
  ·subst hr
   rw [hold] at h1
   simp only [Option.some.injEq,Prod.mk.injEq] at h1
   obtain ⟨rfl,rfl⟩:=h1
   exact ⟨_,_,hself,by simpa [TA.addrP] using h2⟩
  ·exact ⟨base,cs,hroot r hr _ h1,h2⟩
 exact {
  defers:=H.defers
  size:=H.size
  tm:=fun m x hx=>by
   simp only [aU] at hx
   obtain ⟨z,hz,rfl⟩:=Option.map_eq_some_iff.1 hx
   have hv:=H.tm m z hz
   cases z with
   | u=>trivial
   | t z=>exact ⟨hv.1,TA.Holds.frame z hv.2 hZ (fun _ _=>rfl)⟩
   | tup zs=>exact ⟨hv.1,TA.HoldsL.frame zs hv.2 hZ (fun _ _=>rfl)⟩
   | al r o p k =>
    simp only [AVA.kill]
    split
    ·trivial
    ·rename_i hne
     obtain ⟨base,cs,l,g1,g2⟩:=hv
     exact ⟨base,cs,l,hroot r hne _ g1,g2⟩
   | ref r o p =>
    simp only [AVA.kill]
    split
    ·trivial
    ·rename_i hne
     obtain ⟨base,cs,ad,g1,g2,g3⟩:=hv
     by_cases hr:r = .box n
     ·have hp:p=[]:=Classical.byContradiction fun h=>hne ⟨hr,h⟩
      subst hp
      obtain ⟨base',cs',q1,q2⟩:=href r o base cs ad g1 g2
      exact ⟨base',cs',ad,q1,q2,g3⟩
     ·exact ⟨base,cs,ad,hroot r hr _ g1,g2,g3⟩
   | rop b off cs o =>
    obtain ⟨g1,g2,g3,g4,g5⟩:=hv
    exact ⟨g1,.inl g2,g3,TA.HoldsL.frame cs g4 hZ (fun _ _=>rfl),g5⟩
   | clo f xs =>
    obtain ⟨vs,g1,g2⟩:=hv
    exact ⟨vs,g1,CapA.OkL.keep hZ (fun _ _=>rfl) xs vs (fun m _ base cs ad h1 h2=>href (.box m) 0 base cs ad h1 h2) g2⟩
  bx:=fun m x hx=>by
   by_cases e:m=n
   ·subst e
    rw [aN] at hx
    injection hx with hx
    subst hx
    refine ⟨?_,hholds,hcell⟩
    simp only [hvals,hlen]
    exact b1
   ·rw [bA _ _ e] at hx
    obtain ⟨g1,g2,g3⟩:=H.bx m x hx
    exact ⟨g1,TA.HoldsL.frame _ g2 hZ (fun _ _=>rfl),g3⟩
  uniq:=fun k=>by have:=hcle k;have:=H.uniq k;omega
  notZ:=fun k hk hz=>by
   have h1:=hcle k
   have h2:=H.uniq k
   rcases hz with hz | hz
   ·exact H.notZ k (by omega) hz
   ·omega
  lt:=fun k hk=>H.lt k (by have:=hcle k;omega)
  zlt:=fun k hk=>by
   rcases hk with hk | hk
   ·exact H.zlt k hk
   ·exact H.lt k (by have:=hcle k;omega)
  own:=fun k hk=>H.own k (by have:=hcle k;omega)
  z0:=fun k h=>.inl (H.z0 k h)
  zext:=fun k hk=>by
   rcases hk with hk | hk
   ·exact H.zext k hk
   ·rcases H.own k (by have:=hcle k;omega) with h | h
    ·refine .inr (.inr ⟨h,fun x hx e=>?_⟩)
     have h1:=H.pbi x hx n y hy
     have h2:=hcs x.1
     rw [e] at h1 h2
     omega
    ·exact .inr (.inl h)
  os:=H.os
  tape:=H.tape
  output:=H.output
  grown:=H.grown
  kept:=H.kept
  part:=H.part
  pbx:=fun x hx m z hz hb=>by
   by_cases e:m=n
   ·subst e
    rw [aN] at hz
    injection hz with hz
    subst hz
    have:=H.pbx x hx m y hy hb
    simpa using this
   ·rw [bA _ _ e] at hz
    exact H.pbx x hx m z hz hb
  pbo:=fun x hx m z hz=>by
   simp only [aU] at hz
   obtain ⟨u1,hu,rfl⟩:=Option.map_eq_some_iff.1 hz
   rw [AVA.cnt_kill];exact H.pbo x hx m u1 hu
  pbi:=fun x hx m z hz=>by
   by_cases e:m=n
   ·subst e
    rw [aN] at hz
    injection hz with hz
    subst hz
    have h1:=H.pbi x hx m y hy
    have h2:=hcs x.1
    simp only;omega
   ·rw [bA _ _ e] at hz
    exact H.pbi x hx m z hz
  hand:=TA.HoldsL.frame _ H.hand hZ (fun _ _=>rfl)
  pbh:=H.pbh
  pk:=fun x hx=>by
   obtain ⟨g1,cs,g2,g3⟩:=H.pk x hx
   by_cases e:x.1=n
   ·rw [e,hy] at g2
    injection g2 with g2
    refine ⟨g1,y.cs.set i c.ro,?_,by rw [hlen];rw [g2];exact g3⟩
    rw [e,aN]
    rw [g2]
   ·exact ⟨g1,cs,by rw [bA _ _ e];exact g2,g3⟩ }
theorem SOk.freezeB {n i:Nat} (H:SOk C σ a w) (h:σ.freezeB n i=some σ'):SOk C σ' a w:=by
 obtain ⟨s,Z,h1,h2,h3⟩:=H
 subst h1
 unfold St.freezeB at h
 rw [jD] at h
 obtain ⟨cs,hcs,h⟩:=Option.bind_eq_some_iff.1 h
 obtain ⟨y,hy,rfl⟩:=Option.map_eq_some_iff.1 hcs
 obtain ⟨c,hc,rfl⟩:=Option.map_eq_some_iff.1 h
 rw [TA.erL_map,List.getElem?_map] at hc
 obtain ⟨cA,hcA,rfl⟩:=Option.map_eq_some_iff.1 hc
 refine ⟨_,_,?_,?_,h3.freezeB hy hcA⟩
 ·simp only [StA.er,List.map_map,St.mk.injEq]
  refine ⟨List.map_congr_left fun e _=>?_,?_⟩
  ·simp only [Function.comp_apply,AVA.er_kill]
  ·rw [kK (fun x:BoxA=>TA.erL x.cs)]
   simp only [TA.erL_map,List.map_set,TA.er_ro]
 ·exact h2
theorem O.freezeB (n i:Nat) (h:∀ K:Option St→Prop,(∀ σ',O E C c S σ'→K (some σ'))→K (σ.freezeB n i)):O E C c S σ:=by
 obtain ⟨σ',h1,h2⟩:=h (fun o=>∃ σ',o=some σ'∧O E C c S σ') fun σ' h=>⟨σ',rfl,h⟩
 exact fun a w H=>h2 a w ⟨H.1.freezeB h1,H.2⟩
theorem O.postB (n i:Nat) (h:O E C c (fun e σ'=>match e with
 | .normal=>∀ K2:Option St→Prop,(∀ σ2,S .normal σ2→K2 (some σ2))→K2 (σ'.freezeB n i)
 | e=>S e σ') σ):O E C c S σ:=by
 intro a w H
 refine Code.wp_mono (fun e a w ⟨σ',g1,g2⟩=>?_) (h a w H)
 cases e with
 | normal =>
  obtain ⟨σ2,q1,q2⟩:=g1 (fun o=>∃ σ2,o=some σ2∧S .normal σ2) fun σ2 h2=>⟨σ2,rfl,h2⟩
  exact ⟨σ2,q2,g2.1.freezeB q1,g2.2⟩
 | _=>exact ⟨σ',g1,g2⟩
@[simp] theorem cap_at_bx (r:Root) (n:Nat):Cap.at r (.bx n)=decide (r = .box n):=rfl
@[simp] theorem cap_at_ro (r:Root) (x:T):Cap.at r (.ro x)=false:=rfl
@[simp] theorem filt_cons {α:Type} (n m:Nat) (x:α) (l:List (Nat × α)):List.filter (fun e=>e.1 != n) ((m,x) :: l)=if m=n then List.filter (fun e=>e.1 != n) l else (m,x) :: List.filter (fun e=>e.1 != n) l:=by
 by_cases h:m=n<;>simp [h]
attribute [simp] St.freezeB Cap.kept Cap.thaw Cap.pts aJn AV.thaw St.thaw
end Go.OM
namespace Go.OM
variable {C:Ctx} {E:Env} {σ σ':St} {Q:Exit→Act→World→Prop} {S:Exit→St→Prop} {a:Act} {w:World} {P:Program}
def owedX2 (E:Env) (C:Ctx) (σ:St) (l:List Oper) (ks:List Nat) (ds:List (List (Nat × AV))) (xs:List (List (Nat × List T))) (td:List (List Nat)) (i:Nat) (o:Oper):Prop :=
 ∀ D:Nat→Bool,D i=false→(∀ j ∈ td.getD i [],D j=true)→(∀ j,i ∈ td.getD j []→j < ds.length→D j=false)→(∀ j l,D j=true→j < ds.length→l ∈ td.getD j []→D l=true) →
  ∀ K:St→Prop,(∀ σ',σ'=⟨iI (fR D i) 0 ds (σ.tm ++ ks.map fun n=>(n,.u)),eN (fR D i) 0 xs σ.bx⟩→K σ')→(⟨iI D 0 ds (σ.tm ++ ks.map fun n=>(n,.u)),eN D 0 xs σ.bx⟩:St).wps E C.N l [o] K
theorem O.drawX2 {id:Nat} {ops:Array Oper} {l:List Oper} (hl:ops.toList=l) (hp:qI C.pin l=true) (ks:List Nat) (ds:List (List (Nat × AV))) (xs:List (List (Nat × List T))) (td:List (List Nat)) (hxl:xs.length=ds.length) (hm:ds.length ≤ l.length) (hord:aP9 0 l=true) (hlast:aLg td ds.length l.length=true) (htd:tdB td 0 l=true)
  (hstep:aCo (owedX2 E C σ l ks ds xs td) 0 (l.take ds.length))
  (hend:∀ K:St→Prop,(∀ σ,S .normal σ→K σ)→(⟨iI (fun _=>true) 0 ds (σ.tm ++ ks.map fun n=>(n,.u)),eN (fun _=>true) 0 xs σ.bx⟩:St).wps E C.N l (l.drop ds.length) K):O E C (.region id ops true) S σ:=fun a w H=>by
 subst hl
 have hordI:∀ (i:Nat) (o:Oper),ops[i]? = some o→∀ e ∈ o.after.toList,Region.binds .any e=true→e.on < i:=by
  intro i o ho
  have:=uD ops.toList 0 i o hord (by rw [Array.getElem?_toList];exact ho)
  simpa using this
 have key:∀ D:Nat→Bool,(∀ (j:Nat) (o':Oper),ops[j]? = some o'→D j=true→iR o' D)→∀ (i:Nat) (o:Oper),ops[i]? = some o→iR o D→∀ j ∈ td.getD i [],j < i∧D j=true:=by
  intro D hcl i
  induction i using Nat.strongRecOn with
  | _ i ih =>
   intro o ho hdep j hj
   have h1:=yN ops.toList 0 i o htd (by rw [Array.getElem?_toList];exact ho)
   rw [Nat.zero_add] at h1
   obtain ⟨e,he,hb,h2⟩:=h1 j hj
   have hei:=hordI i o ho e he hb
   rcases h2 with h2 | ⟨_,h2⟩
   ·subst h2;exact ⟨hei,hdep e he hb⟩
   ·have hlt:e.on < ops.size:=by have:=(Array.getElem?_eq_some_iff.1 ho).1;omega
    have hoe:ops[e.on]? = some ops[e.on]:=Array.getElem?_eq_getElem hlt
    obtain ⟨h3,h4⟩:=ih e.on hei _ hoe (hcl e.on _ hoe (hdep e he hb)) j h2
    exact ⟨by omega,h4⟩
 refine wp_region_any E.mixed ?_
 refine rT (C:=C) (E:=E) hp ds.length (by simpa using hm) (fun D=>⟨iI D 0 ds (σ.tm ++ ks.map fun n=>(n,.u)),eN D 0 xs σ.bx⟩) hordI (fun i o hi ho=>?_) (fun i o hi ho D hD hcl hdep=>?_) (fun D hD a w H=>?_) ops.size _ (fun _=>false) a _ (by simp) (fun i d hi=>by simp [Array.getD,hi]) (fun _ _=>rfl) (fun _ _ _ h=>by cases h) ?_ ?_
 ·intro D hcl hdep j hj
  have hlt:i < ops.size:=(Array.getElem?_eq_some_iff.1 ho).1
  exact (key D hcl i o ho hdep j (uN hlast hi (by simpa using hlt) hj)).2
 ·have hget:(ops.toList.take ds.length)[i]? = some o:=by
   rw [List.getElem?_take,if_pos hi,Array.getElem?_toList];exact ho
  have hob:=pA _ 0 i o hstep hget
  rw [Nat.zero_add] at hob
  refine hob D hD (fun j hj=>(key D hcl i o ho hdep j hj).2) (fun j hj hjl=>?_) (fun j l2 hDj hjl hl2=>by
   have hlt:j < ops.size:=by simp only [Array.length_toList] at hm;omega
   have hoj:ops[j]? = some ops[j]:=Array.getElem?_eq_getElem hlt
   exact (key D hcl j _ hoj (hcl j _ hoj hDj) l2 hl2).2) _ (fun σ' h=>h)
  cases hDj:D j with
  | false=>rfl
  | true =>
   exfalso
   have hlt:j < ops.size:=by simp only [Array.length_toList] at hm;omega
   have hoj:ops[j]? = some ops[j]:=Array.getElem?_eq_getElem hlt
   have:=(key D hcl j _ hoj (hcl j _ hoj hDj) i hj).2
   rw [hD] at this;cases this
 ·have hall:iI D 0 ds (σ.tm ++ ks.map fun n=>(n,.u))=iI (fun _=>true) 0 ds (σ.tm ++ ks.map fun n=>(n,.u)):=wI 0 ds _ fun j _ h=>hD j (by omega)
  have h2:=hend (fun σ'=>S .normal σ') (fun _ h=>h)
  have hallX:eN D 0 xs σ.bx=eN (fun _=>true) 0 xs σ.bx:=wH 0 xs _ fun j _ h=>hD j (by omega)
  simp only [hall,hallX] at H
  have hpd:qI C.pin (ops.toList.drop ds.length)=true:=List.all_eq_true.2 fun o ho=>List.all_eq_true.1 hp o (List.mem_of_mem_drop ho)
  exact mI (E:=E) _ _ a w _ hpd h2 H (fun σ' a' w' hS H'=>⟨σ',hS,H'⟩)
 ·exact Nat.le_trans List.countP_le_length (by simp)
 ·have:=H.1.pad ks
  simp only [aAt,aAq]
  exact ⟨this.drew _,H.2⟩
end Go.OM
namespace Go.OM
open Go.Sort
theorem aLr:∀ {es:List TA} {l:List Int},TA.erL es=(l.map fun n=>T.v (.int .i64 n))→es=l.map fun n=>TA.v (.int .i64 n)
 | [],[],_=>rfl
 | [],x :: xs,h=>by simp [TA.erL] at h
 | a :: as,[],h=>by simp [TA.erL] at h
 | a :: as,x :: xs,h=>by
  simp only [TA.erL,List.map_cons,List.cons.injEq] at h ⊢
  refine ⟨?_,aLr h.2⟩
  have h1:=h.1
  cases a<;>simp only [TA.er,T.v.injEq,reduceCtorEq] at h1
  rw [h1]
theorem aEd (l:List Int):TA.vals ((l.map fun n=>TA.v (.int .i64 n)).flatMap TA.cells)=l.map (Value.int .i64):=by
 induction l with
 | nil=>rfl
 | cons x l ih =>
  simp only [List.map_cons,List.flatMap_cons,TA.cells,TA.vals,List.map_append,List.map_nil,TA.val1,List.singleton_append]
  simp only [TA.vals] at ih
  rw [ih]
theorem aG6 (q:Nat) (l:List Int):TA.cntL q (l.map fun n=>TA.v (.int .i64 n))=0:=by
 induction l with
 | nil=>rfl
 | cons x l ih=>simp only [List.map_cons,TA.cntL,TA.cnt,ih]
theorem aGy (Z:Nat→Prop) (h:Array Obj) (l:List Int):TA.HoldsL Z h (l.map fun n=>TA.v (.int .i64 n)):=by
 induction l with
 | nil=>simp [TA.HoldsL]
 | cons x l ih=>simp only [List.map_cons,TA.HoldsL,TA.Holds];exact ⟨trivial,ih⟩
theorem aNb {E : Env} {f : FuncId} (hne : ∀ (blk off cap : Nat) (zs : List Int) (w : World), Holds (Value.int .i64) w blk off zs.toArray → blk < w.heap.size → zs.length < 4611686018427387904 →
      Calls E.P f #[.slice (some ⟨blk, off, none⟩) zs.length cap] w fun e w' => e = .returned (.tuple #[]) ∧ ∃ n os, w' = grow (putRow (Value.int .i64) (Sort.ahead w n) blk off (zs.mergeSort fun x y => decide (x ≤ y)).toArray) os)
    (hnil : ∀ (p : Option Addr) (cap : Nat) (w : World), Calls E.P f #[.slice p 0 cap] w fun e w' => e = .returned (.tuple #[]) ∧ w' = w)
    (l : List Int) (hl : l.length < 4611686018427387904) : OkIO E f [.val (.sl true 1 (l.map fun n => T.v (.int .i64 n)))] [] [] [(0, .sl true 1 ((l.mergeSort fun x y => decide (x ≤ y)).map fun n => T.v (.int .i64 n)))] := by
  intro w Z as has hA hG
  obtain ⟨a, rfl⟩ : ∃ a, as = [a] := by
    cases as with
    | nil => simp at has
    | cons a t =>
      cases t with
      | nil => exact ⟨a, rfl⟩
      | cons b t => simp at has
  simp only [List.map_cons, List.map_nil, List.cons.injEq, and_true] at has
  have hHa := hA.holds a (by simp)
  cases a with
  | ptr b off cs => simp only [ArgA.er, reduceCtorEq] at has
  | val x =>
    simp only [ArgA.er, Arg.val.injEq] at has
    cases x with
    | v x => simp only [TA.er, reduceCtorEq] at has
    | agg x => simp only [TA.er, reduceCtorEq] at has
    | dead x => simp only [TA.er, reduceCtorEq] at has
    | clo f cs => simp only [TA.er, reduceCtorEq] at has
    | pt b off cs => simp only [TA.er, reduceCtorEq] at has
    | nl o s A =>
      simp only [TA.er, T.sl.injEq] at has
      obtain ⟨rfl, rfl, h3⟩ := has
      have hl0 : l = [] := by cases l <;> simp_all
      subst hl0
      refine (hnil A 0 w).mono fun e w' ⟨he, hw⟩ => ?_
      subst hw
      refine ⟨Z, [], [], [TA.nl true 1 A], he, rfl, rfl, by simp [TA.erL, TA.er], rfl, ?_⟩
      exact {
        holds := ⟨hHa, trivial⟩
        outs := trivial
        uniq := fun q => by simp [TA.cntL, TA.cnt, pcL, ArgA.pc]
        own := fun q hq => by simp [TA.cntL, TA.cnt] at hq
        zle := fun _ h => h
        zext := fun _ h => .inl h
        zlt := hA.zlt
        os := rfl
        tape := rfl
        output := rfl
        grown := Nat.le_refl _
        kept := fun q hq _ => rfl
        part := fun x hx => by simp [nH] at hx }
    | sl o s b off cap es =>
      simp only [TA.er, T.sl.injEq] at has
      obtain ⟨rfl, rfl, h3⟩ := has
      have hes := aLr h3
      subst hes
      obtain ⟨⟨cs, ety, fr, m1, m2, m3⟩, hc, _, _, _⟩ := hHa
      obtain ⟨m4, rfl⟩ := m2 rfl
      rw [aEd] at m3
      rw [List.length_map] at hc
      have hb : b < w.heap.size := (Array.getElem?_eq_some_iff.1 m1).1
      have hHold : Sort.Holds (Value.int .i64) w b off l.toArray := by
        intro j hj
        have hj' : j < l.length := by simpa using hj
        have := m3 j (.int .i64 l[j]) (by rw [List.getElem?_map, List.getElem?_eq_getElem hj']; rfl)
        refine ⟨?_, by simp [World.frozen?, m1]⟩
        simp only [World.cell?, m1]
        simp [this, hj']
      have hval : (ArgA.val (TA.sl true 1 b off cap (l.map fun n => TA.v (.int .i64 n)))).value = .slice (some ⟨b, off, none⟩) l.length cap := by
        simp [ArgA.value, TA.val, TA.val1]
      show Calls E.P f #[(ArgA.val (TA.sl true 1 b off cap (l.map fun n => TA.v (.int .i64 n)))).value] w _
      rw [hval]
      refine (hne b off cap l w hHold hb hl).mono fun e w' ⟨he, n, os, hw⟩ => ?_
      generalize hso : (l.mergeSort fun x y => decide (x ≤ y)) = so at *
      have hsl : so.length = l.length := by rw [← hso]; exact List.length_mergeSort _
      have hheap : w'.heap[b]? = some (.cells (putCells (Value.int .i64) off so.toArray cs) ety (0, 0)) := by
        rw [hw, heap_grow_old _ _ (by simpa [putRow, mapBlock, Sort.ahead] using hb)]
        simp [putRow, mapBlock, Sort.ahead, Array.getElem?_modify, m1, onCells]
      have hgrown : w.heap.size ≤ w'.heap.size := by
        rw [hw]
        show w.heap.size ≤ ((putRow (Value.int .i64) (Sort.ahead w n) b off so.toArray).heap ++ os).size
        simp [putRow, mapBlock, Sort.ahead]
      refine ⟨Z, [], [], [TA.sl true 1 b off cap (so.map fun n => TA.v (.int .i64 n))], he, rfl, rfl, ?_, ?_, ?_⟩
      · simp only [TA.erL, TA.er, TA.erL_map, List.map_map, List.map_cons, List.map_nil]
        rfl
      · have hv2 : ([ArgA.val (TA.sl true 1 b off cap (l.map fun n => TA.v (.int .i64 n)))].map ArgA.value)[0]? = some (Value.slice (some ⟨b, off, none⟩) l.length cap) := by
          simp only [List.map_cons, List.map_nil, List.getElem?_cons_zero, hval]
        simp only [List.map_cons, List.map_nil, List.getElem?_cons_zero, Option.getD_some, hval]
        simp [TA.val, TA.val1, hsl]
      · have hinn : ∀ q, oG q [ArgA.val (TA.sl true 1 b off cap (l.map fun n => TA.v (.int .i64 n)))] = if b = q then 1 else 0 := by
          intro q
          simp only [oG, ArgA.inn, TA.cnt, aG6]
          split <;> simp_all
        have hpc : ∀ q, pcL q [ArgA.val (TA.sl true 1 b off cap (l.map fun n => TA.v (.int .i64 n)))] = 0 := by
          intro q; simp [pcL, ArgA.pc]
        have hcnt : ∀ q, TA.cntL q ([] ++ [TA.sl true 1 b off cap (so.map fun n => TA.v (.int .i64 n))]) = if b = q then 1 else 0 := by
          intro q
          simp only [List.nil_append, TA.cntL, TA.cnt, aG6]
          split <;> simp_all
        exact {
          holds := by
            simp only [List.nil_append, TA.HoldsL, TA.Holds, and_true]
            refine ⟨⟨_, ety, (0, 0), hheap, fun _ => ⟨by simpa [putCells] using m4, rfl⟩, fun j u hu => ?_⟩, by rw [List.length_map, hsl]; exact hc, by simp, aGy _ _ _, ?_⟩
            · rw [aEd] at hu
              have hju : j < so.length := by
                have := (List.getElem?_eq_some_iff.1 hu).1
                simpa using this
              have hlt : off + j < cs.size := by omega
              rw [List.getElem?_map, List.getElem?_eq_getElem hju] at hu
              simp only [Option.map_some, Option.some.injEq] at hu
              subst hu
              simp [putCells, hlt, hju]
            · intro e he
              obtain ⟨x, _, rfl⟩ := List.mem_map.1 he
              rfl
          outs := by simp [nH, sW]
          uniq := fun q => by
            rw [hcnt, hpc]
            simp only [List.flatten_nil, TA.cntL]
            split <;> omega
          own := fun q hq => by
            rw [hcnt] at hq
            simp only [List.flatten_nil, TA.cntL] at hq
            have h1 : 0 < oG q [ArgA.val (TA.sl true 1 b off cap (l.map fun n => TA.v (.int .i64 n)))] := by
              rw [hinn]; omega
            exact ⟨.inl h1, hA.notZ q (by omega)⟩
          zle := fun _ h => h
          zext := fun _ h => .inl h
          zlt := fun q hq => Nat.lt_of_lt_of_le (hA.zlt q hq) hgrown
          os := by rw [hw]; rfl
          tape := by rw [hw]; rfl
          output := by rw [hw]; rfl
          grown := hgrown
          kept := fun q hq h0 => by
            rw [hinn] at h0
            have hne' : ¬ b = q := by
              intro e
              rw [if_pos e] at h0
              omega
            rw [hw, heap_grow_old _ _ (by simpa [putRow, mapBlock, Sort.ahead] using hq)]
            simp [putRow, mapBlock, Sort.ahead, Array.getElem?_modify, hne']
          part := fun x hx => by simp [nH] at hx }
end Go.OM
