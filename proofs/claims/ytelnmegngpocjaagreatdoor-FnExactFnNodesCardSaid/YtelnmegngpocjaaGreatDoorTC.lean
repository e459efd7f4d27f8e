import Derived.Test.YtelnmegngpocjaaGreatDoorTB
set_option linter.unusedVariables false
set_option linter.unusedSimpArgs false
namespace Go.OM
open Classical in
noncomputable def setL (n : Nat) (P : Nat → Prop) : List Int := ((List.range n).filter fun j => decide (P j)).map fun k : Nat => (k : Int)
theorem mem_setL {n : Nat} {P : Nat → Prop} {x : Int} : x ∈ setL n P ↔ 0 ≤ x ∧ x < n ∧ P x.toNat := by
  unfold setL
  rw [List.mem_map]
  constructor
  · rintro ⟨j, hj, rfl⟩
    obtain ⟨h1, h2⟩ := List.mem_filter.1 hj
    have := List.mem_range.1 h1
    exact ⟨by omega, by omega, by simpa using h2⟩
  · rintro ⟨h1, h2, h3⟩
    refine ⟨x.toNat, List.mem_filter.2 ⟨List.mem_range.2 (by omega), by simpa using h3⟩, by omega⟩
theorem setL_lt (n : Nat) (P : Nat → Prop) : (setL n P).Pairwise (· < ·) := by
  unfold setL
  refine List.Pairwise.map _ (fun a b h => ?_) (List.Pairwise.filter _ List.pairwise_lt_range)
  omega
theorem lt_nodup {l : List Int} (h : l.Pairwise (· < ·)) : l.Nodup := by
  rw [List.nodup_iff_pairwise_ne]
  exact h.imp fun h => by omega
theorem lt_unique {a b : List Int} (ha : a.Pairwise (· < ·)) (hb : b.Pairwise (· < ·)) (h : ∀ x, x ∈ a ↔ x ∈ b) : a = b := by
  refine List.Perm.eq_of_pairwise (le := fun x y : Int => x < y) (fun x y _ _ h1 h2 => by omega) ha hb ?_
  exact (List.perm_ext_iff_of_nodup (lt_nodup ha) (lt_nodup hb)).2 h
theorem setL_congr {n : Nat} {P Q : Nat → Prop} (h : ∀ j, j < n → (P j ↔ Q j)) : setL n P = setL n Q := by
  refine lt_unique (setL_lt _ _) (setL_lt _ _) fun x => ?_
  rw [mem_setL, mem_setL]
  constructor
  · rintro ⟨h1, h2, h3⟩; exact ⟨h1, h2, (h _ (by omega)).1 h3⟩
  · rintro ⟨h1, h2, h3⟩; exact ⟨h1, h2, (h _ (by omega)).2 h3⟩
theorem setL_eq {n : Nat} {P : Nat → Prop} {l : List Int} (hl : l.Pairwise (· < ·)) (h : ∀ x, x ∈ l ↔ 0 ≤ x ∧ x < n ∧ P x.toNat) : l = setL n P := lt_unique hl (setL_lt _ _) fun x => by rw [h, mem_setL]
theorem sort_setL {n : Nat} {P : Nat → Prop} {l : List Int} (hl : l.Nodup) (h : ∀ x, x ∈ l ↔ 0 ≤ x ∧ x < n ∧ P x.toNat) : (l.mergeSort fun x y => decide (x ≤ y)) = setL n P := by
  have hp := List.mergeSort_perm l (fun x y => decide (x ≤ y))
  have hs := List.pairwise_mergeSort (le := fun x y : Int => decide (x ≤ y)) (fun a b c h1 h2 => by simp only [decide_eq_true_eq] at *; omega) (fun a b => by simp only [Bool.or_eq_true, decide_eq_true_eq]; omega) l
  have hn : (l.mergeSort fun x y => decide (x ≤ y)).Nodup := hp.nodup_iff.2 hl
  refine setL_eq ?_ fun x => by rw [← h]; exact hp.mem_iff
  rw [List.nodup_iff_pairwise_ne] at hn
  exact (hs.and hn).imp fun ⟨h1, h2⟩ => by simp only [decide_eq_true_eq] at h1; omega
theorem nodup_len {n : Nat} {l : List Int} (hl : l.Nodup) (hb : ∀ x ∈ l, 0 ≤ x ∧ x < n) : l.length ≤ n := by
  have := hl.length_le_of_subset (l₂ := (List.range n).map fun k : Nat => (k : Int)) fun x hx => by
    have := hb x hx
    exact List.mem_map.2 ⟨x.toNat, List.mem_range.2 (by omega), by omega⟩
  simpa using this
theorem sort_some {l : List Int} (h : l.length ≤ 1048576) : sort_Ints l = some (l.mergeSort fun x y => decide (x ≤ y)) := by
  unfold sort_Ints; rw [if_pos (by omega)]
theorem addL_nodup {s : List Int} (h : s.Nodup) (x : Int) : (addL s x).Nodup := by
  unfold addL
  split
  · exact h
  · rename_i hc
    rw [List.nodup_append]
    refine ⟨h, by simp, fun a ha b hb => ?_⟩
    simp only [List.mem_singleton] at hb
    subst hb
    rintro rfl
    exact hc (by simpa using ha)
theorem foldAdd_nodup : ∀ (l : List Int) {s : List Int}, s.Nodup → (l.foldl addL s).Nodup
  | [], s, h => h
  | x :: l, s, h => foldAdd_nodup l (addL_nodup h x)
theorem addL_pre (s : List Int) (x : Int) : ∃ t, addL s x = s ++ t := by
  unfold addL
  split
  · exact ⟨[], by simp⟩
  · exact ⟨[x], rfl⟩
theorem foldAdd_pre : ∀ (l : List Int) (s : List Int), ∃ t, l.foldl addL s = s ++ t
  | [], s => ⟨[], by simp⟩
  | x :: l, s => by
    obtain ⟨t, ht⟩ := addL_pre s x
    obtain ⟨t', ht'⟩ := foldAdd_pre l (addL s x)
    exact ⟨t ++ t', by rw [List.foldl_cons, ht', ht, List.append_assoc]⟩
theorem foldAdd_bnd {n : Nat} {l s : List Int} (hs : ∀ x ∈ s, 0 ≤ x ∧ x < (n : Int)) (hl : ∀ x ∈ l, 0 ≤ x ∧ x < (n : Int)) : ∀ x ∈ l.foldl addL s, 0 ≤ x ∧ x < (n : Int) := fun x hx => by
  rcases (mem_foldl_addL x l s).1 hx with h | h
  · exact hs x h
  · exact hl x h
theorem add_loop {ρ : Type} (n : Nat) (l : List Int) (hl : ∀ x ∈ l, 0 ≤ x ∧ x < (n : Int)) (f : List Int × Int → Option ((List Int × Int) ⊕ ρ)) (fin : List Int → ρ)
    (hf : ∀ (o : List Int) (k : Nat) (hk : k < l.length), o.length ≤ n → f (o, k) = some (.inl (addL o l[k], ((k + 1 : Nat) : Int))))
    (he : ∀ o, f (o, l.length) = some (.inr (fin o))) (o : List Int) (ho : o.Nodup) (hb : ∀ x ∈ o, 0 ≤ x ∧ x < (n : Int)) : loopP f (o, 0) = some (fin (l.foldl addL o)) := by
  have := loopP_fold l (fun (s : List Int) k => (s, (k : Int))) (fun k s => s.Nodup ∧ ∀ x ∈ s, 0 ≤ x ∧ x < (n : Int)) (fun s e => .inl (addL s e)) fin f (fun s k hk hI => by
    left
    refine ⟨_, rfl, hf s k hk (nodup_len hI.1 hI.2), addL_nodup hI.1 _, fun x hx => ?_⟩
    rcases mem_addL.1 hx with h | h
    · exact hI.2 x h
    · subst h; exact hl _ (List.getElem_mem hk)) (fun s _ => he s) o ⟨ho, hb⟩
  rw [foldE_inl] at this
  exact this
theorem bfs_loop {ρ : Type} (n : Nat) (root : Nat) (hroot : root < n) (next : Nat → List Int) (hnx : ∀ i, Reach next root i → ∀ m ∈ next i, 0 ≤ m ∧ m < (n : Int)) (f : List Int × Int → Option ((List Int × Int) ⊕ ρ)) (fin : List Int → ρ)
    (hf : ∀ (o : List Int) (k : Nat) (hk : k < o.length), o.Nodup → (∀ x ∈ o, 0 ≤ x ∧ x < (n : Int)) → Reach next root o[k].toNat → f (o, k) = some (.inl ((next o[k].toNat).foldl addL o, ((k + 1 : Nat) : Int))))
    (he : ∀ o : List Int, o.length ≤ n → f (o, o.length) = some (.inr (fin o))) : ∃ o : List Int, loopP f ([(root : Int)], 0) = some (fin o) ∧ o.Nodup ∧ ∀ x, x ∈ o ↔ 0 ≤ x ∧ x < (n : Int) ∧ Reach next root x.toNat := by
  obtain ⟨r, h1, o, h2, h3⟩ := loopP_run (f := f) (fun s : List Int × Int => ∃ i : Nat, s.2 = i ∧ i ≤ s.1.length ∧ s.1.Nodup ∧ (root : Int) ∈ s.1 ∧ (∀ x ∈ s.1, 0 ≤ x ∧ x < (n : Int) ∧ Reach next root x.toNat) ∧ ∀ (j : Nat) (hj : j < s.1.length), j < i → ∀ m ∈ next s.1[j].toNat, m ∈ s.1) (fun s => n - s.2.toNat) (fun r => ∃ o, r = fin o ∧ o.Nodup ∧ ∀ x, x ∈ o ↔ 0 ≤ x ∧ x < (n : Int) ∧ Reach next root x.toNat) (by
    rintro ⟨o, i⟩ ⟨i, rfl, hi, hn, hr, hb, hc⟩
    simp only at hi hn hr hb hc
    have hb2 : ∀ x ∈ o, 0 ≤ x ∧ x < (n : Int) := fun x hx => ⟨(hb x hx).1, (hb x hx).2.1⟩
    have hlen := nodup_len hn hb2
    by_cases hlt : i < o.length
    · left
      have hbi := hb _ (List.getElem_mem hlt)
      have hnb := hnx _ hbi.2.2
      refine ⟨_, hf o i hlt hn hb2 hbi.2.2, ⟨i + 1, rfl, ?_, foldAdd_nodup _ hn, ?_, ?_, ?_⟩, by simp only [Int.toNat_natCast]; omega⟩
      · obtain ⟨t, ht⟩ := foldAdd_pre (next o[i].toNat) o
        simp only [ht, List.length_append]; omega
      · exact (mem_foldl_addL _ _ _).2 (.inl hr)
      · intro x hx
        rcases (mem_foldl_addL _ _ _).1 hx with h | h
        · exact hb x h
        · exact ⟨(hnb x h).1, (hnb x h).2, .step hbi.2.2 h⟩
      · intro j hj hji m hm
        obtain ⟨t, ht⟩ := foldAdd_pre (next o[i].toNat) o
        simp only at hj hm ⊢
        have hjo : j < o.length := by omega
        have hg : ((next o[i].toNat).foldl addL o)[j] = o[j] := by
          simp only [ht]
          exact List.getElem_append_left hjo
        rw [hg] at hm
        rw [mem_foldl_addL]
        by_cases e : j = i
        · subst e; exact .inr hm
        · exact .inl (hc j hjo (by omega) m hm)
    · right
      have : i = o.length := by omega
      subst this
      refine ⟨fin o, he o hlen, o, rfl, hn, fun x => ⟨hb x, fun ⟨h1, h2, h3⟩ => ?_⟩⟩
      have key : ∀ k, Reach next root k → (k : Int) ∈ o := by
        intro k hk
        induction hk with
        | base => exact hr
        | step hk' hm ih =>
          obtain ⟨j, hj, he⟩ := List.mem_iff_getElem.1 ih
          rename_i a m
          have hm2 : m ∈ next o[j].toNat := by rw [he, Int.toNat_natCast]; exact hm
          have := hc j hj hj m hm2
          have hmb := hb m this
          rw [show ((m.toNat : Nat) : Int) = m by omega]
          exact this
      have := key _ h3
      rwa [show ((x.toNat : Nat) : Int) = x by omega] at this) ([(root : Int)], 0) ⟨0, rfl, by simp, by simp, by simp, fun x hx => by
    simp only [List.mem_singleton] at hx
    subst hx
    exact ⟨by omega, by omega, by rw [Int.toNat_natCast]; exact .base⟩, fun j hj h => by omega⟩
  exact ⟨o, by rw [h1, h2], h3⟩
theorem scan_loop {ρ : Type} (n : Nat) (hn : n ≤ 1048576) (p : Nat → Bool) (f : List Int × Int → Option ((List Int × Int) ⊕ ρ)) (fin : List Int → ρ)
    (hf : ∀ (o : List Int) (k : Nat), o.length ≤ 1048576 → k < n → f (o, k) = some (.inl ((if p k = true then o ++ [(k : Int)] else o), ((k + 1 : Nat) : Int))))
    (he : ∀ o : List Int, f (o, n) = some (.inr (fin o))) : loopP f ([], 0) = some (fin (setL n fun k => p k = true)) := by
  obtain ⟨r, h1, h2⟩ := loopP_run (f := f) (fun s : List Int × Int => ∃ k : Nat, s.2 = k ∧ k ≤ n ∧ s.1 = ((List.range k).filter p).map fun k : Nat => (k : Int)) (fun s => n - s.2.toNat) (fun r => r = fin (((List.range n).filter p).map fun k : Nat => (k : Int))) (by
    rintro ⟨o, i⟩ ⟨k, rfl, hk, ho⟩
    simp only at ho hk
    by_cases hlt : k < n
    · left
      have hol : o.length ≤ 1048576 := by
        rw [ho, List.length_map]
        have := List.length_filter_le p (List.range k)
        rw [List.length_range] at this
        omega
      refine ⟨_, hf o k hol hlt, ⟨k + 1, rfl, by omega, ?_⟩, by simp only [Int.toNat_natCast]; omega⟩
      simp only
      rw [List.range_succ, List.filter_append, List.map_append, ← ho]
      cases hp : p k <;> simp [hp]
    · right
      have : k = n := by omega
      subst this
      exact ⟨_, he o, by rw [ho]⟩) ([], 0) ⟨0, rfl, by omega, rfl⟩
  rw [h1, h2]
  have : ((List.range n).filter p).map (fun k : Nat => (k : Int)) = setL n fun k => p k = true := by
    unfold setL
    congr 1
    refine List.filter_congr fun x _ => ?_
    simp
  rw [this]
def kidsN (nodes : List GNode) (i : Nat) : List Int := match nodes[i]? with
  | some x => x.Kids
  | none => []
theorem kidsN_at {nodes : List GNode} {i : Nat} (h : i < nodes.length) : kidsN nodes i = nodes[i].Kids := by unfold kidsN; rw [List.getElem?_eq_getElem h]
theorem kidsN_bnd {nodes : List GNode} {i : Nat} (h : nodeB nodes i = true) : (kidsN nodes i).length ≤ 12 ∧ ∀ m ∈ kidsN nodes i, 0 ≤ m ∧ m < i := by
  have hi : i < nodes.length := (nodeB_get h).1
  have hg : nodes[i]? = some nodes[i] := List.getElem?_eq_getElem hi
  rw [kidsN_at hi]
  exact ⟨nodeB_kidlen h hg, nodeB_kids h hg⟩
theorem under_le {nodes : List GNode} {k : Nat} (h : okU nodes (k + 1) = true) {j : Nat} (r : Reach (kidsN nodes) k j) : j ≤ k := by
  induction r with
  | base => exact Nat.le_refl _
  | step _ hm ih =>
    have := (kidsN_bnd (okU_at h (by omega)).1).2 _ hm
    omega
noncomputable def underB (nodes : List GNode) (k : Int) : List Int := if deepB nodes k = 0 then [] else setL nodes.length (Reach (kidsN nodes) k.toNat)
theorem underB_bnd {nodes : List GNode} {k x : Int} (h : x ∈ underB nodes k) : 0 ≤ x ∧ x < nodes.length := by
  unfold underB at h
  split at h
  · cases h
  · have := mem_setL.1 h; exact ⟨this.1, this.2.1⟩
theorem underB_lt (nodes : List GNode) (k : Int) : (underB nodes k).Pairwise (· < ·) := by
  unfold underB
  split
  · simp
  · exact setL_lt _ _
theorem impl_under_eq (nodes : List GNode) (hn : nodes.length ≤ 1048576) (k : Nat) (hk : k < nodes.length) (hok : okU nodes (k + 1) = true) : impl_under nodes k = some (setL nodes.length (Reach (kidsN nodes) k)) := by
  unfold impl_under
  have hnx : ∀ i, Reach (kidsN nodes) k i → (kidsN nodes i).length ≤ 12 ∧ ∀ m ∈ kidsN nodes i, 0 ≤ m ∧ m < (i : Int) := fun i hr => kidsN_bnd (okU_at hok (by have := under_le hok hr; omega)).1
  obtain ⟨o, g1, g2, g3⟩ := bfs_loop nodes.length k hk (kidsN nodes) (fun i hr m hm => by
    have := (hnx i hr).2 m hm
    have := under_le hok hr
    omega) (impl_under_l1 nodes) (fun o => o) (fun o i hi hnd hb hr => by
      have hbi := hb _ (List.getElem_mem hi)
      have hlt : o[i].toNat < nodes.length := by omega
      have hge : getI nodes o[i] = some nodes[o[i].toNat] := getI_in hbi.1 hbi.2
      have hol := nodup_len hnd hb
      obtain ⟨hkl, hkb⟩ := hnx _ hr
      have hle := under_le hok hr
      have hkn := kidsN_at hlt
      simp only [impl_under_l1, ofNat_lt_true hi, if_true, getI_at hi, Option.bind_some, hge]
      rw [hkn] at hkl hkb ⊢
      generalize nodes[o[i].toNat] = x at *
      rw [add_loop nodes.length x.Kids (fun m hm => by have := hkb m hm; omega) (impl_under_l2 x) (fun o => o) (fun o k hk ho => by
        have happ : appI 8 o [x.Kids[k]] = some (o ++ [x.Kids[k]]) := app1 (by omega) (by omega)
        simp only [impl_under_l2, ofNat_lt_true hk, if_true, getI_at hk, Option.bind_some, hasInt_eq o _ (by omega), w64_nat hk (show x.Kids.length ≤ 1048576 by omega), happ]
        unfold addL
        cases o.contains x.Kids[k] <;> rfl) (fun o => by simp [impl_under_l2]) o hnd hb]
      simp only [Option.bind_some, w64_nat hi (show o.length ≤ 1048576 by omega)]) (fun o ho => by simp [impl_under_l1])
  rw [g1]
  simp only [Option.bind_some]
  have hol : o.length ≤ 1048576 := by
    have := nodup_len (n := nodes.length) g2 fun x hx => ⟨((g3 x).1 hx).1, ((g3 x).1 hx).2.1⟩
    omega
  rw [sort_some hol]
  simp only [Option.bind_some]
  rw [sort_setL g2 g3]
theorem impl_Under_eq (p : GProgram) (hn : p.Nodes.length ≤ 1048576) (k : Int) : impl_Under p k = some (underB p.Nodes k) := by
  unfold impl_Under underB
  rw [impl_DeepOf_eq _ hn]
  simp only [Option.bind_some]
  by_cases hz : deepB p.Nodes k = 0
  · rw [if_pos (by simpa using hz), if_pos hz]
  · rw [if_neg (by simpa using hz), if_neg hz]
    obtain ⟨h0, h1, h2⟩ := deepB_zero hz
    have := impl_under_eq p.Nodes hn k.toNat (by omega) h2
    rw [show ((k.toNat : Nat) : Int) = k by omega] at this
    rw [this]; rfl
structure MarkR (nodes : List GNode) (k : Nat) (s s' : List Bool) : Prop where
  len : s'.length = s.length
  mono : ∀ j : Nat, s[j]? = some true → s'[j]? = some true
  self : s'[k]? = some true
  sound : ∀ j : Nat, s'[j]? = some true → s[j]? = some true ∨ Reach (kidsN nodes) k j
  closed : ∀ j : Nat, s'[j]? = some true → s[j]? = some true ∨ ∀ m ∈ kidsN nodes j, s'[m.toNat]? = some true
theorem reach_kid {next : Nat → List Int} {k : Nat} {m : Int} (hm : m ∈ next k) {j : Nat} (r : Reach next m.toNat j) : Reach next k j := by
  induction r with
  | base => exact .step .base hm
  | step _ hm' ih => exact .step ih hm'
theorem mark_main (nodes : List GNode) (hn : nodes.length ≤ 1048576) : ∀ (f k : Nat) (s : List Bool), okU nodes (k + 1) = true → dval nodes k ≤ f → s.length = nodes.length → ∃ s', spec_l04Mark_rec f nodes k s = some s' ∧ MarkR nodes k s s'
  | 0, k, s, hok, hd, hs => by have := dval_pos nodes k; omega
  | f + 1, k, s, hok, hd, hs => by
    obtain ⟨hnb, _⟩ := okU_at hok (Nat.lt_succ_self k)
    have hk : k < nodes.length := (nodeB_get hnb).1
    have hx : nodes[k]? = some nodes[k] := List.getElem?_eq_getElem hk
    have hge : getI nodes (k : Int) = some nodes[k] := getI_at hk
    obtain ⟨hkl, hkb⟩ := kidsN_bnd hnb
    have hkn := kidsN_at hk
    have hks : k < s.length := by omega
    have hkid := fun kid hm => dval_kid (kid := kid) hnb hx hm
    rw [hkn] at hkl hkb
    generalize hxe : nodes[k] = x at *
    show ∃ s', spec_l04Mark_b (spec_l04Mark_rec f) nodes k s = some s' ∧ MarkR nodes k s s'
    unfold spec_l04Mark_b
    rw [getI_at hks]
    simp only [Option.bind_some]
    by_cases hsk : s[k] = true
    · rw [if_pos hsk]
      have hsk' : s[k]? = some true := by rw [List.getElem?_eq_getElem hks, hsk]
      exact ⟨s, rfl, rfl, fun _ h => h, hsk', fun _ h => .inl h, fun _ h => .inl h⟩
    · rw [if_neg hsk]
      simp only [bindS_def, Int.toNat_natCast]
      have hs0 : (s.set k true).length = nodes.length := by rw [List.length_set]; exact hs
      have hs0k : (s.set k true)[k]? = some true := by rw [List.getElem?_set, if_pos rfl, if_pos hks]
      have hs0j : ∀ j : Nat, (s.set k true)[j]? = some true → s[j]? = some true ∨ j = k := by
        intro j h
        rw [List.getElem?_set] at h
        split at h
        · rename_i e; exact .inr e.symm
        · exact .inl h
      have hs0m : ∀ j : Nat, s[j]? = some true → (s.set k true)[j]? = some true := by
        intro j h
        rw [List.getElem?_set]
        by_cases e : k = j
        · subst e; rw [if_pos rfl, if_pos hks]
        · rw [if_neg e]; exact h
      obtain ⟨r, g1, g2⟩ := loopP_run (f := spec_l04Mark_l1 (spec_l04Mark_rec f) nodes k) (fun t : List Bool × Int => ∃ i : Nat, t.2 = i ∧ i ≤ x.Kids.length ∧ t.1.length = nodes.length ∧ (∀ j : Nat, (s.set k true)[j]? = some true → t.1[j]? = some true) ∧ (∀ j : Nat, t.1[j]? = some true → (s.set k true)[j]? = some true ∨ Reach (kidsN nodes) k j) ∧
          (∀ j : Nat, t.1[j]? = some true → (s.set k true)[j]? = some true ∨ ∀ m ∈ kidsN nodes j, t.1[m.toNat]? = some true) ∧ ∀ (q : Nat) (hq : q < x.Kids.length), q < i → t.1[(x.Kids[q]).toNat]? = some true) (fun t => x.Kids.length - t.2.toNat) (fun r => MarkR nodes k s r) (by
        rintro ⟨t, i⟩ ⟨i, rfl, hi, hl, hm, hso, hcl, hd'⟩
        simp only at hi hl hm hso hcl hd'
        by_cases hlt : i < x.Kids.length
        · left
          have hmem := List.getElem_mem hlt
          have hb := hkb _ hmem
          obtain ⟨s', r1, r2⟩ := mark_main nodes hn f (x.Kids[i]).toNat t (okU_mono (by omega) hok) (by have := hkid _ hmem; omega) hl
          rw [show (((x.Kids[i]).toNat : Nat) : Int) = x.Kids[i] by omega] at r1
          have hmk : x.Kids[i] ∈ kidsN nodes k := by rw [hkn]; exact hmem
          refine ⟨(s', ((i + 1 : Nat) : Int)), ?_, ⟨i + 1, rfl, by omega, r2.len.trans hl, fun j h => r2.mono j (hm j h), fun j h => ?_, fun j h => ?_, fun q hq hqi => ?_⟩, by simp only [Int.toNat_natCast]; omega⟩
          · simp only [spec_l04Mark_l1, hge, Option.bind_some, ofNat_lt_true hlt, if_true, getI_at hlt, r1, w64_nat hlt (show x.Kids.length ≤ 1048576 by omega)]
          · rcases r2.sound j h with h | h
            · exact hso j h
            · exact .inr (reach_kid hmk h)
          · rcases r2.closed j h with h | h
            · rcases hcl j h with h | h
              · exact .inl h
              · exact .inr fun m hm => r2.mono _ (h m hm)
            · exact .inr h
          · by_cases e : q = i
            · subst e; exact r2.self
            · exact r2.mono _ (hd' q hq (by omega))
        · right
          have : i = x.Kids.length := by omega
          subst this
          refine ⟨t, by simp [spec_l04Mark_l1, hge], hl.trans hs.symm, fun j h => hm j (hs0m j h), hm k hs0k, fun j h => ?_, fun j h => ?_⟩
          · rcases hso j h with h | h
            · rcases hs0j j h with h | h
              · exact .inl h
              · subst h; exact .inr .base
            · exact .inr h
          · rcases hcl j h with h | h
            · rcases hs0j j h with h | h
              · exact .inl h
              · subst h
                right
                intro m hm'
                rw [hkn] at hm'
                obtain ⟨q, hq, rfl⟩ := List.mem_iff_getElem.1 hm'
                exact hd' q hq hq
            · exact .inr h) (s.set k true, 0) ⟨0, rfl, by omega, hs0, fun _ h => h, fun _ h => .inl h, fun _ h => .inl h, fun q _ h => by omega⟩
      exact ⟨r, g1, g2⟩
theorem spec_Under_eq (p : GProgram) (hn : p.Nodes.length ≤ 1048576) (k : Int) : spec_Under p k = some (underB p.Nodes k) := by
  unfold spec_Under underB
  rw [spec_DeepOf_eq _ hn]
  simp only [Option.bind_some]
  by_cases hz : deepB p.Nodes k = 0
  · rw [if_pos (by simpa using hz), if_pos hz]
  · rw [if_neg (by simpa using hz), if_neg hz]
    obtain ⟨h0, h1, h2⟩ := deepB_zero hz
    rw [mkI_len _ _ _ (by omega) (by omega)]
    simp only [Option.bind_some]
    obtain ⟨s', r1, r2⟩ := mark_main p.Nodes hn recFuel k.toNat (List.replicate p.Nodes.length false) h2 (by
      have := (okU_at h2 (Nat.lt_succ_self _)).2
      rw [recFuel_eq]; omega) (by simp)
    rw [show ((k.toNat : Nat) : Int) = k by omega] at r1
    have r1' : spec_l04Mark p.Nodes k (List.replicate p.Nodes.length false) = some s' := r1
    rw [r1']
    simp only [Option.bind_some]
    have hl : s'.length = p.Nodes.length := by rw [r2.len]; simp
    have hrep : ∀ j : Nat, ¬ (List.replicate p.Nodes.length false)[j]? = some true := by
      intro j h
      rw [List.getElem?_replicate] at h
      split at h <;> simp at h
    have hiff : ∀ j, s'[j]? = some true ↔ Reach (kidsN p.Nodes) k.toNat j := by
      intro j
      constructor
      · intro h
        rcases r2.sound j h with h | h
        · exact absurd h (hrep j)
        · exact h
      · intro h
        induction h with
        | base => exact r2.self
        | step _ hm ih =>
          rcases r2.closed _ ih with h | h
          · exact absurd h (hrep _)
          · exact h _ hm
    rw [scan_loop p.Nodes.length hn (fun j => s'.getD j false) (spec_Under_l1 s') (fun o => o) (fun o j ho hj => by
      have hjs : j < s'.length := by omega
      have happ : appI 8 o [(j : Int)] = some (o ++ [(j : Int)]) := app1 ho (by omega)
      simp only [spec_Under_l1, hl, ofNat_lt_true hj, if_true, getI_at hjs, Option.bind_some, happ, w64_nat hj hn]
      rw [List.getD_eq_getElem?_getD, List.getElem?_eq_getElem hjs]
      simp only [Option.getD_some]
      cases s'[j] <;> rfl) (fun o => by simp [spec_Under_l1, hl])]
    simp only [Option.bind_some]
    congr 1
    refine setL_congr fun j hj => ?_
    rw [← hiff]
    have hjs : j < s'.length := by omega
    rw [List.getD_eq_getElem?_getD, List.getElem?_eq_getElem hjs]
    simp
end Go.OM
set_option linter.unusedVariables false
set_option linter.unusedSimpArgs false
namespace Go.OM
theorem drop_ge {L : List Int} (h : L.Pairwise (· < ·)) {i : Nat} (hi : i < L.length) {y : Int} (hy : y ∈ L.drop i) : L[i] ≤ y := by
  obtain ⟨j, hj, rfl⟩ := List.mem_iff_getElem.1 hy
  rw [List.length_drop] at hj
  rw [List.getElem_drop]
  rcases Nat.eq_zero_or_pos j with e | e
  · subst e; simp
  · have := (List.pairwise_iff_getElem.1 h) i (i + j) hi (by omega) (by omega)
    omega
theorem drop_gt {L : List Int} (h : L.Pairwise (· < ·)) {i : Nat} (hi : i < L.length) {y : Int} (hy : y ∈ L.drop (i + 1)) : L[i] < y := by
  obtain ⟨j, hj, rfl⟩ := List.mem_iff_getElem.1 hy
  rw [List.length_drop] at hj
  rw [List.getElem_drop]
  exact (List.pairwise_iff_getElem.1 h) i (i + 1 + j) hi (by omega) (by omega)
theorem take_succ_mem {L : List Int} {i : Nat} (hi : i < L.length) {x : Int} : x ∈ L.take (i + 1) ↔ x ∈ L.take i ∨ x = L[i] := by
  rw [List.take_add_one, List.getElem?_eq_getElem hi, List.mem_append]
  simp
theorem drop_succ_sub {L : List Int} {i : Nat} {x : Int} (h : x ∈ L.drop (i + 1)) : x ∈ L.drop i := by
  obtain ⟨j, hj, rfl⟩ := List.mem_iff_getElem.1 h
  rw [List.length_drop] at hj
  rw [List.getElem_drop]
  exact List.mem_iff_getElem.2 ⟨1 + j, by rw [List.length_drop]; omega, by rw [List.getElem_drop]; congr 1; omega⟩
theorem drop_self {L : List Int} {i : Nat} (hi : i < L.length) : L[i] ∈ L.drop i := by
  rw [List.drop_eq_getElem_cons hi]; exact List.mem_cons_self
theorem snoc_lt {o : List Int} {a : Int} (h : o.Pairwise (· < ·)) (hb : ∀ x ∈ o, x < a) : (o ++ [a]).Pairwise (· < ·) := by
  rw [List.pairwise_append]
  exact ⟨h, by simp, fun x hx y hy => by simp only [List.mem_singleton] at hy; subst hy; exact hb x hx⟩
theorem merge_loop (n : Nat) (hn : n ≤ 1048576) (A B : List Int) (hA : A.Pairwise (· < ·)) (hB : B.Pairwise (· < ·)) (hbA : ∀ x ∈ A, 0 ≤ x ∧ x < (n : Int)) (hbB : ∀ x ∈ B, 0 ≤ x ∧ x < (n : Int)) :
    loopP (spec_l07All_l1 A B) ([], 0, 0) = some (setL n fun j => (j : Int) ∈ A ∨ (j : Int) ∈ B) := by
  have lA := nodup_len (lt_nodup hA) hbA
  have lB := nodup_len (lt_nodup hB) hbB
  obtain ⟨r, h1, h2⟩ := loopP_run (f := spec_l07All_l1 A B) (fun s : List Int × Int × Int => ∃ i k : Nat, s.2 = ((i : Int), (k : Int)) ∧ i ≤ A.length ∧ k ≤ B.length ∧ s.1.Pairwise (· < ·) ∧ (∀ x, x ∈ s.1 ↔ x ∈ A.take i ∨ x ∈ B.take k) ∧ (∀ x ∈ s.1, ∀ y ∈ A.drop i, x < y) ∧ ∀ x ∈ s.1, ∀ y ∈ B.drop k, x < y) (fun s => (A.length - s.2.1.toNat) + (B.length - s.2.2.toNat)) (fun r => r = setL n fun j => (j : Int) ∈ A ∨ (j : Int) ∈ B) (by
    rintro ⟨o, p⟩ ⟨i, k, rfl, hi, hk, ho, hm, h3, h4⟩
    simp only at ho hm h3 h4
    have hob : ∀ x ∈ o, 0 ≤ x ∧ x < (n : Int) := fun x hx => by
      rcases (hm x).1 hx with h | h
      · exact hbA x (List.mem_of_mem_take h)
      · exact hbB x (List.mem_of_mem_take h)
    have hol := nodup_len (lt_nodup ho) hob
    have happ : ∀ a : Int, appI 8 o [a] = some (o ++ [a]) := fun a => app1 (by omega) (by omega)
    have di : decide ((i : Int) < (A.length : Int)) = decide (i < A.length) := decide_eq_decide.2 (by omega)
    have dk : decide ((k : Int) < (B.length : Int)) = decide (k < B.length) := decide_eq_decide.2 (by omega)
    have dk2 : decide ((k : Int) ≥ (B.length : Int)) = decide (¬ k < B.length) := decide_eq_decide.2 (by omega)
    have wi : IntKind.wrap .i64 ((i : Int) + 1) = ((i + 1 : Nat) : Int) := by rw [w64 (by omega) (by omega)]; omega
    have wk : IntKind.wrap .i64 ((k : Int) + 1) = ((k + 1 : Nat) : Int) := by rw [w64 (by omega) (by omega)]; omega
    -- what the step takes
    have takeA : ∀ (hia : i < A.length), (∀ hkb : k < B.length, A[i] < B[k]) → ∃ b, spec_l07All_l1 A B (o, (i : Int), (k : Int)) = some (.inl b) ∧ (∃ i' k' : Nat, b.2 = ((i' : Int), (k' : Int)) ∧ i' ≤ A.length ∧ k' ≤ B.length ∧ b.1.Pairwise (· < ·) ∧ (∀ x, x ∈ b.1 ↔ x ∈ A.take i' ∨ x ∈ B.take k') ∧ (∀ x ∈ b.1, ∀ y ∈ A.drop i', x < y) ∧ ∀ x ∈ b.1, ∀ y ∈ B.drop k', x < y) ∧ (A.length - b.2.1.toNat) + (B.length - b.2.2.toNat) < (A.length - i) + (B.length - k) := by
      intro hia hab
      refine ⟨(o ++ [A[i]], ((i + 1 : Nat) : Int), (k : Int)), ?_, ⟨i + 1, k, rfl, by omega, hk, snoc_lt ho fun x hx => h3 x hx _ (drop_self hia), fun x => ?_, fun x hx y hy => ?_, fun x hx y hy => ?_⟩, by simp only [Int.toNat_natCast]; omega⟩
      · by_cases hkb : k < B.length
        · have := hab hkb
          simp [spec_l07All_l1, di, dk, dk2, hia, hkb, getI_at hia, getI_at hkb, happ, wi, this, show ¬ B.length ≤ k by omega]
        · simp [spec_l07All_l1, di, dk, dk2, hia, hkb, getI_at hia, happ, wi, show B.length ≤ k by omega]
      · simp only [List.mem_append, List.mem_singleton, hm, take_succ_mem hia]
        constructor
        · rintro ((h | h) | h)
          · exact .inl (.inl h)
          · exact .inr h
          · exact .inl (.inr h)
        · rintro ((h | h) | h)
          · exact .inl (.inl h)
          · exact .inr h
          · exact .inl (.inr h)
      · rcases List.mem_append.1 hx with h | h
        · exact h3 x h y (drop_succ_sub hy)
        · simp only [List.mem_singleton] at h; subst h; exact drop_gt hA hia hy
      · rcases List.mem_append.1 hx with h | h
        · exact h4 x h y hy
        · simp only [List.mem_singleton] at h; subst h
          have hkb : k < B.length := by
            rcases Nat.lt_or_ge k B.length with h | h
            · exact h
            · rw [List.drop_eq_nil_of_le h] at hy; cases hy
          have := hab hkb
          have := drop_ge hB hkb hy
          omega
    by_cases hend : i < A.length ∨ k < B.length
    · left
      by_cases hkb : k < B.length
      · by_cases hia : i < A.length
        · by_cases hlt : A[i] < B[k]
          · exact takeA hia fun _ => hlt
          · by_cases heq : A[i] = B[k]
            · refine ⟨(o ++ [B[k]], ((i + 1 : Nat) : Int), ((k + 1 : Nat) : Int)), ?_, ⟨i + 1, k + 1, rfl, by omega, by omega, snoc_lt ho fun x hx => h4 x hx _ (drop_self hkb), fun x => ?_, fun x hx y hy => ?_, fun x hx y hy => ?_⟩, by simp only [Int.toNat_natCast]; omega⟩
              · simp [spec_l07All_l1, di, dk, dk2, hia, hkb, getI_at hia, getI_at hkb, happ, wi, wk, heq, show ¬ B.length ≤ k by omega]
              · simp only [List.mem_append, List.mem_singleton, hm, take_succ_mem hia, take_succ_mem hkb, heq]
                constructor
                · rintro ((h | h) | h)
                  · exact .inl (.inl h)
                  · exact .inr (.inl h)
                  · exact .inr (.inr h)
                · rintro ((h | h) | (h | h))
                  · exact .inl (.inl h)
                  · exact .inr h
                  · exact .inl (.inr h)
                  · exact .inr h
              · rcases List.mem_append.1 hx with h | h
                · exact h3 x h y (drop_succ_sub hy)
                · simp only [List.mem_singleton] at h; subst h; rw [← heq]; exact drop_gt hA hia hy
              · rcases List.mem_append.1 hx with h | h
                · exact h4 x h y (drop_succ_sub hy)
                · simp only [List.mem_singleton] at h; subst h; exact drop_gt hB hkb hy
            · refine ⟨(o ++ [B[k]], (i : Int), ((k + 1 : Nat) : Int)), ?_, ⟨i, k + 1, rfl, hi, by omega, snoc_lt ho fun x hx => h4 x hx _ (drop_self hkb), fun x => ?_, fun x hx y hy => ?_, fun x hx y hy => ?_⟩, by simp only [Int.toNat_natCast]; omega⟩
              · simp [spec_l07All_l1, di, dk, dk2, hia, hkb, getI_at hia, getI_at hkb, happ, wi, wk, heq, hlt, show ¬ B.length ≤ k by omega]
              · simp only [List.mem_append, List.mem_singleton, hm, take_succ_mem hkb, or_assoc]
              · rcases List.mem_append.1 hx with h | h
                · exact h3 x h y hy
                · simp only [List.mem_singleton] at h; subst h
                  have := drop_ge hA hia hy
                  omega
              · rcases List.mem_append.1 hx with h | h
                · exact h4 x h y (drop_succ_sub hy)
                · simp only [List.mem_singleton] at h; subst h; exact drop_gt hB hkb hy
        · refine ⟨(o ++ [B[k]], (i : Int), ((k + 1 : Nat) : Int)), ?_, ⟨i, k + 1, rfl, hi, by omega, snoc_lt ho fun x hx => h4 x hx _ (drop_self hkb), fun x => ?_, fun x hx y hy => ?_, fun x hx y hy => ?_⟩, by simp only [Int.toNat_natCast]; omega⟩
          · simp [spec_l07All_l1, di, dk, dk2, hia, hkb, getI_at hkb, happ, wi, wk, show ¬ B.length ≤ k by omega]
          · simp only [List.mem_append, List.mem_singleton, hm, take_succ_mem hkb, or_assoc]
          · rw [List.drop_eq_nil_of_le (by omega)] at hy; cases hy
          · rcases List.mem_append.1 hx with h | h
            · exact h4 x h y (drop_succ_sub hy)
            · simp only [List.mem_singleton] at h; subst h; exact drop_gt hB hkb hy
      · exact takeA (by omega) fun h => absurd h hkb
    · right
      have hi' : i = A.length := by omega
      have hk' : k = B.length := by omega
      refine ⟨o, by simp [spec_l07All_l1, hi', hk'], ?_⟩
      refine setL_eq ho fun x => ?_
      rw [hm, hi', hk', List.take_length, List.take_length]
      constructor
      · intro h
        have hb : 0 ≤ x ∧ x < (n : Int) := h.elim (hbA x) (hbB x)
        refine ⟨hb.1, hb.2, ?_⟩
        rwa [show ((x.toNat : Nat) : Int) = x by omega]
      · rintro ⟨a1, _, a3⟩
        rwa [show ((x.toNat : Nat) : Int) = x by omega] at a3) ([], 0, 0) ⟨0, 0, rfl, by omega, by omega, by simp, fun x => by simp, fun x hx => by simp at hx, fun x hx => by simp at hx⟩
  rw [h1, h2]
def rootsB (p : GProgram) (fn : Int) : List Int := if inB fn 0 ((p.Fns.length : Int) - 1) = true then (match p.Fns[fn.toNat]? with | some f => if f.Ret = -1 then [f.Body] else [f.Body, f.Ret] | none => []) else []
noncomputable def nodesB (p : GProgram) (fn : Int) : List Int := setL p.Nodes.length fun j => ∃ r ∈ rootsB p fn, (j : Int) ∈ underB p.Nodes r
theorem impl_roots_eq (p : GProgram) (hp : p.Fns.length ≤ 1048576) (fn : Int) : impl_roots p fn = some (rootsB p fn) := by
  unfold impl_roots rootsB
  simp only [impl_in_eq, Option.bind_some, w64_pred hp]
  cases hi : inB fn 0 ((p.Fns.length : Int) - 1) with
  | false => rfl
  | true =>
    have hi' := inB_iff.1 hi
    have hlt : fn.toNat < p.Fns.length := by omega
    simp only [Bool.not_true, Bool.false_eq_true, if_false, if_true]
    rw [getI_in hi'.1 (by omega), List.getElem?_eq_getElem hlt]
    simp only [Option.bind_some]
    by_cases hr : p.Fns[fn.toNat].Ret = -1
    · simp [hr]
    · have happ : appI 8 [p.Fns[fn.toNat].Body] [p.Fns[fn.toNat].Ret] = some ([p.Fns[fn.toNat].Body] ++ [p.Fns[fn.toNat].Ret]) := app1 (by simp) (by omega)
      simp [hr, happ]
theorem mem_foldU (nodes : List GNode) (x : Int) : ∀ (rs s : List Int), x ∈ rs.foldl (fun o r => (underB nodes r).foldl addL o) s ↔ x ∈ s ∨ ∃ r ∈ rs, x ∈ underB nodes r
  | [], s => by simp
  | r :: rs, s => by
    rw [List.foldl_cons, mem_foldU nodes x rs, mem_foldl_addL]
    simp only [List.mem_cons, exists_eq_or_imp, or_assoc]
theorem rootsB_len (p : GProgram) (fn : Int) : (rootsB p fn).length ≤ 2 := by
  unfold rootsB
  split
  · split
    · split <;> simp
    · simp
  · simp
theorem impl_fnNodes_eq (p : GProgram) (hn : p.Nodes.length ≤ 1048576) (hp : p.Fns.length ≤ 1048576) (fn : Int) : impl_fnNodes p fn = some (nodesB p fn) := by
  unfold impl_fnNodes
  rw [impl_roots_eq p hp]
  simp only [Option.bind_some]
  have hrl := rootsB_len p fn
  have := loopP_fold (rootsB p fn) (fun (o : List Int) k => (o, (k : Int))) (fun k o => o.Nodup ∧ ∀ x ∈ o, 0 ≤ x ∧ x < (p.Nodes.length : Int)) (fun o r => .inl ((underB p.Nodes r).foldl addL o)) id (impl_fnNodes_l1 p (rootsB p fn)) (fun o k hk hI => by
    left
    refine ⟨_, rfl, ?_, foldAdd_nodup _ hI.1, foldAdd_bnd hI.2 fun x hx => underB_bnd hx⟩
    have hul := nodup_len (n := p.Nodes.length) (lt_nodup (underB_lt p.Nodes (rootsB p fn)[k])) fun x hx => underB_bnd hx
    simp only [impl_fnNodes_l1, ofNat_lt_true hk, if_true, getI_at hk, Option.bind_some, impl_Under_eq p hn]
    generalize hu : underB p.Nodes (rootsB p fn)[k] = U at *
    rw [add_loop p.Nodes.length U (fun m hm => by rw [← hu] at hm; exact underB_bnd hm) (impl_fnNodes_l2 U) (fun o => o) (fun o j hj ho => by
      have happ : appI 8 o [U[j]] = some (o ++ [U[j]]) := app1 (by omega) (by omega)
      simp only [impl_fnNodes_l2, ofNat_lt_true hj, if_true, getI_at hj, Option.bind_some, hasInt_eq o _ (by omega), w64_nat hj (show U.length ≤ 1048576 by omega), happ]
      unfold addL
      cases o.contains U[j] <;> rfl) (fun o => by simp [impl_fnNodes_l2]) o hI.1 hI.2]
    simp only [Option.bind_some, w64_nat hk (show (rootsB p fn).length ≤ 1048576 by omega)]) (fun o _ => by simp [impl_fnNodes_l1]) [] ⟨by simp, fun x hx => by simp at hx⟩
  rw [foldE_inl] at this
  have h2 : loopP (impl_fnNodes_l1 p (rootsB p fn)) ([], 0) = some ((rootsB p fn).foldl (fun o r => (underB p.Nodes r).foldl addL o) []) := this
  rw [h2]
  simp only [Option.bind_some]
  generalize ho : (rootsB p fn).foldl (fun o r => (underB p.Nodes r).foldl addL o) [] = o
  have hnd : o.Nodup := by
    rw [← ho]
    have key : ∀ (rs s : List Int), s.Nodup → (rs.foldl (fun o r => (underB p.Nodes r).foldl addL o) s).Nodup := by
      intro rs
      induction rs with
      | nil => intro s h; exact h
      | cons r rs ih => intro s h; rw [List.foldl_cons]; exact ih _ (foldAdd_nodup _ h)
    exact key _ _ (by simp)
  have hmem : ∀ x, x ∈ o ↔ 0 ≤ x ∧ x < (p.Nodes.length : Int) ∧ ∃ r ∈ rootsB p fn, ((x.toNat : Nat) : Int) ∈ underB p.Nodes r := by
    intro x
    rw [← ho, mem_foldU]
    constructor
    · rintro (h | ⟨r, h1, h2⟩)
      · simp at h
      · have := underB_bnd h2
        exact ⟨this.1, this.2, r, h1, by rwa [show ((x.toNat : Nat) : Int) = x by omega]⟩
    · rintro ⟨h1, _, r, h3, h4⟩
      exact .inr ⟨r, h3, by rwa [show ((x.toNat : Nat) : Int) = x by omega] at h4⟩
  have hol : o.length ≤ p.Nodes.length := nodup_len hnd fun x hx => ⟨((hmem x).1 hx).1, ((hmem x).1 hx).2.1⟩
  rw [sort_some (by omega)]
  simp only [Option.bind_some]
  rw [sort_setL (n := p.Nodes.length) (P := fun j => ∃ r ∈ rootsB p fn, (j : Int) ∈ underB p.Nodes r) hnd hmem]
  rfl
theorem spec_l07All_eq (p : GProgram) (hn : p.Nodes.length ≤ 1048576) (hp : p.Fns.length ≤ 1048576) (fn : Int) : spec_l07All p fn = some (nodesB p fn) := by
  unfold spec_l07All nodesB rootsB
  simp only [spec_in_eq, Option.bind_some, w64_pred hp]
  cases hi : inB fn 0 ((p.Fns.length : Int) - 1) with
  | false =>
    simp only [Bool.not_false, if_true, Bool.false_eq_true, if_false]
    congr 1
    have : ∀ x, x ∉ setL p.Nodes.length fun j => ∃ r ∈ ([] : List Int), (j : Int) ∈ underB p.Nodes r := by
      intro x hx
      obtain ⟨_, _, r, hr, _⟩ := mem_setL.1 hx
      cases hr
    exact (List.eq_nil_iff_forall_not_mem.2 this).symm
  | true =>
    have hi' := inB_iff.1 hi
    have hlt : fn.toNat < p.Fns.length := by omega
    simp only [Bool.not_true, Bool.false_eq_true, if_false, if_true]
    rw [getI_in hi'.1 (by omega), List.getElem?_eq_getElem hlt]
    simp only [Option.bind_some, spec_Under_eq p hn]
    generalize p.Fns[fn.toNat] = f
    rw [merge_loop p.Nodes.length hn _ _ (underB_lt _ _) (underB_lt _ _) (fun x hx => underB_bnd hx) (fun x hx => underB_bnd hx)]
    simp only [Option.bind_some]
    congr 1
    refine setL_congr fun j hj => ?_
    by_cases hr : f.Ret = -1
    · have h0 : underB p.Nodes f.Ret = [] := by
        have hd : deepB p.Nodes f.Ret = 0 := by
          unfold deepB
          rw [hr, if_neg (by omega)]
        unfold underB
        rw [if_pos hd]
      rw [if_pos hr, h0]
      simp
    · rw [if_neg hr]
      simp
theorem FnNodes_main (p : GProgram) (hn : p.Nodes.length ≤ 1048576) (hp : p.Fns.length ≤ 1048576) (fn : Int) : ∃ n : Int, impl_FnNodes p fn = some n ∧ spec_FnNodes p fn = some n := by
  unfold impl_FnNodes spec_FnNodes
  rw [impl_fnNodes_eq p hn hp, spec_l07All_eq p hn hp]
  exact ⟨_, rfl, rfl⟩
theorem law_FnNodes (p : GProgram) (fn : Int) (hw : GProgram.le maxLen p) : laws_FnExactFnNodes p fn = some true := by
  unfold laws_FnExactFnNodes
  obtain ⟨r, h1, h2, h3⟩ := laws_szProgram_p p hw 1048576 (by omega) (by omega)
  rw [h1]
  simp only [Option.bind_some]
  by_cases hr : r < 0
  · simp [hr]
  · have hp := h3 (by omega)
    obtain ⟨n, v1, v2⟩ := FnNodes_main p hp.1.1 hp.2.1 fn
    simp [hr, laws_toProgram_p p hp, v1, v2, laws_eqProgram_p p p hp hp]
end Go.OM
