/- A part of the proof of WalkTellsSaid: contracts of functions and plain lemmas; each holds under the hypotheses that it names. -/
import Derived.Test.YtdjhjgfjhicbfaaTellsGg
import Derived.Test.YtdjhjgfjhicbfaaPWalkTellsx4
import Derived.Test.YtdjhjgfjhicbfaaTellsGj
namespace Go.Proofs.Ytdjhjgfjhicbfaa.PWalkTells
open Go.RowKit Go.Shelf Go.Proofs.YtdjhjgfjhicbfaaW.PrintWords Go.Proofs.YtdjhjgfjhicbfaaW.PrintLast Go.Proofs.YtdjhjgfjhicbfaaW.PrintMore
set_option linter.unusedVariables false
set_option linter.unusedSimpArgs false
def gS (L : List S43) (j : Nat) : S43 := L.getD j z43
theorem gS_eq {L : List S43} {j : Nat} (h : j < L.length) : gS L j = L[j] := by simp [gS, List.getD_eq_getElem?_getD, h]
theorem gS_left {L M : List S43} {j : Nat} (h : j < L.length) : gS (L ++ M) j = gS L j := by
  rw [gS_eq h, gS_eq (by simp; omega), List.getElem_append_left h]
theorem gS_last (L : List S43) (s : S43) : gS (L ++ [s]) L.length = s := by
  rw [gS_eq (by simp)]; simp
structure CP.Tree (x : CP) (L : List S43) (at_ : Nat) : Prop where
  sorted : ∀ i j, i ≤ j → j < L.length → (gS L i).f1 ≤ (gS L j).f1
  top : at_ < L.length → ∀ j, j < L.length → (gS L j).f1 ≤ (gS L at_).f1 + 1
  root : ∀ j, j < L.length → ((gS L j).f2 = -1 ↔ (gS L j).f1 = 0)
  orig : ∀ j, j < L.length → 0 ≤ (gS L j).f2 → (gS L (gS L j).f2.toNat).f1 + 1 = (gS L j).f1 ∧ x.heldS (x.frameS (gS L (gS L j).f2.toNat).f0 (gS L j).f3) = true ∧ x.nextS (x.frameS (gS L (gS L j).f2.toNat).f0 (gS L j).f3) = (gS L j).f0
  once : (L.map (fun s => s.f0)).Nodup
def CP.Leads1 (x : CP) (L : List S43) (a : Nat) (by_ : List Int) : Prop := x.heldS (x.frameS (gS L a).f0 by_) = true → ∃ j, j < L.length ∧ (gS L j).f0 = x.nextS (x.frameS (gS L a).f0 by_) ∧ (gS L j).f1 ≤ (gS L a).f1 + 1
theorem CP.Leads1.more {x : CP} {L M : List S43} {a : Nat} {by_ : List Int} (ha : a < L.length) (h : x.Leads1 L a by_) : x.Leads1 (L ++ M) a by_ := by
  unfold CP.Leads1 at *
  rw [gS_left ha]
  intro hh
  obtain ⟨j, hj, h1, h2⟩ := h hh
  exact ⟨j, by simp; omega, by rw [gS_left hj]; exact h1, by rw [gS_left hj]; exact h2⟩
theorem step_cases {x : CP} {L L' : List S43} {at_ : Nat} {by_ : List Int} (h : x.stepS L at_ by_ = some L') :
    (L' = L ∧ (x.heldS (x.frameS (gS L at_).f0 by_) = true → x.nextS (x.frameS (gS L at_).f0 by_) ∈ L.map (fun s => s.f0))) ∨
    (x.heldS (x.frameS (gS L at_).f0 by_) = true ∧ x.nextS (x.frameS (gS L at_).f0 by_) ∉ L.map (fun s => s.f0) ∧ L' = L ++ [⟨x.nextS (x.frameS (gS L at_).f0 by_), (gS L at_).f1 + 1, (at_ : Int), by_⟩]) := by
  unfold CP.stepS at h
  simp only at h
  split at h
  · rename_i hc
    injection h with h
    refine .inl ⟨h.symm, fun hh => ?_⟩
    have hg : L.getD at_ z43 = gS L at_ := rfl
    rw [hg, hh] at hc
    simp only [Bool.not_true, Bool.false_or] at hc
    exact List.contains_iff_mem.1 hc
  · rename_i hc
    split at h
    · cases h
    · injection h with h
      have hg : L.getD at_ z43 = gS L at_ := rfl
      rw [hg] at hc h
      refine .inr ⟨?_, ?_, h.symm⟩
      · cases hh : x.heldS (x.frameS (gS L at_).f0 by_)
        · rw [hh] at hc; simp at hc
        · rfl
      · intro hm
        rw [List.contains_iff_mem.2 hm] at hc
        simp at hc
theorem step_tree {x : CP} {L L' : List S43} {at_ : Nat} {by_ : List Int} (hat : at_ < L.length) (hg : x.Good L) (ht : x.Tree L at_) (h : x.stepS L at_ by_ = some L') : x.Tree L' at_ ∧ x.Leads1 L' at_ by_ ∧ ∃ M, L' = L ++ M := by
  rcases step_cases h with ⟨rfl, h1⟩ | ⟨h1, h2, rfl⟩
  · refine ⟨ht, fun hh => ?_, [], by simp⟩
    obtain ⟨s, hs, he⟩ := List.mem_map.1 (h1 hh)
    obtain ⟨j, hj, rfl⟩ := List.getElem_of_mem hs
    exact ⟨j, hj, by rw [gS_eq hj]; exact he, ht.top hat j hj⟩
  · have hpos : 0 ≤ (gS L at_).f1 := by rw [gS_eq hat]; exact (hg at_ hat).2.2.1
    refine ⟨⟨?_, ?_, ?_, ?_, ?_⟩, ?_, _, rfl⟩
    · intro i j hij hj
      by_cases e : j < L.length
      · rw [gS_left e, gS_left (by omega)]; exact ht.sorted i j hij e
      · have ej : j = L.length := by simp at hj; omega
        subst ej
        rw [gS_last]
        by_cases e2 : i < L.length
        · rw [gS_left e2]; exact ht.top hat i e2
        · have : i = L.length := by omega
          subst this
          rw [gS_last]; exact Int.le_refl _
    · intro _ j hj
      rw [gS_left hat]
      by_cases e : j < L.length
      · rw [gS_left e]; exact ht.top hat j e
      · have ej : j = L.length := by simp at hj; omega
        subst ej
        rw [gS_last]; exact Int.le_refl _
    · intro j hj
      by_cases e : j < L.length
      · rw [gS_left e]; exact ht.root j e
      · have ej : j = L.length := by simp at hj; omega
        subst ej
        rw [gS_last]
        constructor
        · intro h; simp at h; try omega
        · intro h; simp at h; omega
    · intro j hj h0
      by_cases e : j < L.length
      · rw [gS_left e] at h0 ⊢
        have hb : (gS L j).f2.toNat < L.length := by
          have := (hg j e).2.2.2.2.2.1
          rw [← gS_eq e] at this; omega
        rw [gS_left hb]
        exact ht.orig j e h0
      · have ej : j = L.length := by simp at hj; omega
        subst ej
        rw [gS_last]
        simp only [Int.toNat_natCast]
        rw [gS_left hat]
        exact ⟨rfl, h1, rfl⟩
    · rw [List.map_append, List.nodup_append]
      refine ⟨ht.once, by simp, fun a ha b hb => ?_⟩
      have : b = x.nextS (x.frameS (gS L at_).f0 by_) := by simpa using hb
      rw [this]
      rintro rfl
      exact h2 ha
    · intro hh
      rw [gS_left hat]
      exact ⟨L.length, by simp, by rw [gS_last], by rw [gS_last]; exact Int.le_refl _⟩
theorem inner_tree {x : CP} {at_ : Nat} {L : List S43} (hat : at_ < L.length) (hl : L.length ≤ 4096) (hg : x.Good L) (ht : x.Tree L at_) : ∀ n L', x.innerS at_ x.a0.toNat L n = some L' →
    x.Tree L' at_ ∧ (∀ m, m < n → x.Leads1 L' at_ (wayS m x.a0.toNat)) ∧ ∃ M, L' = L ++ M := by
  intro n
  induction n with
  | zero => intro L' h; injection h with h; subst h; exact ⟨ht, fun m hm => absurd hm (Nat.not_lt_zero m), [], by simp⟩
  | succ n ih =>
    intro L' h
    rw [show x.innerS at_ x.a0.toNat L (n + 1) = (x.innerS at_ x.a0.toNat L n).bind _ from rfl] at h
    obtain ⟨L1, h1, h2⟩ := Option.bind_eq_some_iff.1 h
    obtain ⟨t1, t2, M, rfl⟩ := ih L1 h1
    obtain ⟨g1, g2, g3⟩ := innerS_good rfl hat hl hg n _ h1
    have hat1 : at_ < (L ++ M).length := by simp; omega
    obtain ⟨s1, s2, N, rfl⟩ := step_tree hat1 g1 t1 h2
    refine ⟨s1, fun m hm => ?_, M ++ N, by simp⟩
    by_cases e : m = n
    · rw [e]; exact s2
    · exact (t2 m (by omega)).more hat1
theorem outer_tree {x : CP} : ∀ k at_ L L', L.length ≤ 4096 → x.Good L → x.Tree L at_ → (∀ a, a < at_ → a < L.length → ∀ m, m < 2 ^ x.a0.toNat → x.Leads1 L a (wayS m x.a0.toNat)) → x.outerS k at_ L = some L' →
    (∃ at', x.Tree L' at') ∧ (∀ a, a < L'.length → ∀ m, m < 2 ^ x.a0.toNat → x.Leads1 L' a (wayS m x.a0.toNat)) ∧ ∃ M, L' = L ++ M := by
  intro k
  induction k with
  | zero => intro at_ L L' _ _ _ _ h; cases h
  | succ k ih =>
    intro at_ L L' hl hg ht hc h
    unfold CP.outerS at h
    split at h
    · rename_i hlt
      obtain ⟨L1, h1, h2⟩ := Option.bind_eq_some_iff.1 h
      obtain ⟨g1, g2, g3⟩ := innerS_good rfl hlt hl hg _ _ h1
      obtain ⟨t1, t2, M, rfl⟩ := inner_tree hlt hl hg ht _ _ h1
      have hnext : x.Tree (L ++ M) (at_ + 1) := ⟨t1.sorted, fun h j hj => by
        have a := t1.top (by omega) j hj
        have b := t1.sorted at_ (at_ + 1) (by omega) h
        omega, t1.root, t1.orig, t1.once⟩
      obtain ⟨r1, r2, N, rfl⟩ := ih (at_ + 1) (L ++ M) L' g2 g1 hnext (fun a ha hal m hm => by
        by_cases e : a = at_
        · rw [e]; exact t2 m hm
        · exact (hc a (by omega) (by omega) m hm).more (by omega)) h2
      exact ⟨r1, r2, M ++ N, by simp⟩
    · rename_i hge
      injection h with h
      subst h
      exact ⟨⟨at_, ht⟩, fun a ha m hm => hc a (by omega) ha m hm, [], by simp⟩
theorem free_mono (l : List S61) : ∀ (i : Int) (j k : Nat) (h : j < k) (hk : k < (freeG l i).length), (freeG l i)[j]'(by omega) < (freeG l i)[k] := by
  induction l with
  | nil => intro i j k h hk; simp [freeG] at hk
  | cons s r ih =>
    intro i j k h hk
    by_cases e : s.f1 = 2
    · have he : freeG (s :: r) i = i :: freeG r (i + 1) := by rw [freeG, if_pos e]
      simp only [he] at hk ⊢
      cases k with
      | zero => omega
      | succ k =>
        cases j with
        | zero =>
          simp only [List.getElem_cons_zero, List.getElem_cons_succ]
          have := (freeG_range r (i + 1) _ (List.getElem_mem (show k < (freeG r (i + 1)).length by simpa using hk))).1
          omega
        | succ j =>
          simp only [List.getElem_cons_succ]
          exact ih (i + 1) j k (by omega) (by simpa using hk)
    · have he : freeG (s :: r) i = freeG r (i + 1) := by rw [freeG, if_neg e]
      simp only [he] at hk ⊢
      exact ih (i + 1) j k h hk
theorem firstK_get (x : CP) (b : List Int) : ∀ k j, k ≤ x.freeS.length → j < k → ∀ (hb : x.freeS.length ≤ b.length) (hj : j < x.freeS.length), (firstK x.freeS b x.resetS k).getD x.freeS[j].toNat 0 = b.getD j 0 := by
  intro k
  induction k with
  | zero => intro j _ h; omega
  | succ k ih =>
    intro j hk hj hb hjl
    have hkl : k < x.freeS.length := by omega
    rw [firstK_succ _ _ _ _ hkl (by omega)]
    obtain ⟨q0, q1⟩ := freeG_range x.l1 0 x.freeS[k] (List.getElem_mem hkl)
    have hlen : (firstK x.freeS b x.resetS k).length = x.l1.length := by rw [firstK_length]; simp [CP.resetS]
    by_cases e : j = k
    · subst e
      rw [List.getD_eq_getElem?_getD, List.getElem?_set_self (by rw [hlen]; omega)]
      simp [List.getD_eq_getElem?_getD, show j < b.length by omega]
    · have hne : x.freeS[k].toNat ≠ x.freeS[j].toNat := by
        intro h
        have h2 := free_mono x.l1 0 j k (by omega) hkl
        have r0 := (freeG_range x.l1 0 x.freeS[j] (List.getElem_mem hjl)).1
        have : x.freeS[j] < x.freeS[k] := h2
        omega
      rw [List.getD_eq_getElem?_getD, List.getElem?_set_ne hne, ← List.getD_eq_getElem?_getD]
      exact ih j (by omega) (by omega) hb hjl
end Go.Proofs.Ytdjhjgfjhicbfaa.PWalkTells
namespace Go.Proofs.Ytdjhjgfjhicbfaa.PWalkTells
open Go.RowKit Go.Shelf Go.Proofs.YtdjhjgfjhicbfaaW.PrintWords Go.Proofs.YtdjhjgfjhicbfaaW.PrintLast Go.Proofs.YtdjhjgfjhicbfaaW.PrintMore
set_option linter.unusedVariables false
set_option linter.unusedSimpArgs false
theorem wayS_get (n m i : Nat) (h : i < m) : (wayS n m).getD i 0 = ((n / 2 ^ i % 2 : Nat) : Int) := by simp [wayS, List.getD_eq_getElem?_getD, h]
theorem wayS_inj {n n' m : Nat} (hn : n < 2 ^ m) (hn' : n' < 2 ^ m) (h : ∀ i, i < m → (wayS n m).getD i 0 = (wayS n' m).getD i 0) : n = n' := by
  refine Nat.eq_of_testBit_eq fun i => ?_
  by_cases hi : i < m
  · have := h i hi
    rw [wayS_get n m i hi, wayS_get n' m i hi] at this
    rw [Nat.testBit_eq_decide_div_mod_eq, Nat.testBit_eq_decide_div_mod_eq]
    have e : n / 2 ^ i % 2 = n' / 2 ^ i % 2 := by omega
    rw [e]
  · have hp : 2 ^ m ≤ 2 ^ i := Nat.pow_le_pow_right (by decide) (by omega)
    rw [Nat.testBit_lt_two_pow (by omega), Nat.testBit_lt_two_pow (by omega)]
theorem firstS_inj (x : CP) {n n' : Nat} (hn : n < 2 ^ x.freeS.length) (hn' : n' < 2 ^ x.freeS.length) (h : (x.firstS n).f0 = (x.firstS n').f0) : n = n' := by
  refine wayS_inj hn hn' fun i hi => ?_
  have e1 := firstK_get x (wayS n x.freeS.length) x.freeS.length i (Nat.le_refl _) hi (by rw [wayS_length]; exact Nat.le_refl _) hi
  have e2 := firstK_get x (wayS n' x.freeS.length) x.freeS.length i (Nat.le_refl _) hi (by rw [wayS_length]; exact Nat.le_refl _) hi
  rw [← e1, ← e2]
  have h' : firstK x.freeS (wayS n x.freeS.length) x.resetS x.freeS.length = firstK x.freeS (wayS n' x.freeS.length) x.resetS x.freeS.length := h
  rw [h']
theorem gS_first (x : CP) {j : Nat} (h : j < x.firstsS.length) : gS x.firstsS j = x.firstS j := by
  rw [gS_eq h]; simp [CP.firstsS]
theorem first_tree (x : CP) : x.Tree x.firstsS 0 := by
  refine ⟨?_, ?_, ?_, ?_, ?_⟩
  · intro i j hij hj
    rw [gS_first x hj, gS_first x (by omega)]; exact Int.le_refl _
  · intro h j hj
    rw [gS_first x hj, gS_first x h]; show (0 : Int) ≤ 0 + 1; omega
  · intro j hj
    rw [gS_first x hj]
    exact ⟨fun _ => rfl, fun _ => rfl⟩
  · intro j hj h
    rw [gS_first x hj] at h
    have : (x.firstS j).f2 = -1 := rfl
    omega
  · unfold CP.firstsS
    rw [List.map_map]
    refine List.pairwise_map.2 (List.Pairwise.imp_of_mem (R := fun a b => a < b) (fun ha hb hab he => ?_) List.pairwise_lt_range)
    have := firstS_inj x (List.mem_range.1 ha) (List.mem_range.1 hb) he
    omega
theorem pigeon : ∀ (N : Nat) (l : List Nat), l.Nodup → (∀ v ∈ l, v < N) → l.length ≤ N := by
  intro N
  induction N with
  | zero =>
    intro l _ h
    cases l with
    | nil => simp
    | cons a l => have := h a List.mem_cons_self; omega
  | succ N ih =>
    intro l hn h
    by_cases hm : N ∈ l
    · have h1 := ih (l.erase N) (hn.erase N) (fun v hv => by
        have h2 := (hn.mem_erase_iff).1 hv
        have := h v h2.2
        have := h2.1
        omega)
      rw [List.length_erase_of_mem hm] at h1
      omega
    · have := ih l hn (fun v hv => by
        have := h v hv
        have : v ≠ N := fun e => hm (e ▸ hv)
        omega)
      omega
def code3 : List Int → Nat
  | [] => 0
  | v :: l => v.toNat + 3 * code3 l
theorem code3_lt (l : List Int) (h : ∀ v ∈ l, 0 ≤ v ∧ v ≤ 2) : code3 l < 3 ^ l.length := by
  induction l with
  | nil => simp [code3]
  | cons v l ih =>
    have := ih (fun u hu => h u (List.mem_cons_of_mem _ hu))
    have := h v List.mem_cons_self
    simp only [code3, List.length_cons, Nat.pow_succ]
    omega
theorem code3_inj : ∀ (l l' : List Int), l.length = l'.length → (∀ v ∈ l, 0 ≤ v ∧ v ≤ 2) → (∀ v ∈ l', 0 ≤ v ∧ v ≤ 2) → code3 l = code3 l' → l = l' := by
  intro l
  induction l with
  | nil => intro l' h _ _ _; exact (List.length_eq_zero_iff.1 h.symm).symm
  | cons v l ih =>
    intro l' h h1 h2 he
    cases l' with
    | nil => simp at h
    | cons u l' =>
      have a := h1 v List.mem_cons_self
      have b := h2 u List.mem_cons_self
      simp only [code3] at he
      have e1 : v.toNat = u.toNat := by omega
      have e2 : code3 l = code3 l' := by omega
      have e3 : v = u := by omega
      rw [e3, ih l' (by simpa using h) (fun w hw => h1 w (List.mem_cons_of_mem _ hw)) (fun w hw => h2 w (List.mem_cons_of_mem _ hw)) e2]
theorem tree_short {x : CP} {L : List S43} {at_ : Nat} (hg : x.Good L) (ht : x.Tree L at_) (h7 : x.l1.length ≤ 7) : L.length ≤ 2187 := by
  have hmem : ∀ s ∈ L, s.f0.length = x.l1.length ∧ ∀ v ∈ s.f0, 0 ≤ v ∧ v ≤ 2 := by
    intro s hs
    obtain ⟨j, hj, rfl⟩ := List.getElem_of_mem hs
    exact ⟨(hg j hj).1, (hg j hj).2.1⟩
  have hn : ((L.map (fun s => s.f0)).map code3).Nodup := by
    refine List.pairwise_map.2 (List.Pairwise.imp_of_mem (R := fun a b => a ≠ b) (fun ha hb hab he => ?_) ht.once)
    obtain ⟨s, hs, rfl⟩ := List.mem_map.1 ha
    obtain ⟨s', hs', rfl⟩ := List.mem_map.1 hb
    exact hab (code3_inj _ _ ((hmem s hs).1.trans (hmem s' hs').1.symm) (hmem s hs).2 (hmem s' hs').2 he)
  have := pigeon 2187 _ hn (fun v hv => by
    obtain ⟨l, hl, rfl⟩ := List.mem_map.1 hv
    obtain ⟨s, hs, rfl⟩ := List.mem_map.1 hl
    have h1 := code3_lt _ (hmem s hs).2
    rw [(hmem s hs).1] at h1
    have h2 : 3 ^ x.l1.length ≤ 3 ^ 7 := Nat.pow_le_pow_right (by decide) h7
    have h3 : (3 : Nat) ^ 7 = 2187 := by decide
    omega)
  simpa using this
theorem inner_some {x : CP} {at_ : Nat} {L : List S43} (h7 : x.l1.length ≤ 7) (hat : at_ < L.length) (hl : L.length ≤ 4096) (hg : x.Good L) (ht : x.Tree L at_) : ∀ n, ∃ L', x.innerS at_ x.a0.toNat L n = some L' := by
  intro n
  induction n with
  | zero => exact ⟨L, rfl⟩
  | succ n ih =>
    obtain ⟨L1, h1⟩ := ih
    obtain ⟨t1, _⟩ := inner_tree hat hl hg ht n L1 h1
    obtain ⟨g1, g2, g3⟩ := innerS_good rfl hat hl hg n L1 h1
    have hs := tree_short g1 t1 h7
    rw [show x.innerS at_ x.a0.toNat L (n + 1) = (x.innerS at_ x.a0.toNat L n).bind _ from rfl, h1]
    simp only [Option.bind_some]
    unfold CP.stepS
    simp only
    split
    · exact ⟨_, rfl⟩
    · rw [if_neg (by omega)]
      exact ⟨_, rfl⟩
theorem outer_some {x : CP} (h7 : x.l1.length ≤ 7) : ∀ k at_ L, L.length ≤ 4096 → x.Good L → x.Tree L at_ → 2188 ≤ k + at_ → ∃ L', x.outerS k at_ L = some L' ∨ (k = 0 ∧ L.length ≤ at_) := by
  intro k
  induction k with
  | zero =>
    intro at_ L hl hg ht h
    exact ⟨L, .inr ⟨rfl, by have := tree_short hg ht h7; omega⟩⟩
  | succ k ih =>
    intro at_ L hl hg ht h
    by_cases hlt : at_ < L.length
    · obtain ⟨L1, h1⟩ := inner_some h7 hlt hl hg ht (2 ^ x.a0.toNat)
      obtain ⟨t1, _⟩ := inner_tree hlt hl hg ht _ L1 h1
      obtain ⟨g1, g2, g3⟩ := innerS_good rfl hlt hl hg _ L1 h1
      have hnext : x.Tree L1 (at_ + 1) := ⟨t1.sorted, fun h j hj => by
        have a := t1.top (by omega) j hj
        have b := t1.sorted at_ (at_ + 1) (by omega) h
        omega, t1.root, t1.orig, t1.once⟩
      obtain ⟨L', h2⟩ := ih (at_ + 1) L1 g2 g1 hnext (by omega)
      unfold CP.outerS
      rw [if_pos hlt, h1]
      simp only [Option.bind_some]
      rcases h2 with h2 | ⟨h2, h3⟩
      · exact ⟨L', .inl h2⟩
      · have := tree_short g1 t1 h7
        omega
    · unfold CP.outerS
      rw [if_neg hlt]
      exact ⟨L, .inl rfl⟩
theorem freeS_le (x : CP) : x.freeS.length ≤ x.l1.length := freeG_length x.l1 0
theorem walkS_some {x : CP} (fit : x.Fit) (hmay : x.may = true) (h7 : x.l1.length ≤ 7) : ∃ L, x.walkS = some L := by
  have hf := freeS_le x
  have hl := firstsS_length x (by omega)
  obtain ⟨L, h | ⟨h, _⟩⟩ := outer_some h7 4097 0 x.firstsS (by omega) (firstsS_good fit hmay) (first_tree x) (by omega)
  · exact ⟨L, h⟩
  · omega
end Go.Proofs.Ytdjhjgfjhicbfaa.PWalkTells
namespace Go.Proofs.Ytdjhjgfjhicbfaa.PWalkTells
open Go.RowKit Go.Shelf Go.Proofs.YtdjhjgfjhicbfaaW.PrintWords Go.Proofs.YtdjhjgfjhicbfaaW.PrintLast Go.Proofs.YtdjhjgfjhicbfaaW.PrintMore
set_option linter.unusedVariables false
set_option linter.unusedSimpArgs false
theorem half {v : Int} (h0 : 0 ≤ v) (h1 : v ≤ 4294967295) : Int.tdiv v 2 % 4294967296 = v / 2 := by
  rw [Int.tdiv_eq_ediv_of_nonneg h0]; omega
theorem odd {v : Int} (h0 : 0 ≤ v) : Int.tmod v 2 = v % 2 := Int.tmod_eq_emod_of_nonneg h0
theorem rd_get {l : List Int} {i : Nat} (h : i < l.length) : rd l (i : Int) = l[i] := by simp [rd, List.getD_eq_getElem?_getD, h]
theorem w64 {n : Int} (h0 : -9223372036854775808 ≤ n) (h1 : n ≤ 9223372036854775807) : wrap64 n = n := by unfold wrap64; omega
theorem lits_run (x : CP) (l : List Int) (hv : ∀ v ∈ l, 0 ≤ v ∧ v ≤ 4294967295) (hn : l.length ≤ 70368744177664) : ∀ (d k i : Nat), i + d = l.length → d < k → inquestref03_lits.l0 k l x.vars (i : Int) = some (!(decide (1024 < (l.length : Int)) || (l.drop i).any x.far)) := by
  intro d
  induction d with
  | zero =>
    intro k i hi hk
    obtain ⟨k, rfl⟩ : ∃ k', k = k' + 1 := ⟨k - 1, by omega⟩
    rw [List.drop_eq_nil_of_le (by omega)]
    simp only [inquestref03_lits.l0]
    rw [if_neg (by omega)]
    have e : decide ((l.length : Int) ≤ 1024) = !decide (1024 < (l.length : Int)) := by
      by_cases h : (l.length : Int) ≤ 1024
      · rw [decide_eq_true h, decide_eq_false (by omega)]; rfl
      · rw [decide_eq_false h, decide_eq_true (by omega)]; rfl
    rw [e]
    simp
  | succ d ih =>
    intro k i hi hk
    obtain ⟨k, rfl⟩ : ∃ k', k = k' + 1 := ⟨k - 1, by omega⟩
    have hlt : i < l.length := by omega
    obtain ⟨b0, b1⟩ := hv l[i] (List.getElem_mem hlt)
    have hw : wrap64 ((i : Int) + 1) = ((i + 1 : Nat) : Int) := by unfold wrap64; omega
    rw [List.drop_eq_getElem_cons hlt, inquestref03_lits.l0, if_pos (by omega), if_pos (by omega), rd_get hlt, half b0 b1, hw, List.any_cons]
    by_cases h2 : x.vars < l[i] / 2
    · rw [if_pos h2]
      have : x.far l[i] = true := by unfold CP.far; exact decide_eq_true h2
      rw [this]; simp
    · rw [if_neg h2, ih k (i + 1) (by omega) (by omega)]
      have : x.far l[i] = false := by unfold CP.far; exact decide_eq_false h2
      rw [this]; simp
theorem lits_ref (x : CP) (l : List Int) (hv : ∀ v ∈ l, 0 ≤ v ∧ v ≤ 4294967295) (hn : l.length ≤ 70368744177664) (k : Nat) (hk : l.length < k) : inquestref03_lits.f k l x.vars = some (!x.lits l) := by
  unfold inquestref03_lits.f
  have := lits_run x l hv hn l.length k 0 (by omega) hk
  simpa [CP.lits] using this
theorem gates_run (x : CP) (fit : x.Fit) (h0 : 0 ≤ x.a0) (h1 : x.a0 ≤ 16384) (hv : x.vars ≤ 16384) (hlit : ∀ k, x.l3.length + x.l4.length + x.l5.length < k →
    ((inquestref03_lits.f k x.l3 x.vars).bind fun t156 => (if t156 = true then ((inquestref03_lits.f k x.l4 x.vars).bind fun t157 => (if t157 = true then ((inquestref03_lits.f k x.l5 x.vars).bind fun t158 => (some t158)) else (some false))) else (some false))) = some (!(x.lits x.l3 || x.lits x.l4 || x.lits x.l5))) :
    ∀ (d k i : Nat), i + d = x.l2.length → d + (x.l3.length + x.l4.length + x.l5.length) + 1 < k → inquestref03_May.l1 k x.vars (i : Int) x.a0 x.l1 x.l2 x.l3 x.l4 x.l5 = some (!gatesBad (x.a0 + (x.l1.length : Int) + (i : Int)) (x.l2.drop i) && !(x.lits x.l3 || x.lits x.l4 || x.lits x.l5)) := by
  have hn2 := fit.n2
  have hvv : x.vars = x.a0 + (x.l1.length : Int) + (x.l2.length : Int) := rfl
  intro d
  induction d with
  | zero =>
    intro k i hi hk
    obtain ⟨k, rfl⟩ : ∃ k', k = k' + 1 := ⟨k - 1, by omega⟩
    rw [List.drop_eq_nil_of_le (by omega)]
    simp only [inquestref03_May.l1]
    rw [if_neg (by omega), hlit k (by omega)]
    simp [gatesBad]
  | succ d ih =>
    intro k i hi hk
    obtain ⟨k, rfl⟩ : ∃ k', k = k' + 1 := ⟨k - 1, by omega⟩
    have hlt : i < x.l2.length := by omega
    obtain ⟨b0, b1, b2, b3⟩ := fit.g2 x.l2[i] (List.getElem_mem hlt)
    have hrd : rd_T68 x.l2 (i : Int) = x.l2[i] := by simp [rd_T68, List.getD_eq_getElem?_getD, hlt]
    have c1 : (i : Int) < (x.l2.length : Int) := by omega
    have c2 : 0 ≤ (i : Int) := by omega
    have e : x.a0 + (x.l1.length : Int) + ((i + 1 : Nat) : Int) = x.a0 + (x.l1.length : Int) + (i : Int) + 1 := by omega
    have hih := ih k (i + 1) (by omega) (by omega)
    rw [e] at hih
    have w1 : wrap64 (x.a0 + (x.l1.length : Int)) = x.a0 + (x.l1.length : Int) := w64 (by omega) (by omega)
    have w2 := Aside0.mk (w64 (n := x.a0 + (x.l1.length : Int) + 1) (by omega) (by omega))
    have w3 := Aside0.mk (w64 (n := x.a0 + (x.l1.length : Int) + (i : Int) + 1) (by omega) (by omega))
    have e4 : x.a0 + (x.l1.length : Int) + 1 + (i : Int) = x.a0 + (x.l1.length : Int) + (i : Int) + 1 := by omega
    have e5 : (i : Int) + 1 = ((i + 1 : Nat) : Int) := by omega
    have w4 : wrap64 ((i : Int) + 1) = ((i + 1 : Nat) : Int) := (w64 (by omega) (by omega)).trans e5
    rw [List.drop_eq_getElem_cons hlt, inquestref03_May.l1, if_pos c1, if_pos c2, hrd]
    simp only [half b0 b1, w1, w2.out, w4, e4, w3.out]
    generalize x.a0 + (x.l1.length : Int) + (i : Int) = o at hih ⊢
    generalize x.l2[i] = g
    rw [gatesBad]
    by_cases g1 : g.f0 / 2 ≥ o + 1
    · rw [if_pos g1, decide_eq_true g1]; simp
    · rw [if_neg g1]
      by_cases g2 : g.f0 < g.f1
      · rw [if_pos g2, decide_eq_true g2]; simp
      · rw [if_neg g2, hih, decide_eq_false g2, decide_eq_false (show ¬ o + 1 ≤ g.f0 / 2 from g1)]
        simp
theorem lats_run (x : CP) (fit : x.Fit) (h0 : 0 ≤ x.a0) (h1 : x.a0 ≤ 16384) (hv : x.vars ≤ 16384) (R : Bool) (B : Nat) (hnext : ∀ k, B < k → inquestref03_May.l1 k x.vars 0 x.a0 x.l1 x.l2 x.l3 x.l4 x.l5 = some R) :
    ∀ (d k i : Nat), i + d = x.l1.length → d + B + 1 < k → inquestref03_May.l0 k x.vars (i : Int) x.a0 x.l1 x.l2 x.l3 x.l4 x.l5 = some (!x.lats (x.l1.drop i) && R) := by
  have hn1 := fit.n1
  intro d
  induction d with
  | zero =>
    intro k i hi hk
    obtain ⟨k, rfl⟩ : ∃ k', k = k' + 1 := ⟨k - 1, by omega⟩
    rw [List.drop_eq_nil_of_le (by omega)]
    simp only [inquestref03_May.l0]
    rw [if_neg (by omega), hnext k (by omega)]
    simp [CP.lats]
  | succ d ih =>
    intro k i hi hk
    obtain ⟨k, rfl⟩ : ∃ k', k = k' + 1 := ⟨k - 1, by omega⟩
    have hlt : i < x.l1.length := by omega
    obtain ⟨b0, b1, b2, b3⟩ := fit.g1 x.l1[i] (List.getElem_mem hlt)
    have hrd : rd_T61 x.l1 (i : Int) = x.l1[i] := by simp [rd_T61, List.getD_eq_getElem?_getD, hlt]
    have c1 : (i : Int) < (x.l1.length : Int) := by omega
    have c2 : 0 ≤ (i : Int) := by omega
    have hih := ih k (i + 1) (by omega) (by omega)
    have e5 : (i : Int) + 1 = ((i + 1 : Nat) : Int) := by omega
    have w4 : wrap64 ((i : Int) + 1) = ((i + 1 : Nat) : Int) := (w64 (by omega) (by omega)).trans e5
    rw [List.drop_eq_getElem_cons hlt, inquestref03_May.l0, if_pos c1, if_pos c2, hrd]
    simp only [half b0 b1, w4]
    have hl : x.lats (x.l1[i] :: x.l1.drop (i + 1)) = ((decide (2 < x.l1[i].f1) || x.far x.l1[i].f0) || x.lats (x.l1.drop (i + 1))) := rfl
    rw [hl]
    generalize x.l1[i] = g
    by_cases g1 : g.f0 / 2 > x.vars
    · have : x.far g.f0 = true := decide_eq_true g1
      rw [if_pos g1, this]; simp
    · have : x.far g.f0 = false := decide_eq_false g1
      rw [if_neg g1, this]
      by_cases g2 : g.f1 > 2
      · rw [if_pos g2, decide_eq_true g2]; simp
      · rw [if_neg g2, hih, decide_eq_false g2]; simp
theorem lits_all (x : CP) (fit : x.Fit) : ∀ k, x.l3.length + x.l4.length + x.l5.length < k →
    ((inquestref03_lits.f k x.l3 x.vars).bind fun t156 => (if t156 = true then ((inquestref03_lits.f k x.l4 x.vars).bind fun t157 => (if t157 = true then ((inquestref03_lits.f k x.l5 x.vars).bind fun t158 => (some t158)) else (some false))) else (some false))) = some (!(x.lits x.l3 || x.lits x.l4 || x.lits x.l5)) := by
  intro k hk
  have := fit.n3
  have := fit.n4
  have := fit.n5
  rw [lits_ref x x.l3 fit.g3 (by omega) k (by omega), lits_ref x x.l4 fit.g4 (by omega) k (by omega), lits_ref x x.l5 fit.g5 (by omega) k (by omega)]
  cases x.lits x.l3 <;> cases x.lits x.l4 <;> cases x.lits x.l5 <;> rfl
def CP.mayK (x : CP) : Nat := x.l1.length + x.l2.length + x.l3.length + x.l4.length + x.l5.length + 8
theorem may_ref (x : CP) (fit : x.Fit) (k : Nat) (hk : x.mayK ≤ k) : inquestref03_May.f k x.a0 x.l1 x.l2 x.l3 x.l4 x.l5 = some x.may := by
  unfold CP.mayK at hk
  obtain ⟨k, rfl⟩ : ∃ k', k = k' + 1 := ⟨k - 1, by omega⟩
  have hn1 := fit.n1
  have hn2 := fit.n2
  have hvv : x.vars = x.a0 + (x.l1.length : Int) + (x.l2.length : Int) := rfl
  unfold inquestref03_May.f CP.may
  by_cases c1 : x.a0 < 0
  · rw [if_pos c1, if_pos (.inl c1)]; rfl
  · rw [if_neg c1]
    by_cases c2 : x.a0 > 16384
    · rw [if_pos c2, if_pos (.inr (.inl c2))]; rfl
    · rw [if_neg c2]
      by_cases c3 : (x.l1.length : Int) > 16384
      · rw [if_pos c3, if_pos (.inr (.inr (by omega)))]; rfl
      · rw [if_neg c3]
        by_cases c4 : (x.l2.length : Int) > 16384
        · rw [decide_eq_true c4, if_pos (.inr (.inr (by omega)))]; rfl
        · rw [decide_eq_false c4]
          have w1 := w64 (n := x.a0 + (x.l1.length : Int)) (by omega) (by omega)
          have w2 := Aside0.mk (w64 (n := x.a0 + (x.l1.length : Int) + (x.l2.length : Int)) (by omega) (by omega))
          simp only [inquestref03_May.j0, w1, w2.out]
          rw [if_neg (by simp), ← hvv]
          by_cases c5 : x.vars > 16384
          · rw [if_pos c5, if_pos (.inr (.inr c5))]
          · rw [if_neg c5, if_neg (by omega)]
            have hg := fun k' (hk' : x.l2.length + (x.l3.length + x.l4.length + x.l5.length) + 1 < k') => gates_run x fit (by omega) (by omega) (by omega) (lits_all x fit) x.l2.length k' 0 (by omega) hk'
            have hl := lats_run x fit (by omega) (by omega) (by omega) _ _ hg x.l1.length k 0 (by omega) (by omega)
            rw [show ((0 : Nat) : Int) = 0 from rfl] at hl
            rw [hl]
            simp only [List.drop_zero, Int.add_zero]
            cases x.lats x.l1 <;> cases x.lits x.l3 <;> cases x.lits x.l4 <;> cases x.lits x.l5 <;> simp
theorem value_ref (l : List Int) (lit : Int) (h0 : 0 ≤ lit) (h1 : lit ≤ 4294967295) (hb : Bytes l) (k : Nat) (hk : 1 ≤ k) : inquestref07_Value.f k l lit = some (valS l lit) := by
  obtain ⟨k, rfl⟩ : ∃ k', k = k' + 1 := ⟨k - 1, by omega⟩
  unfold inquestref07_Value.f valS
  rw [half h0 h1]
  by_cases c1 : lit / 2 ≥ (l.length : Int)
  · rw [if_pos c1, if_pos c1]; simp [inquestref07_Value.j0]
  · have c1' : ¬ (l.length : Int) ≤ lit / 2 := c1
    rw [if_neg c1, if_neg c1', if_pos (by omega), if_pos (by omega)]
    simp only [inquestref07_Value.j0, half h0 h1, odd h0]
    by_cases c2 : rd l (lit / 2) > 2
    · rw [decide_eq_true c2, if_pos rfl, if_pos c2]
    · have c2' : ¬ 2 < rd l (lit / 2) := c2
      have hr : 0 ≤ rd l (lit / 2) := by
        unfold rd
        rw [List.getD_eq_getElem?_getD]
        by_cases h : (lit / 2).toNat < l.length
        · rw [List.getElem?_eq_getElem h]; exact (hb _ (List.getElem_mem h)).1
        · rw [List.getElem?_eq_none (by omega)]; simp
      rw [decide_eq_false c2, if_neg (by simp), if_neg c2']
      by_cases c3 : lit % 2 = 1
      · rw [if_pos c3, if_pos c3, if_pos (by omega), if_pos (by omega)]
        generalize rd l (lit / 2) = v at hr c2'
        obtain rfl | rfl | rfl : v = 0 ∨ v = 1 ∨ v = 2 := by omega
        all_goals rfl
      · rw [if_neg c3, if_neg c3, if_pos (by omega), if_pos (by omega)]
theorem and1_ref (a b : Int) (k : Nat) (hk : 1 ≤ k) : inquestref06_And1.f k a b = some (and1 a b) := by
  obtain ⟨k, rfl⟩ : ∃ k', k = k' + 1 := ⟨k - 1, by omega⟩
  unfold inquestref06_And1.f and1
  by_cases c1 : a = 0
  · rw [if_pos c1, if_pos (.inl c1)]; rfl
  · rw [if_neg c1]
    by_cases c2 : b = 0
    · rw [if_pos (.inr c2), c2]; rfl
    · rw [if_neg (by simp [c1, c2])]
      have : (b == 0) = false := beq_eq_false_iff_ne.2 c2
      rw [this]
      simp only [inquestref06_And1.j0]
      rw [if_neg (by simp)]
      by_cases c3 : a = 1
      · by_cases c4 : b = 1
        · rw [if_pos c3, if_pos c4, if_pos ⟨c3, c4⟩]
        · rw [if_pos c3, if_neg c4, if_neg (fun h => c4 h.2)]
      · rw [if_neg c3, if_neg (fun h => c3 h.1)]
theorem fine_run (l : List Int) (n : Int) (hn : l.length ≤ 70368744177664) : ∀ (d k i : Nat), i + d = l.length → d < k → inquestref07_fine.l0 k l n (i : Int) = some (((l.length : Int) == n) && !(l.drop i).any (fun v => decide (2 < v))) := by
  intro d
  induction d with
  | zero =>
    intro k i hi hk
    obtain ⟨k, rfl⟩ : ∃ k', k = k' + 1 := ⟨k - 1, by omega⟩
    rw [List.drop_eq_nil_of_le (by omega)]
    simp only [inquestref07_fine.l0]
    rw [if_neg (by omega)]
    simp
  | succ d ih =>
    intro k i hi hk
    obtain ⟨k, rfl⟩ : ∃ k', k = k' + 1 := ⟨k - 1, by omega⟩
    have hlt : i < l.length := by omega
    have c1 : (i : Int) < (l.length : Int) := by omega
    have c2 : 0 ≤ (i : Int) := by omega
    have hih := ih k (i + 1) (by omega) (by omega)
    have e5 : (i : Int) + 1 = ((i + 1 : Nat) : Int) := by omega
    have w4 : wrap64 ((i : Int) + 1) = ((i + 1 : Nat) : Int) := (w64 (by omega) (by omega)).trans e5
    rw [List.drop_eq_getElem_cons hlt, inquestref07_fine.l0, if_pos c1, if_pos c2, rd_get hlt, w4, List.any_cons]
    by_cases g1 : l[i] > 2
    · rw [if_pos g1, decide_eq_true g1]; simp
    · rw [if_neg g1, hih, decide_eq_false g1]; simp
theorem fine_ref (l : List Int) (n : Int) (hn : l.length ≤ 70368744177664) (k : Nat) (hk : l.length < k) : inquestref07_fine.f k l n = some (valuesS l n) := by
  unfold inquestref07_fine.f valuesS
  have := fine_run l n hn l.length k 0 (by omega) hk
  simpa using this
theorem next_run (x : CP) (fit : x.Fit) (V : List Int) (hb : Bytes V) : ∀ (d k i : Nat) (acc : List Int), i + d = x.l1.length → d + 1 < k → acc.length = i → inquestref07_Frame.l1 k V acc (i : Int) x.a0 x.l1 x.l2 x.l3 x.l4 x.l5 = some (V, acc ++ (x.l1.drop i).map (fun s => valS V s.f0), 0) := by
  have hn1 := fit.n1
  intro d
  induction d with
  | zero =>
    intro k i acc hi hk ha
    obtain ⟨k, rfl⟩ : ∃ k', k = k' + 1 := ⟨k - 1, by omega⟩
    rw [List.drop_eq_nil_of_le (by omega)]
    simp only [inquestref07_Frame.l1]
    rw [if_neg (by omega)]
    simp
  | succ d ih =>
    intro k i acc hi hk ha
    obtain ⟨k, rfl⟩ : ∃ k', k = k' + 1 := ⟨k - 1, by omega⟩
    have hlt : i < x.l1.length := by omega
    obtain ⟨b0, b1, b2, b3⟩ := fit.g1 x.l1[i] (List.getElem_mem hlt)
    have hrd : rd_T61 x.l1 (i : Int) = x.l1[i] := by simp [rd_T61, List.getD_eq_getElem?_getD, hlt]
    have c1 : (i : Int) < (x.l1.length : Int) := by omega
    have c2 : 0 ≤ (i : Int) := by omega
    have c3 : acc.length < 140737488355328 := by omega
    have hih := ih k (i + 1) (acc ++ [valS V x.l1[i].f0]) (by omega) (by omega) (by simp [ha])
    have e5 : (i : Int) + 1 = ((i + 1 : Nat) : Int) := by omega
    have w4 : wrap64 ((i : Int) + 1) = ((i + 1 : Nat) : Int) := (w64 (by omega) (by omega)).trans e5
    rw [List.drop_eq_getElem_cons hlt, inquestref07_Frame.l1, if_pos c1, if_pos c2, hrd, value_ref V _ b0 b1 hb k (by omega)]
    simp only [Option.bind_some, w4]
    rw [if_pos c3, hih, List.append_assoc, List.map_cons]
    rfl
theorem frame_run (x : CP) (fit : x.Fit) : ∀ (d k i : Nat) (V : List Int), i + d = x.l2.length → d + x.l1.length + 2 < k → Bytes V → V.length + d < 140737488355328 →
    inquestref07_Frame.l0 k V (i : Int) x.a0 x.l1 x.l2 x.l3 x.l4 x.l5 = some (frameG (x.l2.drop i) V, x.nextS (frameG (x.l2.drop i) V), 0) := by
  have hn2 := fit.n2
  intro d
  induction d with
  | zero =>
    intro k i V hi hk hb hV
    obtain ⟨k, rfl⟩ : ∃ k', k = k' + 1 := ⟨k - 1, by omega⟩
    rw [List.drop_eq_nil_of_le (by omega)]
    simp only [inquestref07_Frame.l0]
    rw [if_neg (by omega)]
    have := next_run x fit V hb x.l1.length k 0 [] (by omega) (by omega) rfl
    simpa [frameG, CP.nextS] using this
  | succ d ih =>
    intro k i V hi hk hb hV
    obtain ⟨k, rfl⟩ : ∃ k', k = k' + 1 := ⟨k - 1, by omega⟩
    have hlt : i < x.l2.length := by omega
    obtain ⟨b0, b1, b2, b3⟩ := fit.g2 x.l2[i] (List.getElem_mem hlt)
    have hrd : rd_T68 x.l2 (i : Int) = x.l2[i] := by simp [rd_T68, List.getD_eq_getElem?_getD, hlt]
    have c1 : (i : Int) < (x.l2.length : Int) := by omega
    have c2 : 0 ≤ (i : Int) := by omega
    have c3 : V.length < 140737488355328 := by omega
    have hr := and1_range (valS V x.l2[i].f0) (valS V x.l2[i].f1)
    have hbs : Bytes [and1 (valS V x.l2[i].f0) (valS V x.l2[i].f1)] := fun v hv => by
      have h : v = and1 (valS V x.l2[i].f0) (valS V x.l2[i].f1) := by simpa using hv
      rw [h]; exact hr
    have hih := ih k (i + 1) (V ++ [and1 (valS V x.l2[i].f0) (valS V x.l2[i].f1)]) (by omega) (by omega) (bytes_append hb hbs) (by simp; omega)
    have e5 : (i : Int) + 1 = ((i + 1 : Nat) : Int) := by omega
    have w4 : wrap64 ((i : Int) + 1) = ((i + 1 : Nat) : Int) := (w64 (by omega) (by omega)).trans e5
    rw [List.drop_eq_getElem_cons hlt, inquestref07_Frame.l0, if_pos c1, if_pos c2, hrd, value_ref V _ b0 b1 hb k (by omega)]
    simp only [Option.bind_some]
    rw [value_ref V _ b2 b3 hb k (by omega)]
    simp only [Option.bind_some]
    rw [and1_ref _ _ k (by omega)]
    simp only [Option.bind_some, w4]
    rw [if_pos c3, hih]
    rfl
theorem frame_ref (x : CP) (fit : x.Fit) (st inp : List Int) (hmay : x.may = true) (h1 : valuesS st (x.l1.length : Int) = true) (h2 : valuesS inp x.a0 = true) (hb1 : Bytes st) (hb2 : Bytes inp) (hn1 : st.length ≤ 17592186044416) (hn2 : inp.length ≤ 17592186044416) (k : Nat) (hk : x.mayK + st.length + inp.length + 4 ≤ k) :
    inquestref07_Frame.f k x.a0 x.l1 x.l2 x.l3 x.l4 x.l5 st inp = some (x.frameS st inp, x.nextS (x.frameS st inp), 0) := by
  obtain ⟨k, rfl⟩ : ∃ k', k = k' + 1 := ⟨k - 1, by omega⟩
  have hmk : x.mayK = x.l1.length + x.l2.length + x.l3.length + x.l4.length + x.l5.length + 8 := rfl
  have hg2 := fit.n2
  unfold inquestref07_Frame.f
  rw [may_ref x fit _ (by omega), hmay]
  simp only [Option.bind_some, if_true]
  rw [fine_ref st _ (by omega) _ (by omega), h1]
  simp only [Option.bind_some, if_true]
  rw [fine_ref inp _ (by omega) _ (by omega), h2]
  simp only [Option.bind_some, inquestref07_Frame.j0]
  rw [if_neg (by simp), if_pos (by simp; omega), if_pos (by simp; omega)]
  have := frame_run x fit x.l2.length k 0 (0 :: (inp ++ st)) (by omega) (by omega) (bytes_cons (by omega) (bytes_append hb2 hb1)) (by simp; omega)
  simpa [CP.frameS] using this
theorem held_run (x : CP) (fit : x.Fit) (V : List Int) (hb : Bytes V) : ∀ (d k i : Nat), i + d = x.l5.length → d + 1 < k → inquestref27_Held.l0 k V (i : Int) x.a0 x.l1 x.l2 x.l3 x.l4 x.l5 = some (!(x.l5.drop i).any (fun k => valS V k != 1)) := by
  have hn := fit.n5
  intro d
  induction d with
  | zero =>
    intro k i hi hk
    obtain ⟨k, rfl⟩ : ∃ k', k = k' + 1 := ⟨k - 1, by omega⟩
    rw [List.drop_eq_nil_of_le (by omega)]
    simp only [inquestref27_Held.l0]
    rw [if_neg (by omega)]
    simp
  | succ d ih =>
    intro k i hi hk
    obtain ⟨k, rfl⟩ : ∃ k', k = k' + 1 := ⟨k - 1, by omega⟩
    have hlt : i < x.l5.length := by omega
    obtain ⟨b0, b1⟩ := fit.g5 x.l5[i] (List.getElem_mem hlt)
    have c1 : (i : Int) < (x.l5.length : Int) := by omega
    have c2 : 0 ≤ (i : Int) := by omega
    have hih := ih k (i + 1) (by omega) (by omega)
    have e5 : (i : Int) + 1 = ((i + 1 : Nat) : Int) := by omega
    have w4 : wrap64 ((i : Int) + 1) = ((i + 1 : Nat) : Int) := (w64 (by omega) (by omega)).trans e5
    rw [List.drop_eq_getElem_cons hlt, inquestref27_Held.l0, if_pos c1, if_pos c2, rd_get hlt, value_ref V _ b0 b1 hb k (by omega)]
    simp only [Option.bind_some, w4, List.any_cons]
    by_cases g1 : valS V x.l5[i] = 1
    · rw [if_pos g1, hih, g1]; simp
    · rw [if_neg g1]; simp [g1]
theorem held_ref (x : CP) (fit : x.Fit) (V : List Int) (hb : Bytes V) (k : Nat) (hk : x.l5.length + 1 < k) : inquestref27_Held.f k x.a0 x.l1 x.l2 x.l3 x.l4 x.l5 V = some (x.heldS V) := by
  unfold inquestref27_Held.f
  have := held_run x fit V hb x.l5.length k 0 (by omega) hk
  simpa [CP.heldS] using this
end Go.Proofs.Ytdjhjgfjhicbfaa.PWalkTells
namespace Go.Proofs.Ytdjhjgfjhicbfaa.PWalkTells
open Go.RowKit Go.Shelf Go.Proofs.YtdjhjgfjhicbfaaW.PrintWords Go.Proofs.YtdjhjgfjhicbfaaW.PrintLast Go.Proofs.YtdjhjgfjhicbfaaW.PrintMore
set_option linter.unusedVariables false
set_option linter.unusedSimpArgs false
def CP.great (x : CP) : Bool := (decide (4 < x.a0) && decide (x.a0 ≤ 10)) || decide (7 < (x.l1.length : Int)) || decide (60 < (x.l2.length : Int)) || decide (20 < (x.l5.length : Int))
theorem great_ref (x : CP) : inquestlaw27_great.f x.a0 x.l1 x.l2 x.l3 x.l4 x.l5 = some x.great := by
  unfold inquestlaw27_great.f CP.great
  by_cases c1 : x.a0 > 4
  · rw [if_pos c1, decide_eq_true (show 4 < x.a0 from c1)]
    by_cases c2 : x.a0 ≤ 10
    · rw [if_pos c2, decide_eq_true c2]; simp
    · rw [if_neg c2, decide_eq_false c2]
      by_cases c3 : (x.l1.length : Int) > 7
      · rw [if_pos c3, decide_eq_true (show 7 < (x.l1.length : Int) from c3)]; simp
      · rw [if_neg c3, decide_eq_false (show ¬ 7 < (x.l1.length : Int) from c3)]
        by_cases c4 : (x.l2.length : Int) > 60
        · rw [if_pos c4, decide_eq_true (show 60 < (x.l2.length : Int) from c4)]; simp
        · rw [if_neg c4, decide_eq_false (show ¬ 60 < (x.l2.length : Int) from c4)]; simp
  · rw [if_neg c1, decide_eq_false (show ¬ 4 < x.a0 from c1)]
    by_cases c3 : (x.l1.length : Int) > 7
    · rw [if_pos c3, decide_eq_true (show 7 < (x.l1.length : Int) from c3)]; simp
    · rw [if_neg c3, decide_eq_false (show ¬ 7 < (x.l1.length : Int) from c3)]
      by_cases c4 : (x.l2.length : Int) > 60
      · rw [if_pos c4, decide_eq_true (show 60 < (x.l2.length : Int) from c4)]; simp
      · rw [if_neg c4, decide_eq_false (show ¬ 60 < (x.l2.length : Int) from c4)]; simp
structure CP.Walked (x : CP) (L : List S43) : Prop where
  all : x.allS = (L, 0)
  good : x.Good L
  short : L.length ≤ 2187
  some : 0 < L.length
  tree : ∃ at_, x.Tree L at_
  start : ∃ M, L = x.firstsS ++ M
  closed : ∀ a, a < L.length → ∀ m, m < 2 ^ x.a0.toNat → x.Leads1 L a (wayS m x.a0.toNat)
theorem walked (x : CP) (fit : x.Fit) (hmay : x.may = true) (h4 : x.a0 ≤ 4) (h7 : x.l1.length ≤ 7) : ∃ L, x.Walked L := by
  obtain ⟨L, hL⟩ := walkS_some fit hmay h7
  have hf := freeS_le x
  have hfl := firstsS_length x (by omega)
  obtain ⟨g1, g2⟩ := walkS_good fit hmay (by omega) hL
  obtain ⟨⟨at_, t1⟩, t2, M, hM⟩ := outer_tree 4097 0 x.firstsS L (by omega) (firstsS_good fit hmay) (first_tree x) (fun a ha => absurd ha (Nat.not_lt_zero a)) hL
  refine ⟨L, ?_, g1, tree_short g1 t1 h7, ?_, ⟨at_, t1⟩, ⟨M, hM⟩, t2⟩
  · unfold CP.allS
    have hw : x.wide = false := by
      unfold CP.wide
      refine decide_eq_false ?_
      split <;> omega
    rw [if_neg (by rw [hmay]; simp), if_neg (by rw [hw]; simp), hL]
  · rw [hM, List.length_append]
    have : x.firstsS.length = 2 ^ x.freeS.length := by simp [CP.firstsS]
    have h2 : 0 < 2 ^ x.freeS.length := Nat.pow_pos (by decide)
    omega
end Go.Proofs.Ytdjhjgfjhicbfaa.PWalkTells
