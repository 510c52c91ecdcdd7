/- A part of the proof of WalkTellsSaid: contracts of functions and plain lemmas; each holds under the hypotheses that it names. -/
import Derived.Test.YtdjhjgfjhicbfaaTellsGk
import Derived.Test.YtdjhjgfjhicbfaaPWalkTellsx4
import Derived.Test.YtdjhjgfjhicbfaaPWalkTellsx5
import Derived.BigQuiet
import Derived.Laws.Strings
import Derived.Deep.RegionHeld3
import Derived.Test.YtdjhjgfjhicbfaaPWalkTellsx6
import Derived.Test.YtdjhjgfjhicbfaaTellsGj
import Derived.Test.YtdjhjgfjhicbfaaPWalkTellsx8
import Derived.Test.YtdjhjgfjhicbfaaPWalkTellsx10
import Derived.Test.YtdjhjgfjhicbfaaPWalkTellsx12
namespace Go.Proofs.Ytdjhjgfjhicbfaa.PWalkTells
open Go.RowKit Go.Shelf Go.Maps Go.Proofs.YtdjhjgfjhicbfaaW.PrintWords Go.Proofs.YtdjhjgfjhicbfaaW.PrintLast Go.Proofs.YtdjhjgfjhicbfaaW.PrintMore
set_option linter.unusedVariables false
set_option linter.unusedSimpArgs false
theorem frame7_calls (x : CP) (A1 A2 : Option Addr) (c1 c2 : Nat) (st inp : List Int) (w : World) (ok : x.Ok w) (fit : x.Fit) (hmay : x.may = true) (h1 : valuesS st (x.l1.length : Int) = true) (h2 : valuesS inp x.a0 = true)
    (hb1 : Bytes st) (hb2 : Bytes inp) (hn1 : st.length ≤ 17592186044416) (hn2 : inp.length ≤ 17592186044416) (hr1 : Kd.C (Kd.int .u8) w A1 st.length st) (hc1 : st.length ≤ c1) (hr2 : Kd.C (Kd.int .u8) w A2 inp.length inp) (hc2 : inp.length ≤ c2) :
    Calls Try.prog 16 #[.agg #[.int .i64 x.a0, .slice x.A1 x.l1.length x.c1, .slice x.A2 x.l2.length x.c2, .slice x.A3 x.l3.length x.c3, .slice x.A4 x.l4.length x.c4, .slice x.A5 x.l5.length x.c5], .slice A1 st.length c1, .slice A2 inp.length c2] w fun e w' => ∃ Av cv An cn,
      e = .returned (.tuple #[.slice Av (x.frameS st inp).length cv, .slice An (x.nextS (x.frameS st inp)).length cn, .int .i64 0]) ∧ (x.frameS st inp).length ≤ cv ∧ Kd.C (Kd.int .u8) w' Av (x.frameS st inp).length (x.frameS st inp) ∧
      (x.nextS (x.frameS st inp)).length ≤ cn ∧ Kd.C (Kd.int .u8) w' An (x.nextS (x.frameS st inp)).length (x.nextS (x.frameS st inp)) ∧ Below w.heap.size w w' := by
  refine (inquestref07_Frame.calls (x.mayK + st.length + inp.length + 4) x.a0 x.A1 x.c1 x.l1 x.A2 x.c2 x.l2 x.A3 x.c3 x.l3 x.A4 x.c4 x.l4 x.A5 x.c5 x.l5 A1 c1 st A2 c2 inp (x.frameS st inp) (x.nextS (x.frameS st inp)) 0 w ok.r1 ok.m1 ok.r2 ok.m2 ok.r3 ok.m3 ok.r4 ok.m4 ok.r5 ok.m5 hr1 hc1 hr2 hc2
    (frame_ref x fit st inp hmay h1 h2 hb1 hb2 hn1 hn2 _ (Nat.le_refl _))).mono ?_
  rintro e w' ⟨v0, v1, rfl, g0, g1, hb⟩
  obtain ⟨Av, cv, rfl, m0, r0⟩ := Kd.R_reads g0
  obtain ⟨An, cn, rfl, m1, r1⟩ := Kd.R_reads g1
  exact ⟨Av, cv, An, cn, rfl, m0, r0, m1, r1, hb⟩
theorem held27_calls (x : CP) (A1 : Option Addr) (c1 : Nat) (V : List Int) (w : World) (ok : x.Ok w) (fit : x.Fit) (hb : Bytes V) (hr1 : Kd.C (Kd.int .u8) w A1 V.length V) (hc1 : V.length ≤ c1) :
    Calls Try.prog 14 #[.agg #[.int .i64 x.a0, .slice x.A1 x.l1.length x.c1, .slice x.A2 x.l2.length x.c2, .slice x.A3 x.l3.length x.c3, .slice x.A4 x.l4.length x.c4, .slice x.A5 x.l5.length x.c5], .slice A1 V.length c1] w fun e w' => e = .returned (.bool (x.heldS V)) ∧ Below w.heap.size w w' :=
  inquestref27_Held.calls (x.l5.length + 2) x.a0 x.A1 x.c1 x.l1 x.A2 x.c2 x.l2 x.A3 x.c3 x.l3 x.A4 x.c4 x.l4 x.A5 x.c5 x.l5 A1 c1 V (x.heldS V) w ok.r1 ok.m1 ok.r2 ok.m2 ok.r3 ok.m3 ok.r4 ok.m4 ok.r5 ok.m5 hr1 hc1 (held_ref x fit V hb _ (by omega))
theorem beq_nums {s t : List Int} (hs : Bytes s) (ht : Bytes t) : ((strOfNums s).toList == (strOfNums t).toList) = decide (s = t) := by
  by_cases h : s = t
  · subst h; simp
  · rw [decide_eq_false h]
    have : (strOfNums s).toList ≠ (strOfNums t).toList := fun e => h (strOf_inj hs ht (by
      rw [ByteArray.toList_eq, ByteArray.toList_eq] at e
      exact e))
    simpa using this
theorem bytes_calls (A0 : Option Addr) (c0 : Nat) (l0 : List Int) (A1 : Option Addr) (c1 : Nat) (l1 : List Int) (w : World) (hr0 : Kd.C (Kd.int .u8) w A0 l0.length l0) (hc0 : l0.length ≤ c0) (hr1 : Kd.C (Kd.int .u8) w A1 l1.length l1) (hc1 : l1.length ≤ c1) (h0 : Bytes l0) (h1 : Bytes l1) :
    Calls Try.prog 13 #[.slice A0 l0.length c0, .slice A1 l1.length c1] w fun e w' => e = .returned (.bool (decide (l0 = l1))) ∧ Drawn0 w w' :=
  inquestref00_Bytes.calls A0 c0 l0 A1 c1 l1 _ w hr0 hc0 hr1 hc1 (by unfold inquestref00_Bytes.f; rw [beq_nums h0 h1])
theorem values_bit {l : List Int} {n : Int} (h : (l.length : Int) = n) (hv : ∀ v ∈ l, 0 ≤ v ∧ v ≤ 2) : valuesS l n = true := by
  unfold valuesS
  rw [show ((l.length : Int) == n) = true from beq_iff_eq.2 h]
  simp only [Bool.true_and, Bool.not_eq_true', List.any_eq_false]
  intro v hm
  simp
  exact (hv v hm).2
theorem bytes_bit {l : List Int} (hv : ∀ v ∈ l, 0 ≤ v ∧ v ≤ 2) : Bytes l := fun v hm => by have := hv v hm; omega
end Go.Proofs.Ytdjhjgfjhicbfaa.PWalkTells
namespace Go.Proofs.Ytdjhjgfjhicbfaa.PWalkTells
open Go.RowKit Go.Shelf Go.Proofs.YtdjhjgfjhicbfaaW.PrintWords Go.Proofs.YtdjhjgfjhicbfaaW.PrintLast Go.Proofs.YtdjhjgfjhicbfaaW.PrintMore
set_option linter.unusedVariables false
set_option linter.unusedSimpArgs false
theorem inner_grow {x : CP} {at_ m : Nat} {L : List S43} : ∀ n L', x.innerS at_ m L n = some L' → ∃ M, L' = L ++ M ∧ ∀ s ∈ M, 0 ≤ s.f2 := by
  intro n
  induction n with
  | zero => intro L' h; injection h with h; exact ⟨[], by simp [h], fun s hs => by simp at hs⟩
  | succ n ih =>
    intro L' h
    obtain ⟨L2, h1, h2⟩ := Option.bind_eq_some_iff.1 h
    obtain ⟨M, rfl, hM⟩ := ih L2 h1
    rcases step_cases h2 with ⟨rfl, _⟩ | ⟨_, _, rfl⟩
    · exact ⟨M, rfl, hM⟩
    · refine ⟨M ++ [_], by rw [List.append_assoc], fun s hs => ?_⟩
      rcases List.mem_append.1 hs with hs | hs
      · exact hM s hs
      · have e := List.mem_singleton.1 hs
        rw [e]
        show (0 : Int) ≤ (at_ : Int)
        omega
theorem outer_grow {x : CP} : ∀ k at_ L L', x.outerS k at_ L = some L' → ∃ M, L' = L ++ M ∧ ∀ s ∈ M, 0 ≤ s.f2 := by
  intro k
  induction k with
  | zero => intro at_ L L' h; cases h
  | succ k ih =>
    intro at_ L L' h
    unfold CP.outerS at h
    split at h
    · obtain ⟨L2, h1, h2⟩ := Option.bind_eq_some_iff.1 h
      obtain ⟨M, rfl, hM⟩ := inner_grow _ _ h1
      obtain ⟨M2, rfl, hM2⟩ := ih _ _ _ h2
      refine ⟨M ++ M2, by rw [List.append_assoc], fun s hs => ?_⟩
      rcases List.mem_append.1 hs with hs | hs
      · exact hM s hs
      · exact hM2 s hs
    · injection h with h; exact ⟨[], by simp [h], fun s hs => by simp at hs⟩
theorem walked_walk {x : CP} {L : List S43} (hw : x.Walked L) (hmay : x.may = true) : x.walkS = some L := by
  have h := hw.all
  have hs := hw.some
  unfold CP.allS at h
  rw [if_neg (by rw [hmay]; simp)] at h
  split at h
  · have h1 := congrArg Prod.snd h
    exact absurd h1 (show ¬ ((3 : Int) = 0) by decide)
  · split at h
    · rename_i L2 h2
      have h1 := congrArg Prod.fst h
      rw [h2]
      exact congrArg some h1
    · have h1 := congrArg Prod.snd h
      exact absurd h1 (show ¬ ((3 : Int) = 0) by decide)
theorem root_one {x : CP} {L : List S43} (hw : x.Walked L) (hmay : x.may = true) {j : Nat} (hj : j < L.length) (hr : (gS L j).f2 = -1) : ∃ n, gS L j = x.firstS n := by
  obtain ⟨M, hM, hg⟩ := outer_grow _ _ _ _ (walked_walk hw hmay)
  by_cases h : j < x.firstsS.length
  · exact ⟨j, by rw [hM, gS_left h, gS_first x h]⟩
  · have hj2 : j - x.firstsS.length < M.length := by
      have : L.length = x.firstsS.length + M.length := by rw [hM, List.length_append]
      omega
    have := hg M[j - x.firstsS.length] (List.getElem_mem hj2)
    have e : gS L j = M[j - x.firstsS.length] := by
      rw [gS_eq hj]
      simp only [hM]
      rw [List.getElem_append_right (by omega)]
    rw [← e] at this
    omega
end Go.Proofs.Ytdjhjgfjhicbfaa.PWalkTells
namespace Go.Proofs.Ytdjhjgfjhicbfaa.PWalkTells
open Go.RowKit Go.Shelf Go.Proofs.YtdjhjgfjhicbfaaW.PrintWords Go.Proofs.YtdjhjgfjhicbfaaW.PrintLast Go.Proofs.YtdjhjgfjhicbfaaW.PrintMore
set_option linter.unusedVariables false
set_option linter.unusedSimpArgs false
theorem freeG_len : ∀ (l : List S61) (i j : Int), (freeG l i).length = (freeG l j).length := by
  intro l
  induction l with
  | nil => intro i j; rfl
  | cons s l ih =>
    intro i j
    unfold freeG
    split
    · rw [List.length_cons, List.length_cons, ih (i + 1) (j + 1)]
    · exact ih (i + 1) (j + 1)
theorem free_loop (x : CP) (fit : x.Fit) : ∀ (d k i n : Nat), i + d = x.l1.length → d < k → n ≤ i →
    inquestref27_free.l0 k (n : Int) (i : Int) x.a0 x.l1 x.l2 x.l3 x.l4 x.l5 = some ((n + (freeG (x.l1.drop i) 0).length : Nat) : Int) := by
  have hn1 := fit.n1
  intro d
  induction d with
  | zero =>
    intro k i n hi hk hn
    obtain ⟨k, rfl⟩ : ∃ k', k = k' + 1 := ⟨k - 1, by omega⟩
    rw [List.drop_eq_nil_of_le (by omega)]
    simp only [inquestref27_free.l0]
    rw [if_neg (by omega)]
    simp [freeG]
  | succ d ih =>
    intro k i n hi hk hn
    obtain ⟨k, rfl⟩ : ∃ k', k = k' + 1 := ⟨k - 1, by omega⟩
    have hlt : i < x.l1.length := by omega
    have hrd : rd_T61 x.l1 (i : Int) = x.l1[i] := by simp [rd_T61, List.getD_eq_getElem?_getD, hlt]
    have c1 : (i : Int) < (x.l1.length : Int) := by omega
    have c2 : 0 ≤ (i : Int) := by omega
    have e5 : (i : Int) + 1 = ((i + 1 : Nat) : Int) := by omega
    have e6 : (n : Int) + 1 = ((n + 1 : Nat) : Int) := by omega
    have w4 : wrap64 ((i : Int) + 1) = ((i + 1 : Nat) : Int) := (w64 (by omega) (by omega)).trans e5
    have w5 : wrap64 ((n : Int) + 1) = ((n + 1 : Nat) : Int) := (w64 (by omega) (by omega)).trans e6
    rw [List.drop_eq_getElem_cons hlt, inquestref27_free.l0, if_pos c1, if_pos c2, hrd, w4, w5]
    by_cases e : x.l1[i].f1 = 2
    · rw [if_pos e, ih k (i + 1) (n + 1) (by omega) (by omega) (by omega), freeG, if_pos e, List.length_cons, freeG_len _ (0 + 1) 0]
      congr 2; omega
    · rw [if_neg e, ih k (i + 1) n (by omega) (by omega) (by omega), freeG, if_neg e, freeG_len _ (0 + 1) 0]
theorem free_ref (x : CP) (fit : x.Fit) (k : Nat) (hk : x.l1.length < k) : inquestref27_free.f k x.a0 x.l1 x.l2 x.l3 x.l4 x.l5 = some (x.freeS.length : Int) := by
  unfold inquestref27_free.f
  have := free_loop x fit x.l1.length k 0 0 (by omega) hk (Nat.le_refl _)
  simpa [CP.freeS] using this
def firstG : List S61 → Nat → List Int
  | [], _ => []
  | s :: r, n => if s.f1 = 2 then ((n % 2 : Nat) : Int) :: firstG r (n / 2) else s.f1 :: firstG r n
theorem firstG_length : ∀ (l : List S61) (n : Nat), (firstG l n).length = l.length := by
  intro l
  induction l with
  | nil => intro n; rfl
  | cons s l ih => intro n; unfold firstG; split <;> simp [ih]
theorem firstG_get : ∀ (l : List S61) (n j : Nat) (h : j < l.length), (firstG l n).getD j 0 = if l[j].f1 = 2 then ((n / 2 ^ (freeG (l.take j) 0).length % 2 : Nat) : Int) else l[j].f1 := by
  intro l
  induction l with
  | nil => intro n j h; simp at h
  | cons s l ih =>
    intro n j h
    cases j with
    | zero =>
      unfold firstG
      by_cases e : s.f1 = 2
      · simp [e, freeG]
      · simp [e]
    | succ j =>
      have hj : j < l.length := by simpa using h
      unfold firstG
      by_cases e : s.f1 = 2
      · rw [if_pos e, List.getD_cons_succ, ih _ _ hj, List.take_succ_cons, freeG, if_pos e, List.length_cons, freeG_len _ (0 + 1) 0, Nat.pow_succ, Nat.mul_comm, ← Nat.div_div_eq_div_mul]
        rfl
      · rw [if_neg e, List.getD_cons_succ, ih _ _ hj, List.take_succ_cons, freeG, if_neg e, freeG_len _ (0 + 1) 0]
        rfl
theorem freeG_at : ∀ (l : List S61) (i : Int) (j : Nat) (h : j < l.length), l[j].f1 = 2 → (freeG l i)[(freeG (l.take j) 0).length]? = some (i + (j : Int)) := by
  intro l
  induction l with
  | nil => intro i j h; simp at h
  | cons s l ih =>
    intro i j h e
    cases j with
    | zero =>
      have e : s.f1 = 2 := e
      simp [freeG, e]
    | succ j =>
      have hj : j < l.length := by simpa using h
      have e2 : l[j].f1 = 2 := e
      have := ih (i + 1) j hj e2
      rw [List.take_succ_cons]
      by_cases es : s.f1 = 2
      · rw [freeG, if_pos es, freeG, if_pos es, List.length_cons, freeG_len _ (0 + 1) 0, List.getElem?_cons_succ, this]
        congr 1; omega
      · rw [freeG, if_neg es, freeG, if_neg es, freeG_len _ (0 + 1) 0, this]
        congr 1; omega
theorem freeG_tw : ∀ (l : List S61) (i : Int) (j : Nat) (h : j < l.length), i + (j : Int) ∈ freeG l i → l[j].f1 = 2 := by
  intro l
  induction l with
  | nil => intro i j h; simp at h
  | cons s l ih =>
    intro i j h e
    cases j with
    | zero =>
      unfold freeG at e
      split at e
      · rename_i h2; exact h2
      · have := (freeG_range l (i + 1) _ e).1
        omega
    | succ j =>
      have hj : j < l.length := by simpa using h
      have : i + 1 + (j : Int) ∈ freeG l (i + 1) := by
        rw [show i + ((j + 1 : Nat) : Int) = i + 1 + (j : Int) by omega] at e
        unfold freeG at e
        split at e
        · rcases List.mem_cons.1 e with h2 | h2
          · omega
          · exact h2
        · exact e
      exact ih (i + 1) j hj this
theorem firstK_oth (x : CP) (b : List Int) (p : Nat) (hp : ∀ v ∈ x.freeS, v.toNat ≠ p) : ∀ k, k ≤ x.freeS.length → ∀ (hb : x.freeS.length ≤ b.length), (firstK x.freeS b x.resetS k).getD p 0 = x.resetS.getD p 0 := by
  intro k
  induction k with
  | zero => intro _ _; rw [firstK_zero]
  | succ k ih =>
    intro hk hb
    rw [firstK_succ _ _ _ _ (by omega) (by omega), List.getD_eq_getElem?_getD, List.getElem?_set_ne (hp _ (List.getElem_mem _)), ← List.getD_eq_getElem?_getD]
    exact ih (by omega) hb
theorem firstS_G (x : CP) (n : Nat) : (x.firstS n).f0 = firstG x.l1 n := by
  have hlen : (firstK x.freeS (wayS n x.freeS.length) x.resetS x.freeS.length).length = x.l1.length := by rw [firstK_length]; simp [CP.resetS]
  refine List.ext_getElem (hlen.trans (firstG_length _ _).symm) fun j h1 h2 => ?_
  have hj : j < x.l1.length := by rw [firstG_length] at h2; exact h2
  have h1' : j < (firstK x.freeS (wayS n x.freeS.length) x.resetS x.freeS.length).length := h1
  have g1 : (x.firstS n).f0[j] = (firstK x.freeS (wayS n x.freeS.length) x.resetS x.freeS.length).getD j 0 := by
    rw [List.getD_eq_getElem?_getD, List.getElem?_eq_getElem h1']; rfl
  have g2 : (firstG x.l1 n)[j] = (firstG x.l1 n).getD j 0 := by
    rw [List.getD_eq_getElem?_getD, List.getElem?_eq_getElem h2]; rfl
  refine g1.trans (Eq.trans ?_ g2.symm)
  rw [firstG_get _ _ _ hj]
  by_cases e : x.l1[j].f1 = 2
  · have ha := freeG_at x.l1 0 j hj e
    obtain ⟨hq, hqe⟩ := List.getElem?_eq_some_iff.1 ha
    have := firstK_get x (wayS n x.freeS.length) x.freeS.length (freeG (x.l1.take j) 0).length (Nat.le_refl _) hq (by rw [wayS_length]; exact Nat.le_refl _) hq
    have hqe' : x.freeS[(freeG (x.l1.take j) 0).length]'hq = 0 + (j : Int) := hqe
    rw [hqe', Int.zero_add, Int.toNat_natCast] at this
    rw [this, if_pos e]
    exact wayS_get n x.freeS.length _ hq
  · rw [if_neg e, firstK_oth x _ j (fun v hv h => e (by
      obtain ⟨q0, q1⟩ := freeG_range x.l1 0 v hv
      have hv2 : (0 : Int) + (j : Int) ∈ freeG x.l1 0 := by
        have : v = (j : Int) := by omega
        rw [Int.zero_add, ← this]; exact hv
      exact freeG_tw x.l1 0 j hj hv2)) _ (Nat.le_refl _) (by rw [wayS_length]; exact Nat.le_refl _)]
    simp [CP.resetS, List.getD_eq_getElem?_getD, hj]
theorem first_loop (x : CP) (fit : x.Fit) : ∀ (d k i n : Nat) (acc : List Int), i + d = x.l1.length → d < k → acc.length = i → n ≤ 9223372036854775807 →
    inquestref27_firstOne.l0 k (n : Int) acc (i : Int) x.a0 x.l1 x.l2 x.l3 x.l4 x.l5 = some (acc ++ firstG (x.l1.drop i) n) := by
  have hn1 := fit.n1
  intro d
  induction d with
  | zero =>
    intro k i n acc hi hk ha hn
    obtain ⟨k, rfl⟩ : ∃ k', k = k' + 1 := ⟨k - 1, by omega⟩
    rw [List.drop_eq_nil_of_le (by omega)]
    simp only [inquestref27_firstOne.l0]
    rw [if_neg (by omega)]
    simp [firstG]
  | succ d ih =>
    intro k i n acc hi hk ha hn
    obtain ⟨k, rfl⟩ : ∃ k', k = k' + 1 := ⟨k - 1, by omega⟩
    have hlt : i < x.l1.length := by omega
    have hrd : rd_T61 x.l1 (i : Int) = x.l1[i] := by simp [rd_T61, List.getD_eq_getElem?_getD, hlt]
    have c1 : (i : Int) < (x.l1.length : Int) := by omega
    have c2 : 0 ≤ (i : Int) := by omega
    have c3 : acc.length < 140737488355328 := by omega
    have e5 : (i : Int) + 1 = ((i + 1 : Nat) : Int) := by omega
    have w4 : wrap64 ((i : Int) + 1) = ((i + 1 : Nat) : Int) := (w64 (by omega) (by omega)).trans e5
    have ed : Int.tdiv (n : Int) 2 = ((n / 2 : Nat) : Int) := by rw [Int.tdiv_eq_ediv_of_nonneg (by omega)]; rfl
    have em : Int.tmod (n : Int) 2 % 256 = ((n % 2 : Nat) : Int) := by rw [Int.tmod_eq_emod_of_nonneg (by omega)]; omega
    have hA := ih k (i + 1) (n / 2) (acc ++ [((n % 2 : Nat) : Int)]) (by omega) (by omega) (by simp [ha]) (by omega)
    have hC := ih k (i + 1) n (acc ++ [x.l1[i].f1]) (by omega) (by omega) (by simp [ha]) hn
    have w7 : wrap64 ((n / 2 : Nat) : Int) = ((n / 2 : Nat) : Int) := w64 (by omega) (by omega)
    have w6 : wrap64 (Int.tdiv (n : Int) 2) = ((n / 2 : Nat) : Int) := by rw [ed]; exact w7
    rw [List.drop_eq_getElem_cons hlt, inquestref27_firstOne.l0, if_pos c1, if_pos c2, hrd, w4, w6, em, if_pos c3, if_pos c3]
    by_cases e : x.l1[i].f1 = 2
    · rw [if_pos e, hA, firstG, if_pos e, List.append_assoc]; rfl
    · rw [if_neg e, hC, firstG, if_neg e, List.append_assoc]; rfl
theorem first_ref (x : CP) (fit : x.Fit) (n k : Nat) (hk : x.l1.length < k) (hn : n ≤ 9223372036854775807) : inquestref27_firstOne.f k x.a0 x.l1 x.l2 x.l3 x.l4 x.l5 (n : Int) = some (x.firstS n).f0 := by
  unfold inquestref27_firstOne.f
  have := first_loop x fit x.l1.length k 0 n [] (by omega) hk rfl hn
  rw [firstS_G]
  simpa using this
theorem u64_small {i : Nat} (h : i ≤ 1000) : IntKind.u64.wrap (i : Int) = (i : Int) := by
  simp [IntKind.wrap, IntKind.bits, IntKind.signed]; omega
theorem way_loop (n m : Nat) (hm : m ≤ 10) : ∀ (d k i : Nat) (acc : List Int), i + d = m → d < k → acc = wayS n i → inquestref27_ways.l0 k (n : Int) (m : Int) acc (i : Int) = some (wayS n m) := by
  intro d
  induction d with
  | zero =>
    intro k i acc hi hk ha
    obtain ⟨k, rfl⟩ : ∃ k', k = k' + 1 := ⟨k - 1, by omega⟩
    have : i = m := by omega
    subst this
    simp only [inquestref27_ways.l0]
    rw [if_neg (by omega), ha]
  | succ d ih =>
    intro k i acc hi hk ha
    obtain ⟨k, rfl⟩ : ∃ k', k = k' + 1 := ⟨k - 1, by omega⟩
    have c1 : (i : Int) < (m : Int) := by omega
    have hu := u64_small (show i ≤ 1000 by omega)
    have c2 : 0 ≤ IntKind.u64.wrap (i : Int) := by rw [hu]; omega
    have c3 : acc.length < 140737488355328 := by rw [ha, wayS_length]; omega
    have e5 : (i : Int) + 1 = ((i + 1 : Nat) : Int) := by omega
    have w4 : wrap64 ((i : Int) + 1) = ((i + 1 : Nat) : Int) := (w64 (by omega) (by omega)).trans e5
    have hv : Int.tmod (shr .i64 (n : Int) (i : Int)) 2 % 256 = ((n / 2 ^ i % 2 : Nat) : Int) := by
      have hs : shr .i64 (n : Int) (i : Int) = ((n / 2 ^ i : Nat) : Int) := by
        have hmin : min (i : Int).toNat IntKind.i64.bits = i := by
          rw [Int.toNat_natCast]; exact Nat.min_eq_left (by simp [IntKind.bits]; omega)
        unfold shr
        rw [hmin]; push_cast; rfl
      rw [hs]
      generalize n / 2 ^ i = q
      rw [Int.tmod_eq_emod_of_nonneg (Int.natCast_nonneg q)]; omega
    rw [inquestref27_ways.l0, if_pos c1, if_pos c2, if_pos c3, w4, hu, hv]
    refine ih k (i + 1) _ (by omega) (by omega) ?_
    rw [ha]
    simp [wayS, List.range_succ]
theorem way_ref (n m k : Nat) (hm : m ≤ 10) (hk : m < k) : inquestref27_ways.f k (n : Int) (m : Int) = some (wayS n m) := by
  unfold inquestref27_ways.f
  exact way_loop n m hm m k 0 [] (by omega) hk (by simp [wayS])
theorem rd_T43_get {L : List S43} {i : Nat} (h : i < L.length) : rd_T43 L (i : Int) = L[i] := by simp [rd_T43, List.getD_eq_getElem?_getD, h]
theorem where_loop (L : List S43) (s : List Int) (hb : ∀ t ∈ L, Bytes t.f0) (hs : Bytes s) (hn : L.length ≤ 4096) : ∀ (d k i : Nat), i + d = L.length → d < k → ∃ r, inquestref27_where.l0 k L s (i : Int) = some r ∧ decide (r ≥ 0) = ((L.drop i).map (fun t => t.f0)).contains s := by
  intro d
  induction d with
  | zero =>
    intro k i hi hk
    obtain ⟨k, rfl⟩ : ∃ k', k = k' + 1 := ⟨k - 1, by omega⟩
    rw [List.drop_eq_nil_of_le (by omega)]
    simp only [inquestref27_where.l0]
    rw [if_neg (by omega)]
    exact ⟨_, rfl, by simp⟩
  | succ d ih =>
    intro k i hi hk
    obtain ⟨k, rfl⟩ : ∃ k', k = k' + 1 := ⟨k - 1, by omega⟩
    have hlt : i < L.length := by omega
    have c1 : (i : Int) < (L.length : Int) := by omega
    have c2 : 0 ≤ (i : Int) := by omega
    have e5 : (i : Int) + 1 = ((i + 1 : Nat) : Int) := by omega
    have w4 : wrap64 ((i : Int) + 1) = ((i + 1 : Nat) : Int) := (w64 (by omega) (by omega)).trans e5
    obtain ⟨r, h1, h2⟩ := ih k (i + 1) (by omega) (by omega)
    rw [List.drop_eq_getElem_cons hlt, List.map_cons, List.contains_cons]
    have hB : inquestref00_Bytes.f (rd_T43 L (i : Int)).f0 s = some (decide (L[i].f0 = s)) := by
      rw [rd_T43_get hlt]; unfold inquestref00_Bytes.f; rw [beq_nums (hb _ (List.getElem_mem hlt)) hs]
    rw [inquestref27_where.l0, if_pos c1, if_pos c2, hB, w4]
    simp only [Option.bind_some]
    by_cases e : L[i].f0 = s
    · rw [decide_eq_true e, if_pos rfl]
      exact ⟨_, rfl, by rw [decide_eq_true (show (i : Int) ≥ 0 by omega)]; simp [e]⟩
    · rw [decide_eq_false e, if_neg (by simp)]
      refine ⟨r, h1, h2.trans ?_⟩
      have : (s == L[i].f0) = false := beq_eq_false_iff_ne.2 (fun h => e h.symm)
      rw [this, Bool.false_or]
theorem where_ref (L : List S43) (s : List Int) (hb : ∀ t ∈ L, Bytes t.f0) (hs : Bytes s) (hn : L.length ≤ 4096) (k : Nat) (hk : L.length < k) : ∃ r, inquestref27_where.f k L s = some r ∧ decide (r ≥ 0) = (L.map (fun t => t.f0)).contains s := by
  unfold inquestref27_where.f
  have := where_loop L s hb hs hn L.length k 0 (by omega) hk
  simpa using this
end Go.Proofs.Ytdjhjgfjhicbfaa.PWalkTells
namespace Go.Proofs.Ytdjhjgfjhicbfaa.PWalkTells
open Go.RowKit Go.Shelf Go.Proofs.YtdjhjgfjhicbfaaW.PrintWords Go.Proofs.YtdjhjgfjhicbfaaW.PrintLast Go.Proofs.YtdjhjgfjhicbfaaW.PrintMore
set_option linter.unusedVariables false
set_option linter.unusedSimpArgs false
theorem shl_one {m : Nat} (hm : m ≤ 10) : shl .i64 1 (IntKind.u64.wrap (m : Int)) = ((2 ^ m : Nat) : Int) := by
  rw [u64_small (by omega)]
  have hmin : min (m : Int).toNat IntKind.i64.bits = m := by
    rw [Int.toNat_natCast]; exact Nat.min_eq_left (by simp [IntKind.bits]; omega)
  unfold shl
  rw [hmin]
  have h1 : (2 : Nat) ^ m ≤ 2 ^ 10 := Nat.pow_le_pow_right (by decide) hm
  have h2 : (2 : Nat) ^ 10 = 1024 := by decide
  have e : (1 : Int) * 2 ^ m = ((2 ^ m : Nat) : Int) := by push_cast; omega
  have h3 : (2 : Nat) ^ m ≤ 1024 := by omega
  rw [e]
  generalize (2 : Nat) ^ m = p at h3 ⊢
  exact IntWalk.i64_in _ (by omega)
def CP.wayK (x : CP) : Nat := x.mayK + 2 * x.l1.length + x.a0.toNat + x.l5.length + 4096 + 20
theorem l2_run {x : CP} (fit : x.Fit) (hmay : x.may = true) (m : Nat) (hm : x.a0 = (m : Int)) (hm10 : m ≤ 10) (at_ : Nat) (Lf : List S43) (R : List S43 × Int) (B : Nat) (hB : x.wayK ≤ B)
    (hnext : ∀ k, B < k → inquestref27_All.l1 k Lf ((at_ + 1 : Nat) : Int) x.a0 x.l1 x.l2 x.l3 x.l4 x.l5 = some R) :
    ∀ (d n : Nat) (Lc L0 : List S43), n + d = 2 ^ m → x.innerS at_ m L0 n = some Lc → x.innerS at_ m L0 (2 ^ m) = some Lf → x.Good Lc → Lc.length ≤ 4096 → at_ < Lc.length →
      ∀ k, B + 2 * d + 1 < k → inquestref27_All.l2 k Lc (at_ : Int) (n : Int) x.a0 x.l1 x.l2 x.l3 x.l4 x.l5 = some R := by
  have hn1 := fit.n1
  have hpow : (2 : Nat) ^ m ≤ 1024 := Nat.le_trans (Nat.pow_le_pow_right (by decide) hm10) (by decide)
  have hKd : x.wayK = x.mayK + 2 * x.l1.length + x.a0.toNat + x.l5.length + 4096 + 20 := rfl
  have hMd : x.mayK = x.l1.length + x.l2.length + x.l3.length + x.l4.length + x.l5.length + 8 := rfl
  intro d
  induction d with
  | zero =>
    intro n Lc L0 hn h1 h2 hg hl hat k hk
    obtain ⟨k, rfl⟩ : ∃ k', k = k' + 1 := ⟨k - 1, by omega⟩
    have hnn : n = 2 ^ m := by omega
    subst hnn
    rw [h1] at h2
    injection h2 with h2
    subst h2
    have c1 : 0 ≤ IntKind.u64.wrap x.a0 := by rw [hm, u64_small (by omega)]; omega
    have c2 : ¬ ((2 ^ m : Nat) : Int) < shl .i64 1 (IntKind.u64.wrap x.a0) := by rw [hm, shl_one hm10]; omega
    have e5 : (at_ : Int) + 1 = ((at_ + 1 : Nat) : Int) := by omega
    have w4 : wrap64 ((at_ : Int) + 1) = ((at_ + 1 : Nat) : Int) := (w64 (by omega) (by omega)).trans e5
    rw [inquestref27_All.l2, if_pos c1, if_neg c2, w4]
    exact hnext k (by omega)
  | succ d ih =>
    intro n Lc L0 hn h1 h2 hg hl hat k hk
    obtain ⟨k, rfl⟩ : ∃ k', k = k' + 1 := ⟨k - 1, by omega⟩
    have hnlt : n < 2 ^ m := by omega
    have hne : x.innerS at_ m L0 (n + 1) ≠ none := fun h => by
      have := innerS_none h (2 ^ m) (by omega)
      rw [h2] at this; cases this
    have hbind : x.innerS at_ m L0 (n + 1) = x.stepS Lc at_ (wayS n m) := by
      show (x.innerS at_ m L0 n).bind _ = _
      rw [h1]; rfl
    obtain ⟨Ln, hLn⟩ : ∃ Ln, x.stepS Lc at_ (wayS n m) = some Ln := by
      rw [hbind] at hne
      cases h : x.stepS Lc at_ (wayS n m) with
      | none => exact absurd h hne
      | some Ln => exact ⟨Ln, rfl⟩
    have hat0 : m = x.a0.toNat := by omega
    obtain ⟨g1, g2, g3⟩ := stepS_good hat hl hg (by rw [wayS_length, hat0]) (wayS_bit n m) hLn
    obtain ⟨p1, p2, p3, p4, p5, p6, p7⟩ := hg at_ hat
    have hgs : gS Lc at_ = Lc[at_] := gS_eq hat
    have c1 : 0 ≤ IntKind.u64.wrap x.a0 := by rw [hm, u64_small (by omega)]; omega
    have c2 : (n : Int) < shl .i64 1 (IntKind.u64.wrap x.a0) := by rw [hm, shl_one hm10]; omega
    have c3 : 0 ≤ (at_ : Int) := by omega
    have c4 : (at_ : Int) < (Lc.length : Int) := by omega
    have hway : inquestref27_ways.f k (n : Int) x.a0 = some (wayS n m) := by rw [hm]; exact way_ref n m k hm10 (by omega)
    have hb1 : Bytes Lc[at_].f0 := bytes_bit p2
    have hb2 : Bytes (wayS n m) := bytes_bit (fun v hv => by have := wayS_bit n m v hv; omega)
    have hfr := frame_ref x fit Lc[at_].f0 (wayS n m) hmay (values_bit (by rw [p1]) p2) (values_bit (by rw [wayS_length]; omega) (fun v hv => by have := wayS_bit n m v hv; omega)) hb1 hb2 (by omega) (by rw [wayS_length]; omega) k (by rw [wayS_length]; omega)
    have hV : Bytes (x.frameS Lc[at_].f0 (wayS n m)) := frameS_bytes x _ _ hb1 hb2
    have hhe := held_ref x fit (x.frameS Lc[at_].f0 (wayS n m)) hV k (by omega)
    have hnb : Bytes (x.nextS (x.frameS Lc[at_].f0 (wayS n m))) := bytes_bit (nextS_range x _ hV)
    obtain ⟨r, hw1, hw2⟩ := where_ref Lc (x.nextS (x.frameS Lc[at_].f0 (wayS n m))) (fun t ht => by
      obtain ⟨j, hj, rfl⟩ := List.getElem_of_mem ht
      exact bytes_bit (hg j hj).2.1) hnb hl k (by omega)
    have e5 : (n : Int) + 1 = ((n + 1 : Nat) : Int) := by omega
    have w4 : wrap64 ((n : Int) + 1) = ((n + 1 : Nat) : Int) := (w64 (by omega) (by omega)).trans e5
    have hgo : ∀ k, B + 2 * d + 1 < k → inquestref27_All.l2 k Ln (at_ : Int) ((n + 1 : Nat) : Int) x.a0 x.l1 x.l2 x.l3 x.l4 x.l5 = some R :=
      ih (n + 1) Ln L0 (by omega) (hbind.trans hLn) h2 g1 g2 (by omega)
    rw [inquestref27_All.l2, if_pos c1, if_pos c2, hway]
    simp only [Option.bind_some]
    rw [if_pos c3, if_pos c4, rd_T43_get hat, hfr]
    simp only [Option.bind_some]
    rw [hhe]
    simp only [Option.bind_some]
    have hj : ∀ b, b = (!x.heldS (x.frameS (gS Lc at_).f0 (wayS n m)) || (Lc.map (fun s => s.f0)).contains (x.nextS (x.frameS (gS Lc at_).f0 (wayS n m)))) →
        inquestref27_All.j4 k Lc (at_ : Int) (n : Int) (wayS n m) (x.nextS (x.frameS Lc[at_].f0 (wayS n m))) b x.a0 x.l1 x.l2 x.l3 x.l4 x.l5 = some R := by
      intro b hb
      obtain ⟨k, rfl⟩ : ∃ k', k = k' + 1 := ⟨k - 1, by omega⟩
      unfold CP.stepS at hLn
      have hgd : Lc.getD at_ z43 = gS Lc at_ := rfl
      simp only [hgd] at hLn
      rw [← hb] at hLn
      cases b
      · rw [if_neg (by simp)] at hLn
        by_cases e : Lc.length = 4096
        · rw [if_pos e] at hLn; cases hLn
        · rw [if_neg e] at hLn
          injection hLn with hLn
          rw [inquestref27_All.j4, if_neg (by simp), if_neg (by omega), if_pos c3, if_pos c4, if_pos (by omega), w4, rd_T43_get hat]
          have hw : wrap64 (Lc[at_].f1 + 1) = Lc[at_].f1 + 1 := w64 (by omega) (by omega)
          rw [hw]
          rw [hgs] at hLn
          rw [hLn]
          exact hgo k (by omega)
      · rw [if_pos rfl] at hLn
        injection hLn with hLn
        rw [inquestref27_All.j4, if_pos rfl, w4, hLn]
        exact hgo k (by omega)
    cases hh : x.heldS (x.frameS Lc[at_].f0 (wayS n m))
    · rw [if_neg (by simp)]
      exact hj true (by rw [hgs, hh]; rfl)
    · rw [if_pos rfl, hw1]
      simp only [Option.bind_some]
      exact hj _ (by rw [hgs, hh, hw2]; rfl)
theorem l1_run {x : CP} (fit : x.Fit) (hmay : x.may = true) (m : Nat) (hm : x.a0 = (m : Int)) (hm10 : m ≤ 10) (Lf : List S43) :
    ∀ (K at_ : Nat) (L : List S43), x.outerS K at_ L = some Lf → x.Good L → L.length ≤ 4096 → at_ ≤ 4097 → ∀ k, x.wayK + K * (2 * 2 ^ m + 4) < k → inquestref27_All.l1 k L (at_ : Int) x.a0 x.l1 x.l2 x.l3 x.l4 x.l5 = some (Lf, 0) := by
  intro K
  induction K with
  | zero => intro at_ L h; cases h
  | succ K ih =>
    intro at_ L h hg hl hat k hk
    obtain ⟨k, rfl⟩ : ∃ k', k = k' + 1 := ⟨k - 1, by omega⟩
    have hmul : (K + 1) * (2 * 2 ^ m + 4) = K * (2 * 2 ^ m + 4) + (2 * 2 ^ m + 4) := Nat.succ_mul _ _
    unfold CP.outerS at h
    by_cases hlt : at_ < L.length
    · rw [if_pos hlt] at h
      obtain ⟨L2, h1, h2⟩ := Option.bind_eq_some_iff.1 h
      have hat0 : x.a0.toNat = m := by omega
      rw [hat0] at h1
      obtain ⟨g1, g2, g3⟩ := innerS_good hat0.symm hlt hl hg _ _ h1
      rw [inquestref27_All.l1, if_pos (by omega)]
      exact l2_run fit hmay m hm hm10 at_ L2 (Lf, 0) (x.wayK + K * (2 * 2 ^ m + 4)) (by omega) (fun k hk => ih (at_ + 1) L2 h2 g1 g2 (by omega) k hk) (2 ^ m) 0 L L (by omega) rfl h1 hg hl hlt k (by omega)
    · rw [if_neg hlt] at h
      injection h with h
      subst h
      rw [inquestref27_All.l1, if_neg (by omega)]
theorem l0_run {x : CP} (fit : x.Fit) (hf : x.freeS.length ≤ 10) (R : List S43 × Int) (B : Nat) (hB : x.wayK ≤ B) (hnext : ∀ k, B < k → inquestref27_All.l1 k x.firstsS 0 x.a0 x.l1 x.l2 x.l3 x.l4 x.l5 = some R) :
    ∀ (d n : Nat) (acc : List S43), n + d = 2 ^ x.freeS.length → acc = (List.range n).map x.firstS → ∀ k, B + d + 1 < k → inquestref27_All.l0 k acc (n : Int) x.a0 x.l1 x.l2 x.l3 x.l4 x.l5 = some R := by
  have hpow : (2 : Nat) ^ x.freeS.length ≤ 1024 := Nat.le_trans (Nat.pow_le_pow_right (by decide) hf) (by decide)
  have hKd : x.wayK = x.mayK + 2 * x.l1.length + x.a0.toNat + x.l5.length + 4096 + 20 := rfl
  intro d
  induction d with
  | zero =>
    intro n acc hn ha k hk
    obtain ⟨k, rfl⟩ : ∃ k', k = k' + 1 := ⟨k - 1, by omega⟩
    have hnn : n = 2 ^ x.freeS.length := by omega
    have c1 : 0 ≤ IntKind.u64.wrap (x.freeS.length : Int) := by rw [u64_small (by omega)]; omega
    have c2 : ¬ (n : Int) < shl .i64 1 (IntKind.u64.wrap (x.freeS.length : Int)) := by rw [shl_one hf]; omega
    rw [inquestref27_All.l0, free_ref x fit k (by omega)]
    simp only [Option.bind_some]
    rw [if_pos c1, if_neg c2, ha, hnn]
    exact hnext k (by omega)
  | succ d ih =>
    intro n acc hn ha k hk
    obtain ⟨k, rfl⟩ : ∃ k', k = k' + 1 := ⟨k - 1, by omega⟩
    have hlen : acc.length = n := by rw [ha]; simp
    have hA := ih (n + 1) (acc ++ [x.firstS n]) (by omega) (by rw [ha, List.range_succ, List.map_append]; rfl) k (by omega)
    have hF := first_ref x fit n k (by omega) (by omega)
    have hG := free_ref x fit k (by omega)
    have c5 : acc.length < 2199023255552 := by omega
    have c1 : 0 ≤ IntKind.u64.wrap (x.freeS.length : Int) := by rw [u64_small (by omega)]; omega
    have c2 : (n : Int) < shl .i64 1 (IntKind.u64.wrap (x.freeS.length : Int)) := by rw [shl_one hf]; omega
    have e5 : (n : Int) + 1 = ((n + 1 : Nat) : Int) := by omega
    have w4 : wrap64 ((n : Int) + 1) = ((n + 1 : Nat) : Int) := (w64 (by omega) (by omega)).trans e5
    rw [inquestref27_All.l0, hG]
    simp only [Option.bind_some]
    rw [if_pos c1, if_pos c2, hF]
    simp only [Option.bind_some]
    rw [if_pos c5, w4]
    exact hA
def CP.allK (x : CP) : Nat := x.wayK + 4097 * (2 * 2 ^ x.a0.toNat + 4) + 1100
theorem all_ref (x : CP) (fit : x.Fit) (h7 : x.l1.length ≤ 7) (h4 : x.a0 ≤ 4 ∨ 10 < x.a0) (k : Nat) (hk : x.allK ≤ k) : inquestref27_All.f k x.a0 x.l1 x.l2 x.l3 x.l4 x.l5 = some x.allS := by
  have hKd : x.wayK = x.mayK + 2 * x.l1.length + x.a0.toNat + x.l5.length + 4096 + 20 := rfl
  have hAd : x.allK = x.wayK + 4097 * (2 * 2 ^ x.a0.toNat + 4) + 1100 := rfl
  have hfl := freeS_le x
  obtain ⟨k, rfl⟩ : ∃ k', k = k' + 1 := ⟨k - 1, by omega⟩
  unfold inquestref27_All.f
  rw [may_ref x fit _ (by omega)]
  simp only [Option.bind_some]
  cases hmay : x.may
  · rw [if_neg (by simp)]
    unfold CP.allS
    rw [if_pos hmay]
  · rw [if_pos rfl]
    rcases h4 with h4 | h4
    · rw [if_neg (by omega), free_ref x fit _ (by omega)]
      simp only [Option.bind_some]
      obtain ⟨L, hw⟩ := walked x fit hmay h4 h7
      have hx0 := may_nonneg hmay
      rw [decide_eq_false (by omega), hw.all]
      have hwk : x.walkS = some L := by
        have h := hw.all
        unfold CP.allS at h
        rw [if_neg (by rw [hmay]; simp)] at h
        split at h
        · exact absurd (congrArg Prod.snd h) (show ¬ ((3 : Int) = 0) by decide)
        · split at h
          · rename_i L2 h2
            rw [h2]; exact congrArg some (congrArg Prod.fst h)
          · exact absurd (congrArg Prod.snd h) (show ¬ ((3 : Int) = 0) by decide)
      rw [inquestref27_All.j0, if_neg (by simp)]
      have hfi := firstsS_length x (by omega)
      have h2p : (2 : Nat) ^ x.freeS.length ≤ 2 ^ 7 := Nat.pow_le_pow_right (by decide) (by omega)
      have h27 : (2 : Nat) ^ 7 = 128 := by decide
      exact l0_run fit (by omega) (L, 0) (x.wayK + 4097 * (2 * 2 ^ x.a0.toNat + 4)) (by omega)
        (fun k hk => l1_run fit hmay x.a0.toNat (by omega) (by omega) L 4097 0 x.firstsS hwk (firstsS_good fit hmay) (by omega) (by omega) k hk) (2 ^ x.freeS.length) 0 [] (by omega) rfl k (by omega)
    · rw [if_pos (by omega), inquestref27_All.j0, if_pos rfl]
      unfold CP.allS
      have hwd : x.wide = true := by
        unfold CP.wide
        refine decide_eq_true ?_
        split <;> omega
      rw [if_neg (by rw [hmay]; simp), if_pos hwd]
end Go.Proofs.Ytdjhjgfjhicbfaa.PWalkTells
namespace Go.Proofs.Ytdjhjgfjhicbfaa.PWalkTells
open Go.RowKit Go.Shelf Go.Maps Go.Proofs.YtdjhjgfjhicbfaaW.PrintWords Go.Proofs.YtdjhjgfjhicbfaaW.PrintLast Go.Proofs.YtdjhjgfjhicbfaaW.PrintMore
set_option linter.unusedVariables false
set_option linter.unusedSimpArgs false
set_option maxHeartbeats 1000000 in
theorem equal_calls (A0 : Option Addr) (c0 : Nat) (l0 : List Int) (A1 : Option Addr) (c1 : Nat) (l1 : List Int) (w : World) (hr0 : Kd.C (Kd.int .u8) w A0 l0.length l0) (hr1 : Kd.C (Kd.int .u8) w A1 l1.length l1) (h0 : Bytes l0) (h1 : Bytes l1) :
    Calls Try.prog 60 #[.slice A0 l0.length c0, .slice A1 l1.length c1] w fun e w' => e = .returned (.bool (decide (l0 = l1))) ∧ Drawn0 w w' := by
  have HB := Aside0.mk (beq_nums h0 h1)
  have hcv3 := Kd.C_string (P := Try.prog) (A := A0) (c := c0) Try.underlying27 Try.underlying5 Try.underlying9 hr0
  have hcv4 := Kd.C_string (P := Try.prog) (A := A1) (c := c1) Try.underlying27 Try.underlying5 Try.underlying9 hr1
  clear hr0 hr1 h0 h1
  go_enter Try.func60, Try.ntmps60
  go_wp2
  go_ret
  exact ⟨by rw [← HB.out]; rfl, by repeat (first | exact Drawn0.refl _ | apply Drawn0.step)⟩
def alikeS (s t : S43) : Bool := decide (s.f1 = t.f1) && decide (s.f2 = t.f2) && decide (s.f0 = t.f0) && decide (s.f3 = t.f3)
def S43.Bytes (s : S43) : Prop := PWalkTells.Bytes s.f0 ∧ PWalkTells.Bytes s.f3
structure S43.In (s : S43) (w : World) (A0 : Option Addr) (c0 : Nat) (A3 : Option Addr) (c3 : Nat) : Prop where
  r0 : Kd.C (Kd.int .u8) w A0 s.f0.length s.f0
  r3 : Kd.C (Kd.int .u8) w A3 s.f3.length s.f3
structure S43.At (s : S43) (w : World) (gb : Nat) (A0 : Option Addr) (c0 : Nat) (A3 : Option Addr) (c3 : Nat) : Prop where
  blk : w.heap[gb]? = some (.cells #[.slice A0 s.f0.length c0, .int .i64 s.f1, .int .i64 s.f2, .slice A3 s.f3.length c3] 43 (0, 0))
  s0 : w.cell? ⟨gb, 0, none⟩ = some (.slice A0 s.f0.length c0)
  s1 : w.cell? ⟨gb, 1, none⟩ = some (.int .i64 s.f1)
  s2 : w.cell? ⟨gb, 2, none⟩ = some (.int .i64 s.f2)
  s3 : w.cell? ⟨gb, 3, none⟩ = some (.slice A3 s.f3.length c3)
theorem s43_at {s : S43} {w : World} {gb : Nat} {A0 : Option Addr} {c0 : Nat} {A3 : Option Addr} {c3 : Nat} (h : w.heap[gb]? = some (.cells #[.slice A0 s.f0.length c0, .int .i64 s.f1, .int .i64 s.f2, .slice A3 s.f3.length c3] 43 (0, 0))) : s.At w gb A0 c0 A3 c3 :=
  ⟨h, cell_blk h 0 _ rfl, cell_blk h 1 _ rfl, cell_blk h 2 _ rfl, cell_blk h 3 _ rfl⟩
set_option maxHeartbeats 4000000 in
theorem alike_calls (s t : S43) (A0 : Option Addr) (c0 : Nat) (A3 : Option Addr) (c3 : Nat) (B0 : Option Addr) (d0 : Nat) (B3 : Option Addr) (d3 : Nat) (w : World) (hs : s.In w A0 c0 A3 c3) (ht : t.In w B0 d0 B3 d3) (bs : s.Bytes) (bt : t.Bytes) :
    Calls Try.prog 44 #[.agg #[.slice A0 s.f0.length c0, .int .i64 s.f1, .int .i64 s.f2, .slice A3 s.f3.length c3], .agg #[.slice B0 t.f0.length d0, .int .i64 t.f1, .int .i64 t.f2, .slice B3 t.f3.length d3]] w fun e w' => e = .returned (.bool (alikeS s t)) ∧ Below w.heap.size w w' := by
  obtain ⟨W1, hW1⟩ : ∃ W1, W1 = (w.alloc (.cells #[.slice A0 s.f0.length c0, .int .i64 s.f1, .int .i64 s.f2, .slice A3 s.f3.length c3] 43)).alloc (.cells #[.slice B0 t.f0.length d0, .int .i64 t.f1, .int .i64 t.f2, .slice B3 t.f3.length d3] 43) := ⟨_, rfl⟩
  have hbA : Below w.heap.size w (w.alloc (.cells #[.slice A0 s.f0.length c0, .int .i64 s.f1, .int .i64 s.f2, .slice A3 s.f3.length c3] 43)) := (Below.refl _ _).alloc (Nat.le_refl _) _
  have hb1 : Below w.heap.size w W1 := by rw [hW1]; exact hbA.alloc hbA.size _
  have hat : s.At W1 w.heap.size A0 c0 A3 c3 := by rw [hW1]; exact s43_at (blk_below (heap_alloc_at _ _) ((Below.refl _ _).alloc (Nat.le_refl _) _))
  have hbt : t.At W1 (w.heap.size + 1) B0 d0 B3 d3 := by
    rw [hW1]
    have : (w.alloc (.cells #[.slice A0 s.f0.length c0, .int .i64 s.f1, .int .i64 s.f2, .slice A3 s.f3.length c3] 43)).heap.size = w.heap.size + 1 := by simp
    rw [← this]; exact s43_at (heap_alloc_at _ _)
  have HE0 := Aside0.mk (fun W (hb : Below w.heap.size w W) => equal_calls A0 c0 s.f0 B0 d0 t.f0 W (Kd.C_below hs.r0 hb) (Kd.C_below ht.r0 hb) bs.1 bt.1)
  have HE3 := Aside0.mk (fun W (hb : Below w.heap.size w W) => equal_calls A3 c3 s.f3 B3 d3 t.f3 W (Kd.C_below hs.r3 hb) (Kd.C_below ht.r3 hb) bs.2 bt.2)
  have HB := Aside0.mk hb1
  have HAT := Aside0.mk hat
  have HBT := Aside0.mk hbt
  rw [hW1] at HB HAT HBT
  obtain ⟨_, a0, a1, a2, a3⟩ := HAT.out
  obtain ⟨_, b0, b1, b2, b3⟩ := HBT.out
  clear hb1 hbA hat hbt hs ht bs bt hW1
  cases e1 : decide (s.f1 = t.f1)
  · have d1 : (s.f1 == t.f1) = false := beq_eq_false_iff_ne.2 (of_decide_eq_false e1)
    have HS : Aside0 (alikeS s t = false) := ⟨by unfold alikeS; rw [e1]; rfl⟩
    clear e1
    go_enter Try.func44, Try.ntmps44
    go_wp2
    go_ret
    exact ⟨by rw [HS.out]; first | done | rfl, HB.out⟩
  · have d1 : (s.f1 == t.f1) = true := beq_iff_eq.2 (of_decide_eq_true e1)
    cases e2 : decide (s.f2 = t.f2)
    · have d2 : (s.f2 == t.f2) = false := beq_eq_false_iff_ne.2 (of_decide_eq_false e2)
      have HS : Aside0 (alikeS s t = false) := ⟨by unfold alikeS; rw [e1, e2]; rfl⟩
      clear e1 e2
      go_enter Try.func44, Try.ntmps44
      go_wp2
      go_ret
      exact ⟨by rw [HS.out]; first | done | rfl, HB.out⟩
    · have d2 : (s.f2 == t.f2) = true := beq_iff_eq.2 (of_decide_eq_true e2)
      cases e3 : decide (s.f0 = t.f0)
      · have HS : Aside0 (alikeS s t = false) := ⟨by unfold alikeS; rw [e1, e2, e3]; rfl⟩
        rw [e3] at HE0
        clear e1 e2 e3
        go_enter Try.func44, Try.ntmps44
        go_wp2_with (go_at_call 60; go_must (refine (HE0.out _ HB.out).mono ?_; rintro e w2 ⟨rfl, hd2⟩; have HB2 := Aside0.mk (HB.out.trans (hd2.below.mono HB.out.size)); clear hd2))
        go_ret
        exact ⟨by rw [HS.out]; first | done | rfl, HB2.out⟩
      · have HS : Aside0 (alikeS s t = decide (s.f3 = t.f3)) := ⟨by unfold alikeS; rw [e1, e2, e3]; rfl⟩
        rw [e3] at HE0
        clear e1 e2 e3
        go_enter Try.func44, Try.ntmps44
        go_wp2_with (first
          | (go_at_call 60; refine (HE3.out _ HB2.out).mono ?_; rintro e w3 ⟨rfl, hd3⟩; have HB3 := Aside0.mk (HB2.out.trans (hd3.below.mono HB2.out.size)); clear hd3)
          | (go_at_call 60; (refine (HE0.out _ HB.out).mono ?_; rintro e w2 ⟨rfl, hd2⟩; have HB2 := Aside0.mk (HB.out.trans (hd2.below.mono HB.out.size)); have a0' := cell_blk (blk_below HAT.out.blk hd2.below) 0 _ rfl; have a3' := cell_blk (blk_below HAT.out.blk hd2.below) 3 _ rfl; have b3' := cell_blk (blk_below HBT.out.blk hd2.below) 3 _ rfl; clear hd2)))
        go_ret
        exact ⟨by rw [HS.out]; first | done | rfl, HB3.out⟩
def alikeP (p : S43 × S43) : Bool := alikeS p.1 p.2
def sameS (L1 L2 : List S43) : Bool := decide (L1.length = L2.length) && (L1.zip L2).all alikeP
theorem alikeS_self (s : S43) : alikeS s s = true := by simp [alikeS]
theorem sameS_self (L : List S43) : sameS L L = true := by
  unfold sameS
  rw [decide_eq_true rfl, Bool.true_and, List.all_eq_true]
  intro p hp
  obtain ⟨i, hi, rfl⟩ := List.getElem_of_mem hp
  rw [List.getElem_zip]
  exact alikeS_self _
theorem enters_alike : Enters Try.prog 44 := enters_of Try.func44 (by kernel_rfl) rfl
set_option maxHeartbeats 4000000 in
set_option maxRecDepth 100000 in
theorem same_calls (L1 L2 : List S43) (A1 : Option Addr) (c1 : Nat) (A2 : Option Addr) (c2 : Nat) (w : World) (hr1 : Kd.C k43 w A1 L1.length L1) (hr2 : Kd.C k43 w A2 L2.length L2) (b1 : ∀ s ∈ L1, s.Bytes) (b2 : ∀ s ∈ L2, s.Bytes) :
    Calls Try.prog 43 #[.slice A1 L1.length c1, .slice A2 L2.length c2, .func (.func 44) #[] #[]] w fun e w' => e = .returned (.bool (sameS L1 L2)) ∧ Below w.heap.size w w' := by
  have hF' := enters_alike
  unfold Enters at hF'
  have hl1 : L1.length ≤ 9223372036854775807 := hr1.2.1
  have hl2 : L2.length ≤ 9223372036854775807 := hr2.2.1
  have HR1 := Aside0.mk hr1
  have HR2 := Aside0.mk hr2
  have HB1 := Aside0.mk b1
  have HB2 := Aside0.mk b2
  clear hr1 hr2 b1 b2
  by_cases hlen : L1.length = L2.length
  · have HS : Aside0 (sameS L1 L2 = (L1.zip L2).all alikeP) := ⟨by unfold sameS; rw [decide_eq_true hlen, Bool.true_and]⟩
    have hne : ((L1.length : Int) != (L2.length : Int)) = false := by rw [hlen]; simp
    have HLEN := Aside0.mk hlen
    clear hlen
    go_enter Try.func43, Try.ntmps43
    go_wp2
    go_loopw [17] (fun v wr => ∃ k : Nat, k ≤ L1.length ∧ v = .int .i64 k ∧ Aside0 (((L1.drop k).zip (L2.drop k)).all alikeP = (L1.zip L2).all alikeP) ∧ Aside0 (Below w.heap.size w wr)) (fun v _ => L1.length - (intOf v).toNat)
    case atStart => exact ⟨0, by omega, rfl, ⟨rfl⟩, ⟨Below.refl _ _⟩⟩
    case round =>
      obtain ⟨k, hk, rfl, HQ, HB⟩ := hrel
      by_cases hlt : k < L1.length
      · have hlt2 : k < L2.length := by have := HLEN.out; omega
        obtain ⟨ad, A0, c0, A3, c3, e1, gs0, gs1, gs2, gs3, gm0, gr0, gm3, gr3⟩ := at_state (Kd.C_below HR1.out HB.out) k hlt
        obtain ⟨ad2, B0, d0, B3, d3, e2, hs0, hs1, hs2, hs3, hm0, hr0, hm3, hr3⟩ := at_state (Kd.C_below HR2.out HB.out) k hlt2
        have HST := HQ.out
        rw [List.drop_eq_getElem_cons hlt, List.drop_eq_getElem_cons hlt2, List.zip_cons_cons, List.all_cons] at HST
        have bs := HB1.out _ (List.getElem_mem hlt)
        have bt := HB2.out _ (List.getElem_mem hlt2)
        obtain ⟨s, hs⟩ : ∃ s, s = L1[k] := ⟨_, rfl⟩
        obtain ⟨t, ht⟩ : ∃ t, t = L2[k] := ⟨_, rfl⟩
        rw [← hs] at gs0 gs1 gs2 gs3 gr0 gr3 HST bs
        rw [← ht] at hs0 hs1 hs2 hs3 hr0 hr3 HST bt
        have HST2 := Aside0.mk HST
        have HAL := Aside0.mk (fun W (hb : Below wr.heap.size wr W) => alike_calls s t A0 c0 A3 c3 B0 d0 B3 d3 W ⟨Kd.C_below gr0 hb, Kd.C_below gr3 hb⟩ ⟨Kd.C_below hr0 hb, Kd.C_below hr3 hb⟩ bs bt)
        have hba : Below wr.heap.size wr (wr.alloc (.cells #[.slice A0 s.f0.length c0, .int .i64 s.f1, .int .i64 s.f2, .slice A3 s.f3.length c3] 43)) := (Below.refl _ _).alloc (Nat.le_refl _) _
        have hbb : Below wr.heap.size wr ((wr.alloc (.cells #[.slice A0 s.f0.length c0, .int .i64 s.f1, .int .i64 s.f2, .slice A3 s.f3.length c3] 43)).alloc (.cells #[.slice B0 t.f0.length d0, .int .i64 t.f1, .int .i64 t.f2, .slice B3 t.f3.length d3] 43)) := hba.alloc hba.size _
        have HBB := Aside0.mk hbb
        have HAD := Aside0.mk e1
        have HAD2 := Aside0.mk e2
        have hq : ∀ o p v, wr.cell? p = some v → (wr.alloc o).cell? p = some v := fun o p v h => ((((Below.refl wr.heap.size wr).alloc (Nat.le_refl _) o)).cell (World.block_lt_of_cell? wr p h)).trans h
        have ks0 := fun o => hq o _ _ hs0
        have ks1 := fun o => hq o _ _ hs1
        have ks2 := fun o => hq o _ _ hs2
        have ks3 := fun o => hq o _ _ hs3
        rw [e1, e2]
        clear HST gm0 gr0 gm3 gr3 hm0 hr0 hm3 hr3 hs ht e1 e2 hba hbb hq bs bt
        cases hal : alikeS s t
        · rw [hal] at HAL
          have HF : Aside0 ((L1.zip L2).all alikeP = false) := ⟨by rw [← HST2.out]; show (alikeS s t && _) = false; rw [hal]; rfl⟩
          clear hal
          go_wp2_with (go_at_fn 44; go_must (refine (HAL.out _ HBB.out).mono ?_; rintro e w7 ⟨rfl, hb7⟩; have HB7 := Aside0.mk (HB.out.trans ((HBB.out.trans (hb7.mono HBB.out.size)).mono HB.out.size)); clear hb7))
          go_ret
          exact ⟨by rw [HS.out, HF.out]; first | done | rfl, HB7.out⟩
        · rw [hal] at HAL
          have HN : Aside0 (((L1.drop (k + 1)).zip (L2.drop (k + 1))).all alikeP = (L1.zip L2).all alikeP) := ⟨by rw [← HST2.out]; show _ = (alikeS s t && _); rw [hal]; rfl⟩
          clear hal
          go_wp2_with (go_at_fn 44; go_must (refine (HAL.out _ HBB.out).mono ?_; rintro e w7 ⟨rfl, hb7⟩; have HB7 := Aside0.mk (HB.out.trans ((HBB.out.trans (hb7.mono HBB.out.size)).mono HB.out.size)); clear hb7))
          exact ⟨⟨k + 1, by omega, by go_num, HN, HB7⟩, by simp [intOf]; omega⟩
      · have HT : Aside0 ((L1.zip L2).all alikeP = true) := ⟨by
          rw [← HQ.out, List.drop_eq_nil_of_le (by omega)]; rfl⟩
        clear HQ
        go_wp2
        go_ret
        exact ⟨by rw [HS.out, HT.out]; first | done | rfl, HB.out⟩
  · have HS : Aside0 (sameS L1 L2 = false) := ⟨by unfold sameS; rw [decide_eq_false hlen, Bool.false_and]⟩
    have hne : ((L1.length : Int) != (L2.length : Int)) = true := by
      rw [bne_iff_ne]; omega
    go_enter Try.func43, Try.ntmps43
    go_wp2
    go_ret
    exact ⟨by rw [HS.out]; first | done | rfl, Below.refl _ _⟩
end Go.Proofs.Ytdjhjgfjhicbfaa.PWalkTells
namespace Go.Proofs.Ytdjhjgfjhicbfaa.PWalkTells
open Go.RowKit Go.Shelf Go.Maps Go.Proofs.YtdjhjgfjhicbfaaW.PrintWords Go.Proofs.YtdjhjgfjhicbfaaW.PrintLast Go.Proofs.YtdjhjgfjhicbfaaW.PrintMore
set_option linter.unusedVariables false
set_option linter.unusedSimpArgs false
theorem enters_one : Enters Try.prog 42 := enters_of Try.func42 (by kernel_rfl) rfl
theorem one_calls (v : Int) (w : World) : Calls Try.prog 42 #[.int .u8 v] w fun e w' => e = .returned (.bool (decide (1 < v))) ∧ Below w.heap.size w w' := by
  go_enter Try.func42, Try.ntmps42
  go_wp2
  go_ret
  exact ⟨rfl, Below.refl _ _⟩
theorem results_ct {P : Program} {fn : Func} {p q : Tmp} {ty : TypeId} (h : fn.results = #[.cell p ty, .tmp q]) {tmps : Array Value} {w : World} {a : Addr} {u v : Value}
    (hp : tmps.getD p undef = .pointer (some a)) (hq : tmps.getD q undef = v) (hr : (loadVar ty a).run P w = .ok u w) : (results fn tmps).run P w = .ok (.tuple #[u, v]) w := by
  have hp' : tmps[p]?.getD undef = .pointer (some a) := by simpa using hp
  have hq' : tmps[q]?.getD undef = v := by simpa using hq
  simp [results, h, hp', hq', asAddr, hr]
set_option maxHeartbeats 4000000 in
set_option maxRecDepth 100000 in
theorem to_calls (x : CP) (L : List S43) (at_ : Nat) (i : Int) (A : Option Addr) (c : Nat) (Al : Option Addr) (cl : Nat) (last : List Int) (w : World) (ok : x.Ok w) (fit : x.Fit) (hall : x.allS = (L, 0)) (hbad : x.badS i = true) (hL : Leads L) (hLB : ∀ s ∈ L, s.Bytes)
    (hat : at_ < L.length) (hd : L[at_].f1 < 256) (hll : (last.length : Int) = x.a0) (hlast : last.length ≤ 17592186044416) (hl1 : ∀ v ∈ last, v ≤ 1) (hr : Kd.C k43 w A L.length L) (hrl : Kd.C (Kd.int .u8) w Al last.length last) :
    Calls Try.prog 19 #[.agg #[.int .i64 x.a0, .slice x.A1 x.l1.length x.c1, .slice x.A2 x.l2.length x.c2, .slice x.A3 x.l3.length x.c3, .slice x.A4 x.l4.length x.c4, .slice x.A5 x.l5.length x.c5], .slice A L.length c, .int .i64 at_, .int .i64 i, .slice Al last.length cl] w fun e w' => ∃ vi vf, e = .returned (.tuple #[.agg #[.int .i64 i, vi, vf], .int .i64 0]) ∧
      Kd.R (Kd.int .u8) 5 w' w.heap.size (fun _ => True) vi (leadInit L at_) ∧ Kd.R kRows 27 w' w.heap.size (fun _ => True) vf (leadFrames L at_ last) ∧ Below w.heap.size w w' := by
  obtain ⟨W1, hW1⟩ : ∃ W1, W1 = (w.alloc (.cells #[.int .i64 x.a0, .slice x.A1 x.l1.length x.c1, .slice x.A2 x.l2.length x.c2, .slice x.A3 x.l3.length x.c3, .slice x.A4 x.l4.length x.c4, .slice x.A5 x.l5.length x.c5] 26)).alloc (.cells #[.int .i64 0, .slice none 0 0, .slice none 0 0] 30) := ⟨_, rfl⟩
  have hbA : Below w.heap.size w (w.alloc (.cells #[.int .i64 x.a0, .slice x.A1 x.l1.length x.c1, .slice x.A2 x.l2.length x.c2, .slice x.A3 x.l3.length x.c3, .slice x.A4 x.l4.length x.c4, .slice x.A5 x.l5.length x.c5] 26)) := (Below.refl _ _).alloc (Nat.le_refl _) _
  have hb1 : Below w.heap.size w W1 := by rw [hW1]; exact hbA.alloc hbA.size _
  have hat1 : x.At W1 w.heap.size := by rw [hW1]; exact (CP.at_alloc x w).below ((Below.refl _ _).alloc (Nat.le_refl _) _)
  have htr1 : W1.heap[w.heap.size + 1]? = some (.cells #[.int .i64 0, .slice none 0 0, .slice none 0 0] 30 (0, 0)) := by
    rw [hW1]
    have : (w.alloc (.cells #[.int .i64 x.a0, .slice x.A1 x.l1.length x.c1, .slice x.A2 x.l2.length x.c2, .slice x.A3 x.l3.length x.c3, .slice x.A4 x.l4.length x.c4, .slice x.A5 x.l5.length x.c5] 26)).heap.size = w.heap.size + 1 := by simp
    rw [← this]; exact heap_alloc_at _ _
  have HBD := Aside0.mk (bad_calls x i W1 (ok.below hb1) fit)
  rw [hbad] at HBD
  have HCT := Aside0.mk (fun W (hb : Below w.heap.size w W) => contains_u8 42 enters_one (fun v => decide (1 < v)) Al cl last W (Kd.C_below hrl hb) (fun v hv W hW => one_calls v W))
  have hany : last.any (fun v => decide (1 < v)) = false := by
    rw [List.any_eq_false]
    intro v hv
    have := hl1 v hv
    simp; omega
  rw [hany] at HCT
  have HALL := Aside0.mk (fun W (hb : Below w.heap.size w W) => all_calls x W (ok.below hb) fit)
  rw [hall] at HALL
  have HLD := Aside0.mk (fun W (hb : Below w.heap.size w W) => lead_calls L at_ i A c Al cl last W hL hat hlast (Kd.C_below hr hb) (Kd.C_below hrl hb))
  have HR := Aside0.mk hr
  have HLB := Aside0.mk hLB
  have HAT := Aside0.mk hat1
  have HTA := Aside0.mk htr1
  have HB := Aside0.mk hb1
  rw [hW1] at HAT HTA HB HBD
  obtain ⟨_, k0, k1, k2, k3, k4, k5⟩ := HAT.out
  have hne : ((last.length : Int) != x.a0) = false := by rw [hll]; simp
  have hlm := hL.1
  have ha0 : (0 : Int) ≤ (at_ : Int) := by omega
  have ha1 : (at_ : Int) < (L.length : Int) := by omega
  have hd2 : decide ((256 : Int) ≤ L[at_].f1) = false := decide_eq_false (by omega)
  clear hb1 hbA hat1 htr1 ok fit hr hrl hall hbad hL hLB hll hl1 hany hd hW1 hlast
  go_enter Try.func19, Try.ntmps19
  go_wp2_with (first
    | (go_at_call 40; go_must (refine HBD.out.mono ?_; rintro e w1 ⟨rfl, hb1⟩; have HA1 := Aside0.mk (HAT.out.below hb1); have HT1 := Aside0.mk (blk_below HTA.out hb1); have HB1 := Aside0.mk (HB.out.trans (hb1.mono HB.out.size)); clear hb1 k0 k1 k2 k3 k4 k5; obtain ⟨_, k0, k1, k2, k3, k4, k5⟩ := HA1.out))
    | (go_at_call 41; go_must (refine (HCT.out _ HB1.out).mono ?_; rintro e w2 ⟨rfl, hb2⟩; have HA2 := Aside0.mk (HA1.out.below hb2); have HT2 := Aside0.mk (blk_below HT1.out hb2); have HB2 := Aside0.mk (HB1.out.trans (hb2.mono HB1.out.size)); clear hb2 k0 k1 k2 k3 k4 k5; obtain ⟨_, k0, k1, k2, k3, k4, k5⟩ := HA2.out))
    | (go_at_call 10; go_must (refine (HALL.out _ HB2.out).mono ?_; rintro e w3 ⟨v3, rfl, ho3, hb3⟩; obtain ⟨A3, c3, e3, _, hr3⟩ := Kd.R_reads ho3; subst e3; have HT3 := Aside0.mk (blk_below HT2.out hb3); have HB3 := Aside0.mk (HB2.out.trans (hb3.mono HB2.out.size)); have HSM := Aside0.mk (same_calls L L A c A3 c3 w3 (Kd.C_below HR.out HB3.out) hr3 HLB.out HLB.out); rw [sameS_self] at HSM; clear ho3 hr3 hb3 k0 k1 k2 k3 k4 k5))
    | (go_at_call 43; go_must (refine HSM.out.mono ?_; rintro e w4 ⟨rfl, hb4⟩; have HT4 := Aside0.mk (blk_below HT3.out hb4); have HB4 := Aside0.mk (HB3.out.trans (hb4.mono HB3.out.size)); obtain ⟨ad, A0, c0, Ab, cb, e4, gs0, gs1, gs2, gs3, _, _, _, _⟩ := at_state (Kd.C_below HR.out HB4.out) at_ hat; subst e4; clear hb4 gs0 gs2 gs3))
    | (go_at_call 45; go_must (refine (HLD.out _ HB4.out).mono ?_; rintro e w5 ⟨vi, vf, rfl, hi5, hf5, hb5⟩; obtain ⟨Ai, ci, ei⟩ := Kd.R_slice hi5; subst ei; obtain ⟨Af, cf, ef⟩ := Kd.R_slice hf5; subst ef; have HT5 := Aside0.mk (blk_below HT4.out hb5); have HB5 := Aside0.mk (HB4.out.trans (hb5.mono HB4.out.size)); have HI5 := Aside0.mk (Kd.R_lower hi5 HB4.out.size); have HF5 := Aside0.mk (Kd.R_lower hf5 HB4.out.size); clear hi5 hf5 hb5; have t0 := cell_blk HT5.out 0 _ rfl; have t1 := cell_blk HT5.out 1 _ rfl; have t2 := cell_blk HT5.out 2 _ rfl; have f0 := blk_frozen HT5.out 0; have f1 := blk_frozen HT5.out 1; have f2 := blk_frozen HT5.out 2)))
  have hend := trace_put HT5.out (.int .i64 i) (.slice Ai (leadInit L at_).length ci) (.slice Af (leadFrames L at_ last).length cf)
  have hkp := trace_keep HT5.out (.int .i64 i) (.slice Ai (leadInit L at_).length ci) (.slice Af (leadFrames L at_ last).length cf)
  refine bodyPost_ret (v := .tuple #[.agg #[.int .i64 i, .slice Ai (leadInit L at_).length ci, .slice Af (leadFrames L at_ last).length cf], .int .i64 0]) (results_ct (fn := Try.f19) rfl (a := ⟨w.heap.size + 1, 0, none⟩) rfl rfl (rv_trace hend rfl)) rfl ?_
  refine ⟨_, _, rfl, R_keepT HI5.out (by decide) hkp, R_keepT HF5.out (by decide) hkp, ((HB5.out.setCell (p := ⟨w.heap.size + 1, 0, none⟩) (by simp) _).setCell (p := ⟨w.heap.size + 1, 1, none⟩) (by simp) _).setCell (p := ⟨w.heap.size + 1, 2, none⟩) (by simp) _⟩
end Go.Proofs.Ytdjhjgfjhicbfaa.PWalkTells
namespace Go.Proofs.Ytdjhjgfjhicbfaa.PWalkTells
open Go.RowKit Go.Shelf Go.Maps Go.Proofs.YtdjhjgfjhicbfaaW.PrintWords Go.Proofs.YtdjhjgfjhicbfaaW.PrintLast Go.Proofs.YtdjhjgfjhicbfaaW.PrintMore
set_option linter.unusedVariables false
set_option linter.unusedSimpArgs false
theorem alikeS_eq {s t : S43} (h : alikeS s t = true) : s = t := by
  unfold alikeS at h
  simp only [Bool.and_eq_true, decide_eq_true_eq] at h
  obtain ⟨⟨⟨h1, h2⟩, h3⟩, h4⟩ := h
  cases s; cases t
  simp only at h1 h2 h3 h4
  subst h1; subst h2; subst h3; subst h4; rfl
theorem sameS_eq {L1 L2 : List S43} (h : sameS L1 L2 = true) : L1 = L2 := by
  unfold sameS at h
  rw [Bool.and_eq_true, decide_eq_true_eq, List.all_eq_true] at h
  obtain ⟨h1, h2⟩ := h
  refine List.ext_getElem h1 fun i a b => ?_
  have hz : i < (L1.zip L2).length := by rw [List.length_zip]; omega
  have := h2 _ (List.getElem_mem hz)
  rw [List.getElem_zip] at this
  exact alikeS_eq this
def CP.toR (x : CP) (L : List S43) (at_ i : Int) (last : List Int) : TrS × Int :=
  if x.badS i = false ∨ (last.length : Int) ≠ x.a0 ∨ last.any (fun v => decide (1 < v)) = true then (TrS.zero, 2)
  else if x.allS.2 ≠ 0 then (TrS.zero, x.allS.2)
  else if sameS L x.allS.1 = false ∨ at_ < 0 ∨ (L.length : Int) ≤ at_ then (TrS.zero, 2)
  else if 256 ≤ (gS L at_.toNat).f1 then (TrS.zero, 3)
  else (⟨i, leadInit L at_.toNat, leadFrames L at_.toNat last⟩, 0)
def ToAns (r : TrS × Int) (w : World) (e : Ending) (w' : World) : Prop := ∃ vi vf, e = .returned (.tuple #[.agg #[.int .i64 r.1.bad, vi, vf], .int .i64 r.2]) ∧ r.1.Is w.heap.size vi vf w' ∧ Below w.heap.size w w'
theorem allS_leads (x : CP) (fit : x.Fit) (h7 : x.l1.length ≤ 7) (h4 : x.a0 ≤ 4 ∨ 10 < x.a0) : Leads x.allS.1 ∧ (∀ s ∈ x.allS.1, s.Bytes) ∧ x.allS.1.length ≤ 4096 := by
  obtain ⟨hg, hl⟩ := allS_good fit
  rcases h4 with h4 | h4
  · refine ⟨leads_of hg hl (by omega) (by omega), ?_, hl⟩
    intro s hs
    obtain ⟨j, hj, rfl⟩ := List.getElem_of_mem hs
    obtain ⟨q1, q2, q3, q4, q5, q6, q7⟩ := hg j hj
    refine ⟨bytes_bit q2, ?_⟩
    by_cases e : x.allS.1[j].f2 = -1
    · cases hmay : x.may
      · have : x.allS = ([], 2) := by unfold CP.allS; rw [if_pos hmay]
        rw [this] at hj; exact absurd hj (by simp)
      · obtain ⟨L, hw⟩ := walked x fit hmay h4 h7
        have hL : x.allS.1 = L := by rw [hw.all]
        have hj' : j < L.length := by rw [← hL]; exact hj
        have e' : L[j].f2 = -1 := by
          have : x.allS.1[j] = L[j] := by simp only [hL]
          rw [← this]; exact e
        obtain ⟨n, en⟩ := root_one hw hmay hj' (by rw [gS_eq hj']; exact e')
        have : x.allS.1[j] = x.firstS n := by rw [← en, gS_eq hj']; simp only [hL]
        rw [this]; intro v hv; exact absurd hv (by simp [CP.firstS])
    · exact bytes_bit (fun v hv => by have := (q7 e).2 v hv; omega)
  · have hnil : x.allS.1 = [] := by
      unfold CP.allS
      split
      · rfl
      · have hwd : x.wide = true := by
          unfold CP.wide
          refine decide_eq_true ?_
          split <;> omega
        rw [if_pos hwd]
    rw [hnil]
    exact ⟨⟨by simp, fun j h => by simp at h⟩, fun s hs => by simp at hs, by simp⟩
end Go.Proofs.Ytdjhjgfjhicbfaa.PWalkTells
namespace Go.Proofs.Ytdjhjgfjhicbfaa.PWalkTells
open Go.RowKit Go.Shelf Go.Maps Go.Proofs.YtdjhjgfjhicbfaaW.PrintWords Go.Proofs.YtdjhjgfjhicbfaaW.PrintLast Go.Proofs.YtdjhjgfjhicbfaaW.PrintMore
set_option linter.unusedVariables false
set_option linter.unusedSimpArgs false
theorem to_zero {w W : World} {er : Int} {e : Ending} {w' : World} (hgt : w.heap.size ≤ w.heap.size + 1) (ht : W.heap[w.heap.size + 1]? = some (.cells #[.int .i64 0, .slice none 0 0, .slice none 0 0] 30 (0, 0))) (hb : Below w.heap.size w W)
    (he : e = .returned (.tuple #[.agg #[.int .i64 0, .slice none 0 0, .slice none 0 0], .int .i64 er])) (hw : w' = ((W.setCell ⟨w.heap.size + 1, 0, none⟩ (.int .i64 0)).setCell ⟨w.heap.size + 1, 1, none⟩ (.slice none 0 0)).setCell ⟨w.heap.size + 1, 2, none⟩ (.slice none 0 0)) : ToAns (TrS.zero, er) w e w' := by
  subst he
  subst hw
  exact ⟨_, _, rfl, TrS.Is.zero _ _, ((hb.setCell (p := ⟨w.heap.size + 1, 0, none⟩) hgt _).setCell (p := ⟨w.heap.size + 1, 1, none⟩) hgt _).setCell (p := ⟨w.heap.size + 1, 2, none⟩) hgt _⟩
set_option maxHeartbeats 4000000 in
set_option maxRecDepth 100000 in
theorem to_bad (x : CP) (L M : List S43) (at_ : Int) (i : Int) (A : Option Addr) (c : Nat) (Al : Option Addr) (cl : Nat) (last : List Int) (w : World) (ok : x.Ok w) (fit : x.Fit) (hM : M = x.allS.1) (hLB : ∀ s ∈ L, s.Bytes) (hMB : ∀ s ∈ M, s.Bytes)
    (hr : Kd.C k43 w A L.length L) (hrl : Kd.C (Kd.int .u8) w Al last.length last) (hbad : x.badS i = false) :
    Calls Try.prog 19 #[.agg #[.int .i64 x.a0, .slice x.A1 x.l1.length x.c1, .slice x.A2 x.l2.length x.c2, .slice x.A3 x.l3.length x.c3, .slice x.A4 x.l4.length x.c4, .slice x.A5 x.l5.length x.c5], .slice A L.length c, .int .i64 at_, .int .i64 i, .slice Al last.length cl] w fun e w' => ToAns (TrS.zero, 2) w e w' := by
  obtain ⟨W1, hW1⟩ : ∃ W1, W1 = (w.alloc (.cells #[.int .i64 x.a0, .slice x.A1 x.l1.length x.c1, .slice x.A2 x.l2.length x.c2, .slice x.A3 x.l3.length x.c3, .slice x.A4 x.l4.length x.c4, .slice x.A5 x.l5.length x.c5] 26)).alloc (.cells #[.int .i64 0, .slice none 0 0, .slice none 0 0] 30) := ⟨_, rfl⟩
  have hbA : Below w.heap.size w (w.alloc (.cells #[.int .i64 x.a0, .slice x.A1 x.l1.length x.c1, .slice x.A2 x.l2.length x.c2, .slice x.A3 x.l3.length x.c3, .slice x.A4 x.l4.length x.c4, .slice x.A5 x.l5.length x.c5] 26)) := (Below.refl _ _).alloc (Nat.le_refl _) _
  have hb1 : Below w.heap.size w W1 := by rw [hW1]; exact hbA.alloc hbA.size _
  have hat1 : x.At W1 w.heap.size := by rw [hW1]; exact (CP.at_alloc x w).below ((Below.refl _ _).alloc (Nat.le_refl _) _)
  have htr1 : W1.heap[w.heap.size + 1]? = some (.cells #[.int .i64 0, .slice none 0 0, .slice none 0 0] 30 (0, 0)) := by
    rw [hW1]
    have : (w.alloc (.cells #[.int .i64 x.a0, .slice x.A1 x.l1.length x.c1, .slice x.A2 x.l2.length x.c2, .slice x.A3 x.l3.length x.c3, .slice x.A4 x.l4.length x.c4, .slice x.A5 x.l5.length x.c5] 26)).heap.size = w.heap.size + 1 := by simp
    rw [← this]; exact heap_alloc_at _ _
  have HBD := Aside0.mk (bad_calls x i W1 (ok.below hb1) fit)
  have HCT := Aside0.mk (fun W (hb : Below w.heap.size w W) => contains_u8 42 enters_one (fun v => decide (1 < v)) Al cl last W (Kd.C_below hrl hb) (fun v hv W hW => one_calls v W))
  have HALL := Aside0.mk (fun W (hb : Below w.heap.size w W) => all_calls x W (ok.below hb) fit)
  have HR := Aside0.mk hr
  have HLB := Aside0.mk hLB
  have HMB := Aside0.mk hMB
  have HAT := Aside0.mk hat1
  have HTA := Aside0.mk htr1
  have HB := Aside0.mk hb1
  have hll : last.length ≤ 9223372036854775807 := hrl.2.1
  have hLl : L.length ≤ 9223372036854775807 := hr.2.1
  rw [hW1] at HAT HTA HB HBD
  obtain ⟨_, k0, k1, k2, k3, k4, k5⟩ := HAT.out
  clear hb1 hbA hat1 htr1 ok fit hr hrl hLB hMB hW1
  rw [hbad] at HBD
  clear hbad
  go_enter Try.func19, Try.ntmps19
  go_wp2_with (first
    | (go_at_call 40; go_must (refine HBD.out.mono ?_; rintro e w1 ⟨rfl, hb1⟩; have HA1 := Aside0.mk (HAT.out.below hb1); have HT1 := Aside0.mk (blk_below HTA.out hb1); have HB1 := Aside0.mk (HB.out.trans (hb1.mono HB.out.size)); clear hb1 k0 k1 k2 k3 k4 k5; have t0 := cell_blk HT1.out 0 _ rfl; have t1 := cell_blk HT1.out 1 _ rfl; have t2 := cell_blk HT1.out 2 _ rfl; have f0 := blk_frozen HT1.out 0; have f1 := blk_frozen HT1.out 1; have f2 := blk_frozen HT1.out 2)))
  refine bodyPost_ret (v := .tuple #[.agg #[.int .i64 0, .slice none 0 0, .slice none 0 0], .int .i64 2]) (results_ct (fn := Try.f19) rfl (a := ⟨w.heap.size + 1, 0, none⟩) rfl rfl (rv_trace (trace_put HT1.out (.int .i64 0) (.slice none 0 0) (.slice none 0 0)) rfl)) rfl ?_
  exact to_zero (Nat.le_add_right _ _) HT1.out HB1.out rfl rfl
set_option maxHeartbeats 4000000 in
set_option maxRecDepth 100000 in
theorem to_len (x : CP) (L M : List S43) (at_ : Int) (i : Int) (A : Option Addr) (c : Nat) (Al : Option Addr) (cl : Nat) (last : List Int) (w : World) (ok : x.Ok w) (fit : x.Fit) (hM : M = x.allS.1) (hLB : ∀ s ∈ L, s.Bytes) (hMB : ∀ s ∈ M, s.Bytes)
    (hr : Kd.C k43 w A L.length L) (hrl : Kd.C (Kd.int .u8) w Al last.length last) (hbad : x.badS i = true) (hlen : (last.length : Int) ≠ x.a0) :
    Calls Try.prog 19 #[.agg #[.int .i64 x.a0, .slice x.A1 x.l1.length x.c1, .slice x.A2 x.l2.length x.c2, .slice x.A3 x.l3.length x.c3, .slice x.A4 x.l4.length x.c4, .slice x.A5 x.l5.length x.c5], .slice A L.length c, .int .i64 at_, .int .i64 i, .slice Al last.length cl] w fun e w' => ToAns (TrS.zero, 2) w e w' := by
  obtain ⟨W1, hW1⟩ : ∃ W1, W1 = (w.alloc (.cells #[.int .i64 x.a0, .slice x.A1 x.l1.length x.c1, .slice x.A2 x.l2.length x.c2, .slice x.A3 x.l3.length x.c3, .slice x.A4 x.l4.length x.c4, .slice x.A5 x.l5.length x.c5] 26)).alloc (.cells #[.int .i64 0, .slice none 0 0, .slice none 0 0] 30) := ⟨_, rfl⟩
  have hbA : Below w.heap.size w (w.alloc (.cells #[.int .i64 x.a0, .slice x.A1 x.l1.length x.c1, .slice x.A2 x.l2.length x.c2, .slice x.A3 x.l3.length x.c3, .slice x.A4 x.l4.length x.c4, .slice x.A5 x.l5.length x.c5] 26)) := (Below.refl _ _).alloc (Nat.le_refl _) _
  have hb1 : Below w.heap.size w W1 := by rw [hW1]; exact hbA.alloc hbA.size _
  have hat1 : x.At W1 w.heap.size := by rw [hW1]; exact (CP.at_alloc x w).below ((Below.refl _ _).alloc (Nat.le_refl _) _)
  have htr1 : W1.heap[w.heap.size + 1]? = some (.cells #[.int .i64 0, .slice none 0 0, .slice none 0 0] 30 (0, 0)) := by
    rw [hW1]
    have : (w.alloc (.cells #[.int .i64 x.a0, .slice x.A1 x.l1.length x.c1, .slice x.A2 x.l2.length x.c2, .slice x.A3 x.l3.length x.c3, .slice x.A4 x.l4.length x.c4, .slice x.A5 x.l5.length x.c5] 26)).heap.size = w.heap.size + 1 := by simp
    rw [← this]; exact heap_alloc_at _ _
  have HBD := Aside0.mk (bad_calls x i W1 (ok.below hb1) fit)
  have HCT := Aside0.mk (fun W (hb : Below w.heap.size w W) => contains_u8 42 enters_one (fun v => decide (1 < v)) Al cl last W (Kd.C_below hrl hb) (fun v hv W hW => one_calls v W))
  have HALL := Aside0.mk (fun W (hb : Below w.heap.size w W) => all_calls x W (ok.below hb) fit)
  have HR := Aside0.mk hr
  have HLB := Aside0.mk hLB
  have HMB := Aside0.mk hMB
  have HAT := Aside0.mk hat1
  have HTA := Aside0.mk htr1
  have HB := Aside0.mk hb1
  have hll : last.length ≤ 9223372036854775807 := hrl.2.1
  have hLl : L.length ≤ 9223372036854775807 := hr.2.1
  rw [hW1] at HAT HTA HB HBD
  obtain ⟨_, k0, k1, k2, k3, k4, k5⟩ := HAT.out
  clear hb1 hbA hat1 htr1 ok fit hr hrl hLB hMB hW1
  rw [hbad] at HBD
  have hne : ((last.length : Int) != x.a0) = true := bne_iff_ne.2 hlen
  clear hbad hlen
  go_enter Try.func19, Try.ntmps19
  go_wp2_with (first
    | (go_at_call 40; go_must (refine HBD.out.mono ?_; rintro e w1 ⟨rfl, hb1⟩; have HA1 := Aside0.mk (HAT.out.below hb1); have HT1 := Aside0.mk (blk_below HTA.out hb1); have HB1 := Aside0.mk (HB.out.trans (hb1.mono HB.out.size)); clear hb1 k0 k1 k2 k3 k4 k5; obtain ⟨_, k0, k1, k2, k3, k4, k5⟩ := HA1.out; have t0 := cell_blk HT1.out 0 _ rfl; have t1 := cell_blk HT1.out 1 _ rfl; have t2 := cell_blk HT1.out 2 _ rfl; have f0 := blk_frozen HT1.out 0; have f1 := blk_frozen HT1.out 1; have f2 := blk_frozen HT1.out 2)))
  refine bodyPost_ret (v := .tuple #[.agg #[.int .i64 0, .slice none 0 0, .slice none 0 0], .int .i64 2]) (results_ct (fn := Try.f19) rfl (a := ⟨w.heap.size + 1, 0, none⟩) rfl rfl (rv_trace (trace_put HT1.out (.int .i64 0) (.slice none 0 0) (.slice none 0 0)) rfl)) rfl ?_
  exact to_zero (Nat.le_add_right _ _) HT1.out HB1.out rfl rfl
set_option maxHeartbeats 4000000 in
set_option maxRecDepth 100000 in
theorem to_any (x : CP) (L M : List S43) (at_ : Int) (i : Int) (A : Option Addr) (c : Nat) (Al : Option Addr) (cl : Nat) (last : List Int) (w : World) (ok : x.Ok w) (fit : x.Fit) (hM : M = x.allS.1) (hLB : ∀ s ∈ L, s.Bytes) (hMB : ∀ s ∈ M, s.Bytes)
    (hr : Kd.C k43 w A L.length L) (hrl : Kd.C (Kd.int .u8) w Al last.length last) (hbad : x.badS i = true) (hlen : (last.length : Int) = x.a0) (hany : last.any (fun v => decide (1 < v)) = true) :
    Calls Try.prog 19 #[.agg #[.int .i64 x.a0, .slice x.A1 x.l1.length x.c1, .slice x.A2 x.l2.length x.c2, .slice x.A3 x.l3.length x.c3, .slice x.A4 x.l4.length x.c4, .slice x.A5 x.l5.length x.c5], .slice A L.length c, .int .i64 at_, .int .i64 i, .slice Al last.length cl] w fun e w' => ToAns (TrS.zero, 2) w e w' := by
  obtain ⟨W1, hW1⟩ : ∃ W1, W1 = (w.alloc (.cells #[.int .i64 x.a0, .slice x.A1 x.l1.length x.c1, .slice x.A2 x.l2.length x.c2, .slice x.A3 x.l3.length x.c3, .slice x.A4 x.l4.length x.c4, .slice x.A5 x.l5.length x.c5] 26)).alloc (.cells #[.int .i64 0, .slice none 0 0, .slice none 0 0] 30) := ⟨_, rfl⟩
  have hbA : Below w.heap.size w (w.alloc (.cells #[.int .i64 x.a0, .slice x.A1 x.l1.length x.c1, .slice x.A2 x.l2.length x.c2, .slice x.A3 x.l3.length x.c3, .slice x.A4 x.l4.length x.c4, .slice x.A5 x.l5.length x.c5] 26)) := (Below.refl _ _).alloc (Nat.le_refl _) _
  have hb1 : Below w.heap.size w W1 := by rw [hW1]; exact hbA.alloc hbA.size _
  have hat1 : x.At W1 w.heap.size := by rw [hW1]; exact (CP.at_alloc x w).below ((Below.refl _ _).alloc (Nat.le_refl _) _)
  have htr1 : W1.heap[w.heap.size + 1]? = some (.cells #[.int .i64 0, .slice none 0 0, .slice none 0 0] 30 (0, 0)) := by
    rw [hW1]
    have : (w.alloc (.cells #[.int .i64 x.a0, .slice x.A1 x.l1.length x.c1, .slice x.A2 x.l2.length x.c2, .slice x.A3 x.l3.length x.c3, .slice x.A4 x.l4.length x.c4, .slice x.A5 x.l5.length x.c5] 26)).heap.size = w.heap.size + 1 := by simp
    rw [← this]; exact heap_alloc_at _ _
  have HBD := Aside0.mk (bad_calls x i W1 (ok.below hb1) fit)
  have HCT := Aside0.mk (fun W (hb : Below w.heap.size w W) => contains_u8 42 enters_one (fun v => decide (1 < v)) Al cl last W (Kd.C_below hrl hb) (fun v hv W hW => one_calls v W))
  have HALL := Aside0.mk (fun W (hb : Below w.heap.size w W) => all_calls x W (ok.below hb) fit)
  have HR := Aside0.mk hr
  have HLB := Aside0.mk hLB
  have HMB := Aside0.mk hMB
  have HAT := Aside0.mk hat1
  have HTA := Aside0.mk htr1
  have HB := Aside0.mk hb1
  have hll : last.length ≤ 9223372036854775807 := hrl.2.1
  have hLl : L.length ≤ 9223372036854775807 := hr.2.1
  rw [hW1] at HAT HTA HB HBD
  obtain ⟨_, k0, k1, k2, k3, k4, k5⟩ := HAT.out
  clear hb1 hbA hat1 htr1 ok fit hr hrl hLB hMB hW1
  rw [hbad] at HBD
  rw [hany] at HCT
  have hne : ((last.length : Int) != x.a0) = false := by rw [hlen]; simp
  clear hbad hlen hany
  go_enter Try.func19, Try.ntmps19
  go_wp2_with (first
    | (go_at_call 40; go_must (refine HBD.out.mono ?_; rintro e w1 ⟨rfl, hb1⟩; have HA1 := Aside0.mk (HAT.out.below hb1); have HT1 := Aside0.mk (blk_below HTA.out hb1); have HB1 := Aside0.mk (HB.out.trans (hb1.mono HB.out.size)); clear hb1 k0 k1 k2 k3 k4 k5; obtain ⟨_, k0, k1, k2, k3, k4, k5⟩ := HA1.out))
    | (go_at_call 41; go_must (refine (HCT.out _ HB1.out).mono ?_; rintro e w2 ⟨rfl, hb2⟩; have HA2 := Aside0.mk (HA1.out.below hb2); have HT2 := Aside0.mk (blk_below HT1.out hb2); have HB2 := Aside0.mk (HB1.out.trans (hb2.mono HB1.out.size)); clear hb2 k0 k1 k2 k3 k4 k5; have t0 := cell_blk HT2.out 0 _ rfl; have t1 := cell_blk HT2.out 1 _ rfl; have t2 := cell_blk HT2.out 2 _ rfl; have f0 := blk_frozen HT2.out 0; have f1 := blk_frozen HT2.out 1; have f2 := blk_frozen HT2.out 2)))
  refine bodyPost_ret (v := .tuple #[.agg #[.int .i64 0, .slice none 0 0, .slice none 0 0], .int .i64 2]) (results_ct (fn := Try.f19) rfl (a := ⟨w.heap.size + 1, 0, none⟩) rfl rfl (rv_trace (trace_put HT2.out (.int .i64 0) (.slice none 0 0) (.slice none 0 0)) rfl)) rfl ?_
  exact to_zero (Nat.le_add_right _ _) HT2.out HB2.out rfl rfl
set_option maxHeartbeats 4000000 in
set_option maxRecDepth 100000 in
theorem to_err (x : CP) (L M : List S43) (at_ : Int) (i : Int) (A : Option Addr) (c : Nat) (Al : Option Addr) (cl : Nat) (last : List Int) (w : World) (ok : x.Ok w) (fit : x.Fit) (hM : M = x.allS.1) (hLB : ∀ s ∈ L, s.Bytes) (hMB : ∀ s ∈ M, s.Bytes)
    (hr : Kd.C k43 w A L.length L) (hrl : Kd.C (Kd.int .u8) w Al last.length last) (hbad : x.badS i = true) (hlen : (last.length : Int) = x.a0) (hany : last.any (fun v => decide (1 < v)) = false) (er : Int) (hall2 : x.allS.2 = er) (her : er ≠ 0) :
    Calls Try.prog 19 #[.agg #[.int .i64 x.a0, .slice x.A1 x.l1.length x.c1, .slice x.A2 x.l2.length x.c2, .slice x.A3 x.l3.length x.c3, .slice x.A4 x.l4.length x.c4, .slice x.A5 x.l5.length x.c5], .slice A L.length c, .int .i64 at_, .int .i64 i, .slice Al last.length cl] w fun e w' => ToAns (TrS.zero, er) w e w' := by
  obtain ⟨W1, hW1⟩ : ∃ W1, W1 = (w.alloc (.cells #[.int .i64 x.a0, .slice x.A1 x.l1.length x.c1, .slice x.A2 x.l2.length x.c2, .slice x.A3 x.l3.length x.c3, .slice x.A4 x.l4.length x.c4, .slice x.A5 x.l5.length x.c5] 26)).alloc (.cells #[.int .i64 0, .slice none 0 0, .slice none 0 0] 30) := ⟨_, rfl⟩
  have hbA : Below w.heap.size w (w.alloc (.cells #[.int .i64 x.a0, .slice x.A1 x.l1.length x.c1, .slice x.A2 x.l2.length x.c2, .slice x.A3 x.l3.length x.c3, .slice x.A4 x.l4.length x.c4, .slice x.A5 x.l5.length x.c5] 26)) := (Below.refl _ _).alloc (Nat.le_refl _) _
  have hb1 : Below w.heap.size w W1 := by rw [hW1]; exact hbA.alloc hbA.size _
  have hat1 : x.At W1 w.heap.size := by rw [hW1]; exact (CP.at_alloc x w).below ((Below.refl _ _).alloc (Nat.le_refl _) _)
  have htr1 : W1.heap[w.heap.size + 1]? = some (.cells #[.int .i64 0, .slice none 0 0, .slice none 0 0] 30 (0, 0)) := by
    rw [hW1]
    have : (w.alloc (.cells #[.int .i64 x.a0, .slice x.A1 x.l1.length x.c1, .slice x.A2 x.l2.length x.c2, .slice x.A3 x.l3.length x.c3, .slice x.A4 x.l4.length x.c4, .slice x.A5 x.l5.length x.c5] 26)).heap.size = w.heap.size + 1 := by simp
    rw [← this]; exact heap_alloc_at _ _
  have HBD := Aside0.mk (bad_calls x i W1 (ok.below hb1) fit)
  have HCT := Aside0.mk (fun W (hb : Below w.heap.size w W) => contains_u8 42 enters_one (fun v => decide (1 < v)) Al cl last W (Kd.C_below hrl hb) (fun v hv W hW => one_calls v W))
  have HALL := Aside0.mk (fun W (hb : Below w.heap.size w W) => all_calls x W (ok.below hb) fit)
  have HR := Aside0.mk hr
  have HLB := Aside0.mk hLB
  have HMB := Aside0.mk hMB
  have HAT := Aside0.mk hat1
  have HTA := Aside0.mk htr1
  have HB := Aside0.mk hb1
  have hll : last.length ≤ 9223372036854775807 := hrl.2.1
  have hLl : L.length ≤ 9223372036854775807 := hr.2.1
  rw [hW1] at HAT HTA HB HBD
  obtain ⟨_, k0, k1, k2, k3, k4, k5⟩ := HAT.out
  clear hb1 hbA hat1 htr1 ok fit hr hrl hLB hMB hW1
  rw [hbad] at HBD
  rw [hany] at HCT
  rw [← hM, hall2] at HALL
  have hne : ((last.length : Int) != x.a0) = false := by rw [hlen]; simp
  have hne2 : (er != 0) = true := bne_iff_ne.2 her
  clear hbad hlen hany hall2 her
  go_enter Try.func19, Try.ntmps19
  go_wp2_with (first
    | (go_at_call 40; go_must (refine HBD.out.mono ?_; rintro e w1 ⟨rfl, hb1⟩; have HA1 := Aside0.mk (HAT.out.below hb1); have HT1 := Aside0.mk (blk_below HTA.out hb1); have HB1 := Aside0.mk (HB.out.trans (hb1.mono HB.out.size)); clear hb1 k0 k1 k2 k3 k4 k5; obtain ⟨_, k0, k1, k2, k3, k4, k5⟩ := HA1.out))
    | (go_at_call 41; go_must (refine (HCT.out _ HB1.out).mono ?_; rintro e w2 ⟨rfl, hb2⟩; have HA2 := Aside0.mk (HA1.out.below hb2); have HT2 := Aside0.mk (blk_below HT1.out hb2); have HB2 := Aside0.mk (HB1.out.trans (hb2.mono HB1.out.size)); clear hb2 k0 k1 k2 k3 k4 k5; obtain ⟨_, k0, k1, k2, k3, k4, k5⟩ := HA2.out))
    | (go_at_call 10; go_must (refine (HALL.out _ HB2.out).mono ?_; rintro e w3 ⟨v3, rfl, ho3, hb3⟩; obtain ⟨A3, c3, e3, _, hr3⟩ := Kd.R_reads ho3; subst e3; have HT3 := Aside0.mk (blk_below HT2.out hb3); have HB3 := Aside0.mk (HB2.out.trans (hb3.mono HB2.out.size)); skip; clear ho3 hr3 hb3 k0 k1 k2 k3 k4 k5; have t0 := cell_blk HT3.out 0 _ rfl; have t1 := cell_blk HT3.out 1 _ rfl; have t2 := cell_blk HT3.out 2 _ rfl; have f0 := blk_frozen HT3.out 0; have f1 := blk_frozen HT3.out 1; have f2 := blk_frozen HT3.out 2)))
  refine bodyPost_ret (v := .tuple #[.agg #[.int .i64 0, .slice none 0 0, .slice none 0 0], .int .i64 er]) (results_ct (fn := Try.f19) rfl (a := ⟨w.heap.size + 1, 0, none⟩) rfl rfl (rv_trace (trace_put HT3.out (.int .i64 0) (.slice none 0 0) (.slice none 0 0)) rfl)) rfl ?_
  exact to_zero (Nat.le_add_right _ _) HT3.out HB3.out rfl rfl
set_option maxHeartbeats 4000000 in
set_option maxRecDepth 100000 in
theorem to_same (x : CP) (L M : List S43) (at_ : Int) (i : Int) (A : Option Addr) (c : Nat) (Al : Option Addr) (cl : Nat) (last : List Int) (w : World) (ok : x.Ok w) (fit : x.Fit) (hM : M = x.allS.1) (hLB : ∀ s ∈ L, s.Bytes) (hMB : ∀ s ∈ M, s.Bytes)
    (hr : Kd.C k43 w A L.length L) (hrl : Kd.C (Kd.int .u8) w Al last.length last) (hbad : x.badS i = true) (hlen : (last.length : Int) = x.a0) (hany : last.any (fun v => decide (1 < v)) = false) (hall2 : x.allS.2 = 0) (hsm : sameS L M = false) :
    Calls Try.prog 19 #[.agg #[.int .i64 x.a0, .slice x.A1 x.l1.length x.c1, .slice x.A2 x.l2.length x.c2, .slice x.A3 x.l3.length x.c3, .slice x.A4 x.l4.length x.c4, .slice x.A5 x.l5.length x.c5], .slice A L.length c, .int .i64 at_, .int .i64 i, .slice Al last.length cl] w fun e w' => ToAns (TrS.zero, 2) w e w' := by
  obtain ⟨W1, hW1⟩ : ∃ W1, W1 = (w.alloc (.cells #[.int .i64 x.a0, .slice x.A1 x.l1.length x.c1, .slice x.A2 x.l2.length x.c2, .slice x.A3 x.l3.length x.c3, .slice x.A4 x.l4.length x.c4, .slice x.A5 x.l5.length x.c5] 26)).alloc (.cells #[.int .i64 0, .slice none 0 0, .slice none 0 0] 30) := ⟨_, rfl⟩
  have hbA : Below w.heap.size w (w.alloc (.cells #[.int .i64 x.a0, .slice x.A1 x.l1.length x.c1, .slice x.A2 x.l2.length x.c2, .slice x.A3 x.l3.length x.c3, .slice x.A4 x.l4.length x.c4, .slice x.A5 x.l5.length x.c5] 26)) := (Below.refl _ _).alloc (Nat.le_refl _) _
  have hb1 : Below w.heap.size w W1 := by rw [hW1]; exact hbA.alloc hbA.size _
  have hat1 : x.At W1 w.heap.size := by rw [hW1]; exact (CP.at_alloc x w).below ((Below.refl _ _).alloc (Nat.le_refl _) _)
  have htr1 : W1.heap[w.heap.size + 1]? = some (.cells #[.int .i64 0, .slice none 0 0, .slice none 0 0] 30 (0, 0)) := by
    rw [hW1]
    have : (w.alloc (.cells #[.int .i64 x.a0, .slice x.A1 x.l1.length x.c1, .slice x.A2 x.l2.length x.c2, .slice x.A3 x.l3.length x.c3, .slice x.A4 x.l4.length x.c4, .slice x.A5 x.l5.length x.c5] 26)).heap.size = w.heap.size + 1 := by simp
    rw [← this]; exact heap_alloc_at _ _
  have HBD := Aside0.mk (bad_calls x i W1 (ok.below hb1) fit)
  have HCT := Aside0.mk (fun W (hb : Below w.heap.size w W) => contains_u8 42 enters_one (fun v => decide (1 < v)) Al cl last W (Kd.C_below hrl hb) (fun v hv W hW => one_calls v W))
  have HALL := Aside0.mk (fun W (hb : Below w.heap.size w W) => all_calls x W (ok.below hb) fit)
  have HR := Aside0.mk hr
  have HLB := Aside0.mk hLB
  have HMB := Aside0.mk hMB
  have HAT := Aside0.mk hat1
  have HTA := Aside0.mk htr1
  have HB := Aside0.mk hb1
  have hll : last.length ≤ 9223372036854775807 := hrl.2.1
  have hLl : L.length ≤ 9223372036854775807 := hr.2.1
  rw [hW1] at HAT HTA HB HBD
  obtain ⟨_, k0, k1, k2, k3, k4, k5⟩ := HAT.out
  clear hb1 hbA hat1 htr1 ok fit hr hrl hLB hMB hW1
  rw [hbad] at HBD
  rw [hany] at HCT
  rw [← hM, hall2] at HALL
  have hne : ((last.length : Int) != x.a0) = false := by rw [hlen]; simp
  have HSH := Aside0.mk hsm
  clear hbad hlen hany hall2 hsm hM
  go_enter Try.func19, Try.ntmps19
  go_wp2_with (first
    | (go_at_call 40; go_must (refine HBD.out.mono ?_; rintro e w1 ⟨rfl, hb1⟩; have HA1 := Aside0.mk (HAT.out.below hb1); have HT1 := Aside0.mk (blk_below HTA.out hb1); have HB1 := Aside0.mk (HB.out.trans (hb1.mono HB.out.size)); clear hb1 k0 k1 k2 k3 k4 k5; obtain ⟨_, k0, k1, k2, k3, k4, k5⟩ := HA1.out))
    | (go_at_call 41; go_must (refine (HCT.out _ HB1.out).mono ?_; rintro e w2 ⟨rfl, hb2⟩; have HA2 := Aside0.mk (HA1.out.below hb2); have HT2 := Aside0.mk (blk_below HT1.out hb2); have HB2 := Aside0.mk (HB1.out.trans (hb2.mono HB1.out.size)); clear hb2 k0 k1 k2 k3 k4 k5; obtain ⟨_, k0, k1, k2, k3, k4, k5⟩ := HA2.out))
    | (go_at_call 10; go_must (refine (HALL.out _ HB2.out).mono ?_; rintro e w3 ⟨v3, rfl, ho3, hb3⟩; obtain ⟨A3, c3, e3, _, hr3⟩ := Kd.R_reads ho3; subst e3; have HT3 := Aside0.mk (blk_below HT2.out hb3); have HB3 := Aside0.mk (HB2.out.trans (hb3.mono HB2.out.size)); have HSM := Aside0.mk (same_calls L M A c A3 c3 w3 (Kd.C_below HR.out HB3.out) hr3 HLB.out HMB.out); rw [HSH.out] at HSM; clear ho3 hr3 hb3 k0 k1 k2 k3 k4 k5))
    | (go_at_call 43; go_must (refine HSM.out.mono ?_; rintro e w4 ⟨rfl, hb4⟩; have HT4 := Aside0.mk (blk_below HT3.out hb4); have HB4 := Aside0.mk (HB3.out.trans (hb4.mono HB3.out.size));  clear hb4; have t0 := cell_blk HT4.out 0 _ rfl; have t1 := cell_blk HT4.out 1 _ rfl; have t2 := cell_blk HT4.out 2 _ rfl; have f0 := blk_frozen HT4.out 0; have f1 := blk_frozen HT4.out 1; have f2 := blk_frozen HT4.out 2)))
  refine bodyPost_ret (v := .tuple #[.agg #[.int .i64 0, .slice none 0 0, .slice none 0 0], .int .i64 2]) (results_ct (fn := Try.f19) rfl (a := ⟨w.heap.size + 1, 0, none⟩) rfl rfl (rv_trace (trace_put HT4.out (.int .i64 0) (.slice none 0 0) (.slice none 0 0)) rfl)) rfl ?_
  exact to_zero (Nat.le_add_right _ _) HT4.out HB4.out rfl rfl
set_option maxHeartbeats 4000000 in
set_option maxRecDepth 100000 in
theorem to_neg (x : CP) (L M : List S43) (at_ : Int) (i : Int) (A : Option Addr) (c : Nat) (Al : Option Addr) (cl : Nat) (last : List Int) (w : World) (ok : x.Ok w) (fit : x.Fit) (hM : M = x.allS.1) (hLB : ∀ s ∈ L, s.Bytes) (hMB : ∀ s ∈ M, s.Bytes)
    (hr : Kd.C k43 w A L.length L) (hrl : Kd.C (Kd.int .u8) w Al last.length last) (hbad : x.badS i = true) (hlen : (last.length : Int) = x.a0) (hany : last.any (fun v => decide (1 < v)) = false) (hall2 : x.allS.2 = 0) (hsm : sameS L M = true) (hat0 : at_ < 0) :
    Calls Try.prog 19 #[.agg #[.int .i64 x.a0, .slice x.A1 x.l1.length x.c1, .slice x.A2 x.l2.length x.c2, .slice x.A3 x.l3.length x.c3, .slice x.A4 x.l4.length x.c4, .slice x.A5 x.l5.length x.c5], .slice A L.length c, .int .i64 at_, .int .i64 i, .slice Al last.length cl] w fun e w' => ToAns (TrS.zero, 2) w e w' := by
  obtain ⟨W1, hW1⟩ : ∃ W1, W1 = (w.alloc (.cells #[.int .i64 x.a0, .slice x.A1 x.l1.length x.c1, .slice x.A2 x.l2.length x.c2, .slice x.A3 x.l3.length x.c3, .slice x.A4 x.l4.length x.c4, .slice x.A5 x.l5.length x.c5] 26)).alloc (.cells #[.int .i64 0, .slice none 0 0, .slice none 0 0] 30) := ⟨_, rfl⟩
  have hbA : Below w.heap.size w (w.alloc (.cells #[.int .i64 x.a0, .slice x.A1 x.l1.length x.c1, .slice x.A2 x.l2.length x.c2, .slice x.A3 x.l3.length x.c3, .slice x.A4 x.l4.length x.c4, .slice x.A5 x.l5.length x.c5] 26)) := (Below.refl _ _).alloc (Nat.le_refl _) _
  have hb1 : Below w.heap.size w W1 := by rw [hW1]; exact hbA.alloc hbA.size _
  have hat1 : x.At W1 w.heap.size := by rw [hW1]; exact (CP.at_alloc x w).below ((Below.refl _ _).alloc (Nat.le_refl _) _)
  have htr1 : W1.heap[w.heap.size + 1]? = some (.cells #[.int .i64 0, .slice none 0 0, .slice none 0 0] 30 (0, 0)) := by
    rw [hW1]
    have : (w.alloc (.cells #[.int .i64 x.a0, .slice x.A1 x.l1.length x.c1, .slice x.A2 x.l2.length x.c2, .slice x.A3 x.l3.length x.c3, .slice x.A4 x.l4.length x.c4, .slice x.A5 x.l5.length x.c5] 26)).heap.size = w.heap.size + 1 := by simp
    rw [← this]; exact heap_alloc_at _ _
  have HBD := Aside0.mk (bad_calls x i W1 (ok.below hb1) fit)
  have HCT := Aside0.mk (fun W (hb : Below w.heap.size w W) => contains_u8 42 enters_one (fun v => decide (1 < v)) Al cl last W (Kd.C_below hrl hb) (fun v hv W hW => one_calls v W))
  have HALL := Aside0.mk (fun W (hb : Below w.heap.size w W) => all_calls x W (ok.below hb) fit)
  have HR := Aside0.mk hr
  have HLB := Aside0.mk hLB
  have HMB := Aside0.mk hMB
  have HAT := Aside0.mk hat1
  have HTA := Aside0.mk htr1
  have HB := Aside0.mk hb1
  have hll : last.length ≤ 9223372036854775807 := hrl.2.1
  have hLl : L.length ≤ 9223372036854775807 := hr.2.1
  rw [hW1] at HAT HTA HB HBD
  obtain ⟨_, k0, k1, k2, k3, k4, k5⟩ := HAT.out
  clear hb1 hbA hat1 htr1 ok fit hr hrl hLB hMB hW1
  rw [hbad] at HBD
  rw [hany] at HCT
  rw [← hM, hall2] at HALL
  have hne : ((last.length : Int) != x.a0) = false := by rw [hlen]; simp
  have HSH := Aside0.mk hsm
  clear hbad hlen hany hall2 hsm hM
  go_enter Try.func19, Try.ntmps19
  go_wp2_with (first
    | (go_at_call 40; go_must (refine HBD.out.mono ?_; rintro e w1 ⟨rfl, hb1⟩; have HA1 := Aside0.mk (HAT.out.below hb1); have HT1 := Aside0.mk (blk_below HTA.out hb1); have HB1 := Aside0.mk (HB.out.trans (hb1.mono HB.out.size)); clear hb1 k0 k1 k2 k3 k4 k5; obtain ⟨_, k0, k1, k2, k3, k4, k5⟩ := HA1.out))
    | (go_at_call 41; go_must (refine (HCT.out _ HB1.out).mono ?_; rintro e w2 ⟨rfl, hb2⟩; have HA2 := Aside0.mk (HA1.out.below hb2); have HT2 := Aside0.mk (blk_below HT1.out hb2); have HB2 := Aside0.mk (HB1.out.trans (hb2.mono HB1.out.size)); clear hb2 k0 k1 k2 k3 k4 k5; obtain ⟨_, k0, k1, k2, k3, k4, k5⟩ := HA2.out))
    | (go_at_call 10; go_must (refine (HALL.out _ HB2.out).mono ?_; rintro e w3 ⟨v3, rfl, ho3, hb3⟩; obtain ⟨A3, c3, e3, _, hr3⟩ := Kd.R_reads ho3; subst e3; have HT3 := Aside0.mk (blk_below HT2.out hb3); have HB3 := Aside0.mk (HB2.out.trans (hb3.mono HB2.out.size)); have HSM := Aside0.mk (same_calls L M A c A3 c3 w3 (Kd.C_below HR.out HB3.out) hr3 HLB.out HMB.out); rw [HSH.out] at HSM; clear ho3 hr3 hb3 k0 k1 k2 k3 k4 k5))
    | (go_at_call 43; go_must (refine HSM.out.mono ?_; rintro e w4 ⟨rfl, hb4⟩; have HT4 := Aside0.mk (blk_below HT3.out hb4); have HB4 := Aside0.mk (HB3.out.trans (hb4.mono HB3.out.size));  clear hb4; have t0 := cell_blk HT4.out 0 _ rfl; have t1 := cell_blk HT4.out 1 _ rfl; have t2 := cell_blk HT4.out 2 _ rfl; have f0 := blk_frozen HT4.out 0; have f1 := blk_frozen HT4.out 1; have f2 := blk_frozen HT4.out 2)))
  refine bodyPost_ret (v := .tuple #[.agg #[.int .i64 0, .slice none 0 0, .slice none 0 0], .int .i64 2]) (results_ct (fn := Try.f19) rfl (a := ⟨w.heap.size + 1, 0, none⟩) rfl rfl (rv_trace (trace_put HT4.out (.int .i64 0) (.slice none 0 0) (.slice none 0 0)) rfl)) rfl ?_
  exact to_zero (Nat.le_add_right _ _) HT4.out HB4.out rfl rfl
set_option maxHeartbeats 4000000 in
set_option maxRecDepth 100000 in
theorem to_far (x : CP) (L M : List S43) (at_ : Int) (i : Int) (A : Option Addr) (c : Nat) (Al : Option Addr) (cl : Nat) (last : List Int) (w : World) (ok : x.Ok w) (fit : x.Fit) (hM : M = x.allS.1) (hLB : ∀ s ∈ L, s.Bytes) (hMB : ∀ s ∈ M, s.Bytes)
    (hr : Kd.C k43 w A L.length L) (hrl : Kd.C (Kd.int .u8) w Al last.length last) (hbad : x.badS i = true) (hlen : (last.length : Int) = x.a0) (hany : last.any (fun v => decide (1 < v)) = false) (hall2 : x.allS.2 = 0) (hsm : sameS L M = true) (hat0 : 0 ≤ at_) (hat1' : (L.length : Int) ≤ at_) :
    Calls Try.prog 19 #[.agg #[.int .i64 x.a0, .slice x.A1 x.l1.length x.c1, .slice x.A2 x.l2.length x.c2, .slice x.A3 x.l3.length x.c3, .slice x.A4 x.l4.length x.c4, .slice x.A5 x.l5.length x.c5], .slice A L.length c, .int .i64 at_, .int .i64 i, .slice Al last.length cl] w fun e w' => ToAns (TrS.zero, 2) w e w' := by
  obtain ⟨W1, hW1⟩ : ∃ W1, W1 = (w.alloc (.cells #[.int .i64 x.a0, .slice x.A1 x.l1.length x.c1, .slice x.A2 x.l2.length x.c2, .slice x.A3 x.l3.length x.c3, .slice x.A4 x.l4.length x.c4, .slice x.A5 x.l5.length x.c5] 26)).alloc (.cells #[.int .i64 0, .slice none 0 0, .slice none 0 0] 30) := ⟨_, rfl⟩
  have hbA : Below w.heap.size w (w.alloc (.cells #[.int .i64 x.a0, .slice x.A1 x.l1.length x.c1, .slice x.A2 x.l2.length x.c2, .slice x.A3 x.l3.length x.c3, .slice x.A4 x.l4.length x.c4, .slice x.A5 x.l5.length x.c5] 26)) := (Below.refl _ _).alloc (Nat.le_refl _) _
  have hb1 : Below w.heap.size w W1 := by rw [hW1]; exact hbA.alloc hbA.size _
  have hat1 : x.At W1 w.heap.size := by rw [hW1]; exact (CP.at_alloc x w).below ((Below.refl _ _).alloc (Nat.le_refl _) _)
  have htr1 : W1.heap[w.heap.size + 1]? = some (.cells #[.int .i64 0, .slice none 0 0, .slice none 0 0] 30 (0, 0)) := by
    rw [hW1]
    have : (w.alloc (.cells #[.int .i64 x.a0, .slice x.A1 x.l1.length x.c1, .slice x.A2 x.l2.length x.c2, .slice x.A3 x.l3.length x.c3, .slice x.A4 x.l4.length x.c4, .slice x.A5 x.l5.length x.c5] 26)).heap.size = w.heap.size + 1 := by simp
    rw [← this]; exact heap_alloc_at _ _
  have HBD := Aside0.mk (bad_calls x i W1 (ok.below hb1) fit)
  have HCT := Aside0.mk (fun W (hb : Below w.heap.size w W) => contains_u8 42 enters_one (fun v => decide (1 < v)) Al cl last W (Kd.C_below hrl hb) (fun v hv W hW => one_calls v W))
  have HALL := Aside0.mk (fun W (hb : Below w.heap.size w W) => all_calls x W (ok.below hb) fit)
  have HR := Aside0.mk hr
  have HLB := Aside0.mk hLB
  have HMB := Aside0.mk hMB
  have HAT := Aside0.mk hat1
  have HTA := Aside0.mk htr1
  have HB := Aside0.mk hb1
  have hll : last.length ≤ 9223372036854775807 := hrl.2.1
  have hLl : L.length ≤ 9223372036854775807 := hr.2.1
  rw [hW1] at HAT HTA HB HBD
  obtain ⟨_, k0, k1, k2, k3, k4, k5⟩ := HAT.out
  clear hb1 hbA hat1 htr1 ok fit hr hrl hLB hMB hW1
  rw [hbad] at HBD
  rw [hany] at HCT
  rw [← hM, hall2] at HALL
  have hne : ((last.length : Int) != x.a0) = false := by rw [hlen]; simp
  have HSH := Aside0.mk hsm
  clear hbad hlen hany hall2 hsm hM
  go_enter Try.func19, Try.ntmps19
  go_wp2_with (first
    | (go_at_call 40; go_must (refine HBD.out.mono ?_; rintro e w1 ⟨rfl, hb1⟩; have HA1 := Aside0.mk (HAT.out.below hb1); have HT1 := Aside0.mk (blk_below HTA.out hb1); have HB1 := Aside0.mk (HB.out.trans (hb1.mono HB.out.size)); clear hb1 k0 k1 k2 k3 k4 k5; obtain ⟨_, k0, k1, k2, k3, k4, k5⟩ := HA1.out))
    | (go_at_call 41; go_must (refine (HCT.out _ HB1.out).mono ?_; rintro e w2 ⟨rfl, hb2⟩; have HA2 := Aside0.mk (HA1.out.below hb2); have HT2 := Aside0.mk (blk_below HT1.out hb2); have HB2 := Aside0.mk (HB1.out.trans (hb2.mono HB1.out.size)); clear hb2 k0 k1 k2 k3 k4 k5; obtain ⟨_, k0, k1, k2, k3, k4, k5⟩ := HA2.out))
    | (go_at_call 10; go_must (refine (HALL.out _ HB2.out).mono ?_; rintro e w3 ⟨v3, rfl, ho3, hb3⟩; obtain ⟨A3, c3, e3, _, hr3⟩ := Kd.R_reads ho3; subst e3; have HT3 := Aside0.mk (blk_below HT2.out hb3); have HB3 := Aside0.mk (HB2.out.trans (hb3.mono HB2.out.size)); have HSM := Aside0.mk (same_calls L M A c A3 c3 w3 (Kd.C_below HR.out HB3.out) hr3 HLB.out HMB.out); rw [HSH.out] at HSM; clear ho3 hr3 hb3 k0 k1 k2 k3 k4 k5))
    | (go_at_call 43; go_must (refine HSM.out.mono ?_; rintro e w4 ⟨rfl, hb4⟩; have HT4 := Aside0.mk (blk_below HT3.out hb4); have HB4 := Aside0.mk (HB3.out.trans (hb4.mono HB3.out.size));  clear hb4; have t0 := cell_blk HT4.out 0 _ rfl; have t1 := cell_blk HT4.out 1 _ rfl; have t2 := cell_blk HT4.out 2 _ rfl; have f0 := blk_frozen HT4.out 0; have f1 := blk_frozen HT4.out 1; have f2 := blk_frozen HT4.out 2)))
  refine bodyPost_ret (v := .tuple #[.agg #[.int .i64 0, .slice none 0 0, .slice none 0 0], .int .i64 2]) (results_ct (fn := Try.f19) rfl (a := ⟨w.heap.size + 1, 0, none⟩) rfl rfl (rv_trace (trace_put HT4.out (.int .i64 0) (.slice none 0 0) (.slice none 0 0)) rfl)) rfl ?_
  exact to_zero (Nat.le_add_right _ _) HT4.out HB4.out rfl rfl
set_option maxHeartbeats 4000000 in
set_option maxRecDepth 100000 in
theorem to_deep (x : CP) (L M : List S43) (at_ : Int) (i : Int) (A : Option Addr) (c : Nat) (Al : Option Addr) (cl : Nat) (last : List Int) (w : World) (ok : x.Ok w) (fit : x.Fit) (hM : M = x.allS.1) (hLB : ∀ s ∈ L, s.Bytes) (hMB : ∀ s ∈ M, s.Bytes)
    (hr : Kd.C k43 w A L.length L) (hrl : Kd.C (Kd.int .u8) w Al last.length last) (hbad : x.badS i = true) (hlen : (last.length : Int) = x.a0) (hany : last.any (fun v => decide (1 < v)) = false) (hall2 : x.allS.2 = 0) (hsm : sameS L M = true) (an : Nat) (han : at_ = (an : Int)) (hat : an < L.length) (hd : 256 ≤ L[an].f1) :
    Calls Try.prog 19 #[.agg #[.int .i64 x.a0, .slice x.A1 x.l1.length x.c1, .slice x.A2 x.l2.length x.c2, .slice x.A3 x.l3.length x.c3, .slice x.A4 x.l4.length x.c4, .slice x.A5 x.l5.length x.c5], .slice A L.length c, .int .i64 at_, .int .i64 i, .slice Al last.length cl] w fun e w' => ToAns (TrS.zero, 3) w e w' := by
  obtain ⟨W1, hW1⟩ : ∃ W1, W1 = (w.alloc (.cells #[.int .i64 x.a0, .slice x.A1 x.l1.length x.c1, .slice x.A2 x.l2.length x.c2, .slice x.A3 x.l3.length x.c3, .slice x.A4 x.l4.length x.c4, .slice x.A5 x.l5.length x.c5] 26)).alloc (.cells #[.int .i64 0, .slice none 0 0, .slice none 0 0] 30) := ⟨_, rfl⟩
  have hbA : Below w.heap.size w (w.alloc (.cells #[.int .i64 x.a0, .slice x.A1 x.l1.length x.c1, .slice x.A2 x.l2.length x.c2, .slice x.A3 x.l3.length x.c3, .slice x.A4 x.l4.length x.c4, .slice x.A5 x.l5.length x.c5] 26)) := (Below.refl _ _).alloc (Nat.le_refl _) _
  have hb1 : Below w.heap.size w W1 := by rw [hW1]; exact hbA.alloc hbA.size _
  have hat1 : x.At W1 w.heap.size := by rw [hW1]; exact (CP.at_alloc x w).below ((Below.refl _ _).alloc (Nat.le_refl _) _)
  have htr1 : W1.heap[w.heap.size + 1]? = some (.cells #[.int .i64 0, .slice none 0 0, .slice none 0 0] 30 (0, 0)) := by
    rw [hW1]
    have : (w.alloc (.cells #[.int .i64 x.a0, .slice x.A1 x.l1.length x.c1, .slice x.A2 x.l2.length x.c2, .slice x.A3 x.l3.length x.c3, .slice x.A4 x.l4.length x.c4, .slice x.A5 x.l5.length x.c5] 26)).heap.size = w.heap.size + 1 := by simp
    rw [← this]; exact heap_alloc_at _ _
  have HBD := Aside0.mk (bad_calls x i W1 (ok.below hb1) fit)
  have HCT := Aside0.mk (fun W (hb : Below w.heap.size w W) => contains_u8 42 enters_one (fun v => decide (1 < v)) Al cl last W (Kd.C_below hrl hb) (fun v hv W hW => one_calls v W))
  have HALL := Aside0.mk (fun W (hb : Below w.heap.size w W) => all_calls x W (ok.below hb) fit)
  have HR := Aside0.mk hr
  have HLB := Aside0.mk hLB
  have HMB := Aside0.mk hMB
  have HAT := Aside0.mk hat1
  have HTA := Aside0.mk htr1
  have HB := Aside0.mk hb1
  have hll : last.length ≤ 9223372036854775807 := hrl.2.1
  have hLl : L.length ≤ 9223372036854775807 := hr.2.1
  rw [hW1] at HAT HTA HB HBD
  obtain ⟨_, k0, k1, k2, k3, k4, k5⟩ := HAT.out
  clear hb1 hbA hat1 htr1 ok fit hr hrl hLB hMB hW1
  rw [hbad] at HBD
  rw [hany] at HCT
  rw [← hM, hall2] at HALL
  have hne : ((last.length : Int) != x.a0) = false := by rw [hlen]; simp
  subst han
  have ha0 : (0 : Int) ≤ (an : Int) := by omega
  have ha1 : (an : Int) < (L.length : Int) := by omega
  have hd2 : decide ((256 : Int) ≤ L[an].f1) = true := decide_eq_true hd
  have HSH := Aside0.mk hsm
  clear hbad hlen hany hall2 hsm hM
  go_enter Try.func19, Try.ntmps19
  go_wp2_with (first
    | (go_at_call 40; go_must (refine HBD.out.mono ?_; rintro e w1 ⟨rfl, hb1⟩; have HA1 := Aside0.mk (HAT.out.below hb1); have HT1 := Aside0.mk (blk_below HTA.out hb1); have HB1 := Aside0.mk (HB.out.trans (hb1.mono HB.out.size)); clear hb1 k0 k1 k2 k3 k4 k5; obtain ⟨_, k0, k1, k2, k3, k4, k5⟩ := HA1.out))
    | (go_at_call 41; go_must (refine (HCT.out _ HB1.out).mono ?_; rintro e w2 ⟨rfl, hb2⟩; have HA2 := Aside0.mk (HA1.out.below hb2); have HT2 := Aside0.mk (blk_below HT1.out hb2); have HB2 := Aside0.mk (HB1.out.trans (hb2.mono HB1.out.size)); clear hb2 k0 k1 k2 k3 k4 k5; obtain ⟨_, k0, k1, k2, k3, k4, k5⟩ := HA2.out))
    | (go_at_call 10; go_must (refine (HALL.out _ HB2.out).mono ?_; rintro e w3 ⟨v3, rfl, ho3, hb3⟩; obtain ⟨A3, c3, e3, _, hr3⟩ := Kd.R_reads ho3; subst e3; have HT3 := Aside0.mk (blk_below HT2.out hb3); have HB3 := Aside0.mk (HB2.out.trans (hb3.mono HB2.out.size)); have HSM := Aside0.mk (same_calls L M A c A3 c3 w3 (Kd.C_below HR.out HB3.out) hr3 HLB.out HMB.out); rw [HSH.out] at HSM; clear ho3 hr3 hb3 k0 k1 k2 k3 k4 k5))
    | (go_at_call 43; go_must (refine HSM.out.mono ?_; rintro e w4 ⟨rfl, hb4⟩; have HT4 := Aside0.mk (blk_below HT3.out hb4); have HB4 := Aside0.mk (HB3.out.trans (hb4.mono HB3.out.size)); obtain ⟨ad, A0, c0, Ab, cb, e4, gs0, gs1, gs2, gs3, _, _, _, _⟩ := at_state (Kd.C_below HR.out HB4.out) an hat; subst e4; clear gs0 gs2 gs3; clear hb4; have t0 := cell_blk HT4.out 0 _ rfl; have t1 := cell_blk HT4.out 1 _ rfl; have t2 := cell_blk HT4.out 2 _ rfl; have f0 := blk_frozen HT4.out 0; have f1 := blk_frozen HT4.out 1; have f2 := blk_frozen HT4.out 2)))
  refine bodyPost_ret (v := .tuple #[.agg #[.int .i64 0, .slice none 0 0, .slice none 0 0], .int .i64 3]) (results_ct (fn := Try.f19) rfl (a := ⟨w.heap.size + 1, 0, none⟩) rfl rfl (rv_trace (trace_put HT4.out (.int .i64 0) (.slice none 0 0) (.slice none 0 0)) rfl)) rfl ?_
  exact to_zero (Nat.le_add_right _ _) HT4.out HB4.out rfl rfl
end Go.Proofs.Ytdjhjgfjhicbfaa.PWalkTells
namespace Go.Proofs.Ytdjhjgfjhicbfaa.PWalkTells
open Go.RowKit Go.Shelf Go.Maps Go.Proofs.YtdjhjgfjhicbfaaW.PrintWords Go.Proofs.YtdjhjgfjhicbfaaW.PrintLast Go.Proofs.YtdjhjgfjhicbfaaW.PrintMore
set_option linter.unusedVariables false
set_option linter.unusedSimpArgs false
set_option maxHeartbeats 4000000 in
set_option maxRecDepth 100000 in
theorem same18_calls (L1 L2 : List S43) (A1 : Option Addr) (c1 : Nat) (A2 : Option Addr) (c2 : Nat) (w : World) (hr1 : Kd.C k43 w A1 L1.length L1) (hr2 : Kd.C k43 w A2 L2.length L2) (b1 : ∀ s ∈ L1, s.Bytes) (b2 : ∀ s ∈ L2, s.Bytes) :
    Calls Try.prog 18 #[.slice A1 L1.length c1, .slice A2 L2.length c2] w fun e w' => e = .returned (.bool (sameS L1 L2)) ∧ Below w.heap.size w w' := by
  have hl1 : L1.length ≤ 9223372036854775807 := hr1.2.1
  have hl2 : L2.length ≤ 9223372036854775807 := hr2.2.1
  have HR1 := Aside0.mk hr1
  have HR2 := Aside0.mk hr2
  have HB1 := Aside0.mk b1
  have HB2 := Aside0.mk b2
  clear hr1 hr2 b1 b2
  by_cases hlen : L1.length = L2.length
  · have HS : Aside0 (sameS L1 L2 = (L1.zip L2).all alikeP) := ⟨by unfold sameS; rw [decide_eq_true hlen, Bool.true_and]⟩
    have hne : ((L1.length : Int) == (L2.length : Int)) = true := by rw [hlen]; simp
    have HLEN := Aside0.mk hlen
    clear hlen
    go_enter Try.func18, Try.ntmps18
    go_wp2
    go_loopw [5, 6] (fun u v wr => ∃ (k : Nat) (b : Bool), v = .int .i64 k ∧ u = .bool b ∧ Aside0 ((b = true ∧ k ≤ L1.length ∧ ((L1.drop k).zip (L2.drop k)).all alikeP = (L1.zip L2).all alikeP) ∨ (b = false ∧ sameS L1 L2 = false)) ∧ Aside0 (Below w.heap.size w wr)) (fun _ v _ => L1.length - (intOf v).toNat)
    case atStart => exact ⟨0, true, rfl, rfl, ⟨.inl ⟨rfl, by omega, rfl⟩⟩, ⟨Below.refl _ _⟩⟩
    case round =>
      obtain ⟨k, b, rfl, rfl, HQ, HB⟩ := hrel
      cases b
      · have HF : Aside0 (sameS L1 L2 = false) := ⟨by rcases HQ.out with ⟨h, _⟩ | ⟨_, h⟩; cases h; exact h⟩
        clear HQ
        go_wp2
        go_ret
        exact ⟨by rw [HF.out]; first | done | rfl, HB.out⟩
      · have hk : k ≤ L1.length := by rcases HQ.out with ⟨_, h, _⟩ | ⟨h, _⟩; exact h; cases h
        have hst : ((L1.drop k).zip (L2.drop k)).all alikeP = (L1.zip L2).all alikeP := by rcases HQ.out with ⟨_, _, h⟩ | ⟨h, _⟩; exact h; cases h
        clear HQ
        by_cases hlt : k < L1.length
        · have hlt2 : k < L2.length := by have := HLEN.out; omega
          obtain ⟨ad, A0, c0, A3, c3, e1, gs0, gs1, gs2, gs3, gm0, gr0, gm3, gr3⟩ := at_state (Kd.C_below HR1.out HB.out) k hlt
          obtain ⟨ad2, B0, d0, B3, d3, e2, hs0, hs1, hs2, hs3, hm0, hr0, hm3, hr3⟩ := at_state (Kd.C_below HR2.out HB.out) k hlt2
          subst e1
          subst e2
          rw [List.drop_eq_getElem_cons hlt, List.drop_eq_getElem_cons hlt2, List.zip_cons_cons, List.all_cons] at hst
          have bs := HB1.out _ (List.getElem_mem hlt)
          have bt := HB2.out _ (List.getElem_mem hlt2)
          obtain ⟨s, hs⟩ : ∃ s, s = L1[k] := ⟨_, rfl⟩
          obtain ⟨t, ht⟩ : ∃ t, t = L2[k] := ⟨_, rfl⟩
          rw [← hs] at gs0 gs1 gs2 gs3 gr0 gr3 hst bs gm0 gm3
          rw [← ht] at hs0 hs1 hs2 hs3 hr0 hr3 hst bt hm0 hm3
          have HST2 := Aside0.mk hst
          have HE0 := Aside0.mk (fun W (hb : Below wr.heap.size wr W) => bytes_calls A0 c0 s.f0 B0 d0 t.f0 W (Kd.C_below gr0 hb) gm0 (Kd.C_below hr0 hb) hm0 bs.1 bt.1)
          have HE3 := Aside0.mk (fun W (hb : Below wr.heap.size wr W) => bytes_calls A3 c3 s.f3 B3 d3 t.f3 W (Kd.C_below gr3 hb) gm3 (Kd.C_below hr3 hb) hm3 bs.2 bt.2)
          have hk0 : (0 : Int) ≤ (k : Int) := by omega
          have hk1 : (k : Int) < (L1.length : Int) := by omega
          have hk2 : (k : Int) < (L2.length : Int) := by omega
          clear hst gm0 gr0 gm3 gr3 hm0 hr0 hm3 hr3 hs ht bs bt
          cases e1 : decide (s.f1 = t.f1)
          · have HF : Aside0 (sameS L1 L2 = false) := ⟨by rw [HS.out, ← HST2.out]; show (alikeS s t && _) = false; unfold alikeS; rw [e1]; rfl⟩
            have d1 : (s.f1 == t.f1) = false := beq_eq_false_iff_ne.2 (of_decide_eq_false e1)
            clear e1
            go_wp2_with fail
            go_quiet (fail)
            go_wp2
            exact ⟨⟨k + 1, false, by go_num, rfl, ⟨.inr ⟨rfl, HF.out⟩⟩, ⟨pw_below_drewN HB.out _⟩⟩, by simp [intOf]; omega⟩
          · have d1 : (s.f1 == t.f1) = true := beq_iff_eq.2 (of_decide_eq_true e1)
            cases e2 : decide (s.f2 = t.f2)
            · have HF : Aside0 (sameS L1 L2 = false) := ⟨by rw [HS.out, ← HST2.out]; show (alikeS s t && _) = false; unfold alikeS; rw [e1, e2]; rfl⟩
              have d2 : (s.f2 == t.f2) = false := beq_eq_false_iff_ne.2 (of_decide_eq_false e2)
              clear e1 e2
              go_wp2_with fail
              go_quiet (fail)
              go_wp2
              exact ⟨⟨k + 1, false, by go_num, rfl, ⟨.inr ⟨rfl, HF.out⟩⟩, ⟨pw_below_drewN HB.out _⟩⟩, by simp [intOf]; omega⟩
            · have d2 : (s.f2 == t.f2) = true := beq_iff_eq.2 (of_decide_eq_true e2)
              cases e3 : decide (s.f0 = t.f0)
              · have HF : Aside0 (sameS L1 L2 = false) := ⟨by rw [HS.out, ← HST2.out]; show (alikeS s t && _) = false; unfold alikeS; rw [e1, e2, e3]; rfl⟩
                rw [e3] at HE0
                clear e1 e2 e3
                go_wp2_with fail
                go_quiet (first | (go_at_call 13; (with_reducible refine (HE0.out _ ?side).mono ?_); (case side => repeat (first | exact Below.refl _ _ | (with_reducible first | apply pw_below_drewN | apply below_drew1))); rintro e w' ⟨rfl, ⟨nd, rfl⟩⟩; (try first | exact ⟨rfl, _, World.drewN_drewN _ _ _⟩ | exact ⟨rfl, _, Eq.trans (World.drewN_drewN _ _ _) (congrArg (World.drewN _) (Nat.add_assoc _ _ _))⟩)))
                go_wp2
                exact ⟨⟨k + 1, false, by go_num, rfl, ⟨.inr ⟨rfl, HF.out⟩⟩, ⟨pw_below_drewN HB.out _⟩⟩, by simp [intOf]; omega⟩
              · rw [e3] at HE0
                cases e4 : decide (s.f3 = t.f3)
                · have HF : Aside0 (sameS L1 L2 = false) := ⟨by rw [HS.out, ← HST2.out]; show (alikeS s t && _) = false; unfold alikeS; rw [e1, e2, e3, e4]; rfl⟩
                  rw [e4] at HE3
                  clear e1 e2 e3 e4
                  go_wp2_with fail
                  go_quiet (first | (go_at_call 13; (with_reducible refine (HE3.out _ ?side).mono ?_); (case side => repeat (first | exact Below.refl _ _ | (with_reducible first | apply pw_below_drewN | apply below_drew1))); rintro e w' ⟨rfl, ⟨nd, rfl⟩⟩; (try first | exact ⟨rfl, _, World.drewN_drewN _ _ _⟩ | exact ⟨rfl, _, Eq.trans (World.drewN_drewN _ _ _) (congrArg (World.drewN _) (Nat.add_assoc _ _ _))⟩)) | (go_at_call 13; (with_reducible refine (HE0.out _ ?side).mono ?_); (case side => repeat (first | exact Below.refl _ _ | (with_reducible first | apply pw_below_drewN | apply below_drew1))); rintro e w' ⟨rfl, ⟨nd, rfl⟩⟩; (try first | exact ⟨rfl, _, World.drewN_drewN _ _ _⟩ | exact ⟨rfl, _, Eq.trans (World.drewN_drewN _ _ _) (congrArg (World.drewN _) (Nat.add_assoc _ _ _))⟩)))
                  go_wp2
                  exact ⟨⟨k + 1, false, by go_num, rfl, ⟨.inr ⟨rfl, HF.out⟩⟩, ⟨pw_below_drewN HB.out _⟩⟩, by simp [intOf]; omega⟩
                · have HN : Aside0 (((L1.drop (k + 1)).zip (L2.drop (k + 1))).all alikeP = (L1.zip L2).all alikeP) := ⟨by rw [← HST2.out]; show _ = (alikeS s t && _); unfold alikeS; rw [e1, e2, e3, e4]; rfl⟩
                  rw [e4] at HE3
                  clear e1 e2 e3 e4
                  go_wp2_with fail
                  go_quiet (first | (go_at_call 13; (with_reducible refine (HE3.out _ ?side).mono ?_); (case side => repeat (first | exact Below.refl _ _ | (with_reducible first | apply pw_below_drewN | apply below_drew1))); rintro e w' ⟨rfl, ⟨nd, rfl⟩⟩; (try first | exact ⟨rfl, _, World.drewN_drewN _ _ _⟩ | exact ⟨rfl, _, Eq.trans (World.drewN_drewN _ _ _) (congrArg (World.drewN _) (Nat.add_assoc _ _ _))⟩)) | (go_at_call 13; (with_reducible refine (HE0.out _ ?side).mono ?_); (case side => repeat (first | exact Below.refl _ _ | (with_reducible first | apply pw_below_drewN | apply below_drew1))); rintro e w' ⟨rfl, ⟨nd, rfl⟩⟩; (try first | exact ⟨rfl, _, World.drewN_drewN _ _ _⟩ | exact ⟨rfl, _, Eq.trans (World.drewN_drewN _ _ _) (congrArg (World.drewN _) (Nat.add_assoc _ _ _))⟩)))
                  go_wp2
                  exact ⟨⟨k + 1, true, by go_num, rfl, ⟨.inl ⟨rfl, by omega, HN.out⟩⟩, ⟨pw_below_drewN HB.out _⟩⟩, by simp [intOf]; omega⟩
        · have HT : Aside0 (sameS L1 L2 = true) := ⟨by
            rw [HS.out, ← hst, List.drop_eq_nil_of_le (by omega)]; rfl⟩
          clear hst
          go_wp2
          go_ret
          exact ⟨by rw [HT.out]; first | done | rfl, HB.out⟩
  · have HS : Aside0 (sameS L1 L2 = false) := ⟨by unfold sameS; rw [decide_eq_false hlen, Bool.false_and]⟩
    have hne : ((L1.length : Int) == (L2.length : Int)) = false := by
      rw [beq_eq_false_iff_ne]; omega
    go_enter Try.func18, Try.ntmps18
    go_wp2
    go_loopw [5, 6] (fun u v wr => u = .bool false ∧ v = .int .i64 0 ∧ wr = w) (fun _ _ _ => 0)
    case atStart => exact ⟨rfl, rfl, rfl⟩
    case round =>
      obtain ⟨rfl, rfl, rfl⟩ := hrel
      go_wp2
      go_ret
      exact ⟨by rw [HS.out]; first | done | rfl, Below.refl _ _⟩
end Go.Proofs.Ytdjhjgfjhicbfaa.PWalkTells
namespace Go.Proofs.Ytdjhjgfjhicbfaa.PWalkTells
open Go.RowKit Go.Shelf Go.Maps Go.Proofs.YtdjhjgfjhicbfaaW.PrintWords Go.Proofs.YtdjhjgfjhicbfaaW.PrintLast Go.Proofs.YtdjhjgfjhicbfaaW.PrintMore
set_option linter.unusedVariables false
set_option linter.unusedSimpArgs false
theorem rd_L5_get {l : List (List Int)} {i : Nat} (h : i < l.length) : rd_L5 l (i : Int) = l[i] := by simp [rd_L5, List.getD_eq_getElem?_getD, h]
theorem copy_loop (b : Int) (init : List Int) (fr : List (List Int)) (a : Int) (z : List Int) (hn : fr.length ≤ 100000) (hl : ∀ f ∈ fr, f.length < 140737488355328) : ∀ (d k i : Nat) (acc : List (List Int)), i + d = fr.length → d < k → acc.length = i →
    inquestref03_CopyTrace.l0 k (i : Int) b init fr a z acc = some (a, z, acc ++ fr.drop i) := by
  intro d
  induction d with
  | zero =>
    intro k i acc hi hk ha
    obtain ⟨k, rfl⟩ : ∃ k', k = k' + 1 := ⟨k - 1, by omega⟩
    rw [List.drop_eq_nil_of_le (by omega)]
    simp only [inquestref03_CopyTrace.l0]
    rw [if_neg (by omega)]
    simp
  | succ d ih =>
    intro k i acc hi hk ha
    obtain ⟨k, rfl⟩ : ∃ k', k = k' + 1 := ⟨k - 1, by omega⟩
    have hlt : i < fr.length := by omega
    have c1 : (i : Int) < (fr.length : Int) := by omega
    have c2 : 0 ≤ (i : Int) := by omega
    have c3 : acc.length < 5864062014805 := by omega
    have hm := hl fr[i] (List.getElem_mem hlt)
    have c4 : ([] : List Int).length + fr[i].length < 140737488355328 := by simpa using hm
    have e5 : (i : Int) + 1 = ((i + 1 : Nat) : Int) := by omega
    have w4 : wrap64 ((i : Int) + 1) = ((i + 1 : Nat) : Int) := (w64 (by omega) (by omega)).trans e5
    rw [List.drop_eq_getElem_cons hlt, inquestref03_CopyTrace.l0, if_pos c1, if_pos c2, rd_L5_get hlt, if_pos c4, if_pos c3, w4, ih k (i + 1) _ (by omega) (by omega) (by simp [ha]), List.append_assoc]
    rfl
theorem copy_ref (b : Int) (init : List Int) (fr : List (List Int)) (hi : init.length < 140737488355328) (hn : fr.length ≤ 100000) (hl : ∀ f ∈ fr, f.length < 140737488355328) (k : Nat) (hk : fr.length < k) :
    inquestref03_CopyTrace.f k b init fr = some (b, init, fr) := by
  unfold inquestref03_CopyTrace.f
  rw [if_pos (by simpa using hi)]
  have := copy_loop b init fr b ([] ++ init) hn hl fr.length k 0 [] (by omega) hk rfl
  simpa using this
theorem leads_loop {L : List S43} (hL : Leads L) (i : Int) : ∀ (K a : Nat) (x9 : List (List Int)), a < L.length → a < K → x9.length + K ≤ 10000 → (∀ f ∈ x9, f.length < 140737488355328) → ∀ k, K + 10001 < k →
    inquestref27_leads.l0 k L (a : Int) i x9 = some (i, (gS L (chainS L K a).2).f0, (chainS L K a).1.reverse ++ x9) := by
  intro K
  induction K with
  | zero => intro a x9 _ h; omega
  | succ K ih =>
    intro a x9 ha hK hx hf k hk
    obtain ⟨k, rfl⟩ : ∃ k', k = k' + 1 := ⟨k - 1, by omega⟩
    obtain ⟨hl, hj⟩ := hL
    obtain ⟨q1, q2, q3, q4⟩ := hj a ha
    have hg : L.getD a z43 = L[a] := by rw [List.getD_eq_getElem?_getD, List.getElem?_eq_getElem ha]; rfl
    have c1 : 0 ≤ (a : Int) := by omega
    have c2 : (a : Int) < (L.length : Int) := by omega
    rw [inquestref27_leads.l0, if_pos c1, if_pos c2, rd_T43_get ha, chainS, hg]
    by_cases hn : 0 ≤ L[a].f2
    · rw [if_pos hn, if_pos (by omega : L[a].f2 ≥ 0), if_pos (by simp)]
      simp only [Option.bind_some]
      rw [if_pos (by simp; omega)]
      obtain ⟨p, hp⟩ : ∃ p : Nat, L[a].f2 = (p : Int) := ⟨L[a].f2.toNat, by omega⟩
      rw [hp, Int.toNat_natCast]
      rw [ih p ([] ++ [L[a].f3] ++ x9) (by omega) (by omega) (by simp; omega) (fun f hm => by
        rcases List.mem_append.1 hm with hm | hm
        · have e : f = L[a].f3 := by simpa using hm
          have := q4 hn
          rw [e]; omega
        · exact hf f hm) k (by omega)]
      simp
    · rw [if_neg hn, if_neg (by omega : ¬ L[a].f2 ≥ 0), copy_ref i L[a].f0 x9 (by omega) (by omega) hf k (by omega)]
      simp only [Option.bind_some]
      rw [gS_eq ha]
      rfl
theorem leads_ref {L : List S43} (hL : Leads L) (i : Int) (a : Nat) (last : List Int) (ha : a < L.length) (hlast : last.length ≤ 17592186044416) (k : Nat) (hk : 20000 ≤ k) :
    inquestref27_leads.f k L (a : Int) i last = some (i, leadInit L a, leadFrames L a last) := by
  have h1 := hL.1
  unfold inquestref27_leads.f
  rw [leads_loop hL i (a + 1) a [last] ha (by omega) (by simp; omega) (fun f hf => by
    have e : f = last := by simpa using hf
    rw [e]; omega) k (by omega)]
  unfold leadInit leadFrames
  rw [List.reverse_cons]
  rfl
theorem tables_ref : ∀ (l : List (List Int)) (k : Nat), l.length < k → inquestref00_Tables.l0 k l l = some true := by
  intro l
  induction l with
  | nil =>
    intro k hk
    obtain ⟨k, rfl⟩ : ∃ k', k = k' + 1 := ⟨k - 1, by omega⟩
    simp [inquestref00_Tables.l0]
  | cons f l ih =>
    intro k hk
    obtain ⟨k, rfl⟩ : ∃ k', k = k' + 1 := ⟨k - 1, by omega⟩
    have hB : ∀ z : List Int, inquestref00_Bytes.f z z = some true := fun z => by simp [inquestref00_Bytes.f]
    have hi := ih k (by simpa using hk)
    rw [inquestref00_Tables.l0, if_pos (by simp), if_pos (by simp), if_pos (by simp), hB]
    simp only [Option.bind_some]
    rw [if_pos trivial, if_pos (by simp; omega), if_pos (by simp; omega)]
    exact hi
theorem samet_ref (b : Int) (init : List Int) (fr : List (List Int)) (k : Nat) (hk : fr.length < k) : inquestref03_SameTrace.f k b init fr b init fr = some true := by
  have hB : ∀ z : List Int, inquestref00_Bytes.f z z = some true := fun z => by simp [inquestref00_Bytes.f]
  unfold inquestref03_SameTrace.f inquestref00_Tables.f
  rw [if_pos rfl, hB]
  simp only [Option.bind_some]
  rw [if_pos trivial, if_pos trivial, tables_ref fr k hk]
  rfl
theorem ring_loop (L : List S43) (e : Int) (hn : L.length ≤ 4096) : ∀ (d k i : Nat), i + d = L.length → d < k → inquestref27_Ring.l0 k L e (maxS (L.take i) 0) (i : Int) = some (maxS L 0, e) := by
  intro d
  induction d with
  | zero =>
    intro k i hi hk
    obtain ⟨k, rfl⟩ : ∃ k', k = k' + 1 := ⟨k - 1, by omega⟩
    simp only [inquestref27_Ring.l0]
    rw [if_neg (by omega), show i = L.length by omega, List.take_length]
  | succ d ih =>
    intro k i hi hk
    obtain ⟨k, rfl⟩ : ∃ k', k = k' + 1 := ⟨k - 1, by omega⟩
    have hlt : i < L.length := by omega
    have c1 : (i : Int) < (L.length : Int) := by omega
    have c2 : 0 ≤ (i : Int) := by omega
    have e5 : (i : Int) + 1 = ((i + 1 : Nat) : Int) := by omega
    have w4 : wrap64 ((i : Int) + 1) = ((i + 1 : Nat) : Int) := (w64 (by omega) (by omega)).trans e5
    have hm : mx (maxS (L.take i) 0) L[i].f1 = maxS (L.take (i + 1)) 0 := by
      rw [List.take_succ_eq_append_getElem hlt, maxS_snoc]
      unfold mx
      split <;> (try split) <;> omega
    rw [inquestref27_Ring.l0, if_pos c1, if_pos c2, rd_T43_get hlt, w4, hm]
    exact ih k (i + 1) (by omega) (by omega)
theorem ring_ref (x : CP) (fit : x.Fit) (h7 : x.l1.length ≤ 7) (h4 : x.a0 ≤ 4 ∨ 10 < x.a0) (k : Nat) (hk : x.allK + 4100 ≤ k) : inquestref27_Ring.f k x.a0 x.l1 x.l2 x.l3 x.l4 x.l5 = some (x.ringS, x.allS.2) := by
  have hl := (allS_good fit).2
  unfold inquestref27_Ring.f
  rw [all_ref x fit h7 h4 k (by omega)]
  simp only [Option.bind_some]
  have := ring_loop x.allS.1 x.allS.2 hl x.allS.1.length k 0 (by omega) (by omega)
  simpa [maxS, CP.ringS] using this
theorem all17_calls (x : CP) (w : World) (ok : x.Ok w) (fit : x.Fit) (h7 : x.l1.length ≤ 7) (h4 : x.a0 ≤ 4 ∨ 10 < x.a0) :
    Calls Try.prog 17 #[.agg #[.int .i64 x.a0, .slice x.A1 x.l1.length x.c1, .slice x.A2 x.l2.length x.c2, .slice x.A3 x.l3.length x.c3, .slice x.A4 x.l4.length x.c4, .slice x.A5 x.l5.length x.c5]] w fun e w' => ∃ v, e = .returned (.tuple #[v, .int .i64 x.allS.2]) ∧ Kd.R k43 43 w' w.heap.size (fun _ => True) v x.allS.1 ∧ Below w.heap.size w w' := by
  refine (inquestref27_All.calls x.allK x.a0 x.A1 x.c1 x.l1 x.A2 x.c2 x.l2 x.A3 x.c3 x.l3 x.A4 x.c4 x.l4 x.A5 x.c5 x.l5 x.allS.1 x.allS.2 w ok.r1 ok.m1 ok.r2 ok.m2 ok.r3 ok.m3 ok.r4 ok.m4 ok.r5 ok.m5 (all_ref x fit h7 h4 _ (Nat.le_refl _))).mono ?_
  rintro e w' ⟨v, rfl, h, hb⟩
  exact ⟨v, rfl, Kd.S_R h, hb⟩
theorem ring25_calls (x : CP) (w : World) (ok : x.Ok w) (fit : x.Fit) (h7 : x.l1.length ≤ 7) (h4 : x.a0 ≤ 4 ∨ 10 < x.a0) :
    Calls Try.prog 25 #[.agg #[.int .i64 x.a0, .slice x.A1 x.l1.length x.c1, .slice x.A2 x.l2.length x.c2, .slice x.A3 x.l3.length x.c3, .slice x.A4 x.l4.length x.c4, .slice x.A5 x.l5.length x.c5]] w fun e w' => e = .returned (.tuple #[.int .i64 x.ringS, .int .i64 x.allS.2]) ∧ Below w.heap.size w w' :=
  inquestref27_Ring.calls (x.allK + 4100) x.a0 x.A1 x.c1 x.l1 x.A2 x.c2 x.l2 x.A3 x.c3 x.l3 x.A4 x.c4 x.l4 x.A5 x.c5 x.l5 x.ringS x.allS.2 w ok.r1 ok.m1 ok.r2 ok.m2 ok.r3 ok.m3 ok.r4 ok.m4 ok.r5 ok.m5 (ring_ref x fit h7 h4 _ (Nat.le_refl _))
end Go.Proofs.Ytdjhjgfjhicbfaa.PWalkTells
namespace Go.Proofs.Ytdjhjgfjhicbfaa.PWalkTells
open Go.RowKit Go.Shelf Go.Maps Go.Proofs.YtdjhjgfjhicbfaaW.PrintWords Go.Proofs.YtdjhjgfjhicbfaaW.PrintLast Go.Proofs.YtdjhjgfjhicbfaaW.PrintMore
set_option linter.unusedVariables false
set_option linter.unusedSimpArgs false
structure TrC (t : TrS) (w : World) (Ai : Option Addr) (ci : Nat) (Af : Option Addr) (cf : Nat) : Prop where
  ci : t.init.length ≤ ci
  ri : Kd.C (Kd.int .u8) w Ai t.init.length t.init
  cf : t.frames.length ≤ cf
  rf : Kd.C (Kd.slice 5 (Kd.int .u8)) w Af t.frames.length t.frames
theorem TrC.below {t : TrS} {w w1 : World} {Ai : Option Addr} {ci : Nat} {Af : Option Addr} {cf : Nat} (h : TrC t w Ai ci Af cf) (hb : Below w.heap.size w w1) : TrC t w1 Ai ci Af cf :=
  ⟨h.ci, Kd.C_below h.ri hb, h.cf, Kd.C_below h.rf hb⟩
theorem TrC.zero (w : World) : TrC TrS.zero w none 0 none 0 := by
  have h1 : Kd.R (Kd.int .u8) 5 w 0 (fun _ => True) (.slice none 0 0) [] := Kd.R_nil _ _ _ _ _
  have h2 : Kd.R (Kd.slice 5 (Kd.int .u8)) 27 w 0 (fun _ => True) (.slice none 0 0) [] := Kd.R_nil _ _ _ _ _
  obtain ⟨_, _, e1, m1, g1⟩ := Kd.R_reads h1
  obtain ⟨_, _, e2, m2, g2⟩ := Kd.R_reads h2
  cases e1; cases e2
  exact ⟨m1, g1, m2, g2⟩
def ToC (r : TrS × Int) (w : World) (e : Ending) (w' : World) : Prop := ∃ Ai ci Af cf, e = .returned (.tuple #[.agg #[.int .i64 r.1.bad, .slice Ai r.1.init.length ci, .slice Af r.1.frames.length cf], .int .i64 r.2]) ∧ TrC r.1 w' Ai ci Af cf ∧ Below w.heap.size w w'
theorem ToAns.toC {r : TrS × Int} {w : World} {e : Ending} {w' : World} (h : ToAns r w e w') : ToC r w e w' := by
  obtain ⟨vi, vf, rfl, ⟨h1, h2⟩, hb⟩ := h
  obtain ⟨Ai, ci, rfl, m1, g1⟩ := Kd.R_reads h1
  obtain ⟨Af, cf, rfl, m2, g2⟩ := Kd.R_reads h2
  exact ⟨_, _, _, _, rfl, ⟨m1, g1, m2, g2⟩, hb⟩
theorem heap_k43 : Kd.Heap k43 := Kd.heap_iso _ (Kd.heap_pair (Kd.heap_slice _ (Kd.heap_int .u8)) (Kd.heap_pair (Kd.heap_int .i64) (Kd.heap_pair (Kd.heap_int .i64) (Kd.heap_slice _ (Kd.heap_int .u8)))))
def TrP (t : TrS) (w : World) (N0 N1 : Nat) (Ai : Option Addr) (ci : Nat) (Af : Option Addr) (cf : Nat) : Prop := ∀ w2 : World, (∀ k, k < N0 ∨ N1 ≤ k → k < w.heap.size → w2.heap[k]? = w.heap[k]?) → TrC t w2 Ai ci Af cf
theorem TrP.now {t : TrS} {w : World} {N0 N1 : Nat} {Ai : Option Addr} {ci : Nat} {Af : Option Addr} {cf : Nat} (h : TrP t w N0 N1 Ai ci Af cf) : TrC t w Ai ci Af cf := h w (fun _ _ _ => rfl)
theorem TrP.to {t : TrS} {w w1 : World} {N0 N1 : Nat} {Ai : Option Addr} {ci : Nat} {Af : Option Addr} {cf : Nat} (h : TrP t w N0 N1 Ai ci Af cf) (hs : w.heap.size ≤ w1.heap.size) (hk : ∀ k, k < N0 ∨ N1 ≤ k → k < w.heap.size → w1.heap[k]? = w.heap[k]?) : TrP t w1 N0 N1 Ai ci Af cf :=
  fun w2 h2 => h w2 (fun k a b => (h2 k a (Nat.lt_of_lt_of_le b hs)).trans (hk k a b))
theorem TrP.below {t : TrS} {w w1 : World} {N0 N1 : Nat} {Ai : Option Addr} {ci : Nat} {Af : Option Addr} {cf : Nat} (h : TrP t w N0 N1 Ai ci Af cf) (hb : Below w.heap.size w w1) : TrP t w1 N0 N1 Ai ci Af cf :=
  h.to hb.size (fun k _ hk => hb.block k hk)
theorem TrP.set {t : TrS} {w : World} {N0 N1 : Nat} {Ai : Option Addr} {ci : Nat} {Af : Option Addr} {cf : Nat} (h : TrP t w N0 N1 Ai ci Af cf) {g : Nat} (h0 : N0 ≤ g) (h1 : g < N1) (u v x : Value) : TrP t (((w.setCell ⟨g, 0, none⟩ u).setCell ⟨g, 1, none⟩ v).setCell ⟨g, 2, none⟩ x) N0 N1 Ai ci Af cf :=
  h.to (by simp) (fun k hk _ => (Below.heap_setCell _ _ _ k (by intro e; have e : k = g := e; omega)).trans ((Below.heap_setCell _ _ _ k (by intro e; have e : k = g := e; omega)).trans (Below.heap_setCell _ _ _ k (by intro e; have e : k = g := e; omega))))
theorem TrP.zero (w : World) (N0 N1 : Nat) : TrP TrS.zero w N0 N1 none 0 none 0 := fun w2 _ => TrC.zero w2
def ToP (r : TrS × Int) (N0 : Nat) (w : World) (e : Ending) (w' : World) : Prop := ∃ Ai ci Af cf, e = .returned (.tuple #[.agg #[.int .i64 r.1.bad, .slice Ai r.1.init.length ci, .slice Af r.1.frames.length cf], .int .i64 r.2]) ∧ TrP r.1 w' N0 w.heap.size Ai ci Af cf ∧ Below w.heap.size w w'
theorem TrP.of {t : TrS} {w : World} {N0 N1 : Nat} {Ai : Option Addr} {ci : Nat} {Af : Option Addr} {cf : Nat} {b1 b2 : Nat} (m1 : t.init.length ≤ ci) (m2 : t.frames.length ≤ cf) (h1 : Kd.R (Kd.int .u8) 5 w N1 (fun _ => True) (.slice Ai t.init.length ci) t.init) (h2 : Kd.R kRows 27 w N1 (fun _ => True) (.slice Af t.frames.length cf) t.frames) : TrP t w N0 N1 Ai ci Af cf := by
  intro w2 hk
  have q1 := Kd.V_reads' (Kd.V_step (w1 := w2) (Kd.R_V (base' := 0) (Kd.R_mono (ok' := fun k => N1 ≤ k) (Kd.R_bound h1) (fun k hk => hk.2.1))) (fun k ok hl => hk k (.inr ok) hl))
  have q2 := Kd.V_reads' (Kd.V_step (w1 := w2) (Kd.R_V (base' := 0) (Kd.R_mono (ok' := fun k => N1 ≤ k) (Kd.R_bound h2) (fun k hk => hk.2.1))) (fun k ok hl => hk k (.inr ok) hl))
  exact ⟨q1.2.1, q1.2.2, q2.2.1, q2.2.2⟩
theorem ToAns.toP {r : TrS × Int} {w : World} {e : Ending} {w' : World} (N0 : Nat) (h : ToAns r w e w') : ToP r N0 w e w' := by
  obtain ⟨vi, vf, rfl, ⟨h1, h2⟩, hb⟩ := h
  obtain ⟨Ai, ci, e1, m1, g1⟩ := Kd.R_reads h1
  subst e1
  obtain ⟨Af, cf, e2, m2, g2⟩ := Kd.R_reads h2
  subst e2
  exact ⟨_, _, _, _, rfl, TrP.of (b1 := 0) (b2 := 0) m1 m2 h1 h2, hb⟩
theorem ToC.toP {er : Int} {w : World} {e : Ending} {w' : World} (N0 : Nat) (h : ToC (TrS.zero, er) w e w') : ToP (TrS.zero, er) N0 w e w' := by
  obtain ⟨Ai, ci, Af, cf, rfl, ht, hb⟩ := h
  refine ⟨Ai, ci, Af, cf, rfl, fun w2 _ => ⟨ht.ci, ?_, ht.cf, ?_⟩, hb⟩
  · exact ⟨rfl, Nat.zero_le _, fun h => absurd h (Nat.lt_irrefl 0)⟩
  · exact ⟨rfl, Nat.zero_le _, fun h => absurd h (Nat.lt_irrefl 0)⟩
theorem leads46_calls (L : List S43) (a : Nat) (i : Int) (A : Option Addr) (c : Nat) (Al : Option Addr) (cl : Nat) (last : List Int) (w W : World) (hL : Leads L) (ha : a < L.length) (hlast : last.length ≤ 17592186044416)
    (hc : L.length ≤ c) (hr : Kd.C k43 w A L.length L) (hcl : last.length ≤ cl) (hrl : Kd.C (Kd.int .u8) w Al last.length last) (hb : Below w.heap.size w W) :
    Calls Try.prog 46 #[.slice A L.length c, .int .i64 a, .int .i64 i, .slice Al last.length cl] W fun e w' => ∃ Ai ci Af cf, e = .returned (.agg #[.int .i64 i, .slice Ai (leadInit L a).length ci, .slice Af (leadFrames L a last).length cf]) ∧
      TrP ⟨i, leadInit L a, leadFrames L a last⟩ w' w.heap.size W.heap.size Ai ci Af cf ∧ Below W.heap.size W w' := by
  refine (inquestref27_leads.calls 20000 (fun k => k < w.heap.size) A c L a i (fun k => k < w.heap.size) Al cl last i (leadInit L a) (leadFrames L a last) W (Kd.V_mk hc (Kd.F_below (Kd.C_F heap_k43 hr) hb)) (Kd.V_mk hcl (Kd.F_below (Kd.C_F (Kd.heap_int .u8) hrl) hb)) (leads_ref hL i a last ha hlast _ (Nat.le_refl _))).mono ?_
  rintro e w' ⟨v1, v2, rfl, g1, g2, hb2⟩
  obtain ⟨Ai, ci, rfl⟩ := Kd.R_slice g1
  obtain ⟨Af, cf, rfl⟩ := Kd.N_slice g2
  refine ⟨Ai, ci, Af, cf, rfl, fun w2 hk => ?_, hb2⟩
  have q1 := Kd.V_reads' (Kd.V_step (w1 := w2) (Kd.R_V (base' := 0) g1) (fun k ok hl => hk k (.inr ok) hl))
  have q2 := Kd.V_reads' (Kd.V_step (w1 := w2) (Kd.N_V (base' := 0) g2) (fun k ok hl => hk k (by
    rcases ok.1 with (h | h) | h
    · exact .inl h
    · exact .inl h
    · exact .inr h) hl))
  exact ⟨q1.2.1, q1.2.2, q2.2.1, q2.2.2⟩
theorem toc_zero {w W : World} {er : Int} {e : Ending} {w' : World} (hgt : w.heap.size ≤ w.heap.size + 1) (hb : Below w.heap.size w W)
    (he : e = .returned (.tuple #[.agg #[.int .i64 0, .slice none 0 0, .slice none 0 0], .int .i64 er])) (hw : w' = ((W.setCell ⟨w.heap.size + 1, 0, none⟩ (.int .i64 0)).setCell ⟨w.heap.size + 1, 1, none⟩ (.slice none 0 0)).setCell ⟨w.heap.size + 1, 2, none⟩ (.slice none 0 0)) : ToC (TrS.zero, er) w e w' := by
  subst he
  subst hw
  exact ⟨_, _, _, _, rfl, TrC.zero _, ((hb.setCell (p := ⟨w.heap.size + 1, 0, none⟩) hgt _).setCell (p := ⟨w.heap.size + 1, 1, none⟩) hgt _).setCell (p := ⟨w.heap.size + 1, 2, none⟩) hgt _⟩
set_option maxHeartbeats 4000000 in
set_option maxRecDepth 100000 in
theorem tor_may (w0 : World) (x : CP) (L M : List S43) (at_ : Int) (i : Int) (A : Option Addr) (c : Nat) (Al : Option Addr) (cl : Nat) (last : List Int) (w : World) (ok : x.Ok w) (fit : x.Fit) (h7 : x.l1.length ≤ 7) (h4 : x.a0 ≤ 4 ∨ 10 < x.a0) (hM : M = x.allS.1) (hLB : ∀ s ∈ L, s.Bytes) (hMB : ∀ s ∈ M, s.Bytes)
    (hc : L.length ≤ c) (hw0 : Below w0.heap.size w0 w) (hr0 : Kd.C k43 w0 A L.length L) (hr : Kd.C k43 w A L.length L) (hcl : last.length ≤ cl) (hrl0 : Kd.C (Kd.int .u8) w0 Al last.length last) (hrl : Kd.C (Kd.int .u8) w Al last.length last) (hmay : x.may = false) :
    Calls Try.prog 20 #[.agg #[.int .i64 x.a0, .slice x.A1 x.l1.length x.c1, .slice x.A2 x.l2.length x.c2, .slice x.A3 x.l3.length x.c3, .slice x.A4 x.l4.length x.c4, .slice x.A5 x.l5.length x.c5], .slice A L.length c, .int .i64 at_, .int .i64 i, .slice Al last.length cl] w fun e w' => ToP (TrS.zero, 2) w0.heap.size w e w' := by
  obtain ⟨W1, hW1⟩ : ∃ W1, W1 = (w.alloc (.cells #[.int .i64 x.a0, .slice x.A1 x.l1.length x.c1, .slice x.A2 x.l2.length x.c2, .slice x.A3 x.l3.length x.c3, .slice x.A4 x.l4.length x.c4, .slice x.A5 x.l5.length x.c5] 26)).alloc (.cells #[.int .i64 0, .slice none 0 0, .slice none 0 0] 30) := ⟨_, rfl⟩
  have hbA : Below w.heap.size w (w.alloc (.cells #[.int .i64 x.a0, .slice x.A1 x.l1.length x.c1, .slice x.A2 x.l2.length x.c2, .slice x.A3 x.l3.length x.c3, .slice x.A4 x.l4.length x.c4, .slice x.A5 x.l5.length x.c5] 26)) := (Below.refl _ _).alloc (Nat.le_refl _) _
  have hb1 : Below w.heap.size w W1 := by rw [hW1]; exact hbA.alloc hbA.size _
  have hat1 : x.At W1 w.heap.size := by rw [hW1]; exact (CP.at_alloc x w).below ((Below.refl _ _).alloc (Nat.le_refl _) _)
  have htr1 : W1.heap[w.heap.size + 1]? = some (.cells #[.int .i64 0, .slice none 0 0, .slice none 0 0] 30 (0, 0)) := by
    rw [hW1]
    have : (w.alloc (.cells #[.int .i64 x.a0, .slice x.A1 x.l1.length x.c1, .slice x.A2 x.l2.length x.c2, .slice x.A3 x.l3.length x.c3, .slice x.A4 x.l4.length x.c4, .slice x.A5 x.l5.length x.c5] 26)).heap.size = w.heap.size + 1 := by simp
    rw [← this]; exact heap_alloc_at _ _
  have okb := ok.below hb1
  have HMC := Aside0.mk (inquestref03_May.calls x.mayK x.a0 x.A1 x.c1 x.l1 x.A2 x.c2 x.l2 x.A3 x.c3 x.l3 x.A4 x.c4 x.l4 x.A5 x.c5 x.l5 x.may W1 okb.r1 okb.m1 okb.r2 okb.m2 okb.r3 okb.m3 okb.r4 okb.m4 okb.r5 okb.m5 (may_ref x fit x.mayK (Nat.le_refl _)))
  have HALL := Aside0.mk (fun W (hb : Below w.heap.size w W) => all17_calls x W (ok.below hb) fit h7 h4)
  have HLD := Aside0.mk (fun an (hL : Leads L) (ha : an < L.length) (hlast : last.length ≤ 17592186044416) W (hb : Below w.heap.size w W) => leads46_calls L an i A c Al cl last w0 W hL ha hlast hc hr0 hcl hrl0 (hw0.trans (hb.mono hw0.size)))
  have hw0s := hw0.size
  have HR := Aside0.mk hr
  have HRL := Aside0.mk hrl
  have HLB := Aside0.mk hLB
  have HMB := Aside0.mk hMB
  have HAT := Aside0.mk hat1
  have HTA := Aside0.mk htr1
  have HB := Aside0.mk hb1
  have hll : last.length ≤ 9223372036854775807 := hrl.2.1
  have hLl : L.length ≤ 9223372036854775807 := hr.2.1
  have hl4 : x.l4.length ≤ 9223372036854775807 := by have := fit.n4; omega
  rw [hW1] at HAT HTA HB HMC
  obtain ⟨_, k0, k1, k2, k3, k4, k5⟩ := HAT.out
  clear hb1 hbA hat1 htr1 okb ok fit hr hrl hLB hMB hW1 hc hcl h7 h4 hr0 hrl0 hw0
  rw [hmay] at HMC
  clear hmay hM
  go_enter Try.func20, Try.ntmps20
  go_wp2_with (first
    | (go_at_call 15; go_must (refine HMC.out.mono ?_; rintro e w1 ⟨rfl, hb1⟩; have HA1 := Aside0.mk (HAT.out.below hb1); have HT1 := Aside0.mk (blk_below HTA.out hb1); have HB1 := Aside0.mk (HB.out.trans (hb1.mono HB.out.size)); clear hb1 k0 k1 k2 k3 k4 k5; obtain ⟨_, k0, k1, k2, k3, k4, k5⟩ := HA1.out; have t0 := cell_blk HT1.out 0 _ rfl; have t1 := cell_blk HT1.out 1 _ rfl; have t2 := cell_blk HT1.out 2 _ rfl; have f0 := blk_frozen HT1.out 0; have f1 := blk_frozen HT1.out 1; have f2 := blk_frozen HT1.out 2)))
  refine bodyPost_ret (v := .tuple #[.agg #[.int .i64 0, .slice none 0 0, .slice none 0 0], .int .i64 2]) (results_ct (fn := Try.f20) rfl (a := ⟨w.heap.size + 1, 0, none⟩) rfl rfl (rv_trace (trace_put HT1.out (.int .i64 0) (.slice none 0 0) (.slice none 0 0)) rfl)) rfl ?_
  exact (toc_zero (Nat.le_add_right _ _) HB1.out rfl rfl).toP _
set_option maxHeartbeats 4000000 in
set_option maxRecDepth 100000 in
theorem tor_neg (w0 : World) (x : CP) (L M : List S43) (at_ : Int) (i : Int) (A : Option Addr) (c : Nat) (Al : Option Addr) (cl : Nat) (last : List Int) (w : World) (ok : x.Ok w) (fit : x.Fit) (h7 : x.l1.length ≤ 7) (h4 : x.a0 ≤ 4 ∨ 10 < x.a0) (hM : M = x.allS.1) (hLB : ∀ s ∈ L, s.Bytes) (hMB : ∀ s ∈ M, s.Bytes)
    (hc : L.length ≤ c) (hw0 : Below w0.heap.size w0 w) (hr0 : Kd.C k43 w0 A L.length L) (hr : Kd.C k43 w A L.length L) (hcl : last.length ≤ cl) (hrl0 : Kd.C (Kd.int .u8) w0 Al last.length last) (hrl : Kd.C (Kd.int .u8) w Al last.length last) (hmay : x.may = true) (hi : i < 0) :
    Calls Try.prog 20 #[.agg #[.int .i64 x.a0, .slice x.A1 x.l1.length x.c1, .slice x.A2 x.l2.length x.c2, .slice x.A3 x.l3.length x.c3, .slice x.A4 x.l4.length x.c4, .slice x.A5 x.l5.length x.c5], .slice A L.length c, .int .i64 at_, .int .i64 i, .slice Al last.length cl] w fun e w' => ToP (TrS.zero, 2) w0.heap.size w e w' := by
  obtain ⟨W1, hW1⟩ : ∃ W1, W1 = (w.alloc (.cells #[.int .i64 x.a0, .slice x.A1 x.l1.length x.c1, .slice x.A2 x.l2.length x.c2, .slice x.A3 x.l3.length x.c3, .slice x.A4 x.l4.length x.c4, .slice x.A5 x.l5.length x.c5] 26)).alloc (.cells #[.int .i64 0, .slice none 0 0, .slice none 0 0] 30) := ⟨_, rfl⟩
  have hbA : Below w.heap.size w (w.alloc (.cells #[.int .i64 x.a0, .slice x.A1 x.l1.length x.c1, .slice x.A2 x.l2.length x.c2, .slice x.A3 x.l3.length x.c3, .slice x.A4 x.l4.length x.c4, .slice x.A5 x.l5.length x.c5] 26)) := (Below.refl _ _).alloc (Nat.le_refl _) _
  have hb1 : Below w.heap.size w W1 := by rw [hW1]; exact hbA.alloc hbA.size _
  have hat1 : x.At W1 w.heap.size := by rw [hW1]; exact (CP.at_alloc x w).below ((Below.refl _ _).alloc (Nat.le_refl _) _)
  have htr1 : W1.heap[w.heap.size + 1]? = some (.cells #[.int .i64 0, .slice none 0 0, .slice none 0 0] 30 (0, 0)) := by
    rw [hW1]
    have : (w.alloc (.cells #[.int .i64 x.a0, .slice x.A1 x.l1.length x.c1, .slice x.A2 x.l2.length x.c2, .slice x.A3 x.l3.length x.c3, .slice x.A4 x.l4.length x.c4, .slice x.A5 x.l5.length x.c5] 26)).heap.size = w.heap.size + 1 := by simp
    rw [← this]; exact heap_alloc_at _ _
  have okb := ok.below hb1
  have HMC := Aside0.mk (inquestref03_May.calls x.mayK x.a0 x.A1 x.c1 x.l1 x.A2 x.c2 x.l2 x.A3 x.c3 x.l3 x.A4 x.c4 x.l4 x.A5 x.c5 x.l5 x.may W1 okb.r1 okb.m1 okb.r2 okb.m2 okb.r3 okb.m3 okb.r4 okb.m4 okb.r5 okb.m5 (may_ref x fit x.mayK (Nat.le_refl _)))
  have HALL := Aside0.mk (fun W (hb : Below w.heap.size w W) => all17_calls x W (ok.below hb) fit h7 h4)
  have HLD := Aside0.mk (fun an (hL : Leads L) (ha : an < L.length) (hlast : last.length ≤ 17592186044416) W (hb : Below w.heap.size w W) => leads46_calls L an i A c Al cl last w0 W hL ha hlast hc hr0 hcl hrl0 (hw0.trans (hb.mono hw0.size)))
  have hw0s := hw0.size
  have HR := Aside0.mk hr
  have HRL := Aside0.mk hrl
  have HLB := Aside0.mk hLB
  have HMB := Aside0.mk hMB
  have HAT := Aside0.mk hat1
  have HTA := Aside0.mk htr1
  have HB := Aside0.mk hb1
  have hll : last.length ≤ 9223372036854775807 := hrl.2.1
  have hLl : L.length ≤ 9223372036854775807 := hr.2.1
  have hl4 : x.l4.length ≤ 9223372036854775807 := by have := fit.n4; omega
  rw [hW1] at HAT HTA HB HMC
  obtain ⟨_, k0, k1, k2, k3, k4, k5⟩ := HAT.out
  clear hb1 hbA hat1 htr1 okb ok fit hr hrl hLB hMB hW1 hc hcl h7 h4 hr0 hrl0 hw0
  rw [hmay] at HMC
  have hi1 : decide (i < 0) = true := decide_eq_true hi
  clear hmay hM
  go_enter Try.func20, Try.ntmps20
  go_wp2_with (first
    | (go_at_call 15; go_must (refine HMC.out.mono ?_; rintro e w1 ⟨rfl, hb1⟩; have HA1 := Aside0.mk (HAT.out.below hb1); have HT1 := Aside0.mk (blk_below HTA.out hb1); have HB1 := Aside0.mk (HB.out.trans (hb1.mono HB.out.size)); clear hb1 k0 k1 k2 k3 k4 k5; obtain ⟨_, k0, k1, k2, k3, k4, k5⟩ := HA1.out; have t0 := cell_blk HT1.out 0 _ rfl; have t1 := cell_blk HT1.out 1 _ rfl; have t2 := cell_blk HT1.out 2 _ rfl; have f0 := blk_frozen HT1.out 0; have f1 := blk_frozen HT1.out 1; have f2 := blk_frozen HT1.out 2)))
  refine bodyPost_ret (v := .tuple #[.agg #[.int .i64 0, .slice none 0 0, .slice none 0 0], .int .i64 2]) (results_ct (fn := Try.f20) rfl (a := ⟨w.heap.size + 1, 0, none⟩) rfl rfl (rv_trace (trace_put HT1.out (.int .i64 0) (.slice none 0 0) (.slice none 0 0)) rfl)) rfl ?_
  exact (toc_zero (Nat.le_add_right _ _) HB1.out rfl rfl).toP _
set_option maxHeartbeats 4000000 in
set_option maxRecDepth 100000 in
theorem tor_far (w0 : World) (x : CP) (L M : List S43) (at_ : Int) (i : Int) (A : Option Addr) (c : Nat) (Al : Option Addr) (cl : Nat) (last : List Int) (w : World) (ok : x.Ok w) (fit : x.Fit) (h7 : x.l1.length ≤ 7) (h4 : x.a0 ≤ 4 ∨ 10 < x.a0) (hM : M = x.allS.1) (hLB : ∀ s ∈ L, s.Bytes) (hMB : ∀ s ∈ M, s.Bytes)
    (hc : L.length ≤ c) (hw0 : Below w0.heap.size w0 w) (hr0 : Kd.C k43 w0 A L.length L) (hr : Kd.C k43 w A L.length L) (hcl : last.length ≤ cl) (hrl0 : Kd.C (Kd.int .u8) w0 Al last.length last) (hrl : Kd.C (Kd.int .u8) w Al last.length last) (hmay : x.may = true) (hi0 : 0 ≤ i) (hi : (x.l4.length : Int) ≤ i) :
    Calls Try.prog 20 #[.agg #[.int .i64 x.a0, .slice x.A1 x.l1.length x.c1, .slice x.A2 x.l2.length x.c2, .slice x.A3 x.l3.length x.c3, .slice x.A4 x.l4.length x.c4, .slice x.A5 x.l5.length x.c5], .slice A L.length c, .int .i64 at_, .int .i64 i, .slice Al last.length cl] w fun e w' => ToP (TrS.zero, 2) w0.heap.size w e w' := by
  obtain ⟨W1, hW1⟩ : ∃ W1, W1 = (w.alloc (.cells #[.int .i64 x.a0, .slice x.A1 x.l1.length x.c1, .slice x.A2 x.l2.length x.c2, .slice x.A3 x.l3.length x.c3, .slice x.A4 x.l4.length x.c4, .slice x.A5 x.l5.length x.c5] 26)).alloc (.cells #[.int .i64 0, .slice none 0 0, .slice none 0 0] 30) := ⟨_, rfl⟩
  have hbA : Below w.heap.size w (w.alloc (.cells #[.int .i64 x.a0, .slice x.A1 x.l1.length x.c1, .slice x.A2 x.l2.length x.c2, .slice x.A3 x.l3.length x.c3, .slice x.A4 x.l4.length x.c4, .slice x.A5 x.l5.length x.c5] 26)) := (Below.refl _ _).alloc (Nat.le_refl _) _
  have hb1 : Below w.heap.size w W1 := by rw [hW1]; exact hbA.alloc hbA.size _
  have hat1 : x.At W1 w.heap.size := by rw [hW1]; exact (CP.at_alloc x w).below ((Below.refl _ _).alloc (Nat.le_refl _) _)
  have htr1 : W1.heap[w.heap.size + 1]? = some (.cells #[.int .i64 0, .slice none 0 0, .slice none 0 0] 30 (0, 0)) := by
    rw [hW1]
    have : (w.alloc (.cells #[.int .i64 x.a0, .slice x.A1 x.l1.length x.c1, .slice x.A2 x.l2.length x.c2, .slice x.A3 x.l3.length x.c3, .slice x.A4 x.l4.length x.c4, .slice x.A5 x.l5.length x.c5] 26)).heap.size = w.heap.size + 1 := by simp
    rw [← this]; exact heap_alloc_at _ _
  have okb := ok.below hb1
  have HMC := Aside0.mk (inquestref03_May.calls x.mayK x.a0 x.A1 x.c1 x.l1 x.A2 x.c2 x.l2 x.A3 x.c3 x.l3 x.A4 x.c4 x.l4 x.A5 x.c5 x.l5 x.may W1 okb.r1 okb.m1 okb.r2 okb.m2 okb.r3 okb.m3 okb.r4 okb.m4 okb.r5 okb.m5 (may_ref x fit x.mayK (Nat.le_refl _)))
  have HALL := Aside0.mk (fun W (hb : Below w.heap.size w W) => all17_calls x W (ok.below hb) fit h7 h4)
  have HLD := Aside0.mk (fun an (hL : Leads L) (ha : an < L.length) (hlast : last.length ≤ 17592186044416) W (hb : Below w.heap.size w W) => leads46_calls L an i A c Al cl last w0 W hL ha hlast hc hr0 hcl hrl0 (hw0.trans (hb.mono hw0.size)))
  have hw0s := hw0.size
  have HR := Aside0.mk hr
  have HRL := Aside0.mk hrl
  have HLB := Aside0.mk hLB
  have HMB := Aside0.mk hMB
  have HAT := Aside0.mk hat1
  have HTA := Aside0.mk htr1
  have HB := Aside0.mk hb1
  have hll : last.length ≤ 9223372036854775807 := hrl.2.1
  have hLl : L.length ≤ 9223372036854775807 := hr.2.1
  have hl4 : x.l4.length ≤ 9223372036854775807 := by have := fit.n4; omega
  rw [hW1] at HAT HTA HB HMC
  obtain ⟨_, k0, k1, k2, k3, k4, k5⟩ := HAT.out
  clear hb1 hbA hat1 htr1 okb ok fit hr hrl hLB hMB hW1 hc hcl h7 h4 hr0 hrl0 hw0
  rw [hmay] at HMC
  have hi1 : decide (i < 0) = false := decide_eq_false (by omega)
  have hi2 : decide ((x.l4.length : Int) ≤ i) = true := decide_eq_true hi
  clear hmay hM
  go_enter Try.func20, Try.ntmps20
  go_wp2_with (first
    | (go_at_call 15; go_must (refine HMC.out.mono ?_; rintro e w1 ⟨rfl, hb1⟩; have HA1 := Aside0.mk (HAT.out.below hb1); have HT1 := Aside0.mk (blk_below HTA.out hb1); have HB1 := Aside0.mk (HB.out.trans (hb1.mono HB.out.size)); clear hb1 k0 k1 k2 k3 k4 k5; obtain ⟨_, k0, k1, k2, k3, k4, k5⟩ := HA1.out; have t0 := cell_blk HT1.out 0 _ rfl; have t1 := cell_blk HT1.out 1 _ rfl; have t2 := cell_blk HT1.out 2 _ rfl; have f0 := blk_frozen HT1.out 0; have f1 := blk_frozen HT1.out 1; have f2 := blk_frozen HT1.out 2)))
  refine bodyPost_ret (v := .tuple #[.agg #[.int .i64 0, .slice none 0 0, .slice none 0 0], .int .i64 2]) (results_ct (fn := Try.f20) rfl (a := ⟨w.heap.size + 1, 0, none⟩) rfl rfl (rv_trace (trace_put HT1.out (.int .i64 0) (.slice none 0 0) (.slice none 0 0)) rfl)) rfl ?_
  exact (toc_zero (Nat.le_add_right _ _) HB1.out rfl rfl).toP _
set_option maxHeartbeats 4000000 in
set_option maxRecDepth 100000 in
theorem tor_len (w0 : World) (x : CP) (L M : List S43) (at_ : Int) (i : Int) (A : Option Addr) (c : Nat) (Al : Option Addr) (cl : Nat) (last : List Int) (w : World) (ok : x.Ok w) (fit : x.Fit) (h7 : x.l1.length ≤ 7) (h4 : x.a0 ≤ 4 ∨ 10 < x.a0) (hM : M = x.allS.1) (hLB : ∀ s ∈ L, s.Bytes) (hMB : ∀ s ∈ M, s.Bytes)
    (hc : L.length ≤ c) (hw0 : Below w0.heap.size w0 w) (hr0 : Kd.C k43 w0 A L.length L) (hr : Kd.C k43 w A L.length L) (hcl : last.length ≤ cl) (hrl0 : Kd.C (Kd.int .u8) w0 Al last.length last) (hrl : Kd.C (Kd.int .u8) w Al last.length last) (hmay : x.may = true) (hi : 0 ≤ i ∧ i < (x.l4.length : Int)) (hlen : (last.length : Int) ≠ x.a0) :
    Calls Try.prog 20 #[.agg #[.int .i64 x.a0, .slice x.A1 x.l1.length x.c1, .slice x.A2 x.l2.length x.c2, .slice x.A3 x.l3.length x.c3, .slice x.A4 x.l4.length x.c4, .slice x.A5 x.l5.length x.c5], .slice A L.length c, .int .i64 at_, .int .i64 i, .slice Al last.length cl] w fun e w' => ToP (TrS.zero, 2) w0.heap.size w e w' := by
  obtain ⟨W1, hW1⟩ : ∃ W1, W1 = (w.alloc (.cells #[.int .i64 x.a0, .slice x.A1 x.l1.length x.c1, .slice x.A2 x.l2.length x.c2, .slice x.A3 x.l3.length x.c3, .slice x.A4 x.l4.length x.c4, .slice x.A5 x.l5.length x.c5] 26)).alloc (.cells #[.int .i64 0, .slice none 0 0, .slice none 0 0] 30) := ⟨_, rfl⟩
  have hbA : Below w.heap.size w (w.alloc (.cells #[.int .i64 x.a0, .slice x.A1 x.l1.length x.c1, .slice x.A2 x.l2.length x.c2, .slice x.A3 x.l3.length x.c3, .slice x.A4 x.l4.length x.c4, .slice x.A5 x.l5.length x.c5] 26)) := (Below.refl _ _).alloc (Nat.le_refl _) _
  have hb1 : Below w.heap.size w W1 := by rw [hW1]; exact hbA.alloc hbA.size _
  have hat1 : x.At W1 w.heap.size := by rw [hW1]; exact (CP.at_alloc x w).below ((Below.refl _ _).alloc (Nat.le_refl _) _)
  have htr1 : W1.heap[w.heap.size + 1]? = some (.cells #[.int .i64 0, .slice none 0 0, .slice none 0 0] 30 (0, 0)) := by
    rw [hW1]
    have : (w.alloc (.cells #[.int .i64 x.a0, .slice x.A1 x.l1.length x.c1, .slice x.A2 x.l2.length x.c2, .slice x.A3 x.l3.length x.c3, .slice x.A4 x.l4.length x.c4, .slice x.A5 x.l5.length x.c5] 26)).heap.size = w.heap.size + 1 := by simp
    rw [← this]; exact heap_alloc_at _ _
  have okb := ok.below hb1
  have HMC := Aside0.mk (inquestref03_May.calls x.mayK x.a0 x.A1 x.c1 x.l1 x.A2 x.c2 x.l2 x.A3 x.c3 x.l3 x.A4 x.c4 x.l4 x.A5 x.c5 x.l5 x.may W1 okb.r1 okb.m1 okb.r2 okb.m2 okb.r3 okb.m3 okb.r4 okb.m4 okb.r5 okb.m5 (may_ref x fit x.mayK (Nat.le_refl _)))
  have HALL := Aside0.mk (fun W (hb : Below w.heap.size w W) => all17_calls x W (ok.below hb) fit h7 h4)
  have HLD := Aside0.mk (fun an (hL : Leads L) (ha : an < L.length) (hlast : last.length ≤ 17592186044416) W (hb : Below w.heap.size w W) => leads46_calls L an i A c Al cl last w0 W hL ha hlast hc hr0 hcl hrl0 (hw0.trans (hb.mono hw0.size)))
  have hw0s := hw0.size
  have HR := Aside0.mk hr
  have HRL := Aside0.mk hrl
  have HLB := Aside0.mk hLB
  have HMB := Aside0.mk hMB
  have HAT := Aside0.mk hat1
  have HTA := Aside0.mk htr1
  have HB := Aside0.mk hb1
  have hll : last.length ≤ 9223372036854775807 := hrl.2.1
  have hLl : L.length ≤ 9223372036854775807 := hr.2.1
  have hl4 : x.l4.length ≤ 9223372036854775807 := by have := fit.n4; omega
  rw [hW1] at HAT HTA HB HMC
  obtain ⟨_, k0, k1, k2, k3, k4, k5⟩ := HAT.out
  clear hb1 hbA hat1 htr1 okb ok fit hr hrl hLB hMB hW1 hc hcl h7 h4 hr0 hrl0 hw0
  rw [hmay] at HMC
  have hi1 : decide (i < 0) = false := decide_eq_false (by omega)
  have hi2 : decide ((x.l4.length : Int) ≤ i) = false := decide_eq_false (by omega)
  have hne : ((last.length : Int) != x.a0) = true := bne_iff_ne.2 hlen
  clear hmay hM hlen hi
  go_enter Try.func20, Try.ntmps20
  go_wp2_with (first
    | (go_at_call 15; go_must (refine HMC.out.mono ?_; rintro e w1 ⟨rfl, hb1⟩; have HA1 := Aside0.mk (HAT.out.below hb1); have HT1 := Aside0.mk (blk_below HTA.out hb1); have HB1 := Aside0.mk (HB.out.trans (hb1.mono HB.out.size)); clear hb1 k0 k1 k2 k3 k4 k5; obtain ⟨_, k0, k1, k2, k3, k4, k5⟩ := HA1.out; have t0 := cell_blk HT1.out 0 _ rfl; have t1 := cell_blk HT1.out 1 _ rfl; have t2 := cell_blk HT1.out 2 _ rfl; have f0 := blk_frozen HT1.out 0; have f1 := blk_frozen HT1.out 1; have f2 := blk_frozen HT1.out 2)))
  refine bodyPost_ret (v := .tuple #[.agg #[.int .i64 0, .slice none 0 0, .slice none 0 0], .int .i64 2]) (results_ct (fn := Try.f20) rfl (a := ⟨w.heap.size + 1, 0, none⟩) rfl rfl (rv_trace (trace_put HT1.out (.int .i64 0) (.slice none 0 0) (.slice none 0 0)) rfl)) rfl ?_
  exact (toc_zero (Nat.le_add_right _ _) HB1.out rfl rfl).toP _
set_option maxHeartbeats 4000000 in
set_option maxRecDepth 100000 in
theorem tor_any (w0 : World) (x : CP) (L M : List S43) (at_ : Int) (i : Int) (A : Option Addr) (c : Nat) (Al : Option Addr) (cl : Nat) (last : List Int) (w : World) (ok : x.Ok w) (fit : x.Fit) (h7 : x.l1.length ≤ 7) (h4 : x.a0 ≤ 4 ∨ 10 < x.a0) (hM : M = x.allS.1) (hLB : ∀ s ∈ L, s.Bytes) (hMB : ∀ s ∈ M, s.Bytes)
    (hc : L.length ≤ c) (hw0 : Below w0.heap.size w0 w) (hr0 : Kd.C k43 w0 A L.length L) (hr : Kd.C k43 w A L.length L) (hcl : last.length ≤ cl) (hrl0 : Kd.C (Kd.int .u8) w0 Al last.length last) (hrl : Kd.C (Kd.int .u8) w Al last.length last) (hmay : x.may = true) (hi : 0 ≤ i ∧ i < (x.l4.length : Int)) (hlen : (last.length : Int) = x.a0) (hany : last.any (fun v => decide (1 < v)) = true) :
    Calls Try.prog 20 #[.agg #[.int .i64 x.a0, .slice x.A1 x.l1.length x.c1, .slice x.A2 x.l2.length x.c2, .slice x.A3 x.l3.length x.c3, .slice x.A4 x.l4.length x.c4, .slice x.A5 x.l5.length x.c5], .slice A L.length c, .int .i64 at_, .int .i64 i, .slice Al last.length cl] w fun e w' => ToP (TrS.zero, 2) w0.heap.size w e w' := by
  obtain ⟨W1, hW1⟩ : ∃ W1, W1 = (w.alloc (.cells #[.int .i64 x.a0, .slice x.A1 x.l1.length x.c1, .slice x.A2 x.l2.length x.c2, .slice x.A3 x.l3.length x.c3, .slice x.A4 x.l4.length x.c4, .slice x.A5 x.l5.length x.c5] 26)).alloc (.cells #[.int .i64 0, .slice none 0 0, .slice none 0 0] 30) := ⟨_, rfl⟩
  have hbA : Below w.heap.size w (w.alloc (.cells #[.int .i64 x.a0, .slice x.A1 x.l1.length x.c1, .slice x.A2 x.l2.length x.c2, .slice x.A3 x.l3.length x.c3, .slice x.A4 x.l4.length x.c4, .slice x.A5 x.l5.length x.c5] 26)) := (Below.refl _ _).alloc (Nat.le_refl _) _
  have hb1 : Below w.heap.size w W1 := by rw [hW1]; exact hbA.alloc hbA.size _
  have hat1 : x.At W1 w.heap.size := by rw [hW1]; exact (CP.at_alloc x w).below ((Below.refl _ _).alloc (Nat.le_refl _) _)
  have htr1 : W1.heap[w.heap.size + 1]? = some (.cells #[.int .i64 0, .slice none 0 0, .slice none 0 0] 30 (0, 0)) := by
    rw [hW1]
    have : (w.alloc (.cells #[.int .i64 x.a0, .slice x.A1 x.l1.length x.c1, .slice x.A2 x.l2.length x.c2, .slice x.A3 x.l3.length x.c3, .slice x.A4 x.l4.length x.c4, .slice x.A5 x.l5.length x.c5] 26)).heap.size = w.heap.size + 1 := by simp
    rw [← this]; exact heap_alloc_at _ _
  have okb := ok.below hb1
  have HMC := Aside0.mk (inquestref03_May.calls x.mayK x.a0 x.A1 x.c1 x.l1 x.A2 x.c2 x.l2 x.A3 x.c3 x.l3 x.A4 x.c4 x.l4 x.A5 x.c5 x.l5 x.may W1 okb.r1 okb.m1 okb.r2 okb.m2 okb.r3 okb.m3 okb.r4 okb.m4 okb.r5 okb.m5 (may_ref x fit x.mayK (Nat.le_refl _)))
  have HALL := Aside0.mk (fun W (hb : Below w.heap.size w W) => all17_calls x W (ok.below hb) fit h7 h4)
  have HLD := Aside0.mk (fun an (hL : Leads L) (ha : an < L.length) (hlast : last.length ≤ 17592186044416) W (hb : Below w.heap.size w W) => leads46_calls L an i A c Al cl last w0 W hL ha hlast hc hr0 hcl hrl0 (hw0.trans (hb.mono hw0.size)))
  have hw0s := hw0.size
  have HR := Aside0.mk hr
  have HRL := Aside0.mk hrl
  have HLB := Aside0.mk hLB
  have HMB := Aside0.mk hMB
  have HAT := Aside0.mk hat1
  have HTA := Aside0.mk htr1
  have HB := Aside0.mk hb1
  have hll : last.length ≤ 9223372036854775807 := hrl.2.1
  have hLl : L.length ≤ 9223372036854775807 := hr.2.1
  have hl4 : x.l4.length ≤ 9223372036854775807 := by have := fit.n4; omega
  rw [hW1] at HAT HTA HB HMC
  obtain ⟨_, k0, k1, k2, k3, k4, k5⟩ := HAT.out
  clear hb1 hbA hat1 htr1 okb ok fit hr hrl hLB hMB hW1 hc hcl h7 h4 hr0 hrl0 hw0
  rw [hmay] at HMC
  have hi1 : decide (i < 0) = false := decide_eq_false (by omega)
  have hi2 : decide ((x.l4.length : Int) ≤ i) = false := decide_eq_false (by omega)
  have hne : ((last.length : Int) != x.a0) = false := by rw [hlen]; simp
  have HANY := Aside0.mk hany
  clear hmay hM hlen hany hi
  go_enter Try.func20, Try.ntmps20
  go_wp2_with (first
    | (go_at_call 15; go_must (refine HMC.out.mono ?_; rintro e w1 ⟨rfl, hb1⟩; have HA1 := Aside0.mk (HAT.out.below hb1); have HT1 := Aside0.mk (blk_below HTA.out hb1); have HB1 := Aside0.mk (HB.out.trans (hb1.mono HB.out.size)); clear hb1 k0 k1 k2 k3 k4 k5; obtain ⟨_, k0, k1, k2, k3, k4, k5⟩ := HA1.out)))
  clear k0 k1 k2 k3 k4 k5
  go_loopw [12] (fun v wr => ∃ j : Nat, j ≤ last.length ∧ v = .int .i64 j ∧ Aside0 (Below w1.heap.size w1 wr) ∧ Aside0 (∀ (q : Nat) (h : q < last.length), q < j → last[q] ≤ 1)) (fun v _ => last.length - (intOf v).toNat)
  case atStart => exact ⟨0, by omega, rfl, ⟨Below.refl _ _⟩, ⟨fun q _ h => by omega⟩⟩
  case round =>
    obtain ⟨j, hj, rfl, HBJ, HJ⟩ := hrel
    have HBW := Aside0.mk (HB1.out.trans (HBJ.out.mono HB1.out.size))
    have HTW := Aside0.mk (blk_below HT1.out HBJ.out)
    by_cases hlt : j < last.length
    · obtain ⟨al, ea, hc0⟩ := Kd.at_int (Kd.C_below HRL.out HBW.out) j (by omega) (by omega)
      subst ea
      have hcell : wr.cell? (al.add j) = some (.int .u8 last[j]) := by simpa [rd, List.getD_eq_getElem?_getD, hlt] using hc0
      obtain ⟨v, hv⟩ : ∃ v, v = last[j] := ⟨_, rfl⟩
      rw [← hv] at hcell
      have HV := Aside0.mk hv
      clear hc0 hv
      by_cases hgt : 1 < v
      · have hd1 : decide (1 < v) = true := decide_eq_true hgt
        have t0 := cell_blk HTW.out 0 _ rfl
        have t1 := cell_blk HTW.out 1 _ rfl
        have t2 := cell_blk HTW.out 2 _ rfl
        have f0 := blk_frozen HTW.out 0
        have f1 := blk_frozen HTW.out 1
        have f2 := blk_frozen HTW.out 2
        clear HJ HV
        go_wp2
        refine bodyPost_ret (v := .tuple #[.agg #[.int .i64 0, .slice none 0 0, .slice none 0 0], .int .i64 2]) (results_ct (fn := Try.f20) rfl (a := ⟨w.heap.size + 1, 0, none⟩) rfl rfl (rv_trace (trace_put HTW.out (.int .i64 0) (.slice none 0 0) (.slice none 0 0)) rfl)) rfl ?_
        exact (toc_zero (Nat.le_add_right _ _) HBW.out rfl rfl).toP _
      · have hd1 : decide (1 < v) = false := decide_eq_false hgt
        have HJ2 : Aside0 (∀ (q : Nat) (h : q < last.length), q < j + 1 → last[q] ≤ 1) := ⟨fun q h hq => by
          by_cases e : q = j
          · subst e; rw [← HV.out]; omega
          · exact HJ.out q h (by omega)⟩
        clear hgt
        go_wp2
        exact ⟨⟨j + 1, by omega, by go_num, HBJ, HJ2⟩, by simp [intOf]; omega⟩
    · exfalso
      obtain ⟨u, hu, hu2⟩ := List.any_eq_true.1 HANY.out
      obtain ⟨q, hq, rfl⟩ := List.getElem_of_mem hu
      have := HJ.out q hq (by omega)
      simp at hu2
      omega
set_option maxHeartbeats 4000000 in
set_option maxRecDepth 100000 in
theorem tor_err (w0 : World) (x : CP) (L M : List S43) (at_ : Int) (i : Int) (A : Option Addr) (c : Nat) (Al : Option Addr) (cl : Nat) (last : List Int) (w : World) (ok : x.Ok w) (fit : x.Fit) (h7 : x.l1.length ≤ 7) (h4 : x.a0 ≤ 4 ∨ 10 < x.a0) (hM : M = x.allS.1) (hLB : ∀ s ∈ L, s.Bytes) (hMB : ∀ s ∈ M, s.Bytes)
    (hc : L.length ≤ c) (hw0 : Below w0.heap.size w0 w) (hr0 : Kd.C k43 w0 A L.length L) (hr : Kd.C k43 w A L.length L) (hcl : last.length ≤ cl) (hrl0 : Kd.C (Kd.int .u8) w0 Al last.length last) (hrl : Kd.C (Kd.int .u8) w Al last.length last) (hmay : x.may = true) (hi : 0 ≤ i ∧ i < (x.l4.length : Int)) (hlen : (last.length : Int) = x.a0) (hany : last.any (fun v => decide (1 < v)) = false) (er : Int) (hall2 : x.allS.2 = er) (her : er ≠ 0) :
    Calls Try.prog 20 #[.agg #[.int .i64 x.a0, .slice x.A1 x.l1.length x.c1, .slice x.A2 x.l2.length x.c2, .slice x.A3 x.l3.length x.c3, .slice x.A4 x.l4.length x.c4, .slice x.A5 x.l5.length x.c5], .slice A L.length c, .int .i64 at_, .int .i64 i, .slice Al last.length cl] w fun e w' => ToP (TrS.zero, er) w0.heap.size w e w' := by
  obtain ⟨W1, hW1⟩ : ∃ W1, W1 = (w.alloc (.cells #[.int .i64 x.a0, .slice x.A1 x.l1.length x.c1, .slice x.A2 x.l2.length x.c2, .slice x.A3 x.l3.length x.c3, .slice x.A4 x.l4.length x.c4, .slice x.A5 x.l5.length x.c5] 26)).alloc (.cells #[.int .i64 0, .slice none 0 0, .slice none 0 0] 30) := ⟨_, rfl⟩
  have hbA : Below w.heap.size w (w.alloc (.cells #[.int .i64 x.a0, .slice x.A1 x.l1.length x.c1, .slice x.A2 x.l2.length x.c2, .slice x.A3 x.l3.length x.c3, .slice x.A4 x.l4.length x.c4, .slice x.A5 x.l5.length x.c5] 26)) := (Below.refl _ _).alloc (Nat.le_refl _) _
  have hb1 : Below w.heap.size w W1 := by rw [hW1]; exact hbA.alloc hbA.size _
  have hat1 : x.At W1 w.heap.size := by rw [hW1]; exact (CP.at_alloc x w).below ((Below.refl _ _).alloc (Nat.le_refl _) _)
  have htr1 : W1.heap[w.heap.size + 1]? = some (.cells #[.int .i64 0, .slice none 0 0, .slice none 0 0] 30 (0, 0)) := by
    rw [hW1]
    have : (w.alloc (.cells #[.int .i64 x.a0, .slice x.A1 x.l1.length x.c1, .slice x.A2 x.l2.length x.c2, .slice x.A3 x.l3.length x.c3, .slice x.A4 x.l4.length x.c4, .slice x.A5 x.l5.length x.c5] 26)).heap.size = w.heap.size + 1 := by simp
    rw [← this]; exact heap_alloc_at _ _
  have okb := ok.below hb1
  have HMC := Aside0.mk (inquestref03_May.calls x.mayK x.a0 x.A1 x.c1 x.l1 x.A2 x.c2 x.l2 x.A3 x.c3 x.l3 x.A4 x.c4 x.l4 x.A5 x.c5 x.l5 x.may W1 okb.r1 okb.m1 okb.r2 okb.m2 okb.r3 okb.m3 okb.r4 okb.m4 okb.r5 okb.m5 (may_ref x fit x.mayK (Nat.le_refl _)))
  have HALL := Aside0.mk (fun W (hb : Below w.heap.size w W) => all17_calls x W (ok.below hb) fit h7 h4)
  have HLD := Aside0.mk (fun an (hL : Leads L) (ha : an < L.length) (hlast : last.length ≤ 17592186044416) W (hb : Below w.heap.size w W) => leads46_calls L an i A c Al cl last w0 W hL ha hlast hc hr0 hcl hrl0 (hw0.trans (hb.mono hw0.size)))
  have hw0s := hw0.size
  have HR := Aside0.mk hr
  have HRL := Aside0.mk hrl
  have HLB := Aside0.mk hLB
  have HMB := Aside0.mk hMB
  have HAT := Aside0.mk hat1
  have HTA := Aside0.mk htr1
  have HB := Aside0.mk hb1
  have hll : last.length ≤ 9223372036854775807 := hrl.2.1
  have hLl : L.length ≤ 9223372036854775807 := hr.2.1
  have hl4 : x.l4.length ≤ 9223372036854775807 := by have := fit.n4; omega
  rw [hW1] at HAT HTA HB HMC
  obtain ⟨_, k0, k1, k2, k3, k4, k5⟩ := HAT.out
  clear hb1 hbA hat1 htr1 okb ok fit hr hrl hLB hMB hW1 hc hcl h7 h4 hr0 hrl0 hw0
  rw [hmay] at HMC
  have hi1 : decide (i < 0) = false := decide_eq_false (by omega)
  have hi2 : decide ((x.l4.length : Int) ≤ i) = false := decide_eq_false (by omega)
  have hne : ((last.length : Int) != x.a0) = false := by rw [hlen]; simp
  have HANY := Aside0.mk hany
  rw [← hM, hall2] at HALL
  have hne2 : (er != 0) = true := bne_iff_ne.2 her
  clear hmay hM hlen hany hi hall2 her
  go_enter Try.func20, Try.ntmps20
  go_wp2_with (first
    | (go_at_call 15; go_must (refine HMC.out.mono ?_; rintro e w1 ⟨rfl, hb1⟩; have HA1 := Aside0.mk (HAT.out.below hb1); have HT1 := Aside0.mk (blk_below HTA.out hb1); have HB1 := Aside0.mk (HB.out.trans (hb1.mono HB.out.size)); clear hb1 k0 k1 k2 k3 k4 k5; obtain ⟨_, k0, k1, k2, k3, k4, k5⟩ := HA1.out)))
  clear k0 k1 k2 k3 k4 k5
  go_loopw [12] (fun v wr => ∃ j : Nat, j ≤ last.length ∧ v = .int .i64 j ∧ Aside0 (Below w1.heap.size w1 wr) ∧ Aside0 (∀ (q : Nat) (h : q < last.length), q < j → last[q] ≤ 1)) (fun v _ => last.length - (intOf v).toNat)
  case atStart => exact ⟨0, by omega, rfl, ⟨Below.refl _ _⟩, ⟨fun q _ h => by omega⟩⟩
  case round =>
    obtain ⟨j, hj, rfl, HBJ, HJ⟩ := hrel
    have HBW := Aside0.mk (HB1.out.trans (HBJ.out.mono HB1.out.size))
    have HTW := Aside0.mk (blk_below HT1.out HBJ.out)
    by_cases hlt : j < last.length
    · obtain ⟨al, ea, hc0⟩ := Kd.at_int (Kd.C_below HRL.out HBW.out) j (by omega) (by omega)
      subst ea
      have hcell : wr.cell? (al.add j) = some (.int .u8 last[j]) := by simpa [rd, List.getD_eq_getElem?_getD, hlt] using hc0
      obtain ⟨v, hv⟩ : ∃ v, v = last[j] := ⟨_, rfl⟩
      rw [← hv] at hcell
      have HV := Aside0.mk hv
      clear hc0 hv
      have hd1 : decide (1 < v) = false := decide_eq_false (by
        intro h
        have := List.any_eq_false.1 HANY.out last[j] (List.getElem_mem hlt)
        rw [← HV.out] at this
        simp at this
        omega)
      have HJ2 : Aside0 (∀ (q : Nat) (h : q < last.length), q < j + 1 → last[q] ≤ 1) := ⟨fun q h hq => by
        have := List.any_eq_false.1 HANY.out last[q] (List.getElem_mem h)
        simp at this
        omega⟩
      go_wp2
      exact ⟨⟨j + 1, by omega, by go_num, HBJ, HJ2⟩, by simp [intOf]; omega⟩
    · have HAW := Aside0.mk (HA1.out.below HBJ.out)
      obtain ⟨_, k0, k1, k2, k3, k4, k5⟩ := HAW.out
      go_wp2_with (first
        | (go_at_call 17; go_must (refine (HALL.out _ HBW.out).mono ?_; rintro e w3 ⟨v3, rfl, ho3, hb3⟩; obtain ⟨A3, c3, e3, _, hr3⟩ := Kd.R_reads ho3; subst e3; have HT3 := Aside0.mk (blk_below HTW.out hb3); have HB3 := Aside0.mk (HBW.out.trans (hb3.mono HBW.out.size)); skip; clear ho3 hr3 hb3 k0 k1 k2 k3 k4 k5; have t0 := cell_blk HT3.out 0 _ rfl; have t1 := cell_blk HT3.out 1 _ rfl; have t2 := cell_blk HT3.out 2 _ rfl; have f0 := blk_frozen HT3.out 0; have f1 := blk_frozen HT3.out 1; have f2 := blk_frozen HT3.out 2)))
      refine bodyPost_ret (v := .tuple #[.agg #[.int .i64 0, .slice none 0 0, .slice none 0 0], .int .i64 er]) (results_ct (fn := Try.f20) rfl (a := ⟨w.heap.size + 1, 0, none⟩) rfl rfl (rv_trace (trace_put HT3.out (.int .i64 0) (.slice none 0 0) (.slice none 0 0)) rfl)) rfl ?_
      exact (toc_zero (Nat.le_add_right _ _) HB3.out rfl rfl).toP _
set_option maxHeartbeats 4000000 in
set_option maxRecDepth 100000 in
theorem tor_same (w0 : World) (x : CP) (L M : List S43) (at_ : Int) (i : Int) (A : Option Addr) (c : Nat) (Al : Option Addr) (cl : Nat) (last : List Int) (w : World) (ok : x.Ok w) (fit : x.Fit) (h7 : x.l1.length ≤ 7) (h4 : x.a0 ≤ 4 ∨ 10 < x.a0) (hM : M = x.allS.1) (hLB : ∀ s ∈ L, s.Bytes) (hMB : ∀ s ∈ M, s.Bytes)
    (hc : L.length ≤ c) (hw0 : Below w0.heap.size w0 w) (hr0 : Kd.C k43 w0 A L.length L) (hr : Kd.C k43 w A L.length L) (hcl : last.length ≤ cl) (hrl0 : Kd.C (Kd.int .u8) w0 Al last.length last) (hrl : Kd.C (Kd.int .u8) w Al last.length last) (hmay : x.may = true) (hi : 0 ≤ i ∧ i < (x.l4.length : Int)) (hlen : (last.length : Int) = x.a0) (hany : last.any (fun v => decide (1 < v)) = false) (hall2 : x.allS.2 = 0) (hsm : sameS L M = false) :
    Calls Try.prog 20 #[.agg #[.int .i64 x.a0, .slice x.A1 x.l1.length x.c1, .slice x.A2 x.l2.length x.c2, .slice x.A3 x.l3.length x.c3, .slice x.A4 x.l4.length x.c4, .slice x.A5 x.l5.length x.c5], .slice A L.length c, .int .i64 at_, .int .i64 i, .slice Al last.length cl] w fun e w' => ToP (TrS.zero, 2) w0.heap.size w e w' := by
  obtain ⟨W1, hW1⟩ : ∃ W1, W1 = (w.alloc (.cells #[.int .i64 x.a0, .slice x.A1 x.l1.length x.c1, .slice x.A2 x.l2.length x.c2, .slice x.A3 x.l3.length x.c3, .slice x.A4 x.l4.length x.c4, .slice x.A5 x.l5.length x.c5] 26)).alloc (.cells #[.int .i64 0, .slice none 0 0, .slice none 0 0] 30) := ⟨_, rfl⟩
  have hbA : Below w.heap.size w (w.alloc (.cells #[.int .i64 x.a0, .slice x.A1 x.l1.length x.c1, .slice x.A2 x.l2.length x.c2, .slice x.A3 x.l3.length x.c3, .slice x.A4 x.l4.length x.c4, .slice x.A5 x.l5.length x.c5] 26)) := (Below.refl _ _).alloc (Nat.le_refl _) _
  have hb1 : Below w.heap.size w W1 := by rw [hW1]; exact hbA.alloc hbA.size _
  have hat1 : x.At W1 w.heap.size := by rw [hW1]; exact (CP.at_alloc x w).below ((Below.refl _ _).alloc (Nat.le_refl _) _)
  have htr1 : W1.heap[w.heap.size + 1]? = some (.cells #[.int .i64 0, .slice none 0 0, .slice none 0 0] 30 (0, 0)) := by
    rw [hW1]
    have : (w.alloc (.cells #[.int .i64 x.a0, .slice x.A1 x.l1.length x.c1, .slice x.A2 x.l2.length x.c2, .slice x.A3 x.l3.length x.c3, .slice x.A4 x.l4.length x.c4, .slice x.A5 x.l5.length x.c5] 26)).heap.size = w.heap.size + 1 := by simp
    rw [← this]; exact heap_alloc_at _ _
  have okb := ok.below hb1
  have HMC := Aside0.mk (inquestref03_May.calls x.mayK x.a0 x.A1 x.c1 x.l1 x.A2 x.c2 x.l2 x.A3 x.c3 x.l3 x.A4 x.c4 x.l4 x.A5 x.c5 x.l5 x.may W1 okb.r1 okb.m1 okb.r2 okb.m2 okb.r3 okb.m3 okb.r4 okb.m4 okb.r5 okb.m5 (may_ref x fit x.mayK (Nat.le_refl _)))
  have HALL := Aside0.mk (fun W (hb : Below w.heap.size w W) => all17_calls x W (ok.below hb) fit h7 h4)
  have HLD := Aside0.mk (fun an (hL : Leads L) (ha : an < L.length) (hlast : last.length ≤ 17592186044416) W (hb : Below w.heap.size w W) => leads46_calls L an i A c Al cl last w0 W hL ha hlast hc hr0 hcl hrl0 (hw0.trans (hb.mono hw0.size)))
  have hw0s := hw0.size
  have HR := Aside0.mk hr
  have HRL := Aside0.mk hrl
  have HLB := Aside0.mk hLB
  have HMB := Aside0.mk hMB
  have HAT := Aside0.mk hat1
  have HTA := Aside0.mk htr1
  have HB := Aside0.mk hb1
  have hll : last.length ≤ 9223372036854775807 := hrl.2.1
  have hLl : L.length ≤ 9223372036854775807 := hr.2.1
  have hl4 : x.l4.length ≤ 9223372036854775807 := by have := fit.n4; omega
  rw [hW1] at HAT HTA HB HMC
  obtain ⟨_, k0, k1, k2, k3, k4, k5⟩ := HAT.out
  clear hb1 hbA hat1 htr1 okb ok fit hr hrl hLB hMB hW1 hc hcl h7 h4 hr0 hrl0 hw0
  rw [hmay] at HMC
  have hi1 : decide (i < 0) = false := decide_eq_false (by omega)
  have hi2 : decide ((x.l4.length : Int) ≤ i) = false := decide_eq_false (by omega)
  have hne : ((last.length : Int) != x.a0) = false := by rw [hlen]; simp
  have HANY := Aside0.mk hany
  rw [← hM, hall2] at HALL
  have HSH := Aside0.mk hsm
  clear hmay hM hlen hany hi hall2 hsm
  go_enter Try.func20, Try.ntmps20
  go_wp2_with (first
    | (go_at_call 15; go_must (refine HMC.out.mono ?_; rintro e w1 ⟨rfl, hb1⟩; have HA1 := Aside0.mk (HAT.out.below hb1); have HT1 := Aside0.mk (blk_below HTA.out hb1); have HB1 := Aside0.mk (HB.out.trans (hb1.mono HB.out.size)); clear hb1 k0 k1 k2 k3 k4 k5; obtain ⟨_, k0, k1, k2, k3, k4, k5⟩ := HA1.out)))
  clear k0 k1 k2 k3 k4 k5
  go_loopw [12] (fun v wr => ∃ j : Nat, j ≤ last.length ∧ v = .int .i64 j ∧ Aside0 (Below w1.heap.size w1 wr) ∧ Aside0 (∀ (q : Nat) (h : q < last.length), q < j → last[q] ≤ 1)) (fun v _ => last.length - (intOf v).toNat)
  case atStart => exact ⟨0, by omega, rfl, ⟨Below.refl _ _⟩, ⟨fun q _ h => by omega⟩⟩
  case round =>
    obtain ⟨j, hj, rfl, HBJ, HJ⟩ := hrel
    have HBW := Aside0.mk (HB1.out.trans (HBJ.out.mono HB1.out.size))
    have HTW := Aside0.mk (blk_below HT1.out HBJ.out)
    by_cases hlt : j < last.length
    · obtain ⟨al, ea, hc0⟩ := Kd.at_int (Kd.C_below HRL.out HBW.out) j (by omega) (by omega)
      subst ea
      have hcell : wr.cell? (al.add j) = some (.int .u8 last[j]) := by simpa [rd, List.getD_eq_getElem?_getD, hlt] using hc0
      obtain ⟨v, hv⟩ : ∃ v, v = last[j] := ⟨_, rfl⟩
      rw [← hv] at hcell
      have HV := Aside0.mk hv
      clear hc0 hv
      have hd1 : decide (1 < v) = false := decide_eq_false (by
        intro h
        have := List.any_eq_false.1 HANY.out last[j] (List.getElem_mem hlt)
        rw [← HV.out] at this
        simp at this
        omega)
      have HJ2 : Aside0 (∀ (q : Nat) (h : q < last.length), q < j + 1 → last[q] ≤ 1) := ⟨fun q h hq => by
        have := List.any_eq_false.1 HANY.out last[q] (List.getElem_mem h)
        simp at this
        omega⟩
      go_wp2
      exact ⟨⟨j + 1, by omega, by go_num, HBJ, HJ2⟩, by simp [intOf]; omega⟩
    · have HAW := Aside0.mk (HA1.out.below HBJ.out)
      obtain ⟨_, k0, k1, k2, k3, k4, k5⟩ := HAW.out
      go_wp2_with (first
        | (go_at_call 17; go_must (refine (HALL.out _ HBW.out).mono ?_; rintro e w3 ⟨v3, rfl, ho3, hb3⟩; obtain ⟨A3, c3, e3, _, hr3⟩ := Kd.R_reads ho3; subst e3; have HT3 := Aside0.mk (blk_below HTW.out hb3); have HB3 := Aside0.mk (HBW.out.trans (hb3.mono HBW.out.size)); have HSM := Aside0.mk (same18_calls L M A c A3 c3 w3 (Kd.C_below HR.out HB3.out) hr3 HLB.out HMB.out); rw [HSH.out] at HSM; clear ho3 hr3 hb3 k0 k1 k2 k3 k4 k5))
        | (go_at_call 18; go_must (refine HSM.out.mono ?_; rintro e w4 ⟨rfl, hb4⟩; have HT4 := Aside0.mk (blk_below HT3.out hb4); have HB4 := Aside0.mk (HB3.out.trans (hb4.mono HB3.out.size)); have HS4 := Aside0.mk HB4.out.size;  clear hb4; have t0 := cell_blk HT4.out 0 _ rfl; have t1 := cell_blk HT4.out 1 _ rfl; have t2 := cell_blk HT4.out 2 _ rfl; have f0 := blk_frozen HT4.out 0; have f1 := blk_frozen HT4.out 1; have f2 := blk_frozen HT4.out 2)))
      refine bodyPost_ret (v := .tuple #[.agg #[.int .i64 0, .slice none 0 0, .slice none 0 0], .int .i64 2]) (results_ct (fn := Try.f20) rfl (a := ⟨w.heap.size + 1, 0, none⟩) rfl rfl (rv_trace (trace_put HT4.out (.int .i64 0) (.slice none 0 0) (.slice none 0 0)) rfl)) rfl ?_
      exact (toc_zero (Nat.le_add_right _ _) HB4.out rfl rfl).toP _
set_option maxHeartbeats 4000000 in
set_option maxRecDepth 100000 in
theorem tor_below (w0 : World) (x : CP) (L M : List S43) (at_ : Int) (i : Int) (A : Option Addr) (c : Nat) (Al : Option Addr) (cl : Nat) (last : List Int) (w : World) (ok : x.Ok w) (fit : x.Fit) (h7 : x.l1.length ≤ 7) (h4 : x.a0 ≤ 4 ∨ 10 < x.a0) (hM : M = x.allS.1) (hLB : ∀ s ∈ L, s.Bytes) (hMB : ∀ s ∈ M, s.Bytes)
    (hc : L.length ≤ c) (hw0 : Below w0.heap.size w0 w) (hr0 : Kd.C k43 w0 A L.length L) (hr : Kd.C k43 w A L.length L) (hcl : last.length ≤ cl) (hrl0 : Kd.C (Kd.int .u8) w0 Al last.length last) (hrl : Kd.C (Kd.int .u8) w Al last.length last) (hmay : x.may = true) (hi : 0 ≤ i ∧ i < (x.l4.length : Int)) (hlen : (last.length : Int) = x.a0) (hany : last.any (fun v => decide (1 < v)) = false) (hall2 : x.allS.2 = 0) (hsm : sameS L M = true) (hat0 : at_ < 0) :
    Calls Try.prog 20 #[.agg #[.int .i64 x.a0, .slice x.A1 x.l1.length x.c1, .slice x.A2 x.l2.length x.c2, .slice x.A3 x.l3.length x.c3, .slice x.A4 x.l4.length x.c4, .slice x.A5 x.l5.length x.c5], .slice A L.length c, .int .i64 at_, .int .i64 i, .slice Al last.length cl] w fun e w' => ToP (TrS.zero, 2) w0.heap.size w e w' := by
  obtain ⟨W1, hW1⟩ : ∃ W1, W1 = (w.alloc (.cells #[.int .i64 x.a0, .slice x.A1 x.l1.length x.c1, .slice x.A2 x.l2.length x.c2, .slice x.A3 x.l3.length x.c3, .slice x.A4 x.l4.length x.c4, .slice x.A5 x.l5.length x.c5] 26)).alloc (.cells #[.int .i64 0, .slice none 0 0, .slice none 0 0] 30) := ⟨_, rfl⟩
  have hbA : Below w.heap.size w (w.alloc (.cells #[.int .i64 x.a0, .slice x.A1 x.l1.length x.c1, .slice x.A2 x.l2.length x.c2, .slice x.A3 x.l3.length x.c3, .slice x.A4 x.l4.length x.c4, .slice x.A5 x.l5.length x.c5] 26)) := (Below.refl _ _).alloc (Nat.le_refl _) _
  have hb1 : Below w.heap.size w W1 := by rw [hW1]; exact hbA.alloc hbA.size _
  have hat1 : x.At W1 w.heap.size := by rw [hW1]; exact (CP.at_alloc x w).below ((Below.refl _ _).alloc (Nat.le_refl _) _)
  have htr1 : W1.heap[w.heap.size + 1]? = some (.cells #[.int .i64 0, .slice none 0 0, .slice none 0 0] 30 (0, 0)) := by
    rw [hW1]
    have : (w.alloc (.cells #[.int .i64 x.a0, .slice x.A1 x.l1.length x.c1, .slice x.A2 x.l2.length x.c2, .slice x.A3 x.l3.length x.c3, .slice x.A4 x.l4.length x.c4, .slice x.A5 x.l5.length x.c5] 26)).heap.size = w.heap.size + 1 := by simp
    rw [← this]; exact heap_alloc_at _ _
  have okb := ok.below hb1
  have HMC := Aside0.mk (inquestref03_May.calls x.mayK x.a0 x.A1 x.c1 x.l1 x.A2 x.c2 x.l2 x.A3 x.c3 x.l3 x.A4 x.c4 x.l4 x.A5 x.c5 x.l5 x.may W1 okb.r1 okb.m1 okb.r2 okb.m2 okb.r3 okb.m3 okb.r4 okb.m4 okb.r5 okb.m5 (may_ref x fit x.mayK (Nat.le_refl _)))
  have HALL := Aside0.mk (fun W (hb : Below w.heap.size w W) => all17_calls x W (ok.below hb) fit h7 h4)
  have HLD := Aside0.mk (fun an (hL : Leads L) (ha : an < L.length) (hlast : last.length ≤ 17592186044416) W (hb : Below w.heap.size w W) => leads46_calls L an i A c Al cl last w0 W hL ha hlast hc hr0 hcl hrl0 (hw0.trans (hb.mono hw0.size)))
  have hw0s := hw0.size
  have HR := Aside0.mk hr
  have HRL := Aside0.mk hrl
  have HLB := Aside0.mk hLB
  have HMB := Aside0.mk hMB
  have HAT := Aside0.mk hat1
  have HTA := Aside0.mk htr1
  have HB := Aside0.mk hb1
  have hll : last.length ≤ 9223372036854775807 := hrl.2.1
  have hLl : L.length ≤ 9223372036854775807 := hr.2.1
  have hl4 : x.l4.length ≤ 9223372036854775807 := by have := fit.n4; omega
  rw [hW1] at HAT HTA HB HMC
  obtain ⟨_, k0, k1, k2, k3, k4, k5⟩ := HAT.out
  clear hb1 hbA hat1 htr1 okb ok fit hr hrl hLB hMB hW1 hc hcl h7 h4 hr0 hrl0 hw0
  rw [hmay] at HMC
  have hi1 : decide (i < 0) = false := decide_eq_false (by omega)
  have hi2 : decide ((x.l4.length : Int) ≤ i) = false := decide_eq_false (by omega)
  have hne : ((last.length : Int) != x.a0) = false := by rw [hlen]; simp
  have HANY := Aside0.mk hany
  rw [← hM, hall2] at HALL
  have HSH := Aside0.mk hsm
  clear hmay hM hlen hany hi hall2 hsm
  go_enter Try.func20, Try.ntmps20
  go_wp2_with (first
    | (go_at_call 15; go_must (refine HMC.out.mono ?_; rintro e w1 ⟨rfl, hb1⟩; have HA1 := Aside0.mk (HAT.out.below hb1); have HT1 := Aside0.mk (blk_below HTA.out hb1); have HB1 := Aside0.mk (HB.out.trans (hb1.mono HB.out.size)); clear hb1 k0 k1 k2 k3 k4 k5; obtain ⟨_, k0, k1, k2, k3, k4, k5⟩ := HA1.out)))
  clear k0 k1 k2 k3 k4 k5
  go_loopw [12] (fun v wr => ∃ j : Nat, j ≤ last.length ∧ v = .int .i64 j ∧ Aside0 (Below w1.heap.size w1 wr) ∧ Aside0 (∀ (q : Nat) (h : q < last.length), q < j → last[q] ≤ 1)) (fun v _ => last.length - (intOf v).toNat)
  case atStart => exact ⟨0, by omega, rfl, ⟨Below.refl _ _⟩, ⟨fun q _ h => by omega⟩⟩
  case round =>
    obtain ⟨j, hj, rfl, HBJ, HJ⟩ := hrel
    have HBW := Aside0.mk (HB1.out.trans (HBJ.out.mono HB1.out.size))
    have HTW := Aside0.mk (blk_below HT1.out HBJ.out)
    by_cases hlt : j < last.length
    · obtain ⟨al, ea, hc0⟩ := Kd.at_int (Kd.C_below HRL.out HBW.out) j (by omega) (by omega)
      subst ea
      have hcell : wr.cell? (al.add j) = some (.int .u8 last[j]) := by simpa [rd, List.getD_eq_getElem?_getD, hlt] using hc0
      obtain ⟨v, hv⟩ : ∃ v, v = last[j] := ⟨_, rfl⟩
      rw [← hv] at hcell
      have HV := Aside0.mk hv
      clear hc0 hv
      have hd1 : decide (1 < v) = false := decide_eq_false (by
        intro h
        have := List.any_eq_false.1 HANY.out last[j] (List.getElem_mem hlt)
        rw [← HV.out] at this
        simp at this
        omega)
      have HJ2 : Aside0 (∀ (q : Nat) (h : q < last.length), q < j + 1 → last[q] ≤ 1) := ⟨fun q h hq => by
        have := List.any_eq_false.1 HANY.out last[q] (List.getElem_mem h)
        simp at this
        omega⟩
      go_wp2
      exact ⟨⟨j + 1, by omega, by go_num, HBJ, HJ2⟩, by simp [intOf]; omega⟩
    · have HAW := Aside0.mk (HA1.out.below HBJ.out)
      obtain ⟨_, k0, k1, k2, k3, k4, k5⟩ := HAW.out
      go_wp2_with (first
        | (go_at_call 17; go_must (refine (HALL.out _ HBW.out).mono ?_; rintro e w3 ⟨v3, rfl, ho3, hb3⟩; obtain ⟨A3, c3, e3, _, hr3⟩ := Kd.R_reads ho3; subst e3; have HT3 := Aside0.mk (blk_below HTW.out hb3); have HB3 := Aside0.mk (HBW.out.trans (hb3.mono HBW.out.size)); have HSM := Aside0.mk (same18_calls L M A c A3 c3 w3 (Kd.C_below HR.out HB3.out) hr3 HLB.out HMB.out); rw [HSH.out] at HSM; clear ho3 hr3 hb3 k0 k1 k2 k3 k4 k5))
        | (go_at_call 18; go_must (refine HSM.out.mono ?_; rintro e w4 ⟨rfl, hb4⟩; have HT4 := Aside0.mk (blk_below HT3.out hb4); have HB4 := Aside0.mk (HB3.out.trans (hb4.mono HB3.out.size)); have HS4 := Aside0.mk HB4.out.size;  clear hb4; have t0 := cell_blk HT4.out 0 _ rfl; have t1 := cell_blk HT4.out 1 _ rfl; have t2 := cell_blk HT4.out 2 _ rfl; have f0 := blk_frozen HT4.out 0; have f1 := blk_frozen HT4.out 1; have f2 := blk_frozen HT4.out 2)))
      refine bodyPost_ret (v := .tuple #[.agg #[.int .i64 0, .slice none 0 0, .slice none 0 0], .int .i64 2]) (results_ct (fn := Try.f20) rfl (a := ⟨w.heap.size + 1, 0, none⟩) rfl rfl (rv_trace (trace_put HT4.out (.int .i64 0) (.slice none 0 0) (.slice none 0 0)) rfl)) rfl ?_
      exact (toc_zero (Nat.le_add_right _ _) HB4.out rfl rfl).toP _
set_option maxHeartbeats 4000000 in
set_option maxRecDepth 100000 in
theorem tor_beyond (w0 : World) (x : CP) (L M : List S43) (at_ : Int) (i : Int) (A : Option Addr) (c : Nat) (Al : Option Addr) (cl : Nat) (last : List Int) (w : World) (ok : x.Ok w) (fit : x.Fit) (h7 : x.l1.length ≤ 7) (h4 : x.a0 ≤ 4 ∨ 10 < x.a0) (hM : M = x.allS.1) (hLB : ∀ s ∈ L, s.Bytes) (hMB : ∀ s ∈ M, s.Bytes)
    (hc : L.length ≤ c) (hw0 : Below w0.heap.size w0 w) (hr0 : Kd.C k43 w0 A L.length L) (hr : Kd.C k43 w A L.length L) (hcl : last.length ≤ cl) (hrl0 : Kd.C (Kd.int .u8) w0 Al last.length last) (hrl : Kd.C (Kd.int .u8) w Al last.length last) (hmay : x.may = true) (hi : 0 ≤ i ∧ i < (x.l4.length : Int)) (hlen : (last.length : Int) = x.a0) (hany : last.any (fun v => decide (1 < v)) = false) (hall2 : x.allS.2 = 0) (hsm : sameS L M = true) (hat0 : 0 ≤ at_) (hat1' : (L.length : Int) ≤ at_) :
    Calls Try.prog 20 #[.agg #[.int .i64 x.a0, .slice x.A1 x.l1.length x.c1, .slice x.A2 x.l2.length x.c2, .slice x.A3 x.l3.length x.c3, .slice x.A4 x.l4.length x.c4, .slice x.A5 x.l5.length x.c5], .slice A L.length c, .int .i64 at_, .int .i64 i, .slice Al last.length cl] w fun e w' => ToP (TrS.zero, 2) w0.heap.size w e w' := by
  obtain ⟨W1, hW1⟩ : ∃ W1, W1 = (w.alloc (.cells #[.int .i64 x.a0, .slice x.A1 x.l1.length x.c1, .slice x.A2 x.l2.length x.c2, .slice x.A3 x.l3.length x.c3, .slice x.A4 x.l4.length x.c4, .slice x.A5 x.l5.length x.c5] 26)).alloc (.cells #[.int .i64 0, .slice none 0 0, .slice none 0 0] 30) := ⟨_, rfl⟩
  have hbA : Below w.heap.size w (w.alloc (.cells #[.int .i64 x.a0, .slice x.A1 x.l1.length x.c1, .slice x.A2 x.l2.length x.c2, .slice x.A3 x.l3.length x.c3, .slice x.A4 x.l4.length x.c4, .slice x.A5 x.l5.length x.c5] 26)) := (Below.refl _ _).alloc (Nat.le_refl _) _
  have hb1 : Below w.heap.size w W1 := by rw [hW1]; exact hbA.alloc hbA.size _
  have hat1 : x.At W1 w.heap.size := by rw [hW1]; exact (CP.at_alloc x w).below ((Below.refl _ _).alloc (Nat.le_refl _) _)
  have htr1 : W1.heap[w.heap.size + 1]? = some (.cells #[.int .i64 0, .slice none 0 0, .slice none 0 0] 30 (0, 0)) := by
    rw [hW1]
    have : (w.alloc (.cells #[.int .i64 x.a0, .slice x.A1 x.l1.length x.c1, .slice x.A2 x.l2.length x.c2, .slice x.A3 x.l3.length x.c3, .slice x.A4 x.l4.length x.c4, .slice x.A5 x.l5.length x.c5] 26)).heap.size = w.heap.size + 1 := by simp
    rw [← this]; exact heap_alloc_at _ _
  have okb := ok.below hb1
  have HMC := Aside0.mk (inquestref03_May.calls x.mayK x.a0 x.A1 x.c1 x.l1 x.A2 x.c2 x.l2 x.A3 x.c3 x.l3 x.A4 x.c4 x.l4 x.A5 x.c5 x.l5 x.may W1 okb.r1 okb.m1 okb.r2 okb.m2 okb.r3 okb.m3 okb.r4 okb.m4 okb.r5 okb.m5 (may_ref x fit x.mayK (Nat.le_refl _)))
  have HALL := Aside0.mk (fun W (hb : Below w.heap.size w W) => all17_calls x W (ok.below hb) fit h7 h4)
  have HLD := Aside0.mk (fun an (hL : Leads L) (ha : an < L.length) (hlast : last.length ≤ 17592186044416) W (hb : Below w.heap.size w W) => leads46_calls L an i A c Al cl last w0 W hL ha hlast hc hr0 hcl hrl0 (hw0.trans (hb.mono hw0.size)))
  have hw0s := hw0.size
  have HR := Aside0.mk hr
  have HRL := Aside0.mk hrl
  have HLB := Aside0.mk hLB
  have HMB := Aside0.mk hMB
  have HAT := Aside0.mk hat1
  have HTA := Aside0.mk htr1
  have HB := Aside0.mk hb1
  have hll : last.length ≤ 9223372036854775807 := hrl.2.1
  have hLl : L.length ≤ 9223372036854775807 := hr.2.1
  have hl4 : x.l4.length ≤ 9223372036854775807 := by have := fit.n4; omega
  rw [hW1] at HAT HTA HB HMC
  obtain ⟨_, k0, k1, k2, k3, k4, k5⟩ := HAT.out
  clear hb1 hbA hat1 htr1 okb ok fit hr hrl hLB hMB hW1 hc hcl h7 h4 hr0 hrl0 hw0
  rw [hmay] at HMC
  have hi1 : decide (i < 0) = false := decide_eq_false (by omega)
  have hi2 : decide ((x.l4.length : Int) ≤ i) = false := decide_eq_false (by omega)
  have hne : ((last.length : Int) != x.a0) = false := by rw [hlen]; simp
  have HANY := Aside0.mk hany
  rw [← hM, hall2] at HALL
  have HSH := Aside0.mk hsm
  clear hmay hM hlen hany hi hall2 hsm
  go_enter Try.func20, Try.ntmps20
  go_wp2_with (first
    | (go_at_call 15; go_must (refine HMC.out.mono ?_; rintro e w1 ⟨rfl, hb1⟩; have HA1 := Aside0.mk (HAT.out.below hb1); have HT1 := Aside0.mk (blk_below HTA.out hb1); have HB1 := Aside0.mk (HB.out.trans (hb1.mono HB.out.size)); clear hb1 k0 k1 k2 k3 k4 k5; obtain ⟨_, k0, k1, k2, k3, k4, k5⟩ := HA1.out)))
  clear k0 k1 k2 k3 k4 k5
  go_loopw [12] (fun v wr => ∃ j : Nat, j ≤ last.length ∧ v = .int .i64 j ∧ Aside0 (Below w1.heap.size w1 wr) ∧ Aside0 (∀ (q : Nat) (h : q < last.length), q < j → last[q] ≤ 1)) (fun v _ => last.length - (intOf v).toNat)
  case atStart => exact ⟨0, by omega, rfl, ⟨Below.refl _ _⟩, ⟨fun q _ h => by omega⟩⟩
  case round =>
    obtain ⟨j, hj, rfl, HBJ, HJ⟩ := hrel
    have HBW := Aside0.mk (HB1.out.trans (HBJ.out.mono HB1.out.size))
    have HTW := Aside0.mk (blk_below HT1.out HBJ.out)
    by_cases hlt : j < last.length
    · obtain ⟨al, ea, hc0⟩ := Kd.at_int (Kd.C_below HRL.out HBW.out) j (by omega) (by omega)
      subst ea
      have hcell : wr.cell? (al.add j) = some (.int .u8 last[j]) := by simpa [rd, List.getD_eq_getElem?_getD, hlt] using hc0
      obtain ⟨v, hv⟩ : ∃ v, v = last[j] := ⟨_, rfl⟩
      rw [← hv] at hcell
      have HV := Aside0.mk hv
      clear hc0 hv
      have hd1 : decide (1 < v) = false := decide_eq_false (by
        intro h
        have := List.any_eq_false.1 HANY.out last[j] (List.getElem_mem hlt)
        rw [← HV.out] at this
        simp at this
        omega)
      have HJ2 : Aside0 (∀ (q : Nat) (h : q < last.length), q < j + 1 → last[q] ≤ 1) := ⟨fun q h hq => by
        have := List.any_eq_false.1 HANY.out last[q] (List.getElem_mem h)
        simp at this
        omega⟩
      go_wp2
      exact ⟨⟨j + 1, by omega, by go_num, HBJ, HJ2⟩, by simp [intOf]; omega⟩
    · have HAW := Aside0.mk (HA1.out.below HBJ.out)
      obtain ⟨_, k0, k1, k2, k3, k4, k5⟩ := HAW.out
      go_wp2_with (first
        | (go_at_call 17; go_must (refine (HALL.out _ HBW.out).mono ?_; rintro e w3 ⟨v3, rfl, ho3, hb3⟩; obtain ⟨A3, c3, e3, _, hr3⟩ := Kd.R_reads ho3; subst e3; have HT3 := Aside0.mk (blk_below HTW.out hb3); have HB3 := Aside0.mk (HBW.out.trans (hb3.mono HBW.out.size)); have HSM := Aside0.mk (same18_calls L M A c A3 c3 w3 (Kd.C_below HR.out HB3.out) hr3 HLB.out HMB.out); rw [HSH.out] at HSM; clear ho3 hr3 hb3 k0 k1 k2 k3 k4 k5))
        | (go_at_call 18; go_must (refine HSM.out.mono ?_; rintro e w4 ⟨rfl, hb4⟩; have HT4 := Aside0.mk (blk_below HT3.out hb4); have HB4 := Aside0.mk (HB3.out.trans (hb4.mono HB3.out.size)); have HS4 := Aside0.mk HB4.out.size;  clear hb4; have t0 := cell_blk HT4.out 0 _ rfl; have t1 := cell_blk HT4.out 1 _ rfl; have t2 := cell_blk HT4.out 2 _ rfl; have f0 := blk_frozen HT4.out 0; have f1 := blk_frozen HT4.out 1; have f2 := blk_frozen HT4.out 2)))
      refine bodyPost_ret (v := .tuple #[.agg #[.int .i64 0, .slice none 0 0, .slice none 0 0], .int .i64 2]) (results_ct (fn := Try.f20) rfl (a := ⟨w.heap.size + 1, 0, none⟩) rfl rfl (rv_trace (trace_put HT4.out (.int .i64 0) (.slice none 0 0) (.slice none 0 0)) rfl)) rfl ?_
      exact (toc_zero (Nat.le_add_right _ _) HB4.out rfl rfl).toP _
set_option maxHeartbeats 4000000 in
set_option maxRecDepth 100000 in
theorem tor_deep (w0 : World) (x : CP) (L M : List S43) (at_ : Int) (i : Int) (A : Option Addr) (c : Nat) (Al : Option Addr) (cl : Nat) (last : List Int) (w : World) (ok : x.Ok w) (fit : x.Fit) (h7 : x.l1.length ≤ 7) (h4 : x.a0 ≤ 4 ∨ 10 < x.a0) (hM : M = x.allS.1) (hLB : ∀ s ∈ L, s.Bytes) (hMB : ∀ s ∈ M, s.Bytes)
    (hc : L.length ≤ c) (hw0 : Below w0.heap.size w0 w) (hr0 : Kd.C k43 w0 A L.length L) (hr : Kd.C k43 w A L.length L) (hcl : last.length ≤ cl) (hrl0 : Kd.C (Kd.int .u8) w0 Al last.length last) (hrl : Kd.C (Kd.int .u8) w Al last.length last) (hmay : x.may = true) (hi : 0 ≤ i ∧ i < (x.l4.length : Int)) (hlen : (last.length : Int) = x.a0) (hany : last.any (fun v => decide (1 < v)) = false) (hall2 : x.allS.2 = 0) (hsm : sameS L M = true) (an : Nat) (han : at_ = (an : Int)) (hat : an < L.length) (hd : 256 ≤ L[an].f1) :
    Calls Try.prog 20 #[.agg #[.int .i64 x.a0, .slice x.A1 x.l1.length x.c1, .slice x.A2 x.l2.length x.c2, .slice x.A3 x.l3.length x.c3, .slice x.A4 x.l4.length x.c4, .slice x.A5 x.l5.length x.c5], .slice A L.length c, .int .i64 at_, .int .i64 i, .slice Al last.length cl] w fun e w' => ToP (TrS.zero, 3) w0.heap.size w e w' := by
  obtain ⟨W1, hW1⟩ : ∃ W1, W1 = (w.alloc (.cells #[.int .i64 x.a0, .slice x.A1 x.l1.length x.c1, .slice x.A2 x.l2.length x.c2, .slice x.A3 x.l3.length x.c3, .slice x.A4 x.l4.length x.c4, .slice x.A5 x.l5.length x.c5] 26)).alloc (.cells #[.int .i64 0, .slice none 0 0, .slice none 0 0] 30) := ⟨_, rfl⟩
  have hbA : Below w.heap.size w (w.alloc (.cells #[.int .i64 x.a0, .slice x.A1 x.l1.length x.c1, .slice x.A2 x.l2.length x.c2, .slice x.A3 x.l3.length x.c3, .slice x.A4 x.l4.length x.c4, .slice x.A5 x.l5.length x.c5] 26)) := (Below.refl _ _).alloc (Nat.le_refl _) _
  have hb1 : Below w.heap.size w W1 := by rw [hW1]; exact hbA.alloc hbA.size _
  have hat1 : x.At W1 w.heap.size := by rw [hW1]; exact (CP.at_alloc x w).below ((Below.refl _ _).alloc (Nat.le_refl _) _)
  have htr1 : W1.heap[w.heap.size + 1]? = some (.cells #[.int .i64 0, .slice none 0 0, .slice none 0 0] 30 (0, 0)) := by
    rw [hW1]
    have : (w.alloc (.cells #[.int .i64 x.a0, .slice x.A1 x.l1.length x.c1, .slice x.A2 x.l2.length x.c2, .slice x.A3 x.l3.length x.c3, .slice x.A4 x.l4.length x.c4, .slice x.A5 x.l5.length x.c5] 26)).heap.size = w.heap.size + 1 := by simp
    rw [← this]; exact heap_alloc_at _ _
  have okb := ok.below hb1
  have HMC := Aside0.mk (inquestref03_May.calls x.mayK x.a0 x.A1 x.c1 x.l1 x.A2 x.c2 x.l2 x.A3 x.c3 x.l3 x.A4 x.c4 x.l4 x.A5 x.c5 x.l5 x.may W1 okb.r1 okb.m1 okb.r2 okb.m2 okb.r3 okb.m3 okb.r4 okb.m4 okb.r5 okb.m5 (may_ref x fit x.mayK (Nat.le_refl _)))
  have HALL := Aside0.mk (fun W (hb : Below w.heap.size w W) => all17_calls x W (ok.below hb) fit h7 h4)
  have HLD := Aside0.mk (fun an (hL : Leads L) (ha : an < L.length) (hlast : last.length ≤ 17592186044416) W (hb : Below w.heap.size w W) => leads46_calls L an i A c Al cl last w0 W hL ha hlast hc hr0 hcl hrl0 (hw0.trans (hb.mono hw0.size)))
  have hw0s := hw0.size
  have HR := Aside0.mk hr
  have HRL := Aside0.mk hrl
  have HLB := Aside0.mk hLB
  have HMB := Aside0.mk hMB
  have HAT := Aside0.mk hat1
  have HTA := Aside0.mk htr1
  have HB := Aside0.mk hb1
  have hll : last.length ≤ 9223372036854775807 := hrl.2.1
  have hLl : L.length ≤ 9223372036854775807 := hr.2.1
  have hl4 : x.l4.length ≤ 9223372036854775807 := by have := fit.n4; omega
  rw [hW1] at HAT HTA HB HMC
  obtain ⟨_, k0, k1, k2, k3, k4, k5⟩ := HAT.out
  clear hb1 hbA hat1 htr1 okb ok fit hr hrl hLB hMB hW1 hc hcl h7 h4 hr0 hrl0 hw0
  rw [hmay] at HMC
  have hi1 : decide (i < 0) = false := decide_eq_false (by omega)
  have hi2 : decide ((x.l4.length : Int) ≤ i) = false := decide_eq_false (by omega)
  have hne : ((last.length : Int) != x.a0) = false := by rw [hlen]; simp
  have HANY := Aside0.mk hany
  rw [← hM, hall2] at HALL
  subst han
  have ha0 : (0 : Int) ≤ (an : Int) := by omega
  have ha1 : (an : Int) < (L.length : Int) := by omega
  have hd2 : decide ((256 : Int) ≤ L[an].f1) = true := decide_eq_true hd
  have HSH := Aside0.mk hsm
  clear hmay hM hlen hany hi hall2 hsm
  go_enter Try.func20, Try.ntmps20
  go_wp2_with (first
    | (go_at_call 15; go_must (refine HMC.out.mono ?_; rintro e w1 ⟨rfl, hb1⟩; have HA1 := Aside0.mk (HAT.out.below hb1); have HT1 := Aside0.mk (blk_below HTA.out hb1); have HB1 := Aside0.mk (HB.out.trans (hb1.mono HB.out.size)); clear hb1 k0 k1 k2 k3 k4 k5; obtain ⟨_, k0, k1, k2, k3, k4, k5⟩ := HA1.out)))
  clear k0 k1 k2 k3 k4 k5
  go_loopw [12] (fun v wr => ∃ j : Nat, j ≤ last.length ∧ v = .int .i64 j ∧ Aside0 (Below w1.heap.size w1 wr) ∧ Aside0 (∀ (q : Nat) (h : q < last.length), q < j → last[q] ≤ 1)) (fun v _ => last.length - (intOf v).toNat)
  case atStart => exact ⟨0, by omega, rfl, ⟨Below.refl _ _⟩, ⟨fun q _ h => by omega⟩⟩
  case round =>
    obtain ⟨j, hj, rfl, HBJ, HJ⟩ := hrel
    have HBW := Aside0.mk (HB1.out.trans (HBJ.out.mono HB1.out.size))
    have HTW := Aside0.mk (blk_below HT1.out HBJ.out)
    by_cases hlt : j < last.length
    · obtain ⟨al, ea, hc0⟩ := Kd.at_int (Kd.C_below HRL.out HBW.out) j (by omega) (by omega)
      subst ea
      have hcell : wr.cell? (al.add j) = some (.int .u8 last[j]) := by simpa [rd, List.getD_eq_getElem?_getD, hlt] using hc0
      obtain ⟨v, hv⟩ : ∃ v, v = last[j] := ⟨_, rfl⟩
      rw [← hv] at hcell
      have HV := Aside0.mk hv
      clear hc0 hv
      have hd1 : decide (1 < v) = false := decide_eq_false (by
        intro h
        have := List.any_eq_false.1 HANY.out last[j] (List.getElem_mem hlt)
        rw [← HV.out] at this
        simp at this
        omega)
      have HJ2 : Aside0 (∀ (q : Nat) (h : q < last.length), q < j + 1 → last[q] ≤ 1) := ⟨fun q h hq => by
        have := List.any_eq_false.1 HANY.out last[q] (List.getElem_mem h)
        simp at this
        omega⟩
      go_wp2
      exact ⟨⟨j + 1, by omega, by go_num, HBJ, HJ2⟩, by simp [intOf]; omega⟩
    · have HAW := Aside0.mk (HA1.out.below HBJ.out)
      obtain ⟨_, k0, k1, k2, k3, k4, k5⟩ := HAW.out
      go_wp2_with (first
        | (go_at_call 17; go_must (refine (HALL.out _ HBW.out).mono ?_; rintro e w3 ⟨v3, rfl, ho3, hb3⟩; obtain ⟨A3, c3, e3, _, hr3⟩ := Kd.R_reads ho3; subst e3; have HT3 := Aside0.mk (blk_below HTW.out hb3); have HB3 := Aside0.mk (HBW.out.trans (hb3.mono HBW.out.size)); have HSM := Aside0.mk (same18_calls L M A c A3 c3 w3 (Kd.C_below HR.out HB3.out) hr3 HLB.out HMB.out); rw [HSH.out] at HSM; clear ho3 hr3 hb3 k0 k1 k2 k3 k4 k5))
        | (go_at_call 18; go_must (refine HSM.out.mono ?_; rintro e w4 ⟨rfl, hb4⟩; have HT4 := Aside0.mk (blk_below HT3.out hb4); have HB4 := Aside0.mk (HB3.out.trans (hb4.mono HB3.out.size)); have HS4 := Aside0.mk HB4.out.size; obtain ⟨ad, A0, c0, Ab, cb, e4, gs0, gs1, gs2, gs3, _, _, _, _⟩ := at_state (Kd.C_below HR.out HB4.out) an hat; subst e4; clear gs0 gs2 gs3; clear hb4; have t0 := cell_blk HT4.out 0 _ rfl; have t1 := cell_blk HT4.out 1 _ rfl; have t2 := cell_blk HT4.out 2 _ rfl; have f0 := blk_frozen HT4.out 0; have f1 := blk_frozen HT4.out 1; have f2 := blk_frozen HT4.out 2)))
      refine bodyPost_ret (v := .tuple #[.agg #[.int .i64 0, .slice none 0 0, .slice none 0 0], .int .i64 3]) (results_ct (fn := Try.f20) rfl (a := ⟨w.heap.size + 1, 0, none⟩) rfl rfl (rv_trace (trace_put HT4.out (.int .i64 0) (.slice none 0 0) (.slice none 0 0)) rfl)) rfl ?_
      exact (toc_zero (Nat.le_add_right _ _) HB4.out rfl rfl).toP _
set_option maxHeartbeats 4000000 in
set_option maxRecDepth 100000 in
theorem tor_good (w0 : World) (x : CP) (L M : List S43) (at_ : Int) (i : Int) (A : Option Addr) (c : Nat) (Al : Option Addr) (cl : Nat) (last : List Int) (w : World) (ok : x.Ok w) (fit : x.Fit) (h7 : x.l1.length ≤ 7) (h4 : x.a0 ≤ 4 ∨ 10 < x.a0) (hM : M = x.allS.1) (hLB : ∀ s ∈ L, s.Bytes) (hMB : ∀ s ∈ M, s.Bytes)
    (hc : L.length ≤ c) (hw0 : Below w0.heap.size w0 w) (hr0 : Kd.C k43 w0 A L.length L) (hr : Kd.C k43 w A L.length L) (hcl : last.length ≤ cl) (hrl0 : Kd.C (Kd.int .u8) w0 Al last.length last) (hrl : Kd.C (Kd.int .u8) w Al last.length last) (hmay : x.may = true) (hi : 0 ≤ i ∧ i < (x.l4.length : Int)) (hlen : (last.length : Int) = x.a0) (hany : last.any (fun v => decide (1 < v)) = false) (hall2 : x.allS.2 = 0) (hsm : sameS L M = true) (an : Nat) (han : at_ = (an : Int)) (hat : an < L.length) (hd : L[an].f1 < 256) (hL : Leads L) (hlast : last.length ≤ 17592186044416) :
    Calls Try.prog 20 #[.agg #[.int .i64 x.a0, .slice x.A1 x.l1.length x.c1, .slice x.A2 x.l2.length x.c2, .slice x.A3 x.l3.length x.c3, .slice x.A4 x.l4.length x.c4, .slice x.A5 x.l5.length x.c5], .slice A L.length c, .int .i64 at_, .int .i64 i, .slice Al last.length cl] w fun e w' => ToP (⟨i, leadInit L an, leadFrames L an last⟩, 0) w0.heap.size w e w' := by
  obtain ⟨W1, hW1⟩ : ∃ W1, W1 = (w.alloc (.cells #[.int .i64 x.a0, .slice x.A1 x.l1.length x.c1, .slice x.A2 x.l2.length x.c2, .slice x.A3 x.l3.length x.c3, .slice x.A4 x.l4.length x.c4, .slice x.A5 x.l5.length x.c5] 26)).alloc (.cells #[.int .i64 0, .slice none 0 0, .slice none 0 0] 30) := ⟨_, rfl⟩
  have hbA : Below w.heap.size w (w.alloc (.cells #[.int .i64 x.a0, .slice x.A1 x.l1.length x.c1, .slice x.A2 x.l2.length x.c2, .slice x.A3 x.l3.length x.c3, .slice x.A4 x.l4.length x.c4, .slice x.A5 x.l5.length x.c5] 26)) := (Below.refl _ _).alloc (Nat.le_refl _) _
  have hb1 : Below w.heap.size w W1 := by rw [hW1]; exact hbA.alloc hbA.size _
  have hat1 : x.At W1 w.heap.size := by rw [hW1]; exact (CP.at_alloc x w).below ((Below.refl _ _).alloc (Nat.le_refl _) _)
  have htr1 : W1.heap[w.heap.size + 1]? = some (.cells #[.int .i64 0, .slice none 0 0, .slice none 0 0] 30 (0, 0)) := by
    rw [hW1]
    have : (w.alloc (.cells #[.int .i64 x.a0, .slice x.A1 x.l1.length x.c1, .slice x.A2 x.l2.length x.c2, .slice x.A3 x.l3.length x.c3, .slice x.A4 x.l4.length x.c4, .slice x.A5 x.l5.length x.c5] 26)).heap.size = w.heap.size + 1 := by simp
    rw [← this]; exact heap_alloc_at _ _
  have okb := ok.below hb1
  have HMC := Aside0.mk (inquestref03_May.calls x.mayK x.a0 x.A1 x.c1 x.l1 x.A2 x.c2 x.l2 x.A3 x.c3 x.l3 x.A4 x.c4 x.l4 x.A5 x.c5 x.l5 x.may W1 okb.r1 okb.m1 okb.r2 okb.m2 okb.r3 okb.m3 okb.r4 okb.m4 okb.r5 okb.m5 (may_ref x fit x.mayK (Nat.le_refl _)))
  have HALL := Aside0.mk (fun W (hb : Below w.heap.size w W) => all17_calls x W (ok.below hb) fit h7 h4)
  have HLD := Aside0.mk (fun an (hL : Leads L) (ha : an < L.length) (hlast : last.length ≤ 17592186044416) W (hb : Below w.heap.size w W) => leads46_calls L an i A c Al cl last w0 W hL ha hlast hc hr0 hcl hrl0 (hw0.trans (hb.mono hw0.size)))
  have hw0s := hw0.size
  have HR := Aside0.mk hr
  have HRL := Aside0.mk hrl
  have HLB := Aside0.mk hLB
  have HMB := Aside0.mk hMB
  have HAT := Aside0.mk hat1
  have HTA := Aside0.mk htr1
  have HB := Aside0.mk hb1
  have hll : last.length ≤ 9223372036854775807 := hrl.2.1
  have hLl : L.length ≤ 9223372036854775807 := hr.2.1
  have hl4 : x.l4.length ≤ 9223372036854775807 := by have := fit.n4; omega
  rw [hW1] at HAT HTA HB HMC
  obtain ⟨_, k0, k1, k2, k3, k4, k5⟩ := HAT.out
  clear hb1 hbA hat1 htr1 okb ok fit hr hrl hLB hMB hW1 hc hcl h7 h4 hr0 hrl0 hw0
  rw [hmay] at HMC
  have hi1 : decide (i < 0) = false := decide_eq_false (by omega)
  have hi2 : decide ((x.l4.length : Int) ≤ i) = false := decide_eq_false (by omega)
  have hne : ((last.length : Int) != x.a0) = false := by rw [hlen]; simp
  have HANY := Aside0.mk hany
  rw [← hM, hall2] at HALL
  subst han
  have ha0 : (0 : Int) ≤ (an : Int) := by omega
  have ha1 : (an : Int) < (L.length : Int) := by omega
  replace HLD := Aside0.mk (HLD.out an hL hat hlast)
  have hd2 : decide ((256 : Int) ≤ L[an].f1) = false := decide_eq_false (by omega)
  have hlm := hL.1
  clear hL
  have HSH := Aside0.mk hsm
  clear hmay hM hlen hany hi hall2 hsm
  go_enter Try.func20, Try.ntmps20
  go_wp2_with (first
    | (go_at_call 15; go_must (refine HMC.out.mono ?_; rintro e w1 ⟨rfl, hb1⟩; have HA1 := Aside0.mk (HAT.out.below hb1); have HT1 := Aside0.mk (blk_below HTA.out hb1); have HB1 := Aside0.mk (HB.out.trans (hb1.mono HB.out.size)); clear hb1 k0 k1 k2 k3 k4 k5; obtain ⟨_, k0, k1, k2, k3, k4, k5⟩ := HA1.out)))
  clear k0 k1 k2 k3 k4 k5
  go_loopw [12] (fun v wr => ∃ j : Nat, j ≤ last.length ∧ v = .int .i64 j ∧ Aside0 (Below w1.heap.size w1 wr) ∧ Aside0 (∀ (q : Nat) (h : q < last.length), q < j → last[q] ≤ 1)) (fun v _ => last.length - (intOf v).toNat)
  case atStart => exact ⟨0, by omega, rfl, ⟨Below.refl _ _⟩, ⟨fun q _ h => by omega⟩⟩
  case round =>
    obtain ⟨j, hj, rfl, HBJ, HJ⟩ := hrel
    have HBW := Aside0.mk (HB1.out.trans (HBJ.out.mono HB1.out.size))
    have HTW := Aside0.mk (blk_below HT1.out HBJ.out)
    by_cases hlt : j < last.length
    · obtain ⟨al, ea, hc0⟩ := Kd.at_int (Kd.C_below HRL.out HBW.out) j (by omega) (by omega)
      subst ea
      have hcell : wr.cell? (al.add j) = some (.int .u8 last[j]) := by simpa [rd, List.getD_eq_getElem?_getD, hlt] using hc0
      obtain ⟨v, hv⟩ : ∃ v, v = last[j] := ⟨_, rfl⟩
      rw [← hv] at hcell
      have HV := Aside0.mk hv
      clear hc0 hv
      have hd1 : decide (1 < v) = false := decide_eq_false (by
        intro h
        have := List.any_eq_false.1 HANY.out last[j] (List.getElem_mem hlt)
        rw [← HV.out] at this
        simp at this
        omega)
      have HJ2 : Aside0 (∀ (q : Nat) (h : q < last.length), q < j + 1 → last[q] ≤ 1) := ⟨fun q h hq => by
        have := List.any_eq_false.1 HANY.out last[q] (List.getElem_mem h)
        simp at this
        omega⟩
      go_wp2
      exact ⟨⟨j + 1, by omega, by go_num, HBJ, HJ2⟩, by simp [intOf]; omega⟩
    · have HAW := Aside0.mk (HA1.out.below HBJ.out)
      obtain ⟨_, k0, k1, k2, k3, k4, k5⟩ := HAW.out
      go_wp2_with (first
        | (go_at_call 17; go_must (refine (HALL.out _ HBW.out).mono ?_; rintro e w3 ⟨v3, rfl, ho3, hb3⟩; obtain ⟨A3, c3, e3, _, hr3⟩ := Kd.R_reads ho3; subst e3; have HT3 := Aside0.mk (blk_below HTW.out hb3); have HB3 := Aside0.mk (HBW.out.trans (hb3.mono HBW.out.size)); have HSM := Aside0.mk (same18_calls L M A c A3 c3 w3 (Kd.C_below HR.out HB3.out) hr3 HLB.out HMB.out); rw [HSH.out] at HSM; clear ho3 hr3 hb3 k0 k1 k2 k3 k4 k5))
        | (go_at_call 18; go_must (refine HSM.out.mono ?_; rintro e w4 ⟨rfl, hb4⟩; have HT4 := Aside0.mk (blk_below HT3.out hb4); have HB4 := Aside0.mk (HB3.out.trans (hb4.mono HB3.out.size)); have HS4 := Aside0.mk HB4.out.size; obtain ⟨ad, A0, c0, Ab, cb, e4, gs0, gs1, gs2, gs3, _, _, _, _⟩ := at_state (Kd.C_below HR.out HB4.out) an hat; subst e4; clear gs0 gs2 gs3; clear hb4))
        | (go_at_call 46; go_must (refine (HLD.out _ HB4.out).mono ?_; rintro e w5 ⟨Ai, ci, Af, cf, rfl, htc, hb5⟩; have HT5 := Aside0.mk (blk_below HT4.out hb5); have HB5 := Aside0.mk (HB4.out.trans (hb5.mono HB4.out.size)); have HTC := Aside0.mk htc; clear htc hb5; have t0 := cell_blk HT5.out 0 _ rfl; have t1 := cell_blk HT5.out 1 _ rfl; have t2 := cell_blk HT5.out 2 _ rfl; have f0 := blk_frozen HT5.out 0; have f1 := blk_frozen HT5.out 1; have f2 := blk_frozen HT5.out 2)))
      have hend := trace_put HT5.out (.int .i64 i) (.slice Ai (leadInit L an).length ci) (.slice Af (leadFrames L an last).length cf)
      refine bodyPost_ret (v := .tuple #[.agg #[.int .i64 i, .slice Ai (leadInit L an).length ci, .slice Af (leadFrames L an last).length cf], .int .i64 0]) (results_ct (fn := Try.f20) rfl (a := ⟨w.heap.size + 1, 0, none⟩) rfl rfl (rv_trace hend rfl)) rfl ?_
      have hlt5 := (Array.getElem?_eq_some_iff.1 HT4.out).1
      refine ⟨_, _, _, _, rfl, fun w2 hk => (HTC.out.set (g := w.heap.size + 1) (by omega) hlt5 _ _ _) w2 (fun k hk1 hk2 => hk k (by rcases hk1 with h | h; exact .inl h; exact .inr (by omega)) hk2), ((HB5.out.setCell (p := ⟨w.heap.size + 1, 0, none⟩) (Nat.le_add_right _ _) _).setCell (p := ⟨w.heap.size + 1, 1, none⟩) (Nat.le_add_right _ _) _).setCell (p := ⟨w.heap.size + 1, 2, none⟩) (Nat.le_add_right _ _) _⟩
end Go.Proofs.Ytdjhjgfjhicbfaa.PWalkTells
namespace Go.Proofs.Ytdjhjgfjhicbfaa.PWalkTells
open Go.RowKit Go.Shelf Go.Maps Go.Proofs.YtdjhjgfjhicbfaaW.PrintWords Go.Proofs.YtdjhjgfjhicbfaaW.PrintLast Go.Proofs.YtdjhjgfjhicbfaaW.PrintMore
set_option linter.unusedVariables false
set_option linter.unusedSimpArgs false
theorem badS_true {x : CP} {i : Int} (h : x.badS i = true) : x.may = true ∧ 0 ≤ i ∧ i < (x.l4.length : Int) := by
  unfold CP.badS at h
  simp only [Bool.and_eq_true, decide_eq_true_eq] at h
  exact ⟨h.1.1, h.1.2, h.2⟩
theorem badS_mk {x : CP} {i : Int} (h1 : x.may = true) (h2 : 0 ≤ i) (h3 : i < (x.l4.length : Int)) : x.badS i = true := by
  unfold CP.badS
  rw [h1, decide_eq_true h2, decide_eq_true h3]; rfl
theorem may_le {x : CP} (h : x.may = true) : x.a0 ≤ 16384 := by
  unfold CP.may at h
  split at h
  · cases h
  · omega
theorem to_full (N0 : Nat) (x : CP) (L : List S43) (at_ : Int) (i : Int) (A : Option Addr) (c : Nat) (Al : Option Addr) (cl : Nat) (last : List Int) (w : World) (ok : x.Ok w) (fit : x.Fit) (h7 : x.l1.length ≤ 7) (h4 : x.a0 ≤ 4 ∨ 10 < x.a0) (hLB : ∀ s ∈ L, s.Bytes)
    (hr : Kd.C k43 w A L.length L) (hrl : Kd.C (Kd.int .u8) w Al last.length last) :
    Calls Try.prog 19 #[.agg #[.int .i64 x.a0, .slice x.A1 x.l1.length x.c1, .slice x.A2 x.l2.length x.c2, .slice x.A3 x.l3.length x.c3, .slice x.A4 x.l4.length x.c4, .slice x.A5 x.l5.length x.c5], .slice A L.length c, .int .i64 at_, .int .i64 i, .slice Al last.length cl] w fun e w' => ToP (x.toR L at_ i last) N0 w e w' := by
  obtain ⟨hLd, hMB, hMl⟩ := allS_leads x fit h7 h4
  have toC : ∀ {r : TrS × Int}, Calls Try.prog 19 #[.agg #[.int .i64 x.a0, .slice x.A1 x.l1.length x.c1, .slice x.A2 x.l2.length x.c2, .slice x.A3 x.l3.length x.c3, .slice x.A4 x.l4.length x.c4, .slice x.A5 x.l5.length x.c5], .slice A L.length c, .int .i64 at_, .int .i64 i, .slice Al last.length cl] w (fun e w' => ToAns r w e w') → r = x.toR L at_ i last →
      Calls Try.prog 19 #[.agg #[.int .i64 x.a0, .slice x.A1 x.l1.length x.c1, .slice x.A2 x.l2.length x.c2, .slice x.A3 x.l3.length x.c3, .slice x.A4 x.l4.length x.c4, .slice x.A5 x.l5.length x.c5], .slice A L.length c, .int .i64 at_, .int .i64 i, .slice Al last.length cl] w fun e w' => ToP (x.toR L at_ i last) N0 w e w' := by
    intro r h e
    subst e
    exact h.mono fun e w' h => h.toP N0
  cases hbad : x.badS i
  · exact toC (to_bad x L x.allS.1 at_ i A c Al cl last w ok fit rfl hLB hMB hr hrl hbad) (by unfold CP.toR; rw [if_pos (.inl hbad)])
  · by_cases hlen : (last.length : Int) = x.a0
    · cases hany : last.any (fun v => decide (1 < v))
      · have hn : ¬ (x.badS i = false ∨ (last.length : Int) ≠ x.a0 ∨ last.any (fun v => decide (1 < v)) = true) := by
          rintro (h | h | h)
          · rw [hbad] at h; cases h
          · exact h hlen
          · rw [hany] at h; cases h
        by_cases hall : x.allS.2 = 0
        · cases hsm : sameS L x.allS.1
          · exact toC (to_same x L x.allS.1 at_ i A c Al cl last w ok fit rfl hLB hMB hr hrl hbad hlen hany hall hsm) (by unfold CP.toR; rw [if_neg hn, if_neg (by simp [hall]), if_pos (.inl hsm)])
          · by_cases hat0 : at_ < 0
            · exact toC (to_neg x L x.allS.1 at_ i A c Al cl last w ok fit rfl hLB hMB hr hrl hbad hlen hany hall hsm hat0) (by unfold CP.toR; rw [if_neg hn, if_neg (by simp [hall]), if_pos (.inr (.inl hat0))])
            · by_cases hat1 : (L.length : Int) ≤ at_
              · exact toC (to_far x L x.allS.1 at_ i A c Al cl last w ok fit rfl hLB hMB hr hrl hbad hlen hany hall hsm (by omega) hat1) (by unfold CP.toR; rw [if_neg hn, if_neg (by simp [hall]), if_pos (.inr (.inr hat1))])
              · have hn2 : ¬ (sameS L x.allS.1 = false ∨ at_ < 0 ∨ (L.length : Int) ≤ at_) := by
                  rintro (h | h | h)
                  · rw [hsm] at h; cases h
                  · exact hat0 h
                  · exact hat1 h
                have han : at_ = ((at_.toNat : Nat) : Int) := by omega
                have hlt : at_.toNat < L.length := by omega
                have hg : gS L at_.toNat = L[at_.toNat] := gS_eq hlt
                by_cases hd : 256 ≤ L[at_.toNat].f1
                · exact toC (to_deep x L x.allS.1 at_ i A c Al cl last w ok fit rfl hLB hMB hr hrl hbad hlen hany hall hsm at_.toNat han hlt hd) (by unfold CP.toR; rw [if_neg hn, if_neg (by simp [hall]), if_neg hn2, if_pos (by rw [hg]; exact hd)])
                · have e := sameS_eq hsm
                  have h16 := may_le (badS_true hbad).1
                  have hgood := to_calls x L at_.toNat i A c Al cl last w ok fit (by rw [e, ← hall]) hbad (by rw [e]; exact hLd) hLB hlt (by omega) hlen (by omega) (fun v hv => by
                    have := List.any_eq_false.1 hany v hv
                    simp at this
                    omega) hr hrl
                  rw [← han] at hgood
                  exact toC (r := (⟨i, leadInit L at_.toNat, leadFrames L at_.toNat last⟩, 0)) (hgood.mono (fun e w' h => by
                    obtain ⟨vi, vf, h1, h2, h3, h4⟩ := h
                    exact ⟨vi, vf, h1, ⟨h2, h3⟩, h4⟩)) (by unfold CP.toR; rw [if_neg hn, if_neg (by simp [hall]), if_neg hn2, if_neg (by rw [hg]; exact hd)])
        · exact toC (to_err x L x.allS.1 at_ i A c Al cl last w ok fit rfl hLB hMB hr hrl hbad hlen hany x.allS.2 rfl hall) (by unfold CP.toR; rw [if_neg hn, if_pos hall])
      · exact toC (to_any x L x.allS.1 at_ i A c Al cl last w ok fit rfl hLB hMB hr hrl hbad hlen hany) (by unfold CP.toR; rw [if_pos (.inr (.inr hany))])
    · exact toC (to_len x L x.allS.1 at_ i A c Al cl last w ok fit rfl hLB hMB hr hrl hbad hlen) (by unfold CP.toR; rw [if_pos (.inr (.inl hlen))])
theorem tor_full (w0 : World) (x : CP) (L : List S43) (at_ : Int) (i : Int) (A : Option Addr) (c : Nat) (Al : Option Addr) (cl : Nat) (last : List Int) (w : World) (ok : x.Ok w) (fit : x.Fit) (h7 : x.l1.length ≤ 7) (h4 : x.a0 ≤ 4 ∨ 10 < x.a0) (hLB : ∀ s ∈ L, s.Bytes)
    (hc : L.length ≤ c) (hw0 : Below w0.heap.size w0 w) (hr0 : Kd.C k43 w0 A L.length L) (hcl : last.length ≤ cl) (hrl0 : Kd.C (Kd.int .u8) w0 Al last.length last) :
    Calls Try.prog 20 #[.agg #[.int .i64 x.a0, .slice x.A1 x.l1.length x.c1, .slice x.A2 x.l2.length x.c2, .slice x.A3 x.l3.length x.c3, .slice x.A4 x.l4.length x.c4, .slice x.A5 x.l5.length x.c5], .slice A L.length c, .int .i64 at_, .int .i64 i, .slice Al last.length cl] w fun e w' => ToP (x.toR L at_ i last) w0.heap.size w e w' := by
  obtain ⟨hLd, hMB, hMl⟩ := allS_leads x fit h7 h4
  have toE : ∀ {r : TrS × Int}, Calls Try.prog 20 #[.agg #[.int .i64 x.a0, .slice x.A1 x.l1.length x.c1, .slice x.A2 x.l2.length x.c2, .slice x.A3 x.l3.length x.c3, .slice x.A4 x.l4.length x.c4, .slice x.A5 x.l5.length x.c5], .slice A L.length c, .int .i64 at_, .int .i64 i, .slice Al last.length cl] w (fun e w' => ToP r w0.heap.size w e w') → r = x.toR L at_ i last →
      Calls Try.prog 20 #[.agg #[.int .i64 x.a0, .slice x.A1 x.l1.length x.c1, .slice x.A2 x.l2.length x.c2, .slice x.A3 x.l3.length x.c3, .slice x.A4 x.l4.length x.c4, .slice x.A5 x.l5.length x.c5], .slice A L.length c, .int .i64 at_, .int .i64 i, .slice Al last.length cl] w fun e w' => ToP (x.toR L at_ i last) w0.heap.size w e w' := by
    intro r h e
    subst e
    exact h
  cases hbad : x.badS i
  · have hz : (TrS.zero, (2 : Int)) = x.toR L at_ i last := by unfold CP.toR; rw [if_pos (.inl hbad)]
    cases hmay : x.may
    · exact toE (tor_may w0 x L x.allS.1 at_ i A c Al cl last w ok fit h7 h4 rfl hLB hMB hc hw0 hr0 (Kd.C_below hr0 hw0) hcl hrl0 (Kd.C_below hrl0 hw0) hmay) hz
    · by_cases hi0 : i < 0
      · exact toE (tor_neg w0 x L x.allS.1 at_ i A c Al cl last w ok fit h7 h4 rfl hLB hMB hc hw0 hr0 (Kd.C_below hr0 hw0) hcl hrl0 (Kd.C_below hrl0 hw0) hmay hi0) hz
      · by_cases hi1 : (x.l4.length : Int) ≤ i
        · exact toE (tor_far w0 x L x.allS.1 at_ i A c Al cl last w ok fit h7 h4 rfl hLB hMB hc hw0 hr0 (Kd.C_below hr0 hw0) hcl hrl0 (Kd.C_below hrl0 hw0) hmay (by omega) hi1) hz
        · rw [badS_mk hmay (by omega) (by omega)] at hbad; cases hbad
  · obtain ⟨hmay, hi0, hi1⟩ := badS_true hbad
    by_cases hlen : (last.length : Int) = x.a0
    · cases hany : last.any (fun v => decide (1 < v))
      · have hn : ¬ (x.badS i = false ∨ (last.length : Int) ≠ x.a0 ∨ last.any (fun v => decide (1 < v)) = true) := by
          rintro (h | h | h)
          · rw [hbad] at h; cases h
          · exact h hlen
          · rw [hany] at h; cases h
        by_cases hall : x.allS.2 = 0
        · cases hsm : sameS L x.allS.1
          · exact toE (tor_same w0 x L x.allS.1 at_ i A c Al cl last w ok fit h7 h4 rfl hLB hMB hc hw0 hr0 (Kd.C_below hr0 hw0) hcl hrl0 (Kd.C_below hrl0 hw0) hmay ⟨hi0, hi1⟩ hlen hany hall hsm) (by unfold CP.toR; rw [if_neg hn, if_neg (by simp [hall]), if_pos (.inl hsm)])
          · by_cases hat0 : at_ < 0
            · exact toE (tor_below w0 x L x.allS.1 at_ i A c Al cl last w ok fit h7 h4 rfl hLB hMB hc hw0 hr0 (Kd.C_below hr0 hw0) hcl hrl0 (Kd.C_below hrl0 hw0) hmay ⟨hi0, hi1⟩ hlen hany hall hsm hat0) (by unfold CP.toR; rw [if_neg hn, if_neg (by simp [hall]), if_pos (.inr (.inl hat0))])
            · by_cases hat1 : (L.length : Int) ≤ at_
              · exact toE (tor_beyond w0 x L x.allS.1 at_ i A c Al cl last w ok fit h7 h4 rfl hLB hMB hc hw0 hr0 (Kd.C_below hr0 hw0) hcl hrl0 (Kd.C_below hrl0 hw0) hmay ⟨hi0, hi1⟩ hlen hany hall hsm (by omega) hat1) (by unfold CP.toR; rw [if_neg hn, if_neg (by simp [hall]), if_pos (.inr (.inr hat1))])
              · have hn2 : ¬ (sameS L x.allS.1 = false ∨ at_ < 0 ∨ (L.length : Int) ≤ at_) := by
                  rintro (h | h | h)
                  · rw [hsm] at h; cases h
                  · exact hat0 h
                  · exact hat1 h
                have han : at_ = ((at_.toNat : Nat) : Int) := by omega
                have hlt : at_.toNat < L.length := by omega
                have hg : gS L at_.toNat = L[at_.toNat] := gS_eq hlt
                by_cases hd : 256 ≤ L[at_.toNat].f1
                · exact toE (tor_deep w0 x L x.allS.1 at_ i A c Al cl last w ok fit h7 h4 rfl hLB hMB hc hw0 hr0 (Kd.C_below hr0 hw0) hcl hrl0 (Kd.C_below hrl0 hw0) hmay ⟨hi0, hi1⟩ hlen hany hall hsm at_.toNat han hlt hd) (by unfold CP.toR; rw [if_neg hn, if_neg (by simp [hall]), if_neg hn2, if_pos (by rw [hg]; exact hd)])
                · have e := sameS_eq hsm
                  have h16 := may_le hmay
                  exact toE (tor_good w0 x L x.allS.1 at_ i A c Al cl last w ok fit h7 h4 rfl hLB hMB hc hw0 hr0 (Kd.C_below hr0 hw0) hcl hrl0 (Kd.C_below hrl0 hw0) hmay ⟨hi0, hi1⟩ hlen hany hall hsm at_.toNat han hlt (by omega) (by rw [e]; exact hLd) (by omega)) (by unfold CP.toR; rw [if_neg hn, if_neg (by simp [hall]), if_neg hn2, if_neg (by rw [hg]; exact hd)])
        · exact toE (tor_err w0 x L x.allS.1 at_ i A c Al cl last w ok fit h7 h4 rfl hLB hMB hc hw0 hr0 (Kd.C_below hr0 hw0) hcl hrl0 (Kd.C_below hrl0 hw0) hmay ⟨hi0, hi1⟩ hlen hany x.allS.2 rfl hall) (by unfold CP.toR; rw [if_neg hn, if_pos hall])
      · exact toE (tor_any w0 x L x.allS.1 at_ i A c Al cl last w ok fit h7 h4 rfl hLB hMB hc hw0 hr0 (Kd.C_below hr0 hw0) hcl hrl0 (Kd.C_below hrl0 hw0) hmay ⟨hi0, hi1⟩ hlen hany) (by unfold CP.toR; rw [if_pos (.inr (.inr hany))])
    · exact toE (tor_len w0 x L x.allS.1 at_ i A c Al cl last w ok fit h7 h4 rfl hLB hMB hc hw0 hr0 (Kd.C_below hr0 hw0) hcl hrl0 (Kd.C_below hrl0 hw0) hmay ⟨hi0, hi1⟩ hlen) (by unfold CP.toR; rw [if_pos (.inr (.inl hlen))])
end Go.Proofs.Ytdjhjgfjhicbfaa.PWalkTells
namespace Go.Proofs.Ytdjhjgfjhicbfaa.PWalkTells
open Go.RowKit Go.Shelf Go.Maps Go.Proofs.YtdjhjgfjhicbfaaW.PrintWords Go.Proofs.YtdjhjgfjhicbfaaW.PrintLast Go.Proofs.YtdjhjgfjhicbfaaW.PrintMore
set_option linter.unusedVariables false
set_option linter.unusedSimpArgs false
theorem results_ctt {P : Program} {fn : Func} {p q r : Tmp} {ty : TypeId} (h : fn.results = #[.cell p ty, .tmp q, .tmp r]) {tmps : Array Value} {w : World} {a : Addr} {u v x : Value}
    (hp : tmps.getD p undef = .pointer (some a)) (hq : tmps.getD q undef = v) (hr2 : tmps.getD r undef = x) (hr : (loadVar ty a).run P w = .ok u w) : (results fn tmps).run P w = .ok (.tuple #[u, v, x]) w := by
  have hp' : tmps[p]?.getD undef = .pointer (some a) := by simpa using hp
  have hq' : tmps[q]?.getD undef = v := by simpa using hq
  have hr' : tmps[r]?.getD undef = x := by simpa using hr2
  simp [results, h, hp', hq', hr', asAddr, hr]
def BadC (r : TrS × Bool × Int) (w : World) (e : Ending) (w' : World) : Prop := ∃ Ai ci Af cf, e = .returned (.tuple #[.agg #[.int .i64 r.1.bad, .slice Ai r.1.init.length ci, .slice Af r.1.frames.length cf], .bool r.2.1, .int .i64 r.2.2]) ∧ TrC r.1 w' Ai ci Af cf ∧ Below w.heap.size w w'
def BadP (r : TrS × Bool × Int) (N0 : Nat) (w : World) (e : Ending) (w' : World) : Prop := ∃ Ai ci Af cf, e = .returned (.tuple #[.agg #[.int .i64 r.1.bad, .slice Ai r.1.init.length ci, .slice Af r.1.frames.length cf], .bool r.2.1, .int .i64 r.2.2]) ∧ TrP r.1 w' N0 w.heap.size Ai ci Af cf ∧ Below w.heap.size w w'
theorem BadAns.toP {r : TrS × Bool × Int} {w : World} {e : Ending} {w' : World} (N0 : Nat) (h : BadAns r w e w') : BadP r N0 w e w' := by
  obtain ⟨vi, vf, rfl, ⟨h1, h2⟩, hb⟩ := h
  obtain ⟨Ai, ci, e1, m1, g1⟩ := Kd.R_reads h1
  subst e1
  obtain ⟨Af, cf, e2, m2, g2⟩ := Kd.R_reads h2
  subst e2
  exact ⟨_, _, _, _, rfl, TrP.of (b1 := 0) (b2 := 0) m1 m2 h1 h2, hb⟩
theorem BadC.toP {q : Bool × Int} {w : World} {e : Ending} {w' : World} (N0 : Nat) (h : BadC (TrS.zero, q) w e w') : BadP (TrS.zero, q) N0 w e w' := by
  obtain ⟨Ai, ci, Af, cf, rfl, ht, hb⟩ := h
  refine ⟨Ai, ci, Af, cf, rfl, fun w2 _ => ⟨ht.ci, ?_, ht.cf, ?_⟩, hb⟩
  · exact ⟨rfl, Nat.zero_le _, fun h => absurd h (Nat.lt_irrefl 0)⟩
  · exact ⟨rfl, Nat.zero_le _, fun h => absurd h (Nat.lt_irrefl 0)⟩
theorem badc_zero {w W : World} {er : Int} {e : Ending} {w' : World} (hgt : w.heap.size ≤ w.heap.size + 1) (hb : Below w.heap.size w W)
    (he : e = .returned (.tuple #[.agg #[.int .i64 0, .slice none 0 0, .slice none 0 0], .bool false, .int .i64 er])) (hw : w' = ((W.setCell ⟨w.heap.size + 1, 0, none⟩ (.int .i64 0)).setCell ⟨w.heap.size + 1, 1, none⟩ (.slice none 0 0)).setCell ⟨w.heap.size + 1, 2, none⟩ (.slice none 0 0)) : BadC (TrS.zero, false, er) w e w' := by
  subst he
  subst hw
  exact ⟨_, _, _, _, rfl, TrC.zero _, ((hb.setCell (p := ⟨w.heap.size + 1, 0, none⟩) hgt _).setCell (p := ⟨w.heap.size + 1, 1, none⟩) hgt _).setCell (p := ⟨w.heap.size + 1, 2, none⟩) hgt _⟩
theorem value32_calls (A : Option Addr) (c : Nat) (l : List Int) (lit : Int) (w : World) (hr : Kd.C (Kd.int .u8) w A l.length l) (hc : l.length ≤ c) (h0 : 0 ≤ lit) (h1 : lit ≤ 4294967295) (hb : Bytes l) :
    Calls Try.prog 32 #[.slice A l.length c, .int .u32 lit] w fun e w' => e = .returned (.int .u8 (valS l lit)) ∧ Below w.heap.size w w' :=
  (inquestref07_Value.calls 1 A c l lit (valS l lit) w hr hc (value_ref l lit h0 h1 hb 1 (Nat.le_refl _))).mono fun e w' h => ⟨h.1, h.2.below⟩
theorem ways38_calls (n m : Nat) (hm : m ≤ 10) (w : World) : Calls Try.prog 38 #[.int .i64 n, .int .i64 m] w fun e w' => ∃ A c, e = .returned (.slice A (wayS n m).length c) ∧ (wayS n m).length ≤ c ∧ Kd.C (Kd.int .u8) w' A (wayS n m).length (wayS n m) ∧ Kd.V (Kd.int .u8) 5 w' w'.heap.size (fun k => w.heap.size ≤ k) (.slice A (wayS n m).length c) (wayS n m) ∧ Below w.heap.size w w' := by
  refine (inquestref27_ways.calls 100 n m (wayS n m) w (way_ref n m 100 hm (by omega))).mono ?_
  rintro e w' ⟨v, rfl, h, hb⟩
  have hv := Kd.R_V (base' := w'.heap.size) (Kd.R_mono (ok' := fun k => w.heap.size ≤ k) (Kd.R_bound h) (fun k hk => hk.2.1))
  obtain ⟨A, c, rfl, m1, g1⟩ := Kd.R_reads h
  exact ⟨A, c, rfl, m1, g1, hv, hb⟩
theorem leads46b_calls (L : List S43) (a : Nat) (i : Int) (A : Option Addr) (c : Nat) (Al : Option Addr) (cl : Nat) (last : List Int) (W : World) (N g : Nat) (hL : Leads L) (ha : a < L.length) (hlast : last.length ≤ 17592186044416)
    (h0 : Kd.V k43 43 W W.heap.size (fun k => N ≤ k ∧ k ≠ g) (.slice A L.length c) L) (h3 : Kd.V (Kd.int .u8) 5 W W.heap.size (fun k => N ≤ k ∧ k ≠ g) (.slice Al last.length cl) last) (hg1 : g < W.heap.size) (hN : N ≤ W.heap.size) :
    Calls Try.prog 46 #[.slice A L.length c, .int .i64 a, .int .i64 i, .slice Al last.length cl] W fun e w' => ∃ Ai ci Af cf, e = .returned (.agg #[.int .i64 i, .slice Ai (leadInit L a).length ci, .slice Af (leadFrames L a last).length cf]) ∧
      (∀ w2 : World, (∀ k, N ≤ k → k ≠ g → k < w'.heap.size → w2.heap[k]? = w'.heap[k]?) → TrC ⟨i, leadInit L a, leadFrames L a last⟩ w2 Ai ci Af cf) ∧ Below W.heap.size W w' := by
  refine (inquestref27_leads.calls 20000 (fun k => N ≤ k ∧ k ≠ g) A c L a i (fun k => N ≤ k ∧ k ≠ g) Al cl last i (leadInit L a) (leadFrames L a last) W h0 h3 (leads_ref hL i a last ha hlast _ (Nat.le_refl _))).mono ?_
  rintro e w' ⟨v1, v2, rfl, g1, g2, hb2⟩
  obtain ⟨Ai, ci, rfl⟩ := Kd.R_slice g1
  obtain ⟨Af, cf, rfl⟩ := Kd.N_slice g2
  refine ⟨Ai, ci, Af, cf, rfl, fun w2 hk => ?_, hb2⟩
  have q1 := Kd.V_reads' (Kd.V_step (w1 := w2) (Kd.R_V (base' := 0) g1) (fun k ok hl => hk k (by omega) (by omega) hl))
  have q2 := Kd.V_reads' (Kd.V_step (w1 := w2) (Kd.N_V (base' := 0) g2) (fun k ok hl => hk k (by
    rcases ok.1 with (h | h) | h <;> omega) (by
    rcases ok.1 with (h | h) | h <;> omega) hl))
  exact ⟨q1.2.1, q1.2.2, q2.2.1, q2.2.2⟩
set_option maxHeartbeats 4000000 in
set_option maxRecDepth 100000 in
theorem badr_may (N0 : Nat) (x : CP) (i : Int) (w : World) (ok : x.Ok w) (fit : x.Fit) (h7 : x.l1.length ≤ 7) (h4 : x.a0 ≤ 4 ∨ 10 < x.a0) (hmay : x.may = false) :
    Calls Try.prog 23 #[.agg #[.int .i64 x.a0, .slice x.A1 x.l1.length x.c1, .slice x.A2 x.l2.length x.c2, .slice x.A3 x.l3.length x.c3, .slice x.A4 x.l4.length x.c4, .slice x.A5 x.l5.length x.c5], .int .i64 i] w fun e w' => BadP (TrS.zero, false, 2) N0 w e w' := by
  obtain ⟨W1, hW1⟩ : ∃ W1, W1 = (w.alloc (.cells #[.int .i64 x.a0, .slice x.A1 x.l1.length x.c1, .slice x.A2 x.l2.length x.c2, .slice x.A3 x.l3.length x.c3, .slice x.A4 x.l4.length x.c4, .slice x.A5 x.l5.length x.c5] 26)).alloc (.cells #[.int .i64 0, .slice none 0 0, .slice none 0 0] 30) := ⟨_, rfl⟩
  have hbA : Below w.heap.size w (w.alloc (.cells #[.int .i64 x.a0, .slice x.A1 x.l1.length x.c1, .slice x.A2 x.l2.length x.c2, .slice x.A3 x.l3.length x.c3, .slice x.A4 x.l4.length x.c4, .slice x.A5 x.l5.length x.c5] 26)) := (Below.refl _ _).alloc (Nat.le_refl _) _
  have hb1 : Below w.heap.size w W1 := by rw [hW1]; exact hbA.alloc hbA.size _
  have hat1 : x.At W1 w.heap.size := by rw [hW1]; exact (CP.at_alloc x w).below ((Below.refl _ _).alloc (Nat.le_refl _) _)
  have htr1 : W1.heap[w.heap.size + 1]? = some (.cells #[.int .i64 0, .slice none 0 0, .slice none 0 0] 30 (0, 0)) := by
    rw [hW1]
    have : (w.alloc (.cells #[.int .i64 x.a0, .slice x.A1 x.l1.length x.c1, .slice x.A2 x.l2.length x.c2, .slice x.A3 x.l3.length x.c3, .slice x.A4 x.l4.length x.c4, .slice x.A5 x.l5.length x.c5] 26)).heap.size = w.heap.size + 1 := by simp
    rw [← this]; exact heap_alloc_at _ _
  have okb := ok.below hb1
  have HMC := Aside0.mk (inquestref03_May.calls x.mayK x.a0 x.A1 x.c1 x.l1 x.A2 x.c2 x.l2 x.A3 x.c3 x.l3 x.A4 x.c4 x.l4 x.A5 x.c5 x.l5 x.may W1 okb.r1 okb.m1 okb.r2 okb.m2 okb.r3 okb.m3 okb.r4 okb.m4 okb.r5 okb.m5 (may_ref x fit x.mayK (Nat.le_refl _)))
  have HALL := Aside0.mk (fun W (hb : Below w.heap.size w W) => all17_calls x W (ok.below hb) fit h7 h4)
  have HO := Aside0.mk ok
  have HF := Aside0.mk fit
  have HAT := Aside0.mk hat1
  have HTA := Aside0.mk htr1
  have HB := Aside0.mk hb1
  have HSZ1 : Aside0 (W1.heap.size = w.heap.size + 2) := ⟨by rw [hW1]; simp⟩
  have hl4 : x.l4.length ≤ 9223372036854775807 := by have := fit.n4; omega
  rw [hW1] at HAT HTA HB HMC HSZ1
  obtain ⟨_, k0, k1, k2, k3, k4, k5⟩ := HAT.out
  clear hb1 hbA hat1 htr1 okb ok fit hW1
  rw [hmay] at HMC
  clear hmay h4 h7
  go_enter Try.func23, Try.ntmps23
  go_wp2_with (first
    | (go_at_call 15; go_must (refine HMC.out.mono ?_; rintro e w1 ⟨rfl, hb1⟩; have HA1 := Aside0.mk (HAT.out.below hb1); have HT1 := Aside0.mk (blk_below HTA.out hb1); have HB1 := Aside0.mk (HB.out.trans (hb1.mono HB.out.size)); have HSW := Aside0.mk hb1.size; clear hb1 k0 k1 k2 k3 k4 k5; obtain ⟨_, k0, k1, k2, k3, k4, k5⟩ := HA1.out; have t0 := cell_blk HT1.out 0 _ rfl; have t1 := cell_blk HT1.out 1 _ rfl; have t2 := cell_blk HT1.out 2 _ rfl; have f0 := blk_frozen HT1.out 0; have f1 := blk_frozen HT1.out 1; have f2 := blk_frozen HT1.out 2)))
  refine bodyPost_ret (v := .tuple #[.agg #[.int .i64 0, .slice none 0 0, .slice none 0 0], .bool false, .int .i64 2]) (results_ctt (fn := Try.f23) rfl (a := ⟨w.heap.size + 1, 0, none⟩) rfl rfl rfl (rv_trace (trace_put HT1.out (.int .i64 0) (.slice none 0 0) (.slice none 0 0)) rfl)) rfl ?_
  exact (badc_zero (Nat.le_add_right _ _) HB1.out rfl rfl).toP _
set_option maxHeartbeats 4000000 in
set_option maxRecDepth 100000 in
theorem badr_neg (N0 : Nat) (x : CP) (i : Int) (w : World) (ok : x.Ok w) (fit : x.Fit) (h7 : x.l1.length ≤ 7) (h4 : x.a0 ≤ 4 ∨ 10 < x.a0) (hmay : x.may = true) (hi : i < 0) :
    Calls Try.prog 23 #[.agg #[.int .i64 x.a0, .slice x.A1 x.l1.length x.c1, .slice x.A2 x.l2.length x.c2, .slice x.A3 x.l3.length x.c3, .slice x.A4 x.l4.length x.c4, .slice x.A5 x.l5.length x.c5], .int .i64 i] w fun e w' => BadP (TrS.zero, false, 2) N0 w e w' := by
  obtain ⟨W1, hW1⟩ : ∃ W1, W1 = (w.alloc (.cells #[.int .i64 x.a0, .slice x.A1 x.l1.length x.c1, .slice x.A2 x.l2.length x.c2, .slice x.A3 x.l3.length x.c3, .slice x.A4 x.l4.length x.c4, .slice x.A5 x.l5.length x.c5] 26)).alloc (.cells #[.int .i64 0, .slice none 0 0, .slice none 0 0] 30) := ⟨_, rfl⟩
  have hbA : Below w.heap.size w (w.alloc (.cells #[.int .i64 x.a0, .slice x.A1 x.l1.length x.c1, .slice x.A2 x.l2.length x.c2, .slice x.A3 x.l3.length x.c3, .slice x.A4 x.l4.length x.c4, .slice x.A5 x.l5.length x.c5] 26)) := (Below.refl _ _).alloc (Nat.le_refl _) _
  have hb1 : Below w.heap.size w W1 := by rw [hW1]; exact hbA.alloc hbA.size _
  have hat1 : x.At W1 w.heap.size := by rw [hW1]; exact (CP.at_alloc x w).below ((Below.refl _ _).alloc (Nat.le_refl _) _)
  have htr1 : W1.heap[w.heap.size + 1]? = some (.cells #[.int .i64 0, .slice none 0 0, .slice none 0 0] 30 (0, 0)) := by
    rw [hW1]
    have : (w.alloc (.cells #[.int .i64 x.a0, .slice x.A1 x.l1.length x.c1, .slice x.A2 x.l2.length x.c2, .slice x.A3 x.l3.length x.c3, .slice x.A4 x.l4.length x.c4, .slice x.A5 x.l5.length x.c5] 26)).heap.size = w.heap.size + 1 := by simp
    rw [← this]; exact heap_alloc_at _ _
  have okb := ok.below hb1
  have HMC := Aside0.mk (inquestref03_May.calls x.mayK x.a0 x.A1 x.c1 x.l1 x.A2 x.c2 x.l2 x.A3 x.c3 x.l3 x.A4 x.c4 x.l4 x.A5 x.c5 x.l5 x.may W1 okb.r1 okb.m1 okb.r2 okb.m2 okb.r3 okb.m3 okb.r4 okb.m4 okb.r5 okb.m5 (may_ref x fit x.mayK (Nat.le_refl _)))
  have HALL := Aside0.mk (fun W (hb : Below w.heap.size w W) => all17_calls x W (ok.below hb) fit h7 h4)
  have HO := Aside0.mk ok
  have HF := Aside0.mk fit
  have HAT := Aside0.mk hat1
  have HTA := Aside0.mk htr1
  have HB := Aside0.mk hb1
  have HSZ1 : Aside0 (W1.heap.size = w.heap.size + 2) := ⟨by rw [hW1]; simp⟩
  have hl4 : x.l4.length ≤ 9223372036854775807 := by have := fit.n4; omega
  rw [hW1] at HAT HTA HB HMC HSZ1
  obtain ⟨_, k0, k1, k2, k3, k4, k5⟩ := HAT.out
  clear hb1 hbA hat1 htr1 okb ok fit hW1
  rw [hmay] at HMC
  have hi1 : decide (i < 0) = true := decide_eq_true hi
  clear hmay h4 h7
  go_enter Try.func23, Try.ntmps23
  go_wp2_with (first
    | (go_at_call 15; go_must (refine HMC.out.mono ?_; rintro e w1 ⟨rfl, hb1⟩; have HA1 := Aside0.mk (HAT.out.below hb1); have HT1 := Aside0.mk (blk_below HTA.out hb1); have HB1 := Aside0.mk (HB.out.trans (hb1.mono HB.out.size)); have HSW := Aside0.mk hb1.size; clear hb1 k0 k1 k2 k3 k4 k5; obtain ⟨_, k0, k1, k2, k3, k4, k5⟩ := HA1.out; have t0 := cell_blk HT1.out 0 _ rfl; have t1 := cell_blk HT1.out 1 _ rfl; have t2 := cell_blk HT1.out 2 _ rfl; have f0 := blk_frozen HT1.out 0; have f1 := blk_frozen HT1.out 1; have f2 := blk_frozen HT1.out 2)))
  refine bodyPost_ret (v := .tuple #[.agg #[.int .i64 0, .slice none 0 0, .slice none 0 0], .bool false, .int .i64 2]) (results_ctt (fn := Try.f23) rfl (a := ⟨w.heap.size + 1, 0, none⟩) rfl rfl rfl (rv_trace (trace_put HT1.out (.int .i64 0) (.slice none 0 0) (.slice none 0 0)) rfl)) rfl ?_
  exact (badc_zero (Nat.le_add_right _ _) HB1.out rfl rfl).toP _
set_option maxHeartbeats 4000000 in
set_option maxRecDepth 100000 in
theorem badr_far (N0 : Nat) (x : CP) (i : Int) (w : World) (ok : x.Ok w) (fit : x.Fit) (h7 : x.l1.length ≤ 7) (h4 : x.a0 ≤ 4 ∨ 10 < x.a0) (hmay : x.may = true) (hi0 : 0 ≤ i) (hi : (x.l4.length : Int) ≤ i) :
    Calls Try.prog 23 #[.agg #[.int .i64 x.a0, .slice x.A1 x.l1.length x.c1, .slice x.A2 x.l2.length x.c2, .slice x.A3 x.l3.length x.c3, .slice x.A4 x.l4.length x.c4, .slice x.A5 x.l5.length x.c5], .int .i64 i] w fun e w' => BadP (TrS.zero, false, 2) N0 w e w' := by
  obtain ⟨W1, hW1⟩ : ∃ W1, W1 = (w.alloc (.cells #[.int .i64 x.a0, .slice x.A1 x.l1.length x.c1, .slice x.A2 x.l2.length x.c2, .slice x.A3 x.l3.length x.c3, .slice x.A4 x.l4.length x.c4, .slice x.A5 x.l5.length x.c5] 26)).alloc (.cells #[.int .i64 0, .slice none 0 0, .slice none 0 0] 30) := ⟨_, rfl⟩
  have hbA : Below w.heap.size w (w.alloc (.cells #[.int .i64 x.a0, .slice x.A1 x.l1.length x.c1, .slice x.A2 x.l2.length x.c2, .slice x.A3 x.l3.length x.c3, .slice x.A4 x.l4.length x.c4, .slice x.A5 x.l5.length x.c5] 26)) := (Below.refl _ _).alloc (Nat.le_refl _) _
  have hb1 : Below w.heap.size w W1 := by rw [hW1]; exact hbA.alloc hbA.size _
  have hat1 : x.At W1 w.heap.size := by rw [hW1]; exact (CP.at_alloc x w).below ((Below.refl _ _).alloc (Nat.le_refl _) _)
  have htr1 : W1.heap[w.heap.size + 1]? = some (.cells #[.int .i64 0, .slice none 0 0, .slice none 0 0] 30 (0, 0)) := by
    rw [hW1]
    have : (w.alloc (.cells #[.int .i64 x.a0, .slice x.A1 x.l1.length x.c1, .slice x.A2 x.l2.length x.c2, .slice x.A3 x.l3.length x.c3, .slice x.A4 x.l4.length x.c4, .slice x.A5 x.l5.length x.c5] 26)).heap.size = w.heap.size + 1 := by simp
    rw [← this]; exact heap_alloc_at _ _
  have okb := ok.below hb1
  have HMC := Aside0.mk (inquestref03_May.calls x.mayK x.a0 x.A1 x.c1 x.l1 x.A2 x.c2 x.l2 x.A3 x.c3 x.l3 x.A4 x.c4 x.l4 x.A5 x.c5 x.l5 x.may W1 okb.r1 okb.m1 okb.r2 okb.m2 okb.r3 okb.m3 okb.r4 okb.m4 okb.r5 okb.m5 (may_ref x fit x.mayK (Nat.le_refl _)))
  have HALL := Aside0.mk (fun W (hb : Below w.heap.size w W) => all17_calls x W (ok.below hb) fit h7 h4)
  have HO := Aside0.mk ok
  have HF := Aside0.mk fit
  have HAT := Aside0.mk hat1
  have HTA := Aside0.mk htr1
  have HB := Aside0.mk hb1
  have HSZ1 : Aside0 (W1.heap.size = w.heap.size + 2) := ⟨by rw [hW1]; simp⟩
  have hl4 : x.l4.length ≤ 9223372036854775807 := by have := fit.n4; omega
  rw [hW1] at HAT HTA HB HMC HSZ1
  obtain ⟨_, k0, k1, k2, k3, k4, k5⟩ := HAT.out
  clear hb1 hbA hat1 htr1 okb ok fit hW1
  rw [hmay] at HMC
  have hi1 : decide (i < 0) = false := decide_eq_false (by omega)
  have hi2 : decide ((x.l4.length : Int) ≤ i) = true := decide_eq_true hi
  clear hmay h4 h7
  go_enter Try.func23, Try.ntmps23
  go_wp2_with (first
    | (go_at_call 15; go_must (refine HMC.out.mono ?_; rintro e w1 ⟨rfl, hb1⟩; have HA1 := Aside0.mk (HAT.out.below hb1); have HT1 := Aside0.mk (blk_below HTA.out hb1); have HB1 := Aside0.mk (HB.out.trans (hb1.mono HB.out.size)); have HSW := Aside0.mk hb1.size; clear hb1 k0 k1 k2 k3 k4 k5; obtain ⟨_, k0, k1, k2, k3, k4, k5⟩ := HA1.out; have t0 := cell_blk HT1.out 0 _ rfl; have t1 := cell_blk HT1.out 1 _ rfl; have t2 := cell_blk HT1.out 2 _ rfl; have f0 := blk_frozen HT1.out 0; have f1 := blk_frozen HT1.out 1; have f2 := blk_frozen HT1.out 2)))
  refine bodyPost_ret (v := .tuple #[.agg #[.int .i64 0, .slice none 0 0, .slice none 0 0], .bool false, .int .i64 2]) (results_ctt (fn := Try.f23) rfl (a := ⟨w.heap.size + 1, 0, none⟩) rfl rfl rfl (rv_trace (trace_put HT1.out (.int .i64 0) (.slice none 0 0) (.slice none 0 0)) rfl)) rfl ?_
  exact (badc_zero (Nat.le_add_right _ _) HB1.out rfl rfl).toP _
set_option maxHeartbeats 4000000 in
set_option maxRecDepth 100000 in
theorem badr_err (N0 : Nat) (x : CP) (i : Int) (w : World) (ok : x.Ok w) (fit : x.Fit) (h7 : x.l1.length ≤ 7) (h4 : x.a0 ≤ 4 ∨ 10 < x.a0) (hmay : x.may = true) (hi : 0 ≤ i ∧ i < (x.l4.length : Int)) (er : Int) (hall2 : x.allS.2 = er) (her : er ≠ 0) :
    Calls Try.prog 23 #[.agg #[.int .i64 x.a0, .slice x.A1 x.l1.length x.c1, .slice x.A2 x.l2.length x.c2, .slice x.A3 x.l3.length x.c3, .slice x.A4 x.l4.length x.c4, .slice x.A5 x.l5.length x.c5], .int .i64 i] w fun e w' => BadP (TrS.zero, false, er) N0 w e w' := by
  obtain ⟨W1, hW1⟩ : ∃ W1, W1 = (w.alloc (.cells #[.int .i64 x.a0, .slice x.A1 x.l1.length x.c1, .slice x.A2 x.l2.length x.c2, .slice x.A3 x.l3.length x.c3, .slice x.A4 x.l4.length x.c4, .slice x.A5 x.l5.length x.c5] 26)).alloc (.cells #[.int .i64 0, .slice none 0 0, .slice none 0 0] 30) := ⟨_, rfl⟩
  have hbA : Below w.heap.size w (w.alloc (.cells #[.int .i64 x.a0, .slice x.A1 x.l1.length x.c1, .slice x.A2 x.l2.length x.c2, .slice x.A3 x.l3.length x.c3, .slice x.A4 x.l4.length x.c4, .slice x.A5 x.l5.length x.c5] 26)) := (Below.refl _ _).alloc (Nat.le_refl _) _
  have hb1 : Below w.heap.size w W1 := by rw [hW1]; exact hbA.alloc hbA.size _
  have hat1 : x.At W1 w.heap.size := by rw [hW1]; exact (CP.at_alloc x w).below ((Below.refl _ _).alloc (Nat.le_refl _) _)
  have htr1 : W1.heap[w.heap.size + 1]? = some (.cells #[.int .i64 0, .slice none 0 0, .slice none 0 0] 30 (0, 0)) := by
    rw [hW1]
    have : (w.alloc (.cells #[.int .i64 x.a0, .slice x.A1 x.l1.length x.c1, .slice x.A2 x.l2.length x.c2, .slice x.A3 x.l3.length x.c3, .slice x.A4 x.l4.length x.c4, .slice x.A5 x.l5.length x.c5] 26)).heap.size = w.heap.size + 1 := by simp
    rw [← this]; exact heap_alloc_at _ _
  have okb := ok.below hb1
  have HMC := Aside0.mk (inquestref03_May.calls x.mayK x.a0 x.A1 x.c1 x.l1 x.A2 x.c2 x.l2 x.A3 x.c3 x.l3 x.A4 x.c4 x.l4 x.A5 x.c5 x.l5 x.may W1 okb.r1 okb.m1 okb.r2 okb.m2 okb.r3 okb.m3 okb.r4 okb.m4 okb.r5 okb.m5 (may_ref x fit x.mayK (Nat.le_refl _)))
  have HALL := Aside0.mk (fun W (hb : Below w.heap.size w W) => all17_calls x W (ok.below hb) fit h7 h4)
  have HO := Aside0.mk ok
  have HF := Aside0.mk fit
  have HAT := Aside0.mk hat1
  have HTA := Aside0.mk htr1
  have HB := Aside0.mk hb1
  have HSZ1 : Aside0 (W1.heap.size = w.heap.size + 2) := ⟨by rw [hW1]; simp⟩
  have hl4 : x.l4.length ≤ 9223372036854775807 := by have := fit.n4; omega
  rw [hW1] at HAT HTA HB HMC HSZ1
  obtain ⟨_, k0, k1, k2, k3, k4, k5⟩ := HAT.out
  clear hb1 hbA hat1 htr1 okb ok fit hW1
  rw [hmay] at HMC
  have hi1 : decide (i < 0) = false := decide_eq_false (by omega)
  have hi2 : decide ((x.l4.length : Int) ≤ i) = false := decide_eq_false (by omega)
  rw [hall2] at HALL
  have hne2 : (er != 0) = true := bne_iff_ne.2 her
  clear hmay hi h4 h7 hall2 her
  go_enter Try.func23, Try.ntmps23
  go_wp2_with (first
    | (go_at_call 15; go_must (refine HMC.out.mono ?_; rintro e w1 ⟨rfl, hb1⟩; have HA1 := Aside0.mk (HAT.out.below hb1); have HT1 := Aside0.mk (blk_below HTA.out hb1); have HB1 := Aside0.mk (HB.out.trans (hb1.mono HB.out.size)); have HSW := Aside0.mk hb1.size; clear hb1 k0 k1 k2 k3 k4 k5; obtain ⟨_, k0, k1, k2, k3, k4, k5⟩ := HA1.out))
    | (go_at_call 17; go_must (refine (HALL.out _ HB1.out).mono ?_; rintro e w3 ⟨v3, rfl, ho3, hb3⟩; obtain ⟨A3, c3, e3, hm3, hr3⟩ := Kd.R_reads ho3; subst e3; have HV3 := Aside0.mk (Kd.R_V (base' := w3.heap.size) (Kd.R_mono (ok' := fun k => w1.heap.size ≤ k) (Kd.R_bound ho3) (fun k hk => hk.2.1))); have HT3 := Aside0.mk (blk_below HT1.out hb3); have HB3 := Aside0.mk (HB1.out.trans (hb3.mono HB1.out.size)); have HA3 := Aside0.mk (HA1.out.below hb3); have HR3 := Aside0.mk hr3; have HM3 := Aside0.mk hm3; have HTS := Aside0.mk hb3.size; clear ho3 hr3 hb3 hm3 k0 k1 k2 k3 k4 k5; have t0 := cell_blk HT3.out 0 _ rfl; have t1 := cell_blk HT3.out 1 _ rfl; have t2 := cell_blk HT3.out 2 _ rfl; have f0 := blk_frozen HT3.out 0; have f1 := blk_frozen HT3.out 1; have f2 := blk_frozen HT3.out 2)))
  refine bodyPost_ret (v := .tuple #[.agg #[.int .i64 0, .slice none 0 0, .slice none 0 0], .bool false, .int .i64 er]) (results_ctt (fn := Try.f23) rfl (a := ⟨w.heap.size + 1, 0, none⟩) rfl rfl rfl (rv_trace (trace_put HT3.out (.int .i64 0) (.slice none 0 0) (.slice none 0 0)) rfl)) rfl ?_
  exact (badc_zero (Nat.le_add_right _ _) HB3.out rfl rfl).toP _
set_option maxHeartbeats 4000000 in
set_option maxRecDepth 100000 in
theorem badr_main (N0 : Nat) (x : CP) (i : Int) (w : World) (ok : x.Ok w) (fit : x.Fit) (h7 : x.l1.length ≤ 7) (h4 : x.a0 ≤ 4 ∨ 10 < x.a0) (hmay : x.may = true) (hi : 0 ≤ i ∧ i < (x.l4.length : Int)) (L : List S43) (hall : x.allS = (L, 0)) (h44 : x.a0 ≤ 4) (hg : x.Good L) (hl : L.length ≤ 4096) (hL : Leads L) :
    Calls Try.prog 23 #[.agg #[.int .i64 x.a0, .slice x.A1 x.l1.length x.c1, .slice x.A2 x.l2.length x.c2, .slice x.A3 x.l3.length x.c3, .slice x.A4 x.l4.length x.c4, .slice x.A5 x.l5.length x.c5], .int .i64 i] w fun e w' => BadP (x.scanS L i L.length 0) N0 w e w' := by
  obtain ⟨W1, hW1⟩ : ∃ W1, W1 = (w.alloc (.cells #[.int .i64 x.a0, .slice x.A1 x.l1.length x.c1, .slice x.A2 x.l2.length x.c2, .slice x.A3 x.l3.length x.c3, .slice x.A4 x.l4.length x.c4, .slice x.A5 x.l5.length x.c5] 26)).alloc (.cells #[.int .i64 0, .slice none 0 0, .slice none 0 0] 30) := ⟨_, rfl⟩
  have hbA : Below w.heap.size w (w.alloc (.cells #[.int .i64 x.a0, .slice x.A1 x.l1.length x.c1, .slice x.A2 x.l2.length x.c2, .slice x.A3 x.l3.length x.c3, .slice x.A4 x.l4.length x.c4, .slice x.A5 x.l5.length x.c5] 26)) := (Below.refl _ _).alloc (Nat.le_refl _) _
  have hb1 : Below w.heap.size w W1 := by rw [hW1]; exact hbA.alloc hbA.size _
  have hat1 : x.At W1 w.heap.size := by rw [hW1]; exact (CP.at_alloc x w).below ((Below.refl _ _).alloc (Nat.le_refl _) _)
  have htr1 : W1.heap[w.heap.size + 1]? = some (.cells #[.int .i64 0, .slice none 0 0, .slice none 0 0] 30 (0, 0)) := by
    rw [hW1]
    have : (w.alloc (.cells #[.int .i64 x.a0, .slice x.A1 x.l1.length x.c1, .slice x.A2 x.l2.length x.c2, .slice x.A3 x.l3.length x.c3, .slice x.A4 x.l4.length x.c4, .slice x.A5 x.l5.length x.c5] 26)).heap.size = w.heap.size + 1 := by simp
    rw [← this]; exact heap_alloc_at _ _
  have okb := ok.below hb1
  have HMC := Aside0.mk (inquestref03_May.calls x.mayK x.a0 x.A1 x.c1 x.l1 x.A2 x.c2 x.l2 x.A3 x.c3 x.l3 x.A4 x.c4 x.l4 x.A5 x.c5 x.l5 x.may W1 okb.r1 okb.m1 okb.r2 okb.m2 okb.r3 okb.m3 okb.r4 okb.m4 okb.r5 okb.m5 (may_ref x fit x.mayK (Nat.le_refl _)))
  have HALL := Aside0.mk (fun W (hb : Below w.heap.size w W) => all17_calls x W (ok.below hb) fit h7 h4)
  have HO := Aside0.mk ok
  have HF := Aside0.mk fit
  have HAT := Aside0.mk hat1
  have HTA := Aside0.mk htr1
  have HB := Aside0.mk hb1
  have HSZ1 : Aside0 (W1.heap.size = w.heap.size + 2) := ⟨by rw [hW1]; simp⟩
  have hl4 : x.l4.length ≤ 9223372036854775807 := by have := fit.n4; omega
  rw [hW1] at HAT HTA HB HMC HSZ1
  obtain ⟨_, k0, k1, k2, k3, k4, k5⟩ := HAT.out
  clear hb1 hbA hat1 htr1 okb ok fit hW1
  obtain ⟨ib, rfl⟩ : ∃ ib : Nat, i = (ib : Int) := ⟨i.toNat, by omega⟩
  have hib4 : ib < x.l4.length := by omega
  have hib0 : (0 : Int) ≤ (ib : Int) := by omega
  have hib1 : (ib : Int) < (x.l4.length : Int) := by omega
  have hi1 : decide ((ib : Int) < 0) = false := decide_eq_false (by omega)
  have hi2 : decide ((x.l4.length : Int) ≤ (ib : Int)) = false := decide_eq_false (by omega)
  rw [hmay] at HMC
  rw [hall] at HALL
  have HMY := Aside0.mk hmay
  have HLD := Aside0.mk hL
  have HG := Aside0.mk hg
  have hx0 := may_nonneg hmay
  obtain ⟨p, hp⟩ : ∃ p, p = 2 ^ x.a0.toNat := ⟨_, rfl⟩
  have HP := Aside0.mk hp
  have hp16 : p ≤ 16 := by rw [hp]; exact Nat.le_trans (Nat.pow_le_pow_right (by decide) (by omega : x.a0.toNat ≤ 4)) (by decide)
  have hP2 : (2 : Int) ^ x.a0.toNat = (p : Int) := by rw [hp]; push_cast; rfl
  have hmn : min x.a0.toNat 64 = x.a0.toNat := Nat.min_eq_left (by omega)
  have hu : IntKind.u64.wrap x.a0 = x.a0 := by have := u64_small (show x.a0.toNat ≤ 1000 by omega); rwa [Int.toNat_of_nonneg hx0] at this
  have HP2 := Aside0.mk hP2
  have HU := Aside0.mk hu
  clear hmay hi h4 hall hg hL hp hP2 hmn hu
  go_enter Try.func23, Try.ntmps23
  go_wp2_with (first
    | (go_at_call 15; go_must (refine HMC.out.mono ?_; rintro e w1 ⟨rfl, hb1⟩; have HA1 := Aside0.mk (HAT.out.below hb1); have HT1 := Aside0.mk (blk_below HTA.out hb1); have HB1 := Aside0.mk (HB.out.trans (hb1.mono HB.out.size)); have HSW := Aside0.mk hb1.size; clear hb1 k0 k1 k2 k3 k4 k5; obtain ⟨_, k0, k1, k2, k3, k4, k5⟩ := HA1.out))
    | (go_at_call 17; go_must (refine (HALL.out _ HB1.out).mono ?_; rintro e w3 ⟨v3, rfl, ho3, hb3⟩; obtain ⟨A3, c3, e3, hm3, hr3⟩ := Kd.R_reads ho3; subst e3; have HV3 := Aside0.mk (Kd.R_V (base' := w3.heap.size) (Kd.R_mono (ok' := fun k => w1.heap.size ≤ k) (Kd.R_bound ho3) (fun k hk => hk.2.1))); have HT3 := Aside0.mk (blk_below HT1.out hb3); have HB3 := Aside0.mk (HB1.out.trans (hb3.mono HB1.out.size)); have HA3 := Aside0.mk (HA1.out.below hb3); have HR3 := Aside0.mk hr3; have HM3 := Aside0.mk hm3; have HTS := Aside0.mk hb3.size; clear ho3 hr3 hb3 hm3 k0 k1 k2 k3 k4 k5)))
  go_loopw [9] (fun v wr => ∃ a : Nat, a ≤ L.length ∧ v = .int .i64 a ∧ Aside0 (Below w3.heap.size w3 wr) ∧ Aside0 (x.scanS L ib (L.length - a) a = x.scanS L ib L.length 0)) (fun v _ => L.length - (intOf v).toNat)
  case atStart => exact ⟨0, by omega, rfl, ⟨Below.refl _ _⟩, ⟨rfl⟩⟩
  case round =>
    obtain ⟨a, ha, rfl, HBO, HSC⟩ := hrel
    by_cases hlt : a < L.length
    · have hgs : x.scanS L ib (L.length - a) a = (match x.hitN L ib a with | some n => hitT L ib a (wayS n x.a0.toNat) | none => x.scanS L ib (L.length - (a + 1)) (a + 1)) := by
        rw [show L.length - a = (L.length - (a + 1)) + 1 by omega]; rfl
      rw [hgs] at HSC
      clear hgs
      obtain ⟨wo, rfl⟩ : ∃ wo : World, wo = wr := ⟨_, rfl⟩
      go_wp2
      go_loopw [10] (fun v wr => ∃ n : Nat, n ≤ p ∧ v = .int .i64 n ∧ Aside0 (Below w3.heap.size w3 wr) ∧ Aside0 (∀ m, m < n → x.hitS L ib a (wayS m x.a0.toNat) = false)) (fun v _ => p - (intOf v).toNat)
      case atStart => exact ⟨0, by omega, rfl, HBO, ⟨fun m h => by omega⟩⟩
      case round =>
        obtain ⟨n, hn, rfl, HBI, HHI⟩ := hrel
        have HBW := Aside0.mk (HB3.out.trans (HBI.out.mono HB3.out.size))
        have HAW := Aside0.mk (HA3.out.below HBI.out)
        have HTW := Aside0.mk (blk_below HT3.out HBI.out)
        obtain ⟨_, k0, k1, k2, k3, k4, k5⟩ := HAW.out
        by_cases hnp : n < p
        · have hnp' : (n : Int) < (p : Int) := by omega
          have HWC := Aside0.mk (fun W => ways38_calls n x.a0.toNat (by omega) W)
          rw [Int.toNat_of_nonneg hx0] at HWC
          have hu := HU.out
          have hS6 : wrap64 (2 ^ x.a0.toNat) = (p : Int) := by rw [HP2.out]; exact w64 (by omega) (by omega)
          go_wp2_with (go_at_call 38; go_must (refine (HWC.out _).mono ?_; rintro e w4 ⟨Aw, cw, rfl, hmw, hrw, hvw, hb4⟩; have HVW := Aside0.mk hvw; have HAY := Aside0.mk hrw; have HMY4 := Aside0.mk hmw; have HA4 := Aside0.mk (HAW.out.below hb4); have HT4 := Aside0.mk (blk_below HTW.out hb4); have HB4 := Aside0.mk (HBW.out.trans (hb4.mono HBW.out.size)); have HBX := Aside0.mk (HBI.out.trans (hb4.mono HBI.out.size)); clear hmw hrw hvw hb4 k0 k1 k2 k3 k4 k5; obtain ⟨_, k0, k1, k2, k3, k4, k5⟩ := HA4.out))
          obtain ⟨A3', c3', h1', _, hrl⟩ : ∃ A' c', (Value.slice A3 L.length c3) = .slice A' L.length c' ∧ True ∧ Kd.C k43 w4 A3 L.length L := ⟨_, _, rfl, trivial, Kd.C_below HR3.out HBX.out⟩
          clear h1'
          obtain ⟨ad, S0, s0, Sb, sb, e1, hs0, hs1, hs2, hs3, hm0, hr0, hmb, hrb⟩ := at_state hrl a hlt
          subst e1
          obtain ⟨q1, q2, q3, q4, q5, q6, q7⟩ := HG.out a hlt
          obtain ⟨iv, hiv⟩ : ∃ iv, iv = wayS n x.a0.toNat := ⟨_, rfl⟩
          have hil : iv.length = x.a0.toNat := by rw [hiv, wayS_length]
          have hib : ∀ v ∈ iv, 0 ≤ v ∧ v ≤ 2 := by rw [hiv]; intro v hv; have := wayS_bit n x.a0.toNat v hv; omega
          rw [← hiv] at HAY HMY4 HVW ⊢
          have HIV := Aside0.mk hiv
          have HIL := Aside0.mk hil
          obtain ⟨sv, hsv⟩ : ∃ sv, sv = L[a] := ⟨_, rfl⟩
          rw [← hsv] at hs0 hs1 hm0 hr0 q1 q2
          have HSV := Aside0.mk hsv
          have HFR := Aside0.mk (frame7_calls x S0 Aw s0 cw sv.f0 iv w4.drew (HO.out.below HB4.out.drew) HF.out HMY.out (values_bit (by rw [q1]) q2) (values_bit (by rw [hil]; omega) hib) (bytes_bit q2) (bytes_bit hib) (by omega) (by omega) (Kd.C_drew hr0) hm0 (Kd.C_drew HAY.out) HMY4.out)
          obtain ⟨V, hV⟩ : ∃ V, V = x.frameS sv.f0 iv := ⟨_, rfl⟩
          have HVB : Aside0 (Bytes V) := ⟨by rw [hV]; exact frameS_bytes x _ _ (bytes_bit q2) (bytes_bit hib)⟩
          rw [← hV] at HFR
          have HV := Aside0.mk hV
          have ha0 : (0 : Int) ≤ (a : Int) := by omega
          have ha1 : (a : Int) < (L.length : Int) := by omega
          clear hrl hm0 hr0 hmb hrb hs2 hs3 q1 q2 q3 q4 q5 q6 q7 hiv hib hsv hV hil
          go_region_held3 (fun w' => w'.cell? ⟨w.heap.size, 0, none⟩ = some (.int .i64 x.a0) ∧ w'.cell? ⟨w.heap.size, 1, none⟩ = some (.slice x.A1 x.l1.length x.c1) ∧ w'.cell? ⟨w.heap.size, 2, none⟩ = some (.slice x.A2 x.l2.length x.c2) ∧ w'.cell? ⟨w.heap.size, 3, none⟩ = some (.slice x.A3 x.l3.length x.c3) ∧ w'.cell? ⟨w.heap.size, 4, none⟩ = some (.slice x.A4 x.l4.length x.c4) ∧ w'.cell? ⟨w.heap.size, 5, none⟩ = some (.slice x.A5 x.l5.length x.c5) ∧
              w'.cell? (ad.add (a * 4)) = some (.slice S0 sv.f0.length s0))
            (first
              | go_keep
              | (go_split_ands
                 have hq : ∀ p v, w4.cell? p = some v → w5.cell? p = some v := fun p v h => (hb5.cell (World.block_lt_of_cell? w4 p h)).trans h
                 exact ⟨hq _ _ k0, hq _ _ k1, hq _ _ k2, hq _ _ k3, hq _ _ k4, hq _ _ k5, hq _ _ hs0⟩))
            ((go_at_call 16; (with_reducible refine HFR.out.mono ?_); rintro e w5 ⟨Av, cv, An, cn, rfl, hmv, hrv, hmn, hrn, hb5⟩))
          have hb45 : Below w4.heap.size w4 w5 := ((Below.refl _ _).drew).trans hb5
          have HB45 := Aside0.mk hb45
          have HA5 := Aside0.mk (HA4.out.below hb45)
          have HT5 := Aside0.mk (blk_below HT4.out hb45)
          have HB5 := Aside0.mk (HB4.out.trans (hb45.mono HB4.out.size))
          have HBY := Aside0.mk (HBX.out.trans (hb45.mono HBX.out.size))
          have HWY := Aside0.mk (Kd.C_below HAY.out hb45)
          have HVR := Aside0.mk hrv
          have HVM := Aside0.mk hmv
          have hs1' := (hb45.cell (World.block_lt_of_cell? w4 _ hs1)).trans hs1
          have HS1 := Aside0.mk hs1'
          have HHC := Aside0.mk (held27_calls x Av cv V w5 (HO.out.below HB5.out) HF.out HVB.out hrv hmv)
          have HVC := Aside0.mk (fun W (hb : Below w5.heap.size w5 W) => value32_calls Av cv V x.l4[ib] W (Kd.C_below hrv hb) hmv (HF.out.g4 _ (List.getElem_mem hib4)).1 (HF.out.g4 _ (List.getElem_mem hib4)).2 HVB.out)
          have HHT : Aside0 (x.hitS L ib a (wayS n x.a0.toNat) = (x.heldS V && decide (valS V x.l4[ib] = 1))) := ⟨by
            unfold CP.hitS
            have e1 : L.getD a z43 = sv := by rw [HSV.out, List.getD_eq_getElem?_getD, List.getElem?_eq_getElem hlt]; rfl
            have e2 : rd x.l4 (ib : Int) = x.l4[ib] := rd_get hib4
            rw [e1, ← HIV.out, e2, HV.out]⟩
          clear hb45 hb5 hmv hrv hmn hrn hs0 hs1 hs1' k0 k1 k2 k3 k4 k5
          obtain ⟨_, k0, k1, k2, k3, k4, k5⟩ := HA5.out
          have next : ∀ (W : World), Below w5.heap.size w5 W → x.hitS L ib a (wayS n x.a0.toNat) = false → Aside0 (Below w3.heap.size w3 W) ∧ Aside0 (∀ m, m < n + 1 → x.hitS L ib a (wayS m x.a0.toNat) = false) := fun W hb hz =>
            ⟨⟨HBY.out.trans (hb.mono HBY.out.size)⟩, ⟨fun m hm => by
              by_cases e : m = n
              · rw [e]; exact hz
              · exact HHI.out m (by omega)⟩⟩
          have HNX := Aside0.mk next
          clear next
          cases hd : x.heldS V
          · rw [hd] at HHC HHT
            clear hd
            go_wp2_with (go_at_call 14; go_must (refine HHC.out.mono ?_; rintro e w6 ⟨rfl, hb6⟩; have HN6 := Aside0.mk (HNX.out w6 hb6 HHT.out); clear hb6 k0 k1 k2 k3 k4 k5))
            exact ⟨⟨n + 1, by omega, by go_num, HN6.out.1, HN6.out.2⟩, by simp [intOf]; omega⟩
          · rw [hd] at HHC HHT
            clear hd
            by_cases hv1 : valS V x.l4[ib] = 1
            · rw [decide_eq_true hv1] at HHT
              have hvn : ((1 : Int) != 1) = false := by decide
              rw [hv1] at HVC
              clear hv1
              have HHN : Aside0 (x.hitN L ib a = some n) := ⟨range_find_some (by rw [← HP.out]; exact hnp) HHI.out HHT.out⟩
              rw [HHN.out] at HSC
              have HSR : Aside0 (hitT L ib a (wayS n x.a0.toNat) = x.scanS L ib L.length 0) := ⟨HSC.out⟩
              have hgd : L.getD a z43 = sv := by rw [HSV.out, List.getD_eq_getElem?_getD, List.getElem?_eq_getElem hlt]; rfl
              have HGD := Aside0.mk hgd
              clear hgd
              by_cases hd : 256 ≤ sv.f1
              · have HRZ : Aside0 ((TrS.zero, false, (3 : Int)) = x.scanS L ib L.length 0) := ⟨by rw [← HSR.out]; unfold hitT; rw [HGD.out, if_neg (by omega)]⟩
                have hd2 : decide ((256 : Int) ≤ sv.f1) = true := decide_eq_true hd
                go_wp2_with (first
                  | (go_at_call 14; go_must (refine HHC.out.mono ?_; rintro e w6 ⟨rfl, hb6⟩; have HB6 := Aside0.mk hb6; have HA6 := Aside0.mk (HA5.out.below hb6); obtain ⟨al, ea, hcl⟩ := Kd.at_int (HO.out.below (HB5.out.trans (hb6.mono HB5.out.size))).r4 ib (by omega) (by omega); have HEA := Aside0.mk ea; have hcb : w6.cell? (al.add ib) = some (.int .u32 x.l4[ib]) := (by simpa [rd, List.getD_eq_getElem?_getD, hib4] using hcl); clear hb6 k0 k1 k2 k3 k4 k5 hcl ea; obtain ⟨_, k0, k1, k2, k3, k4, k5⟩ := HA6.out; rw [HEA.out] at k4))
                  | (go_at_call 32; go_must (refine (HVC.out _ HB6.out).mono ?_; rintro e w7 ⟨rfl, hb7⟩; have hb57 := HB6.out.trans (hb7.mono HB6.out.size); have HT7 := Aside0.mk (blk_below HT5.out hb57); have HB7 := Aside0.mk (HB5.out.trans (hb57.mono HB5.out.size)); have es1 := (hb57.cell (World.block_lt_of_cell? w5 _ HS1.out)).trans HS1.out; clear hb7 hb57; have t0 := cell_blk HT7.out 0 _ rfl; have t1 := cell_blk HT7.out 1 _ rfl; have t2 := cell_blk HT7.out 2 _ rfl; have f0 := blk_frozen HT7.out 0; have f1 := blk_frozen HT7.out 1; have f2 := blk_frozen HT7.out 2)))
                rw [← HRZ.out]
                refine bodyPost_ret (v := .tuple #[.agg #[.int .i64 0, .slice none 0 0, .slice none 0 0], .bool false, .int .i64 3]) (results_ctt (fn := Try.f23) rfl (a := ⟨w.heap.size + 1, 0, none⟩) rfl rfl rfl (rv_trace (trace_put HT7.out (.int .i64 0) (.slice none 0 0) (.slice none 0 0)) rfl)) rfl ?_
                exact (badc_zero (Nat.le_add_right _ _) HB7.out rfl rfl).toP _
              · have hd2 : decide ((256 : Int) ≤ sv.f1) = false := decide_eq_false hd
                have HRG : Aside0 ((⟨(ib : Int), leadInit L a, leadFrames L a iv⟩, true, (0 : Int)) = x.scanS L ib L.length 0) := ⟨by rw [← HSR.out, HIV.out]; unfold hitT; rw [HGD.out, if_pos (by omega)]⟩
                go_wp2_with (first
                  | (go_at_call 14; go_must (refine HHC.out.mono ?_; rintro e w6 ⟨rfl, hb6⟩; have HB6 := Aside0.mk hb6; have HA6 := Aside0.mk (HA5.out.below hb6); obtain ⟨al, ea, hcl⟩ := Kd.at_int (HO.out.below (HB5.out.trans (hb6.mono HB5.out.size))).r4 ib (by omega) (by omega); have HEA := Aside0.mk ea; have hcb : w6.cell? (al.add ib) = some (.int .u32 x.l4[ib]) := (by simpa [rd, List.getD_eq_getElem?_getD, hib4] using hcl); clear hb6 k0 k1 k2 k3 k4 k5 hcl ea; obtain ⟨_, k0, k1, k2, k3, k4, k5⟩ := HA6.out; rw [HEA.out] at k4))
                  | (go_at_call 32; go_must (refine (HVC.out _ HB6.out).mono ?_; rintro e w7 ⟨rfl, hb7⟩; have hb57 := HB6.out.trans (hb7.mono HB6.out.size); have HT7 := Aside0.mk (blk_below HT5.out hb57); have HB7 := Aside0.mk (HB5.out.trans (hb57.mono HB5.out.size)); have HB37 := Aside0.mk (HBY.out.trans (hb57.mono HBY.out.size)); have es1 := (hb57.cell (World.block_lt_of_cell? w5 _ HS1.out)).trans HS1.out; have HVY7 := Aside0.mk (Kd.V_below (Kd.V_below (Kd.V_below HVW.out HB45.out) HB6.out) hb7); clear hb7 hb57))
                  | (go_at_call 46; go_must (refine (leads46b_calls L a ib (some ad) c3 Aw cw iv w7 w.heap.size (w.heap.size + 1) HLD.out hlt (by have := HIL.out; omega) (Kd.V_mono (Kd.V_below HV3.out HB37.out) (fun k hk => by have := HSW.out; have := HSZ1.out; omega)) (Kd.V_mono HVY7.out (fun k hk => by have := HBI.out.size; have := HTS.out; have := HSW.out; have := HSZ1.out; omega)) (Array.getElem?_eq_some_iff.1 HT7.out).1 HB7.out.size).mono ?_; rintro e w8 ⟨Ai, ci, Af, cf, rfl, htc, hb8⟩; have HT8 := Aside0.mk (blk_below HT7.out hb8); have HB8 := Aside0.mk (HB7.out.trans (hb8.mono HB7.out.size)); have HTC := Aside0.mk htc; clear htc hb8; have t0 := cell_blk HT8.out 0 _ rfl; have t1 := cell_blk HT8.out 1 _ rfl; have t2 := cell_blk HT8.out 2 _ rfl; have f0 := blk_frozen HT8.out 0; have f1 := blk_frozen HT8.out 1; have f2 := blk_frozen HT8.out 2)))
                rw [← HRG.out]
                have hend := trace_put HT8.out (.int .i64 ib) (.slice Ai (leadInit L a).length ci) (.slice Af (leadFrames L a iv).length cf)
                refine bodyPost_ret (v := .tuple #[.agg #[.int .i64 ib, .slice Ai (leadInit L a).length ci, .slice Af (leadFrames L a iv).length cf], .bool true, .int .i64 0]) (results_ctt (fn := Try.f23) rfl (a := ⟨w.heap.size + 1, 0, none⟩) rfl rfl rfl (rv_trace hend rfl)) rfl ?_
                refine ⟨_, _, _, _, rfl, fun w2 hk2 => HTC.out w2 (fun k hN hk hl => (hk2 k (.inr hN) (by simpa using hl)).trans ?_), ((HB8.out.setCell (p := ⟨w.heap.size + 1, 0, none⟩) (Nat.le_add_right _ _) _).setCell (p := ⟨w.heap.size + 1, 1, none⟩) (Nat.le_add_right _ _) _).setCell (p := ⟨w.heap.size + 1, 2, none⟩) (Nat.le_add_right _ _) _⟩
                exact (Below.heap_setCell _ _ _ k hk).trans ((Below.heap_setCell _ _ _ k hk).trans (Below.heap_setCell _ _ _ k hk))
            · rw [decide_eq_false hv1] at HHT
              obtain ⟨vv, hvv⟩ : ∃ vv, vv = valS V x.l4[ib] := ⟨_, rfl⟩
              rw [← hvv] at HVC hv1
              have hvn : (vv != 1) = true := bne_iff_ne.2 hv1
              clear hv1 hvv
              go_wp2_with (first
                | (go_at_call 14; go_must (refine HHC.out.mono ?_; rintro e w6 ⟨rfl, hb6⟩; have HB6 := Aside0.mk hb6; have HA6 := Aside0.mk (HA5.out.below hb6); obtain ⟨al, ea, hcl⟩ := Kd.at_int (HO.out.below (HB5.out.trans (hb6.mono HB5.out.size))).r4 ib (by omega) (by omega); have HEA := Aside0.mk ea; have hcb : w6.cell? (al.add ib) = some (.int .u32 x.l4[ib]) := (by simpa [rd, List.getD_eq_getElem?_getD, hib4] using hcl); clear hb6 k0 k1 k2 k3 k4 k5 hcl ea; obtain ⟨_, k0, k1, k2, k3, k4, k5⟩ := HA6.out; rw [HEA.out] at k4))
                | (go_at_call 32; go_must (refine (HVC.out _ HB6.out).mono ?_; rintro e w7 ⟨rfl, hb7⟩; have HN7 := Aside0.mk (HNX.out w7 (HB6.out.trans (hb7.mono HB6.out.size)) HHT.out); clear hb7)))
              exact ⟨⟨n + 1, by omega, by go_num, HN7.out.1, HN7.out.2⟩, by simp [intOf]; omega⟩
        · have hS6 : wrap64 (2 ^ x.a0.toNat) = (p : Int) := by rw [HP2.out]; exact w64 (by omega) (by omega)
          have hu := HU.out
          have hnn : n = p := by omega
          have HNN : Aside0 (x.hitN L ib a = none) := ⟨range_find_none (fun m hm => HHI.out m (by rw [hnn, HP.out]; exact hm))⟩
          rw [HNN.out] at HSC
          have HSC2 : Aside0 (x.scanS L ib (L.length - (a + 1)) (a + 1) = x.scanS L ib L.length 0) := ⟨HSC.out⟩
          clear hnn
          go_wp2
          exact ⟨⟨a + 1, by omega, by go_num, HBI, HSC2⟩, by simp [intOf]; omega⟩
    · have haa : a = L.length := by omega
      have HRZ : Aside0 ((TrS.zero, false, (0 : Int)) = x.scanS L ib L.length 0) := ⟨by rw [← HSC.out, haa, Nat.sub_self]; rfl⟩
      have HTW := Aside0.mk (blk_below HT3.out HBO.out)
      have HBW := Aside0.mk (HB3.out.trans (HBO.out.mono HB3.out.size))
      have t0 := cell_blk HTW.out 0 _ rfl
      have t1 := cell_blk HTW.out 1 _ rfl
      have t2 := cell_blk HTW.out 2 _ rfl
      have f0 := blk_frozen HTW.out 0
      have f1 := blk_frozen HTW.out 1
      have f2 := blk_frozen HTW.out 2
      clear haa
      go_wp2
      rw [← HRZ.out]
      refine bodyPost_ret (v := .tuple #[.agg #[.int .i64 0, .slice none 0 0, .slice none 0 0], .bool false, .int .i64 0]) (results_ctt (fn := Try.f23) rfl (a := ⟨w.heap.size + 1, 0, none⟩) rfl rfl rfl (rv_trace (trace_put HTW.out (.int .i64 0) (.slice none 0 0) (.slice none 0 0)) rfl)) rfl ?_
      exact (badc_zero (Nat.le_add_right _ _) HBW.out rfl rfl).toP _
end Go.Proofs.Ytdjhjgfjhicbfaa.PWalkTells
namespace Go.Proofs.Ytdjhjgfjhicbfaa.PWalkTells
open Go.RowKit Go.Shelf Go.Maps Go.Proofs.YtdjhjgfjhicbfaaW.PrintWords Go.Proofs.YtdjhjgfjhicbfaaW.PrintLast Go.Proofs.YtdjhjgfjhicbfaaW.PrintMore
set_option linter.unusedVariables false
set_option linter.unusedSimpArgs false
theorem badr_full (N0 : Nat) (x : CP) (i : Int) (w : World) (ok : x.Ok w) (fit : x.Fit) (h7 : x.l1.length ≤ 7) (h4 : x.a0 ≤ 4 ∨ 10 < x.a0) :
    Calls Try.prog 23 #[.agg #[.int .i64 x.a0, .slice x.A1 x.l1.length x.c1, .slice x.A2 x.l2.length x.c2, .slice x.A3 x.l3.length x.c3, .slice x.A4 x.l4.length x.c4, .slice x.A5 x.l5.length x.c5], .int .i64 i] w fun e w' => BadP (x.badR i) N0 w e w' := by
  obtain ⟨hLd, hMB, hMl⟩ := allS_leads x fit h7 h4
  have toE : ∀ {r : TrS × Bool × Int}, Calls Try.prog 23 #[.agg #[.int .i64 x.a0, .slice x.A1 x.l1.length x.c1, .slice x.A2 x.l2.length x.c2, .slice x.A3 x.l3.length x.c3, .slice x.A4 x.l4.length x.c4, .slice x.A5 x.l5.length x.c5], .int .i64 i] w (fun e w' => BadP r N0 w e w') → r = x.badR i →
      Calls Try.prog 23 #[.agg #[.int .i64 x.a0, .slice x.A1 x.l1.length x.c1, .slice x.A2 x.l2.length x.c2, .slice x.A3 x.l3.length x.c3, .slice x.A4 x.l4.length x.c4, .slice x.A5 x.l5.length x.c5], .int .i64 i] w fun e w' => BadP (x.badR i) N0 w e w' := by
    intro r h e
    subst e
    exact h
  cases hbad : x.badS i
  · have hz : (TrS.zero, false, (2 : Int)) = x.badR i := by unfold CP.badR; rw [if_pos hbad]
    cases hmay : x.may
    · exact toE (badr_may N0 x i w ok fit h7 h4 hmay) hz
    · by_cases hi0 : i < 0
      · exact toE (badr_neg N0 x i w ok fit h7 h4 hmay hi0) hz
      · by_cases hi1 : (x.l4.length : Int) ≤ i
        · exact toE (badr_far N0 x i w ok fit h7 h4 hmay (by omega) hi1) hz
        · rw [badS_mk hmay (by omega) (by omega)] at hbad; cases hbad
  · obtain ⟨hmay, hi0, hi1⟩ := badS_true hbad
    have hn : ¬ x.badS i = false := by rw [hbad]; simp
    by_cases hall : x.allS.2 = 0
    · have h44 : x.a0 ≤ 4 := by
        rcases h4 with h | h
        · exact h
        · exfalso
          unfold CP.allS at hall
          have hwd : x.wide = true := by
            unfold CP.wide
            refine decide_eq_true ?_
            split <;> omega
          rw [if_neg (by rw [hmay]; simp), if_pos hwd] at hall
          exact absurd hall (by decide)
      obtain ⟨hg, hl⟩ := allS_good fit
      exact toE (badr_main N0 x i w ok fit h7 h4 hmay ⟨hi0, hi1⟩ x.allS.1 (by rw [← hall]) h44 hg hl hLd) (by unfold CP.badR; rw [if_neg hn, if_neg (by simp [hall])])
    · exact toE (badr_err N0 x i w ok fit h7 h4 hmay ⟨hi0, hi1⟩ x.allS.2 rfl hall) (by unfold CP.badR; rw [if_neg hn, if_pos hall])
theorem samet_calls (t : TrS) (Ai : Option Addr) (ci : Nat) (Af : Option Addr) (cf : Nat) (Bi : Option Addr) (di : Nat) (Bf : Option Addr) (df : Nat) (w : World) (h1 : TrC t w Ai ci Af cf) (h2 : TrC t w Bi di Bf df) :
    Calls Try.prog 21 #[.agg #[.int .i64 t.bad, .slice Ai t.init.length ci, .slice Af t.frames.length cf], .agg #[.int .i64 t.bad, .slice Bi t.init.length di, .slice Bf t.frames.length df]] w fun e w' => e = .returned (.bool true) ∧ Below w.heap.size w w' :=
  inquestref03_SameTrace.calls (t.frames.length + 1) t.bad Ai ci t.init Af cf t.frames t.bad Bi di t.init Bf df t.frames true w h1.ri h1.ci h1.rf h1.cf h2.ri h2.ci h2.rf h2.cf (samet_ref _ _ _ _ (Nat.lt_succ_self _))
end Go.Proofs.Ytdjhjgfjhicbfaa.PWalkTells
namespace Go.Proofs.Ytdjhjgfjhicbfaa.PWalkTells
open Go.RowKit Go.Shelf Go.Maps Go.Proofs.YtdjhjgfjhicbfaaW.PrintWords Go.Proofs.YtdjhjgfjhicbfaaW.PrintLast Go.Proofs.YtdjhjgfjhicbfaaW.PrintMore
set_option linter.unusedVariables false
set_option linter.unusedSimpArgs false
set_option maxHeartbeats 8000000 in
set_option maxRecDepth 100000 in
theorem law_big (x : CP) (at_ i : Int) (Al : Option Addr) (cl : Nat) (last : List Int) (Ao : Option Addr) (co : Nat) (odd : List S43) (w : World) (ok : x.Ok w) (fit : x.Fit) (hcl : last.length ≤ cl) (hrl : Kd.C (Kd.int .u8) w Al last.length last) (hco : odd.length ≤ co) (hro : Kd.C k43 w Ao odd.length odd) (hob : ∀ s ∈ odd, s.Bytes)
    (hgr : x.great = false) (hod : odd.length ≤ 300) :
    Calls Try.prog 5 #[.agg #[.int .i64 x.a0, .slice x.A1 x.l1.length x.c1, .slice x.A2 x.l2.length x.c2, .slice x.A3 x.l3.length x.c3, .slice x.A4 x.l4.length x.c4, .slice x.A5 x.l5.length x.c5], .int .i64 at_, .int .i64 i, .slice Al last.length cl, .slice Ao odd.length co] w fun e w' => e = .returned (.bool true) ∧ Below w.heap.size w w' := by
  have hb0 : Below w.heap.size w (w.alloc (.cells #[.int .i64 x.a0, .slice x.A1 x.l1.length x.c1, .slice x.A2 x.l2.length x.c2, .slice x.A3 x.l3.length x.c3, .slice x.A4 x.l4.length x.c4, .slice x.A5 x.l5.length x.c5] 26)) := (Below.refl _ _).alloc (Nat.le_refl _) _
  have h7 : x.l1.length ≤ 7 := by
    have h := hgr
    unfold CP.great at h
    simp at h
    omega
  have h4 : x.a0 ≤ 4 ∨ 10 < x.a0 := by
    have h := hgr
    unfold CP.great at h
    simp at h
    omega
  obtain ⟨hLd, hMB, hMl⟩ := allS_leads x fit h7 h4
  have HT1 := Aside0.mk (fun (L : List S43) A c W (hb : Below w.heap.size w W) (hr : Kd.C k43 W A L.length L) (hB : ∀ s ∈ L, s.Bytes) => to_full w.heap.size x L at_ i A c Al cl last W (ok.below hb) fit h7 h4 hB hr (Kd.C_below hrl hb))
  have HT2 := Aside0.mk (fun (L : List S43) A c W (hb : Below w.heap.size w W) (hc : L.length ≤ c) (hr : Kd.C k43 W A L.length L) (hB : ∀ s ∈ L, s.Bytes) => tor_full W x L at_ i A c Al cl last W (ok.below hb) fit h7 h4 hB hc (Below.refl _ _) hr hcl (Kd.C_below hrl hb))
  have HB1 := Aside0.mk (fun W (hb : Below w.heap.size w W) => (badAll_calls x i W (ok.below hb) fit).mono (fun e w' h => BadAns.toP w.heap.size h))
  have HB2 := Aside0.mk (fun W (hb : Below w.heap.size w W) => badr_full w.heap.size x i W (ok.below hb) fit h7 h4)
  have HR1 := Aside0.mk (fun W (hb : Below w.heap.size w W) => ring_calls x W (ok.below hb) fit)
  have HR2 := Aside0.mk (fun W (hb : Below w.heap.size w W) => ring25_calls x W (ok.below hb) fit h7 h4)
  have HA1 := Aside0.mk (fun W (hb : Below w.heap.size w W) => all_calls x W (ok.below hb) fit)
  have HA2 := Aside0.mk (fun W (hb : Below w.heap.size w W) => all17_calls x W (ok.below hb) fit h7 h4)
  obtain ⟨L, hL⟩ : ∃ L, L = x.allS.1 := ⟨_, rfl⟩
  obtain ⟨er, her⟩ : ∃ er, er = x.allS.2 := ⟨_, rfl⟩
  obtain ⟨rg, hrg⟩ : ∃ rg, rg = x.ringS := ⟨_, rfl⟩
  obtain ⟨r1, hr1⟩ : ∃ r1, r1 = x.toR L at_ i last := ⟨_, rfl⟩
  obtain ⟨r2, hr2⟩ : ∃ r2, r2 = x.toR odd at_ i last := ⟨_, rfl⟩
  obtain ⟨rb, hrb⟩ : ∃ rb, rb = x.badR i := ⟨_, rfl⟩
  replace HA1 := Aside0.mk HA1.out
  rw [← hL, ← her] at HA1 HA2
  rw [← hrg, ← her] at HR1 HR2
  rw [← hrb] at HB1 HB2
  rw [← hL] at hMB hMl
  have HTL1 := Aside0.mk (fun A c W hb hr => HT1.out L A c W hb hr hMB)
  have HTL2 := Aside0.mk (fun A c W hb hc hr => HT2.out L A c W hb hc hr hMB)
  have HTO1 := Aside0.mk (fun W (hb : Below w.heap.size w W) => HT1.out odd Ao co W hb (Kd.C_below hro hb) hob)
  have HTO2 := Aside0.mk (fun W (hb : Below w.heap.size w W) => tor_full w x odd at_ i Ao co Al cl last W (ok.below hb) fit h7 h4 hob hco hb hro hcl hrl)
  rw [← hr1] at HTL1 HTL2
  rw [← hr2] at HTO1 HTO2
  have HMB := Aside0.mk hMB
  have HAT := Aside0.mk (CP.at_alloc x w)
  have HB := Aside0.mk hb0
  have okb := ok.below hb0
  have HG := Aside0.mk (inquestlaw27_great.calls x.a0 x.A1 x.c1 x.l1 x.A2 x.c2 x.l2 x.A3 x.c3 x.l3 x.A4 x.c4 x.l4 x.A5 x.c5 x.l5 x.great _ okb.r1 okb.m1 okb.r2 okb.m2 okb.r3 okb.m3 okb.r4 okb.m4 okb.r5 okb.m5 (great_ref x))
  rw [hgr] at HG
  obtain ⟨_, k0, k1, k2, k3, k4, k5⟩ := HAT.out
  have hod2 : decide ((300 : Int) < (odd.length : Int)) = false := decide_eq_false (by omega)
  have hol : odd.length ≤ 9223372036854775807 := by omega
  clear hb0 ok fit hcl hrl hco hro hob hgr hod okb h7 h4 hLd hMB hL her hrg hr1 hr2 hrb HT1 HT2
  go_enter Try.func5, Try.ntmps5
  go_wp2_with (first
    | (go_at_call 7; go_must (refine HG.out.mono ?_; rintro e w1 ⟨rfl, hb1⟩; have HA1' := Aside0.mk (HAT.out.below hb1); have HB1' := Aside0.mk (HB.out.trans (hb1.mono HB.out.size)); clear hb1 k0 k1 k2 k3 k4 k5; obtain ⟨_, k0, k1, k2, k3, k4, k5⟩ := HA1'.out))
    | (go_at_call 10; go_must (refine (HA1.out _ HB1'.out).mono ?_; rintro e w2 ⟨v2, rfl, ho2, hb2⟩; obtain ⟨A2, c2, e2, hm2, hr2⟩ := Kd.R_reads ho2; subst e2; have HL2 := Aside0.mk hr2; have HM2 := Aside0.mk hm2; have HA2' := Aside0.mk (HA1'.out.below hb2); have HB2' := Aside0.mk (HB1'.out.trans (hb2.mono HB1'.out.size)); clear ho2 hr2 hm2 hb2 k0 k1 k2 k3 k4 k5; obtain ⟨_, k0, k1, k2, k3, k4, k5⟩ := HA2'.out))
    | (go_at_call 17; go_must (refine (HA2.out _ HB2'.out).mono ?_; rintro e w3 ⟨v3, rfl, ho3, hb3⟩; obtain ⟨A3, c3, e3, hm3, hr3⟩ := Kd.R_reads ho3; subst e3; have HL3 := Aside0.mk hr3; have HM3 := Aside0.mk hm3; have HL23 := Aside0.mk (Kd.C_below HL2.out hb3); have HSM := Aside0.mk (same18_calls L L A2 c2 A3 c3 w3 HL23.out hr3 HMB.out HMB.out); rw [sameS_self] at HSM; have HA3' := Aside0.mk (HA2'.out.below hb3); have HB3' := Aside0.mk (HB2'.out.trans (hb3.mono HB2'.out.size)); clear ho3 hr3 hm3 hb3 k0 k1 k2 k3 k4 k5; obtain ⟨_, k0, k1, k2, k3, k4, k5⟩ := HA3'.out))
    | (go_at_call 18; go_must (refine HSM.out.mono ?_; rintro e w4 ⟨rfl, hb4⟩; have HL24 := Aside0.mk (Kd.C_below HL23.out hb4); have HL34 := Aside0.mk (Kd.C_below HL3.out hb4); have HA4' := Aside0.mk (HA3'.out.below hb4); have HB4' := Aside0.mk (HB3'.out.trans (hb4.mono HB3'.out.size)); clear hb4 k0 k1 k2 k3 k4 k5; obtain ⟨_, k0, k1, k2, k3, k4, k5⟩ := HA4'.out)))
  refine (HTL1.out _ _ _ HB4'.out HL24.out).mono ?_
  rintro e w5 ⟨Ai, ci, Af, cf, rfl, tp5, hb5⟩
  have HA5 := Aside0.mk (HA4'.out.below hb5)
  have HB5 := Aside0.mk (HB4'.out.trans (hb5.mono HB4'.out.size))
  have HL35 := Aside0.mk (Kd.C_below HL34.out hb5)
  have HP5 := Aside0.mk tp5
  clear tp5 hb5 k0 k1 k2 k3 k4 k5
  have ka := fun o => HA5.out.below ((Below.refl _ _).alloc (Nat.le_refl _) o)
  have k0 := fun o => (ka o).k0
  have k1 := fun o => (ka o).k1
  have k2 := fun o => (ka o).k2
  have k3 := fun o => (ka o).k3
  have k4 := fun o => (ka o).k4
  have k5 := fun o => (ka o).k5
  clear ka
  go_wp2_with fail
  obtain ⟨w6, hw6⟩ : ∃ w6, w6 = w5.alloc (.cells #[.int .i64 r1.1.bad, .slice Ai r1.1.init.length ci, .slice Af r1.1.frames.length cf] 30) := ⟨_, rfl⟩
  have hb56 : Below w5.heap.size w5 w6 := by rw [hw6]; exact (Below.refl _ _).alloc (Nat.le_refl _) _
  have hg1 : w6.heap[w5.heap.size]? = some (.cells #[.int .i64 r1.1.bad, .slice Ai r1.1.init.length ci, .slice Af r1.1.frames.length cf] 30 (0, 0)) := by rw [hw6]; exact heap_alloc_at _ _
  rw [← hw6]
  obtain ⟨g1, hge1⟩ : ∃ g1, g1 = w5.heap.size := ⟨_, rfl⟩
  rw [← hge1] at hg1 ⊢
  have HG1 : Aside0 (w.heap.size ≤ g1 ∧ w.heap.size < g1) := ⟨by have := HB5.out.size; have := HA5.out.lt; omega⟩
  have HA6 := Aside0.mk (HA5.out.below hb56)
  have HB6 := Aside0.mk (HB5.out.trans (hb56.mono HB5.out.size))
  have HL36 := Aside0.mk (Kd.C_below HL35.out hb56)
  have HP6 := Aside0.mk (HP5.out.below hb56)
  have HC6 := Aside0.mk hg1
  clear hw6 hb56 hg1 hge1 k0 k1 k2 k3 k4 k5
  refine (HTL2.out _ _ _ HB6.out HM3.out HL36.out).mono ?_
  rintro e w7 ⟨Bi, di, Bf, df, rfl, tp7, hb7⟩
  have HA7 := Aside0.mk (HA6.out.below hb7)
  have HB7 := Aside0.mk (HB6.out.trans (hb7.mono HB6.out.size))
  have HP7 := Aside0.mk (HP6.out.below hb7)
  have HQ7 := Aside0.mk tp7
  have HC7 := Aside0.mk (blk_below HC6.out hb7)
  clear tp7 hb7
  have t0 := fun o => cell_blk (blk_below HC7.out ((Below.refl _ _).alloc (Nat.le_refl _) o)) 0 _ rfl
  have t1 := fun o => cell_blk (blk_below HC7.out ((Below.refl _ _).alloc (Nat.le_refl _) o)) 1 _ rfl
  have t2 := fun o => cell_blk (blk_below HC7.out ((Below.refl _ _).alloc (Nat.le_refl _) o)) 2 _ rfl
  go_wp2_with fail
  obtain ⟨w8, hw8⟩ : ∃ w8, w8 = w7.alloc (.cells #[.int .i64 r1.1.bad, .slice Bi r1.1.init.length di, .slice Bf r1.1.frames.length df] 30) := ⟨_, rfl⟩
  have hb78 : Below w7.heap.size w7 w8 := by rw [hw8]; exact (Below.refl _ _).alloc (Nat.le_refl _) _
  have hg2 : w8.heap[w7.heap.size]? = some (.cells #[.int .i64 r1.1.bad, .slice Bi r1.1.init.length di, .slice Bf r1.1.frames.length df] 30 (0, 0)) := by rw [hw8]; exact heap_alloc_at _ _
  rw [← hw8]
  obtain ⟨g2, hge2⟩ : ∃ g2, g2 = w7.heap.size := ⟨_, rfl⟩
  rw [← hge2] at hg2 ⊢
  have HG2 : Aside0 (g1 < g2 ∧ w.heap.size ≤ g2) := ⟨by have := (Array.getElem?_eq_some_iff.1 HC7.out).1; have := HG1.out; omega⟩
  have HA8 := Aside0.mk (HA7.out.below hb78)
  have HB8 := Aside0.mk (HB7.out.trans (hb78.mono HB7.out.size))
  have HC8 := Aside0.mk (blk_below HC7.out hb78)
  have HD8 := Aside0.mk hg2
  have HST := Aside0.mk (samet_calls r1.1 Ai ci Af cf Bi di Bf df w8 (HP7.out.below hb78).now (HQ7.out.below hb78).now)
  clear hw8 hb78 hg2 hge2 t0 t1 t2
  refine HST.out.mono ?_
  rintro e w9 ⟨rfl, hb9⟩
  have HA9 := Aside0.mk (HA8.out.below hb9)
  have HB9 := Aside0.mk (HB8.out.trans (hb9.mono HB8.out.size))
  have HC9 := Aside0.mk (blk_below HC8.out hb9)
  have HD9 := Aside0.mk (blk_below HD8.out hb9)
  clear hb9 HST
  obtain ⟨_, k0, k1, k2, k3, k4, k5⟩ := HA9.out
  go_wp2_with fail
  refine (HTO1.out _ HB9.out).mono ?_
  rintro e w10 ⟨Ci, ei, Cf, ef, rfl, tp10, hb10⟩
  have HA10 := Aside0.mk (HA9.out.below hb10)
  have HB10 := Aside0.mk (HB9.out.trans (hb10.mono HB9.out.size))
  have HC10 := Aside0.mk (blk_below HC9.out hb10)
  have HD10 := Aside0.mk (blk_below HD9.out hb10)
  have HN10 : Aside0 (g1 < w9.heap.size ∧ g2 < w9.heap.size) := ⟨(Array.getElem?_eq_some_iff.1 HC9.out).1, (Array.getElem?_eq_some_iff.1 HD9.out).1⟩
  obtain ⟨w11, hw11⟩ : ∃ w11, w11 = (((w10.setCell ⟨g1, 0, none⟩ (.int .i64 r2.1.bad)).setCell ⟨g1, 1, none⟩ (.slice Ci r2.1.init.length ei)).setCell ⟨g1, 2, none⟩ (.slice Cf r2.1.frames.length ef)) := ⟨_, rfl⟩
  have hk11 : KeepT [30] w10 w11 := by rw [hw11]; exact trace_keep HC10.out _ _ _
  have hA11 : x.At w11 w.heap.size := HA10.out.keep (by decide) hk11
  have hC11 : w11.heap[g1]? = some (.cells #[.int .i64 r2.1.bad, .slice Ci r2.1.init.length ei, .slice Cf r2.1.frames.length ef] 30 (0, 0)) := by rw [hw11]; exact trace_put HC10.out _ _ _
  have hne : g2 ≠ g1 := by have := HG2.out; omega
  have hD11 : w11.heap[g2]? = some (.cells #[.int .i64 r1.1.bad, .slice Bi r1.1.init.length di, .slice Bf r1.1.frames.length df] 30 (0, 0)) := by
    rw [hw11]
    exact (Below.heap_setCell _ _ _ g2 hne).trans ((Below.heap_setCell _ _ _ g2 hne).trans ((Below.heap_setCell _ _ _ g2 hne).trans HD10.out))
  have hB11 : Below w.heap.size w w11 := by
    rw [hw11]
    exact ((HB10.out.setCell (p := ⟨g1, 0, none⟩) HG1.out.1 _).setCell (p := ⟨g1, 1, none⟩) HG1.out.1 _).setCell (p := ⟨g1, 2, none⟩) HG1.out.1 _
  have hP11 : TrP r2.1 w11 w.heap.size w9.heap.size Ci ei Cf ef := by rw [hw11]; exact tp10.set HG1.out.1 HN10.out.1 _ _ _
  have HA11 := Aside0.mk hA11
  have HB11 := Aside0.mk hB11
  have HC11 := Aside0.mk hC11
  have HD11 := Aside0.mk hD11
  have HP11 := Aside0.mk hP11
  have HW11 := Aside0.mk hw11
  rw [hw11] at hA11
  obtain ⟨_, q0, q1, q2, q3, q4, q5⟩ := hA11
  have t0 := cell_blk HC10.out 0 _ rfl
  have t1 := cell_blk HC10.out 1 _ rfl
  have t2 := cell_blk HC10.out 2 _ rfl
  have f0 := blk_frozen HC10.out 0
  have f1 := blk_frozen HC10.out 1
  have f2 := blk_frozen HC10.out 2
  clear hw11 hk11 hC11 hne hD11 hB11 hP11 tp10 hb10 k0 k1 k2 k3 k4 k5
  go_wp2_with fail
  rw [← HW11.out]
  refine (HTO2.out _ HB11.out).mono ?_
  rintro e w12 ⟨Di, fi, Df, ff, rfl, tp12, hb12⟩
  have HA12 := Aside0.mk (HA11.out.below hb12)
  have HB12 := Aside0.mk (HB11.out.trans (hb12.mono HB11.out.size))
  have HC12 := Aside0.mk (blk_below HC11.out hb12)
  have HD12 := Aside0.mk (blk_below HD11.out hb12)
  have HP12 := Aside0.mk (HP11.out.below hb12)
  have HN12 : Aside0 (g1 < w11.heap.size ∧ g2 < w11.heap.size) := ⟨(Array.getElem?_eq_some_iff.1 HC11.out).1, (Array.getElem?_eq_some_iff.1 HD11.out).1⟩
  obtain ⟨w13, hw13⟩ : ∃ w13, w13 = (((w12.setCell ⟨g2, 0, none⟩ (.int .i64 r2.1.bad)).setCell ⟨g2, 1, none⟩ (.slice Di r2.1.init.length fi)).setCell ⟨g2, 2, none⟩ (.slice Df r2.1.frames.length ff)) := ⟨_, rfl⟩
  have hk13 : KeepT [30] w12 w13 := by rw [hw13]; exact trace_keep HD12.out _ _ _
  have hA13 : x.At w13 w.heap.size := HA12.out.keep (by decide) hk13
  have hD13 : w13.heap[g2]? = some (.cells #[.int .i64 r2.1.bad, .slice Di r2.1.init.length fi, .slice Df r2.1.frames.length ff] 30 (0, 0)) := by rw [hw13]; exact trace_put HD12.out _ _ _
  have hne : g1 ≠ g2 := by have := HG2.out; omega
  have hC13 : w13.heap[g1]? = some (.cells #[.int .i64 r2.1.bad, .slice Ci r2.1.init.length ei, .slice Cf r2.1.frames.length ef] 30 (0, 0)) := by
    rw [hw13]
    exact (Below.heap_setCell _ _ _ g1 hne).trans ((Below.heap_setCell _ _ _ g1 hne).trans ((Below.heap_setCell _ _ _ g1 hne).trans HC12.out))
  have hB13 : Below w.heap.size w w13 := by
    rw [hw13]
    exact ((HB12.out.setCell (p := ⟨g2, 0, none⟩) HG2.out.2 _).setCell (p := ⟨g2, 1, none⟩) HG2.out.2 _).setCell (p := ⟨g2, 2, none⟩) HG2.out.2 _
  have hP13 : TrP r2.1 w13 w.heap.size w9.heap.size Ci ei Cf ef := by rw [hw13]; exact HP12.out.set HG2.out.2 HN10.out.2 _ _ _
  have hQ13 : TrP r2.1 w13 w.heap.size w11.heap.size Di fi Df ff := by rw [hw13]; exact tp12.set HG2.out.2 HN12.out.2 _ _ _
  have HA13 := Aside0.mk hA13
  have HB13 := Aside0.mk hB13
  have HC13 := Aside0.mk hC13
  have HD13 := Aside0.mk hD13
  have HST := Aside0.mk (samet_calls r2.1 Ci ei Cf ef Di fi Df ff w13 hP13.now hQ13.now)
  have HW13 := Aside0.mk hw13
  rw [hw13] at hC13 hD13
  have u0 := cell_blk hC13 0 _ rfl
  have u1 := cell_blk hC13 1 _ rfl
  have u2 := cell_blk hC13 2 _ rfl
  have v0 := cell_blk hD13 0 _ rfl
  have v1 := cell_blk hD13 1 _ rfl
  have v2 := cell_blk hD13 2 _ rfl
  clear t0 t1 t2 f0 f1 f2 q0 q1 q2 q3 q4 q5
  have t0 := cell_blk HD12.out 0 _ rfl
  have t1 := cell_blk HD12.out 1 _ rfl
  have t2 := cell_blk HD12.out 2 _ rfl
  have f0 := blk_frozen HD12.out 0
  have f1 := blk_frozen HD12.out 1
  have f2 := blk_frozen HD12.out 2
  clear hw13 hk13 hA13 hC13 hD13 hne hB13 hP13 hQ13 tp12 hb12
  go_wp2_with fail
  rw [← HW13.out]
  clear t0 t1 t2 f0 f1 f2 u0 u1 u2 v0 v1 v2
  refine HST.out.mono ?_
  rintro e w14 ⟨rfl, hb14⟩
  have HA14 := Aside0.mk (HA13.out.below hb14)
  have HB14 := Aside0.mk (HB13.out.trans (hb14.mono HB13.out.size))
  have HC14 := Aside0.mk (blk_below HC13.out hb14)
  have HD14 := Aside0.mk (blk_below HD13.out hb14)
  clear hb14 HST
  obtain ⟨_, k0, k1, k2, k3, k4, k5⟩ := HA14.out
  go_wp2_with fail
  refine (HB1.out _ HB14.out).mono ?_
  rintro e w15 ⟨Ei, hi, Ef, hf, rfl, tp15, hb15⟩
  have HA15 := Aside0.mk (HA14.out.below hb15)
  have HB15 := Aside0.mk (HB14.out.trans (hb15.mono HB14.out.size))
  have HC15 := Aside0.mk (blk_below HC14.out hb15)
  have HD15 := Aside0.mk (blk_below HD14.out hb15)
  have HN15 : Aside0 (g1 < w14.heap.size ∧ g2 < w14.heap.size) := ⟨(Array.getElem?_eq_some_iff.1 HC14.out).1, (Array.getElem?_eq_some_iff.1 HD14.out).1⟩
  obtain ⟨w16, hw16⟩ : ∃ w16, w16 = (((w15.setCell ⟨g1, 0, none⟩ (.int .i64 rb.1.bad)).setCell ⟨g1, 1, none⟩ (.slice Ei rb.1.init.length hi)).setCell ⟨g1, 2, none⟩ (.slice Ef rb.1.frames.length hf)) := ⟨_, rfl⟩
  have hk16 : KeepT [30] w15 w16 := by rw [hw16]; exact trace_keep HC15.out _ _ _
  have hA16 : x.At w16 w.heap.size := HA15.out.keep (by decide) hk16
  have hC16 : w16.heap[g1]? = some (.cells #[.int .i64 rb.1.bad, .slice Ei rb.1.init.length hi, .slice Ef rb.1.frames.length hf] 30 (0, 0)) := by rw [hw16]; exact trace_put HC15.out _ _ _
  have hne : g2 ≠ g1 := by have := HG2.out; omega
  have hD16 : w16.heap[g2]? = some (.cells #[.int .i64 r2.1.bad, .slice Di r2.1.init.length fi, .slice Df r2.1.frames.length ff] 30 (0, 0)) := by
    rw [hw16]
    exact (Below.heap_setCell _ _ _ g2 hne).trans ((Below.heap_setCell _ _ _ g2 hne).trans ((Below.heap_setCell _ _ _ g2 hne).trans HD15.out))
  have hB16 : Below w.heap.size w w16 := by
    rw [hw16]
    exact ((HB15.out.setCell (p := ⟨g1, 0, none⟩) HG1.out.1 _).setCell (p := ⟨g1, 1, none⟩) HG1.out.1 _).setCell (p := ⟨g1, 2, none⟩) HG1.out.1 _
  have hP16 : TrP rb.1 w16 w.heap.size w14.heap.size Ei hi Ef hf := by rw [hw16]; exact tp15.set HG1.out.1 HN15.out.1 _ _ _
  have HA16 := Aside0.mk hA16
  have HB16 := Aside0.mk hB16
  have HC16 := Aside0.mk hC16
  have HD16 := Aside0.mk hD16
  have HP16 := Aside0.mk hP16
  have HW16 := Aside0.mk hw16
  rw [hw16] at hA16
  obtain ⟨_, q0, q1, q2, q3, q4, q5⟩ := hA16
  have t0 := cell_blk HC15.out 0 _ rfl
  have t1 := cell_blk HC15.out 1 _ rfl
  have t2 := cell_blk HC15.out 2 _ rfl
  have f0 := blk_frozen HC15.out 0
  have f1 := blk_frozen HC15.out 1
  have f2 := blk_frozen HC15.out 2
  clear hw16 hk16 hC16 hne hD16 hB16 hP16 tp15 hb15 k0 k1 k2 k3 k4 k5
  go_wp2_with fail
  rw [← HW16.out]
  clear t0 t1 t2 f0 f1 f2 q0 q1 q2 q3 q4 q5
  refine (HB2.out _ HB16.out).mono ?_
  rintro e w17 ⟨Fi, li, Ff, lf, rfl, tp17, hb17⟩
  have HA17 := Aside0.mk (HA16.out.below hb17)
  have HB17 := Aside0.mk (HB16.out.trans (hb17.mono HB16.out.size))
  have HC17 := Aside0.mk (blk_below HC16.out hb17)
  have HD17 := Aside0.mk (blk_below HD16.out hb17)
  have HP17 := Aside0.mk (HP16.out.below hb17)
  have HN17 : Aside0 (g1 < w16.heap.size ∧ g2 < w16.heap.size) := ⟨(Array.getElem?_eq_some_iff.1 HC16.out).1, (Array.getElem?_eq_some_iff.1 HD16.out).1⟩
  obtain ⟨w18, hw18⟩ : ∃ w18, w18 = (((w17.setCell ⟨g2, 0, none⟩ (.int .i64 rb.1.bad)).setCell ⟨g2, 1, none⟩ (.slice Fi rb.1.init.length li)).setCell ⟨g2, 2, none⟩ (.slice Ff rb.1.frames.length lf)) := ⟨_, rfl⟩
  have hk18 : KeepT [30] w17 w18 := by rw [hw18]; exact trace_keep HD17.out _ _ _
  have hA18 : x.At w18 w.heap.size := HA17.out.keep (by decide) hk18
  have hD18 : w18.heap[g2]? = some (.cells #[.int .i64 rb.1.bad, .slice Fi rb.1.init.length li, .slice Ff rb.1.frames.length lf] 30 (0, 0)) := by rw [hw18]; exact trace_put HD17.out _ _ _
  have hne : g1 ≠ g2 := by have := HG2.out; omega
  have hC18 : w18.heap[g1]? = some (.cells #[.int .i64 rb.1.bad, .slice Ei rb.1.init.length hi, .slice Ef rb.1.frames.length hf] 30 (0, 0)) := by
    rw [hw18]
    exact (Below.heap_setCell _ _ _ g1 hne).trans ((Below.heap_setCell _ _ _ g1 hne).trans ((Below.heap_setCell _ _ _ g1 hne).trans HC17.out))
  have hB18 : Below w.heap.size w w18 := by
    rw [hw18]
    exact ((HB17.out.setCell (p := ⟨g2, 0, none⟩) HG2.out.2 _).setCell (p := ⟨g2, 1, none⟩) HG2.out.2 _).setCell (p := ⟨g2, 2, none⟩) HG2.out.2 _
  have hP18 : TrP rb.1 w18 w.heap.size w14.heap.size Ei hi Ef hf := by rw [hw18]; exact HP17.out.set HG2.out.2 HN15.out.2 _ _ _
  have hQ18 : TrP rb.1 w18 w.heap.size w16.heap.size Fi li Ff lf := by rw [hw18]; exact tp17.set HG2.out.2 HN17.out.2 _ _ _
  have HA18 := Aside0.mk hA18
  have HB18 := Aside0.mk hB18
  have HC18 := Aside0.mk hC18
  have HD18 := Aside0.mk hD18
  have HP18 := Aside0.mk hP18
  have HQ18 := Aside0.mk hQ18
  have HW18 := Aside0.mk hw18
  rw [hw18] at hA18
  obtain ⟨_, q0, q1, q2, q3, q4, q5⟩ := hA18
  have t0 := cell_blk HD17.out 0 _ rfl
  have t1 := cell_blk HD17.out 1 _ rfl
  have t2 := cell_blk HD17.out 2 _ rfl
  have f0 := blk_frozen HD17.out 0
  have f1 := blk_frozen HD17.out 1
  have f2 := blk_frozen HD17.out 2
  clear hw18 hk18 hC18 hD18 hne hB18 hP18 hQ18 tp17 hb17
  go_wp2_with fail
  rw [← HW18.out]
  clear t0 t1 t2 f0 f1 f2 q0 q1 q2 q3 q4 q5
  refine (HR1.out _ HB18.out).mono ?_
  rintro e w19 ⟨rfl, hb19⟩
  have HA19 := Aside0.mk (HA18.out.below hb19)
  have HB19 := Aside0.mk (HB18.out.trans (hb19.mono HB18.out.size))
  have HC19 := Aside0.mk (blk_below HC18.out hb19)
  have HD19 := Aside0.mk (blk_below HD18.out hb19)
  have HP19 := Aside0.mk (HP18.out.below hb19)
  have HQ19 := Aside0.mk (HQ18.out.below hb19)
  clear hb19
  obtain ⟨_, k0, k1, k2, k3, k4, k5⟩ := HA19.out
  go_wp2_with fail
  refine (HR2.out _ HB19.out).mono ?_
  rintro e w20 ⟨rfl, hb20⟩
  have HB20 := Aside0.mk (HB19.out.trans (hb20.mono HB19.out.size))
  have HC20 := Aside0.mk (blk_below HC19.out hb20)
  have HD20 := Aside0.mk (blk_below HD19.out hb20)
  have HST := Aside0.mk (samet_calls rb.1 Ei hi Ef hf Fi li Ff lf w20 (HP19.out.below hb20).now (HQ19.out.below hb20).now)
  clear hb20 k0 k1 k2 k3 k4 k5
  have u0 := cell_blk HC20.out 0 _ rfl
  have u1 := cell_blk HC20.out 1 _ rfl
  have u2 := cell_blk HC20.out 2 _ rfl
  have v0 := cell_blk HD20.out 0 _ rfl
  have v1 := cell_blk HD20.out 1 _ rfl
  have v2 := cell_blk HD20.out 2 _ rfl
  go_wp2_with fail
  clear u0 u1 u2 v0 v1 v2
  refine HST.out.mono ?_
  rintro e w21 ⟨rfl, hb21⟩
  have HB21 := Aside0.mk (HB20.out.trans (hb21.mono HB20.out.size))
  clear hb21 HST
  go_wp2_with (go_at_call 9; go_must (refine (lives_calls _).mono ?_; rintro e w22 ⟨rfl, hb22⟩; have HB22 := Aside0.mk (HB21.out.trans (hb22.mono HB21.out.size)); clear hb22))
  go_ret
  exact ⟨rfl, HB22.out⟩
end Go.Proofs.Ytdjhjgfjhicbfaa.PWalkTells
namespace Go.Proofs.Ytdjhjgfjhicbfaa.PWalkTells
open Go.RowKit Go.Shelf Go.Maps Go.Proofs.YtdjhjgfjhicbfaaW.PrintWords Go.Proofs.YtdjhjgfjhicbfaaW.PrintLast Go.Proofs.YtdjhjgfjhicbfaaW.PrintMore
set_option linter.unusedVariables false
set_option linter.unusedSimpArgs false
set_option maxHeartbeats 4000000 in
set_option maxRecDepth 100000 in
theorem law_walk (x : CP) (at_ i : Int) (Al : Option Addr) (cl : Nat) (last : List Int) (Ao : Option Addr) (co : Nat) (odd : List S43) (w : World) (ok : x.Ok w) (fit : x.Fit) (hcl : last.length ≤ cl) (hrl : Kd.C (Kd.int .u8) w Al last.length last) (hco : odd.length ≤ co) (hro : Kd.C k43 w Ao odd.length odd) (hob : ∀ s ∈ odd, s.Bytes) :
    Calls Try.prog 5 #[.agg #[.int .i64 x.a0, .slice x.A1 x.l1.length x.c1, .slice x.A2 x.l2.length x.c2, .slice x.A3 x.l3.length x.c3, .slice x.A4 x.l4.length x.c4, .slice x.A5 x.l5.length x.c5], .int .i64 at_, .int .i64 i, .slice Al last.length cl, .slice Ao odd.length co] w fun e w' => e = .returned (.bool true) ∧ Below w.heap.size w w' := by
  have hb0 : Below w.heap.size w (w.alloc (.cells #[.int .i64 x.a0, .slice x.A1 x.l1.length x.c1, .slice x.A2 x.l2.length x.c2, .slice x.A3 x.l3.length x.c3, .slice x.A4 x.l4.length x.c4, .slice x.A5 x.l5.length x.c5] 26)) := (Below.refl _ _).alloc (Nat.le_refl _) _
  have HAT := Aside0.mk (CP.at_alloc x w)
  have HB := Aside0.mk hb0
  have okb := ok.below hb0
  have hol : odd.length ≤ 9223372036854775807 := hro.2.1
  have HG := Aside0.mk (inquestlaw27_great.calls x.a0 x.A1 x.c1 x.l1 x.A2 x.c2 x.l2 x.A3 x.c3 x.l3 x.A4 x.c4 x.l4 x.A5 x.c5 x.l5 x.great _ okb.r1 okb.m1 okb.r2 okb.m2 okb.r3 okb.m3 okb.r4 okb.m4 okb.r5 okb.m5 (great_ref x))
  cases hgr : x.great
  · by_cases hod : odd.length ≤ 300
    · exact law_big x at_ i Al cl last Ao co odd w ok fit hcl hrl hco hro hob hgr hod
    · rw [hgr] at HG
      have hod2 : decide ((300 : Int) < (odd.length : Int)) = true := decide_eq_true (by omega)
      obtain ⟨_, k0, k1, k2, k3, k4, k5⟩ := HAT.out
      clear hb0 ok fit okb hrl hro hob hgr hcl hco
      go_enter Try.func5, Try.ntmps5
      go_wp2_with (first
        | (go_at_call 7; go_must (refine HG.out.mono ?_; rintro e w1 ⟨rfl, hb1⟩; have HB1 := Aside0.mk (HB.out.trans (hb1.mono HB.out.size)); clear hb1))
        | (go_at_call 9; go_must (refine (lives_calls _).mono ?_; rintro e w2 ⟨rfl, hb2⟩; have HB2 := Aside0.mk (HB1.out.trans (hb2.mono HB1.out.size)); clear hb2)))
      go_ret
      exact ⟨rfl, HB2.out⟩
  · rw [hgr] at HG
    obtain ⟨_, k0, k1, k2, k3, k4, k5⟩ := HAT.out
    clear hb0 ok fit okb hrl hro hob hgr hcl hco
    go_enter Try.func5, Try.ntmps5
    go_wp2_with (first
      | (go_at_call 7; go_must (refine HG.out.mono ?_; rintro e w1 ⟨rfl, hb1⟩; have HB1 := Aside0.mk (HB.out.trans (hb1.mono HB.out.size)); clear hb1))
      | (go_at_call 9; go_must (refine (lives_calls _).mono ?_; rintro e w2 ⟨rfl, hb2⟩; have HB2 := Aside0.mk (HB1.out.trans (hb2.mono HB1.out.size)); clear hb2)))
    go_ret
    exact ⟨rfl, HB2.out⟩
end Go.Proofs.Ytdjhjgfjhicbfaa.PWalkTells
