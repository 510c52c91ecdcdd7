/- A part of the proof of WalkRunsSaid: contracts of functions and plain lemmas; each holds under the hypotheses that it names. -/
import Derived.Test.YtdjhjgfjhicbfaaRunsGk
import Derived.Test.YtdjhjgfjhicbfaaPWalkRunsx
import Derived.BigQuiet
import Derived.Laws.Strings
import Derived.Deep.RegionHeld3
namespace Go.Proofs.Ytdjhjgfjhicbfaa.PWalkRuns
open Go.RowKit Go.Shelf Go.Maps Go.Proofs.YtdjhjgfjhicbfaaW.PrintWords Go.Proofs.YtdjhjgfjhicbfaaW.PrintLast Go.Proofs.YtdjhjgfjhicbfaaW.PrintMore
set_option linter.unusedVariables false
set_option linter.unusedSimpArgs false
theorem frame7_calls (x : CP) (A1 A2 : Option Addr) (c1 c2 : Nat) (st inp : List Int) (w : World) (ok : x.Ok w) (fit : x.Fit) (hmay : x.may = true) (h1 : valuesS st (x.l1.length : Int) = true) (h2 : valuesS inp x.a0 = true)
    (hb1 : Bytes st) (hb2 : Bytes inp) (hn1 : st.length ≤ 17592186044416) (hn2 : inp.length ≤ 17592186044416) (hr1 : Kd.C (Kd.int .u8) w A1 st.length st) (hc1 : st.length ≤ c1) (hr2 : Kd.C (Kd.int .u8) w A2 inp.length inp) (hc2 : inp.length ≤ c2) :
    Calls Try.prog 16 #[.agg #[.int .i64 x.a0, .slice x.A1 x.l1.length x.c1, .slice x.A2 x.l2.length x.c2, .slice x.A3 x.l3.length x.c3, .slice x.A4 x.l4.length x.c4, .slice x.A5 x.l5.length x.c5], .slice A1 st.length c1, .slice A2 inp.length c2] w fun e w' => ∃ Av cv An cn,
      e = .returned (.tuple #[.slice Av (x.frameS st inp).length cv, .slice An (x.nextS (x.frameS st inp)).length cn, .int .i64 0]) ∧ (x.frameS st inp).length ≤ cv ∧ Kd.C (Kd.int .u8) w' Av (x.frameS st inp).length (x.frameS st inp) ∧
      (x.nextS (x.frameS st inp)).length ≤ cn ∧ Kd.C (Kd.int .u8) w' An (x.nextS (x.frameS st inp)).length (x.nextS (x.frameS st inp)) ∧ Below w.heap.size w w' := by
  refine (inquestref07_Frame.calls (x.mayK + st.length + inp.length + 4) x.a0 x.A1 x.c1 x.l1 x.A2 x.c2 x.l2 x.A3 x.c3 x.l3 x.A4 x.c4 x.l4 x.A5 x.c5 x.l5 A1 c1 st A2 c2 inp (x.frameS st inp) (x.nextS (x.frameS st inp)) 0 w ok.r1 ok.m1 ok.r2 ok.m2 ok.r3 ok.m3 ok.r4 ok.m4 ok.r5 ok.m5 hr1 hc1 hr2 hc2
    (frame_ref x fit st inp hmay h1 h2 hb1 hb2 hn1 hn2 _ (Nat.le_refl _))).mono ?_
  rintro e w' ⟨v0, v1, rfl, g0, g1, hb⟩
  obtain ⟨Av, cv, rfl, m0, r0⟩ := Kd.R_reads g0
  obtain ⟨An, cn, rfl, m1, r1⟩ := Kd.R_reads g1
  exact ⟨Av, cv, An, cn, rfl, m0, r0, m1, r1, hb⟩
theorem held27_calls (x : CP) (A1 : Option Addr) (c1 : Nat) (V : List Int) (w : World) (ok : x.Ok w) (fit : x.Fit) (hb : Bytes V) (hr1 : Kd.C (Kd.int .u8) w A1 V.length V) (hc1 : V.length ≤ c1) :
    Calls Try.prog 14 #[.agg #[.int .i64 x.a0, .slice x.A1 x.l1.length x.c1, .slice x.A2 x.l2.length x.c2, .slice x.A3 x.l3.length x.c3, .slice x.A4 x.l4.length x.c4, .slice x.A5 x.l5.length x.c5], .slice A1 V.length c1] w fun e w' => e = .returned (.bool (x.heldS V)) ∧ Below w.heap.size w w' :=
  inquestref27_Held.calls (x.l5.length + 2) x.a0 x.A1 x.c1 x.l1 x.A2 x.c2 x.l2 x.A3 x.c3 x.l3 x.A4 x.c4 x.l4 x.A5 x.c5 x.l5 A1 c1 V (x.heldS V) w ok.r1 ok.m1 ok.r2 ok.m2 ok.r3 ok.m3 ok.r4 ok.m4 ok.r5 ok.m5 hr1 hc1 (held_ref x fit V hb _ (by omega))
theorem beq_nums {s t : List Int} (hs : Bytes s) (ht : Bytes t) : ((strOfNums s).toList == (strOfNums t).toList) = decide (s = t) := by
  by_cases h : s = t
  · subst h; simp
  · rw [decide_eq_false h]
    have : (strOfNums s).toList ≠ (strOfNums t).toList := fun e => h (strOf_inj hs ht (by
      rw [ByteArray.toList_eq, ByteArray.toList_eq] at e
      exact e))
    simpa using this
theorem bytes_calls (A0 : Option Addr) (c0 : Nat) (l0 : List Int) (A1 : Option Addr) (c1 : Nat) (l1 : List Int) (w : World) (hr0 : Kd.C (Kd.int .u8) w A0 l0.length l0) (hc0 : l0.length ≤ c0) (hr1 : Kd.C (Kd.int .u8) w A1 l1.length l1) (hc1 : l1.length ≤ c1) (h0 : Bytes l0) (h1 : Bytes l1) :
    Calls Try.prog 13 #[.slice A0 l0.length c0, .slice A1 l1.length c1] w fun e w' => e = .returned (.bool (decide (l0 = l1))) ∧ Drawn0 w w' :=
  inquestref00_Bytes.calls A0 c0 l0 A1 c1 l1 _ w hr0 hc0 hr1 hc1 (by unfold inquestref00_Bytes.f; rw [beq_nums h0 h1])
def inpTo (l : List Int) (m i : Nat) : List Int := (List.range i).map (fun j => if j < l.length then l.getD j 0 % 2 else 0) ++ List.replicate (m - i) 0
def inpS (l : List Int) (m : Nat) : List Int := (List.range m).map (fun j => if j < l.length then l.getD j 0 % 2 else 0)
theorem inpTo_zero (l : List Int) (m : Nat) : inpTo l m 0 = List.replicate m 0 := by simp [inpTo]
theorem inpTo_full (l : List Int) (m : Nat) : inpTo l m m = inpS l m := by simp [inpTo, inpS]
theorem inpS_length (l : List Int) (m : Nat) : (inpS l m).length = m := by simp [inpS]
theorem inpTo_length (l : List Int) (m i : Nat) (h : i ≤ m) : (inpTo l m i).length = m := by simp [inpTo]; omega
theorem inpS_bit (l : List Int) (m : Nat) : ∀ v ∈ inpS l m, v = 0 ∨ v = 1 := by
  intro v hv
  obtain ⟨i, _, rfl⟩ := List.mem_map.1 hv
  split <;> omega
theorem inpTo_set (l : List Int) (m i : Nat) (h : i < m) (hi : i < l.length) : (inpTo l m i).set i (l.getD i 0 % 2) = inpTo l m (i + 1) := by
  unfold inpTo
  rw [List.set_append_right _ _ (by simp), List.length_map, List.length_range, Nat.sub_self]
  have : List.replicate (m - i) (0 : Int) = 0 :: List.replicate (m - (i + 1)) 0 := by
    rw [show m - i = (m - (i + 1)) + 1 by omega, List.replicate_succ]
  rw [this, List.set_cons_zero, List.range_succ]
  simp [hi]
theorem inpTo_skip (l : List Int) (m i : Nat) (h : i < m) (hi : ¬ i < l.length) : inpTo l m i = inpTo l m (i + 1) := by
  unfold inpTo
  have : List.replicate (m - i) (0 : Int) = 0 :: List.replicate (m - (i + 1)) 0 := by
    rw [show m - i = (m - (i + 1)) + 1 by omega, List.replicate_succ]
  rw [this, List.range_succ]
  simp [hi]
theorem values_bit {l : List Int} {n : Int} (h : (l.length : Int) = n) (hv : ∀ v ∈ l, 0 ≤ v ∧ v ≤ 2) : valuesS l n = true := by
  unfold valuesS
  rw [show ((l.length : Int) == n) = true from beq_iff_eq.2 h]
  simp only [Bool.true_and, Bool.not_eq_true', List.any_eq_false]
  intro v hm
  simp
  exact (hv v hm).2
theorem bytes_bit {l : List Int} (hv : ∀ v ∈ l, 0 ≤ v ∧ v ≤ 2) : Bytes l := fun v hm => by have := hv v hm; omega
end Go.Proofs.Ytdjhjgfjhicbfaa.PWalkRuns

namespace Go.Proofs.Ytdjhjgfjhicbfaa.PWalkRuns
open Go.RowKit Go.Shelf Go.Proofs.YtdjhjgfjhicbfaaW.PrintWords Go.Proofs.YtdjhjgfjhicbfaaW.PrintLast Go.Proofs.YtdjhjgfjhicbfaaW.PrintMore
set_option linter.unusedVariables false
set_option linter.unusedSimpArgs false
theorem vals_run (l : List Int) (n : Int) (hn : l.length ≤ 9223372036854775807) : ∀ (d k i : Nat), i + d = l.length → d < k → inquestref03_values.l0 k l n (i : Int) = some (((l.length : Int) == n) && !(l.drop i).any (fun v => decide (2 < v))) := by
  intro d
  induction d with
  | zero =>
    intro k i hi hk
    obtain ⟨k, rfl⟩ : ∃ k', k = k' + 1 := ⟨k - 1, by omega⟩
    rw [List.drop_eq_nil_of_le (by omega)]
    simp only [inquestref03_values.l0]
    rw [if_neg (by omega)]
    simp
  | succ d ih =>
    intro k i hi hk
    obtain ⟨k, rfl⟩ : ∃ k', k = k' + 1 := ⟨k - 1, by omega⟩
    have hlt : i < l.length := by omega
    have c1 : (i : Int) < (l.length : Int) := by omega
    have c2 : 0 ≤ (i : Int) := by omega
    have hih := ih k (i + 1) (by omega) (by omega)
    have e5 : (i : Int) + 1 = ((i + 1 : Nat) : Int) := by omega
    have w4 : wrap64 ((i : Int) + 1) = ((i + 1 : Nat) : Int) := (w64 (by omega) (by omega)).trans e5
    rw [List.drop_eq_getElem_cons hlt, inquestref03_values.l0, if_pos c1, if_pos c2, rd_get hlt, w4, List.any_cons]
    by_cases g1 : l[i] > 2
    · rw [if_pos g1, decide_eq_true g1]; simp
    · rw [if_neg g1, hih, decide_eq_false g1]; simp
theorem vals_ref (l : List Int) (n : Int) (hn : l.length ≤ 9223372036854775807) (k : Nat) (hk : l.length < k) : inquestref03_values.f k l n = some (valuesS l n) := by
  unfold inquestref03_values.f valuesS
  have := vals_run l n hn l.length k 0 (by omega) hk
  simpa using this
def resetOk : List S61 → List Int → Bool
  | s :: ss, v :: vs => (decide (s.f1 = 2) || decide (s.f1 = v)) && resetOk ss vs
  | _, _ => true
theorem resets_run (x : CP) (fit : x.Fit) (bad : Int) (init : List Int) (frames : List (List Int)) (hi : init.length = x.l1.length) : ∀ (d k i : Nat), i + d = init.length → d < k →
    inquestref03_Fits.l1 k (i : Int) x.a0 x.l1 x.l2 x.l3 x.l4 x.l5 bad init frames = some (resetOk (x.l1.drop i) (init.drop i)) := by
  have hn1 := fit.n1
  intro d
  induction d with
  | zero =>
    intro k i hi hk
    obtain ⟨k, rfl⟩ : ∃ k', k = k' + 1 := ⟨k - 1, by omega⟩
    rw [List.drop_eq_nil_of_le (show init.length ≤ i by omega)]
    simp only [inquestref03_Fits.l1]
    rw [if_neg (by omega)]
    cases x.l1.drop i <;> rfl
  | succ d ih =>
    intro k i hi' hk
    obtain ⟨k, rfl⟩ : ∃ k', k = k' + 1 := ⟨k - 1, by omega⟩
    have hlt : i < init.length := by omega
    have hlt1 : i < x.l1.length := by omega
    have hrd : rd_T61 x.l1 (i : Int) = x.l1[i] := by simp [rd_T61, List.getD_eq_getElem?_getD, hlt1]
    have c1 : (i : Int) < (init.length : Int) := by omega
    have c2 : 0 ≤ (i : Int) := by omega
    have c3 : (i : Int) < (x.l1.length : Int) := by omega
    have hih := ih k (i + 1) (by omega) (by omega)
    have e5 : (i : Int) + 1 = ((i + 1 : Nat) : Int) := by omega
    have w4 : wrap64 ((i : Int) + 1) = ((i + 1 : Nat) : Int) := (w64 (by omega) (by omega)).trans e5
    rw [List.drop_eq_getElem_cons hlt, List.drop_eq_getElem_cons hlt1, inquestref03_Fits.l1, if_pos c1, if_pos c2, if_pos c3, rd_get hlt, hrd, w4, hih]
    show _ = some ((decide (x.l1[i].f1 = 2) || decide (x.l1[i].f1 = init[i])) && resetOk (x.l1.drop (i + 1)) (init.drop (i + 1)))
    by_cases g1 : x.l1[i].f1 = 2
    · rw [if_pos g1, decide_eq_true g1]; simp
    · rw [if_neg g1, decide_eq_false g1]
      by_cases g2 : x.l1[i].f1 = init[i]
      · rw [if_pos g2, decide_eq_true g2]; simp
      · rw [if_neg g2, decide_eq_false g2]; simp
theorem rd_L4_get {l : List (List Int)} {i : Nat} (h : i < l.length) : rd_L4 l (i : Int) = l[i] := by simp [rd_L4, List.getD_eq_getElem?_getD, h]
theorem frames_run (x : CP) (fit : x.Fit) (bad : Int) (init : List Int) (frames : List (List Int)) (hi : init.length = x.l1.length) (M : Nat) (hM : ∀ f ∈ frames, f.length ≤ M) (hM2 : M ≤ 9223372036854775807) (hn : frames.length ≤ 9223372036854775807) : ∀ (d k i : Nat), i + d = frames.length → d + init.length + M + 1 < k →
    inquestref03_Fits.l0 k (i : Int) x.a0 x.l1 x.l2 x.l3 x.l4 x.l5 bad init frames = some ((frames.drop i).all (fun f => valuesS f x.a0) && resetOk x.l1 init) := by
  intro d
  induction d with
  | zero =>
    intro k i hi2 hk
    obtain ⟨k, rfl⟩ : ∃ k', k = k' + 1 := ⟨k - 1, by omega⟩
    rw [List.drop_eq_nil_of_le (show frames.length ≤ i by omega)]
    simp only [inquestref03_Fits.l0]
    rw [if_neg (by omega)]
    have := resets_run x fit bad init frames hi init.length k 0 (by omega) (by omega)
    simpa using this
  | succ d ih =>
    intro k i hi' hk
    obtain ⟨k, rfl⟩ : ∃ k', k = k' + 1 := ⟨k - 1, by omega⟩
    have hlt : i < frames.length := by omega
    have c1 : (i : Int) < (frames.length : Int) := by omega
    have c2 : 0 ≤ (i : Int) := by omega
    have hih := ih k (i + 1) (by omega) (by omega)
    have e5 : (i : Int) + 1 = ((i + 1 : Nat) : Int) := by omega
    have w4 : wrap64 ((i : Int) + 1) = ((i + 1 : Nat) : Int) := (w64 (by omega) (by omega)).trans e5
    have hm := hM frames[i] (List.getElem_mem hlt)
    rw [List.drop_eq_getElem_cons hlt, inquestref03_Fits.l0, if_pos c1, if_pos c2, rd_L4_get hlt, vals_ref _ _ (by omega) k (by omega), w4, hih, List.all_cons]
    simp only [Option.bind_some]
    cases valuesS frames[i] x.a0 <;> simp
def CP.fitsS (x : CP) (bad : Int) (init : List Int) (frames : List (List Int)) : Bool :=
  x.may && decide (0 ≤ bad) && decide (bad < (x.l4.length : Int)) && valuesS init (x.l1.length : Int) && decide (1 ≤ frames.length) && decide (frames.length ≤ 256) && (frames.all (fun f => valuesS f x.a0) && resetOk x.l1 init)
theorem fits_ref (x : CP) (fit : x.Fit) (bad : Int) (init : List Int) (frames : List (List Int)) (M : Nat) (hM : ∀ f ∈ frames, f.length ≤ M) (hM2 : M ≤ 9223372036854775807) (hn : frames.length ≤ 9223372036854775807) (hn2 : init.length ≤ 9223372036854775807) (k : Nat) (hk : x.mayK + init.length + frames.length + M + 4 ≤ k) :
    inquestref03_Fits.f k x.a0 x.l1 x.l2 x.l3 x.l4 x.l5 bad init frames = some (x.fitsS bad init frames) := by
  obtain ⟨k, rfl⟩ : ∃ k', k = k' + 1 := ⟨k - 1, by omega⟩
  have hmk : x.mayK = x.l1.length + x.l2.length + x.l3.length + x.l4.length + x.l5.length + 8 := rfl
  have hj : inquestref03_Fits.j0 (k + 1) true x.a0 x.l1 x.l2 x.l3 x.l4 x.l5 bad init frames = some false := by simp only [inquestref03_Fits.j0]; rw [if_pos trivial]
  unfold inquestref03_Fits.f CP.fitsS
  rw [may_ref x fit _ (by omega)]
  simp only [Option.bind_some]
  cases x.may
  · rw [if_neg (by simp), hj]; simp
  · rw [if_pos rfl]
    by_cases c1 : bad < 0
    · rw [if_pos c1, hj, decide_eq_false (show ¬ 0 ≤ bad by omega)]; simp
    · rw [if_neg c1, decide_eq_true (show 0 ≤ bad by omega)]
      by_cases c2 : bad ≥ (x.l4.length : Int)
      · rw [if_pos c2, hj, decide_eq_false (show ¬ bad < (x.l4.length : Int) by omega)]; simp
      · rw [if_neg c2, decide_eq_true (show bad < (x.l4.length : Int) by omega), vals_ref init _ (by omega) _ (by omega)]
        simp only [Option.bind_some]
        cases hv : valuesS init (x.l1.length : Int)
        · rw [if_neg (by simp), hj]; simp
        · rw [if_pos rfl]
          have hil : init.length = x.l1.length := by
            unfold valuesS at hv
            have := (Bool.and_eq_true_iff.1 hv).1
            have := eq_of_beq this
            omega
          by_cases c3 : (frames.length : Int) < 1
          · rw [if_pos c3, hj, decide_eq_false (show ¬ 1 ≤ frames.length by omega)]; simp
          · rw [if_neg c3, decide_eq_true (show 1 ≤ frames.length by omega)]
            by_cases c4 : frames.length ≤ 256
            · rw [decide_eq_true c4, decide_eq_false (show ¬ (frames.length : Int) > 256 by omega)]
              simp only [inquestref03_Fits.j0]
              rw [if_neg (by simp)]
              have := frames_run x fit bad init frames hil M hM hM2 hn frames.length k 0 (by omega) (by omega)
              simpa using this
            · rw [decide_eq_false c4, decide_eq_true (show (frames.length : Int) > 256 by omega), hj]; simp
def CP.runS (x : CP) : List Int → List (List Int) → List (List Int)
  | _, [] => []
  | st, f :: fs => x.frameS st f :: x.runS (x.nextS (x.frameS st f)) fs
theorem runS_length (x : CP) : ∀ (fs : List (List Int)) (st : List Int), (x.runS st fs).length = fs.length := by
  intro fs
  induction fs with
  | nil => intro st; rfl
  | cons f fs ih => intro st; simp [CP.runS, ih]
def CP.stateS (x : CP) (st : List Int) (fs : List (List Int)) : Nat → List Int
  | 0 => st
  | i + 1 => x.nextS (x.frameS (x.stateS st fs i) (fs.getD i []))
theorem stateS_cons (x : CP) (st f : List Int) (fs : List (List Int)) : ∀ i, x.stateS st (f :: fs) (i + 1) = x.stateS (x.nextS (x.frameS st f)) fs i := by
  intro i
  induction i with
  | zero => rfl
  | succ i ih =>
    show x.nextS (x.frameS (x.stateS st (f :: fs) (i + 1)) ((f :: fs).getD (i + 1) [])) = _
    rw [ih]
    rfl
theorem runS_get (x : CP) : ∀ (fs : List (List Int)) (st : List Int) (i : Nat) (h : i < (x.runS st fs).length), (x.runS st fs)[i] = x.frameS (x.stateS st fs i) (fs.getD i []) := by
  intro fs
  induction fs with
  | nil => intro st i h; simp [CP.runS] at h
  | cons f fs ih =>
    intro st i h
    cases i with
    | zero => rfl
    | succ i =>
      rw [stateS_cons]
      simp only [CP.runS, List.getElem_cons_succ]
      rw [ih]
      rfl
theorem vals_len {l : List Int} {n : Int} (h : valuesS l n = true) : (l.length : Int) = n := by
  unfold valuesS at h
  exact eq_of_beq (Bool.and_eq_true_iff.1 h).1
theorem vals_le {l : List Int} {n : Int} (h : valuesS l n = true) : ∀ v ∈ l, v ≤ 2 := by
  unfold valuesS at h
  have := (Bool.and_eq_true_iff.1 h).2
  simp at this
  exact this
theorem next_vals (x : CP) (V : List Int) (hb : Bytes V) : valuesS (x.nextS V) (x.l1.length : Int) = true ∧ Bytes (x.nextS V) :=
  ⟨values_bit (by simp [CP.nextS]) (nextS_range x V hb), bytes_bit (nextS_range x V hb)⟩
theorem run_run (x : CP) (fit : x.Fit) (hmay : x.may = true) (bad : Int) (init : List Int) (frames : List (List Int)) (hn : frames.length ≤ 256) (hf : ∀ f ∈ frames, valuesS f x.a0 = true ∧ Bytes f) (h0 : x.a0 ≤ 16384) : ∀ (d k i : Nat) (acc : List (List Int)) (st : List Int), i + d = frames.length → d + x.mayK + x.l1.length + x.a0.toNat + 5 ≤ k → acc.length = i →
    valuesS st (x.l1.length : Int) = true → Bytes st →
    inquestref07_Run.l0 k acc st (i : Int) x.a0 x.l1 x.l2 x.l3 x.l4 x.l5 bad init frames = some (acc ++ x.runS st (frames.drop i), 0) := by
  have hn1 := fit.n1
  intro d
  induction d with
  | zero =>
    intro k i acc st hi hk ha hv hb
    obtain ⟨k, rfl⟩ : ∃ k', k = k' + 1 := ⟨k - 1, by omega⟩
    rw [List.drop_eq_nil_of_le (by omega)]
    simp only [inquestref07_Run.l0]
    rw [if_neg (by omega)]
    simp [CP.runS]
  | succ d ih =>
    intro k i acc st hi hk ha hv hb
    obtain ⟨k, rfl⟩ : ∃ k', k = k' + 1 := ⟨k - 1, by omega⟩
    have hlt : i < frames.length := by omega
    obtain ⟨f1, f2⟩ := hf frames[i] (List.getElem_mem hlt)
    have c1 : (i : Int) < (frames.length : Int) := by omega
    have c2 : 0 ≤ (i : Int) := by omega
    have c3 : acc.length < 5864062014805 := by omega
    have l1 := vals_len hv
    have l2 := vals_len f1
    obtain ⟨n1, n2⟩ := next_vals x (x.frameS st frames[i]) (frameS_bytes x _ _ hb f2)
    have hih := ih k (i + 1) (acc ++ [x.frameS st frames[i]]) _ (by omega) (by omega) (by simp [ha]) n1 n2
    have e5 : (i : Int) + 1 = ((i + 1 : Nat) : Int) := by omega
    have w4 : wrap64 ((i : Int) + 1) = ((i + 1 : Nat) : Int) := (w64 (by omega) (by omega)).trans e5
    rw [List.drop_eq_getElem_cons hlt, inquestref07_Run.l0, if_pos c1, if_pos c2, rd_L4_get hlt, frame_ref x fit st frames[i] hmay hv f1 hb f2 (by omega) (by omega) k (by omega)]
    simp only [Option.bind_some, w4]
    rw [if_pos c3, hih, List.append_assoc]
    rfl
theorem run_ref (x : CP) (fit : x.Fit) (bad : Int) (init : List Int) (frames : List (List Int)) (hfits : x.fitsS bad init frames = true) (hb : Bytes init) (hf : ∀ f ∈ frames, Bytes f) (h0 : x.a0 ≤ 16384) (k : Nat) (hk : x.mayK + 2 * x.l1.length + 2 * x.a0.toNat + 300 ≤ k) :
    inquestref07_Run.f k x.a0 x.l1 x.l2 x.l3 x.l4 x.l5 bad init frames = some (x.runS init frames, 0) := by
  have hn1 := fit.n1
  have hF := hfits
  unfold CP.fitsS at hF
  simp only [Bool.and_eq_true, decide_eq_true_eq, List.all_eq_true] at hF
  obtain ⟨⟨⟨⟨⟨⟨g1, g2⟩, g3⟩, g4⟩, g5⟩, g6⟩, g7, g8⟩ := hF
  have l1 := vals_len g4
  unfold inquestref07_Run.f
  rw [fits_ref x fit bad init frames x.a0.toNat (fun f hf => by have := vals_len (g7 f hf); omega) (by omega) (by omega) (by omega) k (by omega), hfits]
  simp only [Option.bind_some]
  rw [if_pos trivial]
  have := run_run x fit g1 bad init frames g6 (fun f h => ⟨g7 f h, hf f h⟩) h0 frames.length k 0 [] init (by omega) (by omega) rfl g4 hb
  simpa using this
def zeroS (l : List Int) : List Int := l.map (fun v => if v = 2 then 0 else v)
theorem zeroS_length (l : List Int) : (zeroS l).length = l.length := by simp [zeroS]
theorem zero_run (l : List Int) (hn : l.length ≤ 140737488351232) : ∀ (d k i : Nat) (acc : List Int), i + d = l.length → d < k → acc.length = i → inquestref07_zeroed.l0 k l acc (i : Int) = some (acc ++ zeroS (l.drop i)) := by
  intro d
  induction d with
  | zero =>
    intro k i acc hi hk ha
    obtain ⟨k, rfl⟩ : ∃ k', k = k' + 1 := ⟨k - 1, by omega⟩
    rw [List.drop_eq_nil_of_le (by omega)]
    simp only [inquestref07_zeroed.l0]
    rw [if_neg (by omega)]
    simp [zeroS]
  | succ d ih =>
    intro k i acc hi hk ha
    obtain ⟨k, rfl⟩ : ∃ k', k = k' + 1 := ⟨k - 1, by omega⟩
    have hlt : i < l.length := by omega
    have c1 : (i : Int) < (l.length : Int) := by omega
    have c2 : 0 ≤ (i : Int) := by omega
    have c3 : acc.length < 140737488355328 := by omega
    have e5 : (i : Int) + 1 = ((i + 1 : Nat) : Int) := by omega
    have w4 : wrap64 ((i : Int) + 1) = ((i + 1 : Nat) : Int) := (w64 (by omega) (by omega)).trans e5
    have hz : zeroS (l.drop i) = (if l[i] = 2 then 0 else l[i]) :: zeroS (l.drop (i + 1)) := by rw [List.drop_eq_getElem_cons hlt]; rfl
    rw [hz, inquestref07_zeroed.l0, if_pos c1, if_pos c2, rd_get hlt, w4, if_pos c3, if_pos c3]
    by_cases g : l[i] = 2
    · rw [if_pos g, ih k (i + 1) (acc ++ [0]) (by omega) (by omega) (by simp [ha]), List.append_assoc, if_pos g]
      rfl
    · rw [if_neg g, ih k (i + 1) (acc ++ [l[i]]) (by omega) (by omega) (by simp [ha]), List.append_assoc, if_neg g]
      rfl
theorem zero_ref (l : List Int) (hn : l.length ≤ 140737488351232) (k : Nat) (hk : l.length < k) : inquestref07_zeroed.f k l = some (zeroS l) := by
  unfold inquestref07_zeroed.f
  have := zero_run l hn l.length k 0 [] (by omega) hk rfl
  simpa using this
theorem read_run (b : Int) (init : List Int) (frames : List (List Int)) (a : Int) (z : List Int) (M : Nat) (hM : ∀ f ∈ frames, f.length ≤ M) (hM2 : M ≤ 140737488351232) (hn : frames.length ≤ 256) : ∀ (d k i : Nat) (acc : List (List Int)), i + d = frames.length → d + M + 1 < k → acc.length = i →
    inquestref07_Read.l0 k (i : Int) b init frames a z acc = some (a, z, acc ++ (frames.drop i).map zeroS) := by
  intro d
  induction d with
  | zero =>
    intro k i acc hi hk ha
    obtain ⟨k, rfl⟩ : ∃ k', k = k' + 1 := ⟨k - 1, by omega⟩
    rw [List.drop_eq_nil_of_le (by omega)]
    simp only [inquestref07_Read.l0]
    rw [if_neg (by omega)]
    simp
  | succ d ih =>
    intro k i acc hi hk ha
    obtain ⟨k, rfl⟩ : ∃ k', k = k' + 1 := ⟨k - 1, by omega⟩
    have hlt : i < frames.length := by omega
    have c1 : (i : Int) < (frames.length : Int) := by omega
    have c2 : 0 ≤ (i : Int) := by omega
    have c3 : acc.length < 5864062014805 := by omega
    have hm := hM frames[i] (List.getElem_mem hlt)
    have hih := ih k (i + 1) (acc ++ [zeroS frames[i]]) (by omega) (by omega) (by simp [ha])
    have e5 : (i : Int) + 1 = ((i + 1 : Nat) : Int) := by omega
    have w4 : wrap64 ((i : Int) + 1) = ((i + 1 : Nat) : Int) := (w64 (by omega) (by omega)).trans e5
    rw [List.drop_eq_getElem_cons hlt, inquestref07_Read.l0, if_pos c1, if_pos c2, rd_L4_get hlt, zero_ref _ (by omega) k (by omega)]
    simp only [Option.bind_some, w4]
    rw [if_pos c3, hih, List.append_assoc, List.map_cons]
    rfl
theorem read_ref (b : Int) (init : List Int) (frames : List (List Int)) (M : Nat) (hM : ∀ f ∈ frames, f.length ≤ M) (hM2 : M ≤ 140737488351232) (hn : frames.length ≤ 256) (hn2 : init.length ≤ 140737488351232) (k : Nat) (hk : init.length + frames.length + M + 2 ≤ k) :
    inquestref07_Read.f k b init frames = some (b, zeroS init, frames.map zeroS) := by
  unfold inquestref07_Read.f
  rw [zero_ref init hn2 k (by omega)]
  simp only [Option.bind_some]
  have := read_run b init frames b (zeroS init) M hM hM2 hn frames.length k 0 [] (by omega) (by omega) rfl
  simpa using this
theorem zero_bit {l : List Int} {n : Int} (hb : Bytes l) (h : valuesS l n = true) : ∀ v ∈ zeroS l, v = 0 ∨ v = 1 := by
  intro v hv
  obtain ⟨u, hu, rfl⟩ := List.mem_map.1 hv
  have := hb u hu
  have := vals_le h u hu
  split <;> omega
theorem zero_vals {l : List Int} {n : Int} (hb : Bytes l) (h : valuesS l n = true) : valuesS (zeroS l) n = true :=
  values_bit (by rw [zeroS_length]; exact vals_len h) (fun v hv => by have := zero_bit hb h v hv; omega)
theorem zero_reset : ∀ (ss : List S61) (l : List Int), resetOk ss l = true → resetOk ss (zeroS l) = true := by
  intro ss
  induction ss with
  | nil => intro l _; rfl
  | cons s ss ih =>
    intro l h
    cases l with
    | nil => rfl
    | cons v l =>
      simp only [resetOk, zeroS, List.map_cons, Bool.and_eq_true, Bool.or_eq_true, decide_eq_true_eq] at h ⊢
      refine ⟨?_, ih l h.2⟩
      rcases h.1 with g | g
      · exact .inl g
      · by_cases e : v = 2
        · exact .inl (g.trans e)
        · rw [if_neg e]; exact .inr g
theorem zero_fits {x : CP} {bad : Int} {init : List Int} {frames : List (List Int)} (hb : Bytes init) (hf : ∀ f ∈ frames, Bytes f) (h : x.fitsS bad init frames = true) : x.fitsS bad (zeroS init) (frames.map zeroS) = true := by
  unfold CP.fitsS at h ⊢
  simp only [Bool.and_eq_true, decide_eq_true_eq, List.all_eq_true] at h ⊢
  obtain ⟨⟨⟨⟨⟨⟨g1, g2⟩, g3⟩, g4⟩, g5⟩, g6⟩, g7, g8⟩ := h
  refine ⟨⟨⟨⟨⟨⟨g1, g2⟩, g3⟩, zero_vals hb g4⟩, by simpa using g5⟩, by simpa using g6⟩, ?_, zero_reset _ _ g8⟩
  intro f hm
  obtain ⟨u, hu, rfl⟩ := List.mem_map.1 hm
  exact zero_vals (hf u hu) (g7 u hu)
end Go.Proofs.Ytdjhjgfjhicbfaa.PWalkRuns

namespace Go.Proofs.Ytdjhjgfjhicbfaa.PWalkRuns
open Go.RowKit Go.Shelf Go.Proofs.YtdjhjgfjhicbfaaW.PrintWords Go.Proofs.YtdjhjgfjhicbfaaW.PrintLast Go.Proofs.YtdjhjgfjhicbfaaW.PrintMore
set_option linter.unusedVariables false
set_option linter.unusedSimpArgs false
theorem freeG_mem : ∀ (l : List S61) (i : Int) (j : Nat) (h : j < l.length), l[j].f1 = 2 → i + (j : Int) ∈ freeG l i := by
  intro l
  induction l with
  | nil => intro i j h; simp at h
  | cons s l ih =>
    intro i j h e
    cases j with
    | zero =>
      have e : s.f1 = 2 := e
      rw [freeG, if_pos e]
      simp
    | succ j =>
      have := ih (i + 1) j (by simpa using h) (by simpa using e)
      rw [show i + ((j + 1 : Nat) : Int) = i + 1 + (j : Int) by omega]
      unfold freeG
      split
      · exact List.mem_cons_of_mem _ this
      · exact this
theorem freeG_two : ∀ (l : List S61) (i : Int) (j : Nat) (h : j < l.length), i + (j : Int) ∈ freeG l i → l[j].f1 = 2 := by
  intro l
  induction l with
  | nil => intro i j h; simp at h
  | cons s l ih =>
    intro i j h e
    cases j with
    | zero =>
      unfold freeG at e
      split at e
      · rename_i h2; exact h2
      · have := (freeG_range l (i + 1) _ e).1
        omega
    | succ j =>
      have hj : j < l.length := by simpa using h
      have : i + 1 + (j : Int) ∈ freeG l (i + 1) := by
        rw [show i + ((j + 1 : Nat) : Int) = i + 1 + (j : Int) by omega] at e
        unfold freeG at e
        split at e
        · rcases List.mem_cons.1 e with h2 | h2
          · omega
          · exact h2
        · exact e
      exact ih (i + 1) j hj this
theorem firstK_other (x : CP) (b : List Int) (p : Nat) (hp : ∀ v ∈ x.freeS, v.toNat ≠ p) : ∀ k, k ≤ x.freeS.length → ∀ (hb : x.freeS.length ≤ b.length), (firstK x.freeS b x.resetS k).getD p 0 = x.resetS.getD p 0 := by
  intro k
  induction k with
  | zero => intro _ _; rw [firstK_zero]
  | succ k ih =>
    intro hk hb
    rw [firstK_succ _ _ _ _ (by omega) (by omega), List.getD_eq_getElem?_getD, List.getElem?_set_ne (hp _ (List.getElem_mem _)), ← List.getD_eq_getElem?_getD]
    exact ih (by omega) hb
theorem resetOk_get : ∀ (ss : List S61) (l : List Int) (j : Nat) (h1 : j < ss.length) (h2 : j < l.length), resetOk ss l = true → ss[j].f1 = 2 ∨ ss[j].f1 = l[j] := by
  intro ss
  induction ss with
  | nil => intro l j h1; simp at h1
  | cons s ss ih =>
    intro l j h1 h2 h
    cases l with
    | nil => simp at h2
    | cons v l =>
      simp only [resetOk, Bool.and_eq_true, Bool.or_eq_true, decide_eq_true_eq] at h
      cases j with
      | zero => exact h.1
      | succ j => exact ih l j (by simpa using h1) (by simpa using h2) h.2
theorem first_of (x : CP) (st : List Int) (hl : st.length = x.l1.length) (hb : ∀ v ∈ st, v = 0 ∨ v = 1) (hr : resetOk x.l1 st = true) : ∃ n, n < 2 ^ x.freeS.length ∧ (x.firstS n).f0 = st := by
  obtain ⟨n, hn, he⟩ := way_of (x.freeS.map (fun i => st.getD i.toNat 0)) (fun v hv => by
    obtain ⟨i, hi, rfl⟩ := List.mem_map.1 hv
    obtain ⟨q0, q1⟩ := freeG_range x.l1 0 i hi
    have h : i.toNat < st.length := by omega
    rw [List.getD_eq_getElem?_getD, List.getElem?_eq_getElem h]
    exact hb _ (List.getElem_mem h))
  rw [List.length_map] at hn he
  refine ⟨n, hn, ?_⟩
  show firstK x.freeS (wayS n x.freeS.length) x.resetS x.freeS.length = st
  have hlen : (firstK x.freeS (wayS n x.freeS.length) x.resetS x.freeS.length).length = st.length := by rw [firstK_length, hl]; simp [CP.resetS]
  refine List.ext_getElem hlen fun j h1 h2 => ?_
  have hj : j < x.l1.length := by omega
  have g1 : (firstK x.freeS (wayS n x.freeS.length) x.resetS x.freeS.length)[j] = (firstK x.freeS (wayS n x.freeS.length) x.resetS x.freeS.length).getD j 0 := by
    rw [List.getD_eq_getElem?_getD, List.getElem?_eq_getElem h1]; rfl
  rw [g1]
  by_cases e : x.l1[j].f1 = 2
  · have hm : (j : Int) ∈ x.freeS := by
      have := freeG_mem x.l1 0 j hj e
      simpa [CP.freeS] using this
    obtain ⟨q, hq, hqe⟩ := List.getElem_of_mem hm
    have := firstK_get x (wayS n x.freeS.length) x.freeS.length q (Nat.le_refl _) hq (by rw [wayS_length]; exact Nat.le_refl _) hq
    rw [hqe, Int.toNat_natCast] at this
    rw [this, he, List.getD_eq_getElem?_getD, List.getElem?_map, List.getElem?_eq_getElem hq]
    simp [hqe, h2]
  · rw [firstK_other x _ j (fun v hv h => e (by
      obtain ⟨q0, q1⟩ := freeG_range x.l1 0 v hv
      have hv2 : (0 : Int) + (j : Int) ∈ freeG x.l1 0 := by
        have : v = (j : Int) := by omega
        rw [Int.zero_add, ← this]; exact hv
      exact freeG_two x.l1 0 j hj hv2)) _ (Nat.le_refl _) (by rw [wayS_length]; exact Nat.le_refl _)]
    rcases resetOk_get x.l1 st j hj h2 hr with g | g
    · exact absurd g e
    · simp [CP.resetS, List.getD_eq_getElem?_getD, hj, g]
theorem run_in {x : CP} {L : List S43} (hw : x.Walked L) (init : List Int) (frames : List (List Int)) (hl : init.length = x.l1.length) (hb : ∀ v ∈ init, v = 0 ∨ v = 1) (hr : resetOk x.l1 init = true)
    (hf : ∀ f ∈ frames, (f.length : Int) = x.a0 ∧ ∀ v ∈ f, v = 0 ∨ v = 1) : ∀ i, i ≤ frames.length → (∀ j, j < i → x.heldS (x.frameS (x.stateS init frames j) (frames.getD j [])) = true) →
    ∃ j, j < L.length ∧ (gS L j).f0 = x.stateS init frames i ∧ (gS L j).f1 ≤ i := by
  intro i
  induction i with
  | zero =>
    intro _ _
    obtain ⟨n, hn, he⟩ := first_of x init hl hb hr
    obtain ⟨M, hM⟩ := hw.start
    have hlen : x.firstsS.length = 2 ^ x.freeS.length := by simp [CP.firstsS]
    have hn2 : n < x.firstsS.length := by omega
    refine ⟨n, by rw [hM, List.length_append]; omega, ?_⟩
    rw [hM, gS_left hn2, gS_first x hn2]
    exact ⟨he, Int.le_refl _⟩
  | succ i ih =>
    intro hi hh
    obtain ⟨j, hj, h1, h2⟩ := ih (by omega) (fun j hj => hh j (by omega))
    have hlt : i < frames.length := by omega
    have hg : frames.getD i [] = frames[i] := by rw [List.getD_eq_getElem?_getD, List.getElem?_eq_getElem hlt]; rfl
    obtain ⟨f1, f2⟩ := hf frames[i] (List.getElem_mem hlt)
    obtain ⟨m, hm, he⟩ := way_of frames[i] f2
    have hh2 := hh i (by omega)
    rw [hg] at hh2
    have hlen : x.a0.toNat = frames[i].length := by omega
    have hc := hw.closed j hj m (by rw [hlen]; exact hm)
    rw [hlen, he] at hc
    unfold CP.Leads1 at hc
    rw [h1] at hc
    obtain ⟨q, hq, q1, q2⟩ := hc hh2
    refine ⟨q, hq, ?_, by omega⟩
    show _ = x.nextS (x.frameS (x.stateS init frames i) (frames.getD i []))
    rw [hg]; exact q1
end Go.Proofs.Ytdjhjgfjhicbfaa.PWalkRuns

namespace Go.Proofs.Ytdjhjgfjhicbfaa.PWalkRuns
open Go.RowKit Go.Shelf Go.Maps Go.Proofs.YtdjhjgfjhicbfaaW.PrintWords Go.Proofs.YtdjhjgfjhicbfaaW.PrintLast Go.Proofs.YtdjhjgfjhicbfaaW.PrintMore
set_option linter.unusedVariables false
set_option linter.unusedSimpArgs false
structure TrIn (w : World) (bad : Int) (Ai : Option Addr) (ci : Nat) (init : List Int) (Af : Option Addr) (cf : Nat) (frames : List (List Int)) : Prop where
  ci : init.length ≤ ci
  ri : Kd.C (Kd.int .u8) w Ai init.length init
  cf : frames.length ≤ cf
  rf : Kd.C (Kd.slice 5 (Kd.int .u8)) w Af frames.length frames
theorem TrIn.below {w w1 : World} {bad : Int} {Ai : Option Addr} {ci : Nat} {init : List Int} {Af : Option Addr} {cf : Nat} {frames : List (List Int)} (h : TrIn w bad Ai ci init Af cf frames) (hb : Below w.heap.size w w1) : TrIn w1 bad Ai ci init Af cf frames :=
  ⟨h.ci, Kd.C_below h.ri hb, h.cf, Kd.C_below h.rf hb⟩
theorem fits8_calls (x : CP) (bad : Int) (Ai : Option Addr) (ci : Nat) (init : List Int) (Af : Option Addr) (cf : Nat) (frames : List (List Int)) (w : World) (ok : x.Ok w) (fit : x.Fit) (ht : TrIn w bad Ai ci init Af cf frames)
    (hli : init.length ≤ 9223372036854775807) (hlf : ∀ f ∈ frames, f.length ≤ 9223372036854775807) (hnf : frames.length ≤ 9223372036854775807) :
    Calls Try.prog 8 #[.agg #[.int .i64 x.a0, .slice x.A1 x.l1.length x.c1, .slice x.A2 x.l2.length x.c2, .slice x.A3 x.l3.length x.c3, .slice x.A4 x.l4.length x.c4, .slice x.A5 x.l5.length x.c5], .agg #[.int .i64 bad, .slice Ai init.length ci, .slice Af frames.length cf]] w fun e w' => e = .returned (.bool (x.fitsS bad init frames)) ∧ Below w.heap.size w w' :=
  inquestref03_Fits.calls (x.mayK + init.length + frames.length + 9223372036854775807 + 4) x.a0 x.A1 x.c1 x.l1 x.A2 x.c2 x.l2 x.A3 x.c3 x.l3 x.A4 x.c4 x.l4 x.A5 x.c5 x.l5 bad Ai ci init Af cf frames (x.fitsS bad init frames) w ok.r1 ok.m1 ok.r2 ok.m2 ok.r3 ok.m3 ok.r4 ok.m4 ok.r5 ok.m5 ht.ri ht.ci ht.rf ht.cf
    (fits_ref x fit bad init frames 9223372036854775807 hlf (Nat.le_refl _) hnf hli _ (Nat.le_refl _))
theorem run11_calls (x : CP) (bad : Int) (Ai : Option Addr) (ci : Nat) (init : List Int) (Af : Option Addr) (cf : Nat) (frames : List (List Int)) (w : World) (ok : x.Ok w) (fit : x.Fit) (P : Nat → Prop) (hs : Kd.V (Kd.int .u8) 5 w w.heap.size (fun k_ => P k_) (.slice Ai init.length ci) init)
    (hrf : Kd.C (Kd.slice 5 (Kd.int .u8)) w Af frames.length frames) (hcf : frames.length ≤ cf) (hfits : x.fitsS bad init frames = true) (hb : Bytes init) (hf : ∀ f ∈ frames, Bytes f) (h0 : x.a0 ≤ 16384) :
    Calls Try.prog 11 #[.agg #[.int .i64 x.a0, .slice x.A1 x.l1.length x.c1, .slice x.A2 x.l2.length x.c2, .slice x.A3 x.l3.length x.c3, .slice x.A4 x.l4.length x.c4, .slice x.A5 x.l5.length x.c5], .agg #[.int .i64 bad, .slice Ai init.length ci, .slice Af frames.length cf]] w fun e w' => ∃ Ar cr, e = .returned (.tuple #[.slice Ar (x.runS init frames).length cr, .int .i64 0]) ∧ (x.runS init frames).length ≤ cr ∧
      Kd.C (Kd.slice 5 (Kd.int .u8)) w' Ar (x.runS init frames).length (x.runS init frames) ∧ Below w.heap.size w w' := by
  refine (inquestref07_Run.calls (x.mayK + 2 * x.l1.length + 2 * x.a0.toNat + 300) x.a0 x.A1 x.c1 x.l1 x.A2 x.c2 x.l2 x.A3 x.c3 x.l3 x.A4 x.c4 x.l4 x.A5 x.c5 x.l5 bad P Ai ci init Af cf frames (x.runS init frames) 0 w ok.r1 ok.m1 ok.r2 ok.m2 ok.r3 ok.m3 ok.r4 ok.m4 ok.r5 ok.m5 hs hrf hcf
    (run_ref x fit bad init frames hfits hb hf h0 _ (Nat.le_refl _))).mono ?_
  rintro e w' ⟨v0, rfl, g0, hb⟩
  obtain ⟨Ar, cr, rfl, m0, r0⟩ := Kd.R_reads (Kd.S_R g0)
  exact ⟨Ar, cr, rfl, m0, r0, hb⟩
theorem read12_calls (bad : Int) (Ai : Option Addr) (ci : Nat) (init : List Int) (Af : Option Addr) (cf : Nat) (frames : List (List Int)) (w : World) (ht : TrIn w bad Ai ci init Af cf frames)
    (hli : init.length ≤ 140737488351232) (hlf : ∀ f ∈ frames, f.length ≤ 140737488351232) (hnf : frames.length ≤ 256) :
    Calls Try.prog 12 #[.agg #[.int .i64 bad, .slice Ai init.length ci, .slice Af frames.length cf]] w fun e w' => ∃ Bi di Bf df, e = .returned (.agg #[.int .i64 bad, .slice Bi (zeroS init).length di, .slice Bf (frames.map zeroS).length df]) ∧
      Kd.V (Kd.int .u8) 5 w' w'.heap.size (fun _ => True) (.slice Bi (zeroS init).length di) (zeroS init) ∧ Kd.C (Kd.slice 5 (Kd.int .u8)) w' Bf (frames.map zeroS).length (frames.map zeroS) ∧ (frames.map zeroS).length ≤ df ∧ Below w.heap.size w w' := by
  refine (inquestref07_Read.calls (init.length + frames.length + 140737488351232 + 2) bad Ai ci init Af cf frames bad (zeroS init) (frames.map zeroS) w ht.ri ht.ci ht.rf ht.cf
    (read_ref bad init frames 140737488351232 hlf (Nat.le_refl _) hnf hli _ (Nat.le_refl _))).mono ?_
  rintro e w' ⟨v1, v2, rfl, g1, g2, hb⟩
  have hV := Kd.R_V (base' := w'.heap.size) g1
  obtain ⟨Bi, di, rfl⟩ := Kd.R_slice g1
  obtain ⟨Bf, df, rfl, m0, r0⟩ := Kd.R_reads (Kd.S_R g2)
  exact ⟨Bi, di, Bf, df, rfl, hV, r0, m0, hb⟩
end Go.Proofs.Ytdjhjgfjhicbfaa.PWalkRuns

namespace Go.Proofs.Ytdjhjgfjhicbfaa.PWalkRuns
open Go.RowKit Go.Shelf Go.Maps Go.Proofs.YtdjhjgfjhicbfaaW.PrintWords Go.Proofs.YtdjhjgfjhicbfaaW.PrintLast Go.Proofs.YtdjhjgfjhicbfaaW.PrintMore
set_option linter.unusedVariables false
set_option linter.unusedSimpArgs false
structure TrAt (bad : Int) (Ai : Option Addr) (ni ci : Nat) (Af : Option Addr) (nf cf : Nat) (w : World) (gb : Nat) : Prop where
  blk : w.heap[gb]? = some (.cells #[.int .i64 bad, .slice Ai ni ci, .slice Af nf cf] 30 (0, 0))
  t0 : w.cell? ⟨gb, 0, none⟩ = some (.int .i64 bad)
  t1 : w.cell? ⟨gb, 1, none⟩ = some (.slice Ai ni ci)
  t2 : w.cell? ⟨gb, 2, none⟩ = some (.slice Af nf cf)
theorem tr_at {bad : Int} {Ai : Option Addr} {ni ci : Nat} {Af : Option Addr} {nf cf : Nat} {w : World} {gb : Nat} (h : w.heap[gb]? = some (.cells #[.int .i64 bad, .slice Ai ni ci, .slice Af nf cf] 30 (0, 0))) : TrAt bad Ai ni ci Af nf cf w gb :=
  ⟨h, cell_blk h 0 _ rfl, cell_blk h 1 _ rfl, cell_blk h 2 _ rfl⟩
theorem TrAt.below {bad : Int} {Ai : Option Addr} {ni ci : Nat} {Af : Option Addr} {nf cf : Nat} {w w1 : World} {gb : Nat} (h : TrAt bad Ai ni ci Af nf cf w gb) (hb : Below w.heap.size w w1) : TrAt bad Ai ni ci Af nf cf w1 gb :=
  tr_at (blk_below h.blk hb)
theorem stateS_length (x : CP) (st : List Int) (fs : List (List Int)) (h : st.length = x.l1.length) : ∀ i, (x.stateS st fs i).length = x.l1.length := by
  intro i
  cases i with
  | zero => exact h
  | succ i => simp [CP.stateS, CP.nextS]
theorem frameG_prefix (gs : List S68) : ∀ l, ∃ M, frameG gs l = l ++ M := by
  induction gs with
  | nil => intro l; exact ⟨[], by simp [frameG]⟩
  | cons g gs ih =>
    intro l
    obtain ⟨M, hM⟩ := ih (l ++ [and1 (valS l g.f0) (valS l g.f1)])
    exact ⟨_ :: M, by rw [frameG, hM, List.append_assoc]; rfl⟩
theorem row_state (x : CP) (st inp : List Int) (h1 : (inp.length : Int) = x.a0) (h2 : st.length = x.l1.length) : ((x.frameS st inp).take (1 + x.a0.toNat + x.l1.length)).drop (1 + x.a0.toNat) = st := by
  obtain ⟨M, hM⟩ := frameG_prefix x.l2 (0 :: (inp ++ st))
  unfold CP.frameS
  rw [hM]
  have e1 : 1 + x.a0.toNat = (0 :: inp).length := by simp; omega
  have e2 : 1 + x.a0.toNat + x.l1.length = (0 :: (inp ++ st)).length := by simp; omega
  rw [e2, List.take_left', e1]
  · show List.drop (0 :: inp).length ((0 :: inp) ++ st) = st
    exact List.drop_left
  · rfl
theorem stateS_bytes (x : CP) (st : List Int) (fs : List (List Int)) (h : Bytes st) (hf : ∀ f ∈ fs, Bytes f) : ∀ i, Bytes (x.stateS st fs i) := by
  intro i
  induction i with
  | zero => exact h
  | succ i ih =>
    refine bytes_bit (nextS_range x _ (frameS_bytes x _ _ ih ?_))
    rw [List.getD_eq_getElem?_getD]
    by_cases hi : i < fs.length
    · rw [List.getElem?_eq_getElem hi]; exact hf _ (List.getElem_mem hi)
    · rw [List.getElem?_eq_none (by omega)]; intro v hv; exact absurd hv (by simp)
set_option maxHeartbeats 4000000 in
set_option maxRecDepth 100000 in
theorem law_big (x : CP) (bad : Int) (Ai : Option Addr) (ci : Nat) (init : List Int) (Af : Option Addr) (cf : Nat) (frames : List (List Int)) (w : World) (ok : x.Ok w) (fit : x.Fit) (ht : TrIn w bad Ai ci init Af cf frames)
    (hli : init.length ≤ 9223372036854775807) (hlf : ∀ f ∈ frames, f.length ≤ 9223372036854775807) (hnf : frames.length ≤ 40) (hbi : Bytes init) (hbf : ∀ f ∈ frames, Bytes f)
    (hgr : x.great = false) (h4 : ¬ x.a0 > 4) (hfits : x.fitsS bad init frames = true) :
    Calls Try.prog 3 #[.agg #[.int .i64 x.a0, .slice x.A1 x.l1.length x.c1, .slice x.A2 x.l2.length x.c2, .slice x.A3 x.l3.length x.c3, .slice x.A4 x.l4.length x.c4, .slice x.A5 x.l5.length x.c5], .agg #[.int .i64 bad, .slice Ai init.length ci, .slice Af frames.length cf]] w fun e w' => e = .returned (.bool true) ∧ Below w.heap.size w w' := by
  obtain ⟨W1, hW1⟩ : ∃ W1, W1 = (w.alloc (.cells #[.int .i64 x.a0, .slice x.A1 x.l1.length x.c1, .slice x.A2 x.l2.length x.c2, .slice x.A3 x.l3.length x.c3, .slice x.A4 x.l4.length x.c4, .slice x.A5 x.l5.length x.c5] 26)).alloc (.cells #[.int .i64 bad, .slice Ai init.length ci, .slice Af frames.length cf] 30) := ⟨_, rfl⟩
  have hbA : Below w.heap.size w (w.alloc (.cells #[.int .i64 x.a0, .slice x.A1 x.l1.length x.c1, .slice x.A2 x.l2.length x.c2, .slice x.A3 x.l3.length x.c3, .slice x.A4 x.l4.length x.c4, .slice x.A5 x.l5.length x.c5] 26)) := (Below.refl _ _).alloc (Nat.le_refl _) _
  have hb1 : Below w.heap.size w W1 := by rw [hW1]; exact hbA.alloc hbA.size _
  have hat1 : x.At W1 w.heap.size := by rw [hW1]; exact (CP.at_alloc x w).below ((Below.refl _ _).alloc (Nat.le_refl _) _)
  have htr1 : TrAt bad Ai init.length ci Af frames.length cf W1 (w.heap.size + 1) := by
    rw [hW1]
    have : (w.alloc (.cells #[.int .i64 x.a0, .slice x.A1 x.l1.length x.c1, .slice x.A2 x.l2.length x.c2, .slice x.A3 x.l3.length x.c3, .slice x.A4 x.l4.length x.c4, .slice x.A5 x.l5.length x.c5] 26)).heap.size = w.heap.size + 1 := by simp
    rw [← this]; exact tr_at (heap_alloc_at _ _)
  have hF := hfits
  unfold CP.fitsS at hF
  simp only [Bool.and_eq_true, decide_eq_true_eq, List.all_eq_true] at hF
  obtain ⟨⟨⟨⟨⟨⟨hmay, _⟩, _⟩, fv⟩, f1⟩, _⟩, fa, fr⟩ := hF
  have h7 : x.l1.length ≤ 7 := by
    have h := hgr
    unfold CP.great at h
    simp at h
    omega
  obtain ⟨L, hWk⟩ := walked x fit hmay (by omega) h7
  have hlen0 := hWk.some
  have hlenM := hWk.short
  have hx0 := may_nonneg hmay
  have HRUN := Aside0.mk (run_in hWk (zeroS init) (frames.map zeroS) (by rw [zeroS_length]; have := vals_len fv; omega) (zero_bit hbi fv) (zero_reset _ _ fr) (fun f hf => by
    obtain ⟨u, hu, rfl⟩ := List.mem_map.1 hf
    exact ⟨by rw [zeroS_length]; exact vals_len (fa u hu), zero_bit (hbf u hu) (fa u hu)⟩))
  have HZF := Aside0.mk (zero_fits hbi hbf hfits)
  have HALL := Aside0.mk (fun W (hb : Below w.heap.size w W) => all_calls x W (ok.below hb) fit)
  rw [hWk.all] at HALL
  have HWK := Aside0.mk hWk
  have HAT := Aside0.mk hat1
  have HTA := Aside0.mk htr1
  have HB := Aside0.mk hb1
  have HO := Aside0.mk ok
  have HT := Aside0.mk ht
  have HF := Aside0.mk fit
  have HMY := Aside0.mk hmay
  have okb := ok.below hb1
  have HG := Aside0.mk (inquestlaw27_great.calls x.a0 x.A1 x.c1 x.l1 x.A2 x.c2 x.l2 x.A3 x.c3 x.l3 x.A4 x.c4 x.l4 x.A5 x.c5 x.l5 x.great _ okb.r1 okb.m1 okb.r2 okb.m2 okb.r3 okb.m3 okb.r4 okb.m4 okb.r5 okb.m5 (great_ref x))
  rw [hgr] at HG
  have HFT := Aside0.mk (fun W (hb : Below w.heap.size w W) => fits8_calls x bad Ai ci init Af cf frames W (ok.below hb) fit (ht.below hb) hli hlf (by omega))
  rw [hfits] at HFT
  have HRD := Aside0.mk (fun W (hb : Below w.heap.size w W) => read12_calls bad Ai ci init Af cf frames W (ht.below hb) (by have := vals_len fv; omega) (fun f hf => by have := vals_len (fa f hf); omega) (by omega))
  have hzb : Bytes (zeroS init) := bytes_bit (fun v hv => by have := zero_bit hbi fv v hv; omega)
  have hzfb : ∀ f ∈ frames.map zeroS, Bytes f := fun f hf => by
    obtain ⟨u, hu, rfl⟩ := List.mem_map.1 hf
    exact bytes_bit (fun v hv => by have := zero_bit (hbf u hu) (fa u hu) v hv; omega)
  have hzl : (zeroS init).length = x.l1.length := by rw [zeroS_length]; have := vals_len fv; omega
  have hzfl : ∀ f ∈ frames.map zeroS, (f.length : Int) = x.a0 := fun f hf => by
    obtain ⟨u, hu, rfl⟩ := List.mem_map.1 hf
    rw [zeroS_length]; exact vals_len (fa u hu)
  have hzn : (frames.map zeroS).length = frames.length := by simp
  obtain ⟨zi, hzi⟩ : ∃ zi, zi = zeroS init := ⟨_, rfl⟩
  obtain ⟨zf, hzf⟩ : ∃ zf, zf = frames.map zeroS := ⟨_, rfl⟩
  rw [← hzi, ← hzf] at HRD HRUN HZF
  rw [← hzi] at hzb hzl
  rw [← hzf] at hzfb hzfl hzn
  have HZB := Aside0.mk hzb
  have HZFB := Aside0.mk hzfb
  have HZL := Aside0.mk hzl
  have HZFL := Aside0.mk hzfl
  have HZN := Aside0.mk hzn
  rw [hW1] at HAT HTA HB HG
  obtain ⟨_, k0, k1, k2, k3, k4, k5⟩ := HAT.out
  obtain ⟨_, t0, t1, t2⟩ := HTA.out
  clear hb1 hbA hat1 htr1 ok fit ht okb hmay hWk hgr hfits hW1 fv fa fr hlf hbf hbi hli hzb hzfb hzl hzfl hzn hzi hzf
  go_enter Try.func3, Try.ntmps3
  go_wp2_with (first
    | (go_at_call 7; go_must (refine HG.out.mono ?_; rintro e w1 ⟨rfl, hb1⟩; have HA1 := Aside0.mk (HAT.out.below hb1); have HT1 := Aside0.mk (HTA.out.below hb1); have HB1 := Aside0.mk (HB.out.trans (hb1.mono HB.out.size)); clear hb1 k0 k1 k2 k3 k4 k5 t0 t1 t2; obtain ⟨_, k0, k1, k2, k3, k4, k5⟩ := HA1.out; obtain ⟨_, t0, t1, t2⟩ := HT1.out))
    | (go_at_call 8; go_must (refine (HFT.out _ HB1.out).mono ?_; rintro e w2 ⟨rfl, hb2⟩; have HA2 := Aside0.mk (HA1.out.below hb2); have HT2 := Aside0.mk (HT1.out.below hb2); have HB2 := Aside0.mk (HB1.out.trans (hb2.mono HB1.out.size)); clear hb2 k0 k1 k2 k3 k4 k5 t0 t1 t2; obtain ⟨_, k0, k1, k2, k3, k4, k5⟩ := HA2.out; obtain ⟨_, t0, t1, t2⟩ := HT2.out))
    | (go_at_call 10; go_must (refine (HALL.out _ HB2.out).mono ?_; rintro e w3 ⟨v3, rfl, ho3, hb3⟩; obtain ⟨A2, c2, e2⟩ := Kd.R_slice ho3; subst e2; have HL3 := Aside0.mk ho3; have HA3 := Aside0.mk (HA2.out.below hb3); have HT3 := Aside0.mk (HT2.out.below hb3); have HB3 := Aside0.mk (HB2.out.trans (hb3.mono HB2.out.size)); clear ho3 hb3 k0 k1 k2 k3 k4 k5 t0 t1 t2; obtain ⟨_, k0, k1, k2, k3, k4, k5⟩ := HA3.out; obtain ⟨_, t0, t1, t2⟩ := HT3.out)))
  have H4 : Aside0 (x.a0 ≤ 4) := ⟨by omega⟩
  go_region_held3 (fun w' => w'.cell? ⟨w.heap.size, 0, none⟩ = some (.int .i64 x.a0) ∧ w'.cell? ⟨w.heap.size, 1, none⟩ = some (.slice x.A1 x.l1.length x.c1) ∧ w'.cell? ⟨w.heap.size, 2, none⟩ = some (.slice x.A2 x.l2.length x.c2) ∧ w'.cell? ⟨w.heap.size, 3, none⟩ = some (.slice x.A3 x.l3.length x.c3) ∧ w'.cell? ⟨w.heap.size, 4, none⟩ = some (.slice x.A4 x.l4.length x.c4) ∧ w'.cell? ⟨w.heap.size, 5, none⟩ = some (.slice x.A5 x.l5.length x.c5) ∧
      w'.cell? ⟨w.heap.size + 1, 0, none⟩ = some (.int .i64 bad) ∧ w'.cell? ⟨w.heap.size + 1, 1, none⟩ = some (.slice Ai init.length ci) ∧ w'.cell? ⟨w.heap.size + 1, 2, none⟩ = some (.slice Af frames.length cf))
    (first
      | go_keep
      | (go_split_ands
         have hq : ∀ p v, w3.cell? p = some v → w5.cell? p = some v := fun p v h => (hb5.cell (Nat.lt_of_lt_of_le (World.block_lt_of_cell? w3 p h) hb4.size)).trans ((hb4.cell (World.block_lt_of_cell? w3 p h)).trans h)
         exact ⟨hq _ _ k0, hq _ _ k1, hq _ _ k2, hq _ _ k3, hq _ _ k4, hq _ _ k5, hq _ _ t0, hq _ _ t1, hq _ _ t2⟩)
      | (go_split_ands
         have hq : ∀ p v, w3.cell? p = some v → w4.cell? p = some v := fun p v h => (hb4.cell (World.block_lt_of_cell? w3 p h)).trans h
         exact ⟨hq _ _ k0, hq _ _ k1, hq _ _ k2, hq _ _ k3, hq _ _ k4, hq _ _ k5, hq _ _ t0, hq _ _ t1, hq _ _ t2⟩))
    (first
      | (go_at_call 12; (with_reducible refine (HRD.out _ HB3.out.drew).mono ?_); rintro e w4 ⟨Bi, di, Bf, df, rfl, hV, hrf, hcf, hb4⟩)
      | (go_at_call 11; (with_reducible refine (run11_calls x bad Bi di zi Bf df zf w4 (HO.out.below (HB3.out.drew.trans (hb4.mono HB3.out.drew.size))) HF.out (fun _ => True) hV hrf hcf HZF.out HZB.out HZFB.out (by have := H4.out; omega)).mono ?_); rintro e w5 ⟨Ar, cr, rfl, hmr, hrr, hb5⟩))
  have hb35 : Below w3.heap.size w3 w5 := (((Below.refl w3.heap.size w3).drew).trans hb4).trans (hb5.mono hb4.size)
  have HA5 := Aside0.mk (HA3.out.below hb35)
  have HB5 := Aside0.mk (HB3.out.trans (hb35.mono HB3.out.size))
  have HL5 := Aside0.mk (Kd.R_below HL3.out hb35)
  have hrn : (x.runS zi zf).length = frames.length := by rw [runS_length, HZN.out]
  obtain ⟨rr, hrre⟩ : ∃ rr, rr = x.runS zi zf := ⟨_, rfl⟩
  rw [← hrre] at hmr hrr hrn ⊢
  have HRG : Aside0 (∀ i (h : i < rr.length), rr[i] = x.frameS (x.stateS zi zf i) (zf.getD i [])) := ⟨fun i h => by subst hrre; exact runS_get x zf zi i h⟩
  have HRR := Aside0.mk hrr
  have hrl : rr.length ≤ 40 := by omega
  have HRN := Aside0.mk hrn
  clear hb35 hb4 hb5 hV hrf hcf hrr hmr hrre HG HFT HALL HRD HA1 HT1 HB1 HA2 HT2 HB2 HA3 HT3 HB3 HL3 HAT HTA HB k0 k1 k2 k3 k4 k5 t0 t1 t2 hrn
  go_wp2_with fail
  go_loopw [49] (fun v wr => ∃ i : Nat, i ≤ rr.length ∧ v = .int .i64 i ∧ Aside0 (Below w5.heap.size w5 wr) ∧ Aside0 (∀ j, j < i → x.heldS (x.frameS (x.stateS zi zf j) (zf.getD j [])) = true)) (fun v _ => rr.length - (intOf v).toNat)
  case atStart => exact ⟨0, by omega, rfl, ⟨Below.refl _ _⟩, ⟨fun j h => by omega⟩⟩
  case round =>
    obtain ⟨i, hi, rfl, HBI, HHI⟩ := hrel
    by_cases hlt : i < rr.length
    · obtain ⟨ar, B0, d0, ea, hc0, hm0, hr0⟩ := row_at (Kd.C_below HRR.out HBI.out) i hlt
      subst ea
      obtain ⟨V, hV⟩ : ∃ V, V = rr[i] := ⟨_, rfl⟩
      rw [← hV] at hc0 hm0 hr0
      have hVe : V = x.frameS (x.stateS zi zf i) (zf.getD i []) := hV.trans (HRG.out i hlt)
      have HAI := Aside0.mk (HA5.out.below HBI.out)
      have HBW := Aside0.mk (HB5.out.trans (HBI.out.mono HB5.out.size))
      obtain ⟨_, k0, k1, k2, k3, k4, k5⟩ := HAI.out
      have hi0 : (0 : Int) ≤ (i : Int) := by omega
      have hi1 : (i : Int) < (rr.length : Int) := by omega
      have hzi : i < zf.length := by have := HRN.out; have := HZN.out; omega
      have hzg : zf.getD i [] = zf[i] := by rw [List.getD_eq_getElem?_getD, List.getElem?_eq_getElem hzi]; rfl
      have hil : ((zf.getD i []).length : Int) = x.a0 := by rw [hzg]; exact HZFL.out _ (List.getElem_mem hzi)
      have hsl := stateS_length x zi zf HZL.out i
      have hVl : V.length = 1 + x.a0.toNat + x.l1.length + x.l2.length := by
        rw [hVe]; unfold CP.frameS; rw [frameG_length]; simp only [List.length_cons, List.length_append]; omega
      have hVS := row_state x (x.stateS zi zf i) (zf.getD i []) hil hsl
      rw [← hVe] at hVS
      have HVS := Aside0.mk hVS
      clear hVS hzi hzg hil hsl
      have g1 : wrap64 (1 + x.a0) = 1 + x.a0 := w64 (by omega) (by have := H4.out; omega)
      have g2 : wrap64 (1 + x.a0 + (x.l1.length : Int)) = 1 + x.a0 + (x.l1.length : Int) := w64 (by omega) (by have := H4.out; omega)
      have HVE := Aside0.mk hVe
      have HR0 := Aside0.mk hr0
      clear hV hVe hr0
      obtain ⟨wo, rfl⟩ : ∃ wo : World, wo = wr := ⟨_, rfl⟩
      go_wp2_with fail
      go_region
      have hmid := Kd.C_mid (lo := 1 + x.a0.toNat) (hi := 1 + x.a0.toNat + x.l1.length) HR0.out (by omega) (by omega) hm0
      rw [HVS.out] at hmid
      have hsl := stateS_length x zi zf HZL.out i
      have e1 : (1 + x.a0).toNat = 1 + x.a0.toNat := by omega
      have e2 : (1 + x.a0 + (x.l1.length : Int)).toNat - (1 + x.a0.toNat) = (x.stateS zi zf i).length := by omega
      have e3 : (1 + x.a0.toNat) * (Kd.int .u8).sz = 1 + x.a0.toNat := Nat.mul_one _
      rw [e3] at hmid
      rw [e1, e2]
      obtain ⟨sA, hsA⟩ : ∃ sA, sA = (if d0 = 1 + x.a0.toNat then B0 else Option.map (fun x_1 => x_1.add (1 + x.a0.toNat)) B0) := ⟨_, rfl⟩
      rw [← hsA] at hmid ⊢
      obtain ⟨sc, hsc⟩ : ∃ sc, sc = d0 - (1 + x.a0.toNat) := ⟨_, rfl⟩
      rw [← hsc]
      have hscl : (x.stateS zi zf i).length ≤ sc := by omega
      obtain ⟨st, hst⟩ : ∃ st, st = x.stateS zi zf i := ⟨_, rfl⟩
      have hstb : Bytes st := by rw [hst]; exact stateS_bytes x zi zf HZB.out HZFB.out i
      rw [← hst] at hmid hscl ⊢
      have HST := Aside0.mk hst
      have HSB := Aside0.mk hstb
      have HMID := Aside0.mk hmid
      clear hmid hsl e1 e2 e3 hsA hsc hst hstb g1 g2
      obtain ⟨p, hp⟩ : ∃ p : S43 → Bool, p = fun s => decide (s.f0 = st) && decide (s.f1 ≤ (i : Int)) := ⟨_, rfl⟩
      have HP := Aside0.mk hp
      have HLW := Aside0.mk (Kd.R_below HL5.out HBI.out)
      clear hp
      go_wp2_with fail
      go_loopw [11, 69] (fun u v wr => ∃ j : Nat, j ≤ L.length ∧ u = .bool ((L.take j).any p) ∧ v = .int .i64 j ∧ Aside0 (Below wo.heap.size wo wr)) (fun _ v _ => L.length - (intOf v).toNat)
      case atStart => exact ⟨0, by omega, by simp, rfl, ⟨(Below.refl _ _).drew⟩⟩
      case round =>
        obtain ⟨j, hj, rfl, rfl, HBJ⟩ := hrel
        by_cases hjl : j < L.length
        · have hsn : ((L.take (j + 1)).any p) = ((L.take j).any p || p L[j]) := by
            rw [List.take_succ_eq_append_getElem hjl, List.any_append]; simp
          have HSN := Aside0.mk hsn
          obtain ⟨A2', c2', h1', _, hrl2⟩ := Kd.R_reads (Kd.R_below HLW.out HBJ.out)
          cases h1'
          obtain ⟨al, C0, d1, Cb, db, e1, gs0, gs1, gs2, gs3, gm0, gr0, gmb, grb⟩ := at_state hrl2 j hjl
          subst e1
          obtain ⟨sj, hsj⟩ : ∃ sj, sj = L[j] := ⟨_, rfl⟩
          obtain ⟨q1, q2, q3, q4, q5, q6, q7⟩ := HWK.out.good j hjl
          rw [← hsj] at gs0 gs1 gs2 gs3 gm0 gr0 q1 q2 q3 q4 HSN
          have HBY := Aside0.mk (fun W (hb : Below wr.heap.size wr W) => bytes_calls C0 d1 sj.f0 sA sc st W (Kd.C_below gr0 hb) gm0 (Kd.C_below HMID.out (HBJ.out.trans (hb.mono HBJ.out.size))) hscl (bytes_bit q2) HSB.out)
          have hj0 : (0 : Int) ≤ (j : Int) := by omega
          have hj1 : (j : Int) < (L.length : Int) := by omega
          have hps : p sj = (decide (sj.f0 = st) && decide (sj.f1 ≤ (i : Int))) := by rw [HP.out]
          have HPS := Aside0.mk hps
          clear hsn hrl2 gr0 gm0 grb gmb hps q1 q2 q3 q4 q5 q6 q7 hsj gs2 gs3
          obtain ⟨b, hb⟩ : ∃ b, b = (L.take j).any p := ⟨_, rfl⟩
          rw [← hb] at HSN ⊢
          clear hb
          cases b
          · cases hdn : decide (sj.f0 = st)
            · rw [hdn] at HBY HPS
              go_wp2_with (go_at_call 13; go_must (refine (HBY.out _ (Below.refl _ _)).mono ?_; rintro e w7 ⟨rfl, ⟨nd, rfl⟩⟩))
              exact ⟨⟨j + 1, by omega, by rw [HSN.out, HPS.out]; simp, by go_num, ⟨pw_below_drewN HBJ.out _⟩⟩, by simp [intOf]; omega⟩
            · rw [hdn] at HBY HPS
              go_wp2_with (go_at_call 13; go_must (refine (HBY.out _ (Below.refl _ _)).mono ?_; rintro e w7 ⟨rfl, ⟨nd, rfl⟩⟩))
              exact ⟨⟨j + 1, by omega, by rw [HSN.out, HPS.out]; simp, by go_num, ⟨pw_below_drewN HBJ.out _⟩⟩, by simp [intOf]; omega⟩
          · go_wp2_with fail
            exact ⟨⟨j + 1, by omega, by rw [HSN.out]; simp, by go_num, ⟨HBJ.out⟩⟩, by simp [intOf]; omega⟩
        · have hj' : j = L.length := by omega
          have HFD : Aside0 ((L.take j).any p = true) := ⟨by
            rw [hj', List.take_length]
            obtain ⟨q, hq, g1, g2⟩ := HRUN.out i (by have := HRN.out; have := HZN.out; omega) HHI.out
            rw [gS_eq hq] at g1 g2
            rw [List.any_eq_true]
            exact ⟨L[q], List.getElem_mem hq, by rw [HP.out]; simp [g1, g2, HST.out]⟩⟩
          rw [HFD.out]
          have HBQ := Aside0.mk (HBI.out.trans (HBJ.out.mono HBI.out.size))
          have HBP := Aside0.mk (HBW.out.trans (HBJ.out.mono HBW.out.size))
          have HAP := Aside0.mk (HAI.out.below HBJ.out)
          have hcp := Kd.C_below HRR.out HBQ.out
          obtain ⟨ar', B0', d0', ea, hc0', hm0', hr0'⟩ := row_at hcp i hlt
          cases ea
          have hV2 : rr[i] = V := (HRG.out i hlt).trans HVE.out.symm
          rw [hV2] at hc0' hm0' hr0'
          have hVb : Bytes V := by
            rw [HVE.out]
            refine frameS_bytes x _ _ (stateS_bytes x zi zf HZB.out HZFB.out i) ?_
            have hz : i < zf.length := by have := HRN.out; have := HZN.out; omega
            rw [List.getD_eq_getElem?_getD, List.getElem?_eq_getElem hz]
            exact HZFB.out _ (List.getElem_mem hz)
          have HHC := Aside0.mk (fun W (hb : Below wr.heap.size wr W) => held27_calls x B0' d0' V W (HO.out.below (HBP.out.trans (hb.mono HBP.out.size))) HF.out hVb (Kd.C_below hr0' hb) hm0')
          obtain ⟨hd, hhd⟩ : ∃ hd, hd = x.heldS V := ⟨_, rfl⟩
          rw [← hhd] at HHC
          have HHD := Aside0.mk hhd
          clear hhd hcp hm0' hr0' hV2 hVb HFD hc0 hVl
          obtain ⟨wp, rfl⟩ : ∃ wp : World, wp = wr := ⟨_, rfl⟩
          clear k0 k1 k2 k3 k4 k5
          obtain ⟨_, k0, k1, k2, k3, k4, k5⟩ := HAP.out
          go_wp2_with fail
          go_region_held3 (fun w' => w'.cell? ⟨w.heap.size, 0, none⟩ = some (.int .i64 x.a0) ∧ w'.cell? ⟨w.heap.size, 1, none⟩ = some (.slice x.A1 x.l1.length x.c1) ∧ w'.cell? ⟨w.heap.size, 2, none⟩ = some (.slice x.A2 x.l2.length x.c2) ∧ w'.cell? ⟨w.heap.size, 3, none⟩ = some (.slice x.A3 x.l3.length x.c3) ∧ w'.cell? ⟨w.heap.size, 4, none⟩ = some (.slice x.A4 x.l4.length x.c4) ∧ w'.cell? ⟨w.heap.size, 5, none⟩ = some (.slice x.A5 x.l5.length x.c5) ∧
              w'.cell? (ar.add i) = some (.slice B0' V.length d0'))
            (first
              | go_keep
              | (go_split_ands
                 have hq : ∀ p v, wp.cell? p = some v → w8.cell? p = some v := fun p v h => (hb8.cell (World.block_lt_of_cell? wp p h)).trans h
                 exact ⟨hq _ _ k0, hq _ _ k1, hq _ _ k2, hq _ _ k3, hq _ _ k4, hq _ _ k5, hq _ _ hc0'⟩))
            ((go_at_call 14; (with_reducible refine (HHC.out wp.drew ((Below.refl _ _).drew)).mono ?_); rintro e w8 ⟨rfl, hb8⟩))
          have hbQ2 : Below wp.heap.size wp w8 := ((Below.refl _ _).drew).trans hb8
          have HBR := Aside0.mk (HBQ.out.trans (hbQ2.mono HBQ.out.size))
          have HBS := Aside0.mk (HBP.out.trans (hbQ2.mono HBP.out.size))
          clear hbQ2 hb8 k0 k1 k2 k3 k4 k5 hc0'
          cases hd
          · go_wp2_with (go_at_call 9; go_must (refine (lives_calls _).mono ?_; rintro e w10 ⟨rfl, hb10⟩; have HB10 := Aside0.mk (HBS.out.trans (hb10.mono HBS.out.size)); clear hb10))
            go_ret
            exact ⟨rfl, HB10.out⟩
          · have HHN : Aside0 (∀ j, j < i + 1 → x.heldS (x.frameS (x.stateS zi zf j) (zf.getD j [])) = true) := ⟨fun j hj => by
              by_cases e : j = i
              · rw [e, ← HVE.out, ← HHD.out]
              · exact HHI.out j (by omega)⟩
            go_wp2_with fail
            exact ⟨⟨i + 1, by omega, by go_num, HBR, HHN⟩, by simp [intOf]; omega⟩
    · have HBW := Aside0.mk (HB5.out.trans (HBI.out.mono HB5.out.size))
      go_wp2_with (go_at_call 9; go_must (refine (lives_calls _).mono ?_; rintro e w10 ⟨rfl, hb10⟩; have HB10 := Aside0.mk (HBW.out.trans (hb10.mono HBW.out.size)); clear hb10))
      go_ret
      exact ⟨rfl, HB10.out⟩
end Go.Proofs.Ytdjhjgfjhicbfaa.PWalkRuns

namespace Go.Proofs.Ytdjhjgfjhicbfaa.PWalkRuns
open Go.RowKit Go.Shelf Go.Maps Go.Proofs.YtdjhjgfjhicbfaaW.PrintWords Go.Proofs.YtdjhjgfjhicbfaaW.PrintLast Go.Proofs.YtdjhjgfjhicbfaaW.PrintMore
set_option linter.unusedVariables false
set_option linter.unusedSimpArgs false
set_option maxHeartbeats 4000000 in
set_option maxRecDepth 100000 in
theorem law_walk (x : CP) (bad : Int) (Ai : Option Addr) (ci : Nat) (init : List Int) (Af : Option Addr) (cf : Nat) (frames : List (List Int)) (w : World) (ok : x.Ok w) (fit : x.Fit) (ht : TrIn w bad Ai ci init Af cf frames) (hbi : Bytes init) (hbf : ∀ f ∈ frames, Bytes f) :
    Calls Try.prog 3 #[.agg #[.int .i64 x.a0, .slice x.A1 x.l1.length x.c1, .slice x.A2 x.l2.length x.c2, .slice x.A3 x.l3.length x.c3, .slice x.A4 x.l4.length x.c4, .slice x.A5 x.l5.length x.c5], .agg #[.int .i64 bad, .slice Ai init.length ci, .slice Af frames.length cf]] w fun e w' => e = .returned (.bool true) ∧ Below w.heap.size w w' := by
  have hli : init.length ≤ 9223372036854775807 := ht.ri.2.1
  have hnl : frames.length ≤ 9223372036854775807 := ht.rf.2.1
  have hlf : ∀ f ∈ frames, f.length ≤ 9223372036854775807 := fun f hf => by
    obtain ⟨i, hi, rfl⟩ := List.getElem_of_mem hf
    obtain ⟨_, _, _, _, _, _, h⟩ := row_at ht.rf i hi
    exact h.2.1
  obtain ⟨W1, hW1⟩ : ∃ W1, W1 = (w.alloc (.cells #[.int .i64 x.a0, .slice x.A1 x.l1.length x.c1, .slice x.A2 x.l2.length x.c2, .slice x.A3 x.l3.length x.c3, .slice x.A4 x.l4.length x.c4, .slice x.A5 x.l5.length x.c5] 26)).alloc (.cells #[.int .i64 bad, .slice Ai init.length ci, .slice Af frames.length cf] 30) := ⟨_, rfl⟩
  have hbA : Below w.heap.size w (w.alloc (.cells #[.int .i64 x.a0, .slice x.A1 x.l1.length x.c1, .slice x.A2 x.l2.length x.c2, .slice x.A3 x.l3.length x.c3, .slice x.A4 x.l4.length x.c4, .slice x.A5 x.l5.length x.c5] 26)) := (Below.refl _ _).alloc (Nat.le_refl _) _
  have hb1 : Below w.heap.size w W1 := by rw [hW1]; exact hbA.alloc hbA.size _
  have hat1 : x.At W1 w.heap.size := by rw [hW1]; exact (CP.at_alloc x w).below ((Below.refl _ _).alloc (Nat.le_refl _) _)
  have htr1 : TrAt bad Ai init.length ci Af frames.length cf W1 (w.heap.size + 1) := by
    rw [hW1]
    have : (w.alloc (.cells #[.int .i64 x.a0, .slice x.A1 x.l1.length x.c1, .slice x.A2 x.l2.length x.c2, .slice x.A3 x.l3.length x.c3, .slice x.A4 x.l4.length x.c4, .slice x.A5 x.l5.length x.c5] 26)).heap.size = w.heap.size + 1 := by simp
    rw [← this]; exact tr_at (heap_alloc_at _ _)
  have HAT := Aside0.mk hat1
  have HTA := Aside0.mk htr1
  have HB := Aside0.mk hb1
  have okb := ok.below hb1
  have HG := Aside0.mk (inquestlaw27_great.calls x.a0 x.A1 x.c1 x.l1 x.A2 x.c2 x.l2 x.A3 x.c3 x.l3 x.A4 x.c4 x.l4 x.A5 x.c5 x.l5 x.great _ okb.r1 okb.m1 okb.r2 okb.m2 okb.r3 okb.m3 okb.r4 okb.m4 okb.r5 okb.m5 (great_ref x))
  have HFT := Aside0.mk (fun W (hb : Below w.heap.size w W) => fits8_calls x bad Ai ci init Af cf frames W (ok.below hb) fit (ht.below hb) hli hlf hnl)
  rw [hW1] at HAT HTA HB HG
  obtain ⟨_, k0, k1, k2, k3, k4, k5⟩ := HAT.out
  obtain ⟨_, t0, t1, t2⟩ := HTA.out
  by_cases hall : x.great = false ∧ frames.length ≤ 40 ∧ x.fitsS bad init frames = true ∧ ¬ x.a0 > 4
  · obtain ⟨h1, h2, h3, h4⟩ := hall
    exact law_big x bad Ai ci init Af cf frames w ok fit ht hli hlf h2 hbi hbf h1 h4 h3
  · clear hb1 hbA hat1 htr1 okb hW1 ok fit ht hbi hbf hlf hli
    cases hgr : x.great
    · rw [hgr] at HG hall
      clear hgr
      by_cases h40 : frames.length ≤ 40
      · have d1 : decide ((40 : Int) < (frames.length : Int)) = false := decide_eq_false (by omega)
        cases hft : x.fitsS bad init frames
        · rw [hft] at HFT
          clear hft hall
          go_enter Try.func3, Try.ntmps3
          go_wp2_with (first
            | (go_at_call 7; go_must (refine HG.out.mono ?_; rintro e w1 ⟨rfl, hb1⟩; have HA1 := Aside0.mk (HAT.out.below hb1); have HT1 := Aside0.mk (HTA.out.below hb1); have HB1 := Aside0.mk (HB.out.trans (hb1.mono HB.out.size)); clear hb1 k0 k1 k2 k3 k4 k5 t0 t1 t2; obtain ⟨_, k0, k1, k2, k3, k4, k5⟩ := HA1.out; obtain ⟨_, t0, t1, t2⟩ := HT1.out))
            | (go_at_call 8; go_must (refine (HFT.out _ HB1.out).mono ?_; rintro e w2 ⟨rfl, hb2⟩; have HB2 := Aside0.mk (HB1.out.trans (hb2.mono HB1.out.size)); clear hb2))
            | (go_at_call 9; go_must (refine (lives_calls _).mono ?_; rintro e w3 ⟨rfl, hb3⟩; have HB3 := Aside0.mk (HB2.out.trans (hb3.mono HB2.out.size)); clear hb3)))
          go_ret
          exact ⟨rfl, HB3.out⟩
        · have h4 : x.a0 > 4 := by
            refine Classical.byContradiction fun h => hall ⟨rfl, h40, hft, h⟩
          rw [hft] at HFT
          clear hft hall
          go_enter Try.func3, Try.ntmps3
          go_wp2_with (first
            | (go_at_call 7; go_must (refine HG.out.mono ?_; rintro e w1 ⟨rfl, hb1⟩; have HA1 := Aside0.mk (HAT.out.below hb1); have HT1 := Aside0.mk (HTA.out.below hb1); have HB1 := Aside0.mk (HB.out.trans (hb1.mono HB.out.size)); clear hb1 k0 k1 k2 k3 k4 k5 t0 t1 t2; obtain ⟨_, k0, k1, k2, k3, k4, k5⟩ := HA1.out; obtain ⟨_, t0, t1, t2⟩ := HT1.out))
            | (go_at_call 8; go_must (refine (HFT.out _ HB1.out).mono ?_; rintro e w2 ⟨rfl, hb2⟩; have HA2 := Aside0.mk (HA1.out.below hb2); have HB2 := Aside0.mk (HB1.out.trans (hb2.mono HB1.out.size)); clear hb2 k0 k1 k2 k3 k4 k5 t0 t1 t2; obtain ⟨_, k0, k1, k2, k3, k4, k5⟩ := HA2.out))
            | (go_at_call 9; go_must (refine (lives_calls _).mono ?_; rintro e w3 ⟨rfl, hb3⟩; have HB3 := Aside0.mk (HB2.out.trans (hb3.mono HB2.out.size)); clear hb3)))
          go_ret
          exact ⟨rfl, HB3.out⟩
      · have d1 : decide ((40 : Int) < (frames.length : Int)) = true := decide_eq_true (by omega)
        clear hall
        go_enter Try.func3, Try.ntmps3
        go_wp2_with (first
          | (go_at_call 7; go_must (refine HG.out.mono ?_; rintro e w1 ⟨rfl, hb1⟩; have HT1 := Aside0.mk (HTA.out.below hb1); have HB1 := Aside0.mk (HB.out.trans (hb1.mono HB.out.size)); clear hb1 k0 k1 k2 k3 k4 k5 t0 t1 t2; obtain ⟨_, t0, t1, t2⟩ := HT1.out))
          | (go_at_call 9; go_must (refine (lives_calls _).mono ?_; rintro e w3 ⟨rfl, hb3⟩; have HB3 := Aside0.mk (HB1.out.trans (hb3.mono HB1.out.size)); clear hb3)))
        go_ret
        exact ⟨rfl, HB3.out⟩
    · rw [hgr] at HG
      clear hgr hall
      go_enter Try.func3, Try.ntmps3
      go_wp2_with (first
        | (go_at_call 7; go_must (refine HG.out.mono ?_; rintro e w1 ⟨rfl, hb1⟩; have HB1 := Aside0.mk (HB.out.trans (hb1.mono HB.out.size)); clear hb1))
        | (go_at_call 9; go_must (refine (lives_calls _).mono ?_; rintro e w3 ⟨rfl, hb3⟩; have HB3 := Aside0.mk (HB1.out.trans (hb3.mono HB1.out.size)); clear hb3)))
      go_ret
      exact ⟨rfl, HB3.out⟩
end Go.Proofs.Ytdjhjgfjhicbfaa.PWalkRuns
