/- A part of the proof of WalkLeadsSaid: contracts of functions and plain lemmas; each holds under the hypotheses that it names. -/
import Derived.Test.YtdjhjgfjhicbfaaLeadsGk
import Derived.Test.YtdjhjgfjhicbfaaPWalkLeadsx
import Derived.BigQuiet
import Derived.Laws.Strings
import Derived.Deep.RegionHeld3
namespace Go.Proofs.Ytdjhjgfjhicbfaa.PWalkLeads
open Go.RowKit Go.Shelf Go.Maps Go.Proofs.YtdjhjgfjhicbfaaW.PrintWords Go.Proofs.YtdjhjgfjhicbfaaW.PrintLast Go.Proofs.YtdjhjgfjhicbfaaW.PrintMore
set_option linter.unusedVariables false
set_option linter.unusedSimpArgs false
theorem frame7_calls (x : CP) (A1 A2 : Option Addr) (c1 c2 : Nat) (st inp : List Int) (w : World) (ok : x.Ok w) (fit : x.Fit) (hmay : x.may = true) (h1 : valuesS st (x.l1.length : Int) = true) (h2 : valuesS inp x.a0 = true)
    (hb1 : Bytes st) (hb2 : Bytes inp) (hn1 : st.length ≤ 17592186044416) (hn2 : inp.length ≤ 17592186044416) (hr1 : Kd.C (Kd.int .u8) w A1 st.length st) (hc1 : st.length ≤ c1) (hr2 : Kd.C (Kd.int .u8) w A2 inp.length inp) (hc2 : inp.length ≤ c2) :
    Calls Try.prog 16 #[.agg #[.int .i64 x.a0, .slice x.A1 x.l1.length x.c1, .slice x.A2 x.l2.length x.c2, .slice x.A3 x.l3.length x.c3, .slice x.A4 x.l4.length x.c4, .slice x.A5 x.l5.length x.c5], .slice A1 st.length c1, .slice A2 inp.length c2] w fun e w' => ∃ Av cv An cn,
      e = .returned (.tuple #[.slice Av (x.frameS st inp).length cv, .slice An (x.nextS (x.frameS st inp)).length cn, .int .i64 0]) ∧ (x.frameS st inp).length ≤ cv ∧ Kd.C (Kd.int .u8) w' Av (x.frameS st inp).length (x.frameS st inp) ∧
      (x.nextS (x.frameS st inp)).length ≤ cn ∧ Kd.C (Kd.int .u8) w' An (x.nextS (x.frameS st inp)).length (x.nextS (x.frameS st inp)) ∧ Below w.heap.size w w' := by
  refine (inquestref07_Frame.calls (x.mayK + st.length + inp.length + 4) x.a0 x.A1 x.c1 x.l1 x.A2 x.c2 x.l2 x.A3 x.c3 x.l3 x.A4 x.c4 x.l4 x.A5 x.c5 x.l5 A1 c1 st A2 c2 inp (x.frameS st inp) (x.nextS (x.frameS st inp)) 0 w ok.r1 ok.m1 ok.r2 ok.m2 ok.r3 ok.m3 ok.r4 ok.m4 ok.r5 ok.m5 hr1 hc1 hr2 hc2
    (frame_ref x fit st inp hmay h1 h2 hb1 hb2 hn1 hn2 _ (Nat.le_refl _))).mono ?_
  rintro e w' ⟨v0, v1, rfl, g0, g1, hb⟩
  obtain ⟨Av, cv, rfl, m0, r0⟩ := Kd.R_reads g0
  obtain ⟨An, cn, rfl, m1, r1⟩ := Kd.R_reads g1
  exact ⟨Av, cv, An, cn, rfl, m0, r0, m1, r1, hb⟩
theorem held27_calls (x : CP) (A1 : Option Addr) (c1 : Nat) (V : List Int) (w : World) (ok : x.Ok w) (fit : x.Fit) (hb : Bytes V) (hr1 : Kd.C (Kd.int .u8) w A1 V.length V) (hc1 : V.length ≤ c1) :
    Calls Try.prog 14 #[.agg #[.int .i64 x.a0, .slice x.A1 x.l1.length x.c1, .slice x.A2 x.l2.length x.c2, .slice x.A3 x.l3.length x.c3, .slice x.A4 x.l4.length x.c4, .slice x.A5 x.l5.length x.c5], .slice A1 V.length c1] w fun e w' => e = .returned (.bool (x.heldS V)) ∧ Below w.heap.size w w' :=
  inquestref27_Held.calls (x.l5.length + 2) x.a0 x.A1 x.c1 x.l1 x.A2 x.c2 x.l2 x.A3 x.c3 x.l3 x.A4 x.c4 x.l4 x.A5 x.c5 x.l5 A1 c1 V (x.heldS V) w ok.r1 ok.m1 ok.r2 ok.m2 ok.r3 ok.m3 ok.r4 ok.m4 ok.r5 ok.m5 hr1 hc1 (held_ref x fit V hb _ (by omega))
theorem beq_nums {s t : List Int} (hs : Bytes s) (ht : Bytes t) : ((strOfNums s).toList == (strOfNums t).toList) = decide (s = t) := by
  by_cases h : s = t
  · subst h; simp
  · rw [decide_eq_false h]
    have : (strOfNums s).toList ≠ (strOfNums t).toList := fun e => h (strOf_inj hs ht (by
      rw [ByteArray.toList_eq, ByteArray.toList_eq] at e
      exact e))
    simpa using this
theorem bytes_calls (A0 : Option Addr) (c0 : Nat) (l0 : List Int) (A1 : Option Addr) (c1 : Nat) (l1 : List Int) (w : World) (hr0 : Kd.C (Kd.int .u8) w A0 l0.length l0) (hc0 : l0.length ≤ c0) (hr1 : Kd.C (Kd.int .u8) w A1 l1.length l1) (hc1 : l1.length ≤ c1) (h0 : Bytes l0) (h1 : Bytes l1) :
    Calls Try.prog 13 #[.slice A0 l0.length c0, .slice A1 l1.length c1] w fun e w' => e = .returned (.bool (decide (l0 = l1))) ∧ Drawn0 w w' :=
  inquestref00_Bytes.calls A0 c0 l0 A1 c1 l1 _ w hr0 hc0 hr1 hc1 (by unfold inquestref00_Bytes.f; rw [beq_nums h0 h1])
def inpTo (l : List Int) (m i : Nat) : List Int := (List.range i).map (fun j => if j < l.length then l.getD j 0 % 2 else 0) ++ List.replicate (m - i) 0
def inpS (l : List Int) (m : Nat) : List Int := (List.range m).map (fun j => if j < l.length then l.getD j 0 % 2 else 0)
theorem inpTo_zero (l : List Int) (m : Nat) : inpTo l m 0 = List.replicate m 0 := by simp [inpTo]
theorem inpTo_full (l : List Int) (m : Nat) : inpTo l m m = inpS l m := by simp [inpTo, inpS]
theorem inpS_length (l : List Int) (m : Nat) : (inpS l m).length = m := by simp [inpS]
theorem inpTo_length (l : List Int) (m i : Nat) (h : i ≤ m) : (inpTo l m i).length = m := by simp [inpTo]; omega
theorem inpS_bit (l : List Int) (m : Nat) : ∀ v ∈ inpS l m, v = 0 ∨ v = 1 := by
  intro v hv
  obtain ⟨i, _, rfl⟩ := List.mem_map.1 hv
  split <;> omega
theorem inpTo_set (l : List Int) (m i : Nat) (h : i < m) (hi : i < l.length) : (inpTo l m i).set i (l.getD i 0 % 2) = inpTo l m (i + 1) := by
  unfold inpTo
  rw [List.set_append_right _ _ (by simp), List.length_map, List.length_range, Nat.sub_self]
  have : List.replicate (m - i) (0 : Int) = 0 :: List.replicate (m - (i + 1)) 0 := by
    rw [show m - i = (m - (i + 1)) + 1 by omega, List.replicate_succ]
  rw [this, List.set_cons_zero, List.range_succ]
  simp [hi]
theorem inpTo_skip (l : List Int) (m i : Nat) (h : i < m) (hi : ¬ i < l.length) : inpTo l m i = inpTo l m (i + 1) := by
  unfold inpTo
  have : List.replicate (m - i) (0 : Int) = 0 :: List.replicate (m - (i + 1)) 0 := by
    rw [show m - i = (m - (i + 1)) + 1 by omega, List.replicate_succ]
  rw [this, List.range_succ]
  simp [hi]
theorem values_bit {l : List Int} {n : Int} (h : (l.length : Int) = n) (hv : ∀ v ∈ l, 0 ≤ v ∧ v ≤ 2) : valuesS l n = true := by
  unfold valuesS
  rw [show ((l.length : Int) == n) = true from beq_iff_eq.2 h]
  simp only [Bool.true_and, Bool.not_eq_true', List.any_eq_false]
  intro v hm
  simp
  exact (hv v hm).2
theorem bytes_bit {l : List Int} (hv : ∀ v ∈ l, 0 ≤ v ∧ v ≤ 2) : Bytes l := fun v hm => by have := hv v hm; omega
end Go.Proofs.Ytdjhjgfjhicbfaa.PWalkLeads

namespace Go.Proofs.Ytdjhjgfjhicbfaa.PWalkLeads
open Go.RowKit Go.Shelf Go.Maps Go.Proofs.YtdjhjgfjhicbfaaW.PrintWords Go.Proofs.YtdjhjgfjhicbfaaW.PrintLast Go.Proofs.YtdjhjgfjhicbfaaW.PrintMore
set_option linter.unusedVariables false
set_option linter.unusedSimpArgs false
set_option maxHeartbeats 1000000 in
theorem equal_calls (A0 : Option Addr) (c0 : Nat) (l0 : List Int) (A1 : Option Addr) (c1 : Nat) (l1 : List Int) (w : World) (hr0 : Kd.C (Kd.int .u8) w A0 l0.length l0) (hr1 : Kd.C (Kd.int .u8) w A1 l1.length l1) (h0 : Bytes l0) (h1 : Bytes l1) :
    Calls Try.prog 60 #[.slice A0 l0.length c0, .slice A1 l1.length c1] w fun e w' => e = .returned (.bool (decide (l0 = l1))) ∧ Drawn0 w w' := by
  have HB := Aside0.mk (beq_nums h0 h1)
  have hcv3 := Kd.C_string (P := Try.prog) (A := A0) (c := c0) Try.underlying27 Try.underlying5 Try.underlying9 hr0
  have hcv4 := Kd.C_string (P := Try.prog) (A := A1) (c := c1) Try.underlying27 Try.underlying5 Try.underlying9 hr1
  clear hr0 hr1 h0 h1
  go_enter Try.func60, Try.ntmps60
  go_wp2
  go_ret
  exact ⟨by rw [← HB.out]; rfl, by repeat (first | exact Drawn0.refl _ | apply Drawn0.step)⟩
def alikeS (s t : S43) : Bool := decide (s.f1 = t.f1) && decide (s.f2 = t.f2) && decide (s.f0 = t.f0) && decide (s.f3 = t.f3)
def S43.Bytes (s : S43) : Prop := PWalkLeads.Bytes s.f0 ∧ PWalkLeads.Bytes s.f3
structure S43.In (s : S43) (w : World) (A0 : Option Addr) (c0 : Nat) (A3 : Option Addr) (c3 : Nat) : Prop where
  r0 : Kd.C (Kd.int .u8) w A0 s.f0.length s.f0
  r3 : Kd.C (Kd.int .u8) w A3 s.f3.length s.f3
structure S43.At (s : S43) (w : World) (gb : Nat) (A0 : Option Addr) (c0 : Nat) (A3 : Option Addr) (c3 : Nat) : Prop where
  blk : w.heap[gb]? = some (.cells #[.slice A0 s.f0.length c0, .int .i64 s.f1, .int .i64 s.f2, .slice A3 s.f3.length c3] 43 (0, 0))
  s0 : w.cell? ⟨gb, 0, none⟩ = some (.slice A0 s.f0.length c0)
  s1 : w.cell? ⟨gb, 1, none⟩ = some (.int .i64 s.f1)
  s2 : w.cell? ⟨gb, 2, none⟩ = some (.int .i64 s.f2)
  s3 : w.cell? ⟨gb, 3, none⟩ = some (.slice A3 s.f3.length c3)
theorem s43_at {s : S43} {w : World} {gb : Nat} {A0 : Option Addr} {c0 : Nat} {A3 : Option Addr} {c3 : Nat} (h : w.heap[gb]? = some (.cells #[.slice A0 s.f0.length c0, .int .i64 s.f1, .int .i64 s.f2, .slice A3 s.f3.length c3] 43 (0, 0))) : s.At w gb A0 c0 A3 c3 :=
  ⟨h, cell_blk h 0 _ rfl, cell_blk h 1 _ rfl, cell_blk h 2 _ rfl, cell_blk h 3 _ rfl⟩
set_option maxHeartbeats 4000000 in
theorem alike_calls (s t : S43) (A0 : Option Addr) (c0 : Nat) (A3 : Option Addr) (c3 : Nat) (B0 : Option Addr) (d0 : Nat) (B3 : Option Addr) (d3 : Nat) (w : World) (hs : s.In w A0 c0 A3 c3) (ht : t.In w B0 d0 B3 d3) (bs : s.Bytes) (bt : t.Bytes) :
    Calls Try.prog 44 #[.agg #[.slice A0 s.f0.length c0, .int .i64 s.f1, .int .i64 s.f2, .slice A3 s.f3.length c3], .agg #[.slice B0 t.f0.length d0, .int .i64 t.f1, .int .i64 t.f2, .slice B3 t.f3.length d3]] w fun e w' => e = .returned (.bool (alikeS s t)) ∧ Below w.heap.size w w' := by
  obtain ⟨W1, hW1⟩ : ∃ W1, W1 = (w.alloc (.cells #[.slice A0 s.f0.length c0, .int .i64 s.f1, .int .i64 s.f2, .slice A3 s.f3.length c3] 43)).alloc (.cells #[.slice B0 t.f0.length d0, .int .i64 t.f1, .int .i64 t.f2, .slice B3 t.f3.length d3] 43) := ⟨_, rfl⟩
  have hbA : Below w.heap.size w (w.alloc (.cells #[.slice A0 s.f0.length c0, .int .i64 s.f1, .int .i64 s.f2, .slice A3 s.f3.length c3] 43)) := (Below.refl _ _).alloc (Nat.le_refl _) _
  have hb1 : Below w.heap.size w W1 := by rw [hW1]; exact hbA.alloc hbA.size _
  have hat : s.At W1 w.heap.size A0 c0 A3 c3 := by rw [hW1]; exact s43_at (blk_below (heap_alloc_at _ _) ((Below.refl _ _).alloc (Nat.le_refl _) _))
  have hbt : t.At W1 (w.heap.size + 1) B0 d0 B3 d3 := by
    rw [hW1]
    have : (w.alloc (.cells #[.slice A0 s.f0.length c0, .int .i64 s.f1, .int .i64 s.f2, .slice A3 s.f3.length c3] 43)).heap.size = w.heap.size + 1 := by simp
    rw [← this]; exact s43_at (heap_alloc_at _ _)
  have HE0 := Aside0.mk (fun W (hb : Below w.heap.size w W) => equal_calls A0 c0 s.f0 B0 d0 t.f0 W (Kd.C_below hs.r0 hb) (Kd.C_below ht.r0 hb) bs.1 bt.1)
  have HE3 := Aside0.mk (fun W (hb : Below w.heap.size w W) => equal_calls A3 c3 s.f3 B3 d3 t.f3 W (Kd.C_below hs.r3 hb) (Kd.C_below ht.r3 hb) bs.2 bt.2)
  have HB := Aside0.mk hb1
  have HAT := Aside0.mk hat
  have HBT := Aside0.mk hbt
  rw [hW1] at HB HAT HBT
  obtain ⟨_, a0, a1, a2, a3⟩ := HAT.out
  obtain ⟨_, b0, b1, b2, b3⟩ := HBT.out
  clear hb1 hbA hat hbt hs ht bs bt hW1
  cases e1 : decide (s.f1 = t.f1)
  · have d1 : (s.f1 == t.f1) = false := beq_eq_false_iff_ne.2 (of_decide_eq_false e1)
    have HS : Aside0 (alikeS s t = false) := ⟨by unfold alikeS; rw [e1]; rfl⟩
    clear e1
    go_enter Try.func44, Try.ntmps44
    go_wp2
    go_ret
    exact ⟨by rw [HS.out]; first | done | rfl, HB.out⟩
  · have d1 : (s.f1 == t.f1) = true := beq_iff_eq.2 (of_decide_eq_true e1)
    cases e2 : decide (s.f2 = t.f2)
    · have d2 : (s.f2 == t.f2) = false := beq_eq_false_iff_ne.2 (of_decide_eq_false e2)
      have HS : Aside0 (alikeS s t = false) := ⟨by unfold alikeS; rw [e1, e2]; rfl⟩
      clear e1 e2
      go_enter Try.func44, Try.ntmps44
      go_wp2
      go_ret
      exact ⟨by rw [HS.out]; first | done | rfl, HB.out⟩
    · have d2 : (s.f2 == t.f2) = true := beq_iff_eq.2 (of_decide_eq_true e2)
      cases e3 : decide (s.f0 = t.f0)
      · have HS : Aside0 (alikeS s t = false) := ⟨by unfold alikeS; rw [e1, e2, e3]; rfl⟩
        rw [e3] at HE0
        clear e1 e2 e3
        go_enter Try.func44, Try.ntmps44
        go_wp2_with (go_at_call 60; go_must (refine (HE0.out _ HB.out).mono ?_; rintro e w2 ⟨rfl, hd2⟩; have HB2 := Aside0.mk (HB.out.trans (hd2.below.mono HB.out.size)); clear hd2))
        go_ret
        exact ⟨by rw [HS.out]; first | done | rfl, HB2.out⟩
      · have HS : Aside0 (alikeS s t = decide (s.f3 = t.f3)) := ⟨by unfold alikeS; rw [e1, e2, e3]; rfl⟩
        rw [e3] at HE0
        clear e1 e2 e3
        go_enter Try.func44, Try.ntmps44
        go_wp2_with (first
          | (go_at_call 60; refine (HE3.out _ HB2.out).mono ?_; rintro e w3 ⟨rfl, hd3⟩; have HB3 := Aside0.mk (HB2.out.trans (hd3.below.mono HB2.out.size)); clear hd3)
          | (go_at_call 60; (refine (HE0.out _ HB.out).mono ?_; rintro e w2 ⟨rfl, hd2⟩; have HB2 := Aside0.mk (HB.out.trans (hd2.below.mono HB.out.size)); have a0' := cell_blk (blk_below HAT.out.blk hd2.below) 0 _ rfl; have a3' := cell_blk (blk_below HAT.out.blk hd2.below) 3 _ rfl; have b3' := cell_blk (blk_below HBT.out.blk hd2.below) 3 _ rfl; clear hd2)))
        go_ret
        exact ⟨by rw [HS.out]; first | done | rfl, HB3.out⟩
def alikeP (p : S43 × S43) : Bool := alikeS p.1 p.2
def sameS (L1 L2 : List S43) : Bool := decide (L1.length = L2.length) && (L1.zip L2).all alikeP
theorem alikeS_self (s : S43) : alikeS s s = true := by simp [alikeS]
theorem sameS_self (L : List S43) : sameS L L = true := by
  unfold sameS
  rw [decide_eq_true rfl, Bool.true_and, List.all_eq_true]
  intro p hp
  obtain ⟨i, hi, rfl⟩ := List.getElem_of_mem hp
  rw [List.getElem_zip]
  exact alikeS_self _
theorem enters_alike : Enters Try.prog 44 := enters_of Try.func44 (by kernel_rfl) rfl
set_option maxHeartbeats 4000000 in
set_option maxRecDepth 100000 in
theorem same_calls (L1 L2 : List S43) (A1 : Option Addr) (c1 : Nat) (A2 : Option Addr) (c2 : Nat) (w : World) (hr1 : Kd.C k43 w A1 L1.length L1) (hr2 : Kd.C k43 w A2 L2.length L2) (b1 : ∀ s ∈ L1, s.Bytes) (b2 : ∀ s ∈ L2, s.Bytes) :
    Calls Try.prog 43 #[.slice A1 L1.length c1, .slice A2 L2.length c2, .func (.func 44) #[] #[]] w fun e w' => e = .returned (.bool (sameS L1 L2)) ∧ Below w.heap.size w w' := by
  have hF' := enters_alike
  unfold Enters at hF'
  have hl1 : L1.length ≤ 9223372036854775807 := hr1.2.1
  have hl2 : L2.length ≤ 9223372036854775807 := hr2.2.1
  have HR1 := Aside0.mk hr1
  have HR2 := Aside0.mk hr2
  have HB1 := Aside0.mk b1
  have HB2 := Aside0.mk b2
  clear hr1 hr2 b1 b2
  by_cases hlen : L1.length = L2.length
  · have HS : Aside0 (sameS L1 L2 = (L1.zip L2).all alikeP) := ⟨by unfold sameS; rw [decide_eq_true hlen, Bool.true_and]⟩
    have hne : ((L1.length : Int) != (L2.length : Int)) = false := by rw [hlen]; simp
    have HLEN := Aside0.mk hlen
    clear hlen
    go_enter Try.func43, Try.ntmps43
    go_wp2
    go_loopw [17] (fun v wr => ∃ k : Nat, k ≤ L1.length ∧ v = .int .i64 k ∧ Aside0 (((L1.drop k).zip (L2.drop k)).all alikeP = (L1.zip L2).all alikeP) ∧ Aside0 (Below w.heap.size w wr)) (fun v _ => L1.length - (intOf v).toNat)
    case atStart => exact ⟨0, by omega, rfl, ⟨rfl⟩, ⟨Below.refl _ _⟩⟩
    case round =>
      obtain ⟨k, hk, rfl, HQ, HB⟩ := hrel
      by_cases hlt : k < L1.length
      · have hlt2 : k < L2.length := by have := HLEN.out; omega
        obtain ⟨ad, A0, c0, A3, c3, e1, gs0, gs1, gs2, gs3, gm0, gr0, gm3, gr3⟩ := at_state (Kd.C_below HR1.out HB.out) k hlt
        obtain ⟨ad2, B0, d0, B3, d3, e2, hs0, hs1, hs2, hs3, hm0, hr0, hm3, hr3⟩ := at_state (Kd.C_below HR2.out HB.out) k hlt2
        have HST := HQ.out
        rw [List.drop_eq_getElem_cons hlt, List.drop_eq_getElem_cons hlt2, List.zip_cons_cons, List.all_cons] at HST
        have bs := HB1.out _ (List.getElem_mem hlt)
        have bt := HB2.out _ (List.getElem_mem hlt2)
        obtain ⟨s, hs⟩ : ∃ s, s = L1[k] := ⟨_, rfl⟩
        obtain ⟨t, ht⟩ : ∃ t, t = L2[k] := ⟨_, rfl⟩
        rw [← hs] at gs0 gs1 gs2 gs3 gr0 gr3 HST bs
        rw [← ht] at hs0 hs1 hs2 hs3 hr0 hr3 HST bt
        have HST2 := Aside0.mk HST
        have HAL := Aside0.mk (fun W (hb : Below wr.heap.size wr W) => alike_calls s t A0 c0 A3 c3 B0 d0 B3 d3 W ⟨Kd.C_below gr0 hb, Kd.C_below gr3 hb⟩ ⟨Kd.C_below hr0 hb, Kd.C_below hr3 hb⟩ bs bt)
        have hba : Below wr.heap.size wr (wr.alloc (.cells #[.slice A0 s.f0.length c0, .int .i64 s.f1, .int .i64 s.f2, .slice A3 s.f3.length c3] 43)) := (Below.refl _ _).alloc (Nat.le_refl _) _
        have hbb : Below wr.heap.size wr ((wr.alloc (.cells #[.slice A0 s.f0.length c0, .int .i64 s.f1, .int .i64 s.f2, .slice A3 s.f3.length c3] 43)).alloc (.cells #[.slice B0 t.f0.length d0, .int .i64 t.f1, .int .i64 t.f2, .slice B3 t.f3.length d3] 43)) := hba.alloc hba.size _
        have HBB := Aside0.mk hbb
        have HAD := Aside0.mk e1
        have HAD2 := Aside0.mk e2
        have hq : ∀ o p v, wr.cell? p = some v → (wr.alloc o).cell? p = some v := fun o p v h => ((((Below.refl wr.heap.size wr).alloc (Nat.le_refl _) o)).cell (World.block_lt_of_cell? wr p h)).trans h
        have ks0 := fun o => hq o _ _ hs0
        have ks1 := fun o => hq o _ _ hs1
        have ks2 := fun o => hq o _ _ hs2
        have ks3 := fun o => hq o _ _ hs3
        rw [e1, e2]
        clear HST gm0 gr0 gm3 gr3 hm0 hr0 hm3 hr3 hs ht e1 e2 hba hbb hq bs bt
        cases hal : alikeS s t
        · rw [hal] at HAL
          have HF : Aside0 ((L1.zip L2).all alikeP = false) := ⟨by rw [← HST2.out]; show (alikeS s t && _) = false; rw [hal]; rfl⟩
          clear hal
          go_wp2_with (go_at_fn 44; go_must (refine (HAL.out _ HBB.out).mono ?_; rintro e w7 ⟨rfl, hb7⟩; have HB7 := Aside0.mk (HB.out.trans ((HBB.out.trans (hb7.mono HBB.out.size)).mono HB.out.size)); clear hb7))
          go_ret
          exact ⟨by rw [HS.out, HF.out]; first | done | rfl, HB7.out⟩
        · rw [hal] at HAL
          have HN : Aside0 (((L1.drop (k + 1)).zip (L2.drop (k + 1))).all alikeP = (L1.zip L2).all alikeP) := ⟨by rw [← HST2.out]; show _ = (alikeS s t && _); rw [hal]; rfl⟩
          clear hal
          go_wp2_with (go_at_fn 44; go_must (refine (HAL.out _ HBB.out).mono ?_; rintro e w7 ⟨rfl, hb7⟩; have HB7 := Aside0.mk (HB.out.trans ((HBB.out.trans (hb7.mono HBB.out.size)).mono HB.out.size)); clear hb7))
          exact ⟨⟨k + 1, by omega, by go_num, HN, HB7⟩, by simp [intOf]; omega⟩
      · have HT : Aside0 ((L1.zip L2).all alikeP = true) := ⟨by
          rw [← HQ.out, List.drop_eq_nil_of_le (by omega)]; rfl⟩
        clear HQ
        go_wp2
        go_ret
        exact ⟨by rw [HS.out, HT.out]; first | done | rfl, HB.out⟩
  · have HS : Aside0 (sameS L1 L2 = false) := ⟨by unfold sameS; rw [decide_eq_false hlen, Bool.false_and]⟩
    have hne : ((L1.length : Int) != (L2.length : Int)) = true := by
      rw [bne_iff_ne]; omega
    go_enter Try.func43, Try.ntmps43
    go_wp2
    go_ret
    exact ⟨by rw [HS.out]; first | done | rfl, Below.refl _ _⟩
end Go.Proofs.Ytdjhjgfjhicbfaa.PWalkLeads

namespace Go.Proofs.Ytdjhjgfjhicbfaa.PWalkLeads
open Go.RowKit Go.Shelf Go.Maps Go.Proofs.YtdjhjgfjhicbfaaW.PrintWords Go.Proofs.YtdjhjgfjhicbfaaW.PrintLast Go.Proofs.YtdjhjgfjhicbfaaW.PrintMore
set_option linter.unusedVariables false
set_option linter.unusedSimpArgs false
theorem enters_one : Enters Try.prog 42 := enters_of Try.func42 (by kernel_rfl) rfl
theorem one_calls (v : Int) (w : World) : Calls Try.prog 42 #[.int .u8 v] w fun e w' => e = .returned (.bool (decide (1 < v))) ∧ Below w.heap.size w w' := by
  go_enter Try.func42, Try.ntmps42
  go_wp2
  go_ret
  exact ⟨rfl, Below.refl _ _⟩
theorem results_ct {P : Program} {fn : Func} {p q : Tmp} {ty : TypeId} (h : fn.results = #[.cell p ty, .tmp q]) {tmps : Array Value} {w : World} {a : Addr} {u v : Value}
    (hp : tmps.getD p undef = .pointer (some a)) (hq : tmps.getD q undef = v) (hr : (loadVar ty a).run P w = .ok u w) : (results fn tmps).run P w = .ok (.tuple #[u, v]) w := by
  have hp' : tmps[p]?.getD undef = .pointer (some a) := by simpa using hp
  have hq' : tmps[q]?.getD undef = v := by simpa using hq
  simp [results, h, hp', hq', asAddr, hr]
set_option maxHeartbeats 4000000 in
set_option maxRecDepth 100000 in
theorem to_calls (x : CP) (L : List S43) (at_ : Nat) (i : Int) (A : Option Addr) (c : Nat) (Al : Option Addr) (cl : Nat) (last : List Int) (w : World) (ok : x.Ok w) (fit : x.Fit) (hall : x.allS = (L, 0)) (hbad : x.badS i = true) (hL : Leads L) (hLB : ∀ s ∈ L, s.Bytes)
    (hat : at_ < L.length) (hd : L[at_].f1 < 256) (hll : (last.length : Int) = x.a0) (hlast : last.length ≤ 17592186044416) (hl1 : ∀ v ∈ last, v ≤ 1) (hr : Kd.C k43 w A L.length L) (hrl : Kd.C (Kd.int .u8) w Al last.length last) :
    Calls Try.prog 19 #[.agg #[.int .i64 x.a0, .slice x.A1 x.l1.length x.c1, .slice x.A2 x.l2.length x.c2, .slice x.A3 x.l3.length x.c3, .slice x.A4 x.l4.length x.c4, .slice x.A5 x.l5.length x.c5], .slice A L.length c, .int .i64 at_, .int .i64 i, .slice Al last.length cl] w fun e w' => ∃ vi vf, e = .returned (.tuple #[.agg #[.int .i64 i, vi, vf], .int .i64 0]) ∧
      Kd.R (Kd.int .u8) 5 w' w.heap.size (fun _ => True) vi (leadInit L at_) ∧ Kd.R kRows 27 w' w.heap.size (fun _ => True) vf (leadFrames L at_ last) ∧ Below w.heap.size w w' := by
  obtain ⟨W1, hW1⟩ : ∃ W1, W1 = (w.alloc (.cells #[.int .i64 x.a0, .slice x.A1 x.l1.length x.c1, .slice x.A2 x.l2.length x.c2, .slice x.A3 x.l3.length x.c3, .slice x.A4 x.l4.length x.c4, .slice x.A5 x.l5.length x.c5] 26)).alloc (.cells #[.int .i64 0, .slice none 0 0, .slice none 0 0] 30) := ⟨_, rfl⟩
  have hbA : Below w.heap.size w (w.alloc (.cells #[.int .i64 x.a0, .slice x.A1 x.l1.length x.c1, .slice x.A2 x.l2.length x.c2, .slice x.A3 x.l3.length x.c3, .slice x.A4 x.l4.length x.c4, .slice x.A5 x.l5.length x.c5] 26)) := (Below.refl _ _).alloc (Nat.le_refl _) _
  have hb1 : Below w.heap.size w W1 := by rw [hW1]; exact hbA.alloc hbA.size _
  have hat1 : x.At W1 w.heap.size := by rw [hW1]; exact (CP.at_alloc x w).below ((Below.refl _ _).alloc (Nat.le_refl _) _)
  have htr1 : W1.heap[w.heap.size + 1]? = some (.cells #[.int .i64 0, .slice none 0 0, .slice none 0 0] 30 (0, 0)) := by
    rw [hW1]
    have : (w.alloc (.cells #[.int .i64 x.a0, .slice x.A1 x.l1.length x.c1, .slice x.A2 x.l2.length x.c2, .slice x.A3 x.l3.length x.c3, .slice x.A4 x.l4.length x.c4, .slice x.A5 x.l5.length x.c5] 26)).heap.size = w.heap.size + 1 := by simp
    rw [← this]; exact heap_alloc_at _ _
  have HBD := Aside0.mk (bad_calls x i W1 (ok.below hb1) fit)
  rw [hbad] at HBD
  have HCT := Aside0.mk (fun W (hb : Below w.heap.size w W) => contains_u8 42 enters_one (fun v => decide (1 < v)) Al cl last W (Kd.C_below hrl hb) (fun v hv W hW => one_calls v W))
  have hany : last.any (fun v => decide (1 < v)) = false := by
    rw [List.any_eq_false]
    intro v hv
    have := hl1 v hv
    simp; omega
  rw [hany] at HCT
  have HALL := Aside0.mk (fun W (hb : Below w.heap.size w W) => all_calls x W (ok.below hb) fit)
  rw [hall] at HALL
  have HLD := Aside0.mk (fun W (hb : Below w.heap.size w W) => lead_calls L at_ i A c Al cl last W hL hat hlast (Kd.C_below hr hb) (Kd.C_below hrl hb))
  have HR := Aside0.mk hr
  have HLB := Aside0.mk hLB
  have HAT := Aside0.mk hat1
  have HTA := Aside0.mk htr1
  have HB := Aside0.mk hb1
  rw [hW1] at HAT HTA HB HBD
  obtain ⟨_, k0, k1, k2, k3, k4, k5⟩ := HAT.out
  have hne : ((last.length : Int) != x.a0) = false := by rw [hll]; simp
  have hlm := hL.1
  have ha0 : (0 : Int) ≤ (at_ : Int) := by omega
  have ha1 : (at_ : Int) < (L.length : Int) := by omega
  have hd2 : decide ((256 : Int) ≤ L[at_].f1) = false := decide_eq_false (by omega)
  clear hb1 hbA hat1 htr1 ok fit hr hrl hall hbad hL hLB hll hl1 hany hd hW1 hlast
  go_enter Try.func19, Try.ntmps19
  go_wp2_with (first
    | (go_at_call 40; go_must (refine HBD.out.mono ?_; rintro e w1 ⟨rfl, hb1⟩; have HA1 := Aside0.mk (HAT.out.below hb1); have HT1 := Aside0.mk (blk_below HTA.out hb1); have HB1 := Aside0.mk (HB.out.trans (hb1.mono HB.out.size)); clear hb1 k0 k1 k2 k3 k4 k5; obtain ⟨_, k0, k1, k2, k3, k4, k5⟩ := HA1.out))
    | (go_at_call 41; go_must (refine (HCT.out _ HB1.out).mono ?_; rintro e w2 ⟨rfl, hb2⟩; have HA2 := Aside0.mk (HA1.out.below hb2); have HT2 := Aside0.mk (blk_below HT1.out hb2); have HB2 := Aside0.mk (HB1.out.trans (hb2.mono HB1.out.size)); clear hb2 k0 k1 k2 k3 k4 k5; obtain ⟨_, k0, k1, k2, k3, k4, k5⟩ := HA2.out))
    | (go_at_call 10; go_must (refine (HALL.out _ HB2.out).mono ?_; rintro e w3 ⟨v3, rfl, ho3, hb3⟩; obtain ⟨A3, c3, e3, _, hr3⟩ := Kd.R_reads ho3; subst e3; have HT3 := Aside0.mk (blk_below HT2.out hb3); have HB3 := Aside0.mk (HB2.out.trans (hb3.mono HB2.out.size)); have HSM := Aside0.mk (same_calls L L A c A3 c3 w3 (Kd.C_below HR.out HB3.out) hr3 HLB.out HLB.out); rw [sameS_self] at HSM; clear ho3 hr3 hb3 k0 k1 k2 k3 k4 k5))
    | (go_at_call 43; go_must (refine HSM.out.mono ?_; rintro e w4 ⟨rfl, hb4⟩; have HT4 := Aside0.mk (blk_below HT3.out hb4); have HB4 := Aside0.mk (HB3.out.trans (hb4.mono HB3.out.size)); obtain ⟨ad, A0, c0, Ab, cb, e4, gs0, gs1, gs2, gs3, _, _, _, _⟩ := at_state (Kd.C_below HR.out HB4.out) at_ hat; subst e4; clear hb4 gs0 gs2 gs3))
    | (go_at_call 45; go_must (refine (HLD.out _ HB4.out).mono ?_; rintro e w5 ⟨vi, vf, rfl, hi5, hf5, hb5⟩; obtain ⟨Ai, ci, ei⟩ := Kd.R_slice hi5; subst ei; obtain ⟨Af, cf, ef⟩ := Kd.R_slice hf5; subst ef; have HT5 := Aside0.mk (blk_below HT4.out hb5); have HB5 := Aside0.mk (HB4.out.trans (hb5.mono HB4.out.size)); have HI5 := Aside0.mk (Kd.R_lower hi5 HB4.out.size); have HF5 := Aside0.mk (Kd.R_lower hf5 HB4.out.size); clear hi5 hf5 hb5; have t0 := cell_blk HT5.out 0 _ rfl; have t1 := cell_blk HT5.out 1 _ rfl; have t2 := cell_blk HT5.out 2 _ rfl; have f0 := blk_frozen HT5.out 0; have f1 := blk_frozen HT5.out 1; have f2 := blk_frozen HT5.out 2)))
  have hend := trace_put HT5.out (.int .i64 i) (.slice Ai (leadInit L at_).length ci) (.slice Af (leadFrames L at_ last).length cf)
  have hkp := trace_keep HT5.out (.int .i64 i) (.slice Ai (leadInit L at_).length ci) (.slice Af (leadFrames L at_ last).length cf)
  refine bodyPost_ret (v := .tuple #[.agg #[.int .i64 i, .slice Ai (leadInit L at_).length ci, .slice Af (leadFrames L at_ last).length cf], .int .i64 0]) (results_ct (fn := Try.f19) rfl (a := ⟨w.heap.size + 1, 0, none⟩) rfl rfl (rv_trace hend rfl)) rfl ?_
  refine ⟨_, _, rfl, R_keepT HI5.out (by decide) hkp, R_keepT HF5.out (by decide) hkp, ((HB5.out.setCell (p := ⟨w.heap.size + 1, 0, none⟩) (by simp) _).setCell (p := ⟨w.heap.size + 1, 1, none⟩) (by simp) _).setCell (p := ⟨w.heap.size + 1, 2, none⟩) (by simp) _⟩
end Go.Proofs.Ytdjhjgfjhicbfaa.PWalkLeads

namespace Go.Proofs.Ytdjhjgfjhicbfaa.PWalkLeads
open Go.RowKit Go.Shelf Go.Proofs.YtdjhjgfjhicbfaaW.PrintWords Go.Proofs.YtdjhjgfjhicbfaaW.PrintLast Go.Proofs.YtdjhjgfjhicbfaaW.PrintMore
set_option linter.unusedVariables false
set_option linter.unusedSimpArgs false
theorem vals_run (l : List Int) (n : Int) (hn : l.length ≤ 9223372036854775807) : ∀ (d k i : Nat), i + d = l.length → d < k → inquestref03_values.l0 k l n (i : Int) = some (((l.length : Int) == n) && !(l.drop i).any (fun v => decide (2 < v))) := by
  intro d
  induction d with
  | zero =>
    intro k i hi hk
    obtain ⟨k, rfl⟩ : ∃ k', k = k' + 1 := ⟨k - 1, by omega⟩
    rw [List.drop_eq_nil_of_le (by omega)]
    simp only [inquestref03_values.l0]
    rw [if_neg (by omega)]
    simp
  | succ d ih =>
    intro k i hi hk
    obtain ⟨k, rfl⟩ : ∃ k', k = k' + 1 := ⟨k - 1, by omega⟩
    have hlt : i < l.length := by omega
    have c1 : (i : Int) < (l.length : Int) := by omega
    have c2 : 0 ≤ (i : Int) := by omega
    have hih := ih k (i + 1) (by omega) (by omega)
    have e5 : (i : Int) + 1 = ((i + 1 : Nat) : Int) := by omega
    have w4 : wrap64 ((i : Int) + 1) = ((i + 1 : Nat) : Int) := (w64 (by omega) (by omega)).trans e5
    rw [List.drop_eq_getElem_cons hlt, inquestref03_values.l0, if_pos c1, if_pos c2, rd_get hlt, w4, List.any_cons]
    by_cases g1 : l[i] > 2
    · rw [if_pos g1, decide_eq_true g1]; simp
    · rw [if_neg g1, hih, decide_eq_false g1]; simp
theorem vals_ref (l : List Int) (n : Int) (hn : l.length ≤ 9223372036854775807) (k : Nat) (hk : l.length < k) : inquestref03_values.f k l n = some (valuesS l n) := by
  unfold inquestref03_values.f valuesS
  have := vals_run l n hn l.length k 0 (by omega) hk
  simpa using this
def resetOk : List S61 → List Int → Bool
  | s :: ss, v :: vs => (decide (s.f1 = 2) || decide (s.f1 = v)) && resetOk ss vs
  | _, _ => true
theorem resets_run (x : CP) (fit : x.Fit) (bad : Int) (init : List Int) (frames : List (List Int)) (hi : init.length = x.l1.length) : ∀ (d k i : Nat), i + d = init.length → d < k →
    inquestref03_Fits.l1 k (i : Int) x.a0 x.l1 x.l2 x.l3 x.l4 x.l5 bad init frames = some (resetOk (x.l1.drop i) (init.drop i)) := by
  have hn1 := fit.n1
  intro d
  induction d with
  | zero =>
    intro k i hi hk
    obtain ⟨k, rfl⟩ : ∃ k', k = k' + 1 := ⟨k - 1, by omega⟩
    rw [List.drop_eq_nil_of_le (show init.length ≤ i by omega)]
    simp only [inquestref03_Fits.l1]
    rw [if_neg (by omega)]
    cases x.l1.drop i <;> rfl
  | succ d ih =>
    intro k i hi' hk
    obtain ⟨k, rfl⟩ : ∃ k', k = k' + 1 := ⟨k - 1, by omega⟩
    have hlt : i < init.length := by omega
    have hlt1 : i < x.l1.length := by omega
    have hrd : rd_T61 x.l1 (i : Int) = x.l1[i] := by simp [rd_T61, List.getD_eq_getElem?_getD, hlt1]
    have c1 : (i : Int) < (init.length : Int) := by omega
    have c2 : 0 ≤ (i : Int) := by omega
    have c3 : (i : Int) < (x.l1.length : Int) := by omega
    have hih := ih k (i + 1) (by omega) (by omega)
    have e5 : (i : Int) + 1 = ((i + 1 : Nat) : Int) := by omega
    have w4 : wrap64 ((i : Int) + 1) = ((i + 1 : Nat) : Int) := (w64 (by omega) (by omega)).trans e5
    rw [List.drop_eq_getElem_cons hlt, List.drop_eq_getElem_cons hlt1, inquestref03_Fits.l1, if_pos c1, if_pos c2, if_pos c3, rd_get hlt, hrd, w4, hih]
    show _ = some ((decide (x.l1[i].f1 = 2) || decide (x.l1[i].f1 = init[i])) && resetOk (x.l1.drop (i + 1)) (init.drop (i + 1)))
    by_cases g1 : x.l1[i].f1 = 2
    · rw [if_pos g1, decide_eq_true g1]; simp
    · rw [if_neg g1, decide_eq_false g1]
      by_cases g2 : x.l1[i].f1 = init[i]
      · rw [if_pos g2, decide_eq_true g2]; simp
      · rw [if_neg g2, decide_eq_false g2]; simp
theorem rd_L4_get {l : List (List Int)} {i : Nat} (h : i < l.length) : rd_L4 l (i : Int) = l[i] := by simp [rd_L4, List.getD_eq_getElem?_getD, h]
theorem frames_run (x : CP) (fit : x.Fit) (bad : Int) (init : List Int) (frames : List (List Int)) (hi : init.length = x.l1.length) (M : Nat) (hM : ∀ f ∈ frames, f.length ≤ M) (hM2 : M ≤ 9223372036854775807) (hn : frames.length ≤ 9223372036854775807) : ∀ (d k i : Nat), i + d = frames.length → d + init.length + M + 1 < k →
    inquestref03_Fits.l0 k (i : Int) x.a0 x.l1 x.l2 x.l3 x.l4 x.l5 bad init frames = some ((frames.drop i).all (fun f => valuesS f x.a0) && resetOk x.l1 init) := by
  intro d
  induction d with
  | zero =>
    intro k i hi2 hk
    obtain ⟨k, rfl⟩ : ∃ k', k = k' + 1 := ⟨k - 1, by omega⟩
    rw [List.drop_eq_nil_of_le (show frames.length ≤ i by omega)]
    simp only [inquestref03_Fits.l0]
    rw [if_neg (by omega)]
    have := resets_run x fit bad init frames hi init.length k 0 (by omega) (by omega)
    simpa using this
  | succ d ih =>
    intro k i hi' hk
    obtain ⟨k, rfl⟩ : ∃ k', k = k' + 1 := ⟨k - 1, by omega⟩
    have hlt : i < frames.length := by omega
    have c1 : (i : Int) < (frames.length : Int) := by omega
    have c2 : 0 ≤ (i : Int) := by omega
    have hih := ih k (i + 1) (by omega) (by omega)
    have e5 : (i : Int) + 1 = ((i + 1 : Nat) : Int) := by omega
    have w4 : wrap64 ((i : Int) + 1) = ((i + 1 : Nat) : Int) := (w64 (by omega) (by omega)).trans e5
    have hm := hM frames[i] (List.getElem_mem hlt)
    rw [List.drop_eq_getElem_cons hlt, inquestref03_Fits.l0, if_pos c1, if_pos c2, rd_L4_get hlt, vals_ref _ _ (by omega) k (by omega), w4, hih, List.all_cons]
    simp only [Option.bind_some]
    cases valuesS frames[i] x.a0 <;> simp
def CP.fitsS (x : CP) (bad : Int) (init : List Int) (frames : List (List Int)) : Bool :=
  x.may && decide (0 ≤ bad) && decide (bad < (x.l4.length : Int)) && valuesS init (x.l1.length : Int) && decide (1 ≤ frames.length) && decide (frames.length ≤ 256) && (frames.all (fun f => valuesS f x.a0) && resetOk x.l1 init)
theorem fits_ref (x : CP) (fit : x.Fit) (bad : Int) (init : List Int) (frames : List (List Int)) (M : Nat) (hM : ∀ f ∈ frames, f.length ≤ M) (hM2 : M ≤ 9223372036854775807) (hn : frames.length ≤ 9223372036854775807) (hn2 : init.length ≤ 9223372036854775807) (k : Nat) (hk : x.mayK + init.length + frames.length + M + 4 ≤ k) :
    inquestref03_Fits.f k x.a0 x.l1 x.l2 x.l3 x.l4 x.l5 bad init frames = some (x.fitsS bad init frames) := by
  obtain ⟨k, rfl⟩ : ∃ k', k = k' + 1 := ⟨k - 1, by omega⟩
  have hmk : x.mayK = x.l1.length + x.l2.length + x.l3.length + x.l4.length + x.l5.length + 8 := rfl
  have hj : inquestref03_Fits.j0 (k + 1) true x.a0 x.l1 x.l2 x.l3 x.l4 x.l5 bad init frames = some false := by simp only [inquestref03_Fits.j0]; rw [if_pos trivial]
  unfold inquestref03_Fits.f CP.fitsS
  rw [may_ref x fit _ (by omega)]
  simp only [Option.bind_some]
  cases x.may
  · rw [if_neg (by simp), hj]; simp
  · rw [if_pos rfl]
    by_cases c1 : bad < 0
    · rw [if_pos c1, hj, decide_eq_false (show ¬ 0 ≤ bad by omega)]; simp
    · rw [if_neg c1, decide_eq_true (show 0 ≤ bad by omega)]
      by_cases c2 : bad ≥ (x.l4.length : Int)
      · rw [if_pos c2, hj, decide_eq_false (show ¬ bad < (x.l4.length : Int) by omega)]; simp
      · rw [if_neg c2, decide_eq_true (show bad < (x.l4.length : Int) by omega), vals_ref init _ (by omega) _ (by omega)]
        simp only [Option.bind_some]
        cases hv : valuesS init (x.l1.length : Int)
        · rw [if_neg (by simp), hj]; simp
        · rw [if_pos rfl]
          have hil : init.length = x.l1.length := by
            unfold valuesS at hv
            have := (Bool.and_eq_true_iff.1 hv).1
            have := eq_of_beq this
            omega
          by_cases c3 : (frames.length : Int) < 1
          · rw [if_pos c3, hj, decide_eq_false (show ¬ 1 ≤ frames.length by omega)]; simp
          · rw [if_neg c3, decide_eq_true (show 1 ≤ frames.length by omega)]
            by_cases c4 : frames.length ≤ 256
            · rw [decide_eq_true c4, decide_eq_false (show ¬ (frames.length : Int) > 256 by omega)]
              simp only [inquestref03_Fits.j0]
              rw [if_neg (by simp)]
              have := frames_run x fit bad init frames hil M hM hM2 hn frames.length k 0 (by omega) (by omega)
              simpa using this
            · rw [decide_eq_false c4, decide_eq_true (show (frames.length : Int) > 256 by omega), hj]; simp
def CP.runS (x : CP) : List Int → List (List Int) → List (List Int)
  | _, [] => []
  | st, f :: fs => x.frameS st f :: x.runS (x.nextS (x.frameS st f)) fs
theorem runS_length (x : CP) : ∀ (fs : List (List Int)) (st : List Int), (x.runS st fs).length = fs.length := by
  intro fs
  induction fs with
  | nil => intro st; rfl
  | cons f fs ih => intro st; simp [CP.runS, ih]
def CP.stateS (x : CP) (st : List Int) (fs : List (List Int)) : Nat → List Int
  | 0 => st
  | i + 1 => x.nextS (x.frameS (x.stateS st fs i) (fs.getD i []))
theorem stateS_cons (x : CP) (st f : List Int) (fs : List (List Int)) : ∀ i, x.stateS st (f :: fs) (i + 1) = x.stateS (x.nextS (x.frameS st f)) fs i := by
  intro i
  induction i with
  | zero => rfl
  | succ i ih =>
    show x.nextS (x.frameS (x.stateS st (f :: fs) (i + 1)) ((f :: fs).getD (i + 1) [])) = _
    rw [ih]
    rfl
theorem runS_get (x : CP) : ∀ (fs : List (List Int)) (st : List Int) (i : Nat) (h : i < (x.runS st fs).length), (x.runS st fs)[i] = x.frameS (x.stateS st fs i) (fs.getD i []) := by
  intro fs
  induction fs with
  | nil => intro st i h; simp [CP.runS] at h
  | cons f fs ih =>
    intro st i h
    cases i with
    | zero => rfl
    | succ i =>
      rw [stateS_cons]
      simp only [CP.runS, List.getElem_cons_succ]
      rw [ih]
      rfl
theorem vals_len {l : List Int} {n : Int} (h : valuesS l n = true) : (l.length : Int) = n := by
  unfold valuesS at h
  exact eq_of_beq (Bool.and_eq_true_iff.1 h).1
theorem vals_le {l : List Int} {n : Int} (h : valuesS l n = true) : ∀ v ∈ l, v ≤ 2 := by
  unfold valuesS at h
  have := (Bool.and_eq_true_iff.1 h).2
  simp at this
  exact this
theorem next_vals (x : CP) (V : List Int) (hb : Bytes V) : valuesS (x.nextS V) (x.l1.length : Int) = true ∧ Bytes (x.nextS V) :=
  ⟨values_bit (by simp [CP.nextS]) (nextS_range x V hb), bytes_bit (nextS_range x V hb)⟩
theorem run_run (x : CP) (fit : x.Fit) (hmay : x.may = true) (bad : Int) (init : List Int) (frames : List (List Int)) (hn : frames.length ≤ 256) (hf : ∀ f ∈ frames, valuesS f x.a0 = true ∧ Bytes f) (h0 : x.a0 ≤ 16384) : ∀ (d k i : Nat) (acc : List (List Int)) (st : List Int), i + d = frames.length → d + x.mayK + x.l1.length + x.a0.toNat + 5 ≤ k → acc.length = i →
    valuesS st (x.l1.length : Int) = true → Bytes st →
    inquestref07_Run.l0 k acc st (i : Int) x.a0 x.l1 x.l2 x.l3 x.l4 x.l5 bad init frames = some (acc ++ x.runS st (frames.drop i), 0) := by
  have hn1 := fit.n1
  intro d
  induction d with
  | zero =>
    intro k i acc st hi hk ha hv hb
    obtain ⟨k, rfl⟩ : ∃ k', k = k' + 1 := ⟨k - 1, by omega⟩
    rw [List.drop_eq_nil_of_le (by omega)]
    simp only [inquestref07_Run.l0]
    rw [if_neg (by omega)]
    simp [CP.runS]
  | succ d ih =>
    intro k i acc st hi hk ha hv hb
    obtain ⟨k, rfl⟩ : ∃ k', k = k' + 1 := ⟨k - 1, by omega⟩
    have hlt : i < frames.length := by omega
    obtain ⟨f1, f2⟩ := hf frames[i] (List.getElem_mem hlt)
    have c1 : (i : Int) < (frames.length : Int) := by omega
    have c2 : 0 ≤ (i : Int) := by omega
    have c3 : acc.length < 5864062014805 := by omega
    have l1 := vals_len hv
    have l2 := vals_len f1
    obtain ⟨n1, n2⟩ := next_vals x (x.frameS st frames[i]) (frameS_bytes x _ _ hb f2)
    have hih := ih k (i + 1) (acc ++ [x.frameS st frames[i]]) _ (by omega) (by omega) (by simp [ha]) n1 n2
    have e5 : (i : Int) + 1 = ((i + 1 : Nat) : Int) := by omega
    have w4 : wrap64 ((i : Int) + 1) = ((i + 1 : Nat) : Int) := (w64 (by omega) (by omega)).trans e5
    rw [List.drop_eq_getElem_cons hlt, inquestref07_Run.l0, if_pos c1, if_pos c2, rd_L4_get hlt, frame_ref x fit st frames[i] hmay hv f1 hb f2 (by omega) (by omega) k (by omega)]
    simp only [Option.bind_some, w4]
    rw [if_pos c3, hih, List.append_assoc]
    rfl
theorem run_ref (x : CP) (fit : x.Fit) (bad : Int) (init : List Int) (frames : List (List Int)) (hfits : x.fitsS bad init frames = true) (hb : Bytes init) (hf : ∀ f ∈ frames, Bytes f) (h0 : x.a0 ≤ 16384) (k : Nat) (hk : x.mayK + 2 * x.l1.length + 2 * x.a0.toNat + 300 ≤ k) :
    inquestref07_Run.f k x.a0 x.l1 x.l2 x.l3 x.l4 x.l5 bad init frames = some (x.runS init frames, 0) := by
  have hn1 := fit.n1
  have hF := hfits
  unfold CP.fitsS at hF
  simp only [Bool.and_eq_true, decide_eq_true_eq, List.all_eq_true] at hF
  obtain ⟨⟨⟨⟨⟨⟨g1, g2⟩, g3⟩, g4⟩, g5⟩, g6⟩, g7, g8⟩ := hF
  have l1 := vals_len g4
  unfold inquestref07_Run.f
  rw [fits_ref x fit bad init frames x.a0.toNat (fun f hf => by have := vals_len (g7 f hf); omega) (by omega) (by omega) (by omega) k (by omega), hfits]
  simp only [Option.bind_some]
  rw [if_pos trivial]
  have := run_run x fit g1 bad init frames g6 (fun f h => ⟨g7 f h, hf f h⟩) h0 frames.length k 0 [] init (by omega) (by omega) rfl g4 hb
  simpa using this
end Go.Proofs.Ytdjhjgfjhicbfaa.PWalkLeads

namespace Go.Proofs.Ytdjhjgfjhicbfaa.PWalkLeads
open Go.RowKit Go.Shelf Go.Proofs.YtdjhjgfjhicbfaaW.PrintWords Go.Proofs.YtdjhjgfjhicbfaaW.PrintLast Go.Proofs.YtdjhjgfjhicbfaaW.PrintMore
set_option linter.unusedVariables false
set_option linter.unusedSimpArgs false
theorem freeG_mem : ∀ (l : List S61) (i : Int) (j : Nat) (h : j < l.length), l[j].f1 = 2 → i + (j : Int) ∈ freeG l i := by
  intro l
  induction l with
  | nil => intro i j h; simp at h
  | cons s l ih =>
    intro i j h e
    cases j with
    | zero =>
      have e : s.f1 = 2 := e
      rw [freeG, if_pos e]
      simp
    | succ j =>
      have := ih (i + 1) j (by simpa using h) (by simpa using e)
      rw [show i + ((j + 1 : Nat) : Int) = i + 1 + (j : Int) by omega]
      unfold freeG
      split
      · exact List.mem_cons_of_mem _ this
      · exact this
theorem freeG_two : ∀ (l : List S61) (i : Int) (j : Nat) (h : j < l.length), i + (j : Int) ∈ freeG l i → l[j].f1 = 2 := by
  intro l
  induction l with
  | nil => intro i j h; simp at h
  | cons s l ih =>
    intro i j h e
    cases j with
    | zero =>
      unfold freeG at e
      split at e
      · rename_i h2; exact h2
      · have := (freeG_range l (i + 1) _ e).1
        omega
    | succ j =>
      have hj : j < l.length := by simpa using h
      have : i + 1 + (j : Int) ∈ freeG l (i + 1) := by
        rw [show i + ((j + 1 : Nat) : Int) = i + 1 + (j : Int) by omega] at e
        unfold freeG at e
        split at e
        · rcases List.mem_cons.1 e with h2 | h2
          · omega
          · exact h2
        · exact e
      exact ih (i + 1) j hj this
theorem firstK_other (x : CP) (b : List Int) (p : Nat) (hp : ∀ v ∈ x.freeS, v.toNat ≠ p) : ∀ k, k ≤ x.freeS.length → ∀ (hb : x.freeS.length ≤ b.length), (firstK x.freeS b x.resetS k).getD p 0 = x.resetS.getD p 0 := by
  intro k
  induction k with
  | zero => intro _ _; rw [firstK_zero]
  | succ k ih =>
    intro hk hb
    rw [firstK_succ _ _ _ _ (by omega) (by omega), List.getD_eq_getElem?_getD, List.getElem?_set_ne (hp _ (List.getElem_mem _)), ← List.getD_eq_getElem?_getD]
    exact ih (by omega) hb
theorem resetOk_get : ∀ (ss : List S61) (l : List Int) (j : Nat) (h1 : j < ss.length) (h2 : j < l.length), resetOk ss l = true → ss[j].f1 = 2 ∨ ss[j].f1 = l[j] := by
  intro ss
  induction ss with
  | nil => intro l j h1; simp at h1
  | cons s ss ih =>
    intro l j h1 h2 h
    cases l with
    | nil => simp at h2
    | cons v l =>
      simp only [resetOk, Bool.and_eq_true, Bool.or_eq_true, decide_eq_true_eq] at h
      cases j with
      | zero => exact h.1
      | succ j => exact ih l j (by simpa using h1) (by simpa using h2) h.2
theorem first_of (x : CP) (st : List Int) (hl : st.length = x.l1.length) (hb : ∀ v ∈ st, v = 0 ∨ v = 1) (hr : resetOk x.l1 st = true) : ∃ n, n < 2 ^ x.freeS.length ∧ (x.firstS n).f0 = st := by
  obtain ⟨n, hn, he⟩ := way_of (x.freeS.map (fun i => st.getD i.toNat 0)) (fun v hv => by
    obtain ⟨i, hi, rfl⟩ := List.mem_map.1 hv
    obtain ⟨q0, q1⟩ := freeG_range x.l1 0 i hi
    have h : i.toNat < st.length := by omega
    rw [List.getD_eq_getElem?_getD, List.getElem?_eq_getElem h]
    exact hb _ (List.getElem_mem h))
  rw [List.length_map] at hn he
  refine ⟨n, hn, ?_⟩
  show firstK x.freeS (wayS n x.freeS.length) x.resetS x.freeS.length = st
  have hlen : (firstK x.freeS (wayS n x.freeS.length) x.resetS x.freeS.length).length = st.length := by rw [firstK_length, hl]; simp [CP.resetS]
  refine List.ext_getElem hlen fun j h1 h2 => ?_
  have hj : j < x.l1.length := by omega
  have g1 : (firstK x.freeS (wayS n x.freeS.length) x.resetS x.freeS.length)[j] = (firstK x.freeS (wayS n x.freeS.length) x.resetS x.freeS.length).getD j 0 := by
    rw [List.getD_eq_getElem?_getD, List.getElem?_eq_getElem h1]; rfl
  rw [g1]
  by_cases e : x.l1[j].f1 = 2
  · have hm : (j : Int) ∈ x.freeS := by
      have := freeG_mem x.l1 0 j hj e
      simpa [CP.freeS] using this
    obtain ⟨q, hq, hqe⟩ := List.getElem_of_mem hm
    have := firstK_get x (wayS n x.freeS.length) x.freeS.length q (Nat.le_refl _) hq (by rw [wayS_length]; exact Nat.le_refl _) hq
    rw [hqe, Int.toNat_natCast] at this
    rw [this, he, List.getD_eq_getElem?_getD, List.getElem?_map, List.getElem?_eq_getElem hq]
    simp [hqe, h2]
  · rw [firstK_other x _ j (fun v hv h => e (by
      obtain ⟨q0, q1⟩ := freeG_range x.l1 0 v hv
      have hv2 : (0 : Int) + (j : Int) ∈ freeG x.l1 0 := by
        have : v = (j : Int) := by omega
        rw [Int.zero_add, ← this]; exact hv
      exact freeG_two x.l1 0 j hj hv2)) _ (Nat.le_refl _) (by rw [wayS_length]; exact Nat.le_refl _)]
    rcases resetOk_get x.l1 st j hj h2 hr with g | g
    · exact absurd g e
    · simp [CP.resetS, List.getD_eq_getElem?_getD, hj, g]
theorem run_in {x : CP} {L : List S43} (hw : x.Walked L) (init : List Int) (frames : List (List Int)) (hl : init.length = x.l1.length) (hb : ∀ v ∈ init, v = 0 ∨ v = 1) (hr : resetOk x.l1 init = true)
    (hf : ∀ f ∈ frames, (f.length : Int) = x.a0 ∧ ∀ v ∈ f, v = 0 ∨ v = 1) : ∀ i, i ≤ frames.length → (∀ j, j < i → x.heldS (x.frameS (x.stateS init frames j) (frames.getD j [])) = true) →
    ∃ j, j < L.length ∧ (gS L j).f0 = x.stateS init frames i ∧ (gS L j).f1 ≤ i := by
  intro i
  induction i with
  | zero =>
    intro _ _
    obtain ⟨n, hn, he⟩ := first_of x init hl hb hr
    obtain ⟨M, hM⟩ := hw.start
    have hlen : x.firstsS.length = 2 ^ x.freeS.length := by simp [CP.firstsS]
    have hn2 : n < x.firstsS.length := by omega
    refine ⟨n, by rw [hM, List.length_append]; omega, ?_⟩
    rw [hM, gS_left hn2, gS_first x hn2]
    exact ⟨he, Int.le_refl _⟩
  | succ i ih =>
    intro hi hh
    obtain ⟨j, hj, h1, h2⟩ := ih (by omega) (fun j hj => hh j (by omega))
    have hlt : i < frames.length := by omega
    have hg : frames.getD i [] = frames[i] := by rw [List.getD_eq_getElem?_getD, List.getElem?_eq_getElem hlt]; rfl
    obtain ⟨f1, f2⟩ := hf frames[i] (List.getElem_mem hlt)
    obtain ⟨m, hm, he⟩ := way_of frames[i] f2
    have hh2 := hh i (by omega)
    rw [hg] at hh2
    have hlen : x.a0.toNat = frames[i].length := by omega
    have hc := hw.closed j hj m (by rw [hlen]; exact hm)
    rw [hlen, he] at hc
    unfold CP.Leads1 at hc
    rw [h1] at hc
    obtain ⟨q, hq, q1, q2⟩ := hc hh2
    refine ⟨q, hq, ?_, by omega⟩
    show _ = x.nextS (x.frameS (x.stateS init frames i) (frames.getD i []))
    rw [hg]; exact q1
end Go.Proofs.Ytdjhjgfjhicbfaa.PWalkLeads

namespace Go.Proofs.Ytdjhjgfjhicbfaa.PWalkLeads
open Go.RowKit Go.Shelf Go.Maps Go.Proofs.YtdjhjgfjhicbfaaW.PrintWords Go.Proofs.YtdjhjgfjhicbfaaW.PrintLast Go.Proofs.YtdjhjgfjhicbfaaW.PrintMore
set_option linter.unusedVariables false
set_option linter.unusedSimpArgs false
structure TrIn (w : World) (bad : Int) (Ai : Option Addr) (ci : Nat) (init : List Int) (Af : Option Addr) (cf : Nat) (frames : List (List Int)) : Prop where
  ci : init.length ≤ ci
  ri : Kd.C (Kd.int .u8) w Ai init.length init
  cf : frames.length ≤ cf
  rf : Kd.C (Kd.slice 5 (Kd.int .u8)) w Af frames.length frames
theorem TrIn.below {w w1 : World} {bad : Int} {Ai : Option Addr} {ci : Nat} {init : List Int} {Af : Option Addr} {cf : Nat} {frames : List (List Int)} (h : TrIn w bad Ai ci init Af cf frames) (hb : Below w.heap.size w w1) : TrIn w1 bad Ai ci init Af cf frames :=
  ⟨h.ci, Kd.C_below h.ri hb, h.cf, Kd.C_below h.rf hb⟩
theorem fits8_calls (x : CP) (bad : Int) (Ai : Option Addr) (ci : Nat) (init : List Int) (Af : Option Addr) (cf : Nat) (frames : List (List Int)) (w : World) (ok : x.Ok w) (fit : x.Fit) (ht : TrIn w bad Ai ci init Af cf frames)
    (hli : init.length ≤ 9223372036854775807) (hlf : ∀ f ∈ frames, f.length ≤ 9223372036854775807) (hnf : frames.length ≤ 9223372036854775807) :
    Calls Try.prog 8 #[.agg #[.int .i64 x.a0, .slice x.A1 x.l1.length x.c1, .slice x.A2 x.l2.length x.c2, .slice x.A3 x.l3.length x.c3, .slice x.A4 x.l4.length x.c4, .slice x.A5 x.l5.length x.c5], .agg #[.int .i64 bad, .slice Ai init.length ci, .slice Af frames.length cf]] w fun e w' => e = .returned (.bool (x.fitsS bad init frames)) ∧ Below w.heap.size w w' :=
  inquestref03_Fits.calls (x.mayK + init.length + frames.length + 9223372036854775807 + 4) x.a0 x.A1 x.c1 x.l1 x.A2 x.c2 x.l2 x.A3 x.c3 x.l3 x.A4 x.c4 x.l4 x.A5 x.c5 x.l5 bad Ai ci init Af cf frames (x.fitsS bad init frames) w ok.r1 ok.m1 ok.r2 ok.m2 ok.r3 ok.m3 ok.r4 ok.m4 ok.r5 ok.m5 ht.ri ht.ci ht.rf ht.cf
    (fits_ref x fit bad init frames 9223372036854775807 hlf (Nat.le_refl _) hnf hli _ (Nat.le_refl _))
theorem run11_calls (x : CP) (bad : Int) (Ai : Option Addr) (ci : Nat) (init : List Int) (Af : Option Addr) (cf : Nat) (frames : List (List Int)) (w : World) (ok : x.Ok w) (fit : x.Fit) (P : Nat → Prop) (hs : Kd.V (Kd.int .u8) 5 w w.heap.size (fun k_ => P k_) (.slice Ai init.length ci) init)
    (hrf : Kd.C (Kd.slice 5 (Kd.int .u8)) w Af frames.length frames) (hcf : frames.length ≤ cf) (hfits : x.fitsS bad init frames = true) (hb : Bytes init) (hf : ∀ f ∈ frames, Bytes f) (h0 : x.a0 ≤ 16384) :
    Calls Try.prog 11 #[.agg #[.int .i64 x.a0, .slice x.A1 x.l1.length x.c1, .slice x.A2 x.l2.length x.c2, .slice x.A3 x.l3.length x.c3, .slice x.A4 x.l4.length x.c4, .slice x.A5 x.l5.length x.c5], .agg #[.int .i64 bad, .slice Ai init.length ci, .slice Af frames.length cf]] w fun e w' => ∃ Ar cr, e = .returned (.tuple #[.slice Ar (x.runS init frames).length cr, .int .i64 0]) ∧ (x.runS init frames).length ≤ cr ∧
      Kd.C (Kd.slice 5 (Kd.int .u8)) w' Ar (x.runS init frames).length (x.runS init frames) ∧ Below w.heap.size w w' := by
  refine (inquestref07_Run.calls (x.mayK + 2 * x.l1.length + 2 * x.a0.toNat + 300) x.a0 x.A1 x.c1 x.l1 x.A2 x.c2 x.l2 x.A3 x.c3 x.l3 x.A4 x.c4 x.l4 x.A5 x.c5 x.l5 bad P Ai ci init Af cf frames (x.runS init frames) 0 w ok.r1 ok.m1 ok.r2 ok.m2 ok.r3 ok.m3 ok.r4 ok.m4 ok.r5 ok.m5 hs hrf hcf
    (run_ref x fit bad init frames hfits hb hf h0 _ (Nat.le_refl _))).mono ?_
  rintro e w' ⟨v0, rfl, g0, hb⟩
  obtain ⟨Ar, cr, rfl, m0, r0⟩ := Kd.R_reads (Kd.S_R g0)
  exact ⟨Ar, cr, rfl, m0, r0, hb⟩
structure TrAt (bad : Int) (Ai : Option Addr) (ni ci : Nat) (Af : Option Addr) (nf cf : Nat) (w : World) (gb : Nat) : Prop where
  blk : w.heap[gb]? = some (.cells #[.int .i64 bad, .slice Ai ni ci, .slice Af nf cf] 30 (0, 0))
  t0 : w.cell? ⟨gb, 0, none⟩ = some (.int .i64 bad)
  t1 : w.cell? ⟨gb, 1, none⟩ = some (.slice Ai ni ci)
  t2 : w.cell? ⟨gb, 2, none⟩ = some (.slice Af nf cf)
theorem tr_at {bad : Int} {Ai : Option Addr} {ni ci : Nat} {Af : Option Addr} {nf cf : Nat} {w : World} {gb : Nat} (h : w.heap[gb]? = some (.cells #[.int .i64 bad, .slice Ai ni ci, .slice Af nf cf] 30 (0, 0))) : TrAt bad Ai ni ci Af nf cf w gb :=
  ⟨h, cell_blk h 0 _ rfl, cell_blk h 1 _ rfl, cell_blk h 2 _ rfl⟩
theorem TrAt.below {bad : Int} {Ai : Option Addr} {ni ci : Nat} {Af : Option Addr} {nf cf : Nat} {w w1 : World} {gb : Nat} (h : TrAt bad Ai ni ci Af nf cf w gb) (hb : Below w.heap.size w w1) : TrAt bad Ai ni ci Af nf cf w1 gb :=
  tr_at (blk_below h.blk hb)
theorem stateS_length (x : CP) (st : List Int) (fs : List (List Int)) (h : st.length = x.l1.length) : ∀ i, (x.stateS st fs i).length = x.l1.length := by
  intro i
  cases i with
  | zero => exact h
  | succ i => simp [CP.stateS, CP.nextS]
theorem frameG_prefix (gs : List S68) : ∀ l, ∃ M, frameG gs l = l ++ M := by
  induction gs with
  | nil => intro l; exact ⟨[], by simp [frameG]⟩
  | cons g gs ih =>
    intro l
    obtain ⟨M, hM⟩ := ih (l ++ [and1 (valS l g.f0) (valS l g.f1)])
    exact ⟨_ :: M, by rw [frameG, hM, List.append_assoc]; rfl⟩
theorem row_state (x : CP) (st inp : List Int) (h1 : (inp.length : Int) = x.a0) (h2 : st.length = x.l1.length) : ((x.frameS st inp).take (1 + x.a0.toNat + x.l1.length)).drop (1 + x.a0.toNat) = st := by
  obtain ⟨M, hM⟩ := frameG_prefix x.l2 (0 :: (inp ++ st))
  unfold CP.frameS
  rw [hM]
  have e1 : 1 + x.a0.toNat = (0 :: inp).length := by simp; omega
  have e2 : 1 + x.a0.toNat + x.l1.length = (0 :: (inp ++ st)).length := by simp; omega
  rw [e2, List.take_left', e1]
  · show List.drop (0 :: inp).length ((0 :: inp) ++ st) = st
    exact List.drop_left
  · rfl
theorem stateS_bytes (x : CP) (st : List Int) (fs : List (List Int)) (h : Bytes st) (hf : ∀ f ∈ fs, Bytes f) : ∀ i, Bytes (x.stateS st fs i) := by
  intro i
  induction i with
  | zero => exact h
  | succ i ih =>
    refine bytes_bit (nextS_range x _ (frameS_bytes x _ _ ih ?_))
    rw [List.getD_eq_getElem?_getD]
    by_cases hi : i < fs.length
    · rw [List.getElem?_eq_getElem hi]; exact hf _ (List.getElem_mem hi)
    · rw [List.getElem?_eq_none (by omega)]; intro v hv; exact absurd hv (by simp)
end Go.Proofs.Ytdjhjgfjhicbfaa.PWalkLeads

namespace Go.Proofs.Ytdjhjgfjhicbfaa.PWalkLeads
open Go.RowKit Go.Shelf Go.Proofs.YtdjhjgfjhicbfaaW.PrintWords Go.Proofs.YtdjhjgfjhicbfaaW.PrintLast Go.Proofs.YtdjhjgfjhicbfaaW.PrintMore
set_option linter.unusedVariables false
set_option linter.unusedSimpArgs false
def Bits (l : List Int) : Prop := ∀ v ∈ l, v = 0 ∨ v = 1
theorem rd_bit {l : List Int} (h : Bits l) {i : Int} (h0 : 0 ≤ i) (h1 : i < (l.length : Int)) : rd l i = 0 ∨ rd l i = 1 := by
  unfold rd
  have hi : i.toNat < l.length := by omega
  rw [List.getD_eq_getElem?_getD, List.getElem?_eq_getElem hi]
  exact h _ (List.getElem_mem hi)
theorem valS_bit {l : List Int} (h : Bits l) {lit : Int} (h0 : 0 ≤ lit) (h1 : lit / 2 < (l.length : Int)) : valS l lit = 0 ∨ valS l lit = 1 := by
  have hr := rd_bit h (i := lit / 2) (by omega) h1
  unfold valS not1
  rw [if_neg (by omega), if_neg (by omega)]
  rcases hr with e | e <;> rw [e] <;> split <;> simp
theorem and1_bit {a b : Int} (ha : a = 0 ∨ a = 1) (hb : b = 0 ∨ b = 1) : and1 a b = 0 ∨ and1 a b = 1 := by
  rcases ha with rfl | rfl <;> rcases hb with rfl | rfl <;> simp [and1]
theorem frameG_bits : ∀ (gs : List S68) (own : Int) (l : List Int), Bits l → (l.length : Int) = own + 1 → gatesBad own gs = false → (∀ s ∈ gs, 0 ≤ s.f0 ∧ 0 ≤ s.f1) → Bits (frameG gs l) := by
  intro gs
  induction gs with
  | nil => intro own l h _ _ _; exact h
  | cons g gs ih =>
    intro own l h hl hb hg
    simp only [gatesBad, Bool.or_eq_false_iff, decide_eq_false_iff_not] at hb
    obtain ⟨⟨b1, b2⟩, b3⟩ := hb
    obtain ⟨g1, g2⟩ := hg g List.mem_cons_self
    refine ih (own + 1) _ ?_ (by simp; omega) b3 (fun s hs => hg s (List.mem_cons_of_mem _ hs))
    intro v hv
    rcases List.mem_append.1 hv with hv | hv
    · exact h v hv
    · have e : v = and1 (valS l g.f0) (valS l g.f1) := by simpa using hv
      rw [e]
      exact and1_bit (valS_bit h g1 (by omega)) (valS_bit h g2 (by omega))
theorem may_parts {x : CP} (h : x.may = true) : 0 ≤ x.a0 ∧ x.lats x.l1 = false ∧ gatesBad (x.a0 + (x.l1.length : Int)) x.l2 = false := by
  unfold CP.may at h
  split at h
  · cases h
  · rename_i c1
    split at h
    · cases h
    · split at h
      · cases h
      · rename_i c3
        refine ⟨by omega, by simpa using c3, by simpa using h⟩
theorem next_bits {x : CP} (fit : x.Fit) (hmay : x.may = true) {st inp : List Int} (h1 : Bits st) (h2 : Bits inp) (l1 : st.length = x.l1.length) (l2 : (inp.length : Int) = x.a0) : Bits (x.nextS (x.frameS st inp)) := by
  obtain ⟨m0, m1, m2⟩ := may_parts hmay
  have hb : Bits (0 :: (inp ++ st)) := by
    intro v hv
    rcases List.mem_cons.1 hv with rfl | hv
    · exact .inl rfl
    · rcases List.mem_append.1 hv with hv | hv
      · exact h2 v hv
      · exact h1 v hv
  have hV : Bits (x.frameS st inp) := frameG_bits x.l2 _ _ hb (by simp; omega) m2 (fun s hs => by have := fit.g2 s hs; omega)
  have hl : ((x.frameS st inp).length : Int) = x.vars + 1 := by
    unfold CP.frameS CP.vars
    rw [frameG_length]
    simp only [List.length_cons, List.length_append]
    omega
  intro v hv
  obtain ⟨s, hs, rfl⟩ := List.mem_map.1 hv
  unfold CP.lats at m1
  rw [List.any_eq_false] at m1
  have := m1 s hs
  simp only [Bool.or_eq_true, decide_eq_true_eq, not_or, CP.far] at this
  have hf := fit.g1 s hs
  exact valS_bit hV hf.1 (by omega)
theorem first_bits {x : CP} (fit : x.Fit) (hmay : x.may = true) (n : Nat) : Bits (x.firstS n).f0 ∧ resetOk x.l1 (x.firstS n).f0 = true := by
  obtain ⟨m0, m1, m2⟩ := may_parts hmay
  unfold CP.lats at m1
  rw [List.any_eq_false] at m1
  have hlen : (x.firstS n).f0.length = x.l1.length := by
    show (firstK _ _ _ _).length = _
    rw [firstK_length]; simp [CP.resetS]
  have key : ∀ j (h1 : j < x.l1.length) (h2 : j < (x.firstS n).f0.length), ((x.firstS n).f0[j] = 0 ∨ (x.firstS n).f0[j] = 1) ∧ (x.l1[j].f1 = 2 ∨ x.l1[j].f1 = (x.firstS n).f0[j]) := by
    intro j h1 h2
    have g1 : (x.firstS n).f0[j] = (firstK x.freeS (wayS n x.freeS.length) x.resetS x.freeS.length).getD j 0 := by
      have h2' : j < (firstK x.freeS (wayS n x.freeS.length) x.resetS x.freeS.length).length := h2
      rw [List.getD_eq_getElem?_getD, List.getElem?_eq_getElem h2']; rfl
    rw [g1]
    by_cases e : x.l1[j].f1 = 2
    · have hm : (j : Int) ∈ x.freeS := by
        have := freeG_mem x.l1 0 j h1 e
        simpa [CP.freeS] using this
      obtain ⟨q, hq, hqe⟩ := List.getElem_of_mem hm
      have := firstK_get x (wayS n x.freeS.length) x.freeS.length q (Nat.le_refl _) hq (by rw [wayS_length]; exact Nat.le_refl _) hq
      rw [hqe, Int.toNat_natCast] at this
      rw [this]
      have hq2 : q < (wayS n x.freeS.length).length := by rw [wayS_length]; exact hq
      refine ⟨?_, .inl e⟩
      rw [List.getD_eq_getElem?_getD, List.getElem?_eq_getElem hq2]
      exact wayS_bit _ _ _ (List.getElem_mem hq2)
    · rw [firstK_other x _ j (fun v hv h => e (by
        obtain ⟨q0, q1⟩ := freeG_range x.l1 0 v hv
        have hv2 : (0 : Int) + (j : Int) ∈ freeG x.l1 0 := by
          have : v = (j : Int) := by omega
          rw [Int.zero_add, ← this]; exact hv
        exact freeG_two x.l1 0 j h1 hv2)) _ (Nat.le_refl _) (by rw [wayS_length]; exact Nat.le_refl _)]
      have hr : x.resetS.getD j 0 = x.l1[j].f1 := by simp [CP.resetS, List.getD_eq_getElem?_getD, h1]
      rw [hr]
      have hs := m1 x.l1[j] (List.getElem_mem h1)
      simp only [Bool.or_eq_true, decide_eq_true_eq, not_or] at hs
      have hg := fit.g1 x.l1[j] (List.getElem_mem h1)
      exact ⟨by omega, .inr rfl⟩
  refine ⟨fun v hv => ?_, ?_⟩
  · obtain ⟨j, hj, rfl⟩ := List.getElem_of_mem hv
    exact (key j (by omega) hj).1
  · have gen : ∀ (ss : List S61) (l : List Int), (∀ j (h1 : j < ss.length) (h2 : j < l.length), ss[j].f1 = 2 ∨ ss[j].f1 = l[j]) → resetOk ss l = true := by
      intro ss
      induction ss with
      | nil => intro l _; rfl
      | cons s ss ih =>
        intro l h
        cases l with
        | nil => rfl
        | cons v l =>
          simp only [resetOk, Bool.and_eq_true, Bool.or_eq_true, decide_eq_true_eq]
          exact ⟨h 0 (by simp) (by simp), ih l (fun j h1 h2 => h (j + 1) (by simpa using h1) (by simpa using h2))⟩
    exact gen _ _ (fun j h1 h2 => (key j h1 h2).2)
theorem inner_grow {x : CP} {at_ m : Nat} {L : List S43} : ∀ n L', x.innerS at_ m L n = some L' → ∃ M, L' = L ++ M ∧ ∀ s ∈ M, 0 ≤ s.f2 := by
  intro n
  induction n with
  | zero => intro L' h; injection h with h; exact ⟨[], by simp [h], fun s hs => by simp at hs⟩
  | succ n ih =>
    intro L' h
    obtain ⟨L2, h1, h2⟩ := Option.bind_eq_some_iff.1 h
    obtain ⟨M, rfl, hM⟩ := ih L2 h1
    rcases step_cases h2 with ⟨rfl, _⟩ | ⟨_, _, rfl⟩
    · exact ⟨M, rfl, hM⟩
    · refine ⟨M ++ [_], by rw [List.append_assoc], fun s hs => ?_⟩
      rcases List.mem_append.1 hs with hs | hs
      · exact hM s hs
      · have e := List.mem_singleton.1 hs
        rw [e]
        show (0 : Int) ≤ (at_ : Int)
        omega
theorem outer_grow {x : CP} : ∀ k at_ L L', x.outerS k at_ L = some L' → ∃ M, L' = L ++ M ∧ ∀ s ∈ M, 0 ≤ s.f2 := by
  intro k
  induction k with
  | zero => intro at_ L L' h; cases h
  | succ k ih =>
    intro at_ L L' h
    unfold CP.outerS at h
    split at h
    · obtain ⟨L2, h1, h2⟩ := Option.bind_eq_some_iff.1 h
      obtain ⟨M, rfl, hM⟩ := inner_grow _ _ h1
      obtain ⟨M2, rfl, hM2⟩ := ih _ _ _ h2
      refine ⟨M ++ M2, by rw [List.append_assoc], fun s hs => ?_⟩
      rcases List.mem_append.1 hs with hs | hs
      · exact hM s hs
      · exact hM2 s hs
    · injection h with h; exact ⟨[], by simp [h], fun s hs => by simp at hs⟩
theorem walked_walk {x : CP} {L : List S43} (hw : x.Walked L) (hmay : x.may = true) : x.walkS = some L := by
  have h := hw.all
  have hs := hw.some
  unfold CP.allS at h
  rw [if_neg (by rw [hmay]; simp)] at h
  split at h
  · have h1 := congrArg Prod.snd h
    exact absurd h1 (show ¬ ((3 : Int) = 0) by decide)
  · split at h
    · rename_i L2 h2
      have h1 := congrArg Prod.fst h
      rw [h2]
      exact congrArg some h1
    · have h1 := congrArg Prod.snd h
      exact absurd h1 (show ¬ ((3 : Int) = 0) by decide)
theorem root_first {x : CP} {L : List S43} (hw : x.Walked L) (hmay : x.may = true) {j : Nat} (hj : j < L.length) (hr : (gS L j).f2 = -1) : ∃ n, gS L j = x.firstS n := by
  obtain ⟨M, hM, hg⟩ := outer_grow _ _ _ _ (walked_walk hw hmay)
  by_cases h : j < x.firstsS.length
  · exact ⟨j, by rw [hM, gS_left h, gS_first x h]⟩
  · have hj2 : j - x.firstsS.length < M.length := by
      have : L.length = x.firstsS.length + M.length := by rw [hM, List.length_append]
      omega
    have := hg M[j - x.firstsS.length] (List.getElem_mem hj2)
    have e : gS L j = M[j - x.firstsS.length] := by
      rw [gS_eq hj]
      simp only [hM]
      rw [List.getElem_append_right (by omega)]
    rw [← e] at this
    omega
theorem state_bits {x : CP} (fit : x.Fit) (hmay : x.may = true) {L : List S43} (hw : x.Walked L) : ∀ N j, j < N → j < L.length → Bits (gS L j).f0 := by
  obtain ⟨at_, ht⟩ := hw.tree
  intro N
  induction N with
  | zero => intro j h; omega
  | succ N ih =>
    intro j hN hj
    by_cases hr : (gS L j).f2 = -1
    · obtain ⟨n, e⟩ := root_first hw hmay hj hr
      rw [e]; exact (first_bits fit hmay n).1
    · obtain ⟨g1, g2, g3, g4, g5, g6, g7⟩ := hw.good j hj
      rw [gS_eq hj] at hr
      obtain ⟨l3, b3⟩ := g7 hr
      have hf : 0 ≤ (gS L j).f2 := by rw [gS_eq hj]; omega
      obtain ⟨o1, o2, o3⟩ := ht.orig j hj hf
      have hlt : (gS L j).f2.toNat < j := by rw [gS_eq hj] at hf ⊢; omega
      have hb := ih (gS L j).f2.toNat (by omega) (by omega)
      have hlen : (gS L (gS L j).f2.toNat).f0.length = x.l1.length := by
        rw [gS_eq (show (gS L j).f2.toNat < L.length by omega)]; exact (hw.good _ (by omega)).1
      have hx0 := (may_parts hmay).1
      rw [← o3]
      exact next_bits fit hmay hb (by rw [gS_eq hj]; exact b3) hlen (by rw [gS_eq hj, l3]; omega)
def code2 : List Int → Nat
  | [] => 0
  | v :: l => v.toNat + 2 * code2 l
theorem code2_lt (l : List Int) (h : Bits l) : code2 l < 2 ^ l.length := by
  induction l with
  | nil => simp [code2]
  | cons v l ih =>
    have := ih (fun u hu => h u (List.mem_cons_of_mem _ hu))
    have := h v List.mem_cons_self
    simp only [code2, List.length_cons, Nat.pow_succ]
    omega
theorem code2_inj : ∀ (l l' : List Int), l.length = l'.length → Bits l → Bits l' → code2 l = code2 l' → l = l' := by
  intro l
  induction l with
  | nil => intro l' h _ _ _; exact (List.length_eq_zero_iff.1 h.symm).symm
  | cons v l ih =>
    intro l' h h1 h2 he
    cases l' with
    | nil => simp at h
    | cons u l' =>
      have a := h1 v List.mem_cons_self
      have b := h2 u List.mem_cons_self
      simp only [code2] at he
      have e1 : v.toNat = u.toNat := by omega
      have e2 : code2 l = code2 l' := by omega
      have e3 : v = u := by omega
      rw [e3, ih l' (by simpa using h) (fun w hw => h1 w (List.mem_cons_of_mem _ hw)) (fun w hw => h2 w (List.mem_cons_of_mem _ hw)) e2]
theorem walk_short {x : CP} (fit : x.Fit) (hmay : x.may = true) {L : List S43} (hw : x.Walked L) (h7 : x.l1.length ≤ 7) : L.length ≤ 128 := by
  obtain ⟨at_, ht⟩ := hw.tree
  have hmem : ∀ s ∈ L, s.f0.length = x.l1.length ∧ Bits s.f0 := by
    intro s hs
    obtain ⟨j, hj, rfl⟩ := List.getElem_of_mem hs
    exact ⟨(hw.good j hj).1, by rw [← gS_eq hj]; exact state_bits fit hmay hw (j + 1) j (by omega) hj⟩
  have hn : ((L.map (fun s => s.f0)).map code2).Nodup := by
    refine List.pairwise_map.2 (List.Pairwise.imp_of_mem (R := fun a b => a ≠ b) (fun ha hb hab he => ?_) ht.once)
    obtain ⟨s, hs, rfl⟩ := List.mem_map.1 ha
    obtain ⟨s', hs', rfl⟩ := List.mem_map.1 hb
    exact hab (code2_inj _ _ ((hmem s hs).1.trans (hmem s' hs').1.symm) (hmem s hs).2 (hmem s' hs').2 he)
  have := pigeon 128 _ hn (fun v hv => by
    obtain ⟨l, hl, rfl⟩ := List.mem_map.1 hv
    obtain ⟨s, hs, rfl⟩ := List.mem_map.1 hl
    have h1 := code2_lt _ (hmem s hs).2
    rw [(hmem s hs).1] at h1
    have h2 : 2 ^ x.l1.length ≤ 2 ^ 7 := Nat.pow_le_pow_right (by decide) h7
    have h3 : (2 : Nat) ^ 7 = 128 := by decide
    omega)
  simpa using this
end Go.Proofs.Ytdjhjgfjhicbfaa.PWalkLeads

namespace Go.Proofs.Ytdjhjgfjhicbfaa.PWalkLeads
open Go.RowKit Go.Shelf Go.Proofs.YtdjhjgfjhicbfaaW.PrintWords Go.Proofs.YtdjhjgfjhicbfaaW.PrintLast Go.Proofs.YtdjhjgfjhicbfaaW.PrintMore
set_option linter.unusedVariables false
set_option linter.unusedSimpArgs false
theorem chain_run {x : CP} {L : List S43} (hw : x.Walked L) {at0 : Nat} (ht : x.Tree L at0) : ∀ k a, a < L.length → a < k → ∀ T : List (List Int),
    (chainS L k a).2 < L.length ∧ (gS L (chainS L k a).2).f2 = -1 ∧ ((chainS L k a).1.length : Int) = (gS L a).f1 ∧ (∀ f ∈ (chainS L k a).1, f.length = x.a0.toNat ∧ Bits f) ∧
    x.stateS (gS L (chainS L k a).2).f0 ((chainS L k a).1.reverse ++ T) (chainS L k a).1.length = (gS L a).f0 ∧
    ∀ i, i < (chainS L k a).1.length → x.heldS (x.frameS (x.stateS (gS L (chainS L k a).2).f0 ((chainS L k a).1.reverse ++ T) i) (((chainS L k a).1.reverse ++ T).getD i [])) = true := by
  intro k
  induction k with
  | zero => intro a _ h; omega
  | succ k ih =>
    intro a ha hk T
    obtain ⟨g1, g2, g3, g4, g5, g6, g7⟩ := hw.good a ha
    rw [← gS_eq ha] at g3 g4 g5 g6 g7
    have hg : L.getD a z43 = gS L a := rfl
    by_cases hn : 0 ≤ (gS L a).f2
    · have e : chainS L (k + 1) a = ((gS L a).f3 :: (chainS L k (gS L a).f2.toNat).1, (chainS L k (gS L a).f2.toNat).2) := by
        rw [chainS, hg, if_pos hn]
      obtain ⟨o1, o2, o3⟩ := ht.orig a ha hn
      obtain ⟨i1, i2, i3, i4, i5, i6⟩ := ih (gS L a).f2.toNat (by omega) (by omega) ((gS L a).f3 :: T)
      obtain ⟨b1, b2⟩ := g7 (by omega)
      rw [e]
      simp only [List.reverse_cons, List.append_assoc, List.singleton_append, List.length_cons]
      have hd : ((chainS L k (gS L a).f2.toNat).1.reverse ++ (gS L a).f3 :: T).getD (chainS L k (gS L a).f2.toNat).1.length [] = (gS L a).f3 := by
        rw [List.getD_eq_getElem?_getD, List.getElem?_append_right (by simp)]
        simp
      refine ⟨i1, i2, by push_cast; omega, ?_, ?_, ?_⟩
      · intro f hf
        rcases List.mem_cons.1 hf with rfl | hf
        · exact ⟨b1, b2⟩
        · exact i4 f hf
      · show x.nextS (x.frameS (x.stateS _ _ _) _) = _
        rw [i5, hd, o3]
      · intro i hi
        by_cases hlt : i < (chainS L k (gS L a).f2.toNat).1.length
        · exact i6 i hlt
        · have : i = (chainS L k (gS L a).f2.toNat).1.length := by omega
          rw [this, i5, hd]
          exact o2
    · have e : chainS L (k + 1) a = ([], a) := by rw [chainS, hg, if_neg hn]
      have hr : (gS L a).f2 = -1 := by omega
      rw [e]
      exact ⟨ha, hr, by rw [(ht.root a ha).1 hr]; rfl, fun f hf => by simp at hf, rfl, fun i hi => by simp at hi⟩
structure CP.LeadsTo (x : CP) (L : List S43) (a : Nat) (last : List Int) : Prop where
  fits : x.fitsS 0 (leadInit L a) (leadFrames L a last) = true
  len : ((leadFrames L a last).length : Int) = (gS L a).f1 + 1
  end_ : (leadFrames L a last).getD ((leadFrames L a last).length - 1) [] = last
  bi : Bytes (leadInit L a)
  bf : ∀ f ∈ leadFrames L a last, Bytes f
  held : ∀ i, i + 1 < (leadFrames L a last).length → x.heldS (x.frameS (x.stateS (leadInit L a) (leadFrames L a last) i) ((leadFrames L a last).getD i [])) = true
  goal : x.stateS (leadInit L a) (leadFrames L a last) ((leadFrames L a last).length - 1) = (gS L a).f0
theorem leads_to {x : CP} (fit : x.Fit) (hmay : x.may = true) {L : List S43} (hw : x.Walked L) (h7 : x.l1.length ≤ 7) (h4 : 0 < x.l4.length) {a : Nat} (ha : a < L.length) {last : List Int} (hl : (last.length : Int) = x.a0) (hb : Bits last) : x.LeadsTo L a last := by
  obtain ⟨at0, ht⟩ := hw.tree
  obtain ⟨c1, c2, c3, c4, c5, c6⟩ := chain_run hw ht (a + 1) a ha (by omega) [last]
  have hx0 := (may_parts hmay).1
  have hshort := walk_short fit hmay hw h7
  obtain ⟨g1, g2, g3, g4, _⟩ := hw.good a ha
  rw [← gS_eq ha] at g3 g4
  have hi : leadInit L a = (gS L (chainS L (a + 1) a).2).f0 := rfl
  have hf : leadFrames L a last = (chainS L (a + 1) a).1.reverse ++ [last] := by unfold leadFrames; rw [List.reverse_cons]
  have hlen : (leadFrames L a last).length = (chainS L (a + 1) a).1.length + 1 := by rw [hf]; simp
  obtain ⟨n, en⟩ := root_first hw hmay c1 c2
  obtain ⟨fb, fr⟩ := first_bits fit hmay n
  rw [← en, ← hi] at fb fr
  have hil : (leadInit L a).length = x.l1.length := by
    rw [hi, gS_eq c1]; exact (hw.good _ c1).1
  have hfb : ∀ f ∈ leadFrames L a last, (f.length : Int) = x.a0 ∧ Bits f := by
    intro f hm
    rw [hf] at hm
    rcases List.mem_append.1 hm with hm | hm
    · obtain ⟨q1, q2⟩ := c4 f (List.mem_reverse.1 hm)
      exact ⟨by omega, q2⟩
    · rw [List.mem_singleton.1 hm]; exact ⟨hl, hb⟩
  have b2 : ∀ {l : List Int}, Bits l → ∀ v ∈ l, 0 ≤ v ∧ v ≤ 2 := fun h v hv => by have := h v hv; omega
  refine ⟨?_, by rw [hlen]; push_cast; omega, ?_, bytes_bit (b2 fb), fun f hm => bytes_bit (b2 (hfb f hm).2), ?_, ?_⟩
  · unfold CP.fitsS
    simp only [Bool.and_eq_true, decide_eq_true_eq, List.all_eq_true]
    exact ⟨⟨⟨⟨⟨⟨hmay, Int.le_refl _⟩, by omega⟩, values_bit (by rw [hil]) (b2 fb)⟩, by omega⟩, by omega⟩, fun f hm => values_bit (hfb f hm).1 (b2 (hfb f hm).2), fr⟩
  · rw [hlen, hf, List.getD_eq_getElem?_getD, List.getElem?_append_right (by simp)]
    simp
  · intro i hi2
    rw [hi, hf]
    exact c6 i (by omega)
  · rw [hlen, hi, hf]
    exact c5
theorem not_alike {x : CP} {L : List S43} (hw : x.Walked L) {i k : Nat} (hi : i < L.length) (hk : k < L.length) (hne : i ≠ k) : L[i].f0 ≠ L[k].f0 := by
  obtain ⟨at0, ht⟩ := hw.tree
  have hn := ht.once
  have h1 : i < (L.map (fun s => s.f0)).length := by simpa using hi
  have h2 : k < (L.map (fun s => s.f0)).length := by simpa using hk
  have hp := List.pairwise_iff_getElem.1 hn
  rcases Nat.lt_or_gt_of_ne hne with h | h
  · have := hp i k h1 h2 h
    simpa using this
  · have := hp k i h2 h1 h
    intro e
    exact this (by simpa using e.symm)
end Go.Proofs.Ytdjhjgfjhicbfaa.PWalkLeads

namespace Go.Proofs.Ytdjhjgfjhicbfaa.PWalkLeads
open Go.RowKit Go.Shelf Go.Maps Go.Proofs.YtdjhjgfjhicbfaaW.PrintWords Go.Proofs.YtdjhjgfjhicbfaaW.PrintLast Go.Proofs.YtdjhjgfjhicbfaaW.PrintMore
set_option linter.unusedVariables false
set_option linter.unusedSimpArgs false
set_option maxHeartbeats 4000000 in
set_option maxRecDepth 100000 in
theorem law_big (x : CP) (a1 : Int) (A : Option Addr) (c : Nat) (l : List Int) (w : World) (ok : x.Ok w) (fit : x.Fit) (h0 : 0 ≤ a1) (h1 : a1 ≤ 65535) (hc : l.length ≤ c) (hr : Kd.C (Kd.int .u8) w A l.length l) (hb : Bytes l) (hl : l.length ≤ 140737488351232)
    (hgr : x.great = false) (h4 : ¬ x.a0 > 4) (hmay : x.may = true) (hl4 : 0 < x.l4.length) :
    Calls Try.prog 6 #[.agg #[.int .i64 x.a0, .slice x.A1 x.l1.length x.c1, .slice x.A2 x.l2.length x.c2, .slice x.A3 x.l3.length x.c3, .slice x.A4 x.l4.length x.c4, .slice x.A5 x.l5.length x.c5], .int .u16 a1, .slice A l.length c] w fun e w' => e = .returned (.bool true) ∧ Below w.heap.size w w' := by
  have hb0 : Below w.heap.size w (w.alloc (.cells #[.int .i64 x.a0, .slice x.A1 x.l1.length x.c1, .slice x.A2 x.l2.length x.c2, .slice x.A3 x.l3.length x.c3, .slice x.A4 x.l4.length x.c4, .slice x.A5 x.l5.length x.c5] 26)) := (Below.refl _ _).alloc (Nat.le_refl _) _
  have h7 : x.l1.length ≤ 7 := by
    have h := hgr
    unfold CP.great at h
    simp at h
    omega
  obtain ⟨L, hWk⟩ := walked x fit hmay (by omega) h7
  have hlen0 := hWk.some
  have hlenM := walk_short fit hmay hWk h7
  have hx0 := may_nonneg hmay
  have HALL := Aside0.mk (fun W (hb : Below w.heap.size w W) => all_calls x W (ok.below hb) fit)
  rw [hWk.all] at HALL
  have HWK := Aside0.mk hWk
  have HAT := Aside0.mk (CP.at_alloc x w)
  have HB := Aside0.mk hb0
  have HO := Aside0.mk ok
  have HF := Aside0.mk fit
  have HR := Aside0.mk hr
  have HBL := Aside0.mk hb
  have HMY := Aside0.mk hmay
  have okb := ok.below hb0
  have HG := Aside0.mk (inquestlaw27_great.calls x.a0 x.A1 x.c1 x.l1 x.A2 x.c2 x.l2 x.A3 x.c3 x.l3 x.A4 x.c4 x.l4 x.A5 x.c5 x.l5 x.great _ okb.r1 okb.m1 okb.r2 okb.m2 okb.r3 okb.m3 okb.r4 okb.m4 okb.r5 okb.m5 (great_ref x))
  rw [hgr] at HG
  obtain ⟨_, k0, k1, k2, k3, k4, k5⟩ := HAT.out
  have hln : ((x.l4.length : Int) == 0) = false := beq_eq_false_iff_ne.2 (by omega)
  have HL4 := Aside0.mk hl4
  have hl5 : x.l4.length ≤ 9223372036854775807 := by have := fit.n4; omega
  clear hb0 ok fit hr okb hb hmay hWk hgr
  have hkt : a1 % (L.length : Int) = ((a1.toNat % L.length : Nat) : Int) := by
    obtain ⟨n, rfl⟩ := Int.eq_ofNat_of_zero_le h0
    rw [Int.toNat_natCast]; rfl
  obtain ⟨k, hk⟩ : ∃ k, k = a1.toNat % L.length := ⟨_, rfl⟩
  have hkl : k < L.length := by rw [hk]; exact Nat.mod_lt _ hlen0
  rw [← hk] at hkt
  have HKT := Aside0.mk hkt
  clear hk hkt hl4
  go_enter Try.func6, Try.ntmps6
  go_wp2_with (first
    | (go_at_call 7; go_must (refine HG.out.mono ?_; rintro e w1 ⟨rfl, hb1⟩; have HA1 := Aside0.mk (HAT.out.below hb1); have HB1 := Aside0.mk (HB.out.trans (hb1.mono HB.out.size)); clear hb1 k0 k1 k2 k3 k4 k5; obtain ⟨_, k0, k1, k2, k3, k4, k5⟩ := HA1.out))
    | (go_at_call 10; go_must (refine (HALL.out _ HB1.out).mono ?_; rintro e w2 ⟨v2, rfl, ho2, hb2⟩; obtain ⟨A2, c2, e2⟩ := Kd.R_slice ho2; subst e2; have HL2 := Aside0.mk ho2; have HA2 := Aside0.mk (HA1.out.below hb2); have HB2 := Aside0.mk (HB1.out.trans (hb2.mono HB1.out.size)); clear ho2 hb2 k0 k1 k2 k3 k4 k5; obtain ⟨_, k0, k1, k2, k3, k4, k5⟩ := HA2.out)))
  rw [HKT.out]
  have hk0 : (0 : Int) ≤ (k : Int) := by omega
  have hk1 : (k : Int) < (L.length : Int) := by omega
  clear HG HALL HAT HB HA1 k0 k1 k2 k3 k4 k5
  go_loopw [57] (fun v wr => ∃ j : Nat, j ≤ L.length ∧ v = .int .i64 j ∧ Aside0 (Below w2.heap.size w2 wr)) (fun v _ => L.length - (intOf v).toNat)
  case atStart => exact ⟨0, by omega, rfl, ⟨Below.refl _ _⟩⟩
  case round =>
    obtain ⟨j, hj, rfl, HBJ⟩ := hrel
    by_cases hjl : j < L.length
    · obtain ⟨A2', c2', h1', _, hrl⟩ := Kd.R_reads (Kd.R_below HL2.out HBJ.out)
      cases h1'
      obtain ⟨ad, B0, d0, Bb, db, e1, gs0, gs1, gs2, gs3, gm0, gr0, gmb, grb⟩ := at_state hrl j hjl
      subst e1
      obtain ⟨ad', D0, e0, Db, eb, e1, hs0, hs1, hs2, hs3, hm0, hr0, hmb, hrb⟩ := at_state hrl k hkl
      cases e1
      have hj0 : (0 : Int) ≤ (j : Int) := by omega
      have hj1 : (j : Int) < (L.length : Int) := by omega
      have q2 := (HWK.out.good j hjl).2.1
      have r2 := (HWK.out.good k hkl).2.1
      have HBY := Aside0.mk (fun W (hb : Below wr.heap.size wr W) => bytes_calls B0 d0 L[j].f0 D0 e0 L[k].f0 W (Kd.C_below gr0 hb) gm0 (Kd.C_below hr0 hb) hm0 (bytes_bit q2) (bytes_bit r2))
      by_cases hjk : j = k
      · have hne : ((j : Int) != (k : Int)) = false := by rw [hjk]; simp
        clear hjk hrl gr0 gm0 hr0 hm0 grb gmb hrb hmb q2 r2 gs1 gs2 gs3 hs0 hs1 hs2 hs3
        go_wp2_with fail
        go_quiet (fail)
        go_wp2
        exact ⟨⟨j + 1, by omega, by go_num, ⟨pw_below_drewN HBJ.out _⟩⟩, by simp [intOf]; omega⟩
      · have hne : ((j : Int) != (k : Int)) = true := by rw [bne_iff_ne]; omega
        rw [decide_eq_false (not_alike HWK.out hjl hkl hjk)] at HBY
        clear hrl gr0 gm0 hr0 hm0 grb gmb hrb hmb q2 r2 gs1 gs2 gs3 hs1 hs2 hs3 hjk
        go_wp2_with fail
        go_quiet ((go_at_call 13; (with_reducible refine (HBY.out _ ?side).mono ?_); (case side => repeat (first | exact Below.refl _ _ | (with_reducible first | apply pw_below_drewN | apply below_drew1))); rintro e w' ⟨rfl, ⟨nd, rfl⟩⟩; (try first | exact ⟨rfl, _, World.drewN_drewN _ _ _⟩ | exact ⟨rfl, _, Eq.trans (World.drewN_drewN _ _ _) (congrArg (World.drewN _) (Nat.add_assoc _ _ _))⟩)))
        go_wp2
        exact ⟨⟨j + 1, by omega, by go_num, ⟨pw_below_drewN HBJ.out _⟩⟩, by simp [intOf]; omega⟩
    · obtain ⟨ws, rfl⟩ : ∃ ws : World, ws = wr := ⟨_, rfl⟩
      have HAS := Aside0.mk (HA2.out.below HBJ.out)
      have HBS := Aside0.mk (HB2.out.trans (HBJ.out.mono HB2.out.size))
      have HLS := Aside0.mk (Kd.R_below HL2.out HBJ.out)
      clear HBJ
      obtain ⟨_, k0, k1, k2, k3, k4, k5⟩ := HAS.out
      go_wp2_with ((with_reducible refine gate_dst (N := 79) rfl ?_); go_must (refine Kd.R_make (Kd.int .u8) (w0 := ws) ws.heap.size 5 rfl rfl 27 (.tmp 78) (.tmp 78) rfl x.a0 rfl rfl Try.underlying27 (.int .u8 0) 1 info5 rfl (by decide) (by decide) 0 (ok := fun _ => True) (okp := fun _ => True) rfl (fun _ _ => trivial) trivial (by omega) (by omega) (Below.refl _ _) (Nat.le_refl _) ?_; intro v3 w3 ho hb hg hx; obtain ⟨A3, c3, rfl⟩ := Kd.R_slice ho; have HO3 := Aside0.mk ho; have HB3 := Aside0.mk hb; clear ho hb hg hx))
      have HO4 : Aside0 (Kd.R (Kd.int .u8) 5 w3 ws.heap.size (fun _ => True) (.slice A3 x.a0.toNat c3) (inpTo l x.a0.toNat 0)) := ⟨by
        rw [inpTo_zero]
        have := HO3.out
        simpa using this⟩
      have hm4 : x.a0.toNat ≤ 4 := by omega
      clear HO3 k0 k1 k2 k3 k4 k5
      go_loopw [82] (fun v wi => ∃ i : Nat, i ≤ x.a0.toNat ∧ v = .int .i64 i ∧ Aside0 (Kd.R (Kd.int .u8) 5 wi ws.heap.size (fun _ => True) (.slice A3 x.a0.toNat c3) (inpTo l x.a0.toNat i)) ∧ Aside0 (Below ws.heap.size ws wi)) (fun v _ => x.a0.toNat - (intOf v).toNat)
      case atStart => exact ⟨0, by omega, rfl, HO4, HB3⟩
      case round =>
        clear HO4
        obtain ⟨i, hi, rfl, HOI, HBI⟩ := hrel
        by_cases hlt : i < x.a0.toNat
        · by_cases hil : i < l.length
          · obtain ⟨ad, ea, hc0⟩ := Kd.at_int (Kd.C_below HR.out (HBS.out.trans (HBI.out.mono HBS.out.size))) i (by omega) (by omega)
            have hcb : wr.cell? (ad.add i) = some (.int .u8 l[i]) := by simpa [rd, List.getD_eq_getElem?_getD, hil] using hc0
            have hv := HBL.out l[i] (List.getElem_mem hil)
            have HTM : Aside0 (Int.tmod l[i] 2 = l[i] % 2) := ⟨Int.tmod_eq_emod_of_nonneg hv.1⟩
            obtain ⟨g, cap, e1, hg0, hg1, cells, hgc⟩ := Kd.R_form HOI.out (by rw [inpTo_length _ _ _ (by omega)]; omega)
            injection e1 with e1 e2 e3
            subst e1
            subst e3
            have hlen := inpTo_length l x.a0.toNat i (by omega)
            have HOI2 : Aside0 (Kd.R (Kd.int .u8) 5 wr ws.heap.size (fun _ => True) (.slice (some ⟨g, 0, none⟩) (inpTo l x.a0.toNat i).length c3) (inpTo l x.a0.toNat i)) := ⟨by rw [hlen]; exact HOI.out⟩
            obtain ⟨hcl, hfl⟩ := Kd.R_cell (0 : Int) HOI2.out (i : Int) (by omega) (by rw [hlen]; omega)
            simp only [Int.toNat_natCast] at hcl hfl
            have HPUT := Aside0.mk (Kd.R_put HOI2.out (i : Int) (l[i] % 2))
            have HGB : Aside0 (Below ws.heap.size ws (wr.setCell ⟨g, i, none⟩ (.int .u8 (l[i] % 2)))) := ⟨HBI.out.setCell (p := ⟨g, i, none⟩) hg0 _⟩
            have HW : Aside0 (Kd.R (Kd.int .u8) 5 (wr.setCell ⟨g, i, none⟩ (.int .u8 (l[i] % 2))) ws.heap.size (fun _ => True) (.slice (some ⟨g, 0, none⟩) x.a0.toNat c3) (inpTo l x.a0.toNat (i + 1))) := ⟨by
              have h := HPUT.out.1
              have e : l[i] = l.getD i 0 := by simp [List.getD_eq_getElem?_getD, hil]
              rw [hlen, Int.toNat_natCast, e, inpTo_set _ _ _ hlt hil, ← e] at h
              exact h⟩
            obtain ⟨bv, hbv⟩ : ∃ bv, bv = l[i] := ⟨_, rfl⟩
            rw [← hbv] at hcb HTM HGB HW hv
            subst ea
            clear HPUT HOI2 hlen hgc e2 hg0 hg1 hc0 hbv
            go_wp2
            exact ⟨⟨i + 1, by omega, by go_num, HW, HGB⟩, by simp [intOf]; omega⟩
          · have HW : Aside0 (Kd.R (Kd.int .u8) 5 wr ws.heap.size (fun _ => True) (.slice A3 x.a0.toNat c3) (inpTo l x.a0.toNat (i + 1))) := ⟨by
              rw [← inpTo_skip _ _ _ hlt hil]; exact HOI.out⟩
            clear HOI
            go_wp2
            exact ⟨⟨i + 1, by omega, by go_num, HW, HBI⟩, by simp [intOf]; omega⟩
        · have hi' : i = x.a0.toNat := by omega
          have HIN : Aside0 (Kd.R (Kd.int .u8) 5 wr ws.heap.size (fun _ => True) (.slice A3 (inpS l x.a0.toNat).length c3) (inpS l x.a0.toNat)) := ⟨by
            have := HOI.out
            rw [hi', inpTo_full] at this
            rw [inpS_length]
            exact this⟩
          have HAW := Aside0.mk (HAS.out.below HBI.out)
          have HBW := Aside0.mk (HBS.out.trans (HBI.out.mono HBS.out.size))
          have HLW := Aside0.mk (Kd.R_below HLS.out HBI.out)
          clear hi' HOI HB3 HL2 HA2 HB2 HBI HAS HBS HLS
          obtain ⟨_, k0, k1, k2, k3, k4, k5⟩ := HAW.out
          obtain ⟨wo, rfl⟩ : ∃ wo : World, wo = wr := ⟨_, rfl⟩
          obtain ⟨iv, hiv⟩ : ∃ iv, iv = inpS l x.a0.toNat := ⟨_, rfl⟩
          have hil : iv.length = x.a0.toNat := by rw [hiv, inpS_length]
          have hvb : Bits iv := by rw [hiv]; exact inpS_bit l _
          rw [← hiv] at HIN
          obtain ⟨A3', c3', h3', hm3, hr3⟩ := Kd.R_reads HIN.out
          cases h3'
          obtain ⟨A2', c2', h1', _, hrl⟩ := Kd.R_reads HLW.out
          cases h1'
          obtain ⟨g1, g2, g3, g4, g5, g6, g7⟩ := HWK.out.good k hkl
          have HLT := Aside0.mk (leads_to HF.out HMY.out HWK.out h7 HL4.out hkl (by omega : (iv.length : Int) = x.a0) hvb)
          have hbad : x.badS 0 = true := by
            unfold CP.badS
            rw [HMY.out, decide_eq_true (Int.le_refl 0), decide_eq_true (show (0 : Int) < (x.l4.length : Int) by have := HL4.out; omega)]
            rfl
          have hlb : ∀ s ∈ L, s.Bytes := by
            intro s hs
            obtain ⟨j, hj, rfl⟩ := List.getElem_of_mem hs
            obtain ⟨q1, q2, q3, q4, q5, q6, q7⟩ := HWK.out.good j hj
            refine ⟨bytes_bit q2, ?_⟩
            by_cases e : L[j].f2 = -1
            · obtain ⟨n, en⟩ := root_first HWK.out HMY.out hj (by rw [gS_eq hj]; exact e)
              rw [← gS_eq hj, en]; intro v hv; exact absurd hv (by simp [CP.firstS])
            · exact bytes_bit (fun v hv => by have := (q7 e).2 v hv; omega)
          have HTO := Aside0.mk (to_calls x L k 0 A2 c2 A3 c3 iv wo (HO.out.below HBW.out) HF.out HWK.out.all hbad (leads_of HWK.out.good (by omega) (by omega) (by omega)) hlb hkl (by omega) (by omega) (by omega) (fun v hv => by have := hvb v hv; omega) hrl hr3)
          rw [hil] at HTO
          obtain ⟨tin, htin⟩ : ∃ tin, tin = leadInit L k := ⟨_, rfl⟩
          obtain ⟨tfr, htfr⟩ : ∃ tfr, tfr = leadFrames L k iv := ⟨_, rfl⟩
          rw [← htin, ← htfr] at HTO
          have HTI := Aside0.mk htin
          have HTF := Aside0.mk htfr
          have HVB := Aside0.mk hvb
          clear htin htfr hvb hr3 hm3 hrl g1 g2 g5 g6 g7 hbad hlb hiv
          go_wp2_with (go_at_call 19; go_must (refine HTO.out.mono ?_; rintro e w5 ⟨vi, vf, rfl, hi5, hf5, hb5⟩; obtain ⟨Ai, ci, ei, hmi, hri⟩ := Kd.R_reads hi5; subst ei; obtain ⟨Af, cf, ef, hmf, hrf⟩ := Kd.R_reads hf5; subst ef; have HA5 := Aside0.mk (HAW.out.below hb5); have HB5 := Aside0.mk (HBW.out.trans (hb5.mono HBW.out.size)); have HL5 := Aside0.mk (Kd.R_below HLW.out hb5); have HI5 := Aside0.mk hri; have HF5 := Aside0.mk hrf; have HVI := Aside0.mk (Kd.R_V (base' := w5.heap.size) hi5); have HMI := Aside0.mk hmi; have HMF := Aside0.mk hmf; have HIV5 := Aside0.mk (Kd.R_below HIN.out hb5); clear hi5 hf5 hb5 hmi hmf hri hrf k0 k1 k2 k3 k4 k5; obtain ⟨_, k0, k1, k2, k3, k4, k5⟩ := HA5.out))
          obtain ⟨q, hq⟩ : ∃ q, tfr.length = q + 1 := by
            have h := HLT.out.len
            rw [← HTF.out] at h
            have h2 := (HWK.out.good k hkl).2.2.1
            rw [gS_eq hkl] at h
            exact ⟨tfr.length - 1, by omega⟩
          have hqk : L[k].f1 = (q : Int) := by
            have h := HLT.out.len
            rw [← HTF.out, gS_eq hkl, hq] at h
            push_cast at h
            omega
          have hq8 : q ≤ 128 := by omega
          obtain ⟨w6, hw6⟩ : ∃ w6, w6 = w5.alloc (.cells #[.int .i64 0, .slice Ai tin.length ci, .slice Af tfr.length cf] 30) := ⟨_, rfl⟩
          have hb56 : Below w5.heap.size w5 w6 := by rw [hw6]; exact (Below.refl _ _).alloc (Nat.le_refl _) _
          have htr : TrAt 0 Ai tin.length ci Af tfr.length cf w6 w5.heap.size := by rw [hw6]; exact tr_at (heap_alloc_at _ _)
          rw [← hw6]
          clear hw6
          have HA6 := Aside0.mk (HA5.out.below hb56)
          have HT6 := Aside0.mk htr
          have HB6 := Aside0.mk (HB5.out.trans (hb56.mono HB5.out.size))
          have HF6 := Aside0.mk (Kd.C_below HF5.out hb56)
          have HI6 := Aside0.mk (Kd.C_below HI5.out hb56)
          have HV6 := Aside0.mk (Kd.V_below HVI.out hb56)
          obtain ⟨A3', c3', h3', hm3, hr3⟩ := Kd.R_reads (Kd.R_below HIV5.out hb56)
          cases h3'
          obtain ⟨A2', c2', h1', _, hrl⟩ := Kd.R_reads (Kd.R_below HL5.out hb56)
          cases h1'
          obtain ⟨ad, D0, e0, Db, eb, e1, hs0, hs1, hs2, hs3, hm0, hr0, hmb, hrb⟩ := at_state hrl k hkl
          subst e1
          rw [hqk] at hs1
          obtain ⟨ar, B0, d0, ea, hc0, hmr, hrr⟩ := row_at HF6.out q (by omega)
          subst ea
          have hlast : tfr[q]'(by omega) = iv := by
            have h := HLT.out.end_
            rw [← HTF.out, hq, Nat.add_sub_cancel, List.getD_eq_getElem?_getD, List.getElem?_eq_getElem (by omega)] at h
            exact h
          rw [hlast] at hc0 hmr hrr
          have HFT := Aside0.mk (fun W (hb : Below w6.heap.size w6 W) => fits8_calls x 0 Ai ci tin (some ar) cf tfr W (HO.out.below (HB6.out.trans (hb.mono HB6.out.size))) HF.out ⟨HMI.out, Kd.C_below HI6.out hb, HMF.out, Kd.C_below HF6.out hb⟩ HI5.out.2.1 (fun f hf => by
            obtain ⟨i, hi, rfl⟩ := List.getElem_of_mem hf
            obtain ⟨_, _, _, _, _, _, h⟩ := row_at HF6.out i hi
            exact h.2.1) HF5.out.2.1)
          rw [HTI.out, HTF.out, HLT.out.fits, ← HTI.out, ← HTF.out] at HFT
          have hbi : Bytes iv := bytes_bit (fun v hv => by have := HVB.out v hv; omega)
          have HBY := Aside0.mk (fun W (hb : Below w6.heap.size w6 W) => bytes_calls B0 d0 iv A3 c3 iv W (Kd.C_below hrr hb) hmr (Kd.C_below hr3 hb) hm3 hbi hbi)
          rw [decide_eq_true (rfl : iv = iv), hil] at HBY
          rw [hil] at hc0
          have HKD := Aside0.mk (And.intro hm0 hr0)
          obtain ⟨_, j0, j1, j2, j3, j4, j5⟩ := HA6.out
          obtain ⟨_, t0, t1, t2⟩ := HT6.out
          have hwq : IntKind.i64.wrap ((q : Int) + 1) = (q : Int) + 1 := IntWalk.i64_in _ (by omega)
          have hwp : IntKind.i64.wrap (q : Int) = (q : Int) := IntWalk.i64_in _ (by omega)
          have hq0 : (0 : Int) ≤ (q : Int) := by omega
          have hq1 : (q : Int) < ((q + 1 : Nat) : Int) := by omega
          have hq2 : (q : Int) < (q : Int) + 1 := by omega
          rw [hq] at t2 HFT ⊢
          clear hb56 htr hm3 hr3 hrl hm0 hr0 hmb hrb hmr hrr hlast hbi hqk k0 k1 k2 k3 k4 k5 hs2 hs3
          go_region_held3 (fun w' => w'.cell? ⟨w.heap.size, 0, none⟩ = some (.int .i64 x.a0) ∧ w'.cell? ⟨w.heap.size, 1, none⟩ = some (.slice x.A1 x.l1.length x.c1) ∧ w'.cell? ⟨w.heap.size, 2, none⟩ = some (.slice x.A2 x.l2.length x.c2) ∧ w'.cell? ⟨w.heap.size, 3, none⟩ = some (.slice x.A3 x.l3.length x.c3) ∧ w'.cell? ⟨w.heap.size, 4, none⟩ = some (.slice x.A4 x.l4.length x.c4) ∧ w'.cell? ⟨w.heap.size, 5, none⟩ = some (.slice x.A5 x.l5.length x.c5) ∧
              w'.cell? ⟨w5.heap.size, 0, none⟩ = some (.int .i64 0) ∧ w'.cell? ⟨w5.heap.size, 1, none⟩ = some (.slice Ai tin.length ci) ∧ w'.cell? ⟨w5.heap.size, 2, none⟩ = some (.slice (some ar) (q + 1) cf) ∧ w'.cell? (ad.add (k * 4)) = some (.slice D0 L[k].f0.length e0) ∧ w'.cell? ⟨(ad.add (k * 4)).block, (ad.add (k * 4)).off + 1, none⟩ = some (.int .i64 q) ∧ w'.cell? (ar.add q) = some (.slice B0 x.a0.toNat d0))
            (first
              | go_keep
              | (go_split_ands
                 have hq' : ∀ p v, w6.cell? p = some v → w8.cell? p = some v := fun p v h => (hb8.below.cell (Nat.lt_of_lt_of_le (World.block_lt_of_cell? w6 p h) hb7.size)).trans ((hb7.cell (World.block_lt_of_cell? w6 p h)).trans h)
                 exact ⟨hq' _ _ j0, hq' _ _ j1, hq' _ _ j2, hq' _ _ j3, hq' _ _ j4, hq' _ _ j5, hq' _ _ t0, hq' _ _ t1, hq' _ _ t2, hq' _ _ hs0, hq' _ _ hs1, hq' _ _ hc0⟩)
              | (go_split_ands
                 have hq' : ∀ p v, w6.cell? p = some v → w7.cell? p = some v := fun p v h => (hb7.cell (World.block_lt_of_cell? w6 p h)).trans h
                 exact ⟨hq' _ _ j0, hq' _ _ j1, hq' _ _ j2, hq' _ _ j3, hq' _ _ j4, hq' _ _ j5, hq' _ _ t0, hq' _ _ t1, hq' _ _ t2, hq' _ _ hs0, hq' _ _ hs1, hq' _ _ hc0⟩))
            (first
              | (go_at_call 8; (with_reducible refine (HFT.out w6.drew ((Below.refl _ _).drew)).mono ?_); rintro e w7 ⟨rfl, hb7⟩; have hb67 : Below w6.heap.size w6 w7 := ((Below.refl _ _).drew).trans hb7)
              | (go_at_call 13; (with_reducible refine (HBY.out w7 hb67).mono ?_); rintro e w8 ⟨rfl, hb8⟩))
          have hb68 : Below w6.heap.size w6 w8 := hb67.trans (hb8.below.mono hb67.size)
          have HA8 := Aside0.mk (HA6.out.below hb68)
          have HT8 := Aside0.mk (HT6.out.below hb68)
          have HB8 := Aside0.mk (HB6.out.trans (hb68.mono HB6.out.size))
          have HF8 := Aside0.mk (Kd.C_below HF6.out hb68)
          have HV8 := Aside0.mk (Kd.V_below HV6.out hb68)
          have HD8 := Aside0.mk (Kd.C_below HKD.out.2 hb68)
          have es0 := (hb68.cell (World.block_lt_of_cell? w6 _ hs0)).trans hs0
          have HES := Aside0.mk es0
          have hbi : Bytes tin := by rw [HTI.out]; exact HLT.out.bi
          have hbf : ∀ f ∈ tfr, Bytes f := by rw [HTF.out]; exact HLT.out.bf
          have HBF := Aside0.mk hbf
          have HBIN := Aside0.mk hbi
          have hfit := HLT.out.fits
          rw [← HTI.out, ← HTF.out] at hfit
          have HRN := Aside0.mk (run11_calls x 0 Ai ci tin (some ar) cf tfr w8 (HO.out.below HB8.out) HF.out (fun _ => True) HV8.out HF8.out HMF.out hfit hbi hbf (by omega))
          have hrn : (x.runS tin tfr).length = q + 1 := by rw [runS_length, hq]
          have HRG := Aside0.mk (fun i (h : i < (x.runS tin tfr).length) => runS_get x tfr tin i h)
          obtain ⟨rr, hrre⟩ : ∃ rr, rr = x.runS tin tfr := ⟨_, rfl⟩
          have HRG : Aside0 (∀ i (h : i < rr.length), rr[i] = x.frameS (x.stateS tin tfr i) (tfr.getD i [])) := ⟨fun i h => by subst hrre; exact runS_get x tfr tin i h⟩
          rw [← hrre] at HRN hrn
          rw [hrn] at HRN
          rw [hq] at HRN
          clear hb68 hb67 hb8 hb7 es0 hbi hbf hfit hrre j0 j1 j2 j3 j4 j5 t0 t1 t2 hs0 hs1 hc0 HFT HBY
          obtain ⟨_, j0, j1, j2, j3, j4, j5⟩ := HA8.out
          obtain ⟨_, t0, t1, t2⟩ := HT8.out
          rw [hq] at t2
          go_wp2_with (go_at_call 11; go_must (refine HRN.out.mono ?_; rintro e w9 ⟨Ar, cr, rfl, hmr, hrr, hb9⟩; have HA9 := Aside0.mk (HA8.out.below hb9); have HB9 := Aside0.mk (HB8.out.trans (hb9.mono HB8.out.size)); have HR9 := Aside0.mk hrr; have HD9 := Aside0.mk (Kd.C_below HD8.out hb9); have HS9 := Aside0.mk ((hb9.cell (World.block_lt_of_cell? w8 _ HES.out)).trans HES.out); clear hb9 hrr j0 j1 j2 j3 j4 j5 t0 t1 t2))
          go_loopw [151] (fun v wr => ∃ i : Nat, i ≤ q ∧ v = .int .i64 i ∧ Aside0 (Below w9.heap.size w9 wr)) (fun v _ => q - (intOf v).toNat)
          case atStart => exact ⟨0, by omega, rfl, ⟨Below.refl _ _⟩⟩
          case round =>
            obtain ⟨i, hi, rfl, HBI⟩ := hrel
            by_cases hlt : i < q
            · obtain ⟨az, S0, f0, ea, hc0, hmr0, hrr0⟩ := row_at (by rw [hrn]; exact Kd.C_below HR9.out HBI.out : Kd.C (Kd.slice 5 (Kd.int .u8)) wr Ar rr.length rr) i (by omega)
              subst ea
              have hV := HRG.out i (by omega)
              obtain ⟨V, hVe⟩ : ∃ V, V = rr[i]'(by omega) := ⟨_, rfl⟩
              rw [← hVe] at hc0 hmr0 hrr0 hV
              have hVb : Bytes V := by
                rw [hV]
                refine frameS_bytes x _ _ (stateS_bytes x tin tfr HBIN.out HBF.out i) ?_
                have hz : i < tfr.length := by omega
                rw [List.getD_eq_getElem?_getD, List.getElem?_eq_getElem hz]
                exact HBF.out _ (List.getElem_mem hz)
              have hheld : x.heldS V = true := by
                rw [hV]
                have := HLT.out.held i (by rw [← HTF.out]; omega)
                rw [← HTI.out, ← HTF.out] at this
                exact this
              have HAI := Aside0.mk (HA9.out.below HBI.out)
              have HBJ := Aside0.mk (HB9.out.trans (HBI.out.mono HB9.out.size))
              have HHC := Aside0.mk (fun W (hb : Below wr.heap.size wr W) => held27_calls x S0 f0 V W (HO.out.below (HBJ.out.trans (hb.mono HBJ.out.size))) HF.out hVb (Kd.C_below hrr0 hb) hmr0)
              rw [hheld] at HHC
              have hi0 : (0 : Int) ≤ (i : Int) := by omega
              have hi1 : (i : Int) < (q : Int) + 1 := by omega
              have hVl : V.length = V.length := rfl
              clear hheld hVb hV hVe hmr0 hrr0 hVl
              obtain ⟨_, k0, k1, k2, k3, k4, k5⟩ := HAI.out
              obtain ⟨wp, rfl⟩ : ∃ wp : World, wp = wr := ⟨_, rfl⟩
              go_wp2_with fail
              go_region_held3 (fun w' => w'.cell? ⟨w.heap.size, 0, none⟩ = some (.int .i64 x.a0) ∧ w'.cell? ⟨w.heap.size, 1, none⟩ = some (.slice x.A1 x.l1.length x.c1) ∧ w'.cell? ⟨w.heap.size, 2, none⟩ = some (.slice x.A2 x.l2.length x.c2) ∧ w'.cell? ⟨w.heap.size, 3, none⟩ = some (.slice x.A3 x.l3.length x.c3) ∧ w'.cell? ⟨w.heap.size, 4, none⟩ = some (.slice x.A4 x.l4.length x.c4) ∧ w'.cell? ⟨w.heap.size, 5, none⟩ = some (.slice x.A5 x.l5.length x.c5) ∧
                  w'.cell? (az.add i) = some (.slice S0 V.length f0))
                (first
                  | go_keep
                  | (go_split_ands
                     have hq' : ∀ p v, wp.cell? p = some v → wq.cell? p = some v := fun p v h => (hbq.cell (World.block_lt_of_cell? wp p h)).trans h
                     exact ⟨hq' _ _ k0, hq' _ _ k1, hq' _ _ k2, hq' _ _ k3, hq' _ _ k4, hq' _ _ k5, hq' _ _ hc0⟩))
                ((go_at_call 14; (with_reducible refine (HHC.out wp.drew ((Below.refl _ _).drew)).mono ?_); rintro e wq ⟨rfl, hbq⟩))
              have hbz : Below wp.heap.size wp wq := ((Below.refl _ _).drew).trans hbq
              have HBZ := Aside0.mk (HBI.out.trans (hbz.mono HBI.out.size))
              clear hbz hbq
              go_wp2_with fail
              exact ⟨⟨i + 1, by omega, by go_num, HBZ⟩, by simp [intOf]; omega⟩
            · obtain ⟨az, S0, f0, ea, hc0, hmr0, hrr0⟩ := row_at (by rw [hrn]; exact Kd.C_below HR9.out HBI.out : Kd.C (Kd.slice 5 (Kd.int .u8)) wr Ar rr.length rr) q (by omega)
              subst ea
              have hV := HRG.out q (by omega)
              obtain ⟨V, hVe⟩ : ∃ V, V = rr[q]'(by omega) := ⟨_, rfl⟩
              rw [← hVe] at hc0 hmr0 hrr0 hV
              have hz : q < tfr.length := by omega
              have hfl : ((tfr.getD q []).length : Int) = x.a0 := by
                have h := HLT.out.end_
                rw [← HTF.out, hq, Nat.add_sub_cancel] at h
                rw [h]; omega
              have hstl : (x.stateS tin tfr q).length = x.l1.length := by
                refine stateS_length x tin tfr ?_ q
                have h := HLT.out.fits
                unfold CP.fitsS at h
                simp only [Bool.and_eq_true, decide_eq_true_eq, List.all_eq_true] at h
                have := vals_len h.1.1.1.2
                rw [← HTI.out] at this
                omega
              have hVl : V.length = 1 + x.a0.toNat + x.l1.length + x.l2.length := by
                rw [hV]; unfold CP.frameS; rw [frameG_length]; simp only [List.length_cons, List.length_append]; omega
              have hVS := row_state x (x.stateS tin tfr q) (tfr.getD q []) hfl hstl
              rw [← hV] at hVS
              have hgoal : x.stateS tin tfr q = L[k].f0 := by
                have h := HLT.out.goal
                rw [← HTF.out, ← HTI.out, hq, Nat.add_sub_cancel, gS_eq hkl] at h
                exact h
              have hmid := Kd.C_mid (lo := 1 + x.a0.toNat) (hi := 1 + x.a0.toNat + x.l1.length) hrr0 (by omega) (by omega) hmr0
              rw [hVS, hgoal] at hmid
              rw [hgoal] at hstl
              have e1 : 1 + x.a0.toNat = (1 + x.a0).toNat := by omega
              have e2 : L[k].f0.length = (1 + x.a0 + (x.l1.length : Int)).toNat - (1 + x.a0).toNat := by omega
              have e3 : (1 + x.a0.toNat) * (Kd.int .u8).sz = (1 + x.a0).toNat := by rw [← e1]; exact Nat.mul_one _
              rw [e3, e1] at hmid
              have hkb : Bytes L[k].f0 := bytes_bit (HWK.out.good k hkl).2.1
              have HBJ := Aside0.mk (HB9.out.trans (HBI.out.mono HB9.out.size))
              have HBY := Aside0.mk (fun W (hb : Below wr.heap.size wr W) => bytes_calls (if f0 = (1 + x.a0).toNat then S0 else S0.map (·.add (1 + x.a0).toNat)) (f0 - (1 + x.a0).toNat) L[k].f0 D0 e0 L[k].f0 W (Kd.C_below hmid hb) (by omega) (Kd.C_below HD9.out (HBI.out.trans (hb.mono HBI.out.size))) HKD.out.1 hkb hkb)
              rw [decide_eq_true (rfl : L[k].f0 = L[k].f0)] at HBY
              have HBY2 : Aside0 (∀ W, Below wr.heap.size wr W → Calls Try.prog 13 #[.slice (if f0 = (1 + x.a0).toNat then S0 else S0.map (·.add (1 + x.a0).toNat)) ((1 + x.a0 + (x.l1.length : Int)).toNat - (1 + x.a0).toNat) (f0 - (1 + x.a0).toNat), .slice D0 L[k].f0.length e0] W fun e w' => e = .returned (.bool true) ∧ Drawn0 W w') := ⟨fun W hb => by
                have h := HBY.out W hb
                have e4 : (Value.slice (if f0 = (1 + x.a0).toNat then S0 else S0.map (·.add (1 + x.a0).toNat)) ((1 + x.a0 + (x.l1.length : Int)).toNat - (1 + x.a0).toNat) (f0 - (1 + x.a0).toNat)) = Value.slice (if f0 = (1 + x.a0).toNat then S0 else S0.map (·.add (1 + x.a0).toNat)) L[k].f0.length (f0 - (1 + x.a0).toNat) := by rw [← e2]
                rw [e4]; exact h⟩
              have HAI := Aside0.mk (HA9.out.below HBI.out)
              have es0 := (HBI.out.cell (World.block_lt_of_cell? w9 _ HS9.out)).trans HS9.out
              have hw1 : IntKind.i64.wrap (1 + x.a0) = 1 + x.a0 := IntWalk.i64_in _ (by omega)
              have hw2 : IntKind.i64.wrap (1 + x.a0 + (x.l1.length : Int)) = 1 + x.a0 + (x.l1.length : Int) := IntWalk.i64_in _ (by omega)
              have s0 : (0 : Int) ≤ 1 + x.a0 := by omega
              have s1 : 1 + x.a0 ≤ 1 + x.a0 + (x.l1.length : Int) := by omega
              have s2 : 1 + x.a0 + (x.l1.length : Int) ≤ (f0 : Int) := by omega
              have hl1 : x.l1.length ≤ 9223372036854775807 := by omega
              clear hV hVe hz hfl hstl hVl hVS hgoal hmid e1 e2 e3 hkb HBY hmr0 hrr0
              by_cases hf0 : f0 = (1 + x.a0).toNat
              · have HBY3 : Aside0 (∀ W, Below wr.heap.size wr W → Calls Try.prog 13 #[.slice S0 0 0, .slice D0 L[k].f0.length e0] W fun e w' => e = .returned (.bool true) ∧ Drawn0 W w') := ⟨fun W hb => by
                  have h := HBY2.out W hb
                  have hz0 : (1 + x.a0 + (x.l1.length : Int)).toNat - f0 = 0 := by omega
                  rw [← hf0, if_pos rfl, Nat.sub_self, hz0] at h
                  exact h⟩
                have hf1 : (1 + x.a0).toNat = f0 := hf0.symm
                clear hf0
                obtain ⟨_, k0, k1, k2, k3, k4, k5⟩ := HAI.out
                obtain ⟨wp, rfl⟩ : ∃ wp : World, wp = wr := ⟨_, rfl⟩
                go_wp2_with fail
                go_region_held3 (fun w' => w'.cell? ⟨w.heap.size, 0, none⟩ = some (.int .i64 x.a0) ∧ w'.cell? ⟨w.heap.size, 1, none⟩ = some (.slice x.A1 x.l1.length x.c1) ∧ w'.cell? (az.add q) = some (.slice S0 V.length f0) ∧ w'.cell? (ad.add (k * 4)) = some (.slice D0 L[k].f0.length e0))
                  (first
                    | go_keep
                    | (go_split_ands
                       have hq' : ∀ p v, wp.cell? p = some v → wt.cell? p = some v := fun p v h => (hbt.cell (Nat.lt_of_lt_of_le (World.block_lt_of_cell? wp p h) hbs.size)).trans ((hbs.cell (World.block_lt_of_cell? wp p h)).trans h)
                       exact ⟨hq' _ _ k0, hq' _ _ k1, hq' _ _ hc0, hq' _ _ es0⟩)
                    | (go_split_ands
                       have hq' : ∀ p v, wp.cell? p = some v → ws'.cell? p = some v := fun p v h => (hbs.cell (World.block_lt_of_cell? wp p h)).trans h
                       exact ⟨hq' _ _ k0, hq' _ _ k1, hq' _ _ hc0, hq' _ _ es0⟩))
                  (first
                    | (go_at_call 13; (with_reducible refine (HBY3.out wp.drew ((Below.refl _ _).drew)).mono ?_); rintro e ws' ⟨rfl, hds⟩; have hbs : Below wp.heap.size wp ws' := ((Below.refl _ _).drew).trans hds.below)
                    | (go_at_call 9; (with_reducible refine (lives_calls ws').mono ?_); rintro e wt ⟨rfl, hbt⟩))
                have HBT := Aside0.mk (HBJ.out.trans ((hbs.trans (hbt.mono hbs.size)).mono HBJ.out.size))
                go_wp2
                go_ret
                exact ⟨rfl, HBT.out⟩
              · have HBY3 : Aside0 (∀ W, Below wr.heap.size wr W → Calls Try.prog 13 #[.slice (Option.map (fun x_1 => x_1.add (1 + x.a0).toNat) S0) ((1 + x.a0 + (x.l1.length : Int)).toNat - (1 + x.a0).toNat) (f0 - (1 + x.a0).toNat), .slice D0 L[k].f0.length e0] W fun e w' => e = .returned (.bool true) ∧ Drawn0 W w') := ⟨fun W hb => by
                  have h := HBY2.out W hb
                  rw [if_neg hf0] at h
                  exact h⟩
                obtain ⟨_, k0, k1, k2, k3, k4, k5⟩ := HAI.out
                obtain ⟨wp, rfl⟩ : ∃ wp : World, wp = wr := ⟨_, rfl⟩
                go_wp2_with fail
                go_region_held3 (fun w' => w'.cell? ⟨w.heap.size, 0, none⟩ = some (.int .i64 x.a0) ∧ w'.cell? ⟨w.heap.size, 1, none⟩ = some (.slice x.A1 x.l1.length x.c1) ∧ w'.cell? (az.add q) = some (.slice S0 V.length f0) ∧ w'.cell? (ad.add (k * 4)) = some (.slice D0 L[k].f0.length e0))
                  (first
                    | go_keep
                    | (go_split_ands
                       have hq' : ∀ p v, wp.cell? p = some v → wt.cell? p = some v := fun p v h => (hbt.cell (Nat.lt_of_lt_of_le (World.block_lt_of_cell? wp p h) hbs.size)).trans ((hbs.cell (World.block_lt_of_cell? wp p h)).trans h)
                       exact ⟨hq' _ _ k0, hq' _ _ k1, hq' _ _ hc0, hq' _ _ es0⟩)
                    | (go_split_ands
                       have hq' : ∀ p v, wp.cell? p = some v → ws'.cell? p = some v := fun p v h => (hbs.cell (World.block_lt_of_cell? wp p h)).trans h
                       exact ⟨hq' _ _ k0, hq' _ _ k1, hq' _ _ hc0, hq' _ _ es0⟩))
                  (first
                    | (go_at_call 13; (with_reducible refine (HBY3.out wp.drew ((Below.refl _ _).drew)).mono ?_); rintro e ws' ⟨rfl, hds⟩; have hbs : Below wp.heap.size wp ws' := ((Below.refl _ _).drew).trans hds.below)
                    | (go_at_call 9; (with_reducible refine (lives_calls ws').mono ?_); rintro e wt ⟨rfl, hbt⟩))
                have HBT := Aside0.mk (HBJ.out.trans ((hbs.trans (hbt.mono hbs.size)).mono HBJ.out.size))
                go_wp2
                go_ret
                exact ⟨rfl, HBT.out⟩
end Go.Proofs.Ytdjhjgfjhicbfaa.PWalkLeads

namespace Go.Proofs.Ytdjhjgfjhicbfaa.PWalkLeads
open Go.RowKit Go.Shelf Go.Maps Go.Proofs.YtdjhjgfjhicbfaaW.PrintWords Go.Proofs.YtdjhjgfjhicbfaaW.PrintLast Go.Proofs.YtdjhjgfjhicbfaaW.PrintMore
set_option linter.unusedVariables false
set_option linter.unusedSimpArgs false
set_option maxHeartbeats 4000000 in
set_option maxRecDepth 100000 in
theorem law_walk (x : CP) (a1 : Int) (A : Option Addr) (c : Nat) (l : List Int) (w : World) (ok : x.Ok w) (fit : x.Fit) (h0 : 0 ≤ a1) (h1 : a1 ≤ 65535) (hc : l.length ≤ c) (hr : Kd.C (Kd.int .u8) w A l.length l) (hb : Bytes l) (hl : l.length ≤ 140737488351232) :
    Calls Try.prog 6 #[.agg #[.int .i64 x.a0, .slice x.A1 x.l1.length x.c1, .slice x.A2 x.l2.length x.c2, .slice x.A3 x.l3.length x.c3, .slice x.A4 x.l4.length x.c4, .slice x.A5 x.l5.length x.c5], .int .u16 a1, .slice A l.length c] w fun e w' => e = .returned (.bool true) ∧ Below w.heap.size w w' := by
  have hb0 : Below w.heap.size w (w.alloc (.cells #[.int .i64 x.a0, .slice x.A1 x.l1.length x.c1, .slice x.A2 x.l2.length x.c2, .slice x.A3 x.l3.length x.c3, .slice x.A4 x.l4.length x.c4, .slice x.A5 x.l5.length x.c5] 26)) := (Below.refl _ _).alloc (Nat.le_refl _) _
  have HAT := Aside0.mk (CP.at_alloc x w)
  have HB := Aside0.mk hb0
  have HO := Aside0.mk ok
  have HF := Aside0.mk fit
  have HR := Aside0.mk hr
  have okb := ok.below hb0
  have HG := Aside0.mk (inquestlaw27_great.calls x.a0 x.A1 x.c1 x.l1 x.A2 x.c2 x.l2 x.A3 x.c3 x.l3 x.A4 x.c4 x.l4 x.A5 x.c5 x.l5 x.great _ okb.r1 okb.m1 okb.r2 okb.m2 okb.r3 okb.m3 okb.r4 okb.m4 okb.r5 okb.m5 (great_ref x))
  obtain ⟨_, k0, k1, k2, k3, k4, k5⟩ := HAT.out
  clear hb0 ok fit hr okb
  cases hgr : x.great
  · rw [hgr] at HG
    have HGR := Aside0.mk hgr
    clear hgr
    by_cases hb4 : x.l4.length = 0
    · have hln : ((x.l4.length : Int) == 0) = true := beq_iff_eq.2 (by omega)
      have hl5 : x.l4.length ≤ 9223372036854775807 := by omega
      clear hb4
      go_enter Try.func6, Try.ntmps6
      go_wp2_with (first
        | (go_at_call 7; go_must (refine HG.out.mono ?_; rintro e w1 ⟨rfl, hb1⟩; have HA1 := Aside0.mk (HAT.out.below hb1); have HB1 := Aside0.mk (HB.out.trans (hb1.mono HB.out.size)); clear hb1 k0 k1 k2 k3 k4 k5; obtain ⟨_, k0, k1, k2, k3, k4, k5⟩ := HA1.out))
        | (go_at_call 9; go_must (refine (lives_calls _).mono ?_; rintro e w2 ⟨rfl, hb2⟩; have HB2 := Aside0.mk (HB1.out.trans (hb2.mono HB1.out.size)); clear hb2)))
      go_ret
      exact ⟨rfl, HB2.out⟩
    have hln : ((x.l4.length : Int) == 0) = false := beq_eq_false_iff_ne.2 (by omega)
    have hl5 : x.l4.length ≤ 9223372036854775807 := by have := HF.out.n4; omega
    have HL4 := Aside0.mk (by omega : 0 < x.l4.length)
    clear hb4
    by_cases h4 : x.a0 > 4
    · go_enter Try.func6, Try.ntmps6
      go_wp2_with (first
        | (go_at_call 7; go_must (refine HG.out.mono ?_; rintro e w1 ⟨rfl, hb1⟩; have HA1 := Aside0.mk (HAT.out.below hb1); have HB1 := Aside0.mk (HB.out.trans (hb1.mono HB.out.size)); clear hb1 k0 k1 k2 k3 k4 k5; obtain ⟨_, k0, k1, k2, k3, k4, k5⟩ := HA1.out))
        | (go_at_call 9; go_must (refine (lives_calls _).mono ?_; rintro e w2 ⟨rfl, hb2⟩; have HB2 := Aside0.mk (HB1.out.trans (hb2.mono HB1.out.size)); clear hb2)))
      go_ret
      exact ⟨rfl, HB2.out⟩
    · have h7 : x.l1.length ≤ 7 := by
        have h := HGR.out
        unfold CP.great at h
        simp at h
        omega
      have HALL := Aside0.mk (fun W (hb : Below w.heap.size w W) => all_calls x W (HO.out.below hb) HF.out)
      cases hmay : x.may
      · have hall : x.allS = ([], 2) := by unfold CP.allS; rw [if_pos hmay]
        rw [hall] at HALL
        have HREF := Aside0.mk (fun W (hb : Below w.heap.size w W) => inquestref03_May.calls x.mayK x.a0 x.A1 x.c1 x.l1 x.A2 x.c2 x.l2 x.A3 x.c3 x.l3 x.A4 x.c4 x.l4 x.A5 x.c5 x.l5 false W (HO.out.below hb).r1 (HO.out.below hb).m1 (HO.out.below hb).r2 (HO.out.below hb).m2 (HO.out.below hb).r3 (HO.out.below hb).m3 (HO.out.below hb).r4 (HO.out.below hb).m4 (HO.out.below hb).r5 (HO.out.below hb).m5 ((may_ref x HF.out x.mayK (Nat.le_refl _)).trans (by rw [hmay])))
        clear hmay hall
        go_enter Try.func6, Try.ntmps6
        go_wp2_with (first
          | (go_at_call 7; go_must (refine HG.out.mono ?_; rintro e w1 ⟨rfl, hb1⟩; have HA1 := Aside0.mk (HAT.out.below hb1); have HB1 := Aside0.mk (HB.out.trans (hb1.mono HB.out.size)); clear hb1 k0 k1 k2 k3 k4 k5; obtain ⟨_, k0, k1, k2, k3, k4, k5⟩ := HA1.out))
          | (go_at_call 10; go_must (refine (HALL.out _ HB1.out).mono ?_; rintro e w2 ⟨v2, rfl, ho2, hb2⟩; obtain ⟨A2, c2, e2⟩ := Kd.R_slice ho2; subst e2; have HA2 := Aside0.mk (HA1.out.below hb2); have HB2 := Aside0.mk (HB1.out.trans (hb2.mono HB1.out.size)); clear ho2 hb2 k0 k1 k2 k3 k4 k5; obtain ⟨_, k0, k1, k2, k3, k4, k5⟩ := HA2.out))
          | (go_at_call 15; go_must (refine (HREF.out _ HB2.out).mono ?_; rintro e w3 ⟨rfl, hb3⟩; have HB3 := Aside0.mk (HB2.out.trans (hb3.mono HB2.out.size)); clear hb3))
          | (go_at_call 9; go_must (refine (lives_calls _).mono ?_; rintro e w4 ⟨rfl, hb4⟩; have HB4 := Aside0.mk (HB3.out.trans (hb4.mono HB3.out.size)); clear hb4)))
        go_ret
        exact ⟨rfl, HB4.out⟩
      · exact law_big x a1 A c l w HO.out HF.out h0 h1 hc HR.out hb hl HGR.out h4 hmay HL4.out
  · rw [hgr] at HG
    clear hgr
    go_enter Try.func6, Try.ntmps6
    go_wp2_with (first
      | (go_at_call 7; go_must (refine HG.out.mono ?_; rintro e w1 ⟨rfl, hb1⟩; have HB1 := Aside0.mk (HB.out.trans (hb1.mono HB.out.size)); clear hb1))
      | (go_at_call 9; go_must (refine (lives_calls _).mono ?_; rintro e w2 ⟨rfl, hb2⟩; have HB2 := Aside0.mk (HB1.out.trans (hb2.mono HB1.out.size)); clear hb2)))
    go_ret
    exact ⟨rfl, HB2.out⟩
end Go.Proofs.Ytdjhjgfjhicbfaa.PWalkLeads
