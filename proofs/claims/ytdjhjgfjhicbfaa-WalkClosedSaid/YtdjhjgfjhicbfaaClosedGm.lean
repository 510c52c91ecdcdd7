/- A part of the proof of WalkClosedSaid: contracts of functions and plain lemmas; each holds under the hypotheses that it names. -/
import Derived.Test.YtdjhjgfjhicbfaaClosedGk
import Derived.Test.YtdjhjgfjhicbfaaPWalkClosedx
import Derived.BigQuiet
import Derived.Laws.Strings
import Derived.Deep.RegionHeld3
namespace Go.Proofs.Ytdjhjgfjhicbfaa.PWalkClosed
open Go.RowKit Go.Shelf Go.Maps Go.Proofs.YtdjhjgfjhicbfaaW.PrintWords Go.Proofs.YtdjhjgfjhicbfaaW.PrintLast Go.Proofs.YtdjhjgfjhicbfaaW.PrintMore
set_option linter.unusedVariables false
set_option linter.unusedSimpArgs false

/-- What the document's frame answers, as a contract. -/
theorem frame7_calls (x : CP) (A1 A2 : Option Addr) (c1 c2 : Nat) (st inp : List Int) (w : World) (ok : x.Ok w) (fit : x.Fit) (hmay : x.may = true) (h1 : valuesS st (x.l1.length : Int) = true) (h2 : valuesS inp x.a0 = true)
    (hb1 : Bytes st) (hb2 : Bytes inp) (hn1 : st.length ≤ 17592186044416) (hn2 : inp.length ≤ 17592186044416) (hr1 : Kd.C (Kd.int .u8) w A1 st.length st) (hc1 : st.length ≤ c1) (hr2 : Kd.C (Kd.int .u8) w A2 inp.length inp) (hc2 : inp.length ≤ c2) :
    Calls Try.prog 16 #[.agg #[.int .i64 x.a0, .slice x.A1 x.l1.length x.c1, .slice x.A2 x.l2.length x.c2, .slice x.A3 x.l3.length x.c3, .slice x.A4 x.l4.length x.c4, .slice x.A5 x.l5.length x.c5], .slice A1 st.length c1, .slice A2 inp.length c2] w fun e w' => ∃ Av cv An cn,
      e = .returned (.tuple #[.slice Av (x.frameS st inp).length cv, .slice An (x.nextS (x.frameS st inp)).length cn, .int .i64 0]) ∧ (x.frameS st inp).length ≤ cv ∧ Kd.C (Kd.int .u8) w' Av (x.frameS st inp).length (x.frameS st inp) ∧
      (x.nextS (x.frameS st inp)).length ≤ cn ∧ Kd.C (Kd.int .u8) w' An (x.nextS (x.frameS st inp)).length (x.nextS (x.frameS st inp)) ∧ Below w.heap.size w w' := by
  refine (inquestref07_Frame.calls (x.mayK + st.length + inp.length + 4) x.a0 x.A1 x.c1 x.l1 x.A2 x.c2 x.l2 x.A3 x.c3 x.l3 x.A4 x.c4 x.l4 x.A5 x.c5 x.l5 A1 c1 st A2 c2 inp (x.frameS st inp) (x.nextS (x.frameS st inp)) 0 w ok.r1 ok.m1 ok.r2 ok.m2 ok.r3 ok.m3 ok.r4 ok.m4 ok.r5 ok.m5 hr1 hc1 hr2 hc2
    (frame_ref x fit st inp hmay h1 h2 hb1 hb2 hn1 hn2 _ (Nat.le_refl _))).mono ?_
  rintro e w' ⟨v0, v1, rfl, g0, g1, hb⟩
  obtain ⟨Av, cv, rfl, m0, r0⟩ := Kd.R_reads g0
  obtain ⟨An, cn, rfl, m1, r1⟩ := Kd.R_reads g1
  exact ⟨Av, cv, An, cn, rfl, m0, r0, m1, r1, hb⟩

theorem held27_calls (x : CP) (A1 : Option Addr) (c1 : Nat) (V : List Int) (w : World) (ok : x.Ok w) (fit : x.Fit) (hb : Bytes V) (hr1 : Kd.C (Kd.int .u8) w A1 V.length V) (hc1 : V.length ≤ c1) :
    Calls Try.prog 14 #[.agg #[.int .i64 x.a0, .slice x.A1 x.l1.length x.c1, .slice x.A2 x.l2.length x.c2, .slice x.A3 x.l3.length x.c3, .slice x.A4 x.l4.length x.c4, .slice x.A5 x.l5.length x.c5], .slice A1 V.length c1] w fun e w' => e = .returned (.bool (x.heldS V)) ∧ Below w.heap.size w w' :=
  inquestref27_Held.calls (x.l5.length + 2) x.a0 x.A1 x.c1 x.l1 x.A2 x.c2 x.l2 x.A3 x.c3 x.l3 x.A4 x.c4 x.l4 x.A5 x.c5 x.l5 A1 c1 V (x.heldS V) w ok.r1 ok.m1 ok.r2 ok.m2 ok.r3 ok.m3 ok.r4 ok.m4 ok.r5 ok.m5 hr1 hc1 (held_ref x fit V hb _ (by omega))

theorem beq_nums {s t : List Int} (hs : Bytes s) (ht : Bytes t) : ((strOfNums s).toList == (strOfNums t).toList) = decide (s = t) := by
  by_cases h : s = t
  · subst h; simp
  · rw [decide_eq_false h]
    have : (strOfNums s).toList ≠ (strOfNums t).toList := fun e => h (strOf_inj hs ht (by
      rw [ByteArray.toList_eq, ByteArray.toList_eq] at e
      exact e))
    simpa using this

theorem bytes_calls (A0 : Option Addr) (c0 : Nat) (l0 : List Int) (A1 : Option Addr) (c1 : Nat) (l1 : List Int) (w : World) (hr0 : Kd.C (Kd.int .u8) w A0 l0.length l0) (hc0 : l0.length ≤ c0) (hr1 : Kd.C (Kd.int .u8) w A1 l1.length l1) (hc1 : l1.length ≤ c1) (h0 : Bytes l0) (h1 : Bytes l1) :
    Calls Try.prog 13 #[.slice A0 l0.length c0, .slice A1 l1.length c1] w fun e w' => e = .returned (.bool (decide (l0 = l1))) ∧ Drawn0 w w' :=
  inquestref00_Bytes.calls A0 c0 l0 A1 c1 l1 _ w hr0 hc0 hr1 hc1 (by unfold inquestref00_Bytes.f; rw [beq_nums h0 h1])

/-- The first i inputs, 0 behind. -/
def inpTo (l : List Int) (m i : Nat) : List Int := (List.range i).map (fun j => if j < l.length then l.getD j 0 % 2 else 0) ++ List.replicate (m - i) 0
def inpS (l : List Int) (m : Nat) : List Int := (List.range m).map (fun j => if j < l.length then l.getD j 0 % 2 else 0)
theorem inpTo_zero (l : List Int) (m : Nat) : inpTo l m 0 = List.replicate m 0 := by simp [inpTo]
theorem inpTo_full (l : List Int) (m : Nat) : inpTo l m m = inpS l m := by simp [inpTo, inpS]
theorem inpS_length (l : List Int) (m : Nat) : (inpS l m).length = m := by simp [inpS]
theorem inpTo_length (l : List Int) (m i : Nat) (h : i ≤ m) : (inpTo l m i).length = m := by simp [inpTo]; omega
theorem inpS_bit (l : List Int) (m : Nat) : ∀ v ∈ inpS l m, v = 0 ∨ v = 1 := by
  intro v hv
  obtain ⟨i, _, rfl⟩ := List.mem_map.1 hv
  split <;> omega
theorem inpTo_set (l : List Int) (m i : Nat) (h : i < m) (hi : i < l.length) : (inpTo l m i).set i (l.getD i 0 % 2) = inpTo l m (i + 1) := by
  unfold inpTo
  rw [List.set_append_right _ _ (by simp), List.length_map, List.length_range, Nat.sub_self]
  have : List.replicate (m - i) (0 : Int) = 0 :: List.replicate (m - (i + 1)) 0 := by
    rw [show m - i = (m - (i + 1)) + 1 by omega, List.replicate_succ]
  rw [this, List.set_cons_zero, List.range_succ]
  simp [hi]
theorem inpTo_skip (l : List Int) (m i : Nat) (h : i < m) (hi : ¬ i < l.length) : inpTo l m i = inpTo l m (i + 1) := by
  unfold inpTo
  have : List.replicate (m - i) (0 : Int) = 0 :: List.replicate (m - (i + 1)) 0 := by
    rw [show m - i = (m - (i + 1)) + 1 by omega, List.replicate_succ]
  rw [this, List.range_succ]
  simp [hi]

theorem values_bit {l : List Int} {n : Int} (h : (l.length : Int) = n) (hv : ∀ v ∈ l, 0 ≤ v ∧ v ≤ 2) : valuesS l n = true := by
  unfold valuesS
  rw [show ((l.length : Int) == n) = true from beq_iff_eq.2 h]
  simp only [Bool.true_and, Bool.not_eq_true', List.any_eq_false]
  intro v hm
  simp
  exact (hv v hm).2
theorem bytes_bit {l : List Int} (hv : ∀ v ∈ l, 0 ≤ v ∧ v ≤ 2) : Bytes l := fun v hm => by have := hv v hm; omega
end Go.Proofs.Ytdjhjgfjhicbfaa.PWalkClosed

namespace Go.Proofs.Ytdjhjgfjhicbfaa.PWalkClosed
open Go.RowKit Go.Shelf Go.Maps Go.Proofs.YtdjhjgfjhicbfaaW.PrintWords Go.Proofs.YtdjhjgfjhicbfaaW.PrintLast Go.Proofs.YtdjhjgfjhicbfaaW.PrintMore
set_option linter.unusedVariables false
set_option linter.unusedSimpArgs false
set_option maxHeartbeats 4000000 in
set_option maxRecDepth 100000 in
theorem law_big (x : CP) (a1 : Int) (A : Option Addr) (c : Nat) (l : List Int) (w : World) (ok : x.Ok w) (fit : x.Fit) (h0 : 0 ≤ a1) (h1 : a1 ≤ 65535) (hc : l.length ≤ c) (hr : Kd.C (Kd.int .u8) w A l.length l) (hb : Bytes l) (hl : l.length ≤ 140737488351232)
    (hgr : x.great = false) (h4 : ¬ x.a0 > 4) (hmay : x.may = true) :
    Calls Try.prog 4 #[.agg #[.int .i64 x.a0, .slice x.A1 x.l1.length x.c1, .slice x.A2 x.l2.length x.c2, .slice x.A3 x.l3.length x.c3, .slice x.A4 x.l4.length x.c4, .slice x.A5 x.l5.length x.c5], .int .u16 a1, .slice A l.length c] w fun e w' => e = .returned (.bool true) ∧ Below w.heap.size w w' := by
  have hb0 : Below w.heap.size w (w.alloc (.cells #[.int .i64 x.a0, .slice x.A1 x.l1.length x.c1, .slice x.A2 x.l2.length x.c2, .slice x.A3 x.l3.length x.c3, .slice x.A4 x.l4.length x.c4, .slice x.A5 x.l5.length x.c5] 26)) := (Below.refl _ _).alloc (Nat.le_refl _) _
  have h7 : x.l1.length ≤ 7 := by
    have h := hgr
    unfold CP.great at h
    simp at h
    omega
  obtain ⟨L, hWk⟩ := walked x fit hmay (by omega) h7
  have hlen0 := hWk.some
  have hlenM := hWk.short
  have hx0 := may_nonneg hmay
  have HALL := Aside0.mk (fun W (hb : Below w.heap.size w W) => all_calls x W (ok.below hb) fit)
  rw [hWk.all] at HALL
  have HWK := Aside0.mk hWk
  have HAT := Aside0.mk (CP.at_alloc x w)
  have HB := Aside0.mk hb0
  have HO := Aside0.mk ok
  have HF := Aside0.mk fit
  have HR := Aside0.mk hr
  have HBL := Aside0.mk hb
  have HMY := Aside0.mk hmay
  have okb := ok.below hb0
  have HG := Aside0.mk (inquestlaw27_great.calls x.a0 x.A1 x.c1 x.l1 x.A2 x.c2 x.l2 x.A3 x.c3 x.l3 x.A4 x.c4 x.l4 x.A5 x.c5 x.l5 x.great _ okb.r1 okb.m1 okb.r2 okb.m2 okb.r3 okb.m3 okb.r4 okb.m4 okb.r5 okb.m5 (great_ref x))
  rw [hgr] at HG
  obtain ⟨_, k0, k1, k2, k3, k4, k5⟩ := HAT.out
  clear hb0 ok fit hr okb hb hmay hWk hgr
  have hkt : a1 % (L.length : Int) = ((a1.toNat % L.length : Nat) : Int) := by
    obtain ⟨n, rfl⟩ := Int.eq_ofNat_of_zero_le h0
    rw [Int.toNat_natCast]; rfl
  obtain ⟨k, hk⟩ : ∃ k, k = a1.toNat % L.length := ⟨_, rfl⟩
  have hkl : k < L.length := by rw [hk]; exact Nat.mod_lt _ hlen0
  rw [← hk] at hkt
  have HKT := Aside0.mk hkt
  clear hk hkt
  go_enter Try.func4, Try.ntmps4
  go_wp2_with (first
    | (go_at_call 7; go_must (refine HG.out.mono ?_; rintro e w1 ⟨rfl, hb1⟩; have HA1 := Aside0.mk (HAT.out.below hb1); have HB1 := Aside0.mk (HB.out.trans (hb1.mono HB.out.size)); clear hb1 k0 k1 k2 k3 k4 k5; obtain ⟨_, k0, k1, k2, k3, k4, k5⟩ := HA1.out))
    | (go_at_call 10; go_must (refine (HALL.out _ HB1.out).mono ?_; rintro e w2 ⟨v2, rfl, ho2, hb2⟩; obtain ⟨A2, c2, e2⟩ := Kd.R_slice ho2; subst e2; have HL2 := Aside0.mk ho2; have HA2 := Aside0.mk (HA1.out.below hb2); have HB2 := Aside0.mk (HB1.out.trans (hb2.mono HB1.out.size)); clear ho2 hb2 k0 k1 k2 k3 k4 k5; obtain ⟨_, k0, k1, k2, k3, k4, k5⟩ := HA2.out))
    | ((with_reducible refine gate_dst (N := 54) rfl ?_); go_must (refine Kd.R_make (Kd.int .u8) (w0 := w2) w2.heap.size 5 rfl rfl 27 (.tmp 53) (.tmp 53) rfl x.a0 rfl rfl Try.underlying27 (.int .u8 0) 1 info5 rfl (by decide) (by decide) 0 (ok := fun _ => True) (okp := fun _ => True) rfl (fun _ _ => trivial) trivial (by omega) (by omega) (Below.refl _ _) (Nat.le_refl _) ?_; intro v3 w3 ho hb hg hx; obtain ⟨A3, c3, rfl⟩ := Kd.R_slice ho; have HO3 := Aside0.mk ho; have HB3 := Aside0.mk hb; clear ho hb hg hx)))
  have HO4 : Aside0 (Kd.R (Kd.int .u8) 5 w3 w2.heap.size (fun _ => True) (.slice A3 x.a0.toNat c3) (inpTo l x.a0.toNat 0)) := ⟨by
    rw [inpTo_zero]
    have := HO3.out
    simpa using this⟩
  have hm4 : x.a0.toNat ≤ 4 := by omega
  clear HO3 k0 k1 k2 k3 k4 k5
  rw [HKT.out]
  have hk0 : (0 : Int) ≤ (k : Int) := by omega
  have hk1 : (k : Int) < (L.length : Int) := by omega
  go_loopw [57] (fun v wi => ∃ i : Nat, i ≤ x.a0.toNat ∧ v = .int .i64 i ∧ Aside0 (Kd.R (Kd.int .u8) 5 wi w2.heap.size (fun _ => True) (.slice A3 x.a0.toNat c3) (inpTo l x.a0.toNat i)) ∧ Aside0 (Below w2.heap.size w2 wi)) (fun v _ => x.a0.toNat - (intOf v).toNat)
  case atStart => exact ⟨0, by omega, rfl, HO4, HB3⟩
  case round =>
    clear HO4
    obtain ⟨i, hi, rfl, HOI, HBI⟩ := hrel
    by_cases hlt : i < x.a0.toNat
    · by_cases hil : i < l.length
      · obtain ⟨ad, ea, hc0⟩ := Kd.at_int (Kd.C_below HR.out (HB2.out.trans (HBI.out.mono HB2.out.size))) i (by omega) (by omega)
        have hcb : wr.cell? (ad.add i) = some (.int .u8 l[i]) := by simpa [rd, List.getD_eq_getElem?_getD, hil] using hc0
        have hv := HBL.out l[i] (List.getElem_mem hil)
        have HTM : Aside0 (Int.tmod l[i] 2 = l[i] % 2) := ⟨Int.tmod_eq_emod_of_nonneg hv.1⟩
        obtain ⟨g, cap, e1, hg0, hg1, cells, hgc⟩ := Kd.R_form HOI.out (by rw [inpTo_length _ _ _ (by omega)]; omega)
        injection e1 with e1 e2 e3
        subst e1
        subst e3
        have hlen := inpTo_length l x.a0.toNat i (by omega)
        have HOI2 : Aside0 (Kd.R (Kd.int .u8) 5 wr w2.heap.size (fun _ => True) (.slice (some ⟨g, 0, none⟩) (inpTo l x.a0.toNat i).length c3) (inpTo l x.a0.toNat i)) := ⟨by rw [hlen]; exact HOI.out⟩
        obtain ⟨hcl, hfl⟩ := Kd.R_cell (0 : Int) HOI2.out (i : Int) (by omega) (by rw [hlen]; omega)
        simp only [Int.toNat_natCast] at hcl hfl
        have HPUT := Aside0.mk (Kd.R_put HOI2.out (i : Int) (l[i] % 2))
        have HGB : Aside0 (Below w2.heap.size w2 (wr.setCell ⟨g, i, none⟩ (.int .u8 (l[i] % 2)))) := ⟨HBI.out.setCell (p := ⟨g, i, none⟩) hg0 _⟩
        have HW : Aside0 (Kd.R (Kd.int .u8) 5 (wr.setCell ⟨g, i, none⟩ (.int .u8 (l[i] % 2))) w2.heap.size (fun _ => True) (.slice (some ⟨g, 0, none⟩) x.a0.toNat c3) (inpTo l x.a0.toNat (i + 1))) := ⟨by
          have h := HPUT.out.1
          have e : l[i] = l.getD i 0 := by simp [List.getD_eq_getElem?_getD, hil]
          rw [hlen, Int.toNat_natCast, e, inpTo_set _ _ _ hlt hil, ← e] at h
          exact h⟩
        obtain ⟨bv, hbv⟩ : ∃ bv, bv = l[i] := ⟨_, rfl⟩
        rw [← hbv] at hcb HTM HGB HW hv
        subst ea
        clear HPUT HOI2 hlen hgc e2 hg0 hg1 hc0 hbv
        go_wp2
        exact ⟨⟨i + 1, by omega, by go_num, HW, HGB⟩, by simp [intOf]; omega⟩
      · have HW : Aside0 (Kd.R (Kd.int .u8) 5 wr w2.heap.size (fun _ => True) (.slice A3 x.a0.toNat c3) (inpTo l x.a0.toNat (i + 1))) := ⟨by
          rw [← inpTo_skip _ _ _ hlt hil]; exact HOI.out⟩
        clear HOI
        go_wp2
        exact ⟨⟨i + 1, by omega, by go_num, HW, HBI⟩, by simp [intOf]; omega⟩
    · have hi' : i = x.a0.toNat := by omega
      have HIN : Aside0 (Kd.R (Kd.int .u8) 5 wr w2.heap.size (fun _ => True) (.slice A3 (inpS l x.a0.toNat).length c3) (inpS l x.a0.toNat)) := ⟨by
        have := HOI.out
        rw [hi', inpTo_full] at this
        rw [inpS_length]
        exact this⟩
      have HAW := Aside0.mk (HA2.out.below HBI.out)
      have HBW := Aside0.mk (HB2.out.trans (HBI.out.mono HB2.out.size))
      have HLW := Aside0.mk (Kd.R_below HL2.out HBI.out)
      clear hi' HOI HB3 HG HALL HAT HB HA1 HL2 HA2 HBI
      obtain ⟨_, k0, k1, k2, k3, k4, k5⟩ := HAW.out
      obtain ⟨A2', c2', h1', _, hrl⟩ := Kd.R_reads HLW.out
      cases h1'
      obtain ⟨ad, A0, c0, Ab, cb, e1, hs0, hs1, hs2, hs3, hm0, hr0, hmb, hrb⟩ := at_state hrl k hkl
      subst e1
      obtain ⟨sv, hsv⟩ : ∃ sv, sv = L[k] := ⟨_, rfl⟩
      obtain ⟨q1, q2, q3, q4, q5, q6, q7⟩ := HWK.out.good k hkl
      rw [← hsv] at hs0 hs1 hs2 hs3 hm0 hr0 hmb hrb q1 q2 q3 q4 q5 q6 q7
      have HSV := Aside0.mk hsv
      have HG := Aside0.mk (And.intro q1 (And.intro q2 (And.intro q3 (And.intro q4 (And.intro q5 (And.intro q6 q7))))))
      have HIV : Aside0 (valuesS (inpS l x.a0.toNat) x.a0 = true ∧ Bytes (inpS l x.a0.toNat) ∧ valuesS sv.f0 (x.l1.length : Int) = true ∧ Bytes sv.f0) :=
        ⟨values_bit (by rw [inpS_length]; omega) (fun v hv => by have := inpS_bit l _ v hv; omega), bytes_bit (fun v hv => by have := inpS_bit l _ v hv; omega), values_bit (by rw [q1]) q2, bytes_bit q2⟩
      obtain ⟨A3', c3', h3', hm3, hr3⟩ := Kd.R_reads HIN.out
      cases h3'
      obtain ⟨iv, hiv⟩ : ∃ iv, iv = inpS l x.a0.toNat := ⟨_, rfl⟩
      have hil : iv.length = x.a0.toNat := by rw [hiv, inpS_length]
      rw [← hiv] at HIV HIN hm3 hr3
      have HIVE := Aside0.mk hiv
      have HFR := Aside0.mk (frame7_calls x A0 A3 c0 c3 sv.f0 iv wr.drew (HO.out.below HBW.out.drew) HF.out HMY.out HIV.out.2.2.1 HIV.out.1 HIV.out.2.2.2 HIV.out.2.1 (by omega) (by omega) (Kd.C_drew hr0) hm0 (Kd.C_drew hr3) hm3)
      rw [hil] at HFR
      clear q1 q2 q3 q4 q5 q6 q7 hsv hiv hrl hm0 hr0 hmb hrb hm3 hr3
      obtain ⟨wo, rfl⟩ : ∃ wo : World, wo = wr := ⟨_, rfl⟩
      go_wp2_with fail
      go_region_held3 (fun w' => w'.cell? ⟨w.heap.size, 0, none⟩ = some (.int .i64 x.a0) ∧ w'.cell? ⟨w.heap.size, 1, none⟩ = some (.slice x.A1 x.l1.length x.c1) ∧ w'.cell? ⟨w.heap.size, 2, none⟩ = some (.slice x.A2 x.l2.length x.c2) ∧ w'.cell? ⟨w.heap.size, 3, none⟩ = some (.slice x.A3 x.l3.length x.c3) ∧ w'.cell? ⟨w.heap.size, 4, none⟩ = some (.slice x.A4 x.l4.length x.c4) ∧ w'.cell? ⟨w.heap.size, 5, none⟩ = some (.slice x.A5 x.l5.length x.c5) ∧
          w'.cell? (ad.add (k * 4)) = some (.slice A0 sv.f0.length c0))
        (first
          | go_keep
          | (go_split_ands
             have hq : ∀ p v, wo.cell? p = some v → w5.cell? p = some v := fun p v h => (hb5.cell (World.block_lt_of_cell? wo p h)).trans h
             exact ⟨hq _ _ k0, hq _ _ k1, hq _ _ k2, hq _ _ k3, hq _ _ k4, hq _ _ k5, hq _ _ hs0⟩))
        ((go_at_call 16; (with_reducible refine HFR.out.mono ?_); rintro e w5 ⟨Av, cv, An, cn, rfl, hmv, hrv, hmn, hrn, hb5⟩))
      have hbW : Below wo.heap.size wo w5 := ((Below.refl _ _).drew).trans hb5
      have HA5 := Aside0.mk (HAW.out.below hbW)
      have HB5 := Aside0.mk (HBW.out.trans (hbW.mono HBW.out.size))
      have HL5 := Aside0.mk (Kd.R_below HLW.out hbW)
      obtain ⟨V, hV⟩ : ∃ V, V = x.frameS sv.f0 iv := ⟨_, rfl⟩
      rw [← hV] at hmv hrv hmn hrn ⊢
      obtain ⟨N, hN⟩ : ∃ N, N = x.nextS V := ⟨_, rfl⟩
      rw [← hN] at hmn hrn ⊢
      have HV := Aside0.mk hV
      have HN := Aside0.mk hN
      have HVB : Aside0 (Bytes V) := ⟨by rw [hV]; exact frameS_bytes x _ _ HIV.out.2.2.2 HIV.out.2.1⟩
      have HNB : Aside0 (Bytes N) := ⟨by rw [hN]; exact bytes_bit (nextS_range x V HVB.out)⟩
      have HNR := Aside0.mk hrn
      have HNM := Aside0.mk hmn
      have HHC := Aside0.mk (held27_calls x Av cv V w5 (HO.out.below HB5.out) HF.out HVB.out hrv hmv)
      clear hbW hb5 hmv hrv hmn hrn k0 k1 k2 k3 k4 k5 hs0 hs1 hs2 hs3 hV hN HFR HAW HBW HLW HIN
      obtain ⟨_, k0, k1, k2, k3, k4, k5⟩ := HA5.out
      obtain ⟨hd, hhd⟩ : ∃ hd, hd = x.heldS V := ⟨_, rfl⟩
      rw [← hhd] at HHC
      have HHD := Aside0.mk hhd
      clear hhd
      go_wp2_with (go_at_call 14; go_must (refine HHC.out.mono ?_; rintro e w6 ⟨rfl, hb6⟩; have HA6 := Aside0.mk (HA5.out.below hb6); have HB6 := Aside0.mk (HB5.out.trans (hb6.mono HB5.out.size)); have HL6 := Aside0.mk (Kd.R_below HL5.out hb6); have HNR6 := Aside0.mk (Kd.C_below HNR.out hb6); clear hb6 k0 k1 k2 k3 k4 k5))
      obtain ⟨p, hp⟩ : ∃ p : S43 → Bool, p = fun s => decide (s.f0 = N) && decide (s.f1 ≤ sv.f1 + 1) := ⟨_, rfl⟩
      have HP := Aside0.mk hp
      clear hp
      go_loopw [15, 93] (fun u v wr => ∃ j : Nat, j ≤ L.length ∧ u = .bool (!hd || (L.take j).any p) ∧ v = .int .i64 j ∧ Aside0 (Below w6.heap.size w6 wr)) (fun _ v _ => L.length - (intOf v).toNat)
      case atStart => exact ⟨0, by omega, by simp, rfl, ⟨Below.refl _ _⟩⟩
      case round =>
        obtain ⟨j, hj, rfl, rfl, HBJ⟩ := hrel
        by_cases hlt : j < L.length
        · have hsn : (!hd || (L.take (j + 1)).any p) = ((!hd || (L.take j).any p) || p L[j]) := by
            rw [List.take_succ_eq_append_getElem hlt, List.any_append]; simp [Bool.or_assoc]
          have HSN := Aside0.mk hsn
          obtain ⟨A2', c2', h1', _, hrl⟩ := Kd.R_reads (Kd.R_below HL6.out HBJ.out)
          cases h1'
          obtain ⟨ad', B0, d0, Bb, db, e1, gs0, gs1, gs2, gs3, gm0, gr0, gmb, grb⟩ := at_state hrl j hlt
          cases e1
          obtain ⟨ad', D0, e0, Db, eb, e1, hs0, hs1, hs2, hs3, hm0, hr0, hmb, hrb⟩ := at_state hrl k hkl
          cases e1
          rw [← HSV.out] at hs0 hs1 hs2 hs3 hm0 hr0
          obtain ⟨sj, hsj⟩ : ∃ sj, sj = L[j] := ⟨_, rfl⟩
          obtain ⟨q1, q2, q3, q4, q5, q6, q7⟩ := HWK.out.good j hlt
          rw [← hsj] at gs0 gs1 gs2 gs3 gm0 gr0 q1 q2 q3 q4 HSN
          have HBY := Aside0.mk (fun W (hb : Below wr.heap.size wr W) => bytes_calls B0 d0 sj.f0 An cn N W (Kd.C_below gr0 hb) gm0 (Kd.C_below HNR6.out (HBJ.out.trans (hb.mono HBJ.out.size))) HNM.out (bytes_bit q2) HNB.out)
          have hj0 : (0 : Int) ≤ (j : Int) := by omega
          have hj1 : (j : Int) < (L.length : Int) := by omega
          obtain ⟨_, _, p3, p4, _⟩ := HG.out
          have hw1 : wrap64 (sv.f1 + 1) = sv.f1 + 1 := w64 (by omega) (by omega)
          have hps : p sj = (decide (sj.f0 = N) && decide (sj.f1 ≤ sv.f1 + 1)) := by rw [HP.out]
          have HPS := Aside0.mk hps
          have HBB : Aside0 (Below w6.heap.size w6 wr.drew) := ⟨HBJ.out.drew⟩
          clear hsn hrl gr0 gm0 hr0 hm0 grb gmb hrb hmb hps q1 q2 q3 q4 q5 q6 q7 hsj gs2 gs3 hs2 hs3 hs0
          obtain ⟨b, hb⟩ : ∃ b, b = (!hd || (L.take j).any p) := ⟨_, rfl⟩
          rw [← hb] at HSN ⊢
          have HBE := Aside0.mk hb
          clear hb
          cases b
          · cases hdn : decide (sj.f0 = N)
            · rw [hdn] at HBY HPS
              go_wp2_with fail
              go_quiet ((go_at_call 13; (with_reducible refine (HBY.out _ ?side).mono ?_); (case side => repeat (first | exact Below.refl _ _ | (with_reducible first | apply pw_below_drewN | apply below_drew1))); rintro e w' ⟨rfl, ⟨nd, rfl⟩⟩; (try first | exact ⟨rfl, _, World.drewN_drewN _ _ _⟩ | exact ⟨rfl, _, Eq.trans (World.drewN_drewN _ _ _) (congrArg (World.drewN _) (Nat.add_assoc _ _ _))⟩)))
              go_wp2
              exact ⟨⟨j + 1, by omega, by rw [HSN.out, HPS.out]; simp, by go_num, ⟨pw_below_drewN HBJ.out _⟩⟩, by simp [intOf]; omega⟩
            · rw [hdn] at HBY HPS
              go_wp2_with fail
              go_quiet ((go_at_call 13; (with_reducible refine (HBY.out _ ?side).mono ?_); (case side => repeat (first | exact Below.refl _ _ | (with_reducible first | apply pw_below_drewN | apply below_drew1))); rintro e w' ⟨rfl, ⟨nd, rfl⟩⟩; (try first | exact ⟨rfl, _, World.drewN_drewN _ _ _⟩ | exact ⟨rfl, _, Eq.trans (World.drewN_drewN _ _ _) (congrArg (World.drewN _) (Nat.add_assoc _ _ _))⟩)))
              go_wp2
              exact ⟨⟨j + 1, by omega, by rw [HSN.out, HPS.out]; simp, by go_num, ⟨pw_below_drewN HBJ.out _⟩⟩, by simp [intOf]; omega⟩
          · go_wp2_with fail
            go_quiet (fail)
            go_wp2
            exact ⟨⟨j + 1, by omega, by rw [HSN.out]; simp, by go_num, ⟨pw_below_drewN HBJ.out _⟩⟩, by simp [intOf]; omega⟩
        · have hj' : j = L.length := by omega
          have HFD : Aside0 ((!hd || (L.take j).any p) = true) := ⟨by
            rw [hj', List.take_length]
            cases hdv : hd
            · rfl
            · have h2 : x.heldS V = true := by rw [← HHD.out, hdv]
              obtain ⟨m, hm, hme⟩ := way_of iv (fun v hv => by rw [HIVE.out] at hv; exact inpS_bit _ _ v hv)
              rw [hil] at hm hme
              have hcl := HWK.out.closed k hkl m hm
              unfold CP.Leads1 at hcl
              rw [hme, gS_eq hkl, ← HSV.out, ← HV.out] at hcl
              obtain ⟨q, hq, g1, g2⟩ := hcl h2
              rw [gS_eq hq] at g1 g2
              simp only [Bool.not_true, Bool.false_or, List.any_eq_true]
              exact ⟨L[q], List.getElem_mem hq, by rw [HP.out]; simp [g1, g2, HN.out]⟩⟩
          rw [HFD.out]
          obtain ⟨wp, rfl⟩ : ∃ wp : World, wp = wr := ⟨_, rfl⟩
          have HA7 := Aside0.mk (HA6.out.below HBJ.out)
          have HB7 := Aside0.mk (HB6.out.trans (HBJ.out.mono HB6.out.size))
          have HL7 := Aside0.mk (Kd.R_below HL6.out HBJ.out)
          clear HFD HA5 HB5 HL5 HA6 HB6 HL6 HBJ hj' HNR HNR6 HNM
          obtain ⟨at_, HTR⟩ := HWK.out.tree
          obtain ⟨A2', c2', h1', _, hrl⟩ := Kd.R_reads HL7.out
          cases h1'
          obtain ⟨ad', D0, e0, Db, eb, e1, hs0, hs1, hs2, hs3, hm0, hr0, hmb, hrb⟩ := at_state hrl k hkl
          cases e1
          rw [← HSV.out] at hs0 hs1 hs2 hs3 hm0 hr0 hmb hrb
          have hroot := HTR.root k hkl
          have horig := HTR.orig k hkl
          rw [gS_eq hkl, ← HSV.out] at hroot horig
          obtain ⟨q1, q2, q3, q4, q5, q6, q7⟩ := HG.out
          by_cases hf : sv.f2 = -1
          · have hf1 := hroot.1 hf
            rw [hf] at hs2
            rw [hf1] at hs1
            have hd1 : decide ((k : Int) ≤ -1) = false := decide_eq_false (by omega)
            clear hroot horig q1 q2 q3 q4 q5 q6 q7 hrl hr0 hm0 hrb hmb hf hf1 HTR HP HN HV hs0 hs3
            go_wp2_with (go_at_call 9; go_must (refine (lives_calls _).mono ?_; rintro e w8 ⟨rfl, hb8⟩; have HB8 := Aside0.mk (HB7.out.trans (hb8.mono HB7.out.size)); clear hb8))
            go_ret
            exact ⟨rfl, HB8.out⟩
          · obtain ⟨r, hrf⟩ : ∃ r : Nat, sv.f2 = (r : Int) := ⟨sv.f2.toNat, by omega⟩
            have hrk : r < k := by omega
            have hrl2 : r < L.length := by omega
            obtain ⟨o1, o2, o3⟩ := horig (by omega)
            rw [hrf, Int.toNat_natCast, gS_eq hrl2] at o1 o2 o3
            have hf0 : sv.f1 ≠ 0 := fun h => hf (hroot.2 h)
            obtain ⟨ad', R0, t0, Rb, tb, e1, fs0, fs1, fs2, fs3, fm0, fr0, fmb, frb⟩ := at_state hrl r hrl2
            cases e1
            obtain ⟨p1, p2, p3, p4, p5, p6, p7⟩ := HWK.out.good r hrl2
            obtain ⟨sr, hsr⟩ : ∃ sr, sr = L[r] := ⟨_, rfl⟩
            rw [← hsr] at fs0 fs1 fs2 fs3 fm0 fr0 fmb frb o1 o2 o3 p1 p2 p3 p4
            obtain ⟨g1, g2⟩ := q7 hf
            have HFR := Aside0.mk (frame7_calls x R0 Db t0 eb sr.f0 sv.f3 wp.drew (HO.out.below HB7.out.drew) HF.out HMY.out (values_bit (by rw [p1]) p2) (values_bit (by rw [g1]; omega) (fun v hv => by have := g2 v hv; omega)) (bytes_bit p2) (bytes_bit (fun v hv => by have := g2 v hv; omega)) (by omega) (by omega) (Kd.C_drew fr0) fm0 (Kd.C_drew hrb) hmb)
            rw [o3] at HFR
            have HOR := Aside0.mk o1
            have HSB : Aside0 (Bytes sv.f0) := ⟨bytes_bit q2⟩
            have HRK := Aside0.mk hr0
            have HMK := Aside0.mk hm0
            rw [hrf] at hs2
            have r0 : (0 : Int) ≤ (r : Int) := by omega
            have r1 : (r : Int) < (L.length : Int) := by omega
            have d1 : decide ((k : Int) ≤ (r : Int)) = false := decide_eq_false (by omega)
            have d2 : decide ((r : Int) < -1) = false := decide_eq_false (by omega)
            have d3 : ((r : Int) == -1) = false := beq_eq_false_iff_ne.2 (by omega)
            have d4 : (sv.f1 == 0) = false := beq_eq_false_iff_ne.2 hf0
            have d5 : decide ((0 : Int) ≤ (r : Int)) = true := decide_eq_true (by omega)
            have hq1 : wrap64 (sr.f1 + 1) = sr.f1 + 1 := w64 (by omega) (by omega)
            clear hroot horig q1 q2 q5 q6 q7 p1 p2 p5 p6 p7 g1 g2 hrl fr0 fm0 frb fmb hr0 hm0 hrb hmb hf hf0 o1 o2 o3 HTR HP HN HV hsr hrf fs2 fs3
            obtain ⟨_, k0, k1, k2, k3, k4, k5⟩ := HA7.out
            go_wp2_with fail
            go_region_held3 (fun w' => w'.cell? ⟨w.heap.size, 0, none⟩ = some (.int .i64 x.a0) ∧ w'.cell? ⟨w.heap.size, 1, none⟩ = some (.slice x.A1 x.l1.length x.c1) ∧ w'.cell? ⟨w.heap.size, 2, none⟩ = some (.slice x.A2 x.l2.length x.c2) ∧ w'.cell? ⟨w.heap.size, 3, none⟩ = some (.slice x.A3 x.l3.length x.c3) ∧ w'.cell? ⟨w.heap.size, 4, none⟩ = some (.slice x.A4 x.l4.length x.c4) ∧ w'.cell? ⟨w.heap.size, 5, none⟩ = some (.slice x.A5 x.l5.length x.c5) ∧
                w'.cell? (ad.add (k * 4)) = some (.slice D0 sv.f0.length e0) ∧ w'.cell? ⟨(ad.add (k * 4)).block, (ad.add (k * 4)).off + 1, none⟩ = some (.int .i64 sv.f1) ∧ w'.cell? ⟨(ad.add (k * 4)).block, (ad.add (k * 4)).off + 3, none⟩ = some (.slice Db sv.f3.length eb) ∧ w'.cell? (ad.add (r * 4)) = some (.slice R0 sr.f0.length t0) ∧ w'.cell? ⟨(ad.add (r * 4)).block, (ad.add (r * 4)).off + 1, none⟩ = some (.int .i64 sr.f1))
              (first
                | go_keep
                | (go_split_ands
                   have hq : ∀ p v, wp.cell? p = some v → w8.cell? p = some v := fun p v h => (hb8.cell (World.block_lt_of_cell? wp p h)).trans h
                   exact ⟨hq _ _ k0, hq _ _ k1, hq _ _ k2, hq _ _ k3, hq _ _ k4, hq _ _ k5, hq _ _ hs0, hq _ _ hs1, hq _ _ hs3, hq _ _ fs0, hq _ _ fs1⟩))
              ((go_at_call 16; (with_reducible refine HFR.out.mono ?_); rintro e w8 ⟨Bv, dv, Bn, dn, rfl, bmv, brv, bmn, brn, hb8⟩))
            have hbW2 : Below wp.heap.size wp w8 := ((Below.refl _ _).drew).trans hb8
            have HB8 := Aside0.mk (HB7.out.trans (hbW2.mono HB7.out.size))
            have hq : ∀ p v, wp.cell? p = some v → w8.cell? p = some v := fun p v h => (hb8.cell (World.block_lt_of_cell? wp p h)).trans h
            have es0 := hq _ _ hs0
            have es1 := hq _ _ hs1
            have ef1 := hq _ _ fs1
            have hne : (sr.f1 + 1 != sv.f1) = false := by rw [HOR.out]; simp
            have HBY := Aside0.mk (fun W (hb : Below w8.heap.size w8 W) => bytes_calls Bn dn sv.f0 D0 e0 sv.f0 W (Kd.C_below brn hb) bmn (Kd.C_below HRK.out (hbW2.trans (hb.mono hbW2.size))) HMK.out HSB.out HSB.out)
            rw [decide_eq_true (rfl : sv.f0 = sv.f0)] at HBY
            clear hbW2 hb8 hq hs0 hs1 hs3 fs0 fs1 bmv brv bmn brn k0 k1 k2 k3 k4 k5
            go_wp2_with fail
            go_quiet ((go_at_call 13; (with_reducible refine (HBY.out _ ?side).mono ?_); (case side => repeat (first | exact Below.refl _ _ | (with_reducible first | apply pw_below_drewN | apply below_drew1))); rintro e w' ⟨rfl, ⟨nd, rfl⟩⟩; (try first | exact ⟨rfl, _, World.drewN_drewN _ _ _⟩ | exact ⟨rfl, _, Eq.trans (World.drewN_drewN _ _ _) (congrArg (World.drewN _) (Nat.add_assoc _ _ _))⟩)))
            have HB9 := Aside0.mk (pw_below_drewN HB8.out nq)
            go_wp2_with (go_at_call 9; go_must (refine (lives_calls _).mono ?_; rintro e w10 ⟨rfl, hb10⟩; have HB10 := Aside0.mk (HB9.out.trans (hb10.mono HB9.out.size)); clear hb10))
            go_ret
            exact ⟨rfl, HB10.out⟩
end Go.Proofs.Ytdjhjgfjhicbfaa.PWalkClosed

namespace Go.Proofs.Ytdjhjgfjhicbfaa.PWalkClosed
open Go.RowKit Go.Shelf Go.Maps Go.Proofs.YtdjhjgfjhicbfaaW.PrintWords Go.Proofs.YtdjhjgfjhicbfaaW.PrintLast Go.Proofs.YtdjhjgfjhicbfaaW.PrintMore
set_option linter.unusedVariables false
set_option linter.unusedSimpArgs false
set_option maxHeartbeats 4000000 in
set_option maxRecDepth 100000 in
theorem law_walk (x : CP) (a1 : Int) (A : Option Addr) (c : Nat) (l : List Int) (w : World) (ok : x.Ok w) (fit : x.Fit) (h0 : 0 ≤ a1) (h1 : a1 ≤ 65535) (hc : l.length ≤ c) (hr : Kd.C (Kd.int .u8) w A l.length l) (hb : Bytes l) (hl : l.length ≤ 140737488351232) :
    Calls Try.prog 4 #[.agg #[.int .i64 x.a0, .slice x.A1 x.l1.length x.c1, .slice x.A2 x.l2.length x.c2, .slice x.A3 x.l3.length x.c3, .slice x.A4 x.l4.length x.c4, .slice x.A5 x.l5.length x.c5], .int .u16 a1, .slice A l.length c] w fun e w' => e = .returned (.bool true) ∧ Below w.heap.size w w' := by
  have hb0 : Below w.heap.size w (w.alloc (.cells #[.int .i64 x.a0, .slice x.A1 x.l1.length x.c1, .slice x.A2 x.l2.length x.c2, .slice x.A3 x.l3.length x.c3, .slice x.A4 x.l4.length x.c4, .slice x.A5 x.l5.length x.c5] 26)) := (Below.refl _ _).alloc (Nat.le_refl _) _
  have HAT := Aside0.mk (CP.at_alloc x w)
  have HB := Aside0.mk hb0
  have HO := Aside0.mk ok
  have HF := Aside0.mk fit
  have HR := Aside0.mk hr
  have okb := ok.below hb0
  have HG := Aside0.mk (inquestlaw27_great.calls x.a0 x.A1 x.c1 x.l1 x.A2 x.c2 x.l2 x.A3 x.c3 x.l3 x.A4 x.c4 x.l4 x.A5 x.c5 x.l5 x.great _ okb.r1 okb.m1 okb.r2 okb.m2 okb.r3 okb.m3 okb.r4 okb.m4 okb.r5 okb.m5 (great_ref x))
  obtain ⟨_, k0, k1, k2, k3, k4, k5⟩ := HAT.out
  clear hb0 ok fit hr okb
  cases hgr : x.great
  · rw [hgr] at HG
    have HGR := Aside0.mk hgr
    clear hgr
    by_cases h4 : x.a0 > 4
    · go_enter Try.func4, Try.ntmps4
      go_wp2_with (first
        | (go_at_call 7; go_must (refine HG.out.mono ?_; rintro e w1 ⟨rfl, hb1⟩; have HA1 := Aside0.mk (HAT.out.below hb1); have HB1 := Aside0.mk (HB.out.trans (hb1.mono HB.out.size)); clear hb1 k0 k1 k2 k3 k4 k5; obtain ⟨_, k0, k1, k2, k3, k4, k5⟩ := HA1.out))
        | (go_at_call 9; go_must (refine (lives_calls _).mono ?_; rintro e w2 ⟨rfl, hb2⟩; have HB2 := Aside0.mk (HB1.out.trans (hb2.mono HB1.out.size)); clear hb2)))
      go_ret
      exact ⟨rfl, HB2.out⟩
    · have h7 : x.l1.length ≤ 7 := by
        have h := HGR.out
        unfold CP.great at h
        simp at h
        omega
      have HALL := Aside0.mk (fun W (hb : Below w.heap.size w W) => all_calls x W (HO.out.below hb) HF.out)
      cases hmay : x.may
      · have hall : x.allS = ([], 2) := by unfold CP.allS; rw [if_pos hmay]
        rw [hall] at HALL
        have HREF := Aside0.mk (fun W (hb : Below w.heap.size w W) => inquestref03_May.calls x.mayK x.a0 x.A1 x.c1 x.l1 x.A2 x.c2 x.l2 x.A3 x.c3 x.l3 x.A4 x.c4 x.l4 x.A5 x.c5 x.l5 false W (HO.out.below hb).r1 (HO.out.below hb).m1 (HO.out.below hb).r2 (HO.out.below hb).m2 (HO.out.below hb).r3 (HO.out.below hb).m3 (HO.out.below hb).r4 (HO.out.below hb).m4 (HO.out.below hb).r5 (HO.out.below hb).m5 ((may_ref x HF.out x.mayK (Nat.le_refl _)).trans (by rw [hmay])))
        clear hmay hall
        go_enter Try.func4, Try.ntmps4
        go_wp2_with (first
          | (go_at_call 7; go_must (refine HG.out.mono ?_; rintro e w1 ⟨rfl, hb1⟩; have HA1 := Aside0.mk (HAT.out.below hb1); have HB1 := Aside0.mk (HB.out.trans (hb1.mono HB.out.size)); clear hb1 k0 k1 k2 k3 k4 k5; obtain ⟨_, k0, k1, k2, k3, k4, k5⟩ := HA1.out))
          | (go_at_call 10; go_must (refine (HALL.out _ HB1.out).mono ?_; rintro e w2 ⟨v2, rfl, ho2, hb2⟩; obtain ⟨A2, c2, e2⟩ := Kd.R_slice ho2; subst e2; have HA2 := Aside0.mk (HA1.out.below hb2); have HB2 := Aside0.mk (HB1.out.trans (hb2.mono HB1.out.size)); clear ho2 hb2 k0 k1 k2 k3 k4 k5; obtain ⟨_, k0, k1, k2, k3, k4, k5⟩ := HA2.out))
          | (go_at_call 15; go_must (refine (HREF.out _ HB2.out).mono ?_; rintro e w3 ⟨rfl, hb3⟩; have HB3 := Aside0.mk (HB2.out.trans (hb3.mono HB2.out.size)); clear hb3))
          | (go_at_call 9; go_must (refine (lives_calls _).mono ?_; rintro e w4 ⟨rfl, hb4⟩; have HB4 := Aside0.mk (HB3.out.trans (hb4.mono HB3.out.size)); clear hb4)))
        go_ret
        exact ⟨rfl, HB4.out⟩
      · exact law_big x a1 A c l w HO.out HF.out h0 h1 hc HR.out hb hl HGR.out h4 hmay
  · rw [hgr] at HG
    clear hgr
    go_enter Try.func4, Try.ntmps4
    go_wp2_with (first
      | (go_at_call 7; go_must (refine HG.out.mono ?_; rintro e w1 ⟨rfl, hb1⟩; have HB1 := Aside0.mk (HB.out.trans (hb1.mono HB.out.size)); clear hb1))
      | (go_at_call 9; go_must (refine (lives_calls _).mono ?_; rintro e w2 ⟨rfl, hb2⟩; have HB2 := Aside0.mk (HB1.out.trans (hb2.mono HB1.out.size)); clear hb2)))
    go_ret
    exact ⟨rfl, HB2.out⟩
end Go.Proofs.Ytdjhjgfjhicbfaa.PWalkClosed
