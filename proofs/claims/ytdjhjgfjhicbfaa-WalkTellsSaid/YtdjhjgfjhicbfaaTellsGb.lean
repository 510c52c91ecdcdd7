/- A part of the proof of WalkTellsSaid: contracts of functions and plain lemmas; each holds under the hypotheses that it names. -/
import Derived.Test.YtdjhjgfjhicbfaaTellsGa
import Derived.Test.YtdjhjgfjhicbfaaPWalkTellsx1
namespace Go.Proofs.Ytdjhjgfjhicbfaa.PWalkTells
open Go.RowKit Go.Shelf Go.Proofs.YtdjhjgfjhicbfaaW.PrintWords Go.Proofs.YtdjhjgfjhicbfaaW.PrintLast Go.Proofs.YtdjhjgfjhicbfaaW.PrintMore
set_option linter.unusedVariables false
set_option linter.unusedSimpArgs false
def CP.vars (x : CP) : Int := x.a0 + (x.l1.length : Int) + (x.l2.length : Int)
theorem vars_calls (x : CP) (w : World) (ok : x.Ok w) (fit : x.Fit) (h0 : 0 ≤ x.a0) (h1 : x.a0 ≤ 16384) :
    Calls Try.prog 53 #[.agg #[.int .i64 x.a0, .slice x.A1 x.l1.length x.c1, .slice x.A2 x.l2.length x.c2, .slice x.A3 x.l3.length x.c3, .slice x.A4 x.l4.length x.c4, .slice x.A5 x.l5.length x.c5]] w fun e w' => e = .returned (.int .i64 x.vars) ∧ Below w.heap.size w w' := by
  have := fit.n1
  have := fit.n2
  refine norm_vars.calls x.a0 x.A1 x.c1 x.l1 x.A2 x.c2 x.l2 x.A3 x.c3 x.l3 x.A4 x.c4 x.l4 x.A5 x.c5 x.l5 x.vars w ok.r1 ok.m1 ok.r2 ok.m2 ok.r3 ok.m3 ok.r4 ok.m4 ok.r5 ok.m5 ?_
  unfold norm_vars.f CP.vars wrap64
  congr 1
  omega
set_option maxHeartbeats 1000000 in
theorem beyond_calls (x : CP) (w : World) (ok : x.Ok w) (fit : x.Fit) (g0 : 0 ≤ x.a0) (g1 : x.a0 ≤ 16384) (gb : Nat) (hat : x.At w gb) (lit : Int) (h0 : 0 ≤ lit) (h1 : lit ≤ 4294967295) :
    Calls Try.prog 54 #[.int .u32 lit, .pointer (some ⟨gb, 0, none⟩)] w fun e w' => e = .returned (.bool (decide (x.vars < lit / 2))) ∧ Below w.heap.size w w' := by
  have HV := Aside0.mk (vars_calls x w ok fit g0 g1)
  clear ok fit
  obtain ⟨_, k0, k1, k2, k3, k4, k5⟩ := hat
  go_enter Try.func54, Try.ntmps54
  go_wp2_with (refine HV.out.mono ?_; rintro e w1 ⟨rfl, hb1⟩)
  go_ret
  exact ⟨rfl, hb1⟩
def CP.far (x : CP) (lit : Int) : Bool := decide (x.vars < lit / 2)
def CP.lits (x : CP) (l : List Int) : Bool := decide (1024 < (l.length : Int)) || l.any x.far
def CP.lats (x : CP) : List S61 → Bool := fun l => l.any fun s => decide (2 < s.f1) || x.far s.f0
def gatesBad : Int → List S68 → Bool
  | _, [] => false
  | own, g :: r => decide (own + 1 ≤ g.f0 / 2) || decide (g.f0 < g.f1) || gatesBad (own + 1) r
def CP.may (x : CP) : Bool :=
  if x.a0 < 0 ∨ 16384 < x.a0 ∨ 16384 < x.vars then false
  else if x.lits x.l3 || x.lits x.l4 || x.lits x.l5 then false
  else if x.lats x.l1 then false
  else !gatesBad (x.a0 + (x.l1.length : Int)) x.l2
theorem far_tells (x : CP) (w : World) (ok : x.Ok w) (fit : x.Fit) (g0 : 0 ≤ x.a0) (g1 : x.a0 ≤ 16384) (gb : Nat) (hat : x.At w gb) (xs : List Int) (hx : ∀ v ∈ xs, 0 ≤ v ∧ v ≤ 4294967295) :
    Tells1 54 (.pointer (some ⟨gb, 0, none⟩)) .u32 x.far xs w := by
  intro v hv W hb
  exact beyond_calls x W (ok.below hb) fit g0 g1 gb (hat.below hb) v (hx v hv).1 (hx v hv).2
theorem enters_far : Enters Try.prog 54 := enters_of Try.func54 (by kernel_rfl) rfl
theorem may_short (x : CP) (w : World) (ok : x.Ok w) (fit : x.Fit) (h : x.a0 < 0 ∨ 16384 < x.a0 ∨ 16384 < x.vars) :
    Calls Try.prog 28 #[.agg #[.int .i64 x.a0, .slice x.A1 x.l1.length x.c1, .slice x.A2 x.l2.length x.c2, .slice x.A3 x.l3.length x.c3, .slice x.A4 x.l4.length x.c4, .slice x.A5 x.l5.length x.c5]] w fun e w' => e = .returned (.bool x.may) ∧ Below w.heap.size w w' := by
  have hm : x.may = false := by unfold CP.may; rw [if_pos h]
  rw [hm]
  have hb0 : Below w.heap.size w (w.alloc (.cells #[.int .i64 x.a0, .slice x.A1 x.l1.length x.c1, .slice x.A2 x.l2.length x.c2, .slice x.A3 x.l3.length x.c3, .slice x.A4 x.l4.length x.c4, .slice x.A5 x.l5.length x.c5] 26 (0, 0))) := (Below.refl _ _).alloc (Nat.le_refl _) _
  have HV := Aside0.mk (vars_calls x _ (ok.below hb0) fit)
  have HB := Aside0.mk hb0
  clear ok hm hb0 fit
  by_cases h1 : x.a0 < 0
  · clear h
    go_enter Try.func28, Try.ntmps28
    go_wp2
    go_ret
    exact ⟨rfl, HB.out⟩
  · by_cases h2 : 16384 < x.a0
    · clear h
      go_enter Try.func28, Try.ntmps28
      go_wp2
      go_ret
      exact ⟨rfl, HB.out⟩
    · have h3 : 16384 < x.vars := by omega
      clear h
      go_enter Try.func28, Try.ntmps28
      have HV2 := Aside0.mk (HV.out (by omega) (by omega))
      go_wp2_with (refine HV2.out.mono ?_; rintro e w1 ⟨rfl, hb1⟩)
      go_ret
      exact ⟨rfl, HB.out.trans (hb1.mono (by simp))⟩
set_option maxHeartbeats 1000000 in
theorem may_calls (x : CP) (w : World) (ok : x.Ok w) (fit : x.Fit) :
    Calls Try.prog 28 #[.agg #[.int .i64 x.a0, .slice x.A1 x.l1.length x.c1, .slice x.A2 x.l2.length x.c2, .slice x.A3 x.l3.length x.c3, .slice x.A4 x.l4.length x.c4, .slice x.A5 x.l5.length x.c5]] w fun e w' => e = .returned (.bool x.may) ∧ Below w.heap.size w w' := by
  by_cases hs : x.a0 < 0 ∨ 16384 < x.a0 ∨ 16384 < x.vars
  · exact may_short x w ok fit hs
  have h1 : ¬ x.a0 < 0 := by omega
  have h2 : ¬ 16384 < x.a0 := by omega
  have h3 : ¬ 16384 < x.vars := by omega
  have hm : x.may = (if x.lits x.l3 || x.lits x.l4 || x.lits x.l5 then false
    else if x.lats x.l1 then false
    else !gatesBad (x.a0 + (x.l1.length : Int)) x.l2) := by unfold CP.may; rw [if_neg hs]
  have HM := Aside0.mk hm
  have hb0 : Below w.heap.size w (w.alloc (.cells #[.int .i64 x.a0, .slice x.A1 x.l1.length x.c1, .slice x.A2 x.l2.length x.c2, .slice x.A3 x.l3.length x.c3, .slice x.A4 x.l4.length x.c4, .slice x.A5 x.l5.length x.c5] 26 (0, 0))) := (Below.refl _ _).alloc (Nat.le_refl _) _
  have g0 : 0 ≤ x.a0 := by omega
  have g1 : x.a0 ≤ 16384 := by omega
  have HV := Aside0.mk (vars_calls x _ (ok.below hb0) fit g0 g1)
  have HB := Aside0.mk hb0
  have HS : Aside0 (x.a0 + (x.l1.length : Int) + (x.l2.length : Int) ≤ 16384) := ⟨by unfold CP.vars at h3; omega⟩
  have HO := Aside0.mk ok
  have HF := Aside0.mk fit
  have hmf : ∀ (fn : Fn) (first cap : Array Value) (w : World), (Instr.makeFunc fn first cap).run Try.prog w = .ok (.func fn first cap) w := fun _ _ _ _ => rfl
  clear hm hb0 ok fit hs
  go_enter Try.func28, Try.ntmps28
  go_wp2_with (refine HV.out.mono ?_; rintro e w1 ⟨rfl, hb1⟩; have HA1 := Aside0.mk ((CP.at_alloc x w).below (hb1.mono (by simp))); obtain ⟨_, k0, k1, k2, k3, k4, k5⟩ := HA1.out; have HB1 := Aside0.mk (HB.out.trans (hb1.mono (by simp))); clear hb1)
  obtain ⟨W2, hW2⟩ : ∃ W2, W2 = w1.alloc (.cells #[.slice x.A3 x.l3.length x.c3, .slice x.A4 x.l4.length x.c4, .slice x.A5 x.l5.length x.c5] 24) := ⟨_, rfl⟩
  rw [← hW2]
  have hw1 : Below w1.heap.size w1 W2 := by rw [hW2]; exact (Below.refl _ _).alloc (Nat.le_refl _) _
  have hlt2 : w1.heap.size < W2.heap.size := by rw [hW2]; simp
  have HA2 := Aside0.mk (HA1.out.below hw1)
  have HB2 := Aside0.mk (HB1.out.trans (hw1.mono HB1.out.size))
  have HC2 : Aside0 (W2.heap[w1.heap.size]? = some (.cells #[.slice x.A3 x.l3.length x.c3, .slice x.A4 x.l4.length x.c4, .slice x.A5 x.l5.length x.c5] 24 (0, 0))) := ⟨by rw [hW2]; show (w1.heap.push _)[w1.heap.size]? = _; simp⟩
  clear hw1 k0 k1 k2 k3 k4 k5 HA1 HB1 HV HB hW2 h1 h2 h3
  have HLT := Aside0.mk hlt2
  clear hlt2
  go_loopw [33] (fun v wr => ∃ k : Nat, k ≤ 3 ∧ v = .int .i64 k ∧ Aside0 ((0 < k → x.lits x.l3 = false) ∧ (1 < k → x.lits x.l4 = false) ∧ (2 < k → x.lits x.l5 = false)) ∧ Below W2.heap.size W2 wr) (fun v _ => 3 - (intOf v).toNat)
  case atStart => exact ⟨0, by omega, rfl, ⟨⟨fun h => by omega, fun h => by omega, fun h => by omega⟩⟩, Below.refl _ _⟩
  case round =>
    obtain ⟨k, hk, rfl, HQ, hbr⟩ := hrel
    have ok := HO.out.below (HB2.out.trans (hbr.mono HB2.out.size))
    have hat := HA2.out.below hbr
    have HAT := Aside0.mk hat
    have HBR := Aside0.mk (HB2.out.trans (hbr.mono HB2.out.size))
    have hblk : wr.heap[w1.heap.size]? = _ := (hbr.block _ HLT.out).trans HC2.out
    have j0 := cell_blk hblk 0 _ rfl
    have j1 := cell_blk hblk 1 _ rfl
    have j2 := cell_blk hblk 2 _ rfl
    clear hblk
    have C3 := Aside0.mk (contains_u32 _ enters_far _ x.far x.A3 x.c3 x.l3 wr ok.r3 (far_tells x wr ok HF.out (by omega) (by omega) _ hat x.l3 HF.out.g3))
    have C4 := Aside0.mk (contains_u32 _ enters_far _ x.far x.A4 x.c4 x.l4 wr ok.r4 (far_tells x wr ok HF.out (by omega) (by omega) _ hat x.l4 HF.out.g4))
    have C5 := Aside0.mk (contains_u32 _ enters_far _ x.far x.A5 x.c5 x.l5 wr ok.r5 (far_tells x wr ok HF.out (by omega) (by omega) _ hat x.l5 HF.out.g5))
    have HBR2 := Aside0.mk hbr
    clear ok hat hbr
    by_cases hk3 : k < 3
    · obtain rfl | rfl | rfl : k = 0 ∨ k = 1 ∨ k = 2 := by omega
      · have HK : x.lits x.l3 = (decide (1024 < (x.l3.length : Int)) || x.l3.any x.far) := rfl
        have HK' := Aside0.mk HK
        clear HK
        by_cases hl : 1024 < (x.l3.length : Int)
        · have HKT : Aside0 (x.lits x.l3 = true) := ⟨by rw [HK'.out]; simp [hl]⟩
          go_wp2
          go_ret
          exact ⟨by rw [HM.out, HKT.out]; simp, HBR.out⟩
        · cases ha : x.l3.any x.far
          · have HKT : Aside0 (x.lits x.l3 = false) := ⟨by rw [HK'.out, ha]; simp [hl]⟩
            rw [ha] at C3
            clear ha
            go_wp2_with (refine C3.out.mono ?_; rintro e w3 ⟨rfl, hb3⟩)
            go_roundw
            case rel => exact ⟨0 + 1, by omega, by go_num, ⟨by have q := HQ.out; refine ⟨fun h => ?_, fun h => ?_, fun h => ?_⟩ <;> first | exact HKT.out | exact q.1 (by omega) | exact q.2.1 (by omega) | exact q.2.2 (by omega) | (exfalso; omega)⟩, HBR2.out.trans (hb3.mono HBR2.out.size)⟩
            case measure => simp [intOf]
          · have HKT : Aside0 (x.lits x.l3 = true) := ⟨by rw [HK'.out, ha]; simp⟩
            rw [ha] at C3
            clear ha
            go_wp2_with (refine C3.out.mono ?_; rintro e w3 ⟨rfl, hb3⟩)
            go_ret
            exact ⟨by rw [HM.out, HKT.out]; simp, HBR.out.trans (hb3.mono HBR.out.size)⟩
      · have HK : x.lits x.l4 = (decide (1024 < (x.l4.length : Int)) || x.l4.any x.far) := rfl
        have HK' := Aside0.mk HK
        clear HK
        by_cases hl : 1024 < (x.l4.length : Int)
        · have HKT : Aside0 (x.lits x.l4 = true) := ⟨by rw [HK'.out]; simp [hl]⟩
          go_wp2
          go_ret
          exact ⟨by rw [HM.out, HKT.out]; simp, HBR.out⟩
        · cases ha : x.l4.any x.far
          · have HKT : Aside0 (x.lits x.l4 = false) := ⟨by rw [HK'.out, ha]; simp [hl]⟩
            rw [ha] at C4
            clear ha
            go_wp2_with (refine C4.out.mono ?_; rintro e w3 ⟨rfl, hb3⟩)
            go_roundw
            case rel => exact ⟨1 + 1, by omega, by go_num, ⟨by have q := HQ.out; refine ⟨fun h => ?_, fun h => ?_, fun h => ?_⟩ <;> first | exact HKT.out | exact q.1 (by omega) | exact q.2.1 (by omega) | exact q.2.2 (by omega) | (exfalso; omega)⟩, HBR2.out.trans (hb3.mono HBR2.out.size)⟩
            case measure => simp [intOf]
          · have HKT : Aside0 (x.lits x.l4 = true) := ⟨by rw [HK'.out, ha]; simp⟩
            rw [ha] at C4
            clear ha
            go_wp2_with (refine C4.out.mono ?_; rintro e w3 ⟨rfl, hb3⟩)
            go_ret
            exact ⟨by rw [HM.out, HKT.out]; simp, HBR.out.trans (hb3.mono HBR.out.size)⟩
      · have HK : x.lits x.l5 = (decide (1024 < (x.l5.length : Int)) || x.l5.any x.far) := rfl
        have HK' := Aside0.mk HK
        clear HK
        by_cases hl : 1024 < (x.l5.length : Int)
        · have HKT : Aside0 (x.lits x.l5 = true) := ⟨by rw [HK'.out]; simp [hl]⟩
          go_wp2
          go_ret
          exact ⟨by rw [HM.out, HKT.out]; simp, HBR.out⟩
        · cases ha : x.l5.any x.far
          · have HKT : Aside0 (x.lits x.l5 = false) := ⟨by rw [HK'.out, ha]; simp [hl]⟩
            rw [ha] at C5
            clear ha
            go_wp2_with (refine C5.out.mono ?_; rintro e w3 ⟨rfl, hb3⟩)
            go_roundw
            case rel => exact ⟨2 + 1, by omega, by go_num, ⟨by have q := HQ.out; refine ⟨fun h => ?_, fun h => ?_, fun h => ?_⟩ <;> first | exact HKT.out | exact q.1 (by omega) | exact q.2.1 (by omega) | exact q.2.2 (by omega) | (exfalso; omega)⟩, HBR2.out.trans (hb3.mono HBR2.out.size)⟩
            case measure => simp [intOf]
          · have HKT : Aside0 (x.lits x.l5 = true) := ⟨by rw [HK'.out, ha]; simp⟩
            rw [ha] at C5
            clear ha
            go_wp2_with (refine C5.out.mono ?_; rintro e w3 ⟨rfl, hb3⟩)
            go_ret
            exact ⟨by rw [HM.out, HKT.out]; simp, HBR.out.trans (hb3.mono HBR.out.size)⟩
    · have hk' : k = 3 := by omega
      subst hk'
      obtain ⟨_, k0, k1, k2, k3, k4, k5⟩ := HAT.out
      clear C3 C4 C5 j0 j1 j2
      have HL : Aside0 (x.may = if x.lats x.l1 = true then false else !gatesBad (x.a0 + (x.l1.length : Int)) x.l2) :=
        ⟨by have q := HQ.out; rw [HM.out, q.1 (by omega), q.2.1 (by omega), q.2.2 (by omega)]; simp⟩
      clear HM HQ HLT HC2 HA2 HB2 HBR2
      have hlen1 : x.l1.length ≤ 9223372036854775807 := HO.out.r1.2.1
      have hlen2 : x.l2.length ≤ 9223372036854775807 := HO.out.r2.2.1
      obtain ⟨wo, rfl⟩ : ∃ wo : World, wo = wr := ⟨_, rfl⟩
      go_wp2_with fail
      go_loopw [49] (fun v wl => ∃ k : Nat, k ≤ x.l1.length ∧ v = .int .i64 k ∧ Aside0 (x.lats (x.l1.drop k) = x.lats x.l1) ∧ Below wo.heap.size wo wl) (fun v _ => x.l1.length - (intOf v).toNat)
      case atStart => exact ⟨0, by omega, rfl, ⟨rfl⟩, Below.refl _ _⟩
      case round =>
        clear k0 k1 k2 k3 k4 k5
        obtain ⟨k, hk, rfl, HQ, hbl⟩ := hrel
        have ok := HO.out.below (HBR.out.trans (hbl.mono HBR.out.size))
        have hat := HAT.out.below hbl
        have HBL := Aside0.mk (HBR.out.trans (hbl.mono HBR.out.size))
        have HBL2 := Aside0.mk hbl
        by_cases hlt : k < x.l1.length
        · obtain ⟨ad, e1, hc0, hc1⟩ := at_T61 ok.r1 k (by omega) (by omega)
          clear hbl
          have hrd : rd_T61 x.l1 k = x.l1[k] := by simp [rd_T61, List.getD_eq_getElem?_getD, hlt]
          rw [hrd] at hc0 hc1
          simp only [Int.toNat_natCast] at hc0 hc1
          have hfit := HF.out.g1 x.l1[k] (List.getElem_mem hlt)
          obtain ⟨f0, f1, f2, f3⟩ := hfit
          have HQ2 : Aside0 (x.lats (x.l1.drop k) = ((decide (2 < x.l1[k].f1) || x.far x.l1[k].f0) || x.lats (x.l1.drop (k + 1)))) :=
            ⟨by rw [List.drop_eq_getElem_cons hlt]; rfl⟩
          have hatm := fun W1 (h : Below wr.heap.size wr W1) => beyond_calls x W1 (ok.below h) HF.out g0 g1 _ (hat.below h) x.l1[k].f0 f0 f1
          have HAT2 := Aside0.mk hatm
          clear hatm ok hat hrd
          have hba : Below wr.heap.size wr (wr.alloc (.cells #[.int .u32 x.l1[k].f0, .int .u8 x.l1[k].f1] 61)) := (Below.refl _ _).alloc (Nat.le_refl _) _
          have HCB := Aside0.mk (HAT2.out _ hba)
          have HBA := Aside0.mk (HBL.out.trans (hba.mono HBL.out.size))
          have HBA2 := Aside0.mk (HBL2.out.trans (hba.mono HBL2.out.size))
          clear hba HAT2
          by_cases hg : 2 < x.l1[k].f1
          · have HN : Aside0 (x.lats x.l1 = true) := ⟨by rw [← HQ.out, HQ2.out]; simp [hg]⟩
            go_wp2
            go_ret
            exact ⟨by rw [HL.out, HN.out]; rfl, HBA.out⟩
          · cases hf : x.far x.l1[k].f0
            · have HN : Aside0 (x.lats (x.l1.drop (k + 1)) = x.lats x.l1) := ⟨by rw [← HQ.out, HQ2.out]; simp [hg, hf]⟩
              unfold CP.far at hf
              rw [hf] at HCB
              clear hf
              go_wp2_with (refine HCB.out.mono ?_; rintro e w3 ⟨rfl, hb3⟩)
              go_roundw
              case rel => rw [e1]; (repeat apply Exists.intro); exact ⟨⟨k + 1, by omega, by go_num, HN, HBA2.out.trans (hb3.mono HBA2.out.size)⟩, rfl⟩
              case measure => simp [intOf]; omega
            · have HN : Aside0 (x.lats x.l1 = true) := ⟨by rw [← HQ.out, HQ2.out]; simp [hf]⟩
              unfold CP.far at hf
              rw [hf] at HCB
              clear hf
              go_wp2_with (refine HCB.out.mono ?_; rintro e w3 ⟨rfl, hb3⟩)
              go_ret
              exact ⟨by rw [HL.out, HN.out]; rfl, HBA.out.trans (hb3.mono HBA.out.size)⟩
        · have hk' : k = x.l1.length := by omega
          have HN : Aside0 (x.may = !gatesBad (x.a0 + (x.l1.length : Int)) x.l2) :=
            ⟨by rw [HL.out, ← HQ.out, List.drop_eq_nil_of_le (by omega)]; rfl⟩
          clear HL HQ
          have HAT3 := Aside0.mk hat
          obtain ⟨_, k0, k1, k2, k3, k4, k5⟩ := hat
          clear ok hbl
          obtain ⟨wp, rfl⟩ : ∃ wp : World, wp = wr := ⟨_, rfl⟩
          go_wp2_with fail
          go_loopw [8, 73] (fun u v wl => ∃ (k : Nat) (o : Int), k ≤ x.l2.length ∧ v = .int .i64 k ∧ u = .int .u32 o ∧ Aside0 (o = x.a0 + (x.l1.length : Int) + k) ∧ Aside0 (gatesBad o (x.l2.drop k) = gatesBad (x.a0 + (x.l1.length : Int)) x.l2) ∧ Below wp.heap.size wp wl) (fun _ v _ => x.l2.length - (intOf v).toNat)
          case atStart =>
            exact ⟨0, x.a0 + (x.l1.length : Int), by omega, rfl, by have := HS.out; unfold wrap64; congr 1; omega, ⟨by simp⟩, ⟨rfl⟩, Below.refl _ _⟩
          case round =>
            clear k0 k1 k2 k3 k4 k5
            obtain ⟨k, o, hk, rfl, rfl, HOK, HQ, hbl⟩ := hrel
            have ho0 : 0 ≤ o := by have := HOK.out; omega
            have ho1 : o + 1 ≤ 16385 := by have := HOK.out; have := HS.out; omega
            have ok := HO.out.below (HBL.out.trans (hbl.mono HBL.out.size))
            have HBM := Aside0.mk (HBL.out.trans (hbl.mono HBL.out.size))
            have HBM2 := Aside0.mk hbl
            by_cases hlt : k < x.l2.length
            · obtain ⟨ad, e1, hc0, hc1⟩ := at_T68 ok.r2 k (by omega) (by omega)
              clear hbl
              have hrd : rd_T68 x.l2 k = x.l2[k] := by simp [rd_T68, List.getD_eq_getElem?_getD, hlt]
              rw [hrd] at hc0 hc1
              simp only [Int.toNat_natCast] at hc0 hc1
              have hfit := HF.out.g2 x.l2[k] (List.getElem_mem hlt)
              obtain ⟨f0, f1, f2, f3⟩ := hfit
              have HQ2 : Aside0 (gatesBad o (x.l2.drop k) = ((decide (o + 1 ≤ x.l2[k].f0 / 2) || decide (x.l2[k].f0 < x.l2[k].f1)) || gatesBad (o + 1) (x.l2.drop (k + 1)))) :=
                ⟨by rw [List.drop_eq_getElem_cons hlt]; rfl⟩
              clear ok hrd
              have hba : Below wr.heap.size wr (wr.alloc (.cells #[.int .u32 x.l2[k].f0, .int .u32 x.l2[k].f1] 68)) := (Below.refl _ _).alloc (Nat.le_refl _) _
              have HBA := Aside0.mk (HBM.out.trans (hba.mono HBM.out.size))
              have HBA2 := Aside0.mk (HBM2.out.trans (hba.mono HBM2.out.size))
              clear hba
              by_cases hg : o + 1 ≤ x.l2[k].f0 / 2
              · have HM2 : Aside0 (x.may = false) := ⟨by rw [HN.out, ← HQ.out, HQ2.out]; simp [hg]⟩
                go_wp2
                go_ret
                exact ⟨by rw [HM2.out]; rfl, HBA.out⟩
              · by_cases hf : x.l2[k].f0 < x.l2[k].f1
                · have HM2 : Aside0 (x.may = false) := ⟨by rw [HN.out, ← HQ.out, HQ2.out]; simp [hf]⟩
                  go_wp2
                  go_ret
                  exact ⟨by rw [HM2.out]; rfl, HBA.out⟩
                · have HN2 : Aside0 (gatesBad (o + 1) (x.l2.drop (k + 1)) = gatesBad (x.a0 + (x.l1.length : Int)) x.l2) := ⟨by rw [← HQ.out, HQ2.out]; simp [hg, hf]⟩
                  go_wp2
                  go_roundw
                  case rel => exact ⟨k + 1, o + 1, by omega, by go_num, rfl, ⟨by have := HOK.out; omega⟩, HN2, HBA2.out⟩
                  case measure => simp [intOf]; omega
            · have HM2 : Aside0 (x.may = true) := ⟨by rw [HN.out, ← HQ.out, List.drop_eq_nil_of_le (by omega)]; rfl⟩
              go_wp2
              go_ret
              exact ⟨by rw [HM2.out]; rfl, HBM.out⟩
end Go.Proofs.Ytdjhjgfjhicbfaa.PWalkTells
namespace Go.Proofs.Ytdjhjgfjhicbfaa.PWalkTells
open Go.RowKit Go.Shelf Go.Proofs.YtdjhjgfjhicbfaaW.PrintWords Go.Proofs.YtdjhjgfjhicbfaaW.PrintLast Go.Proofs.YtdjhjgfjhicbfaaW.PrintMore
set_option linter.unusedVariables false
set_option linter.unusedSimpArgs false
def not1 (v : Int) : Int := if 1 < v then 2 else 1 - v
def and1 (a b : Int) : Int := if a = 0 ∨ b = 0 then 0 else if a = 1 ∧ b = 1 then 1 else 2
def valS (l : List Int) (lit : Int) : Int :=
  if (l.length : Int) ≤ lit / 2 then 2 else if 2 < rd l (lit / 2) then 2 else if lit % 2 = 1 then not1 (rd l (lit / 2)) else rd l (lit / 2)
theorem not1_calls (v : Int) (w : World) (h0 : 0 ≤ v) (h1 : v ≤ 2) :
    Calls Try.prog 68 #[.int .u8 v] w fun e w' => e = .returned (.int .u8 (not1 v)) ∧ w = w' := by
  obtain rfl | rfl | rfl : v = 0 ∨ v = 1 ∨ v = 2 := by omega
  all_goals
    go_enter Try.func68, Try.ntmps68
    go_wp2
    go_ret
    exact ⟨rfl, rfl⟩
theorem and1_calls (a b : Int) (w : World) (h0 : 0 ≤ a) (h1 : a ≤ 2) (g0 : 0 ≤ b) (g1 : b ≤ 2) :
    Calls Try.prog 73 #[.int .u8 a, .int .u8 b] w fun e w' => e = .returned (.int .u8 (and1 a b)) ∧ w = w' := by
  obtain rfl | rfl | rfl : a = 0 ∨ a = 1 ∨ a = 2 := by omega
  all_goals
    obtain rfl | rfl | rfl : b = 0 ∨ b = 1 ∨ b = 2 := by omega
    all_goals
      go_enter Try.func73, Try.ntmps73
      go_wp2
      go_ret
      exact ⟨rfl, rfl⟩
theorem valS_range (l : List Int) (lit : Int) (hl : ∀ v ∈ l, 0 ≤ v ∧ v ≤ 255) : 0 ≤ valS l lit ∧ valS l lit ≤ 2 := by
  have hr : 0 ≤ rd l (lit / 2) := by
    unfold rd
    rw [List.getD_eq_getElem?_getD]
    by_cases h : (lit / 2).toNat < l.length
    · rw [List.getElem?_eq_getElem h]; exact (hl _ (List.getElem_mem h)).1
    · rw [List.getElem?_eq_none (by omega)]; simp
  unfold valS not1
  split
  · omega
  · split
    · omega
    · split
      · split <;> omega
      · omega
theorem and_one_u32 (x : Int) (h0 : 0 ≤ x) (h1 : x ≤ 4294967295) : bits .and .u32 x 1 = x % 2 := by
  have := bits_mask .u32 32 (by decide) (fun n h0 h1 => by rw [IntKind.wrap_u32]; omega) 1 (by decide) x h0 (by omega)
  simpa using this
set_option maxHeartbeats 1000000 in
theorem value_calls (A : Option Addr) (c : Nat) (l : List Int) (lit : Int) (w : World) (hr : Kd.C (Kd.int .u8) w A l.length l) (hl : ∀ v ∈ l, 0 ≤ v ∧ v ≤ 255) (h0 : 0 ≤ lit) (h1 : lit ≤ 4294967295) :
    Calls Try.prog 52 #[.slice A l.length c, .int .u32 lit] w fun e w' => e = .returned (.int .u8 (valS l lit)) ∧ w = w' := by
  have hlen : l.length ≤ 9223372036854775807 := hr.2.1
  by_cases hb : (l.length : Int) ≤ lit / 2
  · have hv : valS l lit = 2 := by unfold valS; rw [if_pos hb]
    rw [hv]
    clear hr hl hv
    go_enter Try.func52, Try.ntmps52
    go_wp2
    go_ret
    exact ⟨rfl, rfl⟩
  · obtain ⟨ad, e1, hc⟩ := Kd.at_int hr (lit / 2) (by omega) (by omega)
    subst e1
    have hlt : (lit / 2).toNat < l.length := by omega
    have hrg : 0 ≤ rd l (lit / 2) ∧ rd l (lit / 2) ≤ 255 := by
      have : rd l (lit / 2) = l[(lit / 2).toNat] := by simp [rd, List.getD_eq_getElem?_getD, hlt]
      rw [this]; exact hl _ (List.getElem_mem hlt)
    have HV : Aside0 (valS l lit = if 2 < rd l (lit / 2) then 2 else if lit % 2 = 1 then not1 (rd l (lit / 2)) else rd l (lit / 2)) := ⟨by unfold valS; rw [if_neg hb]⟩
    obtain ⟨g0, g1⟩ := hrg
    obtain ⟨x, hx⟩ : ∃ x, x = rd l (lit / 2) := ⟨_, rfl⟩
    rw [← hx] at hc HV g0 g1
    have hand := and_one_u32 lit h0 h1
    clear hr hl hx hlt
    by_cases h2 : 2 < x
    · have HV2 : Aside0 (valS l lit = 2) := ⟨by rw [HV.out, if_pos h2]⟩
      go_enter Try.func52, Try.ntmps52
      go_wp2
      go_ret
      exact ⟨by rw [HV2.out]; rfl, rfl⟩
    · by_cases hp : lit % 2 = 1
      · have HV2 : Aside0 (valS l lit = not1 x) := ⟨by rw [HV.out, if_neg h2, if_pos hp]⟩
        have HN := fun W => Aside0.mk (not1_calls x W g0 (by omega))
        have HNN := Aside0.mk HN
        clear HN HV
        have hp' : 0 < lit % 2 := by omega
        clear hp
        go_enter Try.func52, Try.ntmps52
        go_wp2_with (refine (HNN.out _).out.mono ?_; rintro e w1 ⟨rfl, rfl⟩)
        go_ret
        exact ⟨by rw [HV2.out]; rfl, rfl⟩
      · have HV2 : Aside0 (valS l lit = x) := ⟨by rw [HV.out, if_neg h2, if_neg hp]⟩
        have hp' : ¬ 0 < lit % 2 := by omega
        clear hp HV
        go_enter Try.func52, Try.ntmps52
        go_wp2
        go_ret
        exact ⟨by rw [HV2.out]; rfl, rfl⟩
theorem above2_calls (v : Int) (w : World) (h0 : 0 ≤ v) (h1 : v ≤ 255) :
    Calls Try.prog 71 #[.int .u8 v] w fun e w' => e = .returned (.bool (decide (2 < v))) ∧ Below w.heap.size w w' := by
  go_enter Try.func71, Try.ntmps71
  go_wp2
  go_ret
  exact ⟨rfl, Below.refl _ _⟩
theorem enters_above2 : Enters Try.prog 71 := enters_of Try.func71 (by kernel_rfl) rfl
def valuesS (l : List Int) (n : Int) : Bool := ((l.length : Int) == n) && !l.any (fun v => decide (2 < v))
set_option maxHeartbeats 1000000 in
theorem values_calls (A : Option Addr) (c : Nat) (l : List Int) (n : Int) (w : World) (hr : Kd.C (Kd.int .u8) w A l.length l) (hl : ∀ v ∈ l, 0 ≤ v ∧ v ≤ 255) :
    Calls Try.prog 64 #[.slice A l.length c, .int .i64 n] w fun e w' => e = .returned (.bool (valuesS l n)) ∧ Below w.heap.size w w' := by
  have HC := Aside0.mk (contains_u8 _ enters_above2 (fun v => decide (2 < v)) A c l w hr (fun v hv W hb => above2_calls v W (hl v hv).1 (hl v hv).2))
  have HS : Aside0 (valuesS l n = (((l.length : Int) == n) && !l.any (fun v => decide (2 < v)))) := ⟨rfl⟩
  clear hr hl
  by_cases hn : (l.length : Int) = n
  · have h1 : ((l.length : Int) == n) = true := beq_iff_eq.2 hn
    clear hn
    go_enter Try.func64, Try.ntmps64
    go_wp2_with (refine HC.out.mono ?_; rintro e w1 ⟨rfl, hb1⟩)
    go_ret
    exact ⟨by rw [HS.out, h1]; rfl, hb1⟩
  · have h1 : ((l.length : Int) == n) = false := beq_eq_false_iff_ne.2 hn
    clear hn
    go_enter Try.func64, Try.ntmps64
    go_wp2
    go_ret
    exact ⟨by rw [HS.out, h1]; rfl, Below.refl _ _⟩
end Go.Proofs.Ytdjhjgfjhicbfaa.PWalkTells
namespace Go.Proofs.Ytdjhjgfjhicbfaa.PWalkTells
open Go.RowKit Go.Shelf Go.Proofs.YtdjhjgfjhicbfaaW.PrintWords Go.Proofs.YtdjhjgfjhicbfaaW.PrintLast Go.Proofs.YtdjhjgfjhicbfaaW.PrintMore
set_option linter.unusedVariables false
set_option linter.unusedSimpArgs false
theorem heldOne_calls (A : Option Addr) (c : Nat) (l : List Int) (gv : Nat) (k : Int) (w : World) (hr : Kd.C (Kd.int .u8) w A l.length l) (hl : ∀ v ∈ l, 0 ≤ v ∧ v ≤ 255)
    (hg : w.cell? ⟨gv, 0, none⟩ = some (.slice A l.length c)) (h0 : 0 ≤ k) (h1 : k ≤ 4294967295) :
    Calls Try.prog 67 #[.int .u32 k, .pointer (some ⟨gv, 0, none⟩)] w fun e w' => e = .returned (.bool (valS l k != 1)) ∧ Below w.heap.size w w' := by
  have HV := Aside0.mk (value_calls A c l k w hr hl h0 h1)
  clear hr hl
  go_enter Try.func67, Try.ntmps67
  go_wp2_with (refine HV.out.mono ?_; rintro e w1 ⟨rfl, rfl⟩)
  go_ret
  exact ⟨rfl, Below.refl _ _⟩
theorem enters_heldOne : Enters Try.prog 67 := enters_of Try.func67 (by kernel_rfl) rfl
def CP.heldS (x : CP) (l : List Int) : Bool := !x.l5.any (fun k => valS l k != 1)
set_option maxHeartbeats 1000000 in
theorem held_calls (x : CP) (A : Option Addr) (c : Nat) (l : List Int) (w : World) (ok : x.Ok w) (fit : x.Fit) (hr : Kd.C (Kd.int .u8) w A l.length l) (hl : ∀ v ∈ l, 0 ≤ v ∧ v ≤ 255) :
    Calls Try.prog 51 #[.agg #[.int .i64 x.a0, .slice x.A1 x.l1.length x.c1, .slice x.A2 x.l2.length x.c2, .slice x.A3 x.l3.length x.c3, .slice x.A4 x.l4.length x.c4, .slice x.A5 x.l5.length x.c5], .slice A l.length c] w fun e w' => e = .returned (.bool (x.heldS l)) ∧ Below w.heap.size w w' := by
  obtain ⟨W, hW⟩ : ∃ W, W = (w.alloc (.cells #[.int .i64 x.a0, .slice x.A1 x.l1.length x.c1, .slice x.A2 x.l2.length x.c2, .slice x.A3 x.l3.length x.c3, .slice x.A4 x.l4.length x.c4, .slice x.A5 x.l5.length x.c5] 26)).alloc (.cells #[.slice A l.length c] 27) := ⟨_, rfl⟩
  have hb : Below w.heap.size w W := by rw [hW]; exact ((Below.refl _ _).alloc (Nat.le_refl _) _).alloc (by simp) _
  have hat : x.At W w.heap.size := by
    rw [hW]; exact (CP.at_alloc x w).below ((Below.refl _ _).alloc (Nat.le_refl _) _)
  have hv : W.heap[w.heap.size + 1]? = some (.cells #[.slice A l.length c] 27 (0, 0)) := by
    rw [hW]
    have : (w.alloc (.cells #[.int .i64 x.a0, .slice x.A1 x.l1.length x.c1, .slice x.A2 x.l2.length x.c2, .slice x.A3 x.l3.length x.c3, .slice x.A4 x.l4.length x.c4, .slice x.A5 x.l5.length x.c5] 26)).heap.size = w.heap.size + 1 := by simp
    rw [← this]; exact heap_alloc_at _ _
  have hlt : w.heap.size + 1 < W.heap.size := (Array.getElem?_eq_some_iff.1 hv).1
  have ok' := ok.below hb
  have hr' := Kd.C_below hr hb
  have HC := Aside0.mk (contains_u32 _ enters_heldOne (.pointer (some ⟨w.heap.size + 1, 0, none⟩)) (fun k => valS l k != 1) x.A5 x.c5 x.l5 W ok'.r5
    (fun k hk W1 h1 => heldOne_calls A c l (w.heap.size + 1) k W1 (Kd.C_below hr' h1) hl (cell_blk ((h1.block _ hlt).trans hv) 0 _ rfl) (fit.g5 k hk).1 (fit.g5 k hk).2))
  rw [hW] at HC
  have HB := Aside0.mk hb
  rw [hW] at HB
  have hmf : ∀ (fn : Fn) (first cap : Array Value) (w : World), (Instr.makeFunc fn first cap).run Try.prog w = .ok (.func fn first cap) w := fun _ _ _ _ => rfl
  clear hb hat hv hlt ok' hr' ok hr hl hW fit
  go_enter Try.func51, Try.ntmps51
  go_wp2_with (refine HC.out.mono ?_; rintro e w1 ⟨rfl, hb1⟩)
  go_ret
  exact ⟨rfl, HB.out.trans (hb1.mono HB.out.size)⟩
def CP.nextS (x : CP) (l : List Int) : List Int := x.l1.map (fun s => valS l s.f0)
set_option maxHeartbeats 2000000 in
set_option maxRecDepth 100000 in
theorem next_calls (x : CP) (A : Option Addr) (c : Nat) (l : List Int) (w : World) (ok : x.Ok w) (fit : x.Fit) (hr : Kd.C (Kd.int .u8) w A l.length l) (hl : ∀ v ∈ l, 0 ≤ v ∧ v ≤ 255) :
    Calls Try.prog 66 #[.agg #[.int .i64 x.a0, .slice x.A1 x.l1.length x.c1, .slice x.A2 x.l2.length x.c2, .slice x.A3 x.l3.length x.c3, .slice x.A4 x.l4.length x.c4, .slice x.A5 x.l5.length x.c5], .slice A l.length c] w fun e w' => ∃ v, e = .returned v ∧ Kd.R (Kd.int .u8) 5 w' w.heap.size (fun _ => True) v (x.nextS l) ∧ Below w.heap.size w w' := by
  have HO := Aside0.mk ok
  have HF := Aside0.mk fit
  have HR := Aside0.mk hr
  have HL := Aside0.mk hl
  have hlen1 : x.l1.length ≤ 9223372036854775807 := ok.r1.2.1
  have HN1 := Aside0.mk fit.n1
  have HB0 : Aside0 (Below w.heap.size w (w.alloc (.cells #[.int .i64 x.a0, .slice x.A1 x.l1.length x.c1, .slice x.A2 x.l2.length x.c2, .slice x.A3 x.l3.length x.c3, .slice x.A4 x.l4.length x.c4, .slice x.A5 x.l5.length x.c5] 26))) := ⟨(Below.refl _ _).alloc (Nat.le_refl _) _⟩
  clear ok fit hr hl
  go_enter Try.func66, Try.ntmps66
  go_wp2
  go_loopw [4, 10] (fun u v wr => ∃ k : Nat, k ≤ x.l1.length ∧ v = .int .i64 k ∧ Aside0 (Kd.R (Kd.int .u8) 5 wr w.heap.size (fun _ => True) u ((x.l1.take k).map (fun s => valS l s.f0))) ∧ Below w.heap.size w wr) (fun _ v _ => x.l1.length - (intOf v).toNat)
  case atStart => exact ⟨0, by omega, rfl, ⟨Kd.R_nil _ _ _ _ _⟩, HB0.out⟩
  case round =>
    obtain ⟨k, hk, rfl, HOW, hb⟩ := hrel
    have HB := Aside0.mk hb
    have ok := HO.out.below hb
    by_cases hlt : k < x.l1.length
    · obtain ⟨ad, e1, hc0, hc1⟩ := at_T61 ok.r1 k (by omega) (by omega)
      have hrd : rd_T61 x.l1 k = x.l1[k] := by simp [rd_T61, List.getD_eq_getElem?_getD, hlt]
      rw [hrd] at hc0 hc1
      simp only [Int.toNat_natCast] at hc0 hc1
      obtain ⟨f0, f1, f2, f3⟩ := HF.out.g1 x.l1[k] (List.getElem_mem hlt)
      have hba : Below wr.heap.size wr (wr.alloc (.cells #[.int .u32 x.l1[k].f0, .int .u8 x.l1[k].f1] 61)) := (Below.refl _ _).alloc (Nat.le_refl _) _
      have HBA := Aside0.mk (hb.trans (hba.mono hb.size))
      have HV := Aside0.mk (value_calls A c l x.l1[k].f0 _ (Kd.C_below HR.out HBA.out) HL.out f0 f1)
      have HOW2 := Aside0.mk (Kd.R_alloc HOW.out (.cells #[.int .u32 x.l1[k].f0, .int .u8 x.l1[k].f1] 61))
      have HT : Aside0 ((x.l1.take k).map (fun s => valS l s.f0) ++ [valS l x.l1[k].f0] = (x.l1.take (k + 1)).map (fun s => valS l s.f0)) :=
        ⟨by rw [List.take_succ_eq_append_getElem hlt, List.map_append]; rfl⟩
      have hll : ((x.l1.take k).map (fun s => valS l s.f0)).length = k := by rw [List.length_map, List.length_take]; omega
      have HLL := Aside0.mk hll
      obtain ⟨y, hy⟩ : ∃ y, y = valS l x.l1[k].f0 := ⟨_, rfl⟩
      rw [← hy] at HV HT
      clear ok hrd hba hll hy hb
      go_wp2_with (first | (go_at_call 52; refine HV.out.mono ?_; rintro e w1 ⟨rfl, rfl⟩) | ((with_reducible refine gate_builtin (b := .append) (xs := #[.tmp 14, .tmp 19]) rfl ?_); go_must (at_builtin; refine Kd.R_append (Kd.int .u8) (w0 := w) w.heap.size rfl (.tmp 14) (.tmp 19) 27 5 (.int .u8 0) 1 rfl Try.underlying27 info5 rfl (by decide) (by omega) u4 ((x.l1.take k).map (fun s => valS l s.f0)) y [.int .u8 y] (fun _ => True) (fun _ => False) rfl (by first | rfl | (show Value.slice (some ⟨_, 0, none⟩) 1 1 = _; simp)) ?aP (fun _ hk => hk.elim) ?aF ?aO ?aB ?aS ?aL ?_; (case aP => exact rfl); (case aB => exact HBA.out); (case aF => exact (fun _ _ => trivial)); (case aO => exact HOW2.out); (case aS => exact HBA.out.size); (case aL => have := HN1.out; have := HLL.out; omega); intro v9 w9 ho hb9 hg9 hat9; rw [HT.out] at ho; have HO9 := Aside0.mk ho; have HB9 := Aside0.mk hb9; clear ho hb9 hg9 hat9)))
      rw [e1]
      refine ⟨?_, by simp [intOf]; omega⟩
      (repeat apply Exists.intro)
      exact ⟨⟨k + 1, by omega, by go_num, HO9, HB9.out⟩, rfl⟩
    · have hk' : k = x.l1.length := by omega
      have HT : Aside0 ((x.l1.take k).map (fun s => valS l s.f0) = x.nextS l) := ⟨by rw [hk', List.take_length]; rfl⟩
      rw [HT.out] at HOW
      clear ok hk' HT
      go_wp2
      go_ret
      exact ⟨_, rfl, HOW.out, HB.out⟩
end Go.Proofs.Ytdjhjgfjhicbfaa.PWalkTells
namespace Go.Proofs.Ytdjhjgfjhicbfaa.PWalkTells
open Go.RowKit Go.Shelf Go.Proofs.YtdjhjgfjhicbfaaW.PrintWords Go.Proofs.YtdjhjgfjhicbfaaW.PrintLast Go.Proofs.YtdjhjgfjhicbfaaW.PrintMore
set_option linter.unusedVariables false
set_option linter.unusedSimpArgs false
set_option maxHeartbeats 2000000 in
set_option maxRecDepth 100000 in
theorem grow_calls (n : Int) (w : World) (h0 : 0 ≤ n) (h1 : n ≤ 70368744177664) :
    Calls Try.prog 74 #[.slice none 0 0, .int .i64 n] w fun e w' => ∃ v, e = .returned v ∧ Kd.R (Kd.int .u8) 5 w' w.heap.size (fun _ => True) v [] ∧ Below w.heap.size w w' := by
  by_cases hn : 0 < n
  · go_enter Try.func74, Try.ntmps74
    go_wp2_with ((with_reducible refine gate_builtin (b := .append) (xs := #[.tmp 20, .tmp 21]) rfl ?_); go_must (refine Kd.R_append_zeros (Kd.int .u8) (w0 := w) w.heap.size rfl (.tmp 20) (.tmp 21) 27 3 5 (.int .u8 0) 1 rfl Try.underlying27 Try.underlying3 info5 rfl (by decide) (by omega) (.slice none 0 0) ([] : List Int) 0 n (fun _ => True) rfl rfl rfl (fun _ _ => trivial) (Kd.R_nil _ _ _ _ _) h0 (Below.refl _ _) (Nat.le_refl _) (by simp; omega) ?_; intro v1 w1 ho hb hg hat; obtain ⟨A1, c1, rfl⟩ := Kd.R_slice ho; have HO := Aside0.mk ho; have HB := Aside0.mk hb; clear ho hb hg hat))
    go_ret
    exact ⟨_, rfl, by have := Kd.R_take (m := 0) HO.out (by simp); simpa using this, HB.out⟩
  · obtain rfl : n = 0 := by omega
    go_enter Try.func74, Try.ntmps74
    go_wp2
    go_ret
    exact ⟨_, rfl, Kd.R_nil _ _ _ _ _, Below.refl _ _⟩
theorem flat_succ (ls : List (List Int)) (k : Nat) (h : k < ls.length) : (ls.take (k + 1)).flatten = (ls.take k).flatten ++ ls[k] := by
  rw [List.take_succ_eq_append_getElem h, List.flatten_append]; simp
theorem flat_le (ls : List (List Int)) (k : Nat) : ((ls.take k).flatten).length ≤ ls.flatten.length := by
  conv => rhs; rw [← List.take_append_drop k ls, List.flatten_append, List.length_append]
  omega
theorem row_at {w : World} {A : Option Addr} {ls : List (List Int)} (h : Kd.C (Kd.slice 5 (Kd.int .u8)) w A ls.length ls) (k : Nat) (hk : k < ls.length) :
    ∃ ad A0 c0, A = some ad ∧ w.cell? (ad.add k) = some (.slice A0 ls[k].length c0) ∧ ls[k].length ≤ c0 ∧ Kd.C (Kd.int .u8) w A0 ls[k].length ls[k] := by
  obtain ⟨ad, c, e, _, hK, hc0⟩ := Kd.C_get h ([] : List Int) k (by omega) (by omega)
  have hc : ∀ j u, c[j]? = some u → w.cell? (ad.add (k * 1 + j)) = some u := hc0
  obtain ⟨A0, c0, rfl, l0, g0⟩ := hK
  have hg : ls.getD (k : Int).toNat [] = ls[k] := by simp [List.getD_eq_getElem?_getD, hk]
  rw [hg] at l0 g0 hc
  exact ⟨ad, A0, c0, e, by have hq := hc 0 _ rfl; rwa [Nat.mul_one, Nat.add_zero] at hq, l0, g0⟩
set_option maxHeartbeats 2000000 in
set_option maxRecDepth 100000 in
theorem concat_calls (A : Option Addr) (c : Nat) (ls : List (List Int)) (w : World) (hr : Kd.C (Kd.slice 5 (Kd.int .u8)) w A ls.length ls) (hn : ls.flatten.length ≤ 70368744177664) :
    Calls Try.prog 72 #[.slice A ls.length c] w fun e w' => ∃ v, e = .returned v ∧ Kd.R (Kd.int .u8) 5 w' w.heap.size (fun _ => True) v ls.flatten ∧ Below w.heap.size w w' := by
  have HR := Aside0.mk hr
  have hlen : ls.length ≤ 9223372036854775807 := hr.2.1
  have HN := Aside0.mk hn
  clear hr hn
  go_enter Try.func72, Try.ntmps72
  go_wp2
  go_loop [3, 11] (fun u v => ∃ (k : Nat) (s : Nat), k ≤ ls.length ∧ v = .int .i64 k ∧ u = .int .i64 s ∧ Aside0 (s = ((ls.take k).flatten).length)) (fun _ v => ls.length - (intOf v).toNat)
  case atStart => exact ⟨0, 0, by omega, rfl, rfl, ⟨by simp⟩⟩
  case round =>
    obtain ⟨k, s, hk, rfl, rfl, HS⟩ := hrel
    have hs : s ≤ 70368744177664 := by have := HS.out; have := HN.out; have := flat_le ls k; omega
    by_cases hlt : k < ls.length
    · obtain ⟨ad, A0, c0, e1, hc, hl0, hr0⟩ := row_at HR.out k hlt
      have hl := congrArg List.length (flat_succ ls k hlt)
      rw [List.length_append] at hl
      have hs2 : s + ls[k].length ≤ 70368744177664 := by have := HS.out; have := HN.out; have := flat_le ls (k + 1); omega
      have HS2 : Aside0 (s + ls[k].length = ((ls.take (k + 1)).flatten).length) := ⟨by have := HS.out; omega⟩
      clear hl hl0 hr0
      subst e1
      go_wp2
      go_round
      case rel => exact ⟨k + 1, s + ls[k].length, by omega, by go_num, by go_num, HS2⟩
      case measure => simp [intOf]; omega
    · have hk' : k = ls.length := by omega
      have HS2 : Aside0 (s = ls.flatten.length) := ⟨by have := HS.out; rw [hk', List.take_length] at this; exact this⟩
      have HG := Aside0.mk (grow_calls s w (by omega) (by omega))
      clear HS
      go_wp2_with (go_at_call 74; refine HG.out.mono ?_; rintro e w1 ⟨v1, rfl, ho1, hb1⟩; have HO1 := Aside0.mk ho1; have HB1 := Aside0.mk hb1; clear ho1 hb1)
      go_loopw [6, 27] (fun u v wr => ∃ k : Nat, k ≤ ls.length ∧ v = .int .i64 k ∧ Aside0 (Kd.R (Kd.int .u8) 5 wr w.heap.size (fun _ => True) u ((ls.take k).flatten)) ∧ Below w.heap.size w wr) (fun _ v _ => ls.length - (intOf v).toNat)
      case atStart => exact ⟨0, by omega, rfl, ⟨by simpa using HO1.out⟩, HB1.out⟩
      case round =>
        obtain ⟨k, hk, rfl, HOW, hb⟩ := hrel
        have HB := Aside0.mk hb
        by_cases hlt : k < ls.length
        · obtain ⟨ad, A0, c0, e1, hc, hl0, hr0⟩ := row_at (Kd.C_below HR.out hb) k hlt
          subst e1
          have HR0 := Aside0.mk hr0
          have HT : Aside0 ((ls.take k).flatten ++ ls[k] = (ls.take (k + 1)).flatten) := ⟨(flat_succ ls k hlt).symm⟩
          have HL : Aside0 (((ls.take k).flatten).length + ls[k].length ≤ 70368744177664) := ⟨by rw [← List.length_append, HT.out]; exact Nat.le_trans (flat_le ls (k + 1)) HN.out⟩
          clear hr0 hb hl0
          go_wp2_with ((with_reducible refine gate_builtin (b := .append) (xs := #[.tmp 31, .tmp 32]) rfl ?_); go_must (refine Kd.R_append_rows (Kd.int .u8) (Rr := fun x cs => cs = [.int .u8 x]) (w0 := w) w.heap.size rfl (.tmp 31) (.tmp 32) 27 5 (.int .u8 0) 1 rfl Try.underlying27 info5 rfl (by decide) (by omega) u6 ((ls.take k).flatten) ls[k] A0 ls[k].length c0 (fun _ => True) (fun _ => False) rfl rfl HOW.out HR0.out (fun _ _ h => h) (fun _ hk => hk.elim) (fun _ _ => trivial) HB.out HB.out.size (by have := HL.out; omega) ?_; intro v9 w9 ho hb9 hg9 hat9; rw [HT.out] at ho; have HO9 := Aside0.mk ho; have HB9 := Aside0.mk hb9; clear ho hb9 hg9 hat9))
          go_roundw
          case rel => exact ⟨k + 1, by omega, by go_num, HO9, HB9.out⟩
          case measure => simp [intOf]; omega
        · have hk' : k = ls.length := by omega
          have HT : Aside0 ((ls.take k).flatten = ls.flatten) := ⟨by rw [hk', List.take_length]⟩
          rw [HT.out] at HOW
          clear hk' HT hb
          go_wp2
          go_ret
          exact ⟨_, rfl, HOW.out, HB.out⟩
end Go.Proofs.Ytdjhjgfjhicbfaa.PWalkTells
