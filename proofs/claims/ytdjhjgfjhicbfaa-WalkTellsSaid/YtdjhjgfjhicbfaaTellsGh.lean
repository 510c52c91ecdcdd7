/- A part of the proof of WalkTellsSaid: contracts of functions and plain lemmas; each holds under the hypotheses that it names. -/
import Derived.Test.YtdjhjgfjhicbfaaTellsGg
import Derived.StillTailTactics
import Derived.Deep.RegionHeld3
import Derived.Deep.DeepMust
namespace Go.Proofs.Ytdjhjgfjhicbfaa.PWalkTells
open Go.RowKit Go.Shelf Go.Maps Go.Proofs.YtdjhjgfjhicbfaaW.PrintWords Go.Proofs.YtdjhjgfjhicbfaaW.PrintLast Go.Proofs.YtdjhjgfjhicbfaaW.PrintMore
attribute [local go_sem] max2_int min2_int max_two min_two
set_option linter.unusedVariables false
set_option linter.unusedSimpArgs false
def CP.wide (x : CP) : Bool := decide (10 < if x.a0 < (x.freeS.length : Int) then (x.freeS.length : Int) else x.a0)
theorem wide_false {x : CP} (h : x.wide = false) : x.a0 ≤ 10 ∧ x.freeS.length ≤ 10 := by
  unfold CP.wide at h
  have h := of_decide_eq_false h
  split at h <;> omega
def CP.allS (x : CP) : List S43 × Int :=
  if x.may = false then ([], 2) else if x.wide = true then ([], 3) else match x.walkS with
    | some L => (L, 0)
    | none => ([], 3)
theorem all_none {x : CP} (h : x.walkS = none) {e : Ending} {w w' : World} (hp : ∃ v er, e = .returned (.tuple #[v, .int .i64 er]) ∧ ((er = 0 ∧ ∃ L, x.walkS = some L ∧ Kd.R k43 43 w' w.heap.size (fun _ => True) v L) ∨ (er = 3 ∧ x.walkS = none)) ∧ Below w.heap.size w w') :
    ∃ v, e = .returned (.tuple #[v, .int .i64 3]) ∧ Below w.heap.size w w' := by
  obtain ⟨v, er, rfl, ⟨_, L, h2, _⟩ | ⟨rfl, _⟩, hb⟩ := hp
  · rw [h] at h2; cases h2
  · exact ⟨v, rfl, hb⟩
theorem all_some {x : CP} {L : List S43} (h : x.walkS = some L) {e : Ending} {w w' : World} (hp : ∃ v er, e = .returned (.tuple #[v, .int .i64 er]) ∧ ((er = 0 ∧ ∃ L, x.walkS = some L ∧ Kd.R k43 43 w' w.heap.size (fun _ => True) v L) ∨ (er = 3 ∧ x.walkS = none)) ∧ Below w.heap.size w w') :
    ∃ v, e = .returned (.tuple #[v, .int .i64 0]) ∧ Kd.R k43 43 w' w.heap.size (fun _ => True) v L ∧ Below w.heap.size w w' := by
  obtain ⟨v, er, rfl, ⟨rfl, L', h2, hr⟩ | ⟨rfl, h2⟩, hb⟩ := hp
  · rw [h] at h2; injection h2 with h2; subst h2; exact ⟨v, rfl, hr, hb⟩
  · rw [h] at h2; cases h2
theorem may_nonneg {x : CP} (h : x.may = true) : 0 ≤ x.a0 := by
  unfold CP.may at h
  split at h
  · cases h
  · omega
set_option maxHeartbeats 4000000 in
set_option maxRecDepth 100000 in
theorem all_calls (x : CP) (w : World) (ok : x.Ok w) (fit : x.Fit) :
    Calls Try.prog 10 #[.agg #[.int .i64 x.a0, .slice x.A1 x.l1.length x.c1, .slice x.A2 x.l2.length x.c2, .slice x.A3 x.l3.length x.c3, .slice x.A4 x.l4.length x.c4, .slice x.A5 x.l5.length x.c5]] w fun e w' => ∃ v, e = .returned (.tuple #[v, .int .i64 x.allS.2]) ∧ Kd.R k43 43 w' w.heap.size (fun _ => True) v x.allS.1 ∧ Below w.heap.size w w' := by
  have hb : Below w.heap.size w (w.alloc (.cells #[.int .i64 x.a0, .slice x.A1 x.l1.length x.c1, .slice x.A2 x.l2.length x.c2, .slice x.A3 x.l3.length x.c3, .slice x.A4 x.l4.length x.c4, .slice x.A5 x.l5.length x.c5] 26)) := (Below.refl _ _).alloc (Nat.le_refl _) _
  have HAT := Aside0.mk (CP.at_alloc x w)
  have HB := Aside0.mk hb
  have HO := Aside0.mk ok
  have HF := Aside0.mk fit
  have HM := Aside0.mk (may_calls x _ (ok.below hb) fit)
  obtain ⟨_, k0, k1, k2, k3, k4, k5⟩ := HAT.out
  clear hb ok fit
  cases hmay : x.may
  · have HS : Aside0 (x.allS = ([], 2)) := ⟨by unfold CP.allS; rw [if_pos hmay]⟩
    rw [hmay] at HM
    go_enter Try.func10, Try.ntmps10
    go_wp2_with (go_at_call 28; go_must (refine HM.out.mono ?_; rintro e w1 ⟨rfl, hb1⟩; have HB1 := Aside0.mk (HB.out.trans (hb1.mono HB.out.size)); clear hb1))
    rw [HS.out]
    go_ret2
    exact ⟨_, rfl, Kd.R_nil _ _ _ _ _, HB1.out⟩
  · have HMY := Aside0.mk hmay
    rw [hmay] at HM
    have HS : Aside0 (x.allS = (if x.wide = true then ([], 3) else match x.walkS with | some L => (L, 0) | none => ([], 3) : List S43 × Int)) := ⟨by unfold CP.allS; rw [if_neg (by rw [hmay]; simp)]⟩
    have hfl : x.freeS.length ≤ 9223372036854775807 := by have := freeG_length x.l1 0; have := HF.out.n1; unfold CP.freeS; omega
    have hx0 := may_nonneg hmay
    clear hmay
    go_enter Try.func10, Try.ntmps10
    go_wp2_with (go_at_call 28; go_must (refine HM.out.mono ?_; rintro e w1 ⟨rfl, hb1⟩; have HA1 := Aside0.mk (HAT.out.below hb1); have HB1 := Aside0.mk (HB.out.trans (hb1.mono HB.out.size)); clear hb1 k0 k1 k2 k3 k4 k5; obtain ⟨_, k0, k1, k2, k3, k4, k5⟩ := HA1.out))
    have HFREE := Aside0.mk (free_calls x w1.drew (HO.out.below HB1.out.drew) HF.out)
    go_region_held3 (fun w' => w'.cell? ⟨w.heap.size, 0, none⟩ = some (.int .i64 x.a0) ∧ w'.cell? ⟨w.heap.size, 1, none⟩ = some (.slice x.A1 x.l1.length x.c1) ∧ w'.cell? ⟨w.heap.size, 2, none⟩ = some (.slice x.A2 x.l2.length x.c2) ∧ w'.cell? ⟨w.heap.size, 3, none⟩ = some (.slice x.A3 x.l3.length x.c3) ∧ w'.cell? ⟨w.heap.size, 4, none⟩ = some (.slice x.A4 x.l4.length x.c4) ∧ w'.cell? ⟨w.heap.size, 5, none⟩ = some (.slice x.A5 x.l5.length x.c5))
      (first
        | go_keep
        | (go_split_ands
           have hq : ∀ p v, w1.cell? p = some v → w2.cell? p = some v := fun p v h => (hb2.cell (World.block_lt_of_cell? w1 p h)).trans h
           exact ⟨hq _ _ k0, hq _ _ k1, hq _ _ k2, hq _ _ k3, hq _ _ k4, hq _ _ k5⟩))
      ((go_at_call 29; (with_reducible refine HFREE.out.mono ?_); rintro e w2 ⟨v2, rfl, ho2, hb2⟩; obtain ⟨A2, c2, rfl⟩ := Kd.R_slice ho2))
    have HB2 := Aside0.mk (HB1.out.drew.trans (hb2.mono HB1.out.drew.size))
    have HA2 := Aside0.mk (HA1.out.below (((Below.refl _ _).drew).trans hb2))
    clear ho2 hb2 k0 k1 k2 k3 k4 k5
    obtain ⟨_, k0, k1, k2, k3, k4, k5⟩ := HA2.out
    have HWD : Aside0 (x.wide = decide (10 < if x.a0 < (x.freeS.length : Int) then (x.freeS.length : Int) else x.a0)) := ⟨rfl⟩
    cases hw : x.wide
    · obtain ⟨g1, g2⟩ := wide_false hw
      have HWK := Aside0.mk (walk_calls x w2 (HO.out.below HB2.out) HF.out HMY.out hx0 g1 g2)
      have hd := HWD.out.symm.trans hw
      have HS2 : Aside0 (x.allS = (match x.walkS with | some L => (L, 0) | none => ([], 3) : List S43 × Int)) := ⟨HS.out.trans (by rw [hw]; exact if_neg (by simp))⟩
      clear hw g1 g2
      rw [hd]
      clear hd HWD
      generalize (if x.a0 < (x.freeS.length : Int) then (x.freeS.length : Int) else x.a0) = mx
      cases hwk : x.walkS with
      | none =>
        have HS3 : Aside0 (x.allS = ([], 3)) := ⟨by rw [HS2.out, hwk]⟩
        have HWN := Aside0.mk (HWK.out.mono (fun e w3 h => all_none hwk h))
        clear hwk
        go_wp2_with (go_at_call 30; go_must (refine HWN.out.mono ?_; rintro e w3 ⟨v3, rfl, hb3⟩; have HB3 := Aside0.mk (HB2.out.trans (hb3.mono HB2.out.size)); clear hb3))
        rw [HS3.out]
        go_ret2
        exact ⟨_, rfl, Kd.R_nil _ _ _ _ _, HB3.out⟩
      | some L =>
        have HS3 : Aside0 (x.allS = (L, 0)) := ⟨by rw [HS2.out, hwk]⟩
        have HWN := Aside0.mk (HWK.out.mono (fun e w3 h => all_some hwk h))
        clear hwk
        go_wp2_with (go_at_call 30; go_must (refine HWN.out.mono ?_; rintro e w3 ⟨v3, rfl, ho3, hb3⟩; have HO3 := Aside0.mk (Kd.R_lower ho3 HB2.out.size); have HB3 := Aside0.mk (HB2.out.trans (hb3.mono HB2.out.size)); clear hb3 ho3))
        rw [HS3.out]
        go_ret2
        exact ⟨_, rfl, HO3.out, HB3.out⟩
    · have hd := HWD.out.symm.trans hw
      have HS2 : Aside0 (x.allS = ([], 3)) := ⟨HS.out.trans (by rw [hw]; rfl)⟩
      rw [hd]
      clear hd hw HWD
      generalize (if x.a0 < (x.freeS.length : Int) then (x.freeS.length : Int) else x.a0) = mx
      go_wp2
      rw [HS2.out]
      go_ret2
      exact ⟨_, rfl, Kd.R_nil _ _ _ _ _, HB2.out⟩
end Go.Proofs.Ytdjhjgfjhicbfaa.PWalkTells
namespace Go.Proofs.Ytdjhjgfjhicbfaa.PWalkTells
open Go.RowKit Go.Shelf Go.Maps Go.Proofs.YtdjhjgfjhicbfaaW.PrintWords Go.Proofs.YtdjhjgfjhicbfaaW.PrintLast Go.Proofs.YtdjhjgfjhicbfaaW.PrintMore
attribute [local go_sem] max2_int min2_int max_two min_two
set_option linter.unusedVariables false
set_option linter.unusedSimpArgs false
def CP.badS (x : CP) (i : Int) : Bool := x.may && decide (0 ≤ i) && decide (i < (x.l4.length : Int))
set_option maxHeartbeats 4000000 in
theorem bad_calls (x : CP) (i : Int) (w : World) (ok : x.Ok w) (fit : x.Fit) : Calls Try.prog 40 #[.agg #[.int .i64 x.a0, .slice x.A1 x.l1.length x.c1, .slice x.A2 x.l2.length x.c2, .slice x.A3 x.l3.length x.c3, .slice x.A4 x.l4.length x.c4, .slice x.A5 x.l5.length x.c5], .int .i64 i] w fun e w' => e = .returned (.bool (x.badS i)) ∧ Below w.heap.size w w' := by
  have hb : Below w.heap.size w (w.alloc (.cells #[.int .i64 x.a0, .slice x.A1 x.l1.length x.c1, .slice x.A2 x.l2.length x.c2, .slice x.A3 x.l3.length x.c3, .slice x.A4 x.l4.length x.c4, .slice x.A5 x.l5.length x.c5] 26)) := (Below.refl _ _).alloc (Nat.le_refl _) _
  have HAT := Aside0.mk (CP.at_alloc x w)
  have HB := Aside0.mk hb
  have HM := Aside0.mk (may_calls x _ (ok.below hb) fit)
  obtain ⟨_, k0, k1, k2, k3, k4, k5⟩ := HAT.out
  have hn4 := ok.r4.2.1
  clear hb ok fit
  cases hmay : x.may
  · have HS : Aside0 (x.badS i = false) := ⟨by unfold CP.badS; rw [hmay]; rfl⟩
    rw [hmay] at HM
    go_enter Try.func40, Try.ntmps40
    go_wp2_with (go_at_call 28; go_must (refine HM.out.mono ?_; rintro e w1 ⟨rfl, hb1⟩; have HB1 := Aside0.mk (HB.out.trans (hb1.mono HB.out.size)); clear hb1))
    rw [HS.out]
    go_ret
    exact ⟨rfl, HB1.out⟩
  · have HS : Aside0 (x.badS i = (decide (0 ≤ i) && decide (i < (x.l4.length : Int)))) := ⟨by unfold CP.badS; rw [hmay]; rfl⟩
    rw [hmay] at HM
    clear hmay
    by_cases h0 : 0 ≤ i
    · by_cases h1 : i < (x.l4.length : Int)
      · have HS2 : Aside0 (x.badS i = true) := ⟨by rw [HS.out]; simp [h0, h1]⟩
        go_enter Try.func40, Try.ntmps40
        go_wp2_with (go_at_call 28; go_must (refine HM.out.mono ?_; rintro e w1 ⟨rfl, hb1⟩; have HB1 := Aside0.mk (HB.out.trans (hb1.mono HB.out.size)); have HA1 := Aside0.mk (HAT.out.below hb1); clear hb1 k0 k1 k2 k3 k4 k5; obtain ⟨_, k0, k1, k2, k3, k4, k5⟩ := HA1.out))
        go_ret
        exact ⟨by rw [HS2.out]; rfl, HB1.out⟩
      · have HS2 : Aside0 (x.badS i = false) := ⟨by rw [HS.out]; simp [h0, h1]⟩
        go_enter Try.func40, Try.ntmps40
        go_wp2_with (go_at_call 28; go_must (refine HM.out.mono ?_; rintro e w1 ⟨rfl, hb1⟩; have HB1 := Aside0.mk (HB.out.trans (hb1.mono HB.out.size)); have HA1 := Aside0.mk (HAT.out.below hb1); clear hb1 k0 k1 k2 k3 k4 k5; obtain ⟨_, k0, k1, k2, k3, k4, k5⟩ := HA1.out))
        go_ret
        exact ⟨by rw [HS2.out]; show Ending.returned (.bool (decide (i < (x.l4.length : Int)))) = _; rw [decide_eq_false (by omega)], HB1.out⟩
    · have HS2 : Aside0 (x.badS i = false) := ⟨by rw [HS.out]; simp [h0]⟩
      go_enter Try.func40, Try.ntmps40
      go_wp2_with (go_at_call 28; go_must (refine HM.out.mono ?_; rintro e w1 ⟨rfl, hb1⟩; have HB1 := Aside0.mk (HB.out.trans (hb1.mono HB.out.size)); clear hb1))
      go_ret
      exact ⟨by rw [HS2.out]; rfl, HB1.out⟩
def maxS (L : List S43) (n : Int) : Int := L.foldl (fun n s => if n < s.f1 then s.f1 else n) n
theorem maxS_snoc (L : List S43) (s : S43) (n : Int) : maxS (L ++ [s]) n = if maxS L n < s.f1 then s.f1 else maxS L n := by
  unfold maxS
  rw [List.foldl_append]
  rfl
def CP.ringS (x : CP) : Int := maxS x.allS.1 0
theorem allS_good {x : CP} (fit : x.Fit) : x.Good x.allS.1 ∧ x.allS.1.length ≤ 4096 := by
  have hnil : x.Good [] ∧ ([] : List S43).length ≤ 4096 := ⟨fun j h => by simp at h, by simp⟩
  unfold CP.allS
  cases hm : x.may
  · rw [if_pos rfl]; exact hnil
  · rw [if_neg (by simp)]
    cases hw : x.wide
    · rw [if_neg (by simp)]
      cases hk : x.walkS with
      | none => exact hnil
      | some L => exact walkS_good fit hm (wide_false hw).2 hk
    · rw [if_pos rfl]; exact hnil
theorem maxS_range {x : CP} {L : List S43} (hg : x.Good L) (hl : L.length ≤ 4096) (k : Nat) (hk : k ≤ L.length) : 0 ≤ maxS (L.take k) 0 ∧ maxS (L.take k) 0 ≤ 4096 := by
  induction k with
  | zero => simp [maxS]
  | succ k ih =>
    have := ih (by omega)
    obtain ⟨_, _, a, b, _⟩ := hg k (by omega)
    rw [List.take_succ_eq_append_getElem (by omega), maxS_snoc]
    split <;> omega
set_option maxHeartbeats 4000000 in
set_option maxRecDepth 100000 in
theorem ring_calls (x : CP) (w : World) (ok : x.Ok w) (fit : x.Fit) : Calls Try.prog 24 #[.agg #[.int .i64 x.a0, .slice x.A1 x.l1.length x.c1, .slice x.A2 x.l2.length x.c2, .slice x.A3 x.l3.length x.c3, .slice x.A4 x.l4.length x.c4, .slice x.A5 x.l5.length x.c5]] w fun e w' => e = .returned (.tuple #[.int .i64 x.ringS, .int .i64 x.allS.2]) ∧ Below w.heap.size w w' := by
  have hb : Below w.heap.size w (w.alloc (.cells #[.int .i64 x.a0, .slice x.A1 x.l1.length x.c1, .slice x.A2 x.l2.length x.c2, .slice x.A3 x.l3.length x.c3, .slice x.A4 x.l4.length x.c4, .slice x.A5 x.l5.length x.c5] 26)) := (Below.refl _ _).alloc (Nat.le_refl _) _
  have HAT := Aside0.mk (CP.at_alloc x w)
  have HB := Aside0.mk hb
  have HALL := Aside0.mk (all_calls x _ (ok.below hb) fit)
  obtain ⟨hg, hl⟩ := allS_good fit
  have HG := Aside0.mk hg
  obtain ⟨L, hL⟩ : ∃ L, L = x.allS.1 := ⟨_, rfl⟩
  obtain ⟨er, her⟩ : ∃ er, er = x.allS.2 := ⟨_, rfl⟩
  have HR : Aside0 (x.ringS = maxS L 0) := ⟨by unfold CP.ringS; rw [hL]⟩
  rw [← hL, ← her] at HALL
  rw [← hL] at HG hl
  rw [← her, HR.out]
  have hl2 : L.length ≤ 9223372036854775807 := by omega
  obtain ⟨_, k0, k1, k2, k3, k4, k5⟩ := HAT.out
  clear hb ok fit hg hL her HR
  go_enter Try.func24, Try.ntmps24
  go_wp2_with (go_at_call 10; go_must (refine HALL.out.mono ?_; rintro e w1 ⟨v1, rfl, ho1, hb1⟩; obtain ⟨A1, c1, e1⟩ := Kd.R_slice ho1; subst e1; have HB1 := Aside0.mk (HB.out.trans (hb1.mono HB.out.size)); have HO1 := Aside0.mk ho1; clear hb1 ho1 k0 k1 k2 k3 k4 k5))
  go_loopw [2, 14] (fun u v wr => ∃ k : Nat, k ≤ L.length ∧ u = .int .i64 (maxS (L.take k) 0) ∧ v = .int .i64 k ∧ Below w1.heap.size w1 wr) (fun _ v _ => L.length - (intOf v).toNat)
  case atStart => exact ⟨0, by omega, rfl, rfl, Below.refl _ _⟩
  case round =>
    obtain ⟨k, hk, rfl, rfl, hb⟩ := hrel
    have HBR := Aside0.mk hb
    by_cases hlt : k < L.length
    · obtain ⟨A', c', h1, _, hrl⟩ := Kd.R_reads (Kd.R_below HO1.out hb)
      cases h1
      obtain ⟨ad, A0, c0, A3, c3, e1, hs0, hs1, hs2, hs3, hm0, hr0, hm3, hr3⟩ := at_state hrl k hlt
      obtain ⟨r0, r1⟩ := maxS_range HG.out hl k hk
      obtain ⟨-, -, q0, q1, -⟩ := HG.out k hlt
      have HM : Aside0 (maxS (L.take (k + 1)) 0 = if maxS (L.take k) 0 < L[k].f1 then L[k].f1 else maxS (L.take k) 0) := ⟨by rw [List.take_succ_eq_append_getElem hlt, maxS_snoc]⟩
      obtain ⟨m, hm⟩ : ∃ m, m = maxS (L.take k) 0 := ⟨_, rfl⟩
      rw [← hm] at HM r0 r1 ⊢
      have hba : Below wr.heap.size wr (wr.alloc (.cells #[.slice A0 L[k].f0.length c0, .int .i64 L[k].f1, .int .i64 L[k].f2, .slice A3 L[k].f3.length c3] 43)) := (Below.refl _ _).alloc (Nat.le_refl _) _
      have HBA := Aside0.mk (hb.trans (hba.mono hb.size))
      have HE := Aside0.mk e1
      clear hb hba hm hr0 hr3 hrl
      rw [e1]
      clear e1
      go_wp2
      exact ⟨⟨k + 1, by omega, by rw [HM.out], by go_num, HBA.out⟩, by simp [intOf]; omega⟩
    · have hk' : k = L.length := by omega
      rw [hk', List.take_length]
      clear hb
      go_wp2
      go_ret2
      exact ⟨rfl, HB1.out.trans (HBR.out.mono HB1.out.size)⟩
end Go.Proofs.Ytdjhjgfjhicbfaa.PWalkTells
