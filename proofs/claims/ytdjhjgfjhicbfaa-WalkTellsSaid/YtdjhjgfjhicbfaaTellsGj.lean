/- A part of the proof of WalkTellsSaid: contracts of functions and plain lemmas; each holds under the hypotheses that it names. -/
import Derived.Test.YtdjhjgfjhicbfaaTellsGi
import Derived.StillTailTactics
import Derived.Deep.RegionHeld3
import Derived.Deep.RegionLaw
import Derived.Test.YtdjhjgfjhicbfaaTellsGh
namespace Go.Proofs.Ytdjhjgfjhicbfaa.PWalkTells
open Go.RowKit Go.Shelf Go.Proofs.YtdjhjgfjhicbfaaW.PrintWords Go.Proofs.YtdjhjgfjhicbfaaW.PrintLast Go.Proofs.YtdjhjgfjhicbfaaW.PrintMore
set_option linter.unusedVariables false
set_option linter.unusedSimpArgs false
def kRows : Kd (List Int) := Kd.slice 5 (Kd.int .u8)
theorem info_rows : (Try.prog.info? 27).map (fun i => (i.zero, i.size, i.bytes)) = some (some (.slice none 0 0), 1, 24) := by kernel_rfl
def chainS (L : List S43) : Nat → Nat → List (List Int) × Nat
  | 0, at_ => ([], at_)
  | k + 1, at_ => if 0 ≤ (L.getD at_ z43).f2 then ((L.getD at_ z43).f3 :: (chainS L k (L.getD at_ z43).f2.toNat).1, (chainS L k (L.getD at_ z43).f2.toNat).2) else ([], at_)
def leadFrames (L : List S43) (at_ : Nat) (last : List Int) : List (List Int) := (last :: (chainS L (at_ + 1) at_).1).reverse
def leadInit (L : List S43) (at_ : Nat) : List Int := (L.getD (chainS L (at_ + 1) at_).2 z43).f0
def Leads (L : List S43) : Prop := L.length ≤ 4096 ∧ ∀ j (h : j < L.length), L[j].f0.length ≤ 17592186044416 ∧ -1 ≤ L[j].f2 ∧ L[j].f2 < j ∧ (0 ≤ L[j].f2 → L[j].f3.length ≤ 17592186044416)
theorem chainS_enough {L : List S43} (hL : Leads L) : ∀ k at_, at_ < L.length → at_ < k → chainS L (k + 1) at_ = chainS L k at_ := by
  intro k
  induction k with
  | zero => intro at_ _ h; omega
  | succ k ih =>
    intro at_ h1 h2
    have hg : L.getD at_ z43 = L[at_] := by simp [List.getD_eq_getElem?_getD, h1]
    obtain ⟨_, g1, g2, _⟩ := hL.2 at_ h1
    rw [chainS, hg]
    conv => rhs; rw [chainS, hg]
    by_cases h : 0 ≤ L[at_].f2
    · rw [if_pos h, if_pos h, ih _ (by omega) (by omega)]
    · rw [if_neg h, if_neg h]
theorem chainS_more {L : List S43} (hL : Leads L) (at_ : Nat) (h1 : at_ < L.length) : ∀ k, at_ < k → chainS L k at_ = chainS L (at_ + 1) at_ := by
  intro k hk
  induction k with
  | zero => omega
  | succ k ih =>
    by_cases e : at_ = k
    · rw [e]
    · rw [chainS_enough hL k at_ h1 (by omega), ih (by omega)]
theorem rows_apart {W : World} {base : Nat} {v vl : Value} {l : List Int} {L : List (List Int)} (h : Kd.R (Kd.int .u8) 5 W base (fun _ => True) v l) (hL : Kd.R kRows 27 W base (fun _ => True) vl L) :
    Kd.R (Kd.int .u8) 5 W base (fun k => some k ≠ vl.ownBlock) v l := by
  refine Kd.R_mono (Kd.R_bound h) (fun k hk he => ?_)
  obtain ⟨_, _, _, q, hq, cells, hc⟩ := hk
  obtain ⟨cells', hc'⟩ := Kd.R_typed hL k he.symm
  rw [hc] at hc'
  have hq' : q = 5 := by simpa [Kd.int, Kd.scalar] using hq
  subst hq'
  injection hc' with hc'
  injection hc' with _ hc' _
  exact absurd hc' (by decide)
theorem R_one {W : World} {base : Nat} {v : Value} {l : List Int} (hb : base ≤ W.heap.size) (h : Kd.R (Kd.int .u8) 5 W base (fun _ => True) v l) :
    Kd.R kRows 27 (W.alloc (.cells #[v] 27)) base (fun _ => True) (.slice (some ⟨W.heap.size, 0, none⟩) 1 1) [l] := by
  refine ⟨fun _ _ => trivial, OwnRow.lit W base (inner := [v]) (ps := [l]) ?_ hb (by simp)⟩
  have h1 : Kd.R (Kd.int .u8) 5 (W.alloc (.cells #[v] 27)) base (fun k => True ∧ some k ≠ (Value.slice (some ⟨W.heap.size, 0, none⟩) 1 1).ownBlock) v l :=
    Kd.R_mono (Kd.R_alloc (Kd.R_bound h) _) (fun k hk => ⟨trivial, fun e => by
      have : k = W.heap.size := by simpa [Value.ownBlock] using e
      have := hk.2.2.1
      omega⟩)
  refine ⟨rfl, fun j p hp => ?_⟩
  have hj : j = 0 := by
    have := (List.getElem?_eq_some_iff.1 hp).1
    simp at this; exact this
  subst hj
  have hp' : l = p := by simpa using hp
  subst hp'
  exact Kd.M_row h1
structure LeadI (L : List S43) (W : World) (gT : Nat) (bad : Int) (last : List Int) (at0 a : Nat) (vf : Value) (fr : List (List Int)) (w : World) : Prop where
  t8 : w.heap[W.heap.size]? = some (.cells #[.int .i64 0, .slice none 0 0, .slice none 0 0] 30 (0, 0))
  t9 : w.heap[gT]? = some (.cells #[.int .i64 bad, .slice none 0 0, vf] 30 (0, 0))
  f : Kd.R kRows 27 w W.heap.size (fun _ => True) vf fr
  ha : a < L.length
  tot : fr ++ (chainS L (a + 1) a).1 = last :: (chainS L (at0 + 1) at0).1
  fin : (chainS L (a + 1) a).2 = (chainS L (at0 + 1) at0).2
  len : fr.length + a ≤ L.length + 1
  b : Below W.heap.size W w
  g : W.heap.size < gT
theorem lead_start {L : List S43} {W w1 : World} {bad : Int} {last : List Int} {at_ : Nat} {A1 : Option Addr} {c1 : Nat} (hat : at_ < L.length) (hb : Below W.heap.size W w1) (hs : W.heap.size < w1.heap.size)
    (h8 : w1.heap[W.heap.size]? = some (.cells #[.int .i64 0, .slice none 0 0, .slice none 0 0] 30 (0, 0))) (ho : Kd.R (Kd.int .u8) 5 w1 W.heap.size (fun _ => True) (.slice A1 last.length c1) last) :
    LeadI L W (w1.heap.size + 1) bad last at_ at_ (.slice (some ⟨w1.heap.size, 0, none⟩) 1 1) [last] ((w1.alloc (.cells #[.slice A1 last.length c1] 27)).alloc (.cells #[.int .i64 bad, .slice none 0 0, .slice (some ⟨w1.heap.size, 0, none⟩) 1 1] 30)) := by
  have hb1 : Below w1.heap.size w1 (w1.alloc (.cells #[.slice A1 last.length c1] 27)) := (Below.refl _ _).alloc (Nat.le_refl _) _
  have hb2 := hb1.alloc hb1.size (.cells #[.int .i64 bad, .slice none 0 0, .slice (some ⟨w1.heap.size, 0, none⟩) 1 1] 30)
  have hq : (w1.alloc (.cells #[.slice A1 last.length c1] 27)).heap.size = w1.heap.size + 1 := by simp
  refine ⟨blk_below h8 hb2, by rw [← hq]; exact heap_alloc_at _ _, Kd.R_alloc (R_one hb.size ho) _, hat, rfl, rfl, by simp; omega, hb.trans (hb2.mono hb.size), by omega⟩
theorem lead_step {L : List S43} (hL : Leads L) {W wr w2 w9 : World} {gT : Nat} {bad : Int} {last : List Int} {at0 a : Nat} {vf v9 : Value} {fr : List (List Int)} (h : LeadI L W gT bad last at0 a vf fr wr) (hn : 0 ≤ (L.getD a z43).f2) (hb : Below wr.heap.size wr w2)
    (h9 : w9.heap[gT]? = some (.cells #[.int .i64 bad, .slice none 0 0, vf] 30 (0, 0))) (hk : KeepT [27] w2 w9) (ho : Kd.R kRows 27 w9 W.heap.size (fun _ => True) v9 (fr ++ [(L.getD a z43).f3])) (hb9 : Below W.heap.size W w9) :
    LeadI L W gT bad last at0 (L.getD a z43).f2.toNat v9 (fr ++ [(L.getD a z43).f3]) (w9.setCell ⟨gT, 2, none⟩ v9) := by
  obtain ⟨_, g1, g2, _⟩ := hL.2 a h.ha
  have hg : L.getD a z43 = L[a]'h.ha := by simp [List.getD_eq_getElem?_getD, h.ha]
  rw [hg] at hn ⊢
  have hlt : (L[a]'h.ha).f2.toNat < a := by omega
  have ha := h.ha
  have hc : chainS L (a + 1) a = ((L[a]'h.ha).f3 :: (chainS L ((L[a]'h.ha).f2.toNat + 1) (L[a]'h.ha).f2.toNat).1, (chainS L ((L[a]'h.ha).f2.toNat + 1) (L[a]'h.ha).f2.toNat).2) := by
    rw [chainS, hg, if_pos hn, chainS_more hL _ (by omega) a hlt]
  have ht := h.tot
  have hf := h.fin
  rw [hc] at ht hf
  have h8 : w9.heap[W.heap.size]? = some (.cells #[.int .i64 0, .slice none 0 0, .slice none 0 0] 30 (0, 0)) := hk _ _ _ (blk_below h.t8 hb) (by decide)
  have hne : W.heap.size ≠ gT := by have := h.g; omega
  rw [hg] at ho
  refine ⟨(Below.heap_setCell w9 ⟨gT, 2, none⟩ v9 W.heap.size hne).trans h8, blk_put h9 2 v9 rfl, Kd.R_set ho h9 (by intro q hq; have : q ∈ [27, 5] := hq; simp at this; rcases this with rfl | rfl <;> decide) 2 v9, by omega, by rw [List.append_assoc]; exact ht, hf, by have := h.len; simp; omega, hb9.setCell (p := ⟨gT, 2, none⟩) (Nat.le_of_lt h.g) _, h.g⟩
theorem trace_put {W : World} {g : Nat} {a b c : Value} (h : W.heap[g]? = some (.cells #[a, b, c] 30 (0, 0))) (x y z : Value) :
    (((W.setCell ⟨g, 0, none⟩ x).setCell ⟨g, 1, none⟩ y).setCell ⟨g, 2, none⟩ z).heap[g]? = some (.cells #[x, y, z] 30 (0, 0)) :=
  blk_put (blk_put (blk_put h 0 x rfl) 1 y rfl) 2 z rfl
theorem trace_keep {W : World} {g : Nat} {a b c : Value} (h : W.heap[g]? = some (.cells #[a, b, c] 30 (0, 0))) (x y z : Value) : KeepT [30] W (((W.setCell ⟨g, 0, none⟩ x).setCell ⟨g, 1, none⟩ y).setCell ⟨g, 2, none⟩ z) :=
  ((KeepT.set h (by decide) 0 x).trans (KeepT.set (blk_put h 0 x rfl) (by decide) 1 y)).trans (KeepT.set (blk_put (blk_put h 0 x rfl) 1 y rfl) (by decide) 2 z)
theorem rv_trace {W : World} {g : Nat} {cs : Array Value} (h : W.heap[g]? = some (.cells cs 30 (0, 0))) (hs : cs.size = 3) : (loadVar 30 ⟨g, 0, none⟩).run Try.prog W = .ok (.agg cs) W :=
  run_loadVar_row W g _ _ cs (0, 0) _ h Try.underlying30 rfl (by rw [hs]; kernel_rfl)
set_option maxHeartbeats 4000000 in
set_option maxRecDepth 100000 in
theorem lead_calls (L : List S43) (at_ : Nat) (bad : Int) (A : Option Addr) (c : Nat) (Al : Option Addr) (cl : Nat) (last : List Int) (W : World) (hL : Leads L) (hat : at_ < L.length) (hlast : last.length ≤ 17592186044416)
    (hr : Kd.C k43 W A L.length L) (hrl : Kd.C (Kd.int .u8) W Al last.length last) :
    Calls Try.prog 45 #[.slice A L.length c, .int .i64 at_, .int .i64 bad, .slice Al last.length cl] W fun e w' => ∃ vi vf, e = .returned (.agg #[.int .i64 bad, vi, vf]) ∧
      Kd.R (Kd.int .u8) 5 w' W.heap.size (fun _ => True) vi (leadInit L at_) ∧ Kd.R kRows 27 w' W.heap.size (fun _ => True) vf (leadFrames L at_ last) ∧ Below W.heap.size W w' := by
  have HL := Aside0.mk hL
  have hba : Below W.heap.size W (W.alloc (.cells #[.int .i64 0, .slice none 0 0, .slice none 0 0] 30)) := (Below.refl _ _).alloc (Nat.le_refl _) _
  have HBA := Aside0.mk hba
  have HR := Aside0.mk hr
  have HC1 := Aside0.mk (clone_calls Al cl last _ (Kd.C_below hrl hba) hlast)
  have HA0 : Aside0 ((W.alloc (.cells #[.int .i64 0, .slice none 0 0, .slice none 0 0] 30)).heap[W.heap.size]? = some (.cells #[.int .i64 0, .slice none 0 0, .slice none 0 0] 30 (0, 0))) := ⟨heap_alloc_at _ _⟩
  clear hba hr hrl
  go_enter Try.func45, Try.ntmps45
  go_wp2_with (go_at_call 61; go_must (refine HC1.out.mono ?_; rintro e w1 ⟨v1, rfl, ho1, hb1⟩; obtain ⟨A1, c1, rfl⟩ := Kd.R_slice ho1; have HO1 := Aside0.mk (Kd.R_lower ho1 HBA.out.size); have HB1 := Aside0.mk (HBA.out.trans (hb1.mono HBA.out.size)); have HT1 := Aside0.mk (blk_below HA0.out hb1); clear ho1 hb1))
  have HS1 : W.heap.size < w1.heap.size := blk_lt HT1.out
  have HI0 := Aside0.mk (lead_start (bad := bad) hat HB1.out HS1 HT1.out HO1.out)
  have hLn : L.length ≤ 4096 := hL.1
  go_loopw [1] (fun v wr => ∃ a : Nat, v = .int .i64 a ∧ ∃ vf fr, Aside0 (LeadI L W (w1.heap.size + 1) bad last at_ a vf fr wr)) (fun v _ => (intOf v).toNat)
  case atStart => exact ⟨at_, rfl, _, _, HI0⟩
  case round =>
    clear HI0
    obtain ⟨a, rfl, vf, fr, HI⟩ := hrel
    have ha := HI.out.ha
    obtain ⟨Af, cf, ef⟩ := Kd.R_slice HI.out.f
    subst ef
    have hrl := Kd.C_below HR.out HI.out.b
    obtain ⟨ad, A0, c0, A3, c3, e1, hs0, hs1, hs2, hs3, hm0, hr0, hm3, hr3⟩ := at_state hrl a ha
    obtain ⟨g0, g1, g2, g3⟩ := hL.2 a ha
    have hgD : L.getD a z43 = L[a] := by simp [List.getD_eq_getElem?_getD, ha]
    have HAD := Aside0.mk hgD
    have ha2 : a ≤ 9223372036854775807 := by omega
    have hc9 := cell_blk HI.out.t9 2 _ rfl
    have hf9 := blk_frozen HI.out.t9 2
    clear hgD hrl
    subst e1
    by_cases hlt : 0 ≤ L[a].f2
    · have HCL := Aside0.mk (clone_calls A3 c3 L[a].f3 wr.drew (Kd.C_below hr3 ((Below.refl _ _).drew)) (g3 hlt))
      have hfl : (fr.length + 1) * 24 ≤ 140737488355328 := by have := HI.out.len; omega
      clear hr0 hr3 g3
      go_wp2_with fail
      go_region_law (first
        | (refine Kd.R_append_step (W := w2) kRows (w0 := W) W.heap.size rfl (.tmp 27) (.tmp 34) 28 27 (.slice none 0 0) 24 rfl Try.underlying28 info_rows rfl (by decide) (by omega) (.slice Af fr.length cf) fr L[a].f3 [.slice A2 L[a].f3.length c2] (fun _ => True) (fun k => some k ≠ (Value.slice Af fr.length cf).ownBlock) rfl (by first | rfl | (show Value.slice (some ⟨_, 0, none⟩) 1 1 = _; simp)) (Kd.M_row (rows_apart HO2.out HF2.out)) (fun _ hk => ⟨trivial, hk⟩) (fun _ _ => trivial) HF2.out HB2.out HB2.out.size hfl ?_
           intro v9 w9 ho hb9 hg9 hat9
           obtain ⟨A9, c9, e9⟩ := Kd.R_slice ho
           rw [List.length_append, List.length_singleton] at e9
           subst e9
           have hv9 := blk_grown HT2.out hg9 (Kd.R_ne HF2.out HT2.out (by decide))
           have HV9 := Aside0.mk hv9
           have hcl9 := cell_blk hv9 2 _ rfl
           have hfl9 := blk_frozen hv9 2
           have HK9 := Aside0.mk (KeepT.grown (ts := [27]) HF2.out (by decide) hg9)
           have HO9 := Aside0.mk ho
           have HB9 := Aside0.mk hb9
           clear ho hb9 hg9 hat9 hv9)
        | (go_simp
           go_at_call 61
           refine HCL.out.mono ?_
           rintro e w2 ⟨v2, rfl, ho2, hb2⟩
           obtain ⟨A2, c2, e2⟩ := Kd.R_slice ho2
           subst e2
           have hbw : Below wr.heap.size wr w2 := ((Below.refl wr.heap.size wr).drew).trans hb2
           have HBW := Aside0.mk hbw
           have HO2 := Aside0.mk (Kd.R_lower ho2 HI.out.b.size)
           have HF2 := Aside0.mk (Kd.R_below HI.out.f hbw)
           have HT2 := Aside0.mk (blk_below HI.out.t9 hbw)
           have HB2 := Aside0.mk (HI.out.b.trans (hbw.mono HI.out.b.size))
           have hc92 := cell_blk HT2.out 2 _ rfl
           have hc9A : ∀ o, (w2.alloc o).cell? ⟨w1.heap.size + 1, 2, none⟩ = some (.slice Af fr.length cf) := fun o => (((Below.refl w2.heap.size w2).alloc (Nat.le_refl _) o).cell (World.block_lt_of_cell? w2 _ hc92)).trans hc92
           clear ho2 hb2 hbw))
      all_goals
        have hls := lead_step hL HI.out (by rw [HAD.out]; exact hlt) HBW.out HV9.out HK9.out (by rw [HAD.out]; exact HO9.out) HB9.out
        rw [HAD.out] at hls
        obtain ⟨ad', _, _, _, _, e1', _, _, hs2', _⟩ := at_state (Kd.C_below HR.out hls.b) a ha
        cases e1'
        have HLS := Aside0.mk hls
        clear hls
        go_wp2
        exact ⟨⟨L[a].f2.toNat, by congr 1; omega, _, _, HLS⟩, by simp [intOf]; omega⟩
    · have HRV := Aside0.mk (reverse_calls _ fr wr W.heap.size HI.out.f)
      have HEND : Aside0 (fr.reverse = leadFrames L at_ last ∧ L[a].f0 = leadInit L at_) := ⟨by
        have h1 := HI.out.tot
        have h2 := HI.out.fin
        rw [chainS, HAD.out, if_neg hlt] at h1 h2
        unfold leadFrames leadInit
        simp only [List.append_nil] at h1 h2
        rw [h1, ← h2, HAD.out]
        exact ⟨rfl, rfl⟩⟩
      clear hr0 hr3 g3
      go_wp2_with (first
        | (go_at_call 62; go_must (refine HRV.out.mono ?_; rintro e w2 ⟨rfl, ho2, hb2, hk2⟩; have HF2 := Aside0.mk ho2; have HT9 := Aside0.mk (hk2 _ _ _ HI.out.t9 (by decide)); have HT8 := Aside0.mk (hk2 _ _ _ HI.out.t8 (by decide)); have HB2 := Aside0.mk (HI.out.b.trans hb2); clear ho2 hb2 hk2; obtain ⟨ad2, B0, d0, _, _, e2', ks0, _, _, _, km0, kr0, _, _⟩ := at_state (Kd.C_below HR.out HB2.out) a ha; cases e2'; have HCL2 := Aside0.mk (clone_calls B0 d0 L[a].f0 w2 kr0 g0); clear kr0))
        | (go_at_call 61; go_must (refine HCL2.out.mono ?_; rintro e w3 ⟨v3, rfl, ho3, hb3⟩; obtain ⟨A3', c3', e3'⟩ := Kd.R_slice ho3; subst e3'; have HO3 := Aside0.mk (Kd.R_lower ho3 HB2.out.size); have HF3 := Aside0.mk (Kd.R_below HF2.out hb3); have HB3 := Aside0.mk (HB2.out.trans (hb3.mono HB2.out.size)); have HT93 := Aside0.mk (blk_below HT9.out hb3); have HT83 := Aside0.mk (blk_below HT8.out hb3); have n0 := cell_blk HT93.out 0 _ rfl; have n1 := cell_blk HT93.out 1 _ rfl; have n2 := cell_blk HT93.out 2 _ rfl; have n3 := blk_frozen HT93.out 1; have m0 := cell_blk HT83.out 0 _ rfl; have m1 := cell_blk HT83.out 1 _ rfl; have m2 := cell_blk HT83.out 2 _ rfl; have m3 := blk_frozen HT83.out 0; have m4 := blk_frozen HT83.out 1; have m5 := blk_frozen HT83.out 2; have hne9 : w1.heap.size + 1 ≠ W.heap.size := (by omega); have hne8 : W.heap.size ≠ w1.heap.size + 1 := (by omega); clear ho3 hb3)))
      have hk1 := KeepT.set (ts := [30]) HT93.out (by decide) 1 (.slice A3' L[a].f0.length c3')
      have h8 : (w3.setCell ⟨w1.heap.size + 1, 1, none⟩ (.slice A3' L[a].f0.length c3')).heap[W.heap.size]? = some (.cells #[.int .i64 0, .slice none 0 0, .slice none 0 0] 30 (0, 0)) := (Below.heap_setCell w3 ⟨w1.heap.size + 1, 1, none⟩ _ W.heap.size (by omega)).trans HT83.out
      have hk := hk1.trans (trace_keep h8 (.int .i64 bad) (.slice A3' L[a].f0.length c3') (.slice Af fr.length cf))
      have hend := trace_put h8 (.int .i64 bad) (.slice A3' L[a].f0.length c3') (.slice Af fr.length cf)
      have hle : W.heap.size ≤ w1.heap.size + 1 := by omega
      have hbe := (((HB3.out.setCell (p := ⟨w1.heap.size + 1, 1, none⟩) hle (.slice A3' L[a].f0.length c3')).setCell (p := ⟨W.heap.size, 0, none⟩) (Nat.le_refl _) (.int .i64 bad)).setCell (p := ⟨W.heap.size, 1, none⟩) (Nat.le_refl _) (.slice A3' L[a].f0.length c3')).setCell (p := ⟨W.heap.size, 2, none⟩) (Nat.le_refl _) (.slice Af fr.length cf)
      refine bodyPost_ret (v := .agg #[.int .i64 bad, .slice A3' L[a].f0.length c3', .slice Af fr.length cf]) (results_c (fn := Try.f45) rfl (a := ⟨W.heap.size, 0, none⟩) rfl (rv_trace hend rfl)) rfl ?_
      rw [← HEND.out.1, ← HEND.out.2]
      exact ⟨_, _, rfl, R_keepT HO3.out (by intro q hq; have : q ∈ [5] := hq; simp at this; subst this; decide) hk, R_keepT HF3.out (by intro q hq; have : q ∈ [27, 5] := hq; simp at this; rcases this with rfl | rfl <;> decide) hk, hbe⟩
end Go.Proofs.Ytdjhjgfjhicbfaa.PWalkTells
namespace Go.Proofs.Ytdjhjgfjhicbfaa.PWalkTells
open Go.RowKit Go.Shelf Go.Maps Go.Proofs.YtdjhjgfjhicbfaaW.PrintWords Go.Proofs.YtdjhjgfjhicbfaaW.PrintLast Go.Proofs.YtdjhjgfjhicbfaaW.PrintMore
set_option linter.unusedVariables false
set_option linter.unusedSimpArgs false
structure TrS where
  bad : Int
  init : List Int
  frames : List (List Int)
def TrS.zero : TrS := ⟨0, [], []⟩
def TrS.Is (t : TrS) (base : Nat) (vi vf : Value) (W : World) : Prop := Kd.R (Kd.int .u8) 5 W base (fun _ => True) vi t.init ∧ Kd.R kRows 27 W base (fun _ => True) vf t.frames
theorem TrS.Is.keep {t : TrS} {base : Nat} {vi vf : Value} {W W' : World} {ts : List Nat} (h : t.Is base vi vf W) (h1 : 5 ∉ ts) (h2 : 27 ∉ ts) (hk : KeepT ts W W') : t.Is base vi vf W' :=
  ⟨R_keepT h.1 (by intro q hq; have : q ∈ [5] := hq; simp at this; subst this; exact h1) hk, R_keepT h.2 (by intro q hq; have : q ∈ [27, 5] := hq; simp at this; rcases this with rfl | rfl; exact h2; exact h1) hk⟩
theorem TrS.Is.zero (base : Nat) (W : World) : TrS.zero.Is base (.slice none 0 0) (.slice none 0 0) W := ⟨Kd.R_nil _ _ _ _ _, Kd.R_nil _ _ _ _ _⟩
def CP.hitS (x : CP) (L : List S43) (i : Int) (at_ : Nat) (by_ : List Int) : Bool :=
  let V := x.frameS (L.getD at_ z43).f0 by_
  x.heldS V && decide (valS V (rd x.l4 i) = 1)
def hitT (L : List S43) (i : Int) (at_ : Nat) (by_ : List Int) : TrS × Bool × Int := if (L.getD at_ z43).f1 < 256 then (⟨i, leadInit L at_, leadFrames L at_ by_⟩, true, 0) else (TrS.zero, false, 3)
structure BInv (x : CP) (w : World) (gc gs gi gf gl ga gt ge : Nat) (vl : Value) (L : List S43) (i : Int) (at_ : Nat) (W : World) : Prop where
  c : x.At W gc
  s : ∃ A0 c0 A3 c3, W.heap[gs]? = some (.cells #[.slice A0 (L.getD at_ z43).f0.length c0, .int .i64 (L.getD at_ z43).f1, .int .i64 (L.getD at_ z43).f2, .slice A3 (L.getD at_ z43).f3.length c3] 43 (0, 0)) ∧ Kd.C (Kd.int .u8) W A0 (L.getD at_ z43).f0.length (L.getD at_ z43).f0 ∧ (L.getD at_ z43).f0.length ≤ c0
  i : W.heap[gi]? = some (.cells #[.int .i64 i] 3 (0, 0))
  f : W.heap[gf]? = some (.cells #[.bool false] 4 (0, 0))
  l : W.heap[gl]? = some (.cells #[vl] 34 (0, 0)) ∧ Kd.R k43 43 W w.heap.size (fun _ => True) vl L
  a : W.heap[ga]? = some (.cells #[.int .i64 at_] 3 (0, 0))
  t : W.heap[gt]? = some (.cells #[.int .i64 0, .slice none 0 0, .slice none 0 0] 30 (0, 0))
  e : W.heap[ge]? = some (.cells #[.int .i64 0] 35 (0, 0))
  b : Below w.heap.size w W
  gf : w.heap.size ≤ gf
  gt : w.heap.size ≤ gt
  ge : w.heap.size ≤ ge
theorem BInv.below {x : CP} {w : World} {gc gs gi gf gl ga gt ge : Nat} {vl : Value} {L : List S43} {i : Int} {at_ : Nat} {W W' : World} (h : BInv x w gc gs gi gf gl ga gt ge vl L i at_ W) (hb : Below W.heap.size W W') : BInv x w gc gs gi gf gl ga gt ge vl L i at_ W' := by
  obtain ⟨A0, c0, A3, c3, h1, h2, h3⟩ := h.s
  exact ⟨h.c.below hb, ⟨A0, c0, A3, c3, blk_below h1 hb, Kd.C_below h2 hb, h3⟩, blk_below h.i hb, blk_below h.f hb, ⟨blk_below h.l.1 hb, Kd.R_below h.l.2 hb⟩, blk_below h.a hb, blk_below h.t hb, blk_below h.e hb, h.b.trans (hb.mono h.b.size), h.gf, h.gt, h.ge⟩
structure BOut (w : World) (gf gt ge : Nat) (r : TrS × Bool × Int) (W : World) : Prop where
  f : W.heap[gf]? = some (.cells #[.bool r.2.1] 4 (0, 0))
  t : ∃ vi vf, W.heap[gt]? = some (.cells #[.int .i64 r.1.bad, vi, vf] 30 (0, 0)) ∧ r.1.Is w.heap.size vi vf W
  e : W.heap[ge]? = some (.cells #[.int .i64 r.2.2] 35 (0, 0))
  b : Below w.heap.size w W
theorem leads_of {x : CP} {L : List S43} (hg : x.Good L) (hl : L.length ≤ 4096) (h1 : x.l1.length ≤ 17592186044416) (h2 : x.a0 ≤ 16384) : Leads L := by
  refine ⟨hl, fun j hj => ?_⟩
  obtain ⟨a, _, _, _, b, c, d⟩ := hg j hj
  refine ⟨by omega, b, c, fun h => ?_⟩
  have := (d (by omega)).1
  omega
def BadPost (x : CP) (w : World) (gc gs gi gf gl ga gt ge : Nat) (vl : Value) (L : List S43) (i : Int) (at_ : Nat) (by_ : List Int) (e : Ending) (w' : World) : Prop :=
  ∃ b, e = .returned (.bool b) ∧ (b = true → x.hitS L i at_ by_ = false ∧ BInv x w gc gs gi gf gl ga gt ge vl L i at_ w') ∧ (b = false → x.hitS L i at_ by_ = true ∧ BOut w gf gt ge (hitT L i at_ by_) w')
set_option maxHeartbeats 4000000 in
set_option maxRecDepth 100000 in
theorem badOne_calls (x : CP) (w : World) (ok : x.Ok w) (fit : x.Fit) (hmay : x.may = true) (gc gs gi gf gl ga gt ge : Nat) (vl : Value) (L : List S43) (i : Int) (at_ : Nat) (A : Option Addr) (c : Nat) (by_ : List Int) (W : World)
    (hI : BInv x w gc gs gi gf gl ga gt ge vl L i at_ W) (hat : at_ < L.length) (hg : x.Good L) (hlen : L.length ≤ 4096) (hi0 : 0 ≤ i) (hi1 : i < (x.l4.length : Int)) (hby : (by_.length : Int) = x.a0) (hby2 : ∀ v ∈ by_, v = 0 ∨ v = 1)
    (hr : Kd.R (Kd.int .u8) 5 W w.heap.size (fun _ => True) (.slice A by_.length c) by_) :
    Calls Try.prog 49 #[.slice A by_.length c, .pointer (some ⟨gc, 0, none⟩), .pointer (some ⟨gs, 0, none⟩), .pointer (some ⟨gi, 0, none⟩), .pointer (some ⟨gf, 0, none⟩), .pointer (some ⟨gl, 0, none⟩), .pointer (some ⟨ga, 0, none⟩), .pointer (some ⟨gt, 0, none⟩), .pointer (some ⟨ge, 0, none⟩)] W fun e w' =>
      BadPost x w gc gs gi gf gl ga gt ge vl L i at_ by_ e w' := by
  obtain ⟨A0, c0, A3, c3, hs1, hr0, hm0⟩ := hI.s
  obtain ⟨f0, f1, _⟩ := hg at_ hat
  have hgetD : L.getD at_ z43 = L[at_] := by simp [List.getD_eq_getElem?_getD, hat]
  obtain ⟨Ab, cb, h1, hmb, hrb⟩ := Kd.R_reads hr
  cases h1
  have hx0 : x.a0 ≤ 16384 := by
    have := hmay
    unfold CP.may at this
    split at this
    · cases this
    · omega
  have hn1 := fit.n1
  have HLD := Aside0.mk (leads_of hg hlen (by omega) hx0)
  obtain ⟨sv, hsv⟩ : ∃ sv, sv = L.getD at_ z43 := ⟨_, rfl⟩
  rw [← hgetD] at f0 f1
  have HSV := Aside0.mk hsv
  rw [← hsv] at hs1 hr0 hm0 f0 f1
  have hB1 : Bytes sv.f0 := fun v hv => by have := f1 v hv; omega
  have hB2 : Bytes by_ := fun v hv => by have := hby2 v hv; omega
  have hval1 : valuesS sv.f0 (x.l1.length : Int) = true := by
    unfold valuesS
    rw [f0]
    simp only [beq_self_eq_true, Bool.true_and, Bool.not_eq_true', List.any_eq_false, decide_eq_true_eq]
    intro v hv; have := f1 v hv; omega
  have hval2 : valuesS by_ x.a0 = true := by
    unfold valuesS
    rw [hby]
    simp only [beq_self_eq_true, Bool.true_and, Bool.not_eq_true', List.any_eq_false, decide_eq_true_eq]
    intro v hv; have := hby2 v hv; omega
  have HFULL := Aside0.mk (full_calls x A0 A c0 c sv.f0 by_ W (ok.below hI.b) fit hmay hval1 hval2 hr0 hm0 hB1 (by omega) hrb hmb hB2 (by omega))
  have HI := Aside0.mk hI
  have HR := Aside0.mk hr
  have HH : Aside0 (x.hitS L i at_ by_ = (x.heldS (x.frameS sv.f0 by_) && decide (valS (x.frameS sv.f0 by_) (rd x.l4 i) = 1))) := ⟨by unfold CP.hitS; rw [hsv]⟩
  have HT : Aside0 (hitT L i at_ by_ = if sv.f1 < 256 then (⟨i, leadInit L at_, leadFrames L at_ by_⟩, true, 0) else (TrS.zero, false, 3)) := ⟨by unfold hitT; rw [hsv]⟩
  have ks0 := cell_blk hs1 0 _ rfl
  obtain ⟨_, k0, k1, k2, k3, k4, k5⟩ := hI.c
  have hby3 : by_.length ≤ 17592186044416 := by omega
  clear f0 f1 hby hby2 hmay hgetD hval1 hval2 hI hr0 hrb hr hs1 hsv
  go_enter Try.func49, Try.ntmps49
  go_wp2_with (go_at_call 50; go_must (refine HFULL.out.mono ?_; rintro e w1 ⟨v1, u1, rfl, ho1, ho2, hb1⟩; obtain ⟨Av, cv, ev⟩ := Kd.R_slice ho1; subst ev; obtain ⟨Au, cu, eu⟩ := Kd.R_slice ho2; subst eu; have HV1 := Aside0.mk ho1; have HI1 := Aside0.mk (HI.out.below hb1); have HR1 := Aside0.mk (Kd.R_below HR.out hb1); clear ho1 ho2 hb1 k0 k1 k2 k3 k4 k5 ks0; obtain ⟨_, k0, k1, k2, k3, k4, k5⟩ := HI1.out.c))
  obtain ⟨V, hV⟩ : ∃ V, V = x.frameS sv.f0 by_ := ⟨_, rfl⟩
  rw [← hV] at HV1 HH
  have HVB : Aside0 (Bytes V) := ⟨by rw [hV]; exact frameS_bytes x _ _ hB1 hB2⟩
  have HHELD := Aside0.mk (held_calls x Av cv V w1 (ok.below HI1.out.b) fit (by obtain ⟨A', c', h1, _, h⟩ := Kd.R_reads HV1.out; cases h1; exact h) HVB.out)
  rw [← hV]
  clear hV hB1 hB2
  cases hh : x.heldS V
  · rw [hh] at HHELD HH
    clear hh
    go_wp2_with (go_at_call 51; go_must (refine HHELD.out.mono ?_; rintro e w2 ⟨rfl, hb2⟩; have HB2 := Aside0.mk hb2; clear hb2))
    go_ret
    exact ⟨true, rfl, (fun _ => ⟨by rw [HH.out]; rfl, HI1.out.below HB2.out⟩), (fun h => by cases h)⟩
  · rw [hh] at HHELD HH
    clear hh
    obtain ⟨ad4, e4, hc4⟩ := Kd.at_int (ok.below HI1.out.b).r4 i hi0 hi1
    obtain ⟨lit, hlit⟩ : ∃ lit, lit = rd x.l4 i := ⟨_, rfl⟩
    have hlr : 0 ≤ lit ∧ lit ≤ 4294967295 := by
      have h := fit.g4 (x.l4[i.toNat]'(by omega)) (List.getElem_mem _)
      have : lit = x.l4[i.toNat]'(by omega) := by rw [hlit]; simp [rd, List.getD_eq_getElem?_getD, show i.toNat < x.l4.length by omega]
      rw [this]; exact h
    rw [← hlit] at hc4 HH
    have HLR := Aside0.mk hlr
    have HC4 := Aside0.mk hc4
    have HE4 := Aside0.mk e4
    have hn4 := ok.r4.2.1
    clear hlit hlr hc4 e4
    by_cases hv : valS V lit = 1
    · have HH2 : Aside0 (x.hitS L i at_ by_ = true) := ⟨by rw [HH.out, hv]; rfl⟩
      by_cases hd : sv.f1 < 256
      · have HT2 : Aside0 (hitT L i at_ by_ = (⟨i, leadInit L at_, leadFrames L at_ by_⟩, true, 0)) := ⟨by rw [HT.out, if_pos hd]⟩
        go_wp2_with (first
          | (go_at_call 51; go_must (refine HHELD.out.mono ?_; rintro e w2 ⟨rfl, hb2⟩; have HI2 := Aside0.mk (HI1.out.below hb2); have HR2 := Aside0.mk (Kd.R_below HR1.out hb2); have HV2 := Aside0.mk (Kd.R_below HV1.out hb2); clear k0 k1 k2 k3 k4 k5; obtain ⟨_, k0, k1, k2, k3, k4, k5⟩ := HI2.out.c; have ki := cell_blk HI2.out.i 0 _ rfl; have kf := cell_blk HI2.out.f 0 _ rfl; have kff := blk_frozen HI2.out.f 0; have hc42 := (hb2.cell (World.block_lt_of_cell? w1 _ HC4.out)).trans HC4.out; rw [HE4.out] at k4; have HVAL := Aside0.mk (value_calls Av cv V lit w2 (by obtain ⟨A', c', h1, _, h⟩ := Kd.R_reads HV2.out; cases h1; exact h) HVB.out HLR.out.1 HLR.out.2); rw [hv] at HVAL; obtain ⟨B0, d0, B3, d3, ht1, _, _⟩ := HI2.out.s; rw [← HSV.out] at ht1; have HT1 := Aside0.mk ht1; have kd := cell_blk ht1 1 _ rfl; clear hb2 ht1))
          | (go_at_call 52; go_must (refine HVAL.out.mono ?_; rintro e w3 ⟨rfl, rfl⟩; have HK3 : Aside0 (KeepT [4] w2 (w2.setCell ⟨gf, 0, none⟩ (.bool true))) := ⟨KeepT.set HI2.out.f (by decide) 0 _⟩; obtain ⟨hl1, hl2⟩ := HI2.out.l; obtain ⟨Al, cl, el⟩ := Kd.R_slice hl2; subst el; have HL3 := Aside0.mk (R_keepT (ts := [4]) hl2 (by intro q hq; have : q ∈ [43, 5, 5] := hq; simp at this; rcases this with rfl | rfl <;> decide) HK3.out); have HR3 := Aside0.mk (R_keepT (ts := [4]) HR2.out (by intro q hq; have : q ∈ [5] := hq; simp at this; subst this; decide) HK3.out); have kl3 := cell_blk (HK3.out _ _ _ hl1 (by decide)) 0 _ rfl; have ka3 := cell_blk (HK3.out _ _ _ HI2.out.a (by decide)) 0 _ rfl; have ki3 := cell_blk (HK3.out _ _ _ HI2.out.i (by decide)) 0 _ rfl; have HF3 := Aside0.mk (blk_put HI2.out.f 0 (.bool true) rfl); have HT3 := Aside0.mk (HK3.out _ _ _ HI2.out.t (by decide)); have HE3 := Aside0.mk (HK3.out _ _ _ HI2.out.e (by decide)); have HB3 := Aside0.mk (HI2.out.b.setCell (p := ⟨gf, 0, none⟩) HI2.out.gf (.bool true)); have HLEAD := Aside0.mk (lead_calls L at_ i Al cl A c by_ _ HLD.out hat hby3 (by obtain ⟨A', c', h1, _, h⟩ := Kd.R_reads HL3.out; cases h1; exact h) (by obtain ⟨A', c', h1, _, h⟩ := Kd.R_reads HR3.out; cases h1; exact h)); clear hl1 hl2))
          | (go_at_call 45; go_must (refine HLEAD.out.mono ?_; rintro e w4 ⟨vi, vf, rfl, hi4, hf4, hb4⟩; obtain ⟨Ai, ci, ei⟩ := Kd.R_slice hi4; subst ei; obtain ⟨Af, cf, ef⟩ := Kd.R_slice hf4; subst ef; have HI4 := Aside0.mk (Kd.R_lower hi4 HB3.out.size); have HF4 := Aside0.mk (Kd.R_lower hf4 HB3.out.size); have HB4 := Aside0.mk (HB3.out.trans (hb4.mono HB3.out.size)); have HG4 := Aside0.mk (blk_below HF3.out hb4); have HT4 := Aside0.mk (blk_below HT3.out hb4); have HE4' := Aside0.mk (blk_below HE3.out hb4); have m0 := cell_blk HT4.out 0 _ rfl; have m1 := cell_blk HT4.out 1 _ rfl; have m2 := cell_blk HT4.out 2 _ rfl; have m3 := blk_frozen HT4.out 0; have m4 := blk_frozen HT4.out 1; have m5 := blk_frozen HT4.out 2; clear hi4 hf4 hb4)))
        go_ret
        refine ⟨false, rfl, (fun h => by cases h), fun _ => ⟨HH2.out, ?_⟩⟩
        rw [HT2.out]
        have hk := trace_keep HT4.out (.int .i64 i) (.slice Ai (leadInit L at_).length ci) (.slice Af (leadFrames L at_ by_).length cf)
        have hgt := HI1.out.gt
        exact ⟨hk _ _ _ HG4.out (by decide), ⟨_, _, trace_put HT4.out _ _ _, TrS.Is.keep (t := ⟨i, leadInit L at_, leadFrames L at_ by_⟩) ⟨HI4.out, HF4.out⟩ (by decide) (by decide) hk⟩, hk _ _ _ HE4'.out (by decide), ((HB4.out.setCell (p := ⟨gt, 0, none⟩) hgt _).setCell (p := ⟨gt, 1, none⟩) hgt _).setCell (p := ⟨gt, 2, none⟩) hgt _⟩
      · have HT2 : Aside0 (hitT L i at_ by_ = (TrS.zero, false, 3)) := ⟨by rw [HT.out, if_neg hd]⟩
        have hd2 : decide (sv.f1 < 256) = false := decide_eq_false hd
        go_wp2_with (first
          | (go_at_call 51; go_must (refine HHELD.out.mono ?_; rintro e w2 ⟨rfl, hb2⟩; have HI2 := Aside0.mk (HI1.out.below hb2); have HR2 := Aside0.mk (Kd.R_below HR1.out hb2); have HV2 := Aside0.mk (Kd.R_below HV1.out hb2); clear k0 k1 k2 k3 k4 k5; obtain ⟨_, k0, k1, k2, k3, k4, k5⟩ := HI2.out.c; have ki := cell_blk HI2.out.i 0 _ rfl; have kf := cell_blk HI2.out.f 0 _ rfl; have kff := blk_frozen HI2.out.f 0; have hc42 := (hb2.cell (World.block_lt_of_cell? w1 _ HC4.out)).trans HC4.out; rw [HE4.out] at k4; have HVAL := Aside0.mk (value_calls Av cv V lit w2 (by obtain ⟨A', c', h1, _, h⟩ := Kd.R_reads HV2.out; cases h1; exact h) HVB.out HLR.out.1 HLR.out.2); rw [hv] at HVAL; obtain ⟨B0, d0, B3, d3, ht1, _, _⟩ := HI2.out.s; rw [← HSV.out] at ht1; have HT1 := Aside0.mk ht1; have kd := cell_blk ht1 1 _ rfl; clear hb2 ht1))
          | (go_at_call 52; go_must (refine HVAL.out.mono ?_; rintro e w3 ⟨rfl, rfl⟩; have HK3 : Aside0 (KeepT [4] w2 (w2.setCell ⟨gf, 0, none⟩ (.bool false))) := ⟨KeepT.set HI2.out.f (by decide) 0 _⟩; have HF3 := Aside0.mk (blk_put HI2.out.f 0 (.bool false) rfl); have HT3 := Aside0.mk (HK3.out _ _ _ HI2.out.t (by decide)); have HE3 := Aside0.mk (HK3.out _ _ _ HI2.out.e (by decide)); have ke3 := cell_blk HE3.out 0 _ rfl; have ke4 := blk_frozen HE3.out 0; have HB3 := Aside0.mk (HI2.out.b.setCell (p := ⟨gf, 0, none⟩) HI2.out.gf (.bool false)))))
        go_ret
        refine ⟨false, rfl, (fun h => by cases h), fun _ => ⟨HH2.out, ?_⟩⟩
        rw [HT2.out]
        have hk := KeepT.set (ts := [35]) HE3.out (by decide) 0 (.int .i64 3)
        exact ⟨hk _ _ _ HF3.out (by decide), ⟨_, _, hk _ _ _ HT3.out (by decide), TrS.Is.zero _ _⟩, blk_put HE3.out 0 _ rfl, HB3.out.setCell (p := ⟨ge, 0, none⟩) HI1.out.ge _⟩
    · have HH2 : Aside0 (x.hitS L i at_ by_ = false) := ⟨by rw [HH.out]; simp [hv]⟩
      obtain ⟨r0, r1⟩ := valS_range V lit HVB.out
      obtain ⟨vv, hvv⟩ : ∃ vv, vv = valS V lit := ⟨_, rfl⟩
      have hvv2 := hvv
      rw [← hvv2] at hv r0 r1
      have HVV := Aside0.mk hvv
      clear hvv hvv2
      go_wp2_with (first
          | (go_at_call 51; go_must (refine HHELD.out.mono ?_; rintro e w2 ⟨rfl, hb2⟩; have HI2 := Aside0.mk (HI1.out.below hb2); have HR2 := Aside0.mk (Kd.R_below HR1.out hb2); have HV2 := Aside0.mk (Kd.R_below HV1.out hb2); clear k0 k1 k2 k3 k4 k5; obtain ⟨_, k0, k1, k2, k3, k4, k5⟩ := HI2.out.c; have ki := cell_blk HI2.out.i 0 _ rfl; have kf := cell_blk HI2.out.f 0 _ rfl; have kff := blk_frozen HI2.out.f 0; have hc42 := (hb2.cell (World.block_lt_of_cell? w1 _ HC4.out)).trans HC4.out; rw [HE4.out] at k4; have HVAL := Aside0.mk (value_calls Av cv V lit w2 (by obtain ⟨A', c', h1, _, h⟩ := Kd.R_reads HV2.out; cases h1; exact h) HVB.out HLR.out.1 HLR.out.2); rw [← HVV.out] at HVAL; obtain ⟨B0, d0, B3, d3, ht1, _, _⟩ := HI2.out.s; rw [← HSV.out] at ht1; have HT1 := Aside0.mk ht1; have kd := cell_blk ht1 1 _ rfl; clear hb2 ht1))
          | (go_at_call 52; go_must (refine HVAL.out.mono ?_; rintro e w3 ⟨rfl, rfl⟩)))
      go_ret
      exact ⟨true, rfl, (fun _ => ⟨HH2.out, HI2.out⟩), (fun h => by cases h)⟩
end Go.Proofs.Ytdjhjgfjhicbfaa.PWalkTells
namespace Go.Proofs.Ytdjhjgfjhicbfaa.PWalkTells
open Go.RowKit Go.Shelf Go.Maps Go.Proofs.YtdjhjgfjhicbfaaW.PrintWords Go.Proofs.YtdjhjgfjhicbfaaW.PrintLast Go.Proofs.YtdjhjgfjhicbfaaW.PrintMore
set_option linter.unusedVariables false
set_option linter.unusedSimpArgs false
def CP.hitN (x : CP) (L : List S43) (i : Int) (at_ : Nat) : Option Nat := (List.range (2 ^ x.a0.toNat)).find? (fun n => x.hitS L i at_ (wayS n x.a0.toNat))
def CP.scanS (x : CP) (L : List S43) (i : Int) : Nat → Nat → TrS × Bool × Int
  | 0, _ => (TrS.zero, false, 0)
  | f + 1, k => match x.hitN L i k with
    | some n => hitT L i k (wayS n x.a0.toNat)
    | none => x.scanS L i f (k + 1)
def CP.badR (x : CP) (i : Int) : TrS × Bool × Int := if x.badS i = false then (TrS.zero, false, 2) else if x.allS.2 ≠ 0 then (TrS.zero, false, x.allS.2) else x.scanS x.allS.1 i x.allS.1.length 0
theorem range_find_none {n : Nat} {p : Nat → Bool} (h : ∀ m, m < n → p m = false) : (List.range n).find? p = none := by
  rw [List.find?_eq_none]
  intro m hm
  rw [h m (List.mem_range.1 hm)]; simp
theorem range_find_some {n k : Nat} {p : Nat → Bool} (hk : k < n) (h : ∀ m, m < k → p m = false) (hp : p k = true) : (List.range n).find? p = some k := by
  have e : List.range n = List.range k ++ (List.range (n - k)).map (k + ·) := by
    rw [← List.range_add]; congr 1; omega
  rw [e, List.find?_append, range_find_none h, Option.none_or]
  obtain ⟨m, hm⟩ : ∃ m, n - k = m + 1 := ⟨n - k - 1, by omega⟩
  rw [hm, List.range_succ_eq_map]
  simp [hp]
structure BL (x : CP) (w : World) (gc gi gf gl gt ge : Nat) (vl : Value) (L : List S43) (i : Int) (W : World) : Prop where
  c : x.At W gc
  i : W.heap[gi]? = some (.cells #[.int .i64 i] 3 (0, 0))
  f : W.heap[gf]? = some (.cells #[.bool false] 4 (0, 0))
  l : W.heap[gl]? = some (.cells #[vl] 34 (0, 0)) ∧ Kd.R k43 43 W w.heap.size (fun _ => True) vl L
  t : W.heap[gt]? = some (.cells #[.int .i64 0, .slice none 0 0, .slice none 0 0] 30 (0, 0))
  e : W.heap[ge]? = some (.cells #[.int .i64 0] 35 (0, 0))
  b : Below w.heap.size w W
theorem BInv.bl {x : CP} {w : World} {gc gs gi gf gl ga gt ge : Nat} {vl : Value} {L : List S43} {i : Int} {at_ : Nat} {W : World} (h : BInv x w gc gs gi gf gl ga gt ge vl L i at_ W) : BL x w gc gi gf gl gt ge vl L i W := ⟨h.c, h.i, h.f, h.l, h.t, h.e, h.b⟩
theorem BL.below {x : CP} {w : World} {gc gi gf gl gt ge : Nat} {vl : Value} {L : List S43} {i : Int} {W W' : World} (h : BL x w gc gi gf gl gt ge vl L i W) (hb : Below W.heap.size W W') : BL x w gc gi gf gl gt ge vl L i W' :=
  ⟨h.c.below hb, blk_below h.i hb, blk_below h.f hb, ⟨blk_below h.l.1 hb, Kd.R_below h.l.2 hb⟩, blk_below h.t hb, blk_below h.e hb, h.b.trans (hb.mono h.b.size)⟩
theorem BL.out {x : CP} {w : World} {gc gi gf gl gt ge : Nat} {vl : Value} {L : List S43} {i : Int} {W : World} (h : BL x w gc gi gf gl gt ge vl L i W) : BOut w gf gt ge (TrS.zero, false, 0) W :=
  ⟨h.f, ⟨_, _, h.t, TrS.Is.zero _ _⟩, h.e, h.b⟩
theorem bout_put {w W : World} {gf gt ge : Nat} {T : TrS} {vi vf f0 e0 : Value} (hgf : w.heap.size ≤ gf) (hgt : w.heap.size ≤ gt) (hge : w.heap.size ≤ ge) (ht : W.heap[gt]? = some (.cells #[.int .i64 T.bad, vi, vf] 30 (0, 0))) (hf : W.heap[gf]? = some (.cells #[f0] 4 (0, 0))) (he : W.heap[ge]? = some (.cells #[e0] 35 (0, 0)))
    (his : T.Is w.heap.size vi vf W) (hb : Below w.heap.size w W) (fd : Bool) (er : Int) (W' : World) (hW : W' = ((((W.setCell ⟨gt, 0, none⟩ (.int .i64 T.bad)).setCell ⟨gt, 1, none⟩ vi).setCell ⟨gt, 2, none⟩ vf).setCell ⟨gf, 0, none⟩ (.bool fd)).setCell ⟨ge, 0, none⟩ (.int .i64 er)) :
    W'.heap[gt]? = some (.cells #[.int .i64 T.bad, vi, vf] 30 (0, 0)) ∧ W'.cell? ⟨gf, 0, none⟩ = some (.bool fd) ∧ W'.cell? ⟨ge, 0, none⟩ = some (.int .i64 er) ∧ T.Is w.heap.size vi vf W' ∧ Below w.heap.size w W' := by
  subst hW
  have k1 := trace_keep ht (.int .i64 T.bad) vi vf
  have t1 := trace_put ht (.int .i64 T.bad) vi vf
  have f1 := k1 _ _ _ hf (by decide)
  have e1 := k1 _ _ _ he (by decide)
  have k2 := KeepT.set (ts := [4]) f1 (by decide) 0 (.bool fd)
  have t2 := k2 _ _ _ t1 (by decide)
  have e2 := k2 _ _ _ e1 (by decide)
  have f2 := blk_put f1 0 (.bool fd) rfl
  have k3 := KeepT.set (ts := [35]) e2 (by decide) 0 (.int .i64 er)
  exact ⟨k3 _ _ _ t2 (by decide), cell_blk (k3 _ _ _ f2 (by decide)) 0 _ rfl, cell_blk (blk_put e2 0 _ rfl) 0 _ rfl,
    ((his.keep (by decide) (by decide) k1).keep (by decide) (by decide) k2).keep (by decide) (by decide) k3, ((((hb.setCell (p := ⟨gt, 0, none⟩) hgt _).setCell (p := ⟨gt, 1, none⟩) hgt _).setCell (p := ⟨gt, 2, none⟩) hgt _).setCell (p := ⟨gf, 0, none⟩) hgf _).setCell (p := ⟨ge, 0, none⟩) hge _⟩
theorem bout_put' {w W : World} {gf gt ge : Nat} {T : TrS} {vi vf f0 e0 : Value} (hgf : w.heap.size ≤ gf) (hgt : w.heap.size ≤ gt) (hge : w.heap.size ≤ ge) (ht : W.heap[gt]? = some (.cells #[.int .i64 T.bad, vi, vf] 30 (0, 0))) (hf : W.heap[gf]? = some (.cells #[f0] 4 (0, 0))) (he : W.heap[ge]? = some (.cells #[e0] 35 (0, 0)))
    (his : T.Is w.heap.size vi vf W) (hb : Below w.heap.size w W) (fd : Bool) (er : Int) (W' : World) (hW : W' = (((((W.setCell ⟨gt, 0, none⟩ (.int .i64 T.bad)).setCell ⟨gt, 1, none⟩ vi).setCell ⟨gt, 2, none⟩ vf).setCell ⟨gf, 0, none⟩ (.bool fd)).setCell ⟨ge, 0, none⟩ (.int .i64 er)).drew) :
    W'.heap[gt]? = some (.cells #[.int .i64 T.bad, vi, vf] 30 (0, 0)) ∧ W'.cell? ⟨gf, 0, none⟩ = some (.bool fd) ∧ W'.cell? ⟨ge, 0, none⟩ = some (.int .i64 er) ∧ T.Is w.heap.size vi vf W' ∧ Below w.heap.size w W' := by
  generalize hX : ((((W.setCell ⟨gt, 0, none⟩ (.int .i64 T.bad)).setCell ⟨gt, 1, none⟩ vi).setCell ⟨gt, 2, none⟩ vf).setCell ⟨gf, 0, none⟩ (.bool fd)).setCell ⟨ge, 0, none⟩ (.int .i64 er) = X at hW
  obtain ⟨q1, q2, q3, q4, q5⟩ := bout_put hgf hgt hge ht hf he his hb fd er X hX.symm
  subst hW
  exact ⟨q1, q2, q3, ⟨Kd.R_drew q4.1, Kd.R_drew q4.2⟩, q5.drew⟩
theorem enters_badOne : Enters Try.prog 49 := enters_of Try.func49 (by kernel_rfl) rfl
def BI (x : CP) (w : World) (gc gs gi gf gl ga gt ge : Nat) (vl : Value) (L : List S43) (i : Int) (at_ : Nat) (n : Nat) (W : World) : Prop := (∀ m, m < n → x.hitS L i at_ (wayS m x.a0.toNat) = false) ∧ BInv x w gc gs gi gf gl ga gt ge vl L i at_ W
def BD (x : CP) (w : World) (gf gt ge : Nat) (L : List S43) (i : Int) (at_ : Nat) (n : Nat) (W : World) : Prop := (∀ m, m < n → x.hitS L i at_ (wayS m x.a0.toNat) = false) ∧ x.hitS L i at_ (wayS n x.a0.toNat) = true ∧ BOut w gf gt ge (hitT L i at_ (wayS n x.a0.toNat)) W
theorem bad_step (x : CP) (w : World) (ok : x.Ok w) (fit : x.Fit) (hmay : x.may = true) (h0 : 0 ≤ x.a0) (gc gs gi gf gl ga gt ge : Nat) (vl : Value) (L : List S43) (i : Int) (at_ : Nat) (hat : at_ < L.length) (hl : L.length ≤ 4096) (hg : x.Good L) (hi0 : 0 ≤ i) (hi1 : i < (x.l4.length : Int))
    (n : Nat) (W0 W : World) (v : Value) (hI : BI x w gc gs gi gf gl ga gt ge vl L i at_ n W0) (hb : Below W0.heap.size W0 W) (hv : Kd.R (Kd.int .u8) 5 W W0.heap.size (fun _ => True) v (wayS n x.a0.toNat)) :
    Calls Try.prog 49 #[v, .pointer (some ⟨gc, 0, none⟩), .pointer (some ⟨gs, 0, none⟩), .pointer (some ⟨gi, 0, none⟩), .pointer (some ⟨gf, 0, none⟩), .pointer (some ⟨gl, 0, none⟩), .pointer (some ⟨ga, 0, none⟩), .pointer (some ⟨gt, 0, none⟩), .pointer (some ⟨ge, 0, none⟩)] W fun e w' =>
      ∃ b, e = .returned (.bool b) ∧ (b = true → BI x w gc gs gi gf gl ga gt ge vl L i at_ (n + 1) w') ∧ (b = false → BD x w gf gt ge L i at_ n w') := by
  obtain ⟨hh, hw⟩ := hI
  have hw' := hw.below hb
  obtain ⟨A, c, rfl⟩ := Kd.R_slice hv
  refine (badOne_calls x w ok fit hmay gc gs gi gf gl ga gt ge vl L i at_ A c (wayS n x.a0.toNat) W hw' hat hg hl hi0 hi1 (by rw [wayS_length]; omega) (wayS_bit _ _) (Kd.R_lower hv hw.b.size)).mono ?_
  rintro e w' ⟨b, rfl, h1, h2⟩
  refine ⟨b, rfl, fun hbt => ?_, fun hbf => ?_⟩
  · obtain ⟨e1, e2⟩ := h1 hbt
    refine ⟨fun m hm => ?_, e2⟩
    by_cases e : m = n
    · rw [e]; exact e1
    · exact hh m (by omega)
  · obtain ⟨e1, e2⟩ := h2 hbf
    exact ⟨hh, e1, e2⟩
theorem bad_after {x : CP} {w : World} {gc gs gi gf gl ga gt ge : Nat} {vl : Value} {L : List S43} {i : Int} {at_ : Nat} {W : World} (h : BI x w gc gs gi gf gl ga gt ge vl L i at_ (2 ^ x.a0.toNat) W ∨ ∃ n, n < 2 ^ x.a0.toNat ∧ BD x w gf gt ge L i at_ n W) :
    (x.hitN L i at_ = none ∧ BL x w gc gi gf gl gt ge vl L i W) ∨ (∃ n, x.hitN L i at_ = some n ∧ BOut w gf gt ge (hitT L i at_ (wayS n x.a0.toNat)) W) := by
  rcases h with ⟨h1, h2⟩ | ⟨n, hn, h1, h2, h3⟩
  · exact .inl ⟨range_find_none h1, h2.bl⟩
  · exact .inr ⟨n, range_find_some hn h1 h2, h3⟩
theorem bad_none {x : CP} {w : World} {gc gi gf gl gt ge : Nat} {vl : Value} {L : List S43} {i : Int} {at_ : Nat} {W : World} (hN : x.hitN L i at_ = none) (h : (x.hitN L i at_ = none ∧ BL x w gc gi gf gl gt ge vl L i W) ∨ (∃ n, x.hitN L i at_ = some n ∧ BOut w gf gt ge (hitT L i at_ (wayS n x.a0.toNat)) W)) : BL x w gc gi gf gl gt ge vl L i W := by
  rcases h with ⟨_, h⟩ | ⟨n, h, _⟩
  · exact h
  · rw [hN] at h; cases h
theorem bad_some {x : CP} {w : World} {gc gi gf gl gt ge : Nat} {vl : Value} {L : List S43} {i : Int} {at_ n : Nat} {W : World} (hN : x.hitN L i at_ = some n) (h : (x.hitN L i at_ = none ∧ BL x w gc gi gf gl gt ge vl L i W) ∨ (∃ n, x.hitN L i at_ = some n ∧ BOut w gf gt ge (hitT L i at_ (wayS n x.a0.toNat)) W)) : BOut w gf gt ge (hitT L i at_ (wayS n x.a0.toNat)) W := by
  rcases h with ⟨h, _⟩ | ⟨m, h, h2⟩
  · rw [hN] at h; cases h
  · rw [hN] at h; injection h with h; rw [h]; exact h2
def BadAns (r : TrS × Bool × Int) (w : World) (e : Ending) (w' : World) : Prop := ∃ vi vf, e = .returned (.tuple #[.agg #[.int .i64 r.1.bad, vi, vf], .bool r.2.1, .int .i64 r.2.2]) ∧ r.1.Is w.heap.size vi vf w' ∧ Below w.heap.size w w'
set_option maxHeartbeats 4000000 in
set_option maxRecDepth 100000 in
theorem badAll_calls (x : CP) (i : Int) (w : World) (ok : x.Ok w) (fit : x.Fit) : Calls Try.prog 22 #[.agg #[.int .i64 x.a0, .slice x.A1 x.l1.length x.c1, .slice x.A2 x.l2.length x.c2, .slice x.A3 x.l3.length x.c3, .slice x.A4 x.l4.length x.c4, .slice x.A5 x.l5.length x.c5], .int .i64 i] w fun e w' => BadAns (x.badR i) w e w' := by
  have hmf : ∀ (fn : Fn) (first cap : Array Value) (w : World), (Instr.makeFunc fn first cap).run Try.prog w = .ok (.func fn first cap) w := fun _ _ _ _ => rfl
  obtain ⟨W1, hW1⟩ : ∃ W1, W1 = ((((w.alloc (.cells #[.int .i64 x.a0, .slice x.A1 x.l1.length x.c1, .slice x.A2 x.l2.length x.c2, .slice x.A3 x.l3.length x.c3, .slice x.A4 x.l4.length x.c4, .slice x.A5 x.l5.length x.c5] 26)).alloc (.cells #[.int .i64 i] 3)).alloc (.cells #[.int .i64 0, .slice none 0 0, .slice none 0 0] 30)).alloc (.cells #[.bool false] 4)).alloc (.cells #[.int .i64 0] 35) := ⟨_, rfl⟩
  have hs1 : W1.heap.size = w.heap.size + 5 := by rw [hW1]; simp
  have hb1 : Below w.heap.size w W1 := by rw [hW1]; exact (((((Below.refl _ _).alloc (Nat.le_refl _) _).alloc (by simp) _).alloc (by simp; omega) _).alloc (by simp; omega) _).alloc (by simp; omega) _
  have ha : ∀ (W : World) (o : Obj), Below W.heap.size W (W.alloc o) := fun W o => (Below.refl _ _).alloc (Nat.le_refl _) _
  have hat1 : x.At W1 w.heap.size := by rw [hW1]; exact ((((CP.at_alloc x w).below (ha _ _)).below (ha _ _)).below (ha _ _)).below (ha _ _)
  have hi1 : W1.heap[w.heap.size + 1]? = some (.cells #[.int .i64 i] 3 (0, 0)) := by
    rw [hW1]
    have : (w.alloc (.cells #[.int .i64 x.a0, .slice x.A1 x.l1.length x.c1, .slice x.A2 x.l2.length x.c2, .slice x.A3 x.l3.length x.c3, .slice x.A4 x.l4.length x.c4, .slice x.A5 x.l5.length x.c5] 26)).heap.size = w.heap.size + 1 := by simp
    rw [← this]; exact blk_below (blk_below (blk_below (heap_alloc_at _ _) (ha _ _)) (ha _ _)) (ha _ _)
  have ht1 : W1.heap[w.heap.size + 2]? = some (.cells #[.int .i64 0, .slice none 0 0, .slice none 0 0] 30 (0, 0)) := by
    rw [hW1]
    have : ((w.alloc (.cells #[.int .i64 x.a0, .slice x.A1 x.l1.length x.c1, .slice x.A2 x.l2.length x.c2, .slice x.A3 x.l3.length x.c3, .slice x.A4 x.l4.length x.c4, .slice x.A5 x.l5.length x.c5] 26)).alloc (.cells #[.int .i64 i] 3)).heap.size = w.heap.size + 2 := by simp
    rw [← this]; exact blk_below (blk_below (heap_alloc_at _ _) (ha _ _)) (ha _ _)
  have hf1 : W1.heap[w.heap.size + 3]? = some (.cells #[.bool false] 4 (0, 0)) := by
    rw [hW1]
    have : (((w.alloc (.cells #[.int .i64 x.a0, .slice x.A1 x.l1.length x.c1, .slice x.A2 x.l2.length x.c2, .slice x.A3 x.l3.length x.c3, .slice x.A4 x.l4.length x.c4, .slice x.A5 x.l5.length x.c5] 26)).alloc (.cells #[.int .i64 i] 3)).alloc (.cells #[.int .i64 0, .slice none 0 0, .slice none 0 0] 30)).heap.size = w.heap.size + 3 := by simp
    rw [← this]; exact blk_below (heap_alloc_at _ _) (ha _ _)
  have he1 : W1.heap[w.heap.size + 4]? = some (.cells #[.int .i64 0] 35 (0, 0)) := by
    rw [hW1]
    have : ((((w.alloc (.cells #[.int .i64 x.a0, .slice x.A1 x.l1.length x.c1, .slice x.A2 x.l2.length x.c2, .slice x.A3 x.l3.length x.c3, .slice x.A4 x.l4.length x.c4, .slice x.A5 x.l5.length x.c5] 26)).alloc (.cells #[.int .i64 i] 3)).alloc (.cells #[.int .i64 0, .slice none 0 0, .slice none 0 0] 30)).alloc (.cells #[.bool false] 4)).heap.size = w.heap.size + 4 := by simp
    rw [← this]; exact heap_alloc_at _ _
  have HBAD := Aside0.mk (bad_calls x i W1 (ok.below hb1) fit)
  have HI1 := Aside0.mk hi1
  have HT1 := Aside0.mk ht1
  have HF1 := Aside0.mk hf1
  have HE1 := Aside0.mk he1
  have HA1 := Aside0.mk hat1
  have HB1 := Aside0.mk hb1
  have HO := Aside0.mk ok
  have HF := Aside0.mk fit
  have HS1 := Aside0.mk hs1
  rw [hW1] at HBAD HI1 HT1 HF1 HE1 HA1 HB1 HS1
  obtain ⟨_, k0, k1, k2, k3, k4, k5⟩ := HA1.out
  have ki := cell_blk HI1.out 0 _ rfl
  clear hs1 hb1 hat1 hi1 ht1 hf1 he1 ok fit hW1 ha
  cases hbad : x.badS i
  · have HR : Aside0 (x.badR i = (TrS.zero, false, 2)) := ⟨by unfold CP.badR; rw [if_pos hbad]⟩
    rw [hbad] at HBAD
    clear hbad
    go_enter Try.func22, Try.ntmps22
    go_wp2_with (go_at_call 40; go_must (refine HBAD.out.mono ?_; rintro e w1 ⟨rfl, hb1⟩; have HT2 := Aside0.mk (blk_below HT1.out hb1); have HF2 := Aside0.mk (blk_below HF1.out hb1); have HE2 := Aside0.mk (blk_below HE1.out hb1); have HB2 := Aside0.mk (HB1.out.trans (hb1.mono HB1.out.size)); have m0 := cell_blk HT2.out 0 _ rfl; have m1 := cell_blk HT2.out 1 _ rfl; have m2 := cell_blk HT2.out 2 _ rfl; have m3 := blk_frozen HT2.out 0; have m4 := blk_frozen HT2.out 1; have m5 := blk_frozen HT2.out 2; have n0 := cell_blk HF2.out 0 _ rfl; have n1 := blk_frozen HF2.out 0; have n2 := cell_blk HE2.out 0 _ rfl; have n3 := blk_frozen HE2.out 0; clear hb1 k0 k1 k2 k3 k4 k5 ki))
    obtain ⟨q1, q2, q3, q4, q5⟩ := bout_put (gf := w.heap.size + 1 + 1 + 1) (gt := w.heap.size + 1 + 1) (ge := w.heap.size + 1 + 1 + 1 + 1) (T := TrS.zero) (by omega) (by omega) (by omega) HT2.out HF2.out HE2.out (TrS.Is.zero _ _) HB2.out false 2 _ rfl
    refine bodyPost_ret (v := .tuple #[.agg #[.int .i64 TrS.zero.bad, .slice none 0 0, .slice none 0 0], .bool false, .int .i64 2]) (results_c3 (fn := Try.f22) rfl (a := ⟨w.heap.size + 1 + 1, 0, none⟩) (b := ⟨w.heap.size + 1 + 1 + 1, 0, none⟩) (c := ⟨w.heap.size + 1 + 1 + 1 + 1, 0, none⟩) rfl rfl rfl (rv_trace q1 rfl) (rv_cell Try.underlying4 rfl q2) (rv_cell Try.underlying35 rfl q3)) rfl ?_
    rw [HR.out]
    exact ⟨_, _, rfl, q4, q5⟩
  · have hmay : x.may = true := by
      unfold CP.badS at hbad
      simp at hbad
      exact hbad.1.1
    have hi0 : 0 ≤ i := by
      unfold CP.badS at hbad
      simp at hbad
      exact hbad.1.2
    have hi1 : i < (x.l4.length : Int) := by
      unfold CP.badS at hbad
      simp at hbad
      exact hbad.2
    have HR : Aside0 (x.badR i = if x.allS.2 ≠ 0 then (TrS.zero, false, x.allS.2) else x.scanS x.allS.1 i x.allS.1.length 0) := ⟨by unfold CP.badR; rw [if_neg (by rw [hbad]; simp)]⟩
    rw [hbad] at HBAD
    have hx0 := may_nonneg hmay
    obtain ⟨hg, hl⟩ := allS_good HF.out
    have HG := Aside0.mk hg
    have HMY := Aside0.mk hmay
    obtain ⟨L, hL⟩ : ∃ L, L = x.allS.1 := ⟨_, rfl⟩
    obtain ⟨er, her⟩ : ∃ er, er = x.allS.2 := ⟨_, rfl⟩
    have HALLC : Aside0 (∀ W, Below w.heap.size w W → Calls Try.prog 10 #[.agg #[.int .i64 x.a0, .slice x.A1 x.l1.length x.c1, .slice x.A2 x.l2.length x.c2, .slice x.A3 x.l3.length x.c3, .slice x.A4 x.l4.length x.c4, .slice x.A5 x.l5.length x.c5]] W fun e w' => ∃ v, e = .returned (.tuple #[v, .int .i64 er]) ∧ Kd.R k43 43 w' W.heap.size (fun _ => True) v L ∧ Below W.heap.size W w') := ⟨fun W hb => by rw [hL, her]; exact all_calls x W (HO.out.below hb) HF.out⟩
    have HWD : Aside0 (er = 0 → x.a0 ≤ 10) := ⟨fun h => by
      rw [her] at h
      unfold CP.allS at h
      rw [if_neg (by rw [hmay]; simp)] at h
      cases hw : x.wide
      · exact (wide_false hw).1
      · rw [hw] at h; simp at h⟩
    rw [← hL] at HG hl
    rw [← hL, ← her] at HR
    have hl2 : L.length ≤ 9223372036854775807 := by omega
    clear hbad hmay hg hL her
    by_cases he0 : er = 0
    · subst he0
      have HR2 : Aside0 (x.badR i = x.scanS L i L.length 0) := ⟨by rw [HR.out]; simp⟩
      have HW2 := HWD.out rfl
      have h5 : ∀ {m n : Nat}, m + 1 + 1 + 1 + 1 ≤ m + 1 + 1 + 1 + 1 + n := by omega
      go_enter Try.func22, Try.ntmps22
      go_wp2_with (first
        | (go_at_call 40; go_must (refine HBAD.out.mono ?_; rintro e w1 ⟨rfl, hb1⟩; have HI2 := Aside0.mk (blk_below HI1.out hb1); have HT2 := Aside0.mk (blk_below HT1.out hb1); have HF2 := Aside0.mk (blk_below HF1.out hb1); have HE2 := Aside0.mk (blk_below HE1.out hb1); have HB2 := Aside0.mk (HB1.out.trans (hb1.mono HB1.out.size)); have HA2 := Aside0.mk (HA1.out.below hb1); have HZ1 := Aside0.mk hb1.size; clear hb1 k0 k1 k2 k3 k4 k5 ki; obtain ⟨_, k0, k1, k2, k3, k4, k5⟩ := HA2.out))
        | (go_at_call 10; go_must (refine (HALLC.out _ HB2.out).mono ?_; rintro e w2 ⟨v2, rfl, ho2, hb2⟩; obtain ⟨A2, c2, e2⟩ := Kd.R_slice ho2; subst e2; have HO2 := Aside0.mk (Kd.R_lower ho2 HB2.out.size); have HZ2 := Aside0.mk hb2.size; have hba := (Below.refl w2.heap.size w2).alloc (Nat.le_refl _) (.cells #[.slice A2 L.length c2] 34); have HI3 := Aside0.mk (blk_below (blk_below HI2.out hb2) hba); have HA3 := Aside0.mk ((HA2.out.below hb2).below hba); have HT3 := Aside0.mk (blk_below (blk_below HT2.out hb2) hba); have HF3 := Aside0.mk (blk_below (blk_below HF2.out hb2) hba); have HE3 := Aside0.mk (blk_below (blk_below HE2.out hb2) hba); have HB3 := Aside0.mk ((HB2.out.trans (hb2.mono HB2.out.size)).trans (hba.mono (HB2.out.trans (hb2.mono HB2.out.size)).size)); have HO3 := Aside0.mk (Kd.R_below HO2.out hba); have HL3 : Aside0 ((w2.alloc (.cells #[.slice A2 L.length c2] 34)).heap[w2.heap.size]? = some (.cells #[.slice A2 L.length c2] 34 (0, 0))) := ⟨heap_alloc_at _ _⟩; have n2 := cell_blk HE3.out 0 _ rfl; have n3 := blk_frozen HE3.out 0; have hl3 := cell_blk ((KeepT.set (ts := [35]) HE3.out (by decide) 0 (.int .i64 0)) _ _ _ HL3.out (by decide)) 0 _ rfl; clear hb2 ho2 hba k0 k1 k2 k3 k4 k5)))
      have hke := KeepT.set (ts := [35]) HE3.out (by decide) 0 (.int .i64 0)
      have hge : w.heap.size ≤ w.heap.size + 4 := by omega
      have HBL0 : Aside0 (BL x w w.heap.size (w.heap.size + 1) (w.heap.size + 1 + 1 + 1) w2.heap.size (w.heap.size + 1 + 1) (w.heap.size + 1 + 1 + 1 + 1) (.slice A2 L.length c2) L i ((w2.alloc (.cells #[.slice A2 L.length c2] 34)).setCell ⟨w.heap.size + 4, 0, none⟩ (.int .i64 0))) :=
        ⟨⟨HA3.out.keep (by decide) hke, hke _ _ _ HI3.out (by decide), hke _ _ _ HF3.out (by decide), ⟨hke _ _ _ HL3.out (by decide), R_keepT HO3.out (by intro q hq; have : q ∈ [43, 5, 5] := hq; simp at this; rcases this with rfl | rfl <;> decide) hke⟩, hke _ _ _ HT3.out (by decide), blk_put HE3.out 0 _ rfl, HB3.out.setCell (p := ⟨w.heap.size + 4, 0, none⟩) hge _⟩⟩
      clear n2 n3 hl3 hke hge
      go_loopw [26] (fun v wr => ∃ k : Nat, k ≤ L.length ∧ v = .int .i64 k ∧ Aside0 (BL x w w.heap.size (w.heap.size + 1) (w.heap.size + 1 + 1 + 1) w2.heap.size (w.heap.size + 1 + 1) (w.heap.size + 1 + 1 + 1 + 1) (.slice A2 L.length c2) L i wr) ∧ Aside0 (x.scanS L i (L.length - k) k = x.scanS L i L.length 0)) (fun v _ => L.length - (intOf v).toNat)
      case atStart => exact ⟨0, by omega, rfl, HBL0, ⟨rfl⟩⟩
      case round =>
        clear HBL0
        obtain ⟨k, hk, rfl, HBL, HSC⟩ := hrel
        have hgf : w.heap.size ≤ w.heap.size + 1 + 1 + 1 := by omega
        by_cases hlt : k < L.length
        · obtain ⟨A', c', h1, _, hrl⟩ := Kd.R_reads HBL.out.l.2
          cases h1
          obtain ⟨ad, A0, c0, A3, c3, e1, hs0, hs1, hs2, hs3, hm0, hr0, hm3, hr3⟩ := at_state hrl k hlt
          have hgD : L.getD k z43 = L[k] := by simp [List.getD_eq_getElem?_getD, hlt]
          obtain ⟨sv, hsv⟩ : ∃ sv, sv = L[k] := ⟨_, rfl⟩
          have HSV : Aside0 (L.getD k z43 = sv) := ⟨hgD.trans hsv.symm⟩
          rw [← hsv] at hs0 hs1 hs2 hs3 hm0 hr0 hm3 hr3
          have hb8 : Below wr.heap.size wr ((wr.alloc (.cells #[.int .i64 k] 3)).alloc (.cells #[.slice A0 sv.f0.length c0, .int .i64 sv.f1, .int .i64 sv.f2, .slice A3 sv.f3.length c3] 43)) := ((Below.refl _ _).alloc (Nat.le_refl _) _).alloc (by simp) _
          have hq : (wr.alloc (.cells #[.int .i64 k] 3)).heap.size = wr.heap.size + 1 := by simp
          have HB8 := Aside0.mk (HBL.out.below hb8)
          have HINV : Aside0 (BInv x w w.heap.size (wr.heap.size + 1) (w.heap.size + 1) (w.heap.size + 1 + 1 + 1) w2.heap.size wr.heap.size (w.heap.size + 1 + 1) (w.heap.size + 1 + 1 + 1 + 1) (.slice A2 L.length c2) L i k ((wr.alloc (.cells #[.int .i64 k] 3)).alloc (.cells #[.slice A0 sv.f0.length c0, .int .i64 sv.f1, .int .i64 sv.f2, .slice A3 sv.f3.length c3] 43))) :=
            ⟨⟨HB8.out.c, ⟨A0, c0, A3, c3, by rw [HSV.out, ← hq]; exact heap_alloc_at _ _, by rw [HSV.out]; exact Kd.C_below hr0 hb8, by rw [HSV.out]; exact hm0⟩, HB8.out.i, HB8.out.f, HB8.out.l, blk_below (heap_alloc_at _ _) ((Below.refl _ _).alloc (Nat.le_refl _) _), HB8.out.t, HB8.out.e, HB8.out.b, by omega, by omega, by omega⟩⟩
          have HWY := ways8_calls _ enters_badOne (.pointer (some ⟨w.heap.size, 0, none⟩)) (.pointer (some ⟨wr.heap.size + 1, 0, none⟩)) (.pointer (some ⟨w.heap.size + 1, 0, none⟩)) (.pointer (some ⟨w.heap.size + 1 + 1 + 1, 0, none⟩)) (.pointer (some ⟨w2.heap.size, 0, none⟩)) (.pointer (some ⟨wr.heap.size, 0, none⟩)) (.pointer (some ⟨w.heap.size + 1 + 1, 0, none⟩)) (.pointer (some ⟨w.heap.size + 1 + 1 + 1 + 1, 0, none⟩)) x.a0.toNat (by omega)
            (BI x w w.heap.size (wr.heap.size + 1) (w.heap.size + 1) (w.heap.size + 1 + 1 + 1) w2.heap.size wr.heap.size (w.heap.size + 1 + 1) (w.heap.size + 1 + 1 + 1 + 1) (.slice A2 L.length c2) L i k) (BD x w (w.heap.size + 1 + 1 + 1) (w.heap.size + 1 + 1) (w.heap.size + 1 + 1 + 1 + 1) L i k) _ ⟨fun m hm => absurd hm (Nat.not_lt_zero m), HINV.out⟩
            (fun n W0 W v _ hI hb hv => bad_step x w HO.out HF.out HMY.out hx0 _ _ _ _ _ _ _ _ _ L i k hlt hl HG.out hi0 hi1 n W0 W v hI hb hv)
          rw [Int.toNat_of_nonneg hx0] at HWY
          have HWA := Aside0.mk HWY
          have HSC2 : Aside0 (x.scanS L i L.length 0 = match x.hitN L i k with | some n => hitT L i k (wayS n x.a0.toNat) | none => x.scanS L i (L.length - (k + 1)) (k + 1)) := ⟨by
            rw [← HSC.out, show L.length - k = (L.length - (k + 1)) + 1 by omega]; rfl⟩
          obtain ⟨_, k0, k1, k2, k3, k4, k5⟩ := HB8.out.c
          have HE1' := Aside0.mk e1
          clear HWY hb8 hq hr0 hr3 hrl hgD hsv
          rw [e1]
          clear e1
          cases hN : x.hitN L i k with
          | none =>
            have HSC3 : Aside0 (x.scanS L i (L.length - (k + 1)) (k + 1) = x.scanS L i L.length 0) := ⟨by rw [HSC2.out, hN]⟩
            go_wp2_with (go_at_call 48; go_must (refine HWA.out.mono ?_; rintro e w3 ⟨rfl, hI⟩; have hI2 := bad_none hN (bad_after hI); have HI3 := Aside0.mk hI2; have n0 := cell_blk hI2.f 0 _ rfl; have n2 := cell_blk hI2.e 0 _ rfl; clear hI hI2 k0 k1 k2 k3 k4 k5))
            exact ⟨⟨k + 1, by omega, by go_num, by rw [← HE1'.out]; exact HI3, HSC3⟩, by simp [intOf]; omega⟩
          | some n =>
            have HRR : Aside0 (x.badR i = hitT L i k (wayS n x.a0.toNat)) := ⟨by rw [HR2.out, HSC2.out, hN]⟩
            have HHT : Aside0 (hitT L i k (wayS n x.a0.toNat) = if sv.f1 < 256 then (⟨i, leadInit L k, leadFrames L k (wayS n x.a0.toNat)⟩, true, 0) else (TrS.zero, false, 3)) := ⟨by unfold hitT; rw [HSV.out]⟩
            obtain ⟨T, hT⟩ : ∃ T : TrS, T = (hitT L i k (wayS n x.a0.toNat)).1 := ⟨_, rfl⟩
            by_cases hd : sv.f1 < 256
            · have HT6 : Aside0 (hitT L i k (wayS n x.a0.toNat) = (T, true, 0)) := ⟨by rw [hT, HHT.out, if_pos hd]⟩
              clear hT
              go_wp2_with (go_at_call 48; go_must (refine HWA.out.mono ?_; rintro e w3 ⟨rfl, hI⟩; have hI2 := bad_some hN (bad_after hI); rw [HT6.out] at hI2; obtain ⟨hf6, ⟨vi, vf, ht6, his6⟩, he6, hb6⟩ := hI2; obtain ⟨Ai, ci, ei⟩ := Kd.R_slice his6.1; subst ei; obtain ⟨Af, cf, ef⟩ := Kd.R_slice his6.2; subst ef; have HF6 := Aside0.mk hf6; have HT7 := Aside0.mk ht6; have HE6 := Aside0.mk he6; have HS6 := Aside0.mk his6; have HB6 := Aside0.mk hb6; have m0 := cell_blk ht6 0 _ rfl; have m1 := cell_blk ht6 1 _ rfl; have m2 := cell_blk ht6 2 _ rfl; have m3 := blk_frozen ht6 0; have m4 := blk_frozen ht6 1; have m5 := blk_frozen ht6 2; have n0 := cell_blk hf6 0 _ rfl; have n1 := blk_frozen hf6 0; have n2 := cell_blk he6 0 _ rfl; have n3 := blk_frozen he6 0; clear hI k0 k1 k2 k3 k4 k5 hf6 ht6 his6 he6 hb6))
              go_region
              all_goals
                go_wp2
                obtain ⟨q1, q2, q3, q4, q5⟩ := bout_put' (gf := w.heap.size + 1 + 1 + 1) (gt := w.heap.size + 1 + 1) (ge := w.heap.size + 1 + 1 + 1 + 1) (T := T) (by omega) (by omega) (by omega) HT7.out HF6.out HE6.out HS6.out HB6.out true 0 _ rfl
                refine bodyPost_ret (v := .tuple #[.agg #[.int .i64 T.bad, (.slice Ai T.init.length ci), (.slice Af T.frames.length cf)], .bool true, .int .i64 0]) (results_c3 (fn := Try.f22) rfl (a := ⟨w.heap.size + 1 + 1, 0, none⟩) (b := ⟨w.heap.size + 1 + 1 + 1, 0, none⟩) (c := ⟨w.heap.size + 1 + 1 + 1 + 1, 0, none⟩) rfl rfl rfl (rv_trace q1 rfl) (rv_cell Try.underlying4 rfl q2) (rv_cell Try.underlying35 rfl q3)) rfl ?_
                rw [HRR.out, HT6.out]
                exact ⟨_, _, rfl, q4, q5⟩
            · have HT6 : Aside0 (hitT L i k (wayS n x.a0.toNat) = (TrS.zero, false, 3)) := ⟨by rw [HHT.out, if_neg hd]⟩
              clear hT
              go_wp2_with (go_at_call 48; go_must (refine HWA.out.mono ?_; rintro e w3 ⟨rfl, hI⟩; have hI2 := bad_some hN (bad_after hI); rw [HT6.out] at hI2; obtain ⟨hf6, ⟨vi, vf, ht6, his6⟩, he6, hb6⟩ := hI2; obtain ⟨Ai, ci, ei⟩ := Kd.R_slice his6.1; subst ei; obtain ⟨Af, cf, ef⟩ := Kd.R_slice his6.2; subst ef; have HF6 := Aside0.mk hf6; have HT7 := Aside0.mk ht6; have HE6 := Aside0.mk he6; have HS6 := Aside0.mk his6; have HB6 := Aside0.mk hb6; have m0 := cell_blk ht6 0 _ rfl; have m1 := cell_blk ht6 1 _ rfl; have m2 := cell_blk ht6 2 _ rfl; have m3 := blk_frozen ht6 0; have m4 := blk_frozen ht6 1; have m5 := blk_frozen ht6 2; have n0 := cell_blk hf6 0 _ rfl; have n1 := blk_frozen hf6 0; have n2 := cell_blk he6 0 _ rfl; have n3 := blk_frozen he6 0; clear hI k0 k1 k2 k3 k4 k5 hf6 ht6 his6 he6 hb6))
              go_region
              all_goals
                go_wp2
                obtain ⟨q1, q2, q3, q4, q5⟩ := bout_put' (gf := w.heap.size + 1 + 1 + 1) (gt := w.heap.size + 1 + 1) (ge := w.heap.size + 1 + 1 + 1 + 1) (T := TrS.zero) (by omega) (by omega) (by omega) HT7.out HF6.out HE6.out HS6.out HB6.out false 3 _ rfl
                refine bodyPost_ret (v := .tuple #[.agg #[.int .i64 TrS.zero.bad, (.slice Ai TrS.zero.init.length ci), (.slice Af TrS.zero.frames.length cf)], .bool false, .int .i64 3]) (results_c3 (fn := Try.f22) rfl (a := ⟨w.heap.size + 1 + 1, 0, none⟩) (b := ⟨w.heap.size + 1 + 1 + 1, 0, none⟩) (c := ⟨w.heap.size + 1 + 1 + 1 + 1, 0, none⟩) rfl rfl rfl (rv_trace q1 rfl) (rv_cell Try.underlying4 rfl q2) (rv_cell Try.underlying35 rfl q3)) rfl ?_
                rw [HRR.out, HT6.out]
                exact ⟨_, _, rfl, q4, q5⟩
        · have hk' : k = L.length := by omega
          have HR3 : Aside0 (x.badR i = (TrS.zero, false, 0)) := ⟨by rw [HR2.out, ← HSC.out, hk', Nat.sub_self]; rfl⟩
          have HT5 := Aside0.mk HBL.out.t
          have HF5 := Aside0.mk HBL.out.f
          have HE5 := Aside0.mk HBL.out.e
          have m0 := cell_blk HT5.out 0 _ rfl; have m1 := cell_blk HT5.out 1 _ rfl; have m2 := cell_blk HT5.out 2 _ rfl; have m3 := blk_frozen HT5.out 0; have m4 := blk_frozen HT5.out 1; have m5 := blk_frozen HT5.out 2; have n0 := cell_blk HF5.out 0 _ rfl; have n1 := blk_frozen HF5.out 0; have n2 := cell_blk HE5.out 0 _ rfl; have n3 := blk_frozen HE5.out 0
          clear hk'
          go_wp2_with fail
          go_region
          all_goals
            go_wp2
            obtain ⟨q1, q2, q3, q4, q5⟩ := bout_put' (gf := w.heap.size + 1 + 1 + 1) (gt := w.heap.size + 1 + 1) (ge := w.heap.size + 1 + 1 + 1 + 1) (T := TrS.zero) (by omega) (by omega) (by omega) HT5.out HF5.out HE5.out (TrS.Is.zero _ _) HBL.out.b false 0 _ rfl
            refine bodyPost_ret (v := .tuple #[.agg #[.int .i64 TrS.zero.bad, .slice none 0 0, .slice none 0 0], .bool false, .int .i64 0]) (results_c3 (fn := Try.f22) rfl (a := ⟨w.heap.size + 1 + 1, 0, none⟩) (b := ⟨w.heap.size + 1 + 1 + 1, 0, none⟩) (c := ⟨w.heap.size + 1 + 1 + 1 + 1, 0, none⟩) rfl rfl rfl (rv_trace q1 rfl) (rv_cell Try.underlying4 rfl q2) (rv_cell Try.underlying35 rfl q3)) rfl ?_
            rw [HR3.out]
            exact ⟨_, _, rfl, q4, q5⟩
    · have HR2 : Aside0 (x.badR i = (TrS.zero, false, er)) := ⟨by rw [HR.out, if_pos he0]⟩
      go_enter Try.func22, Try.ntmps22
      go_wp2_with (first
        | (go_at_call 40; go_must (refine HBAD.out.mono ?_; rintro e w1 ⟨rfl, hb1⟩; have HT2 := Aside0.mk (blk_below HT1.out hb1); have HF2 := Aside0.mk (blk_below HF1.out hb1); have HE2 := Aside0.mk (blk_below HE1.out hb1); have HB2 := Aside0.mk (HB1.out.trans (hb1.mono HB1.out.size)); have HA2 := Aside0.mk (HA1.out.below hb1); clear hb1 k0 k1 k2 k3 k4 k5 ki; obtain ⟨_, k0, k1, k2, k3, k4, k5⟩ := HA2.out))
        | (go_at_call 10; go_must (refine (HALLC.out _ HB2.out).mono ?_; rintro e w2 ⟨v2, rfl, ho2, hb2⟩; obtain ⟨A2, c2, e2⟩ := Kd.R_slice ho2; subst e2; have hba := (Below.refl w2.heap.size w2).alloc (Nat.le_refl _) (.cells #[.slice A2 L.length c2] 34); have HT3 := Aside0.mk (blk_below (blk_below HT2.out hb2) hba); have HF3 := Aside0.mk (blk_below (blk_below HF2.out hb2) hba); have HE3 := Aside0.mk (blk_below (blk_below HE2.out hb2) hba); have HB3 := Aside0.mk ((HB2.out.trans (hb2.mono HB2.out.size)).trans (hba.mono (HB2.out.trans (hb2.mono HB2.out.size)).size)); have m0 := cell_blk HT3.out 0 _ rfl; have m1 := cell_blk HT3.out 1 _ rfl; have m2 := cell_blk HT3.out 2 _ rfl; have m3 := blk_frozen HT3.out 0; have m4 := blk_frozen HT3.out 1; have m5 := blk_frozen HT3.out 2; have n0 := cell_blk HF3.out 0 _ rfl; have n1 := blk_frozen HF3.out 0; have n2 := cell_blk HE3.out 0 _ rfl; have n3 := blk_frozen HE3.out 0; clear hb2 ho2 hba k0 k1 k2 k3 k4 k5)))
      have hke := KeepT.set (ts := [35]) HE3.out (by decide) 0 (.int .i64 er)
      have hge : w.heap.size ≤ w.heap.size + 4 := by omega
      go_region
      all_goals
        go_wp2
        obtain ⟨q1, q2, q3, q4, q5⟩ := bout_put' (gf := w.heap.size + 1 + 1 + 1) (gt := w.heap.size + 1 + 1) (ge := w.heap.size + 1 + 1 + 1 + 1) (T := TrS.zero) (by omega) (by omega) (by omega) (hke _ _ _ HT3.out (by decide)) (hke _ _ _ HF3.out (by decide)) (blk_put HE3.out 0 _ rfl) (TrS.Is.zero _ _) (HB3.out.setCell (p := ⟨w.heap.size + 4, 0, none⟩) hge _) false er _ rfl
        refine bodyPost_ret (v := .tuple #[.agg #[.int .i64 TrS.zero.bad, .slice none 0 0, .slice none 0 0], .bool false, .int .i64 er]) (results_c3 (fn := Try.f22) rfl (a := ⟨w.heap.size + 1 + 1, 0, none⟩) (b := ⟨w.heap.size + 1 + 1 + 1, 0, none⟩) (c := ⟨w.heap.size + 1 + 1 + 1 + 1, 0, none⟩) rfl rfl rfl (rv_trace q1 rfl) (rv_cell Try.underlying4 rfl q2) (rv_cell Try.underlying35 rfl q3)) rfl ?_
        rw [HR2.out]
        exact ⟨_, _, rfl, q4, q5⟩
end Go.Proofs.Ytdjhjgfjhicbfaa.PWalkTells
namespace Go.Proofs.Ytdjhjgfjhicbfaa.PWalkTells
open Go.RowKit Go.Shelf Go.Maps Go.Proofs.YtdjhjgfjhicbfaaW.PrintWords Go.Proofs.YtdjhjgfjhicbfaaW.PrintLast Go.Proofs.YtdjhjgfjhicbfaaW.PrintMore
set_option linter.unusedVariables false
set_option linter.unusedSimpArgs false
def rowX (A1 A2 A3 A4 A5 : Option Addr) (c1 c2 c3 c4 c5 : Nat) : CP := ⟨1, A1, c1, [⟨2, 0⟩, ⟨4, 0⟩], A2, c2, [⟨6, 4⟩], A3, c3, [], A4, c4, [8], A5, c5, []⟩
def rowL : List S43 := [⟨[0, 0], 0, -1, []⟩, ⟨[1, 0], 1, 0, [1]⟩, ⟨[0, 1], 2, 1, [0]⟩, ⟨[1, 1], 2, 1, [1]⟩]
set_option maxRecDepth 100000 in
theorem row_all (A1 A2 A3 A4 A5 : Option Addr) (c1 c2 c3 c4 c5 : Nat) : (rowX A1 A2 A3 A4 A5 c1 c2 c3 c4 c5).allS = (rowL, 0) := by kernel_rfl
set_option maxRecDepth 100000 in
theorem row_ring (A1 A2 A3 A4 A5 : Option Addr) (c1 c2 c3 c4 c5 : Nat) : (rowX A1 A2 A3 A4 A5 c1 c2 c3 c4 c5).ringS = 2 := by kernel_rfl
set_option maxRecDepth 100000 in
theorem row_bad (A1 A2 A3 A4 A5 : Option Addr) (c1 c2 c3 c4 c5 : Nat) : ((rowX A1 A2 A3 A4 A5 c1 c2 c3 c4 c5).badR 0).2 = (true, 0) := by kernel_rfl
set_option maxRecDepth 100000 in
theorem row_badl (A1 A2 A3 A4 A5 : Option Addr) (c1 c2 c3 c4 c5 : Nat) : ((rowX A1 A2 A3 A4 A5 c1 c2 c3 c4 c5).badR 0).1.frames.length = 3 := by kernel_rfl
theorem row_fit (A1 A2 A3 A4 A5 : Option Addr) (c1 c2 c3 c4 c5 : Nat) : (rowX A1 A2 A3 A4 A5 c1 c2 c3 c4 c5).Fit := by
  refine ⟨?_, ?_, ?_, ?_, ?_, ?_, ?_, ?_, ?_, ?_⟩ <;> simp [rowX]
structure IsRow (x : CP) (w : World) : Prop where
  ok : x.Ok w
  fit : x.Fit
  all : x.allS = (rowL, 0)
  ring : x.ringS = 2
  bad : (x.badR 0).2 = (true, 0)
  len : (x.badR 0).1.frames.length = 3
theorem row_calls (w : World) : Calls Try.prog 27 #[] w fun e w' => ∃ x : CP, e = .returned (.agg #[.int .i64 x.a0, .slice x.A1 x.l1.length x.c1, .slice x.A2 x.l2.length x.c2, .slice x.A3 x.l3.length x.c3, .slice x.A4 x.l4.length x.c4, .slice x.A5 x.l5.length x.c5]) ∧ IsRow x w' ∧ Below w.heap.size w w' := by
  refine (inquestlaw27_row.calls 1 [⟨2, 0⟩, ⟨4, 0⟩] [⟨6, 4⟩] [] [8] [] w rfl).mono ?_
  rintro e w' ⟨v1, v2, v3, v4, v5, rfl, h1, h2, h3, h4, h5, hb⟩
  obtain ⟨A1, c1, rfl, m1, r1⟩ := Kd.R_reads h1
  obtain ⟨A2, c2, rfl, m2, r2⟩ := Kd.R_reads h2
  obtain ⟨A3, c3, rfl, m3, r3⟩ := Kd.R_reads h3
  obtain ⟨A4, c4, rfl, m4, r4⟩ := Kd.R_reads h4
  obtain ⟨A5, c5, rfl, m5, r5⟩ := Kd.R_reads h5
  exact ⟨rowX A1 A2 A3 A4 A5 c1 c2 c3 c4 c5, rfl, ⟨⟨by show _ ≤ (1 : Int) ∧ (1 : Int) ≤ _; decide, r1, m1, r2, m2, r3, m3, r4, m4, r5, m5⟩, row_fit _ _ _ _ _ _ _ _ _ _, row_all _ _ _ _ _ _ _ _ _ _, row_ring _ _ _ _ _ _ _ _ _ _, row_bad _ _ _ _ _ _ _ _ _ _, row_badl _ _ _ _ _ _ _ _ _ _⟩, hb⟩
theorem row_bad_calls {x : CP} {w : World} (h : IsRow x w) : Calls Try.prog 22 #[.agg #[.int .i64 x.a0, .slice x.A1 x.l1.length x.c1, .slice x.A2 x.l2.length x.c2, .slice x.A3 x.l3.length x.c3, .slice x.A4 x.l4.length x.c4, .slice x.A5 x.l5.length x.c5], .int .i64 0] w fun e w' => ∃ b ni Ai ci Af cf, e = .returned (.tuple #[.agg #[.int .i64 b, .slice Ai ni ci, .slice Af 3 cf], .bool true, .int .i64 0]) ∧ Below w.heap.size w w' := by
  refine (badAll_calls x 0 w h.ok h.fit).mono ?_
  rintro e w' ⟨vi, vf, rfl, his, hb⟩
  obtain ⟨Ai, ci, rfl⟩ := Kd.R_slice his.1
  obtain ⟨Af, cf, rfl⟩ := Kd.R_slice his.2
  rw [h.bad, h.len]
  exact ⟨_, _, _, _, _, _, rfl, hb⟩
set_option maxHeartbeats 4000000 in
set_option maxRecDepth 100000 in
theorem lives_calls (w : World) : Calls Try.prog 9 #[] w fun e w' => e = .returned (.bool true) ∧ Below w.heap.size w w' := by
  have HB0 := Aside0.mk (Below.refl w.heap.size w)
  have hlen : rowL.length = 4 := rfl
  go_enter Try.func9, Try.ntmps9
  go_wp2_with (first
    | (go_at_call 27; refine (row_calls _).mono ?_; rintro e w5 ⟨x5, rfl, hx5, hb5⟩; have HT5 := Aside0.mk (blk_below HT4.out hb5); have HO5 := Aside0.mk (Kd.R_below HO4.out hb5); have HB5 := Aside0.mk (HB4.out.trans (hb5.mono HB4.out.size)); have HX5 := Aside0.mk hx5; have HRG := Aside0.mk (ring_calls x5 w5 hx5.ok hx5.fit); rw [hx5.ring, hx5.all] at HRG; clear hb5 hx5)
    | (go_at_call 27; refine (row_calls _).mono ?_; rintro e w3 ⟨x3, rfl, hx3, hb3⟩; have HO3 := Aside0.mk (Kd.R_below HO2.out hb3); have HB3 := Aside0.mk (HB2.out.trans (hb3.mono HB2.out.size)); have HBD := Aside0.mk (row_bad_calls hx3); clear hb3 hx3)
    | (go_at_call 27; refine (row_calls _).mono ?_; rintro e w1 ⟨x1, rfl, hx1, hb1⟩; have HB1 := Aside0.mk (HB0.out.trans (hb1.mono HB0.out.size)); have HAL := Aside0.mk (all_calls x1 w1 hx1.ok hx1.fit); rw [hx1.all] at HAL; clear hb1 hx1)
    | (go_at_call 10; go_must (refine HAL.out.mono ?_; rintro e w2 ⟨v2, rfl, ho2, hb2⟩; obtain ⟨A2, d2, e2⟩ := Kd.R_slice ho2; subst e2; have HO2 := Aside0.mk (Kd.R_lower ho2 HB1.out.size); have HB2 := Aside0.mk (HB1.out.trans (hb2.mono HB1.out.size)); clear ho2 hb2))
    | (go_at_call 22; go_must (refine HBD.out.mono ?_; rintro e w4 ⟨b, ni, Ai, ci, Af, cf, rfl, hb4⟩; have hba := (Below.refl w4.heap.size w4).alloc (Nat.le_refl _) (.cells #[.int .i64 b, .slice Ai ni ci, .slice Af 3 cf] 30); have HT4 := Aside0.mk (heap_alloc_at w4 (.cells #[.int .i64 b, .slice Ai ni ci, .slice Af 3 cf] 30)); have HO4 := Aside0.mk (Kd.R_below (Kd.R_below HO3.out hb4) hba); have HB4 := Aside0.mk ((HB3.out.trans (hb4.mono HB3.out.size)).trans (hba.mono (HB3.out.trans (hb4.mono HB3.out.size)).size)); clear hb4 hba))
    | (go_at_call 24; go_must (refine HRG.out.mono ?_; rintro e w6 ⟨rfl, hb6⟩; have HT6 := Aside0.mk (blk_below HT5.out hb6); have HO6 := Aside0.mk (Kd.R_below HO5.out hb6); have HB6 := Aside0.mk (HB5.out.trans (hb6.mono HB5.out.size)); have kt := cell_blk HT6.out 2 _ rfl; obtain ⟨A', c', h1, _, hrl⟩ := Kd.R_reads HO6.out; cases h1; obtain ⟨ad, A0, c0, A3, c3, e1, hs0, hs1, hs2, hs3, -, -, -, -⟩ := at_state hrl 0 (by decide); subst e1; obtain ⟨ad', B0, b0, B3, b3, e1, hs0', hs1', hs2', hs3', -, -, -, -⟩ := at_state hrl 1 (by decide); cases e1; obtain ⟨ad', B0, b0, B3, b3, e1, hs02, hs12, hs22, hs32, -, -, -, -⟩ := at_state hrl 2 (by decide); cases e1; obtain ⟨ad', B0, b0, B3, b3, e1, hs03, hs13, hs23, hs33, -, -, -, -⟩ := at_state hrl 3 (by decide); cases e1; have z0 : w6.cell? ⟨ad.block, ad.off + 1, none⟩ = some (.int .i64 0) := hs1; have z1 : w6.cell? ⟨ad.block, ad.off + 4 + 1, none⟩ = some (.int .i64 1) := hs1'; have z2 : w6.cell? ⟨ad.block, ad.off + 8 + 1, none⟩ = some (.int .i64 2) := hs12; have z3 : w6.cell? ⟨ad.block, ad.off + 12 + 1, none⟩ = some (.int .i64 2) := hs13; clear hb6 hrl hs0 hs1 hs2 hs3 hs0' hs1' hs2' hs3' hs02 hs12 hs22 hs32 hs03 hs13 hs23 hs33)))
  go_ret
  exact ⟨rfl, HB6.out⟩
end Go.Proofs.Ytdjhjgfjhicbfaa.PWalkTells
