/- A part of the proof of WalkTellsSaid: contracts of functions and plain lemmas; each holds under the hypotheses that it names. -/
import Derived.Test.YtdjhjgfjhicbfaaTellsGb
import Derived.Deep.RegionLaw
namespace Go.Proofs.Ytdjhjgfjhicbfaa.PWalkTells
open Go.RowKit Go.Shelf Go.Proofs.YtdjhjgfjhicbfaaW.PrintWords Go.Proofs.YtdjhjgfjhicbfaaW.PrintLast Go.Proofs.YtdjhjgfjhicbfaaW.PrintMore
set_option linter.unusedVariables false
set_option linter.unusedSimpArgs false
def frameG : List S68 → List Int → List Int
  | [], l => l
  | g :: r, l => frameG r (l ++ [and1 (valS l g.f0) (valS l g.f1)])
def CP.frameS (x : CP) (st inp : List Int) : List Int := frameG x.l2 (0 :: (inp ++ st))
def Bytes (l : List Int) : Prop := ∀ v ∈ l, 0 ≤ v ∧ v ≤ 255
theorem and1_range (a b : Int) : 0 ≤ and1 a b ∧ and1 a b ≤ 255 := by unfold and1; split <;> (try split) <;> omega
theorem frameG_snoc (gs : List S68) (g : S68) (l : List Int) : frameG (gs ++ [g]) l = frameG gs l ++ [and1 (valS (frameG gs l) g.f0) (valS (frameG gs l) g.f1)] := by
  induction gs generalizing l with
  | nil => rfl
  | cons a r ih => simp only [List.cons_append, frameG, ih]
theorem frameG_bytes (gs : List S68) (l : List Int) (h : Bytes l) : Bytes (frameG gs l) := by
  induction gs generalizing l with
  | nil => exact h
  | cons g r ih =>
    refine ih _ (fun v hv => ?_)
    rcases List.mem_append.1 hv with h1 | h1
    · exact h v h1
    · rw [List.mem_singleton.1 h1]; exact and1_range _ _
theorem frameG_length (gs : List S68) (l : List Int) : (frameG gs l).length = l.length + gs.length := by
  induction gs generalizing l with
  | nil => rfl
  | cons g r ih => rw [frameG, ih]; simp; omega
theorem bytes_cons {a : Int} {l : List Int} (h0 : 0 ≤ a ∧ a ≤ 255) (h : Bytes l) : Bytes (a :: l) := fun v hv => by
  rcases List.mem_cons.1 hv with rfl | h1
  · exact h0
  · exact h v h1
theorem bytes_append {l m : List Int} (h : Bytes l) (g : Bytes m) : Bytes (l ++ m) := fun v hv => by
  rcases List.mem_append.1 hv with h1 | h1
  · exact h v h1
  · exact g v h1
theorem three_rows {w : World} {b : Nat} {A0 A1 A2 : Option Addr} {c0 c1 c2 : Nat} {l0 l1 l2 : List Int} {t : TypeId}
    (hb : w.heap[b]? = some (.cells #[.slice A0 l0.length c0, .slice A1 l1.length c1, .slice A2 l2.length c2] t (0, 0)))
    (h0 : l0.length ≤ c0) (h1 : l1.length ≤ c1) (h2 : l2.length ≤ c2)
    (r0 : Kd.C (Kd.int .u8) w A0 l0.length l0) (r1 : Kd.C (Kd.int .u8) w A1 l1.length l1) (r2 : Kd.C (Kd.int .u8) w A2 l2.length l2) :
    Kd.C (Kd.slice 5 (Kd.int .u8)) w (some ⟨b, 0, none⟩) [l0, l1, l2].length [l0, l1, l2] := by
  refine ⟨rfl, by simp, fun _ => ⟨_, rfl, ?_⟩⟩
  intro j p hp
  have hc : ∀ i v, #[Value.slice A0 l0.length c0, .slice A1 l1.length c1, .slice A2 l2.length c2][i]? = some v → w.cell? ⟨b, 0 + i, none⟩ = some v := fun i v hv => by
    rw [Nat.zero_add]; exact cell_blk hb i v hv
  match j, hp with
  | 0, hp =>
    obtain rfl : l0 = p := by simpa using hp
    exact ⟨[.slice A0 l0.length c0], rfl, ⟨A0, c0, rfl, h0, r0⟩, fun i u hu => by
      cases i with
      | zero => obtain rfl := Option.some.inj hu; exact hc 0 _ rfl
      | succ i => simp at hu⟩
  | 1, hp =>
    obtain rfl : l1 = p := by simpa using hp
    exact ⟨[.slice A1 l1.length c1], rfl, ⟨A1, c1, rfl, h1, r1⟩, fun i u hu => by
      cases i with
      | zero => obtain rfl := Option.some.inj hu; exact hc 1 _ rfl
      | succ i => simp at hu⟩
  | 2, hp =>
    obtain rfl : l2 = p := by simpa using hp
    exact ⟨[.slice A2 l2.length c2], rfl, ⟨A2, c2, rfl, h2, r2⟩, fun i u hu => by
      cases i with
      | zero => obtain rfl := Option.some.inj hu; exact hc 2 _ rfl
      | succ i => simp at hu⟩
  | j + 3, hp => simp at hp
theorem one_byte {w : World} {b : Nat} {v : Int} {t : TypeId} (hb : w.heap[b]? = some (.cells #[.int .u8 v] t (0, 0))) : Kd.C (Kd.int .u8) w (some ⟨b, 0, none⟩) [v].length [v] := by
  refine ⟨rfl, by simp, fun _ => ⟨_, rfl, ?_⟩⟩
  intro j p hp
  match j, hp with
  | 0, hp =>
    obtain rfl : v = p := by simpa using hp
    exact ⟨[.int .u8 v], rfl, rfl, fun i u hu => by
      cases i with
      | zero => obtain rfl := Option.some.inj hu; exact cell_blk hb 0 _ rfl
      | succ i => simp at hu⟩
  | j + 1, hp => simp at hp
set_option maxHeartbeats 4000000 in
set_option maxRecDepth 100000 in
theorem frame_calls (x : CP) (A1 A2 : Option Addr) (c1 c2 : Nat) (st inp : List Int) (w : World) (ok : x.Ok w) (fit : x.Fit)
    (hr1 : Kd.C (Kd.int .u8) w A1 st.length st) (hm1 : st.length ≤ c1) (hl1 : Bytes st) (hn1 : st.length ≤ 17592186044416)
    (hr2 : Kd.C (Kd.int .u8) w A2 inp.length inp) (hm2 : inp.length ≤ c2) (hl2 : Bytes inp) (hn2 : inp.length ≤ 17592186044416) :
    Calls Try.prog 65 #[.agg #[.int .i64 x.a0, .slice x.A1 x.l1.length x.c1, .slice x.A2 x.l2.length x.c2, .slice x.A3 x.l3.length x.c3, .slice x.A4 x.l4.length x.c4, .slice x.A5 x.l5.length x.c5], .slice A1 st.length c1, .slice A2 inp.length c2] w fun e w' => ∃ v, e = .returned v ∧ Kd.R (Kd.int .u8) 5 w' w.heap.size (fun _ => True) v (x.frameS st inp) ∧ Below w.heap.size w w' := by
  obtain ⟨W1, hW1⟩ : ∃ W1, W1 = (w.alloc (.cells #[.int .i64 x.a0, .slice x.A1 x.l1.length x.c1, .slice x.A2 x.l2.length x.c2, .slice x.A3 x.l3.length x.c3, .slice x.A4 x.l4.length x.c4, .slice x.A5 x.l5.length x.c5] 26)).alloc (.cells #[.int .u8 0] 5) := ⟨_, rfl⟩
  obtain ⟨W, hW⟩ : ∃ W, W = W1.alloc (.cells #[.slice (some ⟨w.heap.size + 1, 0, none⟩) 1 1, .slice A2 inp.length c2, .slice A1 st.length c1] 27) := ⟨_, rfl⟩
  have hs1 : W1.heap.size = w.heap.size + 2 := by rw [hW1]; simp
  have hb1 : Below w.heap.size w W1 := by rw [hW1]; exact ((Below.refl _ _).alloc (Nat.le_refl _) _).alloc (by simp) _
  have hbW : Below W1.heap.size W1 W := by rw [hW]; exact (Below.refl _ _).alloc (Nat.le_refl _) _
  have hb : Below w.heap.size w W := hb1.trans (hbW.mono hb1.size)
  have hat1 : x.At W1 w.heap.size := by rw [hW1]; exact (CP.at_alloc x w).below ((Below.refl _ _).alloc (Nat.le_refl _) _)
  have hat : x.At W w.heap.size := hat1.below hbW
  have hz1 : W1.heap[w.heap.size + 1]? = some (.cells #[.int .u8 0] 5 (0, 0)) := by
    rw [hW1]
    have : (w.alloc (.cells #[.int .i64 x.a0, .slice x.A1 x.l1.length x.c1, .slice x.A2 x.l2.length x.c2, .slice x.A3 x.l3.length x.c3, .slice x.A4 x.l4.length x.c4, .slice x.A5 x.l5.length x.c5] 26)).heap.size = w.heap.size + 1 := by simp
    rw [← this]; exact heap_alloc_at _ _
  have hz : W.heap[w.heap.size + 1]? = some (.cells #[.int .u8 0] 5 (0, 0)) := (hbW.block _ (by omega)).trans hz1
  have ht : W.heap[w.heap.size + 2]? = some (.cells #[.slice (some ⟨w.heap.size + 1, 0, none⟩) [(0 : Int)].length 1, .slice A2 inp.length c2, .slice A1 st.length c1] 27 (0, 0)) := by
    rw [hW, ← hs1]; exact heap_alloc_at _ _
  have hrows := three_rows ht (by simp) hm2 hm1 (one_byte hz) (Kd.C_below hr2 hb) (Kd.C_below hr1 hb)
  have HC := Aside0.mk (concat_calls (some ⟨w.heap.size + 2, 0, none⟩) 3 [[0], inp, st] W hrows (by simp; omega))
  have HE : Aside0 ([[(0 : Int)], inp, st].flatten = 0 :: (inp ++ st)) := ⟨by simp⟩
  rw [HE.out] at HC
  have HBY : Aside0 (Bytes (0 :: (inp ++ st))) := ⟨bytes_cons (by omega) (bytes_append hl2 hl1)⟩
  have HLN : Aside0 ((0 :: (inp ++ st)).length ≤ 35184372088833) := ⟨by simp; omega⟩
  have HO := Aside0.mk ok
  have HF := Aside0.mk fit
  have HAT := Aside0.mk hat
  have HB := Aside0.mk hb
  have hlen2 : x.l2.length ≤ 9223372036854775807 := ok.r2.2.1
  have HN2 := Aside0.mk fit.n2
  have HWW : Aside0 (W = ((w.alloc (.cells #[.int .i64 x.a0, .slice x.A1 x.l1.length x.c1, .slice x.A2 x.l2.length x.c2, .slice x.A3 x.l3.length x.c3, .slice x.A4 x.l4.length x.c4, .slice x.A5 x.l5.length x.c5] 26)).alloc (.cells #[.int .u8 0] 5)).alloc (.cells #[.slice (some ⟨w.heap.size + 1, 0, none⟩) 1 1, .slice A2 inp.length c2, .slice A1 st.length c1] 27)) := ⟨by rw [hW, hW1]⟩
  clear hs1 hb1 hbW hb hat1 hat hz1 hz ht hrows ok fit hr1 hr2 hl1 hl2 hW hW1 HE hn1 hn2
  rw [HWW.out] at HC HAT HB
  go_enter Try.func65, Try.ntmps65
  go_wp2_with (go_at_call 72; go_must (refine HC.out.mono ?_; rintro e w1 ⟨v1, rfl, ho1, hb1⟩; have HO1 := Aside0.mk (Kd.R_lower ho1 HB.out.size); have HA1 := Aside0.mk (HAT.out.below hb1); have HB1 := Aside0.mk (HB.out.trans (hb1.mono HB.out.size)); clear ho1 hb1; obtain ⟨_, k0, k1, k2, k3, k4, k5⟩ := HA1.out))
  clear k0 k1 k2 k3 k4 k5
  go_loopw [7, 18] (fun u v wr => ∃ k : Nat, k ≤ x.l2.length ∧ v = .int .i64 k ∧ Aside0 (Kd.R (Kd.int .u8) 5 wr w.heap.size (fun _ => True) u (frameG (x.l2.take k) (0 :: (inp ++ st)))) ∧ Below w.heap.size w wr) (fun _ v _ => x.l2.length - (intOf v).toNat)
  case atStart => exact ⟨0, by omega, rfl, HO1, HB1.out⟩
  case round =>
    obtain ⟨k, hk, rfl, HOW, hb⟩ := hrel
    have HBR := Aside0.mk hb
    have ok := HO.out.below hb
    by_cases hlt : k < x.l2.length
    · obtain ⟨ad, e1, hc0, hc1⟩ := at_T68 ok.r2 k (by omega) (by omega)
      have hrd : rd_T68 x.l2 k = x.l2[k] := by simp [rd_T68, List.getD_eq_getElem?_getD, hlt]
      rw [hrd] at hc0 hc1
      simp only [Int.toNat_natCast] at hc0 hc1
      obtain ⟨f0, f1, f2, f3⟩ := HF.out.g2 x.l2[k] (List.getElem_mem hlt)
      have HT : Aside0 (frameG (x.l2.take k) (0 :: (inp ++ st)) ++ [and1 (valS (frameG (x.l2.take k) (0 :: (inp ++ st))) x.l2[k].f0) (valS (frameG (x.l2.take k) (0 :: (inp ++ st))) x.l2[k].f1)] = frameG (x.l2.take (k + 1)) (0 :: (inp ++ st))) :=
        ⟨by rw [List.take_succ_eq_append_getElem hlt, frameG_snoc]⟩
      have HLL : Aside0 ((frameG (x.l2.take k) (0 :: (inp ++ st))).length + 1 ≤ 140737488355328) :=
        ⟨by have := HLN.out; have := HN2.out; rw [frameG_length, List.length_take]; omega⟩
      have HBY2 := Aside0.mk (frameG_bytes (x.l2.take k) _ HBY.out)
      generalize frameG (x.l2.take k) (0 :: (inp ++ st)) = L at HOW HT HLL HBY2
      obtain ⟨Au, cu, rfl⟩ := Kd.R_slice HOW.out
      have hba : Below wr.heap.size wr (wr.alloc (.cells #[.int .u32 x.l2[k].f0, .int .u32 x.l2[k].f1] 68)).drew := ((Below.refl _ _).alloc (Nat.le_refl _) _).drew
      have HBA := Aside0.mk (hb.trans (hba.mono hb.size))
      have HOW2 := Aside0.mk (Kd.R_drew (Kd.R_alloc HOW.out (.cells #[.int .u32 x.l2[k].f0, .int .u32 x.l2[k].f1] 68)))
      obtain ⟨A, c, h1, h2, hrL⟩ := Kd.R_reads HOW2.out
      cases h1
      have HV0 := Aside0.mk ((value_calls Au cu L x.l2[k].f0 _ hrL HBY2.out f0 f1).mono (fun _ _ h => And.intro h.1 h.2.symm))
      have HV1 := Aside0.mk ((value_calls Au cu L x.l2[k].f1 _ hrL HBY2.out f2 f3).mono (fun _ _ h => And.intro h.1 h.2.symm))
      obtain ⟨r0, r1⟩ := valS_range L x.l2[k].f0 HBY2.out
      obtain ⟨r2, r3⟩ := valS_range L x.l2[k].f1 HBY2.out
      have HA := fun W => Aside0.mk ((and1_calls _ _ W r0 r1 r2 r3).mono (fun _ _ h => And.intro h.1 h.2.symm))
      have HAA := Aside0.mk HA
      clear HA
      generalize valS L x.l2[k].f0 = v0 at HV0 HT HAA r0 r1
      generalize valS L x.l2[k].f1 = v1 at HV1 HT HAA r2 r3
      generalize and1 v0 v1 = v2 at HT HAA
      clear ok hrd hba hb hrL
      go_wp2_with fail
      go_region_law (first
        | (refine Kd.R_append_step (W := (wr.alloc (.cells #[.int .u32 x.l2[k].f0, .int .u32 x.l2[k].f1] 68)).drew) (Kd.int .u8) (w0 := w) w.heap.size rfl (.tmp 22) (.tmp 32) 27 5 (.int .u8 0) 1 rfl Try.underlying27 info5 rfl (by decide) (by omega) (.slice Au L.length cu) L v2 [.int .u8 v2] (fun _ => True) (fun _ => False) rfl (by first | rfl | (show Value.slice (some ⟨_, 0, none⟩) 1 1 = _; simp)) rfl (fun _ hk => hk.elim) (fun _ _ => trivial) HOW2.out HBA.out HBA.out.size (by have := HLL.out; omega) ?_
           intro v9 w9 ho hb9 hg9 hat9
           rw [HT.out] at ho
           have HO9 := Aside0.mk ho
           have HB9 := Aside0.mk hb9
           clear ho hb9 hg9 hat9)
        | (go_simp; go_at_call 73; refine (HAA.out _).out.mono ?_; rintro e w1 ⟨rfl, rfl⟩)
        | (go_simp; go_at_call 52; first | ((with_reducible refine HV0.out.mono ?_); rintro e w1 ⟨rfl, rfl⟩) | ((with_reducible refine HV1.out.mono ?_); rintro e w1 ⟨rfl, rfl⟩)))
      all_goals
        go_wp2
        rw [e1]
        refine ⟨?_, by simp [intOf]; omega⟩
        (repeat apply Exists.intro)
        exact ⟨⟨k + 1, by omega, by go_num, HO9, HB9.out⟩, rfl⟩
    · have hk' : k = x.l2.length := by omega
      have HT : Aside0 (frameG (x.l2.take k) (0 :: (inp ++ st)) = x.frameS st inp) := ⟨by rw [hk', List.take_length]; rfl⟩
      rw [HT.out] at HOW
      clear ok hk' HT hb
      go_wp2
      go_ret
      exact ⟨_, rfl, HOW.out, HBR.out⟩
end Go.Proofs.Ytdjhjgfjhicbfaa.PWalkTells
namespace Go.Proofs.Ytdjhjgfjhicbfaa.PWalkTells
open Go.RowKit Go.Shelf Go.Proofs.YtdjhjgfjhicbfaaW.PrintWords Go.Proofs.YtdjhjgfjhicbfaaW.PrintLast Go.Proofs.YtdjhjgfjhicbfaaW.PrintMore
set_option linter.unusedVariables false
set_option linter.unusedSimpArgs false
set_option maxHeartbeats 4000000 in
set_option maxRecDepth 100000 in
theorem full_calls (x : CP) (A1 A2 : Option Addr) (c1 c2 : Nat) (st inp : List Int) (w : World) (ok : x.Ok w) (fit : x.Fit) (hmay : x.may = true) (hv1 : valuesS st (x.l1.length : Int) = true) (hv2 : valuesS inp x.a0 = true)
    (hr1 : Kd.C (Kd.int .u8) w A1 st.length st) (hm1 : st.length ≤ c1) (hl1 : Bytes st) (hn1 : st.length ≤ 17592186044416)
    (hr2 : Kd.C (Kd.int .u8) w A2 inp.length inp) (hm2 : inp.length ≤ c2) (hl2 : Bytes inp) (hn2 : inp.length ≤ 17592186044416) :
    Calls Try.prog 50 #[.agg #[.int .i64 x.a0, .slice x.A1 x.l1.length x.c1, .slice x.A2 x.l2.length x.c2, .slice x.A3 x.l3.length x.c3, .slice x.A4 x.l4.length x.c4, .slice x.A5 x.l5.length x.c5], .slice A1 st.length c1, .slice A2 inp.length c2] w fun e w' => ∃ v u, e = .returned (.tuple #[v, u, .int .i64 0]) ∧
      Kd.R (Kd.int .u8) 5 w' w.heap.size (fun _ => True) v (x.frameS st inp) ∧ Kd.R (Kd.int .u8) 5 w' w.heap.size (fun _ => True) u (x.nextS (x.frameS st inp)) ∧ Below w.heap.size w w' := by
  have hb : Below w.heap.size w (w.alloc (.cells #[.int .i64 x.a0, .slice x.A1 x.l1.length x.c1, .slice x.A2 x.l2.length x.c2, .slice x.A3 x.l3.length x.c3, .slice x.A4 x.l4.length x.c4, .slice x.A5 x.l5.length x.c5] 26)) := (Below.refl _ _).alloc (Nat.le_refl _) _
  have HAT := Aside0.mk (CP.at_alloc x w)
  have HB := Aside0.mk hb
  have HO := Aside0.mk ok
  have HM := fun W (h : Below w.heap.size w W) => may_calls x W (ok.below h) fit
  rw [hmay] at HM
  have HMM := Aside0.mk HM
  have HV1 := fun W (h : Below w.heap.size w W) => values_calls A1 c1 st (x.l1.length : Int) W (Kd.C_below hr1 h) hl1
  rw [hv1] at HV1
  have HVV1 := Aside0.mk HV1
  have HV2 := fun W (h : Below w.heap.size w W) => values_calls A2 c2 inp x.a0 W (Kd.C_below hr2 h) hl2
  rw [hv2] at HV2
  have HVV2 := Aside0.mk HV2
  have HFR := fun W (h : Below w.heap.size w W) => frame_calls x A1 A2 c1 c2 st inp W (ok.below h) fit (Kd.C_below hr1 h) hm1 hl1 hn1 (Kd.C_below hr2 h) hm2 hl2 hn2
  have HFF := Aside0.mk HFR
  have HF := Aside0.mk fit
  have HBY : Aside0 (Bytes (x.frameS st inp)) := ⟨frameG_bytes _ _ (bytes_cons (by omega) (bytes_append hl2 hl1))⟩
  obtain ⟨_, k0, k1, k2, k3, k4, k5⟩ := HAT.out
  clear hb ok HM HV1 HV2 HFR hmay hv1 hv2 hr1 hr2 hl1 hl2 fit hm1 hm2 hn1 hn2
  go_enter Try.func50, Try.ntmps50
  go_wp2_with (first
    | (go_at_call 28; go_must (refine (HMM.out _ HB.out).mono ?_; rintro e w1 ⟨rfl, hb1⟩; have HA1 := Aside0.mk (HAT.out.below hb1); have HB1 := Aside0.mk (HB.out.trans (hb1.mono HB.out.size)); clear hb1 k0 k1 k2 k3 k4 k5; obtain ⟨_, k0, k1, k2, k3, k4, k5⟩ := HA1.out)))
  go_wp2_with fail
  refine (HVV1.out _ HB1.out).mono ?_
  rintro e w2 ⟨rfl, hb2⟩
  have HA2 := Aside0.mk (HA1.out.below hb2)
  have HB2 := Aside0.mk (HB1.out.trans (hb2.mono HB1.out.size))
  clear hb2 k0 k1 k2 k3 k4 k5
  obtain ⟨_, k0, k1, k2, k3, k4, k5⟩ := HA2.out
  go_wp2_with fail
  refine (HVV2.out _ HB2.out).mono ?_
  rintro e w3 ⟨rfl, hb3⟩
  have HA3 := Aside0.mk (HA2.out.below hb3)
  have HB3 := Aside0.mk (HB2.out.trans (hb3.mono HB2.out.size))
  clear hb3 k0 k1 k2 k3 k4 k5
  obtain ⟨_, k0, k1, k2, k3, k4, k5⟩ := HA3.out
  go_wp2_with fail
  refine (HFF.out _ HB3.out).mono ?_
  rintro e w4 ⟨v4, rfl, ho4, hb4⟩
  have HA4 := Aside0.mk (HA3.out.below hb4)
  have HB4 := Aside0.mk (HB3.out.trans (hb4.mono HB3.out.size))
  have ho4' := Kd.R_lower ho4 HB3.out.size
  obtain ⟨A4, c4, rfl⟩ := Kd.R_slice ho4
  have HO4 := Aside0.mk ho4'
  clear ho4 ho4' hb4 k0 k1 k2 k3 k4 k5
  obtain ⟨_, k0, k1, k2, k3, k4, k5⟩ := HA4.out
  go_wp2_with fail
  have hrd : Kd.C (Kd.int .u8) w4 A4 (x.frameS st inp).length (x.frameS st inp) := by
    obtain ⟨A, c, h1, h2, h3⟩ := Kd.R_reads HO4.out
    cases h1
    exact h3
  have HNX := Aside0.mk (next_calls x A4 c4 (x.frameS st inp) w4 (HO.out.below HB4.out) HF.out hrd HBY.out)
  clear hrd
  refine HNX.out.mono ?_
  rintro e w5 ⟨v5, rfl, ho5, hb5⟩
  have HO5 := Aside0.mk (Kd.R_lower ho5 HB4.out.size)
  have HB5 := Aside0.mk (HB4.out.trans (hb5.mono HB4.out.size))
  have HO4' := Aside0.mk (Kd.R_below HO4.out hb5)
  clear ho5 hb5
  go_wp2
  go_ret3
  exact ⟨_, _, rfl, HO4'.out, HO5.out, HB5.out⟩
end Go.Proofs.Ytdjhjgfjhicbfaa.PWalkTells
namespace Go.Proofs.Ytdjhjgfjhicbfaa.PWalkTells
open Go.RowKit Go.Shelf Go.Proofs.YtdjhjgfjhicbfaaW.PrintWords Go.Proofs.YtdjhjgfjhicbfaaW.PrintLast Go.Proofs.YtdjhjgfjhicbfaaW.PrintMore
set_option linter.unusedVariables false
set_option linter.unusedSimpArgs false
def wayS (n m : Nat) : List Int := (List.range m).map (fun i => ((n / 2 ^ i % 2 : Nat) : Int))
theorem wayS_length (n m : Nat) : (wayS n m).length = m := by simp [wayS]
theorem wayS_bit (n m : Nat) : ∀ v ∈ wayS n m, v = 0 ∨ v = 1 := by
  intro v hv
  obtain ⟨i, _, rfl⟩ := List.mem_map.1 hv
  omega
def wayTo (n m i : Nat) : List Int := (wayS n i) ++ List.replicate (m - i) 0
theorem wayTo_zero (n m : Nat) : wayTo n m 0 = List.replicate m 0 := by simp [wayTo, wayS]
theorem wayTo_full (n m : Nat) : wayTo n m m = wayS n m := by simp [wayTo]
theorem wayTo_length (n m i : Nat) (h : i ≤ m) : (wayTo n m i).length = m := by simp [wayTo, wayS_length]; omega
theorem wayTo_succ (n m i : Nat) (h : i < m) : (wayTo n m i).set i ((n / 2 ^ i % 2 : Nat) : Int) = wayTo n m (i + 1) := by
  unfold wayTo
  rw [List.set_append_right _ _ (by rw [wayS_length]; exact Nat.le_refl i), wayS_length, Nat.sub_self]
  have : List.replicate (m - i) (0 : Int) = 0 :: List.replicate (m - (i + 1)) 0 := by
    rw [show m - i = (m - (i + 1)) + 1 by omega, List.replicate_succ]
  rw [this, List.set_cons_zero]
  simp [wayS, List.range_succ]
theorem and_one_i64 (i : Nat) (hi : i < 9223372036854775808) : bits BinOp.and IntKind.i64 (i : Int) 1 = ((i % 2 : Nat) : Int) := by
  have := bits_mask .i64 63 (by decide) (fun n h0 h1 => by rw [IntKind.wrap_i64]; omega) 1 (by decide) (i : Int) (by omega) (by omega)
  simpa using this
set_option maxHeartbeats 4000000 in
set_option maxRecDepth 100000 in
theorem ways3_calls (F : FuncId) (hF : Enters Try.prog F) (q1 q2 q3 : Value) (m : Nat) (hm : m ≤ 10) (I D : Nat → World → Prop) (w : World)
    (h0 : I 0 w)
    (hstep : ∀ n W0 W v, n < 2 ^ m → I n W0 → Below W0.heap.size W0 W → Kd.R (Kd.int .u8) 5 W W0.heap.size (fun _ => True) v (wayS n m) →
      Calls Try.prog F #[v, q1, q2, q3] W fun e w' => ∃ b, e = .returned (.bool b) ∧ (b = true → I (n + 1) w') ∧ (b = false → D n w')) :
    Calls Try.prog 48 #[.int .i64 m, .func (.func F) #[] #[q1, q2, q3]] w fun e w' => e = .returned (.tuple #[]) ∧ (I (2 ^ m) w' ∨ ∃ n, n < 2 ^ m ∧ D n w') := by
  have hF' := hF
  unfold Enters at hF'
  have HS := Aside0.mk hstep
  have HI := Aside0.mk h0
  have hpow : (2 : Nat) ^ m ≤ 1024 := Nat.le_trans (Nat.pow_le_pow_right (by decide) hm) (by decide)
  obtain ⟨p, hp⟩ : ∃ p, p = 2 ^ m := ⟨_, rfl⟩
  have HP := Aside0.mk hp
  have hp1 : p ≤ 1024 := by rw [hp]; exact hpow
  have hpw : wrap64 ((2 : Int) ^ m) = (p : Int) := by
    have e : ((2 ^ m : Nat) : Int) = (2 : Int) ^ m := by push_cast; rfl
    rw [← e, ← hp]; unfold wrap64; omega
  have HPW := Aside0.mk hpw
  clear hpw hstep h0 hpow hp
  go_enter Try.func48, Try.ntmps48
  go_wp2
  rw [HPW.out]
  go_loopw [9] (fun v wr => ∃ n : Nat, n ≤ p ∧ v = .int .i64 n ∧ Aside0 (I n wr)) (fun v _ => p - (intOf v).toNat)
  case atStart => exact ⟨0, by omega, rfl, HI⟩
  case round =>
    obtain ⟨n, hn, rfl, HIN⟩ := hrel
    by_cases hlt : n < p
    · go_wp2_with ((with_reducible refine gate_dst (N := 13) rfl ?_); go_must (refine Kd.R_make (Kd.int .u8) (w0 := wr) wr.heap.size 5 rfl rfl 27 (.tmp 12) (.tmp 12) rfl (m : Int) rfl rfl Try.underlying27 (.int .u8 0) 1 info5 rfl (by decide) (by decide) 0 (ok := fun _ => True) (okp := fun _ => True) rfl (fun _ _ => trivial) trivial (by omega) (by omega) (Below.refl _ _) (Nat.le_refl _) ?_; intro v1 w1 ho hb hg hx; obtain ⟨A1, c1, rfl⟩ := Kd.R_slice ho; have HO := Aside0.mk ho; have HB := Aside0.mk hb; clear ho hb hg hx))
      have HO0 : Aside0 (Kd.R (Kd.int .u8) 5 w1 wr.heap.size (fun _ => True) (.slice A1 m c1) (wayTo n m 0)) := ⟨by
        rw [wayTo_zero]
        have := HO.out
        simpa using this⟩
      clear HO
      obtain ⟨wo, rfl⟩ : ∃ wo : World, wo = wr := ⟨_, rfl⟩
      go_loopw [16] (fun v wi => ∃ i : Nat, i ≤ m ∧ v = .int .i64 i ∧ Aside0 (Kd.R (Kd.int .u8) 5 wi wo.heap.size (fun _ => True) (.slice A1 m c1) (wayTo n m i)) ∧ Aside0 (Below wo.heap.size wo wi)) (fun v _ => m - (intOf v).toNat)
      case atStart => exact ⟨0, by omega, rfl, HO0, HB⟩
      case round =>
        obtain ⟨i, hi, rfl, HOI, HBI⟩ := hrel
        by_cases hlt2 : i < m
        · obtain ⟨g, cap, e1, hg0, hg1, cells, hgc⟩ := Kd.R_form HOI.out (by rw [wayTo_length _ _ _ (by omega)]; omega)
          injection e1 with e1 e2 e3
          subst e1
          subst e3
          have hlen := wayTo_length n m i (by omega)
          have HOI2 : Aside0 (Kd.R (Kd.int .u8) 5 wr wo.heap.size (fun _ => True) (.slice (some ⟨g, 0, none⟩) (wayTo n m i).length c1) (wayTo n m i)) := ⟨by rw [hlen]; exact HOI.out⟩
          obtain ⟨hc0, hf0⟩ := Kd.R_cell (0 : Int) HOI2.out (i : Int) (by omega) (by rw [hlen]; omega)
          simp only [Int.toNat_natCast] at hc0 hf0
          have HPUT := Aside0.mk (Kd.R_put HOI2.out (i : Int) ((n / 2 ^ i % 2 : Nat) : Int))
          have HGB : Aside0 (Below wo.heap.size wo (wr.setCell ⟨g, i, none⟩ (.int .u8 ((n / 2 ^ i % 2 : Nat) : Int)))) := ⟨HBI.out.setCell (p := ⟨g, i, none⟩) hg0 _⟩
          have HW : Aside0 (Kd.R (Kd.int .u8) 5 (wr.setCell ⟨g, i, none⟩ (.int .u8 ((n / 2 ^ i % 2 : Nat) : Int))) wo.heap.size (fun _ => True) (.slice (some ⟨g, 0, none⟩) m c1) (wayTo n m (i + 1))) := ⟨by
            have := HPUT.out.1
            rw [hlen, Int.toNat_natCast, wayTo_succ _ _ _ hlt2] at this
            exact this⟩
          clear HPUT HOI2 hlen hgc e2 hg0 hg1
          have HBV : Aside0 (bits BinOp.and IntKind.i64 ((n : Int) / 2 ^ i) 1 % 256 = ((n / 2 ^ i % 2 : Nat) : Int)) := ⟨by
            have e : ((n : Int) / 2 ^ i) = ((n / 2 ^ i : Nat) : Int) := by push_cast; rfl
            have hsm : n / 2 ^ i ≤ n := Nat.div_le_self _ _
            rw [e, and_one_i64 _ (by omega)]
            omega⟩
          go_wp2
          rw [HBV.out]
          exact ⟨⟨i + 1, by omega, by go_num, HW, HGB⟩, by simp [intOf]; omega⟩
        · have hi' : i = m := by omega
          have HV : Aside0 (Kd.R (Kd.int .u8) 5 wr wo.heap.size (fun _ => True) (.slice A1 m c1) (wayS n m)) := ⟨by
            have := HOI.out
            rw [hi', wayTo_full] at this
            exact this⟩
          have HCALL := Aside0.mk (HS.out n wo wr _ (by rw [← HP.out]; exact hlt) HIN.out HBI.out HV.out)
          clear hi' HOI HV
          go_wp2_with (go_at_fn F; go_must (refine HCALL.out.mono ?_; rintro e w9 ⟨b, rfl, hb1, hb0⟩; have HY := Aside0.mk hb1; have HNO := Aside0.mk hb0; clear hb1 hb0; cases b))
          · refine bodyPost_ret (results_none (fn := Try.f48) rfl _ _ _) rfl ?_
            exact ⟨rfl, Or.inr ⟨n, by rw [← HP.out]; exact hlt, HNO.out (by trivial)⟩⟩
          · refine ⟨⟨n + 1, by omega, by go_num, ⟨HY.out (by trivial)⟩⟩, by simp [intOf]; omega⟩
    · have hn' : n = p := by omega
      rw [hn', HP.out] at HIN
      go_wp2
      refine bodyPost_end (results_none rfl _ _ _) rfl ?_
      exact ⟨rfl, Or.inl HIN.out⟩
set_option maxHeartbeats 4000000 in
set_option maxRecDepth 100000 in
theorem ways5_calls (F : FuncId) (hF : Enters Try.prog F) (q1 q2 q3 q4 q5 : Value) (m : Nat) (hm : m ≤ 10) (I D : Nat → World → Prop) (w : World)
    (h0 : I 0 w)
    (hstep : ∀ n W0 W v, n < 2 ^ m → I n W0 → Below W0.heap.size W0 W → Kd.R (Kd.int .u8) 5 W W0.heap.size (fun _ => True) v (wayS n m) →
      Calls Try.prog F #[v, q1, q2, q3, q4, q5] W fun e w' => ∃ b, e = .returned (.bool b) ∧ (b = true → I (n + 1) w') ∧ (b = false → D n w')) :
    Calls Try.prog 48 #[.int .i64 m, .func (.func F) #[] #[q1, q2, q3, q4, q5]] w fun e w' => e = .returned (.tuple #[]) ∧ (I (2 ^ m) w' ∨ ∃ n, n < 2 ^ m ∧ D n w') := by
  have hF' := hF
  unfold Enters at hF'
  have HS := Aside0.mk hstep
  have HI := Aside0.mk h0
  have hpow : (2 : Nat) ^ m ≤ 1024 := Nat.le_trans (Nat.pow_le_pow_right (by decide) hm) (by decide)
  obtain ⟨p, hp⟩ : ∃ p, p = 2 ^ m := ⟨_, rfl⟩
  have HP := Aside0.mk hp
  have hp1 : p ≤ 1024 := by rw [hp]; exact hpow
  have hpw : wrap64 ((2 : Int) ^ m) = (p : Int) := by
    have e : ((2 ^ m : Nat) : Int) = (2 : Int) ^ m := by push_cast; rfl
    rw [← e, ← hp]; unfold wrap64; omega
  have HPW := Aside0.mk hpw
  clear hpw hstep h0 hpow hp
  go_enter Try.func48, Try.ntmps48
  go_wp2
  rw [HPW.out]
  go_loopw [9] (fun v wr => ∃ n : Nat, n ≤ p ∧ v = .int .i64 n ∧ Aside0 (I n wr)) (fun v _ => p - (intOf v).toNat)
  case atStart => exact ⟨0, by omega, rfl, HI⟩
  case round =>
    obtain ⟨n, hn, rfl, HIN⟩ := hrel
    by_cases hlt : n < p
    · go_wp2_with ((with_reducible refine gate_dst (N := 13) rfl ?_); go_must (refine Kd.R_make (Kd.int .u8) (w0 := wr) wr.heap.size 5 rfl rfl 27 (.tmp 12) (.tmp 12) rfl (m : Int) rfl rfl Try.underlying27 (.int .u8 0) 1 info5 rfl (by decide) (by decide) 0 (ok := fun _ => True) (okp := fun _ => True) rfl (fun _ _ => trivial) trivial (by omega) (by omega) (Below.refl _ _) (Nat.le_refl _) ?_; intro v1 w1 ho hb hg hx; obtain ⟨A1, c1, rfl⟩ := Kd.R_slice ho; have HO := Aside0.mk ho; have HB := Aside0.mk hb; clear ho hb hg hx))
      have HO0 : Aside0 (Kd.R (Kd.int .u8) 5 w1 wr.heap.size (fun _ => True) (.slice A1 m c1) (wayTo n m 0)) := ⟨by
        rw [wayTo_zero]
        have := HO.out
        simpa using this⟩
      clear HO
      obtain ⟨wo, rfl⟩ : ∃ wo : World, wo = wr := ⟨_, rfl⟩
      go_loopw [16] (fun v wi => ∃ i : Nat, i ≤ m ∧ v = .int .i64 i ∧ Aside0 (Kd.R (Kd.int .u8) 5 wi wo.heap.size (fun _ => True) (.slice A1 m c1) (wayTo n m i)) ∧ Aside0 (Below wo.heap.size wo wi)) (fun v _ => m - (intOf v).toNat)
      case atStart => exact ⟨0, by omega, rfl, HO0, HB⟩
      case round =>
        obtain ⟨i, hi, rfl, HOI, HBI⟩ := hrel
        by_cases hlt2 : i < m
        · obtain ⟨g, cap, e1, hg0, hg1, cells, hgc⟩ := Kd.R_form HOI.out (by rw [wayTo_length _ _ _ (by omega)]; omega)
          injection e1 with e1 e2 e3
          subst e1
          subst e3
          have hlen := wayTo_length n m i (by omega)
          have HOI2 : Aside0 (Kd.R (Kd.int .u8) 5 wr wo.heap.size (fun _ => True) (.slice (some ⟨g, 0, none⟩) (wayTo n m i).length c1) (wayTo n m i)) := ⟨by rw [hlen]; exact HOI.out⟩
          obtain ⟨hc0, hf0⟩ := Kd.R_cell (0 : Int) HOI2.out (i : Int) (by omega) (by rw [hlen]; omega)
          simp only [Int.toNat_natCast] at hc0 hf0
          have HPUT := Aside0.mk (Kd.R_put HOI2.out (i : Int) ((n / 2 ^ i % 2 : Nat) : Int))
          have HGB : Aside0 (Below wo.heap.size wo (wr.setCell ⟨g, i, none⟩ (.int .u8 ((n / 2 ^ i % 2 : Nat) : Int)))) := ⟨HBI.out.setCell (p := ⟨g, i, none⟩) hg0 _⟩
          have HW : Aside0 (Kd.R (Kd.int .u8) 5 (wr.setCell ⟨g, i, none⟩ (.int .u8 ((n / 2 ^ i % 2 : Nat) : Int))) wo.heap.size (fun _ => True) (.slice (some ⟨g, 0, none⟩) m c1) (wayTo n m (i + 1))) := ⟨by
            have := HPUT.out.1
            rw [hlen, Int.toNat_natCast, wayTo_succ _ _ _ hlt2] at this
            exact this⟩
          clear HPUT HOI2 hlen hgc e2 hg0 hg1
          have HBV : Aside0 (bits BinOp.and IntKind.i64 ((n : Int) / 2 ^ i) 1 % 256 = ((n / 2 ^ i % 2 : Nat) : Int)) := ⟨by
            have e : ((n : Int) / 2 ^ i) = ((n / 2 ^ i : Nat) : Int) := by push_cast; rfl
            have hsm : n / 2 ^ i ≤ n := Nat.div_le_self _ _
            rw [e, and_one_i64 _ (by omega)]
            omega⟩
          go_wp2
          rw [HBV.out]
          exact ⟨⟨i + 1, by omega, by go_num, HW, HGB⟩, by simp [intOf]; omega⟩
        · have hi' : i = m := by omega
          have HV : Aside0 (Kd.R (Kd.int .u8) 5 wr wo.heap.size (fun _ => True) (.slice A1 m c1) (wayS n m)) := ⟨by
            have := HOI.out
            rw [hi', wayTo_full] at this
            exact this⟩
          have HCALL := Aside0.mk (HS.out n wo wr _ (by rw [← HP.out]; exact hlt) HIN.out HBI.out HV.out)
          clear hi' HOI HV
          go_wp2_with (go_at_fn F; go_must (refine HCALL.out.mono ?_; rintro e w9 ⟨b, rfl, hb1, hb0⟩; have HY := Aside0.mk hb1; have HNO := Aside0.mk hb0; clear hb1 hb0; cases b))
          · refine bodyPost_ret (results_none (fn := Try.f48) rfl _ _ _) rfl ?_
            exact ⟨rfl, Or.inr ⟨n, by rw [← HP.out]; exact hlt, HNO.out (by trivial)⟩⟩
          · refine ⟨⟨n + 1, by omega, by go_num, ⟨HY.out (by trivial)⟩⟩, by simp [intOf]; omega⟩
    · have hn' : n = p := by omega
      rw [hn', HP.out] at HIN
      go_wp2
      refine bodyPost_end (results_none rfl _ _ _) rfl ?_
      exact ⟨rfl, Or.inl HIN.out⟩
set_option maxHeartbeats 4000000 in
set_option maxRecDepth 100000 in
theorem ways8_calls (F : FuncId) (hF : Enters Try.prog F) (q1 q2 q3 q4 q5 q6 q7 q8 : Value) (m : Nat) (hm : m ≤ 10) (I D : Nat → World → Prop) (w : World)
    (h0 : I 0 w)
    (hstep : ∀ n W0 W v, n < 2 ^ m → I n W0 → Below W0.heap.size W0 W → Kd.R (Kd.int .u8) 5 W W0.heap.size (fun _ => True) v (wayS n m) →
      Calls Try.prog F #[v, q1, q2, q3, q4, q5, q6, q7, q8] W fun e w' => ∃ b, e = .returned (.bool b) ∧ (b = true → I (n + 1) w') ∧ (b = false → D n w')) :
    Calls Try.prog 48 #[.int .i64 m, .func (.func F) #[] #[q1, q2, q3, q4, q5, q6, q7, q8]] w fun e w' => e = .returned (.tuple #[]) ∧ (I (2 ^ m) w' ∨ ∃ n, n < 2 ^ m ∧ D n w') := by
  have hF' := hF
  unfold Enters at hF'
  have HS := Aside0.mk hstep
  have HI := Aside0.mk h0
  have hpow : (2 : Nat) ^ m ≤ 1024 := Nat.le_trans (Nat.pow_le_pow_right (by decide) hm) (by decide)
  obtain ⟨p, hp⟩ : ∃ p, p = 2 ^ m := ⟨_, rfl⟩
  have HP := Aside0.mk hp
  have hp1 : p ≤ 1024 := by rw [hp]; exact hpow
  have hpw : wrap64 ((2 : Int) ^ m) = (p : Int) := by
    have e : ((2 ^ m : Nat) : Int) = (2 : Int) ^ m := by push_cast; rfl
    rw [← e, ← hp]; unfold wrap64; omega
  have HPW := Aside0.mk hpw
  clear hpw hstep h0 hpow hp
  go_enter Try.func48, Try.ntmps48
  go_wp2
  rw [HPW.out]
  go_loopw [9] (fun v wr => ∃ n : Nat, n ≤ p ∧ v = .int .i64 n ∧ Aside0 (I n wr)) (fun v _ => p - (intOf v).toNat)
  case atStart => exact ⟨0, by omega, rfl, HI⟩
  case round =>
    obtain ⟨n, hn, rfl, HIN⟩ := hrel
    by_cases hlt : n < p
    · go_wp2_with ((with_reducible refine gate_dst (N := 13) rfl ?_); go_must (refine Kd.R_make (Kd.int .u8) (w0 := wr) wr.heap.size 5 rfl rfl 27 (.tmp 12) (.tmp 12) rfl (m : Int) rfl rfl Try.underlying27 (.int .u8 0) 1 info5 rfl (by decide) (by decide) 0 (ok := fun _ => True) (okp := fun _ => True) rfl (fun _ _ => trivial) trivial (by omega) (by omega) (Below.refl _ _) (Nat.le_refl _) ?_; intro v1 w1 ho hb hg hx; obtain ⟨A1, c1, rfl⟩ := Kd.R_slice ho; have HO := Aside0.mk ho; have HB := Aside0.mk hb; clear ho hb hg hx))
      have HO0 : Aside0 (Kd.R (Kd.int .u8) 5 w1 wr.heap.size (fun _ => True) (.slice A1 m c1) (wayTo n m 0)) := ⟨by
        rw [wayTo_zero]
        have := HO.out
        simpa using this⟩
      clear HO
      obtain ⟨wo, rfl⟩ : ∃ wo : World, wo = wr := ⟨_, rfl⟩
      go_loopw [16] (fun v wi => ∃ i : Nat, i ≤ m ∧ v = .int .i64 i ∧ Aside0 (Kd.R (Kd.int .u8) 5 wi wo.heap.size (fun _ => True) (.slice A1 m c1) (wayTo n m i)) ∧ Aside0 (Below wo.heap.size wo wi)) (fun v _ => m - (intOf v).toNat)
      case atStart => exact ⟨0, by omega, rfl, HO0, HB⟩
      case round =>
        obtain ⟨i, hi, rfl, HOI, HBI⟩ := hrel
        by_cases hlt2 : i < m
        · obtain ⟨g, cap, e1, hg0, hg1, cells, hgc⟩ := Kd.R_form HOI.out (by rw [wayTo_length _ _ _ (by omega)]; omega)
          injection e1 with e1 e2 e3
          subst e1
          subst e3
          have hlen := wayTo_length n m i (by omega)
          have HOI2 : Aside0 (Kd.R (Kd.int .u8) 5 wr wo.heap.size (fun _ => True) (.slice (some ⟨g, 0, none⟩) (wayTo n m i).length c1) (wayTo n m i)) := ⟨by rw [hlen]; exact HOI.out⟩
          obtain ⟨hc0, hf0⟩ := Kd.R_cell (0 : Int) HOI2.out (i : Int) (by omega) (by rw [hlen]; omega)
          simp only [Int.toNat_natCast] at hc0 hf0
          have HPUT := Aside0.mk (Kd.R_put HOI2.out (i : Int) ((n / 2 ^ i % 2 : Nat) : Int))
          have HGB : Aside0 (Below wo.heap.size wo (wr.setCell ⟨g, i, none⟩ (.int .u8 ((n / 2 ^ i % 2 : Nat) : Int)))) := ⟨HBI.out.setCell (p := ⟨g, i, none⟩) hg0 _⟩
          have HW : Aside0 (Kd.R (Kd.int .u8) 5 (wr.setCell ⟨g, i, none⟩ (.int .u8 ((n / 2 ^ i % 2 : Nat) : Int))) wo.heap.size (fun _ => True) (.slice (some ⟨g, 0, none⟩) m c1) (wayTo n m (i + 1))) := ⟨by
            have := HPUT.out.1
            rw [hlen, Int.toNat_natCast, wayTo_succ _ _ _ hlt2] at this
            exact this⟩
          clear HPUT HOI2 hlen hgc e2 hg0 hg1
          have HBV : Aside0 (bits BinOp.and IntKind.i64 ((n : Int) / 2 ^ i) 1 % 256 = ((n / 2 ^ i % 2 : Nat) : Int)) := ⟨by
            have e : ((n : Int) / 2 ^ i) = ((n / 2 ^ i : Nat) : Int) := by push_cast; rfl
            have hsm : n / 2 ^ i ≤ n := Nat.div_le_self _ _
            rw [e, and_one_i64 _ (by omega)]
            omega⟩
          go_wp2
          rw [HBV.out]
          exact ⟨⟨i + 1, by omega, by go_num, HW, HGB⟩, by simp [intOf]; omega⟩
        · have hi' : i = m := by omega
          have HV : Aside0 (Kd.R (Kd.int .u8) 5 wr wo.heap.size (fun _ => True) (.slice A1 m c1) (wayS n m)) := ⟨by
            have := HOI.out
            rw [hi', wayTo_full] at this
            exact this⟩
          have HCALL := Aside0.mk (HS.out n wo wr _ (by rw [← HP.out]; exact hlt) HIN.out HBI.out HV.out)
          clear hi' HOI HV
          go_wp2_with (go_at_fn F; go_must (refine HCALL.out.mono ?_; rintro e w9 ⟨b, rfl, hb1, hb0⟩; have HY := Aside0.mk hb1; have HNO := Aside0.mk hb0; clear hb1 hb0; cases b))
          · refine bodyPost_ret (results_none (fn := Try.f48) rfl _ _ _) rfl ?_
            exact ⟨rfl, Or.inr ⟨n, by rw [← HP.out]; exact hlt, HNO.out (by trivial)⟩⟩
          · refine ⟨⟨n + 1, by omega, by go_num, ⟨HY.out (by trivial)⟩⟩, by simp [intOf]; omega⟩
    · have hn' : n = p := by omega
      rw [hn', HP.out] at HIN
      go_wp2
      refine bodyPost_end (results_none rfl _ _ _) rfl ?_
      exact ⟨rfl, Or.inl HIN.out⟩
end Go.Proofs.Ytdjhjgfjhicbfaa.PWalkTells
namespace Go.Proofs.Ytdjhjgfjhicbfaa.PWalkTells
open Go.RowKit Go.Shelf Go.Proofs.YtdjhjgfjhicbfaaW.PrintWords Go.Proofs.YtdjhjgfjhicbfaaW.PrintLast Go.Proofs.YtdjhjgfjhicbfaaW.PrintMore
set_option linter.unusedVariables false
set_option linter.unusedSimpArgs false
theorem at_state {w : World} {A : Option Addr} {xs : List S43} (h : Kd.C k43 w A xs.length xs) (k : Nat) (hk : k < xs.length) : ∃ ad A0 c0 A3 c3, A = some ad ∧ w.cell? (ad.add (k * 4)) = some (.slice A0 xs[k].f0.length c0) ∧ w.cell? ⟨(ad.add (k * 4)).block, (ad.add (k * 4)).off + 1, none⟩ = some (.int .i64 xs[k].f1) ∧ w.cell? ⟨(ad.add (k * 4)).block, (ad.add (k * 4)).off + 2, none⟩ = some (.int .i64 xs[k].f2) ∧ w.cell? ⟨(ad.add (k * 4)).block, (ad.add (k * 4)).off + 3, none⟩ = some (.slice A3 xs[k].f3.length c3) ∧ xs[k].f0.length ≤ c0 ∧ (Kd.int .u8).C w A0 xs[k].f0.length xs[k].f0 ∧ xs[k].f3.length ≤ c3 ∧ (Kd.int .u8).C w A3 xs[k].f3.length xs[k].f3 := by
  obtain ⟨ad, c, e, _, hK, hc0⟩ := Kd.C_get h z43 (k : Int) (by omega) (by omega)
  have hg : xs.getD (k : Int).toNat z43 = xs[k] := by simp [List.getD_eq_getElem?_getD, hk]
  rw [hg] at hK
  have hc : ∀ j u, c[j]? = some u → w.cell? (ad.add (k * 4 + j)) = some u := hc0
  obtain ⟨A0, c0, A3, c3, rfl, l0, g0, l3, g3⟩ := k43_open hK
  exact ⟨ad, A0, c0, A3, c3, e, hc 0 _ rfl, by rw [← add_field _ _ 1 (by omega)]; exact hc 1 _ rfl, by rw [← add_field _ _ 2 (by omega)]; exact hc 2 _ rfl, by rw [← add_field _ _ 3 (by omega)]; exact hc 3 _ rfl, l0, g0, l3, g3⟩
theorem bytes_apart {W : World} {base : Nat} {v vl : Value} {l : List Int} {L : List S43} (h : Kd.R (Kd.int .u8) 5 W base (fun _ => True) v l) (hL : Kd.R k43 43 W base (fun _ => True) vl L) :
    Kd.R (Kd.int .u8) 5 W base (fun k => some k ≠ vl.ownBlock) v l := by
  refine Kd.R_mono (Kd.R_bound h) (fun k hk he => ?_)
  obtain ⟨_, _, _, q, hq, cells, hc⟩ := hk
  obtain ⟨cells', hc'⟩ := Kd.R_typed hL k he.symm
  rw [hc] at hc'
  have hq' : q = 5 := by simpa [Kd.int, Kd.scalar] using hq
  subst hq'
  injection hc' with hc'
  injection hc' with _ hc' _
  exact absurd hc' (by decide)
def LVar (W : World) (base gl : Nat) (L : List S43) : Prop :=
  ∃ vl, W.heap[gl]? = some (.cells #[vl] 34 (0, 0)) ∧ Kd.R k43 43 W base (fun _ => True) vl L
theorem LVar.below {W W1 : World} {base gl : Nat} {L : List S43} (h : LVar W base gl L) (hb : Below W.heap.size W W1) : LVar W1 base gl L := by
  obtain ⟨vl, h1, h2⟩ := h
  exact ⟨vl, blk_below h1 hb, Kd.R_below h2 hb⟩
theorem LVar.ne {W : World} {base gl : Nat} {vl : Value} (h1 : W.heap[gl]? = some (.cells #[vl] 34 (0, 0))) {v : Value} {L' : List S43} (h2 : Kd.R k43 43 W base (fun _ => True) v L') : some gl ≠ v.ownBlock :=
  Kd.R_ne h2 h1 (by decide)
theorem state_set {W : World} {base gl t : Nat} {cs : Array Value} {v : Value} {L : List S43} (h2 : Kd.R k43 43 W base (fun _ => True) v L) (h1 : W.heap[gl]? = some (.cells cs t (0, 0))) (ht : t ≠ 43 ∧ t ≠ 5) (i : Nat) (u : Value) :
    Kd.R k43 43 (W.setCell ⟨gl, i, none⟩ u) base (fun _ => True) v L :=
  Kd.R_set h2 h1 (by
    intro q hq
    have : q ∈ [43, 5, 5] := hq
    simp at this
    rcases this with rfl | rfl
    · exact fun h => ht.1 h.symm
    · exact fun h => ht.2 h.symm) i u
theorem LVar.put {W : World} {base gl : Nat} {v0 v : Value} {L : List S43} (h1 : W.heap[gl]? = some (.cells #[v0] 34 (0, 0))) (h2 : Kd.R k43 43 W base (fun _ => True) v L) :
    LVar (W.setCell ⟨gl, 0, none⟩ v) base gl L :=
  ⟨v, blk_put h1 0 v rfl, Kd.R_set h2 h1 (by intro q hq; have : q ∈ [43, 5, 5] := hq; simp at this; rcases this with rfl | rfl <;> decide) 0 v⟩
def KeepT (ts : List Nat) (w w' : World) : Prop := ∀ (k : Nat) (cs : Array Value) (t : TypeId), w.heap[k]? = some (Obj.cells cs t (0, 0)) → t ∉ ts → w'.heap[k]? = some (Obj.cells cs t (0, 0))
theorem KeepT.refl (ts : List Nat) (w : World) : KeepT ts w w := fun _ _ _ h _ => h
theorem KeepT.trans {ts : List Nat} {a b c : World} (h : KeepT ts a b) (g : KeepT ts b c) : KeepT ts a c := fun k cs t e n => g k cs t (h k cs t e n) n
theorem KeepT.of_below {ts : List Nat} {w w' : World} (h : Below w.heap.size w w') : KeepT ts w w' := fun k cs t e _ => blk_below e h
theorem KeepT.set {ts : List Nat} {w : World} {g t : Nat} {cs : Array Value} (h : w.heap[g]? = some (.cells cs t (0, 0))) (ht : t ∈ ts) (i : Nat) (v : Value) : KeepT ts w (w.setCell ⟨g, i, none⟩ v) :=
  fun k cs' t' e n => (Below.heap_setCell w ⟨g, i, none⟩ v k (by
    rintro rfl
    rw [h] at e
    injection e with e
    injection e with _ e _
    exact n (e ▸ ht))).trans e
theorem KeepT.grown {ts : List Nat} {w w' : World} {α : Type} {d : Kd α} {e base : Nat} {v : Value} {xs : List α} (h : Kd.R d e w base (fun _ => True) v xs) (he : e ∈ ts) (hg : w.grownBy w' v.ownBlock) : KeepT ts w w' :=
  fun k cs t ec n => blk_grown ec hg (fun ek => by
    obtain ⟨cells, hc⟩ := Kd.R_typed h k ek.symm
    rw [hc] at ec
    injection ec with ec
    injection ec with _ ec _
    exact n (ec ▸ he))
theorem R_keepT {ts : List Nat} {w w' : World} {α : Type} {d : Kd α} {e base : Nat} {v : Value} {xs : List α} (h : Kd.R d e w base (fun _ => True) v xs) (ht : ∀ q, q ∈ e :: d.E → q ∉ ts) (hk : KeepT ts w w') :
    Kd.R d e w' base (fun _ => True) v xs :=
  Kd.R_mono (Kd.R_move (Kd.R_bound h) (fun k hq => by
    obtain ⟨_, _, _, q, hq, cells, hc⟩ := hq
    exact (hk k cells q hc (ht q hq)).trans hc.symm)) (fun _ _ => trivial)
theorem CP.At.keep {x : CP} {ts : List Nat} {w w' : World} {gb : Nat} (h : x.At w gb) (ht : 26 ∉ ts) (hk : KeepT ts w w') : x.At w' gb := CP.at_mk (hk gb _ _ h.blk ht)
theorem rv_cell {P : Program} {w : World} {t : TypeId} {a : Addr} {d : TypeDesc} {v : Value} (hu : P.underlying t = some d) (hd : (match d with | .struct _ | .array _ _ => false | _ => true) = true) (hc : w.cell? a = some v) :
    (loadVar t a).run P w = .ok v w := by
  have ha : (isAgg t).run P w = .ok false w := by
    unfold isAgg underlying
    simp only [Sem.run_bind]
    simp [hu]
    cases d <;> first | rfl | simp at hd
  have hl : (Sem.load Mode.plain a Sem.pure).run P w = .ok v w := by simp [Sem.run, hc]
  unfold loadVar load
  simp [ha, hl]
theorem results_c {P : Program} {fn : Func} {p : Tmp} {ty : TypeId} (h : fn.results = #[.cell p ty]) {tmps : Array Value} {w : World} {a : Addr} {v : Value}
    (hp : tmps.getD p undef = .pointer (some a)) (hr : (loadVar ty a).run P w = .ok v w) : (results fn tmps).run P w = .ok v w := by
  have hp' : tmps[p]?.getD undef = .pointer (some a) := by simpa using hp
  simp [results, h, hp', asAddr, hr]
theorem results_c2 {P : Program} {fn : Func} {p q : Tmp} {ty ty' : TypeId} (h : fn.results = #[.cell p ty, .cell q ty']) {tmps : Array Value} {w : World} {a b : Addr} {u v : Value}
    (hp : tmps.getD p undef = .pointer (some a)) (hq : tmps.getD q undef = .pointer (some b)) (hr : (loadVar ty a).run P w = .ok u w) (hs : (loadVar ty' b).run P w = .ok v w) : (results fn tmps).run P w = .ok (.tuple #[u, v]) w := by
  have hp' : tmps[p]?.getD undef = .pointer (some a) := by simpa using hp
  have hq' : tmps[q]?.getD undef = .pointer (some b) := by simpa using hq
  simp [results, h, hp', hq', asAddr, hr, hs]
theorem results_c3 {P : Program} {fn : Func} {p q r : Tmp} {ty ty' ty2 : TypeId} (h : fn.results = #[.cell p ty, .cell q ty', .cell r ty2]) {tmps : Array Value} {w : World} {a b c : Addr} {u v x : Value}
    (hp : tmps.getD p undef = .pointer (some a)) (hq : tmps.getD q undef = .pointer (some b)) (hx : tmps.getD r undef = .pointer (some c)) (hr : (loadVar ty a).run P w = .ok u w) (hs : (loadVar ty' b).run P w = .ok v w) (ht : (loadVar ty2 c).run P w = .ok x w) :
    (results fn tmps).run P w = .ok (.tuple #[u, v, x]) w := by
  have hp' : tmps[p]?.getD undef = .pointer (some a) := by simpa using hp
  have hq' : tmps[q]?.getD undef = .pointer (some b) := by simpa using hq
  have hx' : tmps[r]?.getD undef = .pointer (some c) := by simpa using hx
  simp [results, h, hp', hq', hx', asAddr, hr, hs, ht]
end Go.Proofs.Ytdjhjgfjhicbfaa.PWalkTells
namespace Go.Proofs.Ytdjhjgfjhicbfaa.PWalkTells
open Go.RowKit Go.Shelf Go.Proofs.YtdjhjgfjhicbfaaW.PrintWords Go.Proofs.YtdjhjgfjhicbfaaW.PrintLast Go.Proofs.YtdjhjgfjhicbfaaW.PrintMore
set_option linter.unusedVariables false
set_option linter.unusedSimpArgs false
def freeG : List S61 → Int → List Int
  | [], _ => []
  | s :: r, i => if s.f1 = 2 then i :: freeG r (i + 1) else freeG r (i + 1)
def CP.freeS (x : CP) : List Int := freeG x.l1 0
theorem freeG_length (l : List S61) : ∀ i, (freeG l i).length ≤ l.length := by
  induction l with
  | nil => intro i; simp [freeG]
  | cons s r ih => intro i; have := ih (i + 1); unfold freeG; split <;> simp <;> omega
theorem freeG_range (l : List S61) : ∀ i, ∀ v ∈ freeG l i, i ≤ v ∧ v < i + (l.length : Int) := by
  induction l with
  | nil => intro i v hv; simp [freeG] at hv
  | cons s r ih =>
    intro i v hv
    unfold freeG at hv
    have hlen : ((s :: r).length : Int) = (r.length : Int) + 1 := by simp
    split at hv
    · rcases List.mem_cons.1 hv with rfl | h
      · rw [hlen]; omega
      · have := ih _ v h; rw [hlen]; omega
    · have := ih _ v hv; rw [hlen]; omega
theorem free_run (l : List S61) (hn : l.length < 17592186044416) : ∀ (d i : Nat) (acc : List Int), i + d = l.length → acc.length ≤ i →
    walk_free.l0 (d + 1) acc l (l.length : Int) (i : Int) = some (acc ++ freeG (l.drop i) (i : Int)) := by
  intro d
  induction d with
  | zero =>
    intro i acc hi ha
    rw [List.drop_eq_nil_of_le (by omega)]
    simp only [walk_free.l0]
    rw [if_neg (by omega)]
    simp [freeG]
  | succ d ih =>
    intro i acc hi ha
    have hlt : i < l.length := by omega
    have hrd : rd_T61 l (i : Int) = l[i] := by simp [rd_T61, List.getD_eq_getElem?_getD, hlt]
    have hw : wrap64 ((i : Int) + 1) = ((i + 1 : Nat) : Int) := by unfold wrap64; omega
    rw [List.drop_eq_getElem_cons hlt, walk_free.l0, if_pos (by omega), if_pos (by omega), if_pos (by omega), hrd, hw]
    unfold freeG
    by_cases h2 : l[i].f1 = 2
    · rw [if_pos h2, if_pos h2, if_pos (by omega), ih (i + 1) _ (by omega) (by simp; omega)]
      simp
    · rw [if_neg h2, if_neg h2, ih (i + 1) _ (by omega) (by omega)]
      simp
theorem free_calls (x : CP) (w : World) (ok : x.Ok w) (fit : x.Fit) :
    Calls Try.prog 29 #[.agg #[.int .i64 x.a0, .slice x.A1 x.l1.length x.c1, .slice x.A2 x.l2.length x.c2, .slice x.A3 x.l3.length x.c3, .slice x.A4 x.l4.length x.c4, .slice x.A5 x.l5.length x.c5]] w fun e w' => ∃ v, e = .returned v ∧ Kd.R (Kd.int .i64) 3 w' w.heap.size (fun _ => True) v x.freeS ∧ Below w.heap.size w w' := by
  have hn := fit.n1
  refine walk_free.calls (x.l1.length + 1) x.a0 x.A1 x.c1 x.l1 x.A2 x.c2 x.l2 x.A3 x.c3 x.l3 x.A4 x.c4 x.l4 x.A5 x.c5 x.l5 x.freeS w ok.r1 ok.m1 ok.r2 ok.m2 ok.r3 ok.m3 ok.r4 ok.m4 ok.r5 ok.m5 ?_
  unfold walk_free.f
  have := free_run x.l1 (by omega) x.l1.length 0 [] (by omega) (by simp)
  simpa [CP.freeS] using this
def CP.resetS (x : CP) : List Int := x.l1.map (fun s => s.f1)
def firstK (open_ bits s0 : List Int) (k : Nat) : List Int := ((open_.take k).zip (bits.take k)).foldl (fun s p => s.set p.1.toNat p.2) s0
theorem firstK_zero (o b s : List Int) : firstK o b s 0 = s := by simp [firstK]
theorem firstK_succ (o b s : List Int) (k : Nat) (h1 : k < o.length) (h2 : k < b.length) : firstK o b s (k + 1) = (firstK o b s k).set o[k].toNat b[k] := by
  unfold firstK
  rw [List.take_succ_eq_append_getElem h1, List.take_succ_eq_append_getElem h2, List.zip_append (by simp; omega), List.foldl_append]
  rfl
theorem firstK_length (o b s : List Int) (k : Nat) : (firstK o b s k).length = s.length := by
  unfold firstK
  generalize (o.take k).zip (b.take k) = l
  induction l generalizing s with
  | nil => rfl
  | cons p r ih => rw [List.foldl_cons, ih, List.length_set]
def CP.firstS (x : CP) (n : Nat) : S43 := ⟨firstK x.freeS (wayS n x.freeS.length) x.resetS x.freeS.length, 0, -1, []⟩
set_option maxHeartbeats 4000000 in
set_option maxRecDepth 100000 in
theorem firstOne_calls (x : CP) (gc go gl n m base : Nat) (A : Option Addr) (c : Nat) (Ao : Option Addr) (co : Nat) (L : List S43) (w : World) (ok : x.Ok w) (fit : x.Fit)
    (hat : x.At w gc) (hgo : w.cell? ⟨go, 0, none⟩ = some (.slice Ao x.freeS.length co)) (hro : Kd.C (Kd.int .i64) w Ao x.freeS.length x.freeS) (hm : m = x.freeS.length)
    (hr : Kd.C (Kd.int .u8) w A (wayS n m).length (wayS n m)) (hL : LVar w base gl L) (hgl : base ≤ gl) (hbs : base ≤ w.heap.size) (hn : L.length ≤ 1024) :
    Calls Try.prog 70 #[.slice A m c, .pointer (some ⟨gc, 0, none⟩), .pointer (some ⟨go, 0, none⟩), .pointer (some ⟨gl, 0, none⟩)] w fun e w' =>
      e = .returned (.bool true) ∧ LVar w' base gl (L ++ [x.firstS n]) ∧ Below base w w' ∧ KeepT [34, 43] w w' := by
  have HO := Aside0.mk ok
  have HF := Aside0.mk fit
  have HRO := Aside0.mk hro
  have HR := Aside0.mk hr
  have HL := Aside0.mk hL
  have HAT := Aside0.mk hat
  have HM := Aside0.mk hm
  have hlen1 : x.l1.length ≤ 9223372036854775807 := ok.r1.2.1
  have hN1 := fit.n1
  obtain ⟨_, k0, k1, k2, k3, k4, k5⟩ := HAT.out
  clear ok fit hro hr hat hm
  go_enter Try.func70, Try.ntmps70
  go_wp2
  go_loopw [6, 14] (fun u v wr => ∃ k : Nat, k ≤ x.l1.length ∧ v = .int .i64 k ∧ Aside0 (Kd.R (Kd.int .u8) 5 wr w.heap.size (fun _ => True) u (x.resetS.take k)) ∧ Below w.heap.size w wr) (fun _ v _ => x.l1.length - (intOf v).toNat)
  case atStart => exact ⟨0, by omega, rfl, ⟨Kd.R_nil _ _ _ _ _⟩, Below.refl _ _⟩
  case round =>
    clear k0 k1 k2 k3 k4 k5
    obtain ⟨k, hk, rfl, HOW, hb⟩ := hrel
    have HB := Aside0.mk hb
    have ok := HO.out.below hb
    by_cases hlt : k < x.l1.length
    · obtain ⟨ad, e1, hc0, hc1⟩ := at_T61 ok.r1 k (by omega) (by omega)
      have hrd : rd_T61 x.l1 k = x.l1[k] := by simp [rd_T61, List.getD_eq_getElem?_getD, hlt]
      rw [hrd] at hc0 hc1
      simp only [Int.toNat_natCast] at hc0 hc1
      have hba : Below wr.heap.size wr (wr.alloc (.cells #[.int .u32 x.l1[k].f0, .int .u8 x.l1[k].f1] 61)) := (Below.refl _ _).alloc (Nat.le_refl _) _
      have HBA := Aside0.mk (hb.trans (hba.mono hb.size))
      have HOW2 := Aside0.mk (Kd.R_alloc HOW.out (.cells #[.int .u32 x.l1[k].f0, .int .u8 x.l1[k].f1] 61))
      have HT : Aside0 (x.resetS.take k ++ [x.l1[k].f1] = x.resetS.take (k + 1)) :=
        ⟨by unfold CP.resetS; rw [List.take_succ_eq_append_getElem (by simpa using hlt)]; simp⟩
      have HLL : Aside0 ((x.resetS.take k).length = k) := ⟨by unfold CP.resetS; rw [List.length_take, List.length_map]; omega⟩
      clear ok hrd hba hb
      go_wp2_with ((with_reducible refine gate_builtin (b := .append) (xs := #[.tmp 18, .tmp 21]) rfl ?_); go_must (at_builtin; refine Kd.R_append (Kd.int .u8) (w0 := w) w.heap.size rfl (.tmp 18) (.tmp 21) 27 5 (.int .u8 0) 1 rfl Try.underlying27 info5 rfl (by decide) (by omega) u6 (x.resetS.take k) x.l1[k].f1 [.int .u8 x.l1[k].f1] (fun _ => True) (fun _ => False) rfl (by first | rfl | (show Value.slice (some ⟨_, 0, none⟩) 1 1 = _; simp)) ?aP (fun _ hk => hk.elim) ?aF ?aO ?aB ?aS ?aL ?_; (case aP => exact rfl); (case aB => exact HBA.out); (case aF => exact (fun _ _ => trivial)); (case aO => exact HOW2.out); (case aS => exact HBA.out.size); (case aL => have := HLL.out; omega); intro v9 w9 ho hb9 hg9 hat9; rw [HT.out] at ho; have HO9 := Aside0.mk ho; have HB9 := Aside0.mk hb9; clear ho hb9 hg9 hat9))
      rw [e1]
      refine ⟨?_, by simp [intOf]; omega⟩
      (repeat apply Exists.intro)
      exact ⟨⟨k + 1, by omega, by go_num, HO9, HB9.out⟩, rfl⟩
    · have hk' : k = x.l1.length := by omega
      have HS0 : Aside0 (Kd.R (Kd.int .u8) 5 wr w.heap.size (fun _ => True) u6 (firstK x.freeS (wayS n m) x.resetS 0)) := ⟨by
        have := HOW.out
        rw [hk', List.take_of_length_le (by simp [CP.resetS])] at this
        rw [firstK_zero]; exact this⟩
      have hgo2 : wr.cell? ⟨go, 0, none⟩ = some (.slice Ao x.freeS.length co) := (hb.cell (World.block_lt_of_cell? w _ hgo)).trans hgo
      have hfl := freeG_length x.l1 0
      have hfl2 : x.freeS.length ≤ 9223372036854775807 := by unfold CP.freeS; omega
      obtain ⟨wo, rfl⟩ : ∃ wo : World, wo = wr := ⟨_, rfl⟩
      clear ok hk' HOW hb hfl
      go_wp2
      go_loopw [26] (fun v wr => ∃ k : Nat, k ≤ x.freeS.length ∧ v = .int .i64 k ∧ Aside0 (Kd.R (Kd.int .u8) 5 wr w.heap.size (fun _ => True) u6 (firstK x.freeS (wayS n m) x.resetS k)) ∧ Below w.heap.size w wr) (fun v _ => x.freeS.length - (intOf v).toNat)
      case atStart => exact ⟨0, by omega, rfl, HS0, HB.out⟩
      case round =>
        obtain ⟨k, hk, rfl, HOI, hb⟩ := hrel
        have HBI := Aside0.mk hb
        have hlenS := firstK_length x.freeS (wayS n m) x.resetS k
        have hlenR : x.resetS.length = x.l1.length := by simp [CP.resetS]
        by_cases hlt : k < x.freeS.length
        · obtain ⟨q0, q1⟩ := freeG_range x.l1 0 x.freeS[k] (List.getElem_mem hlt)
          obtain ⟨j, hj⟩ := Int.eq_ofNat_of_zero_le q0
          have hj1 : j < x.l1.length := by omega
          have hwl := wayS_length n m
          have hkm : k < (wayS n m).length := by rw [hwl, HM.out]; exact hlt
          obtain ⟨ad, e1, hc1⟩ := Kd.at_int (Kd.C_below HRO.out hb) k (by omega) (by omega)
          subst e1
          have hr1 : rd x.freeS k = (j : Int) := by rw [← hj]; simp [rd, List.getD_eq_getElem?_getD, hlt]
          rw [hr1] at hc1
          simp only [Int.toNat_natCast] at hc1
          obtain ⟨ad2, e2, hc2⟩ := Kd.at_int (Kd.C_below HR.out hb) k (by omega) (by omega)
          subst e2
          have hr2 : rd (wayS n m) k = (wayS n m)[k] := by simp [rd, List.getD_eq_getElem?_getD, hkm]
          rw [hr2] at hc2
          simp only [Int.toNat_natCast] at hc2
          obtain ⟨g, cap, e3, hg0, hg1, cells, hgc⟩ := Kd.R_form HOI.out (by rw [hlenS, hlenR]; omega)
          subst e3
          obtain ⟨hc0, hf0⟩ := Kd.R_cell (0 : Int) HOI.out (j : Int) (by omega) (by rw [hlenS, hlenR]; omega)
          simp only [Int.toNat_natCast] at hc0 hf0
          have HPUT := Aside0.mk (Kd.R_put HOI.out (j : Int) (wayS n m)[k])
          have HGB : Aside0 (Below w.heap.size w (wr.setCell ⟨g, j, none⟩ (.int .u8 (wayS n m)[k]))) := ⟨hb.setCell (p := ⟨g, j, none⟩) hg0 _⟩
          rw [hlenS, hlenR] at HOI HPUT ⊢
          have HW : Aside0 (Kd.R (Kd.int .u8) 5 (wr.setCell ⟨g, j, none⟩ (.int .u8 (wayS n m)[k])) w.heap.size (fun _ => True) (.slice (some ⟨g, 0, none⟩) x.l1.length cap) (firstK x.freeS (wayS n m) x.resetS (k + 1))) := ⟨by
            have := HPUT.out.1
            rw [firstK_succ _ _ _ _ hlt hkm, hj]
            exact this⟩
          have hkm2 : k < m := by rw [HM.out]; exact hlt
          clear HPUT hlenS hlenR hgc hg0 hg1 hr1 hr2 hwl hb hj q0 q1
          go_wp2
          exact ⟨⟨k + 1, by omega, by go_num, HW, HGB.out⟩, by simp [intOf]; omega⟩
        · have hk' : k = x.freeS.length := by omega
          obtain ⟨A6, c6, e6⟩ := Kd.R_slice HOI.out
          rw [hlenS] at e6
          subst e6
          obtain ⟨vl, hv1, hv2⟩ := hL.below hb
          have HV1 := Aside0.mk hv1
          have HV2 := Aside0.mk hv2
          have hcl := cell_blk hv1 0 _ rfl
          have hfl := blk_frozen hv1 0
          rw [hk'] at HOI
          have hsb := bytes_apart (Kd.R_lower HOI.out hbs) hv2
          rw [HM.out] at hsb
          have HSB := Aside0.mk hsb
          clear hsb
          have HBB := Aside0.mk (hb.mono hbs)
          have HKT : Aside0 (KeepT [34, 43] w wr) := ⟨KeepT.of_below hb⟩
          clear hlenS hlenR hb hv1 hv2 HOI hk'
          go_wp2_with ((with_reducible refine gate_builtin (b := .append) (xs := #[.tmp 39, .tmp 42]) rfl ?_); go_must (at_builtin; refine Kd.R_append k43 (w0 := w) base rfl (.tmp 39) (.tmp 42) 34 43 (.agg #[.slice none 0 0, .int .i64 0, .int .i64 0, .slice none 0 0]) 64 rfl Try.underlying34 info43 rfl (by decide) (by omega) vl L (x.firstS n) [.slice A6 x.resetS.length c6, .int .i64 0, .int .i64 (-1), .slice none 0 0] (fun _ => True) (fun k => some k ≠ vl.ownBlock) rfl (by first | rfl | (show Value.slice (some ⟨_, 0, none⟩) 1 1 = _; simp)) ?aP (fun _ hk => ⟨trivial, hk⟩) ?aF ?aO ?aB ?aS ?aL ?_; (case aP => exact k43_mkM _ _ _ (x.firstS n) HSB.out (Kd.R_nil _ _ _ _ _)); (case aB => exact HBB.out); (case aF => exact (fun _ _ => trivial)); (case aO => exact HV2.out); (case aS => exact Nat.le_trans hbs HBB.out.size); (case aL => omega); intro v9 w9 ho hb9 hg9 hat9; obtain ⟨A9, c9, e9⟩ := Kd.R_slice ho; rw [List.length_append, List.length_singleton] at e9; subst e9; have hv9 := blk_grown HV1.out hg9 (LVar.ne HV1.out HV2.out); have HV9 := Aside0.mk hv9; have hcl9 := cell_blk hv9 0 _ rfl; have hfl9 := blk_frozen hv9 0; have HK9 := Aside0.mk (HKT.out.trans (KeepT.grown (ts := [34, 43]) HV2.out (by decide) hg9)); have HO9 := Aside0.mk ho; have HB9 := Aside0.mk hb9; clear ho hb9 hg9 hat9 hv9))
          go_ret
          exact ⟨rfl, LVar.put HV9.out HO9.out, HB9.out.setCell (p := ⟨gl, 0, none⟩) hgl _, HK9.out.trans (KeepT.set HV9.out (by decide) 0 _)⟩
theorem enters_firstOne : Enters Try.prog 70 := enters_of Try.func70 (by kernel_rfl) rfl
def CP.firstsS (x : CP) : List S43 := (List.range (2 ^ x.freeS.length)).map x.firstS
def FirstInv (x : CP) (w : World) (gc go gl : Nat) (Ao : Option Addr) (co : Nat) (n : Nat) (W : World) : Prop :=
  x.At W gc ∧ W.heap[go]? = some (.cells #[.slice Ao x.freeS.length co] 63 (0, 0)) ∧ Kd.R (Kd.int .i64) 3 W w.heap.size (fun _ => True) (.slice Ao x.freeS.length co) x.freeS ∧
    LVar W w.heap.size gl ((List.range n).map x.firstS) ∧ Below w.heap.size w W
theorem firstInv_step (x : CP) (w : World) (ok : x.Ok w) (fit : x.Fit) (hf : x.freeS.length ≤ 10) (gc go gl : Nat) (Ao : Option Addr) (co : Nat) (hgl : w.heap.size ≤ gl)
    (n : Nat) (W0 W : World) (v : Value) (hn : n < 2 ^ x.freeS.length) (hI : FirstInv x w gc go gl Ao co n W0) (hb : Below W0.heap.size W0 W) (hv : Kd.R (Kd.int .u8) 5 W W0.heap.size (fun _ => True) v (wayS n x.freeS.length)) :
    Calls Try.prog 70 #[v, .pointer (some ⟨gc, 0, none⟩), .pointer (some ⟨go, 0, none⟩), .pointer (some ⟨gl, 0, none⟩)] W fun e w' =>
      ∃ b, e = .returned (.bool b) ∧ (b = true → FirstInv x w gc go gl Ao co (n + 1) w') ∧ (b = false → False) := by
  obtain ⟨hat, hgo, hro, hL, hbw⟩ := hI
  have hpow : (2 : Nat) ^ x.freeS.length ≤ 1024 := Nat.le_trans (Nat.pow_le_pow_right (by decide) hf) (by decide)
  have hbW := hbw.trans (hb.mono hbw.size)
  obtain ⟨A, c, rfl⟩ := Kd.R_slice hv
  obtain ⟨A', c', h1, _, hr⟩ := Kd.R_reads hv
  cases h1
  have hro' := Kd.R_below hro hb
  obtain ⟨A', c', h1, _, hor⟩ := Kd.R_reads hro'
  cases h1
  have hgo' := blk_below hgo hb
  rw [wayS_length]
  refine (firstOne_calls x gc go gl n x.freeS.length w.heap.size A c Ao co ((List.range n).map x.firstS) W (ok.below hbW) fit (hat.below hb) (cell_blk hgo' 0 _ rfl) hor rfl hr (hL.below hb) hgl hbW.size (by simp; omega)).mono ?_
  rintro e w' ⟨rfl, hL', hb', hk'⟩
  refine ⟨true, rfl, fun _ => ⟨(hat.below hb).keep (by decide) hk', hk' _ _ _ hgo' (by decide), R_keepT hro' (by intro q hq; have : q ∈ [3] := hq; simp at this; subst this; decide) hk', ?_, hbW.trans hb'⟩, fun h => by cases h⟩
  rw [List.range_succ, List.map_append]
  exact hL'
set_option maxHeartbeats 4000000 in
set_option maxRecDepth 100000 in
theorem firsts_calls (x : CP) (w : World) (ok : x.Ok w) (fit : x.Fit) (hf : x.freeS.length ≤ 10) :
    Calls Try.prog 56 #[.agg #[.int .i64 x.a0, .slice x.A1 x.l1.length x.c1, .slice x.A2 x.l2.length x.c2, .slice x.A3 x.l3.length x.c3, .slice x.A4 x.l4.length x.c4, .slice x.A5 x.l5.length x.c5]] w fun e w' => ∃ v, e = .returned v ∧ Kd.R k43 43 w' w.heap.size (fun _ => True) v x.firstsS ∧ Below w.heap.size w w' := by
  have hmf : ∀ (fn : Fn) (first cap : Array Value) (w : World), (Instr.makeFunc fn first cap).run Try.prog w = .ok (.func fn first cap) w := fun _ _ _ _ => rfl
  obtain ⟨W1, hW1⟩ : ∃ W1, W1 = (w.alloc (.cells #[.int .i64 x.a0, .slice x.A1 x.l1.length x.c1, .slice x.A2 x.l2.length x.c2, .slice x.A3 x.l3.length x.c3, .slice x.A4 x.l4.length x.c4, .slice x.A5 x.l5.length x.c5] 26)).alloc (.cells #[.slice none 0 0] 34) := ⟨_, rfl⟩
  have hs1 : W1.heap.size = w.heap.size + 2 := by rw [hW1]; simp
  have hb1 : Below w.heap.size w W1 := by rw [hW1]; exact ((Below.refl _ _).alloc (Nat.le_refl _) _).alloc (by simp) _
  have hat1 : x.At W1 w.heap.size := by rw [hW1]; exact (CP.at_alloc x w).below ((Below.refl _ _).alloc (Nat.le_refl _) _)
  have hl1 : W1.heap[w.heap.size + 1]? = some (.cells #[.slice none 0 0] 34 (0, 0)) := by
    rw [hW1]
    have : (w.alloc (.cells #[.int .i64 x.a0, .slice x.A1 x.l1.length x.c1, .slice x.A2 x.l2.length x.c2, .slice x.A3 x.l3.length x.c3, .slice x.A4 x.l4.length x.c4, .slice x.A5 x.l5.length x.c5] 26)).heap.size = w.heap.size + 1 := by simp
    rw [← this]; exact heap_alloc_at _ _
  have HFR := Aside0.mk (free_calls x W1 (ok.below hb1) fit)
  have HL1 := Aside0.mk hl1
  have HA1 := Aside0.mk hat1
  have HB1 := Aside0.mk hb1
  have HO := Aside0.mk ok
  have HF := Aside0.mk fit
  have HS1 := Aside0.mk hs1
  rw [hW1] at HFR HL1 HA1 HB1 HS1
  obtain ⟨_, k0, k1, k2, k3, k4, k5⟩ := HA1.out
  clear hs1 hb1 hat1 hl1 ok fit hW1
  go_enter Try.func56, Try.ntmps56
  go_wp2_with (go_at_call 29; go_must (refine HFR.out.mono ?_; rintro e w1 ⟨v1, rfl, ho1, hb1⟩; obtain ⟨Ao, co, rfl⟩ := Kd.R_slice ho1; have HO1 := Aside0.mk ho1; have HA2 := Aside0.mk (HA1.out.below hb1); have HL2 := Aside0.mk (blk_below HL1.out hb1); have HB2 := Aside0.mk (HB1.out.trans (hb1.mono HB1.out.size)); have HSZ := Aside0.mk hb1.size; clear ho1 hb1))
  have hb2 : Below w1.heap.size w1 (w1.alloc (.cells #[.slice Ao x.freeS.length co] 63)) := (Below.refl _ _).alloc (Nat.le_refl _) _
  have hgl : w.heap.size ≤ w.heap.size + 1 := by omega
  have h0 : FirstInv x w w.heap.size w1.heap.size (w.heap.size + 1) Ao co 0 (w1.alloc (.cells #[.slice Ao x.freeS.length co] 63)) :=
    ⟨HA2.out.below hb2, heap_alloc_at _ _, Kd.R_below (Kd.R_lower HO1.out HB1.out.size) hb2, ⟨_, blk_below HL2.out hb2, Kd.R_nil _ _ _ _ _⟩, HB2.out.trans (hb2.mono HB2.out.size)⟩
  have HW := Aside0.mk (ways3_calls _ enters_firstOne (.pointer (some ⟨w.heap.size, 0, none⟩)) (.pointer (some ⟨w1.heap.size, 0, none⟩)) (.pointer (some ⟨w.heap.size + 1, 0, none⟩)) x.freeS.length hf (FirstInv x w w.heap.size w1.heap.size (w.heap.size + 1) Ao co) (fun _ _ => False) _ h0
    (fun n W0 W v hn hI hb hv => firstInv_step x w HO.out HF.out hf w.heap.size w1.heap.size (w.heap.size + 1) Ao co hgl n W0 W v hn hI hb hv))
  clear hb2 h0 k0 k1 k2 k3 k4 k5
  refine HW.out.mono ?_
  rintro e w2 ⟨rfl, hI⟩
  have hI : FirstInv x w w.heap.size w1.heap.size (w.heap.size + 1) Ao co (2 ^ x.freeS.length) w2 := by
    rcases hI with h | ⟨_, _, h⟩
    · exact h
    · exact h.elim
  obtain ⟨_, _, _, ⟨vl, hv1, hv2⟩, hbe⟩ := hI
  obtain ⟨A9, c9, e9⟩ := Kd.R_slice hv2
  subst e9
  have hcl := cell_blk hv1 0 _ rfl
  have hfl := blk_frozen hv1 0
  have HV1 := Aside0.mk hv1
  have HV2 := Aside0.mk hv2
  have HBE := Aside0.mk hbe
  clear hv1 hv2 hbe
  go_wp2
  have hv1 := blk_put HV1.out 0 (.slice A9 (2 ^ x.freeS.length) c9) rfl
  refine bodyPost_ret (v := .slice A9 (2 ^ x.freeS.length) c9) (results_c (fn := Try.f56) rfl (a := ⟨w.heap.size + 1, 0, none⟩) rfl (rv_cell Try.underlying34 rfl (cell_blk hv1 0 _ rfl))) rfl ?_
  refine ⟨_, rfl, ?_, HBE.out.setCell (p := ⟨w.heap.size + 1, 0, none⟩) hgl _⟩
  have := state_set HV2.out HV1.out (by decide) 0 (.slice A9 (2 ^ x.freeS.length) c9)
  simpa [CP.firstsS] using this
end Go.Proofs.Ytdjhjgfjhicbfaa.PWalkTells
