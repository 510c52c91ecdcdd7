/- A part of the proof of WalkTellsSaid: contracts of functions and plain lemmas; each holds under the hypotheses that it names. -/
import Derived.Test.YtdjhjgfjhicbfaaTellsGe
import Derived.Sort.WalkB12
import Derived.Lib.SlicesMore
namespace Go.Proofs.Ytdjhjgfjhicbfaa.PWalkTells
open Go.RowKit Go.Shelf Go.Sort Go.Proofs.YtdjhjgfjhicbfaaW.PrintWords Go.Proofs.YtdjhjgfjhicbfaaW.PrintLast Go.Proofs.YtdjhjgfjhicbfaaW.PrintMore
set_option linter.unusedVariables false
set_option linter.unusedSimpArgs false
def encR (p : Option Addr × Nat × Nat) : Value := .slice p.1 p.2.1 p.2.2
def decR (v : Value) : Option Addr × Nat × Nat := match v with
  | .slice a n c => (a, n, c)
  | _ => (none, 0, 0)
set_option maxHeartbeats 1600000 in
set_option maxRecDepth 1000000 in
theorem rev_arr (blk cap : Nat) (d : Array (Option Addr × Nat × Nat)) (w : World) (hH : Holds encR w blk 0 d) (hsz : d.size ≤ 9223372036854775807) :
    Calls Try.prog 62 #[.slice (some ⟨blk, 0, none⟩) d.size cap] w fun e w' => e = .returned (.tuple #[]) ∧ ∃ n, w' = putRow encR (Sort.ahead w n) blk 0 d.reverse := by
  go_enter Try.func62, Try.ntmps62
  go_wp2
  go_loopg [2, 3] d.size (fun k s2 s3 wr => ∃ (i jn : Nat) (jz : Int) (dk : Array (Option Addr × Nat × Nat)) (n : Nat), s2 = .int .i64 i ∧ s3 = .int .i64 jz ∧ ((i : Int) < jz → jz = jn ∧ jn < d.size) ∧ (¬ (i : Int) < jz → ¬ i < jn) ∧ jn - i ≤ k ∧
    dk.size = d.size ∧ wr = putRow encR (Sort.ahead w n) blk 0 dk ∧ reverseLoop i jn dk = reverseLoop 0 (d.size - 1) d)
  case atStart => exact ⟨0, d.size - 1, (d.size : Int) - 1, d, 0, rfl, rfl, fun h => ⟨by omega, by omega⟩, fun h => by omega, by omega, rfl, (putRow_self encR w blk 0 d hH).symm, rfl⟩
  case round =>
    obtain ⟨i, jn, jz, dk, n, rfl, rfl, h1, h2, hk, hds, hwr, heq⟩ := hrel
    by_cases hlt : (i : Int) < jz
    · obtain ⟨rfl, hjn⟩ := h1 hlt
      have hij : i < jn := by omega
      have hHk : Holds encR wr blk 0 dk := by rw [hwr]; exact holds_putRow encR _ blk 0 d dk (holds_ahead encR w n blk 0 d hH) hds
      obtain ⟨ci, fi⟩ := hHk i (by omega)
      obtain ⟨cj, fj⟩ := hHk jn (by omega)
      rw [Nat.zero_add] at ci fi cj fj
      have A := Aside0.mk hwr
      obtain ⟨x, hx⟩ : ∃ x, x = dk[i]! := ⟨_, rfl⟩
      obtain ⟨y, hy⟩ : ∃ y, y = dk[jn]! := ⟨_, rfl⟩
      rw [← hx] at ci
      rw [← hy] at cj
      unfold encR at ci cj
      have HX := Aside0.mk hx
      have HY := Aside0.mk hy
      clear hwr hHk hH h1 h2 hx hy
      go_wp2_with fail
      go_region
      go_wp2
      go_roundg (jn - 1 - (i + 1))
      case measure => omega
      case rel =>
        rw [reverseLoop, if_pos hij] at heq
        have hw := swap_world encR (blk := blk) (off := 0) (i := i) (j := jn) (by omega) (by omega) A.out (x := encR y) (y := encR x) (by rw [HY.out]) (by rw [HX.out])
        rw [Nat.zero_add, Nat.zero_add] at hw
        exact ⟨i + 1, jn - 1, (jn : Int) - 1, swp dk i jn, n + 1, by simp, rfl, fun h => ⟨by omega, by omega⟩, fun h => by omega, Nat.le_refl _, by rw [size_swp]; exact hds, hw, heq⟩
    · have hnot := h2 hlt
      go_wp2
      refine bodyPost_end (results_none (fn := Try.f62) rfl _ _ _) rfl ?_
      refine ⟨rfl, n, ?_⟩
      rw [reverseLoop, if_neg hnot] at heq
      rw [← Lib.reverseLoop_reverse, ← heq]
set_option maxHeartbeats 1000000 in
theorem rev_nil (w : World) : Calls Try.prog 62 #[.slice none 0 0] w fun e w' => e = .returned (.tuple #[]) ∧ w' = w := by
  go_enter Try.func62, Try.ntmps62
  go_wp2
  go_loopg [2, 3] 0 (fun _ s2 s3 wr => s2 = .int .i64 0 ∧ s3 = .int .i64 (-1) ∧ wr = w)
  case atStart => exact ⟨rfl, rfl, rfl⟩
  case round =>
    obtain ⟨rfl, rfl, rfl⟩ := hrel
    go_wp2
    refine bodyPost_end (results_none (fn := Try.f62) rfl _ _ _) rfl ?_
    exact ⟨rfl, rfl⟩
theorem drop_take1 (l : List Value) (j : Nat) (u : Value) (h : l[j]? = some u) : (l.drop (j * 1)).take 1 = [u] := by
  rw [Nat.mul_one, List.take_one, List.head?_drop, h]; rfl
theorem heap_putRow (w : World) (n g : Nat) (d : Array (Option Addr × Nat × Nat)) (cur : Array Value) (e : TypeId) (h : w.heap[g]? = some (.cells cur e (0, 0))) : (putRow encR (Sort.ahead w n) g 0 d).heap[g]? = some (.cells (putCells encR 0 d cur) e (0, 0)) := by
  simp [putRow, mapBlock, Array.getElem?_modify, h, onCells]
theorem heap_putRow_ne (w : World) (n g k : Nat) (d : Array (Option Addr × Nat × Nat)) (h : k ≠ g) : (putRow encR (Sort.ahead w n) g 0 d).heap[k]? = w.heap[k]? := by
  simp [putRow, mapBlock, Array.getElem?_modify, Ne.symm h]
set_option maxHeartbeats 1000000 in
theorem reverse_calls (v : Value) (xs : List (List Int)) (W : World) (base : Nat) (h : Kd.R (Kd.slice 5 (Kd.int .u8)) 27 W base (fun _ => True) v xs) :
    Calls Try.prog 62 #[v] W fun e w' => e = .returned (.tuple #[]) ∧ Kd.R (Kd.slice 5 (Kd.int .u8)) 27 w' base (fun _ => True) v xs.reverse ∧ Below base W w' ∧ KeepT [27] W w' := by
  have hR := h
  obtain ⟨h0, inner, ⟨hlen, hform⟩, hl2, hrep⟩ := h
  rcases hform with ⟨rfl, hn⟩ | ⟨g, cap, cur, rfl, hg, hh, hc1, hc2, hc3, hc4⟩
  · have : xs = [] := List.length_eq_zero_iff.1 hn
    subst this
    refine (rev_nil W).mono ?_
    rintro e w' ⟨rfl, rfl⟩
    exact ⟨rfl, hR, Below.refl _ _, KeepT.refl _ _⟩
  · have hsz : (Kd.slice 5 (Kd.int .u8)).sz = 1 := rfl
    rw [hsz] at hlen hl2 hrep hc3 hc4
    rw [Nat.mul_one] at hlen hc3 hc4
    have hM : ∀ (j : Nat) (u : Value), inner[j]? = some u → ∃ x : List Int, xs[j]? = some x ∧ (Kd.slice 5 (Kd.int .u8)).M W base (fun k => True ∧ some k ≠ (Value.slice (some ⟨g, 0, none⟩) xs.length cap).ownBlock) x [u] := by
      intro j u hu
      have hj : j < inner.length := (List.getElem?_eq_some_iff.1 hu).1
      have hx : xs[j]? = some xs[j] := List.getElem?_eq_getElem (by omega)
      have := hrep j _ hx
      rw [drop_take1 inner j u hu] at this
      exact ⟨_, hx, this⟩
    have henc : ∀ u ∈ inner, encR (decR u) = u := by
      intro u hu
      obtain ⟨j, hj, rfl⟩ := List.getElem_of_mem hu
      obtain ⟨x, _, v, hv, hr⟩ := hM j _ (List.getElem?_eq_getElem hj)
      obtain ⟨A, c, e⟩ := Kd.R_slice hr
      injection hv with hv
      rw [hv, e]; rfl
    have hcur : ∀ j, j < xs.length → cur[j]? = inner[j]? := by
      intro j hj
      rw [← hc4, List.getElem?_take, if_pos hj, Array.getElem?_toList]
    obtain ⟨d, hd⟩ : ∃ d : Array (Option Addr × Nat × Nat), d = (inner.map decR).toArray := ⟨_, rfl⟩
    have hds : d.size = xs.length := by rw [hd]; simp [hlen]
    have hde : ∀ j, j < xs.length → encR d[j]! = inner.getD j undef := by
      intro j hj
      have hj' : j < inner.length := by omega
      rw [getElem!_pos d j (by omega)]
      have : d[j]'(by omega) = decR inner[j] := by simp [hd]
      rw [this, henc _ (List.getElem_mem hj')]
      simp [List.getD_eq_getElem?_getD, hj']
    have hH : Holds encR W g 0 d := by
      intro j hj
      rw [hds] at hj
      rw [Nat.zero_add]
      refine ⟨?_, blk_frozen hh j⟩
      have hj' : j < inner.length := by omega
      have : W.cell? ⟨g, j, none⟩ = cur[j]? := by simp [World.cell?, hh]
      rw [this, hcur j hj, hde j hj, List.getElem?_eq_getElem hj']
      simp [List.getD_eq_getElem?_getD, hj']
    have hcall := rev_arr g cap d W hH (by rw [hds]; exact Nat.le_trans hc1 (Nat.le_trans hc2 (by decide)))
    rw [hds] at hcall
    refine hcall.mono ?_
    rintro e w' ⟨rfl, n, rfl⟩
    have hgr := heap_putRow W n g d.reverse cur _ hh
    refine ⟨rfl, ⟨h0, inner.reverse, ⟨by simp [hlen, hsz], .inr ⟨g, cap, _, by rw [List.length_reverse], hg, hgr, by rw [List.length_reverse]; exact hc1, hc2, by rw [hsz, Nat.mul_one]; simp [putCells, hc3], ?_⟩⟩, by simp [hlen, hsz], ?_⟩, ⟨rfl, rfl, rfl, by simp, fun k hk => heap_putRow_ne W n g k _ (by omega)⟩, ?_⟩
    · rw [List.length_reverse, hsz, Nat.mul_one]
      apply List.ext_getElem?
      intro j
      by_cases hj : j < xs.length
      · have hj' : j < inner.length := by omega
        have hjc : j < cur.size := by omega
        rw [List.getElem?_take, if_pos hj, Array.getElem?_toList, List.getElem?_reverse hj']
        simp only [putCells, Array.getElem?_mapIdx, Array.getElem?_eq_getElem hjc, Option.map_some]
        rw [if_pos ⟨Nat.zero_le _, by simp [hds]; exact hj⟩, Nat.sub_zero]
        have hrv : d.reverse[j]! = d[inner.length - 1 - j]! := by
          rw [getElem!_pos _ j (by simp [hds]; exact hj), getElem!_pos _ (inner.length - 1 - j) (by omega), Array.getElem_reverse]
          congr 1
          omega
        rw [hrv, hde _ (by omega), List.getD_eq_getElem?_getD, List.getElem?_eq_getElem (by omega)]
        rfl
      · rw [List.getElem?_eq_none (by simp; omega), List.getElem?_eq_none (by simp; omega)]
    · intro j p hp
      have hj : j < xs.length := by have := (List.getElem?_eq_some_iff.1 hp).1; simpa using this
      have hj' : j < inner.length := by omega
      rw [List.getElem?_reverse hj] at hp
      have hu : inner.reverse[j]? = some (inner[inner.length - 1 - j]'(by omega)) := by
        rw [List.getElem?_reverse hj']; exact List.getElem?_eq_getElem (by omega)
      rw [hsz, drop_take1 _ j _ hu]
      obtain ⟨x, hx, hm⟩ := hM (inner.length - 1 - j) _ (List.getElem?_eq_getElem (by omega))
      rw [hlen] at hx
      rw [hp] at hx
      injection hx with hx
      subst hx
      exact (Kd.slice 5 (Kd.int .u8)).M_move (fun k hk => heap_putRow_ne W n g k _ (fun e => hk.2 (by rw [e]; rfl))) hm
    · intro k cs t hk ht
      rw [heap_putRow_ne W n g k _ (fun e => ?_)]
      · exact hk
      · rw [e, hh] at hk
        injection hk with hk
        injection hk with _ hk _
        exact ht (by rw [← hk]; simp)
end Go.Proofs.Ytdjhjgfjhicbfaa.PWalkTells
