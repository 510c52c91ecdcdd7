/- A part of the proof of WalkTellsSaid: contracts of functions and plain lemmas; each holds under the hypotheses that it names. -/
import Derived.Test.YtdjhjgfjhicbfaaWGuard
import Derived.Test.YtdjhjgfjhicbfaaTellsGf
import Derived.Deep.DeepMust
namespace Go.Proofs.Ytdjhjgfjhicbfaa.PWalkTells
open Go.RowKit Go.Shelf Go.Maps Go.Proofs.YtdjhjgfjhicbfaaW.PrintWords Go.Proofs.YtdjhjgfjhicbfaaW.PrintLast Go.Proofs.YtdjhjgfjhicbfaaW.PrintMore
set_option linter.unusedVariables false
set_option linter.unusedSimpArgs false
def CP.innerS (x : CP) (at_ m : Nat) (L : List S43) : Nat → Option (List S43)
  | 0 => some L
  | n + 1 => (x.innerS at_ m L n).bind fun L' => x.stepS L' at_ (wayS n m)
def CP.outerS (x : CP) : Nat → Nat → List S43 → Option (List S43)
  | 0, _, _ => none
  | k + 1, at_, L => if at_ < L.length then (x.innerS at_ x.a0.toNat L (2 ^ x.a0.toNat)).bind fun L' => x.outerS k (at_ + 1) L' else some L
def CP.walkS (x : CP) : Option (List S43) := x.outerS 4097 0 x.firstsS
theorem innerS_none {x : CP} {at_ m : Nat} {L : List S43} {n : Nat} (h : x.innerS at_ m L n = none) : ∀ k, n ≤ k → x.innerS at_ m L k = none := by
  intro k hk
  induction k with
  | zero => have : n = 0 := by omega
            subst this; exact h
  | succ k ih =>
    by_cases e : n = k + 1
    · rw [← e]; exact h
    · show (x.innerS at_ m L k).bind _ = none
      rw [ih (by omega)]; rfl
def CP.Good (x : CP) (L : List S43) : Prop := ∀ j (h : j < L.length), L[j].f0.length = x.l1.length ∧ (∀ v ∈ L[j].f0, 0 ≤ v ∧ v ≤ 2) ∧ 0 ≤ L[j].f1 ∧ L[j].f1 ≤ j ∧ -1 ≤ L[j].f2 ∧ L[j].f2 < j ∧ (L[j].f2 ≠ -1 → L[j].f3.length = x.a0.toNat ∧ ∀ v ∈ L[j].f3, v = 0 ∨ v = 1)
theorem CP.Good.fine {x : CP} {L : List S43} (h : x.Good L) (hl : L.length ≤ 4096) : x.Fine L 4096 := by
  intro s hs
  obtain ⟨j, hj, rfl⟩ := List.getElem_of_mem hs
  obtain ⟨a, b, c, d, _⟩ := h j hj
  exact ⟨a, b, c, by omega⟩
theorem CP.Good.snoc {x : CP} {L : List S43} (h : x.Good L) (s : S43) (h0 : s.f0.length = x.l1.length) (h1 : ∀ v ∈ s.f0, 0 ≤ v ∧ v ≤ 2) (h2 : 0 ≤ s.f1) (h3 : s.f1 ≤ L.length) (h4 : -1 ≤ s.f2) (h5 : s.f2 < L.length) (h6 : s.f2 ≠ -1 → s.f3.length = x.a0.toNat ∧ ∀ v ∈ s.f3, v = 0 ∨ v = 1) : x.Good (L ++ [s]) := by
  intro j hj
  by_cases e : j < L.length
  · rw [List.getElem_append_left e]; exact h j e
  · have : j = L.length := by simp at hj; omega
    subst this
    simp only [List.getElem_concat_length]
    exact ⟨h0, h1, h2, h3, h4, h5, h6⟩
theorem frameS_bytes (x : CP) (st inp : List Int) (h1 : Bytes st) (h2 : Bytes inp) : Bytes (x.frameS st inp) := frameG_bytes _ _ (bytes_cons (by omega) (bytes_append h2 h1))
theorem nextS_range (x : CP) (V : List Int) (h : Bytes V) : ∀ v ∈ x.nextS V, 0 ≤ v ∧ v ≤ 2 := by
  intro v hv
  obtain ⟨s, _, rfl⟩ := List.mem_map.1 hv
  exact valS_range V s.f0 h
theorem stepS_good {x : CP} {L L' : List S43} {at_ : Nat} {by_ : List Int} (hat : at_ < L.length) (hl : L.length ≤ 4096) (hg : x.Good L) (hb : by_.length = x.a0.toNat) (hb2 : ∀ v ∈ by_, v = 0 ∨ v = 1) (h : x.stepS L at_ by_ = some L') :
    x.Good L' ∧ L'.length ≤ 4096 ∧ L.length ≤ L'.length := by
  unfold CP.stepS at h
  simp only at h
  split at h
  · injection h with h; subst h; exact ⟨hg, hl, Nat.le_refl _⟩
  · split at h
    · cases h
    · rename_i hne
      injection h with h; subst h
      have hD : L.getD at_ z43 = L[at_] := by simp [List.getD_eq_getElem?_getD, hat]
      rw [hD]
      obtain ⟨a, b, c, d, _⟩ := hg at_ hat
      refine ⟨hg.snoc _ ?_ ?_ ?_ ?_ ?_ ?_ ?_, by simp; omega, by simp⟩
      · simp [CP.nextS]
      · exact nextS_range x _ (frameS_bytes x _ _ (fun v hv => by have := b v hv; omega) (fun v hv => by have := hb2 v hv; omega))
      · show 0 ≤ L[at_].f1 + 1; omega
      · show L[at_].f1 + 1 ≤ _; omega
      · show -1 ≤ (at_ : Int); omega
      · show (at_ : Int) < _; omega
      · exact fun _ => ⟨hb, hb2⟩
theorem innerS_good {x : CP} {at_ m : Nat} {L : List S43} (hm : m = x.a0.toNat) (hat : at_ < L.length) (hl : L.length ≤ 4096) (hg : x.Good L) : ∀ n L', x.innerS at_ m L n = some L' → x.Good L' ∧ L'.length ≤ 4096 ∧ L.length ≤ L'.length := by
  intro n
  induction n with
  | zero => intro L' h; injection h with h; subst h; exact ⟨hg, hl, Nat.le_refl _⟩
  | succ n ih =>
    intro L' h
    rw [show x.innerS at_ m L (n + 1) = (x.innerS at_ m L n).bind _ from rfl] at h
    obtain ⟨L1, h1, h2⟩ := Option.bind_eq_some_iff.1 h
    obtain ⟨g1, g2, g3⟩ := ih L1 h1
    obtain ⟨k1, k2, k3⟩ := stepS_good (by omega) g2 g1 (by rw [wayS_length, hm]) (wayS_bit n m) h2
    exact ⟨k1, k2, by omega⟩
theorem outerS_good {x : CP} : ∀ k at_ L L', L.length ≤ 4096 → x.Good L → x.outerS k at_ L = some L' → x.Good L' ∧ L'.length ≤ 4096 ∧ L.length ≤ L'.length := by
  intro k
  induction k with
  | zero => intro at_ L L' _ _ h; cases h
  | succ k ih =>
    intro at_ L L' hl hg h
    unfold CP.outerS at h
    split at h
    · rename_i hlt
      obtain ⟨L1, h1, h2⟩ := Option.bind_eq_some_iff.1 h
      obtain ⟨g1, g2, g3⟩ := innerS_good rfl hlt hl hg _ _ h1
      obtain ⟨k1, k2, k3⟩ := ih _ _ _ g2 g1 h2
      exact ⟨k1, k2, by omega⟩
    · injection h with h; subst h; exact ⟨hg, hl, Nat.le_refl _⟩
theorem firstK_range (o b s : List Int) (hb : ∀ v ∈ b, v = 0 ∨ v = 1) (hs : ∀ v ∈ s, 0 ≤ v ∧ v ≤ 2) (k : Nat) : ∀ v ∈ firstK o b s k, 0 ≤ v ∧ v ≤ 2 := by
  unfold firstK
  have hz : ∀ p ∈ (o.take k).zip (b.take k), p.2 = 0 ∨ p.2 = 1 := fun p hp => hb _ (List.mem_of_mem_take (List.of_mem_zip hp).2)
  generalize (o.take k).zip (b.take k) = l at hz
  induction l generalizing s with
  | nil => exact hs
  | cons p r ih =>
    refine ih _ (fun v hv => ?_) (fun q hq => hz q (List.mem_cons_of_mem _ hq))
    rcases List.mem_or_eq_of_mem_set hv with h | h
    · exact hs v h
    · have := hz p List.mem_cons_self; omega
theorem resetS_range {x : CP} (fit : x.Fit) (hmay : x.may = true) : ∀ v ∈ x.resetS, 0 ≤ v ∧ v ≤ 2 := by
  have hl : x.lats x.l1 = false := by
    unfold CP.may at hmay
    split at hmay
    · cases hmay
    · split at hmay
      · cases hmay
      · split at hmay
        · cases hmay
        · rename_i h; simpa using h
  intro v hv
  obtain ⟨s, hs, rfl⟩ := List.mem_map.1 hv
  have h1 : 0 ≤ s.f1 := (fit.g1 s hs).2.2.1
  have h2 : ∀ l : List S61, x.lats l = false → ∀ s ∈ l, s.f1 ≤ 2 := by
    intro l
    induction l with
    | nil => intro _ s hs; cases hs
    | cons a r ih =>
      intro h s hs
      rw [show x.lats (a :: r) = ((decide (2 < a.f1) || x.far a.f0) || x.lats r) from rfl] at h
      simp at h
      rcases List.mem_cons.1 hs with rfl | hs
      · exact h.1.1
      · exact ih h.2 s hs
  exact ⟨h1, h2 _ hl s hs⟩
theorem firstsS_good {x : CP} (fit : x.Fit) (hmay : x.may = true) : x.Good x.firstsS := by
  intro j hj
  have e : x.firstsS[j] = x.firstS j := by simp [CP.firstsS]
  rw [e]
  refine ⟨?_, ?_, by show (0 : Int) ≤ 0; omega, by show (0 : Int) ≤ j; omega, by show (-1 : Int) ≤ -1; omega, by show (-1 : Int) < j; omega, fun h => absurd rfl h⟩
  · show (firstK x.freeS (wayS j x.freeS.length) x.resetS x.freeS.length).length = _
    rw [firstK_length]; simp [CP.resetS]
  · exact firstK_range _ _ _ (wayS_bit _ _) (resetS_range fit hmay) _
theorem firstsS_length (x : CP) (hf : x.freeS.length ≤ 10) : x.firstsS.length ≤ 1024 := by
  unfold CP.firstsS
  rw [List.length_map, List.length_range]
  exact Nat.le_trans (Nat.pow_le_pow_right (by decide) hf) (by decide)
theorem walkS_good {x : CP} (fit : x.Fit) (hmay : x.may = true) (hf : x.freeS.length ≤ 10) {L : List S43} (h : x.walkS = some L) : x.Good L ∧ L.length ≤ 4096 := by
  have := firstsS_length x hf
  obtain ⟨a, b, _⟩ := outerS_good _ _ _ _ (by omega) (firstsS_good fit hmay) h
  exact ⟨a, b⟩
theorem enters_stepOne : Enters Try.prog 57 := enters_of Try.func57 (by kernel_rfl) rfl
def InI (x : CP) (w : World) (gc gl ga gk ge bm at_ : Nat) (L0 : List S43) (n : Nat) (W : World) : Prop := ∃ L, x.innerS at_ x.a0.toNat L0 n = some L ∧ WInv x w gc gl ga gk ge bm at_ 0 L W
def InD (x : CP) (w : World) (gc gl ga gk ge bm at_ : Nat) (L0 : List S43) (n : Nat) (W : World) : Prop := ∃ L, x.innerS at_ x.a0.toNat L0 n = some L ∧ x.stepS L at_ (wayS n x.a0.toNat) = none ∧ WInv x w gc gl ga gk ge bm at_ 3 L W
theorem ways_step (x : CP) (w : World) (ok : x.Ok w) (fit : x.Fit) (hmay : x.may = true) (h0 : 0 ≤ x.a0) (gc gl ga gk ge bm at_ : Nat) (L0 : List S43) (hat : at_ < L0.length) (hl : L0.length ≤ 4096) (hg : x.Good L0)
    (n : Nat) (W0 W : World) (v : Value) (hI : InI x w gc gl ga gk ge bm at_ L0 n W0) (hb : Below W0.heap.size W0 W) (hv : Kd.R (Kd.int .u8) 5 W W0.heap.size (fun _ => True) v (wayS n x.a0.toNat)) :
    Calls Try.prog 57 #[v, .pointer (some ⟨gc, 0, none⟩), .pointer (some ⟨gl, 0, none⟩), .pointer (some ⟨ga, 0, none⟩), .pointer (some ⟨gk, 0, none⟩), .pointer (some ⟨ge, 0, none⟩)] W fun e w' =>
      ∃ b, e = .returned (.bool b) ∧ (b = true → InI x w gc gl ga gk ge bm at_ L0 (n + 1) w') ∧ (b = false → InD x w gc gl ga gk ge bm at_ L0 n w') := by
  obtain ⟨L, hL, hw⟩ := hI
  obtain ⟨g1, g2, g3⟩ := innerS_good rfl hat hl hg n L hL
  have hw' := hw.below hb
  obtain ⟨A, c, rfl⟩ := Kd.R_slice hv
  refine (stepOne_calls x w ok fit hmay gc gl ga gk ge bm at_ L A c (wayS n x.a0.toNat) W hw' (by omega) (g1.fine g2) g2 (by rw [wayS_length]; omega) (wayS_bit _ _) (Kd.R_lower hv hw.b.size)).mono ?_
  rintro e w' ⟨b, rfl, h1, h2⟩
  refine ⟨b, rfl, fun hbt => ?_, fun hbf => ?_⟩
  · obtain ⟨L', e1, e2⟩ := h1 hbt
    exact ⟨L', by show (x.innerS at_ x.a0.toNat L0 n).bind _ = _; rw [hL]; exact e1, e2⟩
  · obtain ⟨e1, e2⟩ := h2 hbf
    exact ⟨L, hL, e1, e2⟩
end Go.Proofs.Ytdjhjgfjhicbfaa.PWalkTells
namespace Go.Proofs.Ytdjhjgfjhicbfaa.PWalkTells
open Go.RowKit Go.Shelf Go.Maps Go.Proofs.YtdjhjgfjhicbfaaW.PrintWords Go.Proofs.YtdjhjgfjhicbfaaW.PrintLast Go.Proofs.YtdjhjgfjhicbfaaW.PrintMore
set_option linter.unusedVariables false
set_option linter.unusedSimpArgs false
def cellInt (v : Value) (w : World) : Nat := match v with
  | .pointer (some a) => (intOf ((w.cell? a).getD undef)).toNat
  | _ => 0
def OutI (x : CP) (w : World) (gc gl gk ge bm : Nat) (v : Value) (W : World) : Prop := ∃ (ga at_ : Nat) (er : Int) (L : List S43), v = .pointer (some ⟨ga, 0, none⟩) ∧ WInv x w gc gl ga gk ge bm at_ er L W ∧ x.Good L ∧ L.length ≤ 4096 ∧ at_ ≤ L.length ∧
  ((er = 0 ∧ x.outerS (4097 - at_) at_ L = x.walkS) ∨ (er = 3 ∧ x.walkS = none))
theorem out_of_ways {x : CP} {w : World} {gc gl ga gk ge bm at_ : Nat} {L : List S43} {w2 : World} (h : InI x w gc gl ga gk ge bm at_ L (2 ^ x.a0.toNat) w2 ∨ ∃ n, n < 2 ^ x.a0.toNat ∧ InD x w gc gl ga gk ge bm at_ L n w2) :
    ∃ L' er, WInv x w gc gl ga gk ge bm at_ er L' w2 ∧ ((er = 0 ∧ x.innerS at_ x.a0.toNat L (2 ^ x.a0.toNat) = some L') ∨ (er = 3 ∧ x.innerS at_ x.a0.toNat L (2 ^ x.a0.toNat) = none ∧ ∃ n, x.innerS at_ x.a0.toNat L n = some L')) := by
  rcases h with ⟨L', h1, h2⟩ | ⟨n, hn, L', h1, h2, h3⟩
  · exact ⟨L', 0, h2, .inl ⟨rfl, h1⟩⟩
  · exact ⟨L', 3, h3, .inr ⟨rfl, innerS_none (n := n + 1) (by show (x.innerS at_ x.a0.toNat L n).bind _ = none; rw [h1]; exact h2) _ hn, n, h1⟩⟩
theorem WInv.next {x : CP} {w : World} {gc gl ga gk ge bm at_ : Nat} {er : Int} {L : List S43} {W : World} (h : WInv x w gc gl ga gk ge bm at_ er L W) :
    WInv x w gc gl W.heap.size gk ge bm (at_ + 1) er L (W.alloc (.cells #[.int .i64 ((at_ : Int) + 1)] 3)) := by
  have hb : Below W.heap.size W (W.alloc (.cells #[.int .i64 ((at_ : Int) + 1)] 3)) := (Below.refl _ _).alloc (Nat.le_refl _) _
  have h2 := h.below hb
  have e : ((at_ + 1 : Nat) : Int) = (at_ : Int) + 1 := by omega
  exact ⟨h2.c, h2.l, by rw [e]; exact heap_alloc_at _ _, h2.k, h2.m, h2.e, h2.b, h2.gl, h2.ge, h2.bm⟩
theorem out_next {x : CP} {w : World} {gc gl ga gk ge bm at_ : Nat} {er' : Int} {L L' : List S43} {W : World} (hlt : at_ < L.length) (hl : L.length ≤ 4096) (hg : x.Good L) (hC : x.outerS (4097 - at_) at_ L = x.walkS)
    (hW : WInv x w gc gl ga gk ge bm at_ er' L' W) (h : (er' = 0 ∧ x.innerS at_ x.a0.toNat L (2 ^ x.a0.toNat) = some L') ∨ (er' = 3 ∧ x.innerS at_ x.a0.toNat L (2 ^ x.a0.toNat) = none ∧ ∃ n, x.innerS at_ x.a0.toNat L n = some L')) :
    OutI x w gc gl gk ge bm (.pointer (some ⟨W.heap.size, 0, none⟩)) (W.alloc (.cells #[.int .i64 ((at_ : Int) + 1)] 3)) := by
  rw [show 4097 - at_ = (4097 - (at_ + 1)) + 1 by omega] at hC
  unfold CP.outerS at hC
  rw [if_pos hlt] at hC
  rcases h with ⟨rfl, h1⟩ | ⟨rfl, h1, n, h2⟩
  · obtain ⟨g1, g2, g3⟩ := innerS_good rfl hlt hl hg _ _ h1
    rw [h1] at hC
    exact ⟨W.heap.size, at_ + 1, 0, L', rfl, hW.next, g1, g2, by omega, .inl ⟨rfl, hC⟩⟩
  · obtain ⟨g1, g2, g3⟩ := innerS_good rfl hlt hl hg _ _ h2
    rw [h1] at hC
    exact ⟨W.heap.size, at_ + 1, 3, L', rfl, hW.next, g1, g2, by omega, .inr ⟨rfl, hC.symm⟩⟩
theorem out_end {x : CP} {w : World} {gc gl ga gk ge bm at_ : Nat} {er : Int} {L : List S43} {W : World} {v : Value} (h : WInv x w gc gl ga gk ge bm at_ er L W) (hne : gl ≠ ge) (h1 : W.heap[gl]? = some (.cells #[v] 34 (0, 0)))
    (h2 : Kd.R k43 43 W w.heap.size (fun _ => True) v L) :
    ((W.setCell ⟨gl, 0, none⟩ v).setCell ⟨ge, 0, none⟩ (.int .i64 er)).drew.cell? ⟨gl, 0, none⟩ = some v ∧ ((W.setCell ⟨gl, 0, none⟩ v).setCell ⟨ge, 0, none⟩ (.int .i64 er)).drew.cell? ⟨ge, 0, none⟩ = some (.int .i64 er) ∧
    Kd.R k43 43 ((W.setCell ⟨gl, 0, none⟩ v).setCell ⟨ge, 0, none⟩ (.int .i64 er)).drew w.heap.size (fun _ => True) v L ∧ Below w.heap.size w ((W.setCell ⟨gl, 0, none⟩ v).setCell ⟨ge, 0, none⟩ (.int .i64 er)).drew := by
  have d1 : W.drew.heap[gl]? = some (.cells #[v] 34 (0, 0)) := h1
  have d2 : W.drew.heap[ge]? = some (.cells #[.int .i64 er] 35 (0, 0)) := h.e
  have d3 := Kd.R_drew h2
  have e1 := state_set d3 d1 (by decide) 0 v
  have e2 : (W.drew.setCell ⟨gl, 0, none⟩ v).heap[ge]? = some (.cells #[.int .i64 er] 35 (0, 0)) := (Below.heap_setCell W.drew ⟨gl, 0, none⟩ v ge (Ne.symm hne)).trans d2
  have e3 : (W.drew.setCell ⟨gl, 0, none⟩ v).heap[gl]? = some (.cells #[v] 34 (0, 0)) := blk_put d1 0 _ rfl
  have e4 := (Below.heap_setCell (W.drew.setCell ⟨gl, 0, none⟩ v) ⟨ge, 0, none⟩ (.int .i64 er) gl hne).trans e3
  exact ⟨cell_blk e4 0 _ rfl, cell_blk (blk_put e2 0 _ rfl) 0 _ rfl, state_set e1 e2 (by decide) 0 _, (h.b.drew.setCell (p := ⟨gl, 0, none⟩) h.gl _).setCell (p := ⟨ge, 0, none⟩) h.ge _⟩
structure Cnt (x : CP) (w : World) (gc gl gk ge bm : Nat) (Al : Option Addr) (cl : Nat) (n : Nat) (W : World) : Prop where
  c : x.At W gc
  l : W.heap[gl]? = some (.cells #[.slice Al x.firstsS.length cl] 34 (0, 0))
  r : Kd.R k43 43 W w.heap.size (fun _ => True) (.slice Al x.firstsS.length cl) x.firstsS
  k : W.heap[gk]? = some (.cells #[.map (some bm)] 89 (0, 0))
  e : W.heap[ge]? = some (.cells #[.int .i64 0] 35 (0, 0))
  m : Known W bm ((x.firstsS.take n).map (fun s => s.f0))
  b : Below w.heap.size w W
theorem set_alloc2 {W : World} {g t : Nat} {v0 : Value} (h : W.heap[g]? = some (.cells #[v0] t (0, 0))) (v : Value) (o o2 : Obj) : (((W.setCell ⟨g, 0, none⟩ v).alloc o).alloc o2).cell? ⟨g, 0, none⟩ = some v := by
  have hb : Below (W.setCell ⟨g, 0, none⟩ v).heap.size (W.setCell ⟨g, 0, none⟩ v) (((W.setCell ⟨g, 0, none⟩ v).alloc o).alloc o2) := ((Below.refl _ _).alloc (Nat.le_refl _) o).alloc ((Below.refl _ _).alloc (Nat.le_refl _) o).size o2
  exact cell_blk (blk_below (blk_put h 0 v rfl) hb) 0 _ rfl
theorem cnt_next {x : CP} {w : World} {gc gl gk ge bm : Nat} {Al : Option Addr} {cl n : Nat} {W W1 W3 : World} (h : Cnt x w gc gl gk ge bm Al cl n W) (hb : Below W.heap.size W W1) (hk : KeepT [] W1 W3)
    (hm : Known W3 bm ((x.firstsS.take (n + 1)).map (fun s => s.f0))) (hb3 : Below w.heap.size w W3) : Cnt x w gc gl gk ge bm Al cl (n + 1) W3 :=
  ⟨(h.c.below hb).keep (by simp) hk, hk _ _ _ (blk_below h.l hb) (by simp), R_keepT (Kd.R_below h.r hb) (by intro q _; simp) hk, hk _ _ _ (blk_below h.k hb) (by simp), hk _ _ _ (blk_below h.e hb) (by simp), hm, hb3⟩
set_option maxHeartbeats 4000000 in
set_option maxRecDepth 100000 in
theorem walk_calls (x : CP) (w : World) (ok : x.Ok w) (fit : x.Fit) (hmay : x.may = true) (h0 : 0 ≤ x.a0) (hi : x.a0 ≤ 10) (hf : x.freeS.length ≤ 10) :
    Calls Try.prog 30 #[.agg #[.int .i64 x.a0, .slice x.A1 x.l1.length x.c1, .slice x.A2 x.l2.length x.c2, .slice x.A3 x.l3.length x.c3, .slice x.A4 x.l4.length x.c4, .slice x.A5 x.l5.length x.c5]] w fun e w' => ∃ v er, e = .returned (.tuple #[v, .int .i64 er]) ∧
      ((er = 0 ∧ ∃ L, x.walkS = some L ∧ Kd.R k43 43 w' w.heap.size (fun _ => True) v L) ∨ (er = 3 ∧ x.walkS = none)) ∧ Below w.heap.size w w' := by
  have hmk : ∀ (t : TypeId) (w : World), (Instr.makeMap t none).run Try.prog w = .ok (.map (some w.heap.size)) (w.alloc (.map #[] 0)) := fun _ _ => rfl
  have hmf : ∀ (fn : Fn) (first cap : Array Value) (w : World), (Instr.makeFunc fn first cap).run Try.prog w = .ok (.func fn first cap) w := fun _ _ _ _ => rfl
  obtain ⟨W1, hW1⟩ : ∃ W1, W1 = ((w.alloc (.cells #[.int .i64 x.a0, .slice x.A1 x.l1.length x.c1, .slice x.A2 x.l2.length x.c2, .slice x.A3 x.l3.length x.c3, .slice x.A4 x.l4.length x.c4, .slice x.A5 x.l5.length x.c5] 26)).alloc (.cells #[.slice none 0 0] 34)).alloc (.cells #[.int .i64 0] 35) := ⟨_, rfl⟩
  have hs1 : W1.heap.size = w.heap.size + 3 := by rw [hW1]; simp
  have hb1 : Below w.heap.size w W1 := by rw [hW1]; exact (((Below.refl _ _).alloc (Nat.le_refl _) _).alloc (by simp) _).alloc (by simp; omega) _
  have hat1 : x.At W1 w.heap.size := by rw [hW1]; exact ((CP.at_alloc x w).below ((Below.refl _ _).alloc (Nat.le_refl _) _)).below ((Below.refl _ _).alloc (Nat.le_refl _) _)
  have hl1 : W1.heap[w.heap.size + 1]? = some (.cells #[.slice none 0 0] 34 (0, 0)) := by
    rw [hW1]
    have : (w.alloc (.cells #[.int .i64 x.a0, .slice x.A1 x.l1.length x.c1, .slice x.A2 x.l2.length x.c2, .slice x.A3 x.l3.length x.c3, .slice x.A4 x.l4.length x.c4, .slice x.A5 x.l5.length x.c5] 26)).heap.size = w.heap.size + 1 := by simp
    rw [← this]; exact blk_below (heap_alloc_at _ _) ((Below.refl _ _).alloc (Nat.le_refl _) _)
  have he1 : W1.heap[w.heap.size + 2]? = some (.cells #[.int .i64 0] 35 (0, 0)) := by
    rw [hW1]
    have : ((w.alloc (.cells #[.int .i64 x.a0, .slice x.A1 x.l1.length x.c1, .slice x.A2 x.l2.length x.c2, .slice x.A3 x.l3.length x.c3, .slice x.A4 x.l4.length x.c4, .slice x.A5 x.l5.length x.c5] 26)).alloc (.cells #[.slice none 0 0] 34)).heap.size = w.heap.size + 2 := by simp
    rw [← this]; exact heap_alloc_at _ _
  have HFR := Aside0.mk (firsts_calls x W1 (ok.below hb1) fit hf)
  have HL1 := Aside0.mk hl1
  have HE1 := Aside0.mk he1
  have HA1 := Aside0.mk hat1
  have HB1 := Aside0.mk hb1
  have HO := Aside0.mk ok
  have HF := Aside0.mk fit
  have HS1 := Aside0.mk hs1
  rw [hW1] at HFR HL1 HA1 HB1 HS1 HE1
  obtain ⟨_, k0, k1, k2, k3, k4, k5⟩ := HA1.out
  clear hs1 hb1 hat1 hl1 he1 ok fit hW1
  have hlen := firstsS_length x hf
  have hlen2 : x.firstsS.length ≤ 9223372036854775807 := by omega
  go_enter Try.func30, Try.ntmps30
  go_wp2_with (go_at_call 56; go_must (refine HFR.out.mono ?_; rintro e w1 ⟨v1, rfl, ho1, hb1⟩; obtain ⟨Al, cl, rfl⟩ := Kd.R_slice ho1; have HO1 := Aside0.mk (Kd.R_lower ho1 HB1.out.size); have HA2 := Aside0.mk (HA1.out.below hb1); have HL2 := Aside0.mk (blk_below HL1.out hb1); have HE2 := Aside0.mk (blk_below HE1.out hb1); have HB2 := Aside0.mk (HB1.out.trans (hb1.mono HB1.out.size)); have HSZ := Aside0.mk hb1.size; have hcl := cell_blk HL2.out 0 _ rfl; have hfl := blk_frozen HL2.out 0; have hclA := set_alloc2 HL2.out (.slice Al x.firstsS.length cl); clear ho1 hb1))
  have hsz1 : w1.heap.size ≥ w.heap.size + 3 := by have := HSZ.out; have := HS1.out; omega
  have hC0 : Cnt x w w.heap.size (w.heap.size + 1) (w1.heap.size + 1) (w.heap.size + 1 + 1) w1.heap.size Al cl 0 (((w1.setCell ⟨w.heap.size + 1, 0, none⟩ (.slice Al x.firstsS.length cl)).alloc (.map #[] 0)).alloc (.cells #[.map (some w1.heap.size)] 89)) := by
    have hset := KeepT.set (ts := [34]) HL2.out (by decide) 0 (.slice Al x.firstsS.length cl)
    have hb2 : Below (w1.setCell ⟨w.heap.size + 1, 0, none⟩ (.slice Al x.firstsS.length cl)).heap.size (w1.setCell ⟨w.heap.size + 1, 0, none⟩ (.slice Al x.firstsS.length cl)) ((w1.setCell ⟨w.heap.size + 1, 0, none⟩ (.slice Al x.firstsS.length cl)).alloc (.map #[] 0)) := (Below.refl _ _).alloc (Nat.le_refl _) _
    have hs2 : (w1.setCell ⟨w.heap.size + 1, 0, none⟩ (.slice Al x.firstsS.length cl)).heap.size = w1.heap.size := by simp
    have hb3 : Below (w1.setCell ⟨w.heap.size + 1, 0, none⟩ (.slice Al x.firstsS.length cl)).heap.size (w1.setCell ⟨w.heap.size + 1, 0, none⟩ (.slice Al x.firstsS.length cl)) (((w1.setCell ⟨w.heap.size + 1, 0, none⟩ (.slice Al x.firstsS.length cl)).alloc (.map #[] 0)).alloc (.cells #[.map (some w1.heap.size)] 89)) := hb2.alloc hb2.size _
    have hkn := known_made (w1.setCell ⟨w.heap.size + 1, 0, none⟩ (.slice Al x.firstsS.length cl))
    have hbl : Below w.heap.size w (w1.setCell ⟨w.heap.size + 1, 0, none⟩ (.slice Al x.firstsS.length cl)) := HB2.out.setCell (p := ⟨w.heap.size + 1, 0, none⟩) (Nat.le_add_right _ _) _
    rw [hs2] at hkn
    refine ⟨((HA2.out.keep (by decide) hset).below hb3), blk_below (blk_put HL2.out 0 _ rfl) hb3, Kd.R_below (state_set HO1.out HL2.out (by decide) 0 _) hb3, ?_, blk_below (hset _ _ _ HE2.out (by decide)) hb3, hkn.block ?_, hbl.trans (hb3.mono hbl.size)⟩
    · have hq : ((w1.setCell ⟨w.heap.size + 1, 0, none⟩ (.slice Al x.firstsS.length cl)).alloc (.map #[] 0)).heap.size = w1.heap.size + 1 := by simp
      rw [← hq]; exact heap_alloc_at _ _
    · exact ((Below.refl _ _).alloc (Nat.le_refl _) _).block _ hkn.lt
  have HC0 := Aside0.mk hC0
  clear hC0 hcl hfl hclA k0 k1 k2 k3 k4 k5
  have HN1 : Aside0 (x.l1.length * 8 ≤ 140737488351232) := ⟨HF.out.n1⟩
  go_loopw [13] (fun v wr => ∃ k : Nat, k ≤ x.firstsS.length ∧ v = .int .i64 k ∧ Aside0 (Cnt x w w.heap.size (w.heap.size + 1) (w1.heap.size + 1) (w.heap.size + 1 + 1) w1.heap.size Al cl k wr)) (fun v _ => x.firstsS.length - (intOf v).toNat)
  case atStart => exact ⟨0, by omega, rfl, HC0⟩
  case round =>
    clear HC0
    obtain ⟨k, hk, rfl, HI⟩ := hrel
    by_cases hlt : k < x.firstsS.length
    · obtain ⟨Al', cl', h1, _, hrl⟩ := Kd.R_reads HI.out.r
      cases h1
      obtain ⟨ad, A0, c0, A3, c3, e1, hs0, hs1, hs2, hs3, hm0, hr0, hm3, hr3⟩ := at_state hrl k hlt
      obtain ⟨f0, f1, _⟩ := firstsS_good HF.out hmay k hlt
      have hNB : Bytes x.firstsS[k].f0 := fun v hv => by have := f1 v hv; omega
      have HSZK : Aside0 ((strOfNums x.firstsS[k].f0).size ≤ maxLen) := ⟨by
        have h1 : (strOfNums x.firstsS[k].f0).size = x.firstsS[k].f0.length := by simp [strOfNums, ByteArray.size]
        have := HN1.out
        unfold maxLen; omega⟩
      obtain ⟨sv, hsv⟩ : ∃ sv, sv = x.firstsS[k] := ⟨_, rfl⟩
      have HT : Aside0 ((x.firstsS.take k).map (fun s => s.f0) ++ [sv.f0] = (x.firstsS.take (k + 1)).map (fun s => s.f0)) := ⟨by rw [List.take_succ_eq_append_getElem hlt, List.map_append, hsv]; rfl⟩
      have HTL : Aside0 (((x.firstsS.take k).map (fun s => s.f0)).length = k) := ⟨by rw [List.length_map, List.length_take]; omega⟩
      rw [← hsv] at hs0 hs1 hs2 hs3 hr0 hr3 hNB HSZK hm0 hm3
      have HNB := Aside0.mk hNB
      have hba : Below wr.heap.size wr (wr.alloc (.cells #[.slice A0 sv.f0.length c0, .int .i64 sv.f1, .int .i64 sv.f2, .slice A3 sv.f3.length c3] 43)) := (Below.refl _ _).alloc (Nat.le_refl _) _
      have HBA := Aside0.mk hba
      have HM := Aside0.mk (HI.out.m.block (hba.block _ HI.out.m.lt))
      obtain ⟨D, hown, hD⟩ := HM.out
      have HOWN := Aside0.mk hown
      have HDD := Aside0.mk hD
      have hck := cell_blk (blk_below HI.out.k hba) 0 _ rfl
      have hcv := Kd.C_string (P := Try.prog) (A := A0) (c := c0) Try.underlying27 Try.underlying5 Try.underlying9 (Kd.C_below hr0 hba)
      have HAD := Aside0.mk e1
      rw [e1]
      clear hown hD hba hr0 hr3 hrl f0 f1 hsv hNB e1
      go_wp2_with (first
      | (at_lookup; refine gate_guard (by rfl) ?_; dsimp only; go_must (refine wpList_lookup_own_int _ rfl _ _ 89 rfl 9 3 .i64 keyed Try.underlying89 Try.underlying3 (zero_int _) w1.heap.size ((x.firstsS.take k).map (fun s => s.f0)).length D rfl HOWN.out _ _ rfl (Go.WideMaps.keyOf_string_mk Try.underlying9 ?hsz) ?_; (case hsz => exact HSZK.out); intro cn hcat hcw; obtain ⟨c', e1, e2, e3, e4⟩ := HDD.out sv.f0 HNB.out; have e5 := hcat.symm.trans e1; injection e5 with e5; injection e5 with _ e5; subst e5; have hcn : cn ≤ 1024 := (by have := HTL.out; omega); have HCAT := Aside0.mk hcat; clear e3 e4 hcat; clear e1 hcw))
      | (at_mapUpdate; go_must (refine wpList_mapUpdate_own _ rfl _ _ _ 89 rfl 9 3 keyed Try.underlying89 _ w1.heap.size ((x.firstsS.take k).map (fun s => s.f0)).length D rfl HOWN.out ?hml _ _ _ rfl rfl (Go.WideMaps.keyOf_string_mk Try.underlying9 HSZK.out) _ [] (plainElem_int Try.underlying3 (by have h := wrap64_wf (cn + 1); rwa [show wrap64 (cn + 1) = cn + 1 by unfold wrap64; omega] at h)) ?_; (case hml => have := HTL.out; unfold maxLen; omega); intro w3 hown3 hgrow3; have HM3 := Aside0.mk (known_put HOWN.out.isMap HDD.out HNB.out HCAT.out hown3); have HK3 := Aside0.mk (keep_map HM.out hgrow3); have HB3 := Aside0.mk ((HI.out.b.trans (HBA.out.mono HI.out.b.size)).grown hgrow3 (HI.out.b.trans (HBA.out.mono HI.out.b.size)).size (fun k e => by cases e; omega)); clear hown3 hgrow3)))
      exact ⟨⟨k + 1, by omega, by go_num, ⟨HAD.out ▸ cnt_next HI.out HBA.out HK3.out (HT.out ▸ HM3.out) HB3.out⟩⟩, by simp [intOf]; omega⟩
    · have hk' : k = x.firstsS.length := by omega
      have hWI : WInv x w w.heap.size (w.heap.size + 1) wr.heap.size (w1.heap.size + 1) (w.heap.size + 1 + 1) w1.heap.size 0 0 x.firstsS (wr.alloc (.cells #[.int .i64 0] 3)) := by
        have hb : Below wr.heap.size wr (wr.alloc (.cells #[.int .i64 0] 3)) := (Below.refl _ _).alloc (Nat.le_refl _) _
        have hm := HI.out.m
        rw [hk', List.take_length] at hm
        exact ⟨HI.out.c.below hb, ⟨_, blk_below HI.out.l hb, Kd.R_below HI.out.r hb⟩, heap_alloc_at _ _, blk_below HI.out.k hb, hm.block (hb.block _ hm.lt), blk_below HI.out.e hb, HI.out.b.trans (hb.mono HI.out.b.size), by omega, by omega, by omega⟩
      have HOI : Aside0 (OutI x w w.heap.size (w.heap.size + 1) (w1.heap.size + 1) (w.heap.size + 1 + 1) w1.heap.size (.pointer (some ⟨wr.heap.size, 0, none⟩)) (wr.alloc (.cells #[.int .i64 0] 3))) :=
        ⟨⟨_, 0, 0, _, rfl, hWI, firstsS_good HF.out hmay, by omega, by omega, .inl ⟨rfl, rfl⟩⟩⟩
      obtain ⟨wo, rfl⟩ : ∃ wo : World, wo = wr := ⟨_, rfl⟩
      clear hWI HI hk' hlen HL1 HE1 HA1 HB1 HFR HS1 HO1 HA2 HL2 HE2 HB2 HSZ
      go_wp2
      go_loopw [7] (fun v wr => Aside0 (OutI x w w.heap.size (w.heap.size + 1) (w1.heap.size + 1) (w.heap.size + 1 + 1) w1.heap.size v wr)) (fun v wr => 4097 - cellInt v wr)
      case atStart => exact HOI
      case round =>
        clear HOI
        obtain ⟨ga, at_, er, L, rfl, hW, hG, hL, hAt, hC⟩ := hrel.out
        have HW := Aside0.mk hW
        obtain ⟨vl, hv1, hv2⟩ := hW.l
        obtain ⟨A2, c2, e2⟩ := Kd.R_slice hv2
        subst e2
        have hcl := cell_blk hv1 0 _ rfl
        have hfl := blk_frozen hv1 0
        have hca := cell_blk hW.a 0 _ rfl
        have hce := cell_blk hW.e 0 _ rfl
        have hfe := blk_frozen hW.e 0
        have HV1 := Aside0.mk hv1
        have HV2 := Aside0.mk hv2
        have hL2 : L.length ≤ 9223372036854775807 := by omega
        have hA2 : at_ ≤ 9223372036854775807 := by omega
        have HG := Aside0.mk hG
        have HREL := Aside0.mk hC
        have hme : cellInt (.pointer (some ⟨ga, 0, none⟩)) wr = at_ := by simp [cellInt, cell_blk hW.a 0 _ rfl, intOf]
        have HME := Aside0.mk hme
        obtain ⟨_, k0, k1, k2, k3, k4, k5⟩ := hW.c
        clear hW hv1 hv2 hG hC hme hrel
        by_cases hgo : er = 0 ∧ at_ < L.length
        · obtain ⟨rfl, hlt⟩ := hgo
          have HWY := ways5_calls _ enters_stepOne (.pointer (some ⟨w.heap.size, 0, none⟩)) (.pointer (some ⟨w.heap.size + 1, 0, none⟩)) (.pointer (some ⟨ga, 0, none⟩)) (.pointer (some ⟨w1.heap.size + 1, 0, none⟩)) (.pointer (some ⟨w.heap.size + 1 + 1, 0, none⟩)) x.a0.toNat (by omega)
            (InI x w w.heap.size (w.heap.size + 1) ga (w1.heap.size + 1) (w.heap.size + 1 + 1) w1.heap.size at_ L) (InD x w w.heap.size (w.heap.size + 1) ga (w1.heap.size + 1) (w.heap.size + 1 + 1) w1.heap.size at_ L) wr ⟨L, rfl, HW.out⟩
            (fun n W0 W v _ hI hb hv => ways_step x w HO.out HF.out hmay h0 _ _ _ _ _ _ at_ L hlt hL HG.out n W0 W v hI hb hv)
          rw [Int.toNat_of_nonneg h0] at HWY
          have HWA := Aside0.mk HWY
          have HRL : Aside0 (x.outerS (4097 - at_) at_ L = x.walkS) := ⟨by rcases HREL.out with ⟨_, h⟩ | ⟨h, _⟩ <;> first | exact h | omega⟩
          clear HWY
          go_wp2_with (go_at_call 48; go_must (refine HWA.out.mono ?_; rintro e w2 ⟨rfl, hI⟩; have hI2 := out_of_ways hI; obtain ⟨L', er', hW2, hC2⟩ := hI2; have HW2 := Aside0.mk hW2; have HC2 := Aside0.mk hC2; have hca2 := cell_blk hW2.a 0 _ rfl; clear hI hW2 hC2 hcl hfl hca hce hfe k0 k1 k2 k3 k4 k5))
          refine ⟨⟨out_next hlt hL HG.out HRL.out HW2.out HC2.out⟩, ?_⟩
          have e : cellInt (.pointer (some ⟨w2.heap.size, 0, none⟩)) (w2.alloc (.cells #[.int .i64 ((at_ : Int) + 1)] 3)) = at_ + 1 := by
            simp [cellInt, cell_blk (heap_alloc_at w2 (.cells #[.int .i64 ((at_ : Int) + 1)] 3)) 0 _ rfl, intOf]
            try omega
          rw [e, HME.out]
          omega
        · have hne : w.heap.size + 1 ≠ w.heap.size + 1 + 1 := by omega
          obtain ⟨q1, q2, q3, q4⟩ := out_end HW.out hne HV1.out HV2.out
          have Q1 := Aside0.mk q1
          have Q2 := Aside0.mk q2
          have Q3 := Aside0.mk q3
          have Q4 := Aside0.mk q4
          clear q1 q2 q3 q4 k0 k1 k2 k3 k4 k5
          by_cases hlt : at_ < L.length
          · have h3 : er = 3 := by rcases HREL.out with ⟨h, _⟩ | ⟨h, _⟩ <;> omega
            have HN : Aside0 (x.walkS = none) := ⟨by rcases HREL.out with ⟨h, _⟩ | ⟨_, h⟩; omega; exact h⟩
            subst h3
            clear hgo
            go_wp2_with fail
            go_region
            go_wp2
            refine bodyPost_ret (v := .tuple #[.slice A2 L.length c2, .int .i64 3]) (results_c2 (fn := Try.f30) rfl (a := ⟨w.heap.size + 1, 0, none⟩) (b := ⟨w.heap.size + 1 + 1, 0, none⟩) rfl rfl (rv_cell Try.underlying34 rfl Q1.out) (rv_cell Try.underlying35 rfl Q2.out)) rfl ?_
            exact ⟨_, _, rfl, .inr ⟨rfl, HN.out⟩, Q4.out⟩
          · have HN : Aside0 ((er = 0 ∧ x.walkS = some L) ∨ (er = 3 ∧ x.walkS = none)) := ⟨by
              rcases HREL.out with ⟨h, h2⟩ | h
              · refine .inl ⟨h, ?_⟩
                rw [← h2, show 4097 - at_ = (4096 - at_) + 1 by omega]
                unfold CP.outerS
                rw [if_neg hlt]
              · exact .inr h⟩
            clear hgo
            go_wp2_with fail
            go_region
            go_wp2
            refine bodyPost_ret (v := .tuple #[.slice A2 L.length c2, .int .i64 er]) (results_c2 (fn := Try.f30) rfl (a := ⟨w.heap.size + 1, 0, none⟩) (b := ⟨w.heap.size + 1 + 1, 0, none⟩) rfl rfl (rv_cell Try.underlying34 rfl Q1.out) (rv_cell Try.underlying35 rfl Q2.out)) rfl ?_
            refine ⟨_, _, rfl, ?_, Q4.out⟩
            rcases HN.out with ⟨h, h2⟩ | h
            · exact .inl ⟨h, L, h2, Q3.out⟩
            · exact .inr h
end Go.Proofs.Ytdjhjgfjhicbfaa.PWalkTells
