/- A part of the proof of WalkTellsSaid: contracts of functions and plain lemmas; each holds under the hypotheses that it names. -/
import Derived.Deep.DeepMust
import Derived.Test.YtdjhjgfjhicbfaaPWalkTellsx0
import Derived.Test.YtdjhjgfjhicbfaaWWords
import Derived.Test.YtdjhjgfjhicbfaaWLast
import Derived.Test.YtdjhjgfjhicbfaaWMore
import Derived.WalkKit
import Derived.KernelRfl
import Derived.Shelf.Abstract
import Derived.Deep.QuietTactic
import Derived.BigQuiet
namespace Go.Proofs.Ytdjhjgfjhicbfaa.PWalkTells
open Go.RowKit Go.Shelf Go.Proofs.YtdjhjgfjhicbfaaW.PrintWords Go.Proofs.YtdjhjgfjhicbfaaW.PrintLast Go.Proofs.YtdjhjgfjhicbfaaW.PrintMore
set_option linter.unusedVariables false
set_option linter.unusedSimpArgs false
def Tells1 (F : FuncId) (q : Value) (k : IntKind) (p : Int → Bool) (xs : List Int) (w : World) : Prop :=
  ∀ x, x ∈ xs → ∀ W, Below w.heap.size w W → Calls Try.prog F #[.int k x, q] W fun e w' => e = .returned (.bool (p x)) ∧ Below W.heap.size W w'
def findI (p : Int → Bool) (xs : List Int) (i : Nat) : Int := if h : i < xs.length then (if p xs[i] then i else findI p xs (i + 1)) else -1
termination_by xs.length - i
theorem findI_lt {p : Int → Bool} {xs : List Int} {i : Nat} (h : i < xs.length) : findI p xs i = if p xs[i] then (i : Int) else findI p xs (i + 1) := by
  rw [findI, dif_pos h]
theorem findI_ge {p : Int → Bool} {xs : List Int} {i : Nat} (h : ¬ i < xs.length) : findI p xs i = -1 := by
  rw [findI, dif_neg h]
set_option maxHeartbeats 1000000 in
theorem index_u32 (F : FuncId) (hF : Enters Try.prog F) (q : Value) (p : Int → Bool) (A : Option Addr) (c : Nat) (xs : List Int) (w : World)
    (hr : Kd.C (Kd.int .u32) w A xs.length xs) (ht : Tells1 F q .u32 p xs w) :
    Calls Try.prog 69 #[.slice A xs.length c, .func (.func F) #[] #[q]] w fun e w' => e = .returned (.int .i64 (findI p xs 0)) ∧ Below w.heap.size w w' := by
  have hlen : xs.length ≤ 9223372036854775807 := hr.2.1
  have HR := Aside0.mk hr
  have HT := Aside0.mk ht
  clear hr ht
  have hF' := hF
  unfold Enters at hF'
  go_enter Try.func69, Try.ntmps69
  go_wp2
  go_loopw [8] (fun v wr => ∃ k : Nat, k ≤ xs.length ∧ v = .int .i64 k ∧ Aside0 (findI p xs k = findI p xs 0) ∧ Below w.heap.size w wr) (fun v _ => xs.length - (intOf v).toNat)
  case atStart => exact ⟨0, Nat.zero_le _, rfl, ⟨rfl⟩, Below.refl _ _⟩
  case round =>
    obtain ⟨k, hk, rfl, HQ, hb⟩ := hrel
    have hr := Kd.C_below HR.out hb
    by_cases hlt : k < xs.length
    · obtain ⟨ad, e1, hc⟩ := Kd.at_int hr k (by omega) (by omega)
      subst e1
      have hcell : wr.cell? (ad.add k) = some (.int .u32 xs[k]) := by simpa [rd, List.getD_eq_getElem?_getD, hlt] using hc
      clear hc hr
      have HC := HT.out xs[k] (List.getElem_mem hlt) wr hb
      have HQ2 := findI_lt (p := p) hlt
      have HCa := Aside0.mk HC
      have HQa := Aside0.mk HQ2
      clear HC HQ2
      have hb2 : ∀ w1, Below wr.heap.size wr w1 → Below w.heap.size w w1 := fun w1 h => hb.trans (h.mono hb.size)
      have HB2 := Aside0.mk hb2
      clear hb2
      cases hp : p xs[k]
      · rw [hp] at HCa HQa
        simp only [Bool.false_eq_true, if_false] at HQa
        go_wp2_with (refine HCa.out.mono ?_; rintro e w1 ⟨rfl, hb1⟩)
        exact ⟨⟨k + 1, by omega, by go_num, ⟨HQa.out.symm.trans HQ.out⟩, HB2.out _ hb1⟩, by simp [intOf]; omega⟩
      · rw [hp] at HCa HQa
        simp only [if_true] at HQa
        go_wp2_with (refine HCa.out.mono ?_; rintro e w1 ⟨rfl, hb1⟩)
        go_ret
        exact ⟨by rw [← HQ.out, HQa.out]; rfl, HB2.out _ hb1⟩
    · have hk' : k = xs.length := by omega
      clear hr
      have HQ2 := findI_ge (p := p) hlt
      go_wp2
      go_ret
      exact ⟨by rw [← HQ.out]; first | rw [HQ2]; rfl | rfl, hb⟩
theorem findI_any {p : Int → Bool} {xs : List Int} : ∀ n i, xs.length - i = n → decide (0 ≤ findI p xs i) = (xs.drop i).any p := by
  intro n
  induction n with
  | zero =>
    intro i h
    rw [findI_ge (by omega), List.drop_eq_nil_of_le (by omega)]; rfl
  | succ n ih =>
    intro i h
    have hi : i < xs.length := by omega
    rw [findI_lt hi, List.drop_eq_getElem_cons hi, List.any_cons]
    cases hp : p xs[i]
    · simp only [Bool.false_eq_true, if_false, Bool.false_or]; exact ih (i + 1) (by omega)
    · simp
theorem findI_any0 {p : Int → Bool} {xs : List Int} : decide (0 ≤ findI p xs 0) = xs.any p := by
  rw [findI_any _ 0 rfl]; rfl
set_option maxHeartbeats 1000000 in
theorem contains_u32 (F : FuncId) (hF : Enters Try.prog F) (q : Value) (p : Int → Bool) (A : Option Addr) (c : Nat) (xs : List Int) (w : World)
    (hr : Kd.C (Kd.int .u32) w A xs.length xs) (ht : Tells1 F q .u32 p xs w) :
    Calls Try.prog 55 #[.slice A xs.length c, .func (.func F) #[] #[q]] w fun e w' => e = .returned (.bool (xs.any p)) ∧ Below w.heap.size w w' := by
  have HI := Aside0.mk (index_u32 F hF q p A c xs w hr ht)
  have HA := Aside0.mk (findI_any0 (p := p) (xs := xs))
  clear hr ht hF
  go_enter Try.func55, Try.ntmps55
  go_wp2_with (refine HI.out.mono ?_; rintro e w1 ⟨rfl, hb1⟩)
  go_ret
  exact ⟨by rw [← HA.out]; rfl, hb1⟩
def Tells0 (F : FuncId) (k : IntKind) (p : Int → Bool) (xs : List Int) (w : World) : Prop :=
  ∀ x, x ∈ xs → ∀ W, Below w.heap.size w W → Calls Try.prog F #[.int k x] W fun e w' => e = .returned (.bool (p x)) ∧ Below W.heap.size W w'
set_option maxHeartbeats 1000000 in
theorem index_u8 (F : FuncId) (hF : Enters Try.prog F) (p : Int → Bool) (A : Option Addr) (c : Nat) (xs : List Int) (w : World)
    (hr : Kd.C (Kd.int .u8) w A xs.length xs) (ht : Tells0 F .u8 p xs w) :
    Calls Try.prog 59 #[.slice A xs.length c, .func (.func F) #[] #[]] w fun e w' => e = .returned (.int .i64 (findI p xs 0)) ∧ Below w.heap.size w w' := by
  have hlen : xs.length ≤ 9223372036854775807 := hr.2.1
  have HR := Aside0.mk hr
  have HT := Aside0.mk ht
  clear hr ht
  have hF' := hF
  unfold Enters at hF'
  go_enter Try.func59, Try.ntmps59
  go_wp2
  go_loopw [8] (fun v wr => ∃ k : Nat, k ≤ xs.length ∧ v = .int .i64 k ∧ Aside0 (findI p xs k = findI p xs 0) ∧ Below w.heap.size w wr) (fun v _ => xs.length - (intOf v).toNat)
  case atStart => exact ⟨0, Nat.zero_le _, rfl, ⟨rfl⟩, Below.refl _ _⟩
  case round =>
    obtain ⟨k, hk, rfl, HQ, hb⟩ := hrel
    have hr := Kd.C_below HR.out hb
    by_cases hlt : k < xs.length
    · obtain ⟨ad, e1, hc⟩ := Kd.at_int hr k (by omega) (by omega)
      subst e1
      have hcell : wr.cell? (ad.add k) = some (.int .u8 xs[k]) := by simpa [rd, List.getD_eq_getElem?_getD, hlt] using hc
      clear hc hr
      have HC := HT.out xs[k] (List.getElem_mem hlt) wr hb
      have HQ2 := findI_lt (p := p) hlt
      have HCa := Aside0.mk HC
      have HQa := Aside0.mk HQ2
      clear HC HQ2
      have hb2 : ∀ w1, Below wr.heap.size wr w1 → Below w.heap.size w w1 := fun w1 h => hb.trans (h.mono hb.size)
      have HB2 := Aside0.mk hb2
      clear hb2
      cases hp : p xs[k]
      · rw [hp] at HCa HQa
        simp only [Bool.false_eq_true, if_false] at HQa
        go_wp2_with (refine HCa.out.mono ?_; rintro e w1 ⟨rfl, hb1⟩)
        exact ⟨⟨k + 1, by omega, by go_num, ⟨HQa.out.symm.trans HQ.out⟩, HB2.out _ hb1⟩, by simp [intOf]; omega⟩
      · rw [hp] at HCa HQa
        simp only [if_true] at HQa
        go_wp2_with (refine HCa.out.mono ?_; rintro e w1 ⟨rfl, hb1⟩)
        go_ret
        exact ⟨by rw [← HQ.out, HQa.out]; rfl, HB2.out _ hb1⟩
    · have hk' : k = xs.length := by omega
      clear hr
      have HQ2 := findI_ge (p := p) hlt
      go_wp2
      go_ret
      exact ⟨by rw [← HQ.out]; first | rw [HQ2]; rfl | rfl, hb⟩
set_option maxHeartbeats 1000000 in
theorem contains_u8 (F : FuncId) (hF : Enters Try.prog F) (p : Int → Bool) (A : Option Addr) (c : Nat) (xs : List Int) (w : World)
    (hr : Kd.C (Kd.int .u8) w A xs.length xs) (ht : Tells0 F .u8 p xs w) :
    Calls Try.prog 41 #[.slice A xs.length c, .func (.func F) #[] #[]] w fun e w' => e = .returned (.bool (xs.any p)) ∧ Below w.heap.size w w' := by
  have HI := Aside0.mk (index_u8 F hF p A c xs w hr ht)
  have HA := Aside0.mk (findI_any0 (p := p) (xs := xs))
  clear hr ht hF
  go_enter Try.func41, Try.ntmps41
  go_wp2_with (refine HI.out.mono ?_; rintro e w1 ⟨rfl, hb1⟩)
  go_ret
  exact ⟨by rw [← HA.out]; rfl, hb1⟩
end Go.Proofs.Ytdjhjgfjhicbfaa.PWalkTells
namespace Go.Proofs.Ytdjhjgfjhicbfaa.PWalkTells
open Go.RowKit Go.Shelf Go.Proofs.YtdjhjgfjhicbfaaW.PrintWords Go.Proofs.YtdjhjgfjhicbfaaW.PrintLast Go.Proofs.YtdjhjgfjhicbfaaW.PrintMore
set_option linter.unusedVariables false
set_option linter.unusedSimpArgs false
structure CP where
  a0 : Int
  A1 : Option Addr
  c1 : Nat
  l1 : List S61
  A2 : Option Addr
  c2 : Nat
  l2 : List S68
  A3 : Option Addr
  c3 : Nat
  l3 : List Int
  A4 : Option Addr
  c4 : Nat
  l4 : List Int
  A5 : Option Addr
  c5 : Nat
  l5 : List Int
structure CP.Ok (x : CP) (w : World) : Prop where
  h0 : IntKind.i64.min ≤ x.a0 ∧ x.a0 ≤ IntKind.i64.max
  r1 : Kd.C k61 w x.A1 x.l1.length x.l1
  m1 : x.l1.length ≤ x.c1
  r2 : Kd.C k68 w x.A2 x.l2.length x.l2
  m2 : x.l2.length ≤ x.c2
  r3 : Kd.C (Kd.int .u32) w x.A3 x.l3.length x.l3
  m3 : x.l3.length ≤ x.c3
  r4 : Kd.C (Kd.int .u32) w x.A4 x.l4.length x.l4
  m4 : x.l4.length ≤ x.c4
  r5 : Kd.C (Kd.int .u32) w x.A5 x.l5.length x.l5
  m5 : x.l5.length ≤ x.c5
structure CP.Fit (x : CP) : Prop where
  n1 : x.l1.length * 8 ≤ 140737488351232
  n2 : x.l2.length * 8 ≤ 140737488351232
  n3 : x.l3.length * 4 ≤ 140737488351232
  n4 : x.l4.length * 4 ≤ 140737488351232
  n5 : x.l5.length * 4 ≤ 140737488351232
  g1 : ∀ s ∈ x.l1, 0 ≤ s.f0 ∧ s.f0 ≤ 4294967295 ∧ 0 ≤ s.f1 ∧ s.f1 ≤ 255
  g2 : ∀ s ∈ x.l2, 0 ≤ s.f0 ∧ s.f0 ≤ 4294967295 ∧ 0 ≤ s.f1 ∧ s.f1 ≤ 4294967295
  g3 : ∀ v ∈ x.l3, 0 ≤ v ∧ v ≤ 4294967295
  g4 : ∀ v ∈ x.l4, 0 ≤ v ∧ v ≤ 4294967295
  g5 : ∀ v ∈ x.l5, 0 ≤ v ∧ v ≤ 4294967295
theorem CP.Ok.below {x : CP} {w w1 : World} (h : x.Ok w) (hb : Below w.heap.size w w1) : x.Ok w1 :=
  ⟨h.h0, Kd.C_below h.r1 hb, h.m1, Kd.C_below h.r2 hb, h.m2, Kd.C_below h.r3 hb, h.m3, Kd.C_below h.r4 hb, h.m4, Kd.C_below h.r5 hb, h.m5⟩
theorem heap_alloc_at (w : World) (o : Obj) : (w.alloc o).heap[w.heap.size]? = some o := by
  show (w.heap.push o)[w.heap.size]? = _; simp
theorem cell_blk {w : World} {gb : Nat} {cs : Array Value} {t : TypeId} {fr : Nat × Nat} (h : w.heap[gb]? = some (.cells cs t fr)) (i : Nat) (v : Value) (hv : cs[i]? = some v) :
    w.cell? ⟨gb, i, none⟩ = some v := by
  simp [World.cell?, h, hv]
structure CP.At (x : CP) (w : World) (gb : Nat) : Prop where
  blk : w.heap[gb]? = some (.cells #[.int .i64 x.a0, .slice x.A1 x.l1.length x.c1, .slice x.A2 x.l2.length x.c2, .slice x.A3 x.l3.length x.c3, .slice x.A4 x.l4.length x.c4, .slice x.A5 x.l5.length x.c5] 26 (0, 0))
  k0 : w.cell? ⟨gb, 0, none⟩ = some (.int .i64 x.a0)
  k1 : w.cell? ⟨gb, 1, none⟩ = some (.slice x.A1 x.l1.length x.c1)
  k2 : w.cell? ⟨gb, 2, none⟩ = some (.slice x.A2 x.l2.length x.c2)
  k3 : w.cell? ⟨gb, 3, none⟩ = some (.slice x.A3 x.l3.length x.c3)
  k4 : w.cell? ⟨gb, 4, none⟩ = some (.slice x.A4 x.l4.length x.c4)
  k5 : w.cell? ⟨gb, 5, none⟩ = some (.slice x.A5 x.l5.length x.c5)
theorem CP.at_mk {x : CP} {w : World} {gb : Nat} (h : w.heap[gb]? = some (.cells #[.int .i64 x.a0, .slice x.A1 x.l1.length x.c1, .slice x.A2 x.l2.length x.c2, .slice x.A3 x.l3.length x.c3, .slice x.A4 x.l4.length x.c4, .slice x.A5 x.l5.length x.c5] 26 (0, 0))) : x.At w gb :=
  ⟨h, cell_blk h 0 _ rfl, cell_blk h 1 _ rfl, cell_blk h 2 _ rfl, cell_blk h 3 _ rfl, cell_blk h 4 _ rfl, cell_blk h 5 _ rfl⟩
theorem CP.At.lt {x : CP} {w : World} {gb : Nat} (h : x.At w gb) : gb < w.heap.size := (Array.getElem?_eq_some_iff.1 h.blk).1
theorem CP.At.below {x : CP} {w w1 : World} {gb : Nat} (h : x.At w gb) (hb : Below w.heap.size w w1) : x.At w1 gb :=
  CP.at_mk ((hb.block gb h.lt).trans h.blk)
theorem CP.at_alloc (x : CP) (w : World) : x.At (w.alloc (.cells #[.int .i64 x.a0, .slice x.A1 x.l1.length x.c1, .slice x.A2 x.l2.length x.c2, .slice x.A3 x.l3.length x.c3, .slice x.A4 x.l4.length x.c4, .slice x.A5 x.l5.length x.c5] 26 (0, 0))) w.heap.size :=
  CP.at_mk (by show (w.heap.push _)[w.heap.size]? = _; simp)
end Go.Proofs.Ytdjhjgfjhicbfaa.PWalkTells
