/- A part of the proof of WalkTellsSaid: contracts of functions and plain lemmas; each holds under the hypotheses that it names. -/
import Derived.Test.YtdjhjgfjhicbfaaTellsGa
import Derived.Deep.SlicePairs
import Derived.ProofKit
import Derived.SizedLaws
import Derived.Test.YtdjhjgfjhicbfaaTellsGc
namespace Go.Proofs.Ytdjhjgfjhicbfaa.PWalkTells
open Go.RowKit Go.Shelf Go.Deep Go.ChangeShapes Go.WideShapes Go.ChangeAt Go.Proofs.YtdjhjgfjhicbfaaW.PrintWords Go.Proofs.YtdjhjgfjhicbfaaW.PrintLast Go.Proofs.YtdjhjgfjhicbfaaW.PrintMore
set_option linter.unusedVariables false
set_option linter.unusedSimpArgs false
theorem wf_range {k : IntKind} {n : Int} (h : (Lit.int k n).wf = true) : k.min ≤ n ∧ n ≤ k.max := by
  simpa [Lit.wf] using h
theorem row_S61 {H : Type} {enc : TypeId × Value → H} {w : World} {base : Nat} {spare : Nat → Bool} {held : Bool} {fuel : Nat} {cs : List Value} {x : DataW H × List MemPlace}
    (h : DataW.trod enc Try.prog w base spare held fuel 22 cs = some x) :
    ∃ (A : Option Addr) (c : Nat) (l : List S61) , cs = [.slice A l.length c] ∧ l.length ≤ c ∧ Kd.C k61 w A l.length l ∧ (∀ s ∈ l, 0 ≤ s.f0 ∧ s.f0 ≤ 4294967295 ∧ 0 ≤ s.f1 ∧ s.f1 ≤ 255) ∧
      (l.length = 0 ∨ ∃ es sp, x.1 = .slice es sp ∧ es.length = l.length) := by
  obtain ⟨F0, F1, hu, h0, h1, t0, t1⟩ : ∃ F0 F1 : Field, Try.prog.underlying 61 = some (.struct #[F0, F1]) ∧ F0.offset = 0 ∧ F1.offset = 1 ∧ F0.type = 59 ∧ F1.type = 5 := ⟨_, _, Try.underlying61, rfl, rfl, rfl, rfl⟩
  rcases open_slice_pairs Try.underlying22 hu (by kernel_rfl) h0 h1 (by rw [t0]; kernel_rfl) (by rw [t1]; kernel_rfl) h with ⟨rfl, _⟩ | ⟨a, len, cap, m, n, V0, V1, D0, D1, P0, P1, rfl, _, hl, hcap, hm, rfl, hx⟩
  · exact ⟨none, 0, [], rfl, Nat.le_refl _, ⟨rfl, by decide, fun h => absurd h (by decide)⟩, fun s hs => by simp at hs, .inl rfl⟩
  · have hlm : len ≤ m := by rw [hm]; split <;> omega
    have hv : ∀ i, i < len → ∃ s : S61, V0 i = .int .u32 s.f0 ∧ V1 i = .int .u8 s.f1 ∧ 0 ≤ s.f0 ∧ s.f0 ≤ 4294967295 ∧ 0 ≤ s.f1 ∧ s.f1 ≤ 255 := by
      intro i hi
      obtain ⟨_, _, e0, e1⟩ := hx i (by omega)
      rw [t0] at e0
      rw [t1] at e1
      obtain ⟨n0, r0, _, w0⟩ := DataW.trod_int Try.underlying59 e0
      obtain ⟨n1, r1, _, w1⟩ := DataW.trod_int Try.underlying5 e1
      injection r0 with r0
      injection r1 with r1
      have b0 := wf_range w0
      have b1 := wf_range w1
      exact ⟨⟨n0, n1⟩, r0, r1, b0.1, b0.2, b1.1, b1.2⟩
    haveI : Inhabited S61 := ⟨z61⟩
    obtain ⟨S, hS⟩ := choose_lt (α := S61) hv
    have hlen : ((List.range len).map S).length = len := by simp
    refine ⟨some a, cap, (List.range len).map S, by rw [hlen], by rw [hlen]; exact hl, ⟨rfl, by rw [hlen]; exact Nat.le_trans hl (Nat.le_trans hcap (by decide)), fun _ => ⟨a, rfl, fun j p hj => ?_⟩⟩, ?_, .inr ⟨_, _, rfl, by simp⟩⟩
    · have hjl : j < len := by have := (List.getElem?_eq_some_iff.1 hj).1; simpa using this
      have hp : S j = p := by simpa [hjl] using hj
      obtain ⟨g0, g1, _, _⟩ := hx j (by omega)
      obtain ⟨q0, q1, _⟩ := hS j hjl
      rw [q0] at g0
      rw [q1] at g1
      rw [hp] at g0 g1
      refine ⟨_, rfl, k61_mk w p, fun i u hu => ?_⟩
      match i, hu with
      | 0, hu =>
        injection hu with hu
        rw [← hu]; exact g0
      | 1, hu =>
        injection hu with hu
        rw [← hu]; exact g1
    · intro s hs
      obtain ⟨j, hj, rfl⟩ := List.mem_map.1 hs
      obtain ⟨_, _, q⟩ := hS j (List.mem_range.1 hj)
      exact q
theorem row_S68 {H : Type} {enc : TypeId × Value → H} {w : World} {base : Nat} {spare : Nat → Bool} {held : Bool} {fuel : Nat} {cs : List Value} {x : DataW H × List MemPlace}
    (h : DataW.trod enc Try.prog w base spare held fuel 23 cs = some x) :
    ∃ (A : Option Addr) (c : Nat) (l : List S68) , cs = [.slice A l.length c] ∧ l.length ≤ c ∧ Kd.C k68 w A l.length l ∧ (∀ s ∈ l, 0 ≤ s.f0 ∧ s.f0 ≤ 4294967295 ∧ 0 ≤ s.f1 ∧ s.f1 ≤ 4294967295) ∧
      (l.length = 0 ∨ ∃ es sp, x.1 = .slice es sp ∧ es.length = l.length) := by
  obtain ⟨F0, F1, hu, h0, h1, t0, t1⟩ : ∃ F0 F1 : Field, Try.prog.underlying 68 = some (.struct #[F0, F1]) ∧ F0.offset = 0 ∧ F1.offset = 1 ∧ F0.type = 59 ∧ F1.type = 59 := ⟨_, _, Try.underlying68, rfl, rfl, rfl, rfl⟩
  rcases open_slice_pairs Try.underlying23 hu (by kernel_rfl) h0 h1 (by rw [t0]; kernel_rfl) (by rw [t1]; kernel_rfl) h with ⟨rfl, _⟩ | ⟨a, len, cap, m, n, V0, V1, D0, D1, P0, P1, rfl, _, hl, hcap, hm, rfl, hx⟩
  · exact ⟨none, 0, [], rfl, Nat.le_refl _, ⟨rfl, by decide, fun h => absurd h (by decide)⟩, fun s hs => by simp at hs, .inl rfl⟩
  · have hlm : len ≤ m := by rw [hm]; split <;> omega
    have hv : ∀ i, i < len → ∃ s : S68, V0 i = .int .u32 s.f0 ∧ V1 i = .int .u32 s.f1 ∧ 0 ≤ s.f0 ∧ s.f0 ≤ 4294967295 ∧ 0 ≤ s.f1 ∧ s.f1 ≤ 4294967295 := by
      intro i hi
      obtain ⟨_, _, e0, e1⟩ := hx i (by omega)
      rw [t0] at e0
      rw [t1] at e1
      obtain ⟨n0, r0, _, w0⟩ := DataW.trod_int Try.underlying59 e0
      obtain ⟨n1, r1, _, w1⟩ := DataW.trod_int Try.underlying59 e1
      injection r0 with r0
      injection r1 with r1
      have b0 := wf_range w0
      have b1 := wf_range w1
      exact ⟨⟨n0, n1⟩, r0, r1, b0.1, b0.2, b1.1, b1.2⟩
    haveI : Inhabited S68 := ⟨z68⟩
    obtain ⟨S, hS⟩ := choose_lt (α := S68) hv
    have hlen : ((List.range len).map S).length = len := by simp
    refine ⟨some a, cap, (List.range len).map S, by rw [hlen], by rw [hlen]; exact hl, ⟨rfl, by rw [hlen]; exact Nat.le_trans hl (Nat.le_trans hcap (by decide)), fun _ => ⟨a, rfl, fun j p hj => ?_⟩⟩, ?_, .inr ⟨_, _, rfl, by simp⟩⟩
    · have hjl : j < len := by have := (List.getElem?_eq_some_iff.1 hj).1; simpa using this
      have hp : S j = p := by simpa [hjl] using hj
      obtain ⟨g0, g1, _, _⟩ := hx j (by omega)
      obtain ⟨q0, q1, _⟩ := hS j hjl
      rw [q0] at g0
      rw [q1] at g1
      rw [hp] at g0 g1
      refine ⟨_, rfl, k68_mk w p, fun i u hu => ?_⟩
      match i, hu with
      | 0, hu =>
        injection hu with hu
        rw [← hu]; exact g0
      | 1, hu =>
        injection hu with hu
        rw [← hu]; exact g1
    · intro s hs
      obtain ⟨j, hj, rfl⟩ := List.mem_map.1 hs
      obtain ⟨_, _, q⟩ := hS j (List.mem_range.1 hj)
      exact q
theorem row_u32 {H : Type} {enc : TypeId × Value → H} {w : World} {base : Nat} {spare : Nat → Bool} {held : Bool} {fuel : Nat} {cs : List Value} {x : DataW H × List MemPlace}
    (h : DataW.trod enc Try.prog w base spare held fuel 24 cs = some x) :
    ∃ (A : Option Addr) (c : Nat) (l : List Int), cs = [.slice A l.length c] ∧ l.length ≤ c ∧ Kd.C (Kd.int .u32) w A l.length l ∧ (∀ v ∈ l, 0 ≤ v ∧ v ≤ 4294967295) ∧ (l.length = 0 ∨ ∃ es sp, x.1 = .slice es sp ∧ es.length = l.length) := by
  rcases open_slice1 Try.underlying24 (by kernel_rfl) h with ⟨rfl, _⟩ | ⟨a, len, cap, m, n, V, D, Pl, rfl, _, hl, hcap, hm, rfl, hx⟩
  · exact ⟨none, 0, [], rfl, Nat.le_refl _, ⟨rfl, by decide, fun h => absurd h (by decide)⟩, fun s hs => by simp at hs, .inl rfl⟩
  · have hlm : len ≤ m := by rw [hm]; split <;> omega
    have hv : ∀ i, i < len → ∃ s : Int, V i = .int .u32 s ∧ 0 ≤ s ∧ s ≤ 4294967295 := by
      intro i hi
      obtain ⟨_, e0⟩ := hx i (by omega)
      obtain ⟨n0, r0, _, w0⟩ := DataW.trod_int Try.underlying59 e0
      injection r0 with r0
      have b0 := wf_range w0
      exact ⟨n0, r0, b0.1, b0.2⟩
    obtain ⟨S, hS⟩ := choose_lt (α := Int) hv
    have hlen : ((List.range len).map S).length = len := by simp
    refine ⟨some a, cap, (List.range len).map S, by rw [hlen], by rw [hlen]; exact hl, ⟨rfl, by rw [hlen]; exact Nat.le_trans hl (Nat.le_trans hcap (by decide)), fun _ => ⟨a, rfl, fun j p hj => ?_⟩⟩, ?_, .inr ⟨_, _, rfl, by simp⟩⟩
    · have hjl : j < len := by have := (List.getElem?_eq_some_iff.1 hj).1; simpa using this
      have hp : S j = p := by simpa [hjl] using hj
      obtain ⟨g0, _⟩ := hx j (by omega)
      obtain ⟨q0, _⟩ := hS j hjl
      rw [q0, hp] at g0
      refine ⟨[.int .u32 p], rfl, rfl, fun i u hu => ?_⟩
      match i, hu with
      | 0, hu =>
        injection hu with hu
        rw [← hu]
        have : (Kd.int IntKind.u32).sz = 1 := rfl
        rw [this, Nat.mul_one, Nat.add_zero]; exact g0
    · intro s hs
      obtain ⟨j, hj, rfl⟩ := List.mem_map.1 hs
      obtain ⟨_, q⟩ := hS j (List.mem_range.1 hj)
      exact q
theorem sized_agg {H : Type} {P : Program} {ts : List TypeId} {ds : List (DataW H)} (h : (DataW.weightsEach P ts ds).all (· ≤ reachBytes) = true) {j : Nat} {t : TypeId} {parts : List (DataW H)} {fs : Array Field} (ht : ts[j]? = some t) (hd : ds[j]? = some (.agg parts)) (hu : P.underlying t = some (.struct fs)) :
    (DataW.weightsEach P (fs.toList.map (·.type)) parts).all (· ≤ reachBytes) = true := by
  rw [List.all_eq_true]
  intro q hq
  exact List.all_eq_true.1 h q (DataW.weights_mem_each ht hd q (by simpa [DataW.weights, hu] using hq))
theorem sized_part {H : Type} {P : Program} {ts : List TypeId} {ds : List (DataW H)} (h : (DataW.weightsEach P ts ds).all (· ≤ reachBytes) = true) {j : Nat} {t e : TypeId} {d : DataW H} (ht : ts[j]? = some t) (hd : ds[j]? = some d) (hu : P.underlying t = some (.slice e)) {n B : Nat} (hB : P.bytesOf e = B)
    (hn : n = 0 ∨ ∃ es sp, d = .slice es sp ∧ es.length = n) : n * B ≤ 140737488351232 := by
  rcases hn with rfl | ⟨es, sp, rfl, rfl⟩
  · simp
  · have h2 := sized_slice h ht hd hu
    rw [hB] at h2
    have h3 : es.length * B ≤ (es.length + sp.length) * B := Nat.mul_le_mul_right _ (Nat.le_add_right _ _)
    exact Nat.le_trans h3 (Nat.le_trans h2 (by decide))
theorem six_of {α : Type} {l : List α} (h : l.length = 6) : ∃ a b c d e f, l = [a, b, c, d, e, f] := by
  match l, h with
  | [a, b, c, d, e, f], _ => exact ⟨a, b, c, d, e, f, rfl⟩
theorem fld {H : Type} {enc : TypeId × Value → H} {P : Program} {w : World} {base : Nat} {spare : Nat → Bool} {held : Bool} {n : Nat} {fs : Array Field} {cs : List Value} {xs : List (DataW H × List MemPlace)}
    (hf : ∀ (i : Nat) (f : Field), fs[i]? = some f → DataW.trod enc P w base spare held n f.type ((cs.drop f.offset).take (P.cellsOf f.type)) = xs[i]?) (i : Nat) {f : Field} (hi : fs[i]? = some f) {t k : Nat} (ht : f.type = t) (ho : f.offset = k) (hc : P.cellsOf t = 1) :
    DataW.trod enc P w base spare held n t ((cs.drop k).take 1) = xs[i]? := by
  have h := hf i f hi
  rw [ht, ho, hc] at h
  exact h
theorem open_circuit {H : Type} {enc : TypeId × Value → H} {w : World} {base : Nat} {spare : Nat → Bool} {held : Bool} {r : Reach} {b0 : Nat} {v : Value} {d : DataW H} {ps : List MemPlace} (hval : Value.okWide Try.prog w r b0 26 v)
    (hd : DataW.Trod enc Try.prog w base spare held 26 v d ps) {ts : List TypeId} {ds : List (DataW H)} (hsz : (DataW.weightsEach Try.prog ts ds).all (· ≤ reachBytes) = true) {j : Nat} (ht : ts[j]? = some 26) (hj : ds[j]? = some d) :
    ∃ x : CP, v = (.agg #[.int .i64 x.a0, .slice x.A1 x.l1.length x.c1, .slice x.A2 x.l2.length x.c2, .slice x.A3 x.l3.length x.c3, .slice x.A4 x.l4.length x.c4, .slice x.A5 x.l5.length x.c5]) ∧ x.Ok w ∧ x.Fit := by
  obtain ⟨cs, rfl, hcs⟩ := okWide_struct Try.underlying26 hval
  obtain ⟨fuel, hd⟩ := hd
  obtain ⟨xs, n, rfl, hx, hl, hxl, hf⟩ := DataW.trod_struct Try.underlying26 hd
  have hc6 : Try.prog.cellsOf 26 = 6 := by kernel_rfl
  have ce : (Value.agg cs).cells.toList = cs.toList := rfl
  rw [ce, hc6] at hl
  rw [ce] at hf
  obtain ⟨v0, v1, v2, v3, v4, v5, hcl⟩ := six_of hl
  obtain ⟨y0, y1, y2, y3, y4, y5, rfl⟩ := six_of hxl
  have hca : cs = #[v0, v1, v2, v3, v4, v5] := by rw [← Array.toArray_toList (xs := cs), hcl]
  rw [hcl] at hf
  have c3 : Try.prog.cellsOf 3 = 1 := by kernel_rfl
  have c22 : Try.prog.cellsOf 22 = 1 := by kernel_rfl
  have c23 : Try.prog.cellsOf 23 = 1 := by kernel_rfl
  have c24 : Try.prog.cellsOf 24 = 1 := by kernel_rfl
  have g0 : DataW.trod enc Try.prog w base spare held n 3 [v0] = some y0 := fld hf 0 rfl rfl rfl c3
  have g1 : DataW.trod enc Try.prog w base spare held n 22 [v1] = some y1 := fld hf 1 rfl rfl rfl c22
  have g2 : DataW.trod enc Try.prog w base spare held n 23 [v2] = some y2 := fld hf 2 rfl rfl rfl c23
  have g3 : DataW.trod enc Try.prog w base spare held n 24 [v3] = some y3 := fld hf 3 rfl rfl rfl c24
  have g4 : DataW.trod enc Try.prog w base spare held n 24 [v4] = some y4 := fld hf 4 rfl rfl rfl c24
  have g5 : DataW.trod enc Try.prog w base spare held n 24 [v5] = some y5 := fld hf 5 rfl rfl rfl c24
  obtain ⟨a0, e0, _, w0⟩ := DataW.trod_int Try.underlying3 g0
  injection e0 with e0
  obtain ⟨A1, k1, l1, e1, m1, r1, q1, z1⟩ := row_S61 g1
  injection e1 with e1
  obtain ⟨A2, k2, l2, e2, m2, r2, q2, z2⟩ := row_S68 g2
  injection e2 with e2
  obtain ⟨A3, k3, l3, e3, m3, r3, q3, z3⟩ := row_u32 g3
  injection e3 with e3
  obtain ⟨A4, k4, l4, e4, m4, r4, q4, z4⟩ := row_u32 g4
  injection e4 with e4
  obtain ⟨A5, k5, l5, e5, m5, r5, q5, z5⟩ := row_u32 g5
  injection e5 with e5
  have hdx : d = .agg [y0.1, y1.1, y2.1, y3.1, y4.1, y5.1] := by injection hx
  have hs := sized_agg hsz ht (by rw [hj, hdx]) Try.underlying26
  have s1 := sized_part hs (j := 1) rfl rfl Try.underlying22 (B := 8) (by kernel_rfl) z1
  have s2 := sized_part hs (j := 2) rfl rfl Try.underlying23 (B := 8) (by kernel_rfl) z2
  have s3 := sized_part hs (j := 3) rfl rfl Try.underlying24 (B := 4) (by kernel_rfl) z3
  have s4 := sized_part hs (j := 4) rfl rfl Try.underlying24 (B := 4) (by kernel_rfl) z4
  have s5 := sized_part hs (j := 5) rfl rfl Try.underlying24 (B := 4) (by kernel_rfl) z5
  exact ⟨⟨a0, A1, k1, l1, A2, k2, l2, A3, k3, l3, A4, k4, l4, A5, k5, l5⟩, by rw [hca, e0, e1, e2, e3, e4, e5], ⟨wf_range w0, r1, m1, r2, m2, r3, m3, r4, m4, r5, m5⟩, ⟨s1, s2, s3, s4, s5, q1, q2, q3, q4, q5⟩⟩
end Go.Proofs.Ytdjhjgfjhicbfaa.PWalkTells
namespace Go.Proofs.Ytdjhjgfjhicbfaa.PWalkTells
open Go.RowKit Go.Shelf Go.Deep Go.ChangeShapes Go.WideShapes Go.ChangeAt Go.Proofs.YtdjhjgfjhicbfaaW.PrintWords Go.Proofs.YtdjhjgfjhicbfaaW.PrintLast Go.Proofs.YtdjhjgfjhicbfaaW.PrintMore
set_option linter.unusedVariables false
set_option linter.unusedSimpArgs false
theorem row_u8 {H : Type} {enc : TypeId × Value → H} {w : World} {base : Nat} {spare : Nat → Bool} {held : Bool} {fuel : Nat} {cs : List Value} {x : DataW H × List MemPlace}
    (h : DataW.trod enc Try.prog w base spare held fuel 27 cs = some x) :
    ∃ (A : Option Addr) (c : Nat) (l : List Int), cs = [.slice A l.length c] ∧ l.length ≤ c ∧ Kd.C (Kd.int .u8) w A l.length l ∧ (∀ v ∈ l, 0 ≤ v ∧ v ≤ 255) ∧ (l.length = 0 ∨ ∃ es sp, x.1 = .slice es sp ∧ es.length = l.length) := by
  rcases open_slice1 Try.underlying27 (by kernel_rfl) h with ⟨rfl, _⟩ | ⟨a, len, cap, m, n, V, D, Pl, rfl, _, hl, hcap, hm, rfl, hx⟩
  · exact ⟨none, 0, [], rfl, Nat.le_refl _, ⟨rfl, by decide, fun h => absurd h (by decide)⟩, fun s hs => by simp at hs, .inl rfl⟩
  · have hlm : len ≤ m := by rw [hm]; split <;> omega
    have hv : ∀ i, i < len → ∃ s : Int, V i = .int .u8 s ∧ 0 ≤ s ∧ s ≤ 255 := by
      intro i hi
      obtain ⟨_, e0⟩ := hx i (by omega)
      obtain ⟨n0, r0, _, w0⟩ := DataW.trod_int Try.underlying5 e0
      injection r0 with r0
      have b0 := wf_range w0
      exact ⟨n0, r0, b0.1, b0.2⟩
    obtain ⟨S, hS⟩ := choose_lt (α := Int) hv
    have hlen : ((List.range len).map S).length = len := by simp
    refine ⟨some a, cap, (List.range len).map S, by rw [hlen], by rw [hlen]; exact hl, ⟨rfl, by rw [hlen]; exact Nat.le_trans hl (Nat.le_trans hcap (by decide)), fun _ => ⟨a, rfl, fun j p hj => ?_⟩⟩, ?_, .inr ⟨_, _, rfl, by simp⟩⟩
    · have hjl : j < len := by have := (List.getElem?_eq_some_iff.1 hj).1; simpa using this
      have hp : S j = p := by simpa [hjl] using hj
      obtain ⟨g0, _⟩ := hx j (by omega)
      obtain ⟨q0, _⟩ := hS j hjl
      rw [q0, hp] at g0
      refine ⟨[.int .u8 p], rfl, rfl, fun i u hu => ?_⟩
      match i, hu with
      | 0, hu =>
        injection hu with hu
        rw [← hu]
        have : (Kd.int IntKind.u8).sz = 1 := rfl
        rw [this, Nat.mul_one, Nat.add_zero]; exact g0
    · intro s hs
      obtain ⟨j, hj, rfl⟩ := List.mem_map.1 hs
      obtain ⟨_, q⟩ := hS j (List.mem_range.1 hj)
      exact q
theorem four_of {α : Type} {l : List α} (h : l.length = 4) : ∃ a b c d, l = [a, b, c, d] := by
  match l, h with
  | [a, b, c, d], _ => exact ⟨a, b, c, d, rfl⟩
theorem row_S43 {H : Type} {enc : TypeId × Value → H} {w : World} {base : Nat} {spare : Nat → Bool} {held : Bool} {fuel : Nat} {cs : List Value} {x : DataW H × List MemPlace}
    (h : DataW.trod enc Try.prog w base spare held fuel 34 cs = some x) :
    ∃ (A : Option Addr) (c : Nat) (l : List S43), cs = [.slice A l.length c] ∧ l.length ≤ c ∧ Kd.C k43 w A l.length l ∧ ∀ s ∈ l, (∀ v ∈ s.f0, 0 ≤ v ∧ v ≤ 255) ∧ ∀ v ∈ s.f3, 0 ≤ v ∧ v ≤ 255 := by
  have c4 : Try.prog.cellsOf 43 = 4 := by kernel_rfl
  rcases open_slice Try.underlying34 h with ⟨rfl, _⟩ | ⟨a, len, cap, m, n, D, Pl, rfl, _, hl, hcap, hm, rfl, hx⟩
  · exact ⟨none, 0, [], rfl, Nat.le_refl _, ⟨rfl, by decide, fun h => absurd h (by decide)⟩, fun s hs => by simp at hs⟩
  · have hlm : len ≤ m := by rw [hm]; split <;> omega
    have hv : ∀ i, i < len → ∃ s : S43, ∃ (A0 : Option Addr) (c0 : Nat) (A3 : Option Addr) (c3 : Nat), w.cell? (a.add (i * 4)) = some (.slice A0 s.f0.length c0) ∧ w.cell? (a.add (i * 4 + 1)) = some (.int .i64 s.f1) ∧ w.cell? (a.add (i * 4 + 2)) = some (.int .i64 s.f2) ∧ w.cell? (a.add (i * 4 + 3)) = some (.slice A3 s.f3.length c3) ∧
        s.f0.length ≤ c0 ∧ Kd.C (Kd.int .u8) w A0 s.f0.length s.f0 ∧ s.f3.length ≤ c3 ∧ Kd.C (Kd.int .u8) w A3 s.f3.length s.f3 ∧ (∀ v ∈ s.f0, 0 ≤ v ∧ v ≤ 255) ∧ ∀ v ∈ s.f3, 0 ≤ v ∧ v ≤ 255 := by
      intro i hi
      obtain ⟨cs', h1, h2⟩ := hx i (by omega)
      rw [c4] at h1
      obtain ⟨_, hlen, hcell⟩ := World.cells?_some h1
      obtain ⟨xs, k, hk, hxy, _, hxl, hf⟩ := DataW.trod_struct Try.underlying43 h2
      obtain ⟨v0, v1, v2, v3, rfl⟩ := four_of hlen
      obtain ⟨y0, y1, y2, y3, rfl⟩ := four_of hxl
      have k3 : Try.prog.cellsOf 3 = 1 := by kernel_rfl
      have k27 : Try.prog.cellsOf 27 = 1 := by kernel_rfl
      have g0 : DataW.trod enc Try.prog w base spare held k 27 [v0] = some y0 := fld hf 0 rfl rfl rfl k27
      have g1 : DataW.trod enc Try.prog w base spare held k 3 [v1] = some y1 := fld hf 1 rfl rfl rfl k3
      have g2 : DataW.trod enc Try.prog w base spare held k 3 [v2] = some y2 := fld hf 2 rfl rfl rfl k3
      have g3 : DataW.trod enc Try.prog w base spare held k 27 [v3] = some y3 := fld hf 3 rfl rfl rfl k27
      have e0 := hcell 0 (by omega)
      have e1 := hcell 1 (by omega)
      have e2 := hcell 2 (by omega)
      have e3 := hcell 3 (by omega)
      rw [Deep.add_add] at e0 e1 e2 e3
      obtain ⟨A0, c0, l0, q0, m0, r0, b0, _⟩ := row_u8 g0
      obtain ⟨n1, q1, _, _⟩ := DataW.trod_int Try.underlying3 g1
      obtain ⟨n2, q2, _, _⟩ := DataW.trod_int Try.underlying3 g2
      obtain ⟨A3, c3, l3, q3, m3, r3, b3, _⟩ := row_u8 g3
      injection q0 with q0
      injection q1 with q1
      injection q2 with q2
      injection q3 with q3
      subst q0; subst q1; subst q2; subst q3
      exact ⟨⟨l0, n1, n2, l3⟩, A0, c0, A3, c3, by simpa using e0, by simpa using e1, by simpa using e2, by simpa using e3, m0, r0, m3, r3, b0, b3⟩
    haveI : Inhabited S43 := ⟨z43⟩
    obtain ⟨S, hS⟩ := choose_lt (α := S43) hv
    have hlen : ((List.range len).map S).length = len := by simp
    refine ⟨some a, cap, (List.range len).map S, by rw [hlen], by rw [hlen]; exact hl, ⟨rfl, by rw [hlen]; exact Nat.le_trans hl (Nat.le_trans hcap (by decide)), fun _ => ⟨a, rfl, fun j p hj => ?_⟩⟩, ?_⟩
    · have hjl : j < len := by have := (List.getElem?_eq_some_iff.1 hj).1; simpa using this
      have hp : S j = p := by simpa [hjl] using hj
      obtain ⟨A0, c0, A3, c3, e0, e1, e2, e3, m0, r0, m3, r3, _, _⟩ := hS j hjl
      rw [hp] at e0 e1 e2 e3 m0 r0 m3 r3
      refine ⟨_, rfl, ⟨_, _, rfl, ⟨A0, c0, rfl, m0, r0⟩, ⟨_, _, rfl, rfl, ⟨_, _, rfl, rfl, ⟨A3, c3, rfl, m3, r3⟩⟩⟩⟩, fun i u hu => ?_⟩
      match i, hu with
      | 0, hu =>
        injection hu with hu
        rw [← hu]; exact e0
      | 1, hu =>
        injection hu with hu
        rw [← hu]; exact e1
      | 2, hu =>
        injection hu with hu
        rw [← hu]; exact e2
      | 3, hu =>
        injection hu with hu
        rw [← hu]; exact e3
    · intro s hs
      obtain ⟨j, hj, rfl⟩ := List.mem_map.1 hs
      obtain ⟨_, _, _, _, _, _, _, _, _, _, _, _, q⟩ := hS j (List.mem_range.1 hj)
      exact q
end Go.Proofs.Ytdjhjgfjhicbfaa.PWalkTells
