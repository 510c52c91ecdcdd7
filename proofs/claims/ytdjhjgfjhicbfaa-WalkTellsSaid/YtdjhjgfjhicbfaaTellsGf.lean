/- A part of the proof of WalkTellsSaid: contracts of functions and plain lemmas; each holds under the hypotheses that it names. -/
import Derived.Test.YtdjhjgfjhicbfaaWGuard
import Derived.Test.YtdjhjgfjhicbfaaTellsGd
import Derived.StillTailTactics
import Derived.Deep.RegionHeld3
import Derived.Deep.RegionLaw
namespace Go.Proofs.Ytdjhjgfjhicbfaa.PWalkTells
open Go.RowKit Go.Shelf Go.Maps Go.Proofs.YtdjhjgfjhicbfaaW.PrintWords Go.Proofs.YtdjhjgfjhicbfaaW.PrintLast Go.Proofs.YtdjhjgfjhicbfaaW.PrintMore
set_option linter.unusedVariables false
set_option linter.unusedSimpArgs false
def CP.stepS (x : CP) (L : List S43) (at_ : Nat) (by_ : List Int) : Option (List S43) :=
  let s := L.getD at_ z43
  let v := x.frameS s.f0 by_
  if !x.heldS v || (L.map (fun s => s.f0)).contains (x.nextS v) then some L
  else if L.length = 4096 then none
  else some (L ++ [⟨x.nextS v, s.f1 + 1, (at_ : Int), by_⟩])
def CP.Fine (x : CP) (L : List S43) (N : Nat) : Prop := ∀ s ∈ L, s.f0.length = x.l1.length ∧ (∀ v ∈ s.f0, 0 ≤ v ∧ v ≤ 2) ∧ 0 ≤ s.f1 ∧ s.f1 ≤ N
structure WInv (x : CP) (w : World) (gc gl ga gk ge bm : Nat) (at_ : Nat) (er : Int) (L : List S43) (W : World) : Prop where
  c : x.At W gc
  l : LVar W w.heap.size gl L
  a : W.heap[ga]? = some (.cells #[.int .i64 at_] 3 (0, 0))
  k : W.heap[gk]? = some (.cells #[.map (some bm)] 89 (0, 0))
  m : Known W bm (L.map (fun s => s.f0))
  e : W.heap[ge]? = some (.cells #[.int .i64 er] 35 (0, 0))
  b : Below w.heap.size w W
  gl : w.heap.size ≤ gl
  ge : w.heap.size ≤ ge
  bm : w.heap.size ≤ bm
theorem WInv.below {x : CP} {w : World} {gc gl ga gk ge bm at_ : Nat} {er : Int} {L : List S43} {W W' : World} (h : WInv x w gc gl ga gk ge bm at_ er L W) (hb : Below W.heap.size W W') : WInv x w gc gl ga gk ge bm at_ er L W' :=
  ⟨h.c.below hb, h.l.below hb, blk_below h.a hb, blk_below h.k hb, h.m.block (hb.block _ h.m.lt), blk_below h.e hb, h.b.trans (hb.mono h.b.size), h.gl, h.ge, h.bm⟩
def StepPost (x : CP) (w : World) (gc gl ga gk ge bm at_ : Nat) (L : List S43) (by_ : List Int) (e : Ending) (w' : World) : Prop :=
  ∃ b, e = .returned (.bool b) ∧ (b = true → ∃ L', x.stepS L at_ by_ = some L' ∧ WInv x w gc gl ga gk ge bm at_ 0 L' w') ∧ (b = false → x.stepS L at_ by_ = none ∧ WInv x w gc gl ga gk ge bm at_ 3 L w')
theorem WInv.setE {x : CP} {w : World} {gc gl ga gk ge bm at_ : Nat} {er er' : Int} {L : List S43} {W : World} (h : WInv x w gc gl ga gk ge bm at_ er L W) : WInv x w gc gl ga gk ge bm at_ er' L (W.setCell ⟨ge, 0, none⟩ (.int .i64 er')) := by
  have hk : KeepT [35] W (W.setCell ⟨ge, 0, none⟩ (.int .i64 er')) := KeepT.set h.e (by decide) 0 _
  obtain ⟨vl, h1, h2⟩ := h.l
  obtain ⟨es, clock, hm⟩ := h.m.map
  have hne : bm ≠ ge := fun e => by rw [e, h.e] at hm; cases hm
  exact ⟨h.c.keep (by decide) hk, ⟨vl, hk _ _ _ h1 (by decide), state_set h2 h.e (by decide) 0 _⟩, hk _ _ _ h.a (by decide), hk _ _ _ h.k (by decide), h.m.block (Below.heap_setCell W ⟨ge, 0, none⟩ _ bm hne), blk_put h.e 0 _ rfl, h.b.setCell (p := ⟨ge, 0, none⟩) h.ge _, h.gl, h.ge, h.bm⟩
theorem step_new {x : CP} {w : World} {gc gl ga gk ge bm at_ : Nat} {L : List S43} {s : S43} {w2 w3 w9 : World} {vl : Value} {v9 : Value} (h : WInv x w gc gl ga gk ge bm at_ 0 L w2)
    (hm : Known w3 bm (L.map (fun s => s.f0) ++ [s.f0])) (hk3 : KeepT [] w2 w3) (hb3 : Below w.heap.size w w3) (hrow : Kd.R k43 43 w3.drew w.heap.size (fun _ => True) vl L)
    (hv9 : w9.heap[gl]? = some (.cells #[vl] 34 (0, 0))) (hg : w3.drew.grownBy w9 vl.ownBlock) (ho : Kd.R k43 43 w9 w.heap.size (fun _ => True) v9 (L ++ [s])) (hb9 : Below w.heap.size w w9) :
    WInv x w gc gl ga gk ge bm at_ 0 (L ++ [s]) (w9.setCell ⟨gl, 0, none⟩ v9) := by
  have hk0 : KeepT [34, 43] w2 w3 := fun k cs t e n => hk3 k cs t e (by simp)
  have hk : KeepT [34, 43] w2 (w9.setCell ⟨gl, 0, none⟩ v9) :=
    (hk0.trans (KeepT.grown (ts := [34, 43]) (w := w3.drew) hrow (by decide) hg)).trans (KeepT.set hv9 (by decide) 0 _)
  obtain ⟨es, clock, hmm⟩ := hm.map
  have hne : bm ≠ gl := fun e => by
    have : KeepT [] w2 w3 := hk3
    obtain ⟨vl', h1, _⟩ := h.l
    have := hk3 _ _ _ h1 (by simp)
    rw [← e, hmm] at this; cases this
  have hno : some bm ≠ vl.ownBlock := fun e => by
    obtain ⟨cells, hc⟩ := Kd.R_typed hrow bm e.symm
    rw [show w3.drew.heap[bm]? = some (.map es clock) from hmm] at hc
    cases hc
  have hm9 : Known w9 bm (L.map (fun s => s.f0) ++ [s.f0]) := Known.kept (W := w3.drew) hm hg hno
  have hm9' := hm9.block (Below.heap_setCell w9 ⟨gl, 0, none⟩ v9 bm hne)
  rw [show L.map (fun s => s.f0) ++ [s.f0] = (L ++ [s]).map (fun s => s.f0) by simp] at hm9'
  exact ⟨h.c.keep (by decide) hk, LVar.put hv9 ho, hk _ _ _ h.a (by decide), hk _ _ _ h.k (by decide), hm9', hk _ _ _ h.e (by decide), hb9.setCell (p := ⟨gl, 0, none⟩) h.gl _, h.gl, h.ge, h.bm⟩
set_option maxHeartbeats 4000000 in
set_option maxRecDepth 100000 in
theorem stepOne_calls (x : CP) (w : World) (ok : x.Ok w) (fit : x.Fit) (hmay : x.may = true) (gc gl ga gk ge bm at_ : Nat) (L : List S43) (A : Option Addr) (c : Nat) (by_ : List Int) (W : World)
    (hI : WInv x w gc gl ga gk ge bm at_ 0 L W) (hat : at_ < L.length) (hfine : x.Fine L 4096) (hlen : L.length ≤ 4096) (hby : (by_.length : Int) = x.a0) (hby2 : ∀ v ∈ by_, v = 0 ∨ v = 1)
    (hr : Kd.R (Kd.int .u8) 5 W w.heap.size (fun _ => True) (.slice A by_.length c) by_) :
    Calls Try.prog 57 #[.slice A by_.length c, .pointer (some ⟨gc, 0, none⟩), .pointer (some ⟨gl, 0, none⟩), .pointer (some ⟨ga, 0, none⟩), .pointer (some ⟨gk, 0, none⟩), .pointer (some ⟨ge, 0, none⟩)] W fun e w' =>
      StepPost x w gc gl ga gk ge bm at_ L by_ e w' := by
  obtain ⟨vl, hv1, hv2⟩ := hI.l
  obtain ⟨Al, cl, el⟩ := Kd.R_slice hv2
  subst el
  obtain ⟨Al', cl', h1, _, hrl⟩ := Kd.R_reads hv2
  cases h1
  obtain ⟨ad, A0, c0, A3, c3, e1, hs0, hs1, hs2, hs3, hm0, hr0, hm3, hr3⟩ := at_state hrl at_ hat
  subst e1
  obtain ⟨f0, f1, f2, f3⟩ := hfine L[at_] (List.getElem_mem hat)
  have hgetD : L.getD at_ z43 = L[at_] := by simp [List.getD_eq_getElem?_getD, hat]
  have hbd : Below W.heap.size W W.drew := (Below.refl _ _).drew
  obtain ⟨Ab, cb, h1, hmb, hrb⟩ := Kd.R_reads hr
  cases h1
  have hB1 : Bytes L[at_].f0 := fun v hv => by have := f1 v hv; omega
  have hB2 : Bytes by_ := fun v hv => by have := hby2 v hv; omega
  have hval1 : valuesS L[at_].f0 (x.l1.length : Int) = true := by
    unfold valuesS
    rw [f0]
    simp only [beq_self_eq_true, Bool.true_and, Bool.not_eq_true', List.any_eq_false, decide_eq_true_eq]
    intro v hv; have := f1 v hv; omega
  have hval2 : valuesS by_ x.a0 = true := by
    unfold valuesS
    rw [hby]
    simp only [beq_self_eq_true, Bool.true_and, Bool.not_eq_true', List.any_eq_false, decide_eq_true_eq]
    intro v hv; have := hby2 v hv; omega
  have hn1 := fit.n1
  have hx0 : x.a0 ≤ 16384 := by
    have := hmay
    unfold CP.may at this
    split at this
    · cases this
    · omega
  have HFULL := Aside0.mk (full_calls x A0 A c0 c L[at_].f0 by_ W.drew (ok.below (hI.b.trans (hbd.mono hI.b.size))) fit hmay hval1 hval2 (Kd.C_below hr0 hbd) hm0 hB1 (by omega) (Kd.C_below hrb hbd) hmb hB2 (by omega))
  have HI := Aside0.mk hI
  have HR := Aside0.mk hr
  have HS : Aside0 (x.stepS L at_ by_ = (if !x.heldS (x.frameS L[at_].f0 by_) || (L.map (fun s => s.f0)).contains (x.nextS (x.frameS L[at_].f0 by_)) then some L
    else if L.length = 4096 then none else some (L ++ [⟨x.nextS (x.frameS L[at_].f0 by_), L[at_].f1 + 1, (at_ : Int), by_⟩]))) := ⟨by unfold CP.stepS; rw [hgetD]⟩
  have hcl := cell_blk hv1 0 _ rfl
  have hca := cell_blk hI.a 0 _ rfl
  obtain ⟨_, k0, k1, k2, k3, k4, k5⟩ := hI.c
  have hlen2 : L.length ≤ 9223372036854775807 := by omega
  have hat2 : at_ ≤ 9223372036854775807 := by omega
  have HF0 := Aside0.mk f0
  have HBY := Aside0.mk hby
  clear f0 f1 hby hby2 hfine hmay
  clear hgetD hbd hval1 hval2 hI hrl hr0 hr3 hrb hr hv1 hv2 hs1 hs2 hs3
  go_enter Try.func57, Try.ntmps57
  go_wp2_with fail
  go_region_held3 (fun w' => w'.cell? ⟨gc, 0, none⟩ = some (.int .i64 x.a0) ∧ w'.cell? ⟨gc, 1, none⟩ = some (.slice x.A1 x.l1.length x.c1) ∧ w'.cell? ⟨gc, 2, none⟩ = some (.slice x.A2 x.l2.length x.c2) ∧ w'.cell? ⟨gc, 3, none⟩ = some (.slice x.A3 x.l3.length x.c3) ∧ w'.cell? ⟨gc, 4, none⟩ = some (.slice x.A4 x.l4.length x.c4) ∧ w'.cell? ⟨gc, 5, none⟩ = some (.slice x.A5 x.l5.length x.c5) ∧
      w'.cell? ⟨gl, 0, none⟩ = some (.slice (some ad) L.length cl) ∧ w'.cell? ⟨ga, 0, none⟩ = some (.int .i64 at_) ∧ w'.cell? (ad.add (at_ * 4)) = some (.slice A0 L[at_].f0.length c0))
    (first
      | go_keep
      | (go_split_ands
         have hq : ∀ p v, W.cell? p = some v → w1.cell? p = some v := fun p v h => (hb1.cell (World.block_lt_of_cell? W p h)).trans h
         exact ⟨hq _ _ k0, hq _ _ k1, hq _ _ k2, hq _ _ k3, hq _ _ k4, hq _ _ k5, hq _ _ hcl, hq _ _ hca, hq _ _ hs0⟩))
    ((go_at_call 50; (with_reducible refine HFULL.out.mono ?_); rintro e w1 ⟨v1, u1, rfl, ho1, ho2, hb1⟩))
  have hbW : Below W.heap.size W w1 := ((Below.refl W.heap.size W).drew).trans hb1
  have HI1 := Aside0.mk (HI.out.below hbW)
  have HBY1 := Aside0.mk (Kd.R_below HR.out hbW)
  obtain ⟨Av, cv, ev⟩ := Kd.R_slice ho1
  subst ev
  obtain ⟨Au, cu, eu⟩ := Kd.R_slice ho2
  subst eu
  have HV1 := Aside0.mk ho1
  have HU1 := Aside0.mk (Kd.R_lower ho2 HI.out.b.size)
  obtain ⟨V, hV⟩ : ∃ V, V = x.frameS L[at_].f0 by_ := ⟨_, rfl⟩
  rw [← hV] at HS HV1 HU1
  have HVB : Aside0 (Bytes V) := ⟨by rw [hV]; exact frameG_bytes _ _ (bytes_cons (by omega) (bytes_append hB2 hB1))⟩
  have HHELD := Aside0.mk (held_calls x Av cv V w1 (ok.below (HI1.out.b)) fit (by obtain ⟨A', c', h1, _, h⟩ := Kd.R_reads HV1.out; cases h1; exact h) HVB.out)
  obtain ⟨_, j0, j1, j2, j3, j4, j5⟩ := HI1.out.c
  clear hb1 ho1 ho2 hbW k0 k1 k2 k3 k4 k5 hcl hca hs0 hB1 hB2
  rw [← hV]
  clear hV
  cases hh : x.heldS V
  · rw [hh] at HHELD HS
    clear hh
    go_wp2_with (go_at_call 51; go_must (refine HHELD.out.mono ?_; rintro e w2 ⟨rfl, hb2⟩; have HB2 := Aside0.mk hb2; clear hb2))
    go_ret
    exact ⟨true, rfl, fun _ => ⟨L, by rw [HS.out]; simp, HI1.out.below HB2.out⟩, fun h => by cases h⟩
  · rw [hh] at HHELD HS
    clear hh
    obtain ⟨N, hN⟩ : ∃ N, N = x.nextS V := ⟨_, rfl⟩
    rw [← hN] at HS HU1
    have HNB : Aside0 (Bytes N) := ⟨by
      rw [hN]; intro v hv
      obtain ⟨s, _, rfl⟩ := List.mem_map.1 hv
      have := valS_range V s.f0 HVB.out
      omega⟩
    have HSZ : Aside0 ((strOfNums N).size ≤ maxLen) := ⟨by
      have h1 : (strOfNums N).size = N.length := by simp [strOfNums, ByteArray.size]
      have h2 : N.length = x.l1.length := by rw [hN]; simp [CP.nextS]
      unfold maxLen; omega⟩
    rw [← hN]
    clear hN
    cases hcon : (L.map (fun s => s.f0)).contains N
    · have hmem : ¬ N ∈ L.map (fun s => s.f0) := fun h => by rw [List.contains_iff_mem.2 h] at hcon; cases hcon
      rw [hcon] at HS
      clear hcon
      by_cases hmax : L.length = 4096
      · have hmx : ((L.length : Int) == 4096) = true := beq_iff_eq.2 (by omega)
        have hmx2 : (L.length == 4096) = true := beq_iff_eq.2 hmax
        have HN : Aside0 (x.stepS L at_ by_ = none) := ⟨by rw [HS.out, if_pos hmax]; simp⟩
        clear hmax
        go_wp2_with (first
      | (go_at_call 51; go_must (refine HHELD.out.mono ?_; rintro e w2 ⟨rfl, hb2⟩; have HI2 := Aside0.mk (HI1.out.below hb2); have HU2 := Aside0.mk (Kd.R_below HU1.out hb2); have HBY2 := Aside0.mk (Kd.R_below HBY1.out hb2); clear hb2; obtain ⟨D, hown, hD⟩ := HI2.out.m; obtain ⟨vl2, hv21, hv22⟩ := HI2.out.l; obtain ⟨Al2, cl2, el2⟩ := Kd.R_slice hv22; subst el2; have hce := cell_blk HI2.out.e 0 _ rfl; have hfe := blk_frozen HI2.out.e 0; have hcl := cell_blk hv21 0 _ rfl; have HV21 := Aside0.mk hv21; have HV22 := Aside0.mk hv22; clear hv21 hv22; have HOWN := Aside0.mk hown; have HDD := Aside0.mk hD; clear hown hD; have hck := cell_blk HI2.out.k 0 _ rfl; have hru : Kd.C (Kd.int .u8) w2 Au N.length N := (by obtain ⟨A', c', h1, _, h⟩ := Kd.R_reads HU2.out; cases h1; exact h); have hcv := Kd.C_string (P := Try.prog) (A := Au) (c := cu) Try.underlying27 Try.underlying5 Try.underlying9 hru; clear hru))
      | (at_lookup; refine gate_guard (by rfl) ?_; dsimp only; go_must (refine wpList_lookup_own_int _ rfl _ _ 89 rfl 9 3 .i64 keyed Try.underlying89 Try.underlying3 (zero_int _) bm (L.map (fun s => s.f0)).length D rfl HOWN.out _ _ rfl (Go.WideMaps.keyOf_string_mk Try.underlying9 ?hsz) ?_; (case hsz => exact HSZ.out); intro cn hcat hcw; obtain ⟨c', e1, e2, e3, e4⟩ := HDD.out N HNB.out; have e5 := hcat.symm.trans e1; injection e5 with e5; injection e5 with _ e5; subst e5; have hz : cn = 0 := (by have := mt e4.1 hmem; omega); subst hz; have HCAT := Aside0.mk hcat; clear e2 e3 e4 hcat; clear e1 hcw)))
        go_ret
        exact ⟨false, rfl, (fun h => by cases h), fun _ => ⟨HN.out, HI2.out.setE⟩⟩
      · have hmx : ((L.length : Int) == 4096) = false := beq_eq_false_iff_ne.2 (by omega)
        have hmx2 : (L.length == 4096) = false := beq_eq_false_iff_ne.2 hmax
        have HN : Aside0 (x.stepS L at_ by_ = some (L ++ [⟨N, L[at_].f1 + 1, (at_ : Int), by_⟩])) := ⟨by rw [HS.out, if_neg hmax]; simp⟩
        have hlt3 : L.length < 4096 := by omega
        clear hmax
        go_wp2_with (first
      | (go_at_call 51; go_must (refine HHELD.out.mono ?_; rintro e w2 ⟨rfl, hb2⟩; have HI2 := Aside0.mk (HI1.out.below hb2); have HU2 := Aside0.mk (Kd.R_below HU1.out hb2); have HBY2 := Aside0.mk (Kd.R_below HBY1.out hb2); clear hb2; obtain ⟨D, hown, hD⟩ := HI2.out.m; obtain ⟨vl2, hv21, hv22⟩ := HI2.out.l; obtain ⟨Al2, cl2, el2⟩ := Kd.R_slice hv22; subst el2; have hce := cell_blk HI2.out.e 0 _ rfl; have hfe := blk_frozen HI2.out.e 0; have hcl := cell_blk hv21 0 _ rfl; have HV21 := Aside0.mk hv21; have HV22 := Aside0.mk hv22; clear hv21 hv22; have HOWN := Aside0.mk hown; have HDD := Aside0.mk hD; clear hown hD; have hck := cell_blk HI2.out.k 0 _ rfl; have hru : Kd.C (Kd.int .u8) w2 Au N.length N := (by obtain ⟨A', c', h1, _, h⟩ := Kd.R_reads HU2.out; cases h1; exact h); have hcv := Kd.C_string (P := Try.prog) (A := Au) (c := cu) Try.underlying27 Try.underlying5 Try.underlying9 hru; clear hru))
      | (at_lookup; refine gate_guard (by rfl) ?_; dsimp only; go_must (refine wpList_lookup_own_int _ rfl _ _ 89 rfl 9 3 .i64 keyed Try.underlying89 Try.underlying3 (zero_int _) bm (L.map (fun s => s.f0)).length D rfl HOWN.out _ _ rfl (Go.WideMaps.keyOf_string_mk Try.underlying9 ?hsz) ?_; (case hsz => exact HSZ.out); intro cn hcat hcw; obtain ⟨c', e1, e2, e3, e4⟩ := HDD.out N HNB.out; have e5 := hcat.symm.trans e1; injection e5 with e5; injection e5 with _ e5; subst e5; have hz : cn = 0 := (by have := mt e4.1 hmem; omega); subst hz; have HCAT := Aside0.mk hcat; clear e2 e3 e4 hcat; clear e1 hcw))
      | (at_mapUpdate; go_must (refine wpList_mapUpdate_own _ rfl _ _ _ 89 rfl 9 3 keyed Try.underlying89 _ bm (L.map (fun s => s.f0)).length D rfl HOWN.out ?hml _ _ _ rfl rfl (Go.WideMaps.keyOf_string_mk Try.underlying9 HSZ.out) _ [] (plainElem_int Try.underlying3 (by decide)) ?_; (case hml => have := hlen; rw [List.length_map]; unfold maxLen; omega); intro w3 hown3 hgrow3; have HM3 := Aside0.mk (known_put HOWN.out.isMap HDD.out HNB.out HCAT.out hown3); have HK3 := Aside0.mk (keep_map HI2.out.m hgrow3); have HB3 := Aside0.mk (HI2.out.b.grown hgrow3 HI2.out.b.size (fun k e => by cases e; exact HI2.out.bm)); clear hown3 hgrow3 hcl hce hfe hck hcv)))
        have hrow3 := R_keepT HV22.out (by intro q _; simp) HK3.out
        have hblk3 := HK3.out _ _ _ HV21.out (by simp)
        have ha3 := HK3.out _ _ _ HI2.out.a (by simp)
        obtain ⟨A', c', h1, _, hrd3⟩ := Kd.R_reads hrow3
        cases h1
        obtain ⟨ad3, A03, c03, A33, c33, e1, _, hs1, _, _, _, _, _, _⟩ := at_state hrd3 at_ hat
        subst e1
        have hcl := cell_blk hblk3 0 _ rfl
        have hfl := blk_frozen hblk3 0
        have hclA : ∀ o, (w3.alloc o).cell? ⟨gl, 0, none⟩ = some (.slice (some ad3) L.length cl2) := fun o => (((Below.refl w3.heap.size w3).alloc (Nat.le_refl _) o).cell (World.block_lt_of_cell? w3 _ hcl)).trans hcl
        have hca := cell_blk ha3 0 _ rfl
        have HROW := Aside0.mk (Kd.R_drew hrow3)
        have HU3 := Aside0.mk (bytes_apart (Kd.R_drew (R_keepT HU2.out (by intro q _; simp) HK3.out)) HROW.out)
        have HY3 := Aside0.mk (bytes_apart (Kd.R_drew (R_keepT HBY2.out (by intro q _; simp) HK3.out)) HROW.out)
        have HB3d := Aside0.mk (HB3.out.drew)
        have HBLK3 : Aside0 (w3.drew.heap[gl]? = some (.cells #[.slice (some ad3) L.length cl2] 34 (0, 0))) := ⟨hblk3⟩
        have hwr : IntKind.i64.wrap (L[at_].f1 + 1) = L[at_].f1 + 1 := IntWalk.i64_in _ (by omega)
        clear hrow3 hblk3 ha3 hrd3
        go_region_law (first
          | (refine Kd.R_append_step (W := w3.drew) k43 (w0 := w) w.heap.size rfl (.tmp 42) (.tmp 53) 34 43 (.agg #[.slice none 0 0, .int .i64 0, .int .i64 0, .slice none 0 0]) 64 rfl Try.underlying34 info43 rfl (by decide) (by omega) (.slice (some ad3) L.length cl2) L ⟨N, L[at_].f1 + 1, (at_ : Int), by_⟩ [.slice Au N.length cu, .int .i64 (L[at_].f1 + 1), .int .i64 at_, .slice A by_.length c] (fun _ => True) (fun k => some k ≠ (Value.slice (some ad3) L.length cl2).ownBlock) rfl (by first | rfl | (show Value.slice (some ⟨_, 0, none⟩) 1 1 = _; simp)) (k43_mkM _ _ _ ⟨N, L[at_].f1 + 1, (at_ : Int), by_⟩ HU3.out HY3.out) (fun _ hk => ⟨trivial, hk⟩) (fun _ _ => trivial) HROW.out HB3d.out HB3d.out.size (by omega) ?_
             intro v9 w9 ho hb9 hg9 hat9
             obtain ⟨A9, c9, e9⟩ := Kd.R_slice ho
             rw [List.length_append, List.length_singleton] at e9
             subst e9
             have hv9 := blk_grown HBLK3.out hg9 (LVar.ne HBLK3.out HROW.out)
             have HV9 := Aside0.mk hv9
             have hcl9 := cell_blk hv9 0 _ rfl
             have hfl9 := blk_frozen hv9 0
             have HK9 := Aside0.mk (KeepT.grown (ts := [34, 43]) HROW.out (by decide) hg9)
             have HG9 := Aside0.mk hg9
             have HO9 := Aside0.mk ho
             have HB9 := Aside0.mk hb9
             clear ho hb9 hg9 hat9 hv9))
        all_goals
          go_wp2
          go_ret
          exact ⟨true, rfl, (fun _ => ⟨_, HN.out, step_new HI2.out HM3.out HK3.out HB3.out HROW.out HV9.out HG9.out HO9.out HB9.out⟩), (fun h => by cases h)⟩
    · have hmem : N ∈ L.map (fun s => s.f0) := List.contains_iff_mem.1 hcon
      rw [hcon] at HS
      clear hcon
      go_wp2_with (first
      | (go_at_call 51; go_must (refine HHELD.out.mono ?_; rintro e w2 ⟨rfl, hb2⟩; have HI2 := Aside0.mk (HI1.out.below hb2); have HU2 := Aside0.mk (Kd.R_below HU1.out hb2); have HBY2 := Aside0.mk (Kd.R_below HBY1.out hb2); clear hb2; obtain ⟨D, hown, hD⟩ := HI2.out.m; obtain ⟨vl2, hv21, hv22⟩ := HI2.out.l; obtain ⟨Al2, cl2, el2⟩ := Kd.R_slice hv22; subst el2; have hce := cell_blk HI2.out.e 0 _ rfl; have hfe := blk_frozen HI2.out.e 0; have hcl := cell_blk hv21 0 _ rfl; have HV21 := Aside0.mk hv21; have HV22 := Aside0.mk hv22; clear hv21 hv22; have HOWN := Aside0.mk hown; have HDD := Aside0.mk hD; clear hown hD; have hck := cell_blk HI2.out.k 0 _ rfl; have hru : Kd.C (Kd.int .u8) w2 Au N.length N := (by obtain ⟨A', c', h1, _, h⟩ := Kd.R_reads HU2.out; cases h1; exact h); have hcv := Kd.C_string (P := Try.prog) (A := Au) (c := cu) Try.underlying27 Try.underlying5 Try.underlying9 hru; clear hru))
      | (at_lookup; refine gate_guard (by rfl) ?_; dsimp only; go_must (refine wpList_lookup_own_int _ rfl _ _ 89 rfl 9 3 .i64 keyed Try.underlying89 Try.underlying3 (zero_int _) bm (L.map (fun s => s.f0)).length D rfl HOWN.out _ _ rfl (Go.WideMaps.keyOf_string_mk Try.underlying9 ?hsz) ?_; (case hsz => exact HSZ.out); intro cn hcat hcw; obtain ⟨c', e1, e2, e3, e4⟩ := HDD.out N HNB.out; have e5 := hcat.symm.trans e1; injection e5 with e5; injection e5 with _ e5; subst e5; have hpos : 0 < cn := e4.2 hmem; clear e2 e3 e4 hcat; clear e1 hcw)))
      go_ret
      exact ⟨true, rfl, fun _ => ⟨L, by rw [HS.out]; simp, HI2.out⟩, fun h => by cases h⟩
end Go.Proofs.Ytdjhjgfjhicbfaa.PWalkTells
