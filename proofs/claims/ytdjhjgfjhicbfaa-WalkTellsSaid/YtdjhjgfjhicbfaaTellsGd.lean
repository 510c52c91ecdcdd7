/- A part of the proof of WalkTellsSaid: contracts of functions and plain lemmas; each holds under the hypotheses that it names. -/
import Derived.StringKeys
import Derived.Test.YtdjhjgfjhicbfaaTellsGc
import Derived.Maps.Own
import Derived.Maps.OwnOps
import Derived.Maps.OwnSet
namespace Go.Proofs.Ytdjhjgfjhicbfaa.PWalkTells
open Go.RowKit Go.Shelf Go.Maps Go.Proofs.YtdjhjgfjhicbfaaW.PrintWords Go.Proofs.YtdjhjgfjhicbfaaW.PrintLast Go.Proofs.YtdjhjgfjhicbfaaW.PrintMore
set_option linter.unusedVariables false
set_option linter.unusedSimpArgs false
def keyL (s : List Int) : Lit := .string (strOfNums s).data.toList
theorem strOf_toList (s : List Int) : (strOfNums s).data.toList = s.map (fun n => UInt8.ofNat n.toNat) := by simp [strOfNums]
theorem strOf_inj {s t : List Int} (hs : Bytes s) (ht : Bytes t) (h : (strOfNums s).data.toList = (strOfNums t).data.toList) : s = t := by
  rw [strOf_toList, strOf_toList] at h
  induction s generalizing t with
  | nil =>
    cases t with
    | nil => rfl
    | cons b t => simp at h
  | cons a s ih =>
    cases t with
    | nil => simp at h
    | cons b t =>
      simp only [List.map_cons, List.cons.injEq] at h
      obtain ⟨h1, h2⟩ := h
      have ha := hs a List.mem_cons_self
      have hb := ht b List.mem_cons_self
      have e : a = b := by
        have := congrArg UInt8.toNat h1
        simp only [UInt8.toNat_ofNat'] at this
        omega
      rw [e, ih (fun v hv => hs v (List.mem_cons_of_mem _ hv)) (fun v hv => ht v (List.mem_cons_of_mem _ hv)) h2]
theorem keyL_inj {s t : List Int} (hs : Bytes s) (ht : Bytes t) (h : keyL s = keyL t) : s = t := by
  unfold keyL at h
  injection h with h
  exact strOf_inj hs ht h
def Known (W : World) (bm : Nat) (keys : List (List Int)) : Prop :=
  ∃ D : DataW Unit, W.ownsMap Try.prog 9 (plainElem Try.prog 3) bm keys.length D ∧
    ∀ s, Bytes s → ∃ c : Int, D.atKey (keyL s) (.lit (.int .i64 0)) = .lit (.int .i64 c) ∧ 0 ≤ c ∧ c ≤ keys.length ∧ (0 < c ↔ s ∈ keys)
theorem keyed : Keyed Try.prog 9 := string_keyed Try.underlying9
theorem zero_int (w : World) : (zeroValue 3).run Try.prog w = .ok (.int .i64 0) w := by kernel_rfl
theorem known_made (w : World) : Known (w.alloc (.map #[] 0)) w.heap.size [] :=
  ⟨.map [], World.ownsMap_made _ _ _ _, fun s _ => ⟨0, rfl, by omega, by simp, by simp⟩⟩
theorem Known.kept {W W' : World} {bm : Nat} {keys : List (List Int)} {row : Option Nat} (h : Known W bm keys) (hg : W.grownBy W' row) (hne : some bm ≠ row) : Known W' bm keys := by
  obtain ⟨D, h1, h2⟩ := h
  exact ⟨D, h1.kept hg hne, h2⟩
theorem Known.block {W W' : World} {bm : Nat} {keys : List (List Int)} (h : Known W bm keys) (hb : W'.heap[bm]? = W.heap[bm]?) : Known W' bm keys := by
  obtain ⟨D, ⟨es, clock, h1, h3⟩, h2⟩ := h
  exact ⟨D, ⟨es, clock, hb.trans h1, h3⟩, h2⟩
theorem Known.lt {W : World} {bm : Nat} {keys : List (List Int)} (h : Known W bm keys) : bm < W.heap.size := by
  obtain ⟨D, h1, h2⟩ := h
  exact h1.lt
theorem Known.map {W : World} {bm : Nat} {keys : List (List Int)} (h : Known W bm keys) : ∃ es clock, W.heap[bm]? = some (.map es clock) := by
  obtain ⟨D, ⟨es, clock, h1, h3⟩, h2⟩ := h
  exact ⟨es, clock, h1⟩
theorem known_put {W' : World} {bm : Nat} {keys : List (List Int)} {D : DataW Unit} (hD : IsMap D) (h : ∀ s, Bytes s → ∃ c : Int, D.atKey (keyL s) (.lit (.int .i64 0)) = .lit (.int .i64 c) ∧ 0 ≤ c ∧ c ≤ keys.length ∧ (0 < c ↔ s ∈ keys))
    {s : List Int} (hs : Bytes s) {c : Int} (hc : D.atKey (keyL s) (.lit (.int .i64 0)) = .lit (.int .i64 c))
    (how : W'.ownsMap Try.prog 9 (plainElem Try.prog 3) bm (keys.length + 1) (D.put (keyL s) (.lit (.int .i64 (c + 1))))) : Known W' bm (keys ++ [s]) := by
  refine ⟨_, by simpa using how, fun t ht => ?_⟩
  by_cases e : t = s
  · subst e
    obtain ⟨c', h1, h2, h3, h4⟩ := h t ht
    rw [hc] at h1
    injection h1 with h1
    injection h1 with _ h1
    subst h1
    exact ⟨c + 1, atKey_put_same hD (by unfold keyL; exact trivial) _ _, by omega, by simp; omega, by simp; omega⟩
  · obtain ⟨c', h1, h2, h3, h4⟩ := h t ht
    exact ⟨c', (atKey_put_other (fun hk => e (keyL_inj ht hs hk)) _ _).trans h1, h2, by simp; omega, by simp [h4, e]⟩
theorem keep_map {W W' : World} {bm : Nat} {keys : List (List Int)} (h : Known W bm keys) (hg : W.grownBy W' (some bm)) : KeepT [] W W' := fun k cs t e _ =>
  blk_grown e hg (fun ek => by
    obtain ⟨es, clock, hm⟩ := h.map
    injection ek with ek
    rw [ek, hm] at e
    cases e)
end Go.Proofs.Ytdjhjgfjhicbfaa.PWalkTells
