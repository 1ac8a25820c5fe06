/- Opening an argument that is a slice of structs: its reading, in the print's words. -/
import Derived.Test.YtokkmkncplkpiaaP0
import Derived.WalkKit
import Derived.ProofKit
import Derived.Deep.Slices
import Derived.SizedLaws
namespace Go.Proofs.Ytokkmkncplkpiaa.Q
open Go.RowKit Go.Proofs.YtokkmkncplkpiaaW.PrintWords Go.Proofs.YtokkmkncplkpiaaW.PrintLast Go.Proofs.YtokkmkncplkpiaaW.PrintMore Go.Proofs.Ytokkmkncplkpiaa.P

theorem len1 {α : Type} {l : List α} (h : l.length = 1) : ∃ a, l = [a] := by
  match l, h with
  | [a], _ => exact ⟨a, rfl⟩
theorem len2 {α : Type} {l : List α} (h : l.length = 2) : ∃ a b, l = [a, b] := by
  match l, h with
  | [a, b], _ => exact ⟨a, b, rfl⟩
theorem len3 {α : Type} {l : List α} (h : l.length = 3) : ∃ a b c, l = [a, b, c] := by
  match l, h with
  | [a, b, c], _ => exact ⟨a, b, c, rfl⟩
theorem len4 {α : Type} {l : List α} (h : l.length = 4) : ∃ a b c d, l = [a, b, c, d] := by
  match l, h with
  | [a, b, c, d], _ => exact ⟨a, b, c, d, rfl⟩
theorem open_rows {H : Type} {enc : TypeId × Value → H} {P : Program} {w : World} {base : Nat} {spare : Nat → Bool} {held : Bool} {α : Type} (d : Kd α) {t e : TypeId} {fuel : Nat} {A : Option Addr} {len cap : Nat} {x : DataW H × List MemPlace}
    (ht : P.underlying t = some (.slice e)) (hc : P.cellsOf e = d.sz) (hK : ∀ n cs y, DataW.trod enc P w base spare held n e cs = some y → cs.length = d.sz → ∃ z, d.K w z cs)
    (h : DataW.trod enc P w base spare held fuel t [.slice A len cap] = some x) :
    ∃ l : List α, Kd.C d w A l.length l ∧ len = l.length ∧ l.length ≤ cap ∧ ((x.1 = .nil ∧ l.length = 0) ∨ ∃ elems sp, x.1 = .slice elems sp ∧ elems.length = l.length) := by
  rcases Deep.open_slice ht h with ⟨h0, hx⟩ | ⟨a, len', cap', m, n, D, Pl, h0, hb, hl, hm, hmm, hx, hi⟩
  · simp only [List.cons.injEq, Value.slice.injEq, and_true] at h0
    obtain ⟨rfl, rfl, rfl⟩ := h0
    exact ⟨[], Kd.C_nil d w, rfl, Nat.le_refl _, .inl ⟨by rw [hx], rfl⟩⟩
  · simp only [List.cons.injEq, Value.slice.injEq, and_true] at h0
    obtain ⟨rfl, rfl, rfl⟩ := h0
    have hlm : len ≤ m := by rw [hmm]; split <;> omega
    have each : ∀ i, i < len → ∃ z : α, ∃ c, c.length = d.sz ∧ d.K w z c ∧ ∀ j u, c[j]? = some u → w.cell? (a.add (i * d.sz + j)) = some u := by
      intro i hi'
      obtain ⟨cs, h1, h2⟩ := hi i (by omega)
      obtain ⟨_, hlen, hcell⟩ := World.cells?_some h1
      obtain ⟨z, hz⟩ := hK n cs _ h2 (by rw [hlen, hc])
      refine ⟨z, cs, by rw [hlen, hc], hz, fun j u hj => ?_⟩
      have hjl : j < cs.length := by
        rcases Nat.lt_or_ge j cs.length with h | h
        · exact h
        · rw [List.getElem?_eq_none h] at hj; exact absurd hj (by simp)
      have e := hcell j (by omega)
      rw [Deep.add_add, hc] at e
      rw [e, hj]
    have all : ∃ l : List α, l.length = len ∧ ∀ j p, l[j]? = some p → ∃ c, c.length = d.sz ∧ d.K w p c ∧ ∀ i u, c[i]? = some u → w.cell? (a.add (j * d.sz + i)) = some u := by
      clear hx hmm hi hlm hm hl h
      induction len with
      | zero => exact ⟨[], rfl, fun j p hj => by simp at hj⟩
      | succ len ih =>
        obtain ⟨l, h1, h2⟩ := ih (fun i hi => each i (by omega))
        obtain ⟨z, hz⟩ := each len (by omega)
        refine ⟨l ++ [z], by simp [h1], fun j p hj => ?_⟩
        rcases Nat.lt_or_ge j len with h | h
        · rw [List.getElem?_append_left (by omega)] at hj
          exact h2 j p hj
        · rw [List.getElem?_append_right (by omega)] at hj
          have e : j - l.length = 0 := by
            rcases Nat.eq_zero_or_pos (j - l.length) with h | h
            · exact h
            · rw [List.getElem?_eq_none (by simp; omega)] at hj; exact absurd hj (by simp)
          rw [e] at hj
          simp only [List.getElem?_cons_zero, Option.some.injEq] at hj
          subst hj
          have e2 : j = len := by omega
          subst e2
          exact hz
    obtain ⟨l, h1, h2⟩ := all
    refine ⟨l, ⟨rfl, ?_, fun _ => ⟨a, rfl, h2⟩⟩, h1.symm, by omega, .inr ⟨_, _, by rw [hx], by simp [h1]⟩⟩
    unfold maxLen at hm
    omega
end Go.Proofs.Ytokkmkncplkpiaa.Q
