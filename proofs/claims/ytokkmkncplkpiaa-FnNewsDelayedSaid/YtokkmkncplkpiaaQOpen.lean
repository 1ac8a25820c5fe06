/- Opening an argument that is a slice of structs: its reading, in the print's words. -/
import Derived.Test.YtokkmkncplkpiaaP0
import Derived.WalkKit
import Derived.ProofKit
import Derived.Deep.Slices
import Derived.SizedLaws
namespace Go.Proofs.Ytokkmkncplkpiaa.Q
open Go.RowKit Go.Proofs.YtokkmkncplkpiaaW.PrintWords Go.Proofs.YtokkmkncplkpiaaW.PrintLast Go.Proofs.YtokkmkncplkpiaaW.PrintMore Go.Proofs.Ytokkmkncplkpiaa.P

theorem len1 {α : Type} {l : List α} (h : l.length = 1) : ∃ a, l = [a] := by
  match l, h with
  | [a], _ => exact ⟨a, rfl⟩
theorem len2 {α : Type} {l : List α} (h : l.length = 2) : ∃ a b, l = [a, b] := by
  match l, h with
  | [a, b], _ => exact ⟨a, b, rfl⟩
theorem len3 {α : Type} {l : List α} (h : l.length = 3) : ∃ a b c, l = [a, b, c] := by
  match l, h with
  | [a, b, c], _ => exact ⟨a, b, c, rfl⟩
theorem len4 {α : Type} {l : List α} (h : l.length = 4) : ∃ a b c d, l = [a, b, c, d] := by
  match l, h with
  | [a, b, c, d], _ => exact ⟨a, b, c, d, rfl⟩
theorem open_rows {H : Type} {enc : TypeId × Value → H} {P : Program} {w : World} {base : Nat} {spare : Nat → Bool} {held : Bool} {α : Type} (d : Kd α) {t e : TypeId} {fuel : Nat} {A : Option Addr} {len cap : Nat} {x : DataW H × List MemPlace}
    (ht : P.underlying t = some (.slice e)) (hc : P.cellsOf e = d.sz) (hK : ∀ n cs y, DataW.trod enc P w base spare held n e cs = some y → cs.length = d.sz → ∃ z, d.K w z cs)
    (h : DataW.trod enc P w base spare held fuel t [.slice A len cap] = some x) :
    ∃ l : List α, Kd.C d w A l.length l ∧ len = l.length ∧ l.length ≤ cap ∧ ((x.1 = .nil ∧ l.length = 0) ∨ ∃ elems sp, x.1 = .slice elems sp ∧ elems.length = l.length) := by
  rcases Deep.open_slice ht h with ⟨h0, hx⟩ | ⟨a, len', cap', m, n, D, Pl, h0, hb, hl, hm, hmm, hx, hi⟩
  · simp only [List.cons.injEq, Value.slice.injEq, and_true] at h0
    obtain ⟨rfl, rfl, rfl⟩ := h0
    exact ⟨[], Kd.C_nil d w, rfl, Nat.le_refl _, .inl ⟨by rw [hx], rfl⟩⟩
  · simp only [List.cons.injEq, Value.slice.injEq, and_true] at h0
    obtain ⟨rfl, rfl, rfl⟩ := h0
    have hlm : len ≤ m := by rw [hmm]; split <;> omega
    have each : ∀ i, i < len → ∃ z : α, ∃ c, c.length = d.sz ∧ d.K w z c ∧ ∀ j u, c[j]? = some u → w.cell? (a.add (i * d.sz + j)) = some u := by
      intro i hi'
      obtain ⟨cs, h1, h2⟩ := hi i (by omega)
      obtain ⟨_, hlen, hcell⟩ := World.cells?_some h1
      obtain ⟨z, hz⟩ := hK n cs _ h2 (by rw [hlen, hc])
      refine ⟨z, cs, by rw [hlen, hc], hz, fun j u hj => ?_⟩
      have hjl : j < cs.length := by
        rcases Nat.lt_or_ge j cs.length with h | h
        · exact h
        · rw [List.getElem?_eq_none h] at hj; exact absurd hj (by simp)
      have e := hcell j (by omega)
      rw [Deep.add_add, hc] at e
      rw [e, hj]
    have all : ∃ l : List α, l.length = len ∧ ∀ j p, l[j]? = some p → ∃ c, c.length = d.sz ∧ d.K w p c ∧ ∀ i u, c[i]? = some u → w.cell? (a.add (j * d.sz + i)) = some u := by
      clear hx hmm hi hlm hm hl h
      induction len with
      | zero => exact ⟨[], rfl, fun j p hj => by simp at hj⟩
      | succ len ih =>
        obtain ⟨l, h1, h2⟩ := ih (fun i hi => each i (by omega))
        obtain ⟨z, hz⟩ := each len (by omega)
        refine ⟨l ++ [z], by simp [h1], fun j p hj => ?_⟩
        rcases Nat.lt_or_ge j len with h | h
        · rw [List.getElem?_append_left (by omega)] at hj
          exact h2 j p hj
        · rw [List.getElem?_append_right (by omega)] at hj
          have e : j - l.length = 0 := by
            rcases Nat.eq_zero_or_pos (j - l.length) with h | h
            · exact h
            · rw [List.getElem?_eq_none (by simp; omega)] at hj; exact absurd hj (by simp)
          rw [e] at hj
          simp only [List.getElem?_cons_zero, Option.some.injEq] at hj
          subst hj
          have e2 : j = len := by omega
          subst e2
          exact hz
    obtain ⟨l, h1, h2⟩ := all
    refine ⟨l, ⟨rfl, ?_, fun _ => ⟨a, rfl, h2⟩⟩, h1.symm, by omega, .inr ⟨_, _, by rw [hx], by simp [h1]⟩⟩
    unfold maxLen at hm
    omega
/-- what is told of each element, kept beside the list -/
theorem C_of_iso {α β : Type} {d : Kd α} {f : β → α} {w : World} {A : Option Addr} {n : Nat} {l : List β} (h : Kd.C (Kd.iso d f) w A n l) : Kd.C d w A n (l.map f) := by
  refine ⟨by rw [List.length_map]; exact h.1, h.2.1, fun hn => ?_⟩
  obtain ⟨ad, e, hc⟩ := h.2.2 hn
  refine ⟨ad, e, fun j p hj => ?_⟩
  rw [List.getElem?_map] at hj
  cases hq : l[j]? with
  | none => rw [hq] at hj; cases hj
  | some y =>
    rw [hq] at hj
    obtain rfl := Option.some.inj hj
    exact hc j y hq
abbrev Byte := {z : Int // 0 ≤ z ∧ z < 256}
theorem byte_el {H : Type} {enc : TypeId × Value → H} {P : Program} {w : World} {base : Nat} {spare : Nat → Bool} {held : Bool} {e : TypeId} (he : P.underlying e = some (.int .u8)) (n : Nat) (cs : List Value) (y : DataW H × List MemPlace) (h : DataW.trod enc P w base spare held n e cs = some y) (hl : cs.length = (Kd.iso (Kd.int .u8) (fun z : Byte => z.1)).sz) :
    ∃ z, (Kd.iso (Kd.int .u8) (fun z : Byte => z.1)).K w z cs := by
  obtain ⟨x, rfl, _, hw⟩ := DataW.trod_int he h
  have h1 : IntKind.u8.min = 0 := by decide
  have h2 : IntKind.u8.max = 255 := by decide
  simp only [Lit.wf, Bool.and_eq_true, decide_eq_true_eq, h1, h2] at hw
  exact ⟨⟨x, by omega, by omega⟩, rfl⟩
theorem bytes_of (l : List Byte) : ∀ x ∈ l.map (fun z : Byte => z.1), 0 ≤ x ∧ x < 256 := by
  intro x hx
  obtain ⟨z, _, rfl⟩ := List.mem_map.mp hx
  exact z.2
end Go.Proofs.Ytokkmkncplkpiaa.Q
