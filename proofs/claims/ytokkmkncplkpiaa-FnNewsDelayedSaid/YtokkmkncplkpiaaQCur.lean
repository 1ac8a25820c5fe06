/- What the cursor over the code bytes answers: a number below the bound, and its place moves on by at most two. -/
import Derived.Test.YtokkmkncplkpiaaQLib
import Derived.Laws.BitsLemmas
import Derived.Test.YtokkmkncplkpiaaP3
import Derived.Test.YtokkmkncplkpiaaP13
import Derived.Test.YtokkmkncplkpiaaP4
namespace Go.Proofs.Ytokkmkncplkpiaa.Q
open Go.RowKit Go.Proofs.YtokkmkncplkpiaaW.PrintWords Go.Proofs.YtokkmkncplkpiaaW.PrintLast Go.Proofs.YtokkmkncplkpiaaW.PrintMore Go.Proofs.Ytokkmkncplkpiaa.P

def Bytes (l : List Int) : Prop := ∀ x ∈ l, 0 ≤ x ∧ x < 256
theorem rd_byte {l : List Int} (h : Bytes l) (i : Int) : 0 ≤ rd l i ∧ rd l i < 256 := by
  unfold rd
  rw [List.getD_eq_getElem?_getD]
  rcases Nat.lt_or_ge i.toNat l.length with z | z
  · rw [List.getElem?_eq_getElem z]; exact h _ (List.getElem_mem z)
  · rw [List.getElem?_eq_none z]; simp
theorem and255 (x : Int) (h0 : 0 ≤ x) (h1 : x < 18446744073709551616) : Go.bits .and .u64 x 255 = x % 256 :=
  bits_mask .u64 64 (by decide) (fun n a b => by rw [IntKind.wrap_u64]; omega) 8 (by decide) x h0 h1
theorem seed_byte (x : Int) : 0 ≤ wrap64 (Go.bits .and .u64 (IntKind.u64.wrap x / 1099511627776) 255) ∧ wrap64 (Go.bits .and .u64 (IntKind.u64.wrap x / 1099511627776) 255) < 256 := by
  rw [IntKind.wrap_u64]
  rw [and255 _ (by omega) (by omega), w64 (by omega) (by omega)]
  omega
theorem next_ok {s : List Int} (hs : Bytes s) (i seed : Int) (h0 : 0 ≤ i) (h1 : i ≤ 1000000000000) : ∃ x seed', spec_l1Cur_next.f s i seed = some (x, i + 1, seed') ∧ 0 ≤ x ∧ x < 256 := by
  unfold spec_l1Cur_next.f
  have e : wrap64 (i + 1) = i + 1 := w64 (by omega) (by omega)
  have hb := rd_byte hs i
  have eb : wrap64 (rd s i) = rd s i := w64 (by omega) (by omega)
  rw [e, eb]
  by_cases c1 : i < (s.length : Int)
  · rw [if_pos c1, if_pos h0]
    by_cases c2 : i + 1 ≤ (s.length : Int)
    · rw [if_pos c2]; exact ⟨_, _, rfl, hb.1, hb.2⟩
    · omega
  · rw [if_neg c1]
    by_cases c2 : i + 1 ≤ (s.length : Int)
    · omega
    · rw [if_neg c2]; exact ⟨_, _, rfl, (seed_byte _).1, (seed_byte _).2⟩
theorem pick_ok {s : List Int} (hs : Bytes s) (i seed n : Int) (h0 : 0 ≤ i) (h1 : i ≤ 900000000000) (hn : 1 ≤ n) (hn2 : n ≤ 60000) :
    ∃ x i' seed', spec_l1Cur_pick.f s i seed n = some (x, i', seed') ∧ 0 ≤ x ∧ x < n ∧ i ≤ i' ∧ i' ≤ i + 2 := by
  unfold spec_l1Cur_pick.f
  by_cases c : n ≤ 1
  · rw [if_pos c]; exact ⟨0, i, seed, rfl, by omega, by omega, by omega, by omega⟩
  · rw [if_neg c]
    obtain ⟨x, seed', e, hx0, hx1⟩ := next_ok hs i seed h0 (by omega)
    rw [e]
    simp only [Option.bind_some]
    by_cases c2 : n > 200
    · rw [if_pos c2]
      obtain ⟨y, seed2, e2, hy0, hy1⟩ := next_ok hs (i + 1) seed' (by omega) (by omega)
      rw [e2]
      simp only [Option.bind_some]
      rw [if_neg (by omega)]
      have e3 : wrap64 (x * 256) = x * 256 := w64 (by omega) (by omega)
      rw [e3]
      have e4 : wrap64 (x * 256 + y) = x * 256 + y := w64 (by omega) (by omega)
      rw [e4]
      refine ⟨_, _, _, rfl, Int.tmod_nonneg _ (by omega), ?_, by omega, by omega⟩
      exact Int.tmod_lt_of_pos _ (by omega)
    · rw [if_neg c2, if_neg (by omega)]
      exact ⟨_, _, _, rfl, Int.tmod_nonneg _ (by omega), Int.tmod_lt_of_pos _ (by omega), by omega, by omega⟩
theorem one_ok {s : List Int} (hs : Bytes s) (i seed n : Int) (h0 : 0 ≤ i) (h1 : i ≤ 900000000000) (hn : 1 ≤ n) (hn2 : n ≤ 60000) :
    ∃ b i' seed', spec_l1Cur_one.f s i seed n = some (b, i', seed') ∧ i ≤ i' ∧ i' ≤ i + 2 := by
  unfold spec_l1Cur_one.f
  obtain ⟨x, i', seed', e, _, _, h2, h3⟩ := pick_ok hs i seed n h0 h1 hn hn2
  rw [e]
  exact ⟨_, _, _, rfl, h2, h3⟩
theorem among_ok {s : List Int} (hs : Bytes s) (i seed : Int) (l : List Int) (h0 : 0 ≤ i) (h1 : i ≤ 900000000000) (hn : 1 ≤ l.length) (hn2 : l.length ≤ 60000) :
    ∃ x i' seed', spec_l1Cur_among.f s i seed l = some (x, i', seed') ∧ x ∈ l ∧ i ≤ i' ∧ i' ≤ i + 2 := by
  unfold spec_l1Cur_among.f
  obtain ⟨x, i', seed', e, hx0, hx1, h2, h3⟩ := pick_ok hs i seed l.length h0 h1 (by omega) (by omega)
  rw [e]
  simp only [Option.bind_some]
  rw [if_pos hx0, if_pos hx1]
  refine ⟨_, _, _, rfl, ?_, h2, h3⟩
  obtain ⟨j, rfl⟩ := Int.eq_ofNat_of_zero_le hx0
  rw [rd_get l j (by omega)]
  exact List.getElem_mem _
end Go.Proofs.Ytokkmkncplkpiaa.Q
