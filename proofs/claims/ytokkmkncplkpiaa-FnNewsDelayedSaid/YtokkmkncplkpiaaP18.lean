-- PRINTED by print.py (a twelfth state) out of the translation. Not trusted: Lean checks it.
import Derived.Test.YtokkmkncplkpiaaP0
import Derived.Test.YtokkmkncplkpiaaP17
namespace Go.Proofs.Ytokkmkncplkpiaa.P
open Go.RowKit Go.Proofs.YtokkmkncplkpiaaW.PrintWords Go.Proofs.YtokkmkncplkpiaaW.PrintLast Go.Proofs.YtokkmkncplkpiaaW.PrintMore
attribute [local go_sem] max2_int min2_int max_two min_two max_three min_three max_four min_four   -- for this text's walks alone
set_option linter.unusedVariables false
set_option linter.unusedSimpArgs false

/-- the first place at which p holds, or -1 -/
def idxP {α : Type} (p : α → Bool) : List α → Int → Int
  | [], _ => -1
  | x :: l, i => if p x then i else idxP p l (i + 1)
theorem idxP_drop {α : Type} (p : α → Bool) (l : List α) (k : Nat) (h : k < l.length) (i : Int) : idxP p (l.drop k) i = if p l[k] then i else idxP p (l.drop (k + 1)) (i + 1) := by
  rw [List.drop_eq_getElem_cons h]; rfl
theorem idxP_nonneg {α : Type} (p : α → Bool) : ∀ (l : List α) (i : Int), 0 ≤ i → (decide (0 ≤ idxP p l i) = l.any p)
  | [], i, _ => by simp [idxP]
  | x :: l, i, h => by
    simp only [idxP, List.any_cons]
    by_cases hp : p x = true
    · simp [hp, h]
    · have hp' : p x = false := by simpa using hp
      have e := idxP_nonneg p l (i + 1) (by omega)
      simp only [hp', Bool.false_eq_true, if_false, Bool.false_or]
      exact e
theorem below_self {w w' : World} {B : Nat} (h : Below B w w') (hB : B ≤ w.heap.size) : B ≤ w'.heap.size := Nat.le_trans hB h.size
theorem any_not {α : Type} (p : α → Bool) (l : List α) : (l.any fun x => !p x) = !l.all p := by
  induction l with
  | nil => rfl
  | cons x l ih => simp [ih, Bool.not_and]
/-- a variable of one cell that the call itself has laid: what it holds later on -/
theorem box_later {w W : World} {v : Value} {t n : Nat} (h : Below ((w.alloc (.cells #[v] t)).drewN n).heap.size ((w.alloc (.cells #[v] t)).drewN n) W) : W.cell? ⟨w.heap.size, 0, none⟩ = some v ∧ w.heap.size < W.heap.size := by
  have hs := h.size
  simp at hs
  refine ⟨?_, by omega⟩
  rw [h.cell (p := ⟨w.heap.size, 0, none⟩) (by simp)]
  simp
theorem box_below {w W : World} {o : Obj} {n : Nat} (h : Below ((w.alloc o).drewN n).heap.size ((w.alloc o).drewN n) W) : Below w.heap.size w W :=
  (pw_below_drewN (below_alloc (Below.refl _ _) o) n).trans (h.mono (by simp))
theorem below_of_drawn {w w' : World} (h : Drawn0 w w') : Below w.heap.size w w' := by
  obtain ⟨n, rfl⟩ := h.out; exact pw_below_drewN (Below.refl _ _) n

/-! ### slices_Repeat_int_int: function 146 -/
-- by hand
/-- a row of n cells whose first m hold x -/
def repRow (x : Int) (n m : Nat) : List Value := List.replicate m (.int .i64 x) ++ List.replicate (n - m) (.int .i64 0)
theorem repRow_length (x : Int) (n m : Nat) (h : m ≤ n) : (repRow x n m).length = n := by simp [repRow]; omega
theorem repRow_zero (x : Int) (n : Nat) : madeCells #[Value.int .i64 0] n = (repRow x n 0).toArray := by
  apply Array.ext
  · simp [repRow, madeCells]
  · intro i h1 h2
    simp [repRow, madeCells, Nat.mod_one]
theorem repRow_splice (x : Int) (n m k : Nat) (h : m + k ≤ n) : splice (repRow x n m) m (List.replicate k (.int .i64 x)) = repRow x n (m + k) := by
  unfold splice repRow
  rw [List.take_left' (by simp), List.length_replicate, List.drop_append, List.length_replicate, List.drop_eq_nil_of_le (by simp), List.nil_append, Nat.add_sub_cancel_left, List.drop_replicate, ← List.append_assoc, List.replicate_append_replicate, Nat.sub_sub]
theorem rd_cell {w : World} {A : Option Addr} {x : Int} (h : Kd.C (Kd.int .i64) w A 1 [x]) : ∃ ad, A = some ad ∧ w.cell? (ad.add 0) = some (.int .i64 x) := by
  obtain ⟨ad, e, hc⟩ := Kd.at_int h 0 (by omega) (by simp)
  exact ⟨ad, e, hc⟩
def slices_Repeat_int_int.f (l0 : List Int) (a1 : Int) : Option (List Int) := if l0.length = 1 ∧ 0 ≤ a1 ∧ a1 ≤ 1000 then some (List.replicate a1.toNat (rd l0 0)) else none
theorem bits_Mul_all : ∀ m : Nat, m < 1001 → bits_Mul.f 1 (m : Int) = some (0, (m : Int)) := by decide +kernel
theorem bits_Mul_one (n : Int) (h0 : 0 ≤ n) (h1 : n ≤ 1000) : bits_Mul.f 1 n = some (0, n) := by
  obtain ⟨m, rfl⟩ := Int.eq_ofNat_of_zero_le h0
  exact bits_Mul_all m (by omega)
theorem repRow_full (x : Int) (n : Nat) : repRow x n n = List.replicate n (.int .i64 x) := by simp [repRow]
theorem R_of_block {w : World} {g n : Nat} {x : Int} {base : Nat} (h : w.heap[g]? = some (.cells (List.replicate n (Value.int .i64 x)).toArray 3 (0, 0))) (hb : base ≤ g) (hn : n ≤ 1000) : Kd.R (Kd.int .i64) 3 w base (fun _ => True) (.slice (some ⟨g, 0, none⟩) n n) (List.replicate n x) := by
  refine Kd.R_of_own (enc := Value.int .i64) (h1 := fun _ => rfl) ?_ (fun _ _ => trivial)
  exact ⟨by simp [encs], .inr ⟨g, n, _, by simp, hb, h, by simp, by unfold maxLen; omega, by simp, by simp [encs]⟩⟩
theorem rep_part {w : World} {g n m k : Nat} {x : Int} (h : w.heap[g]? = some (.cells (repRow x n m).toArray 3 (0, 0))) (hk : k ≤ m) : ∀ j v, (List.replicate k (Value.int .i64 x))[j]? = some v → w.cell? ((⟨g, 0, none⟩ : Addr).add j) = some v := by
  intro j v hj
  have hjk : j < k := by
    obtain ⟨hl, _⟩ := List.getElem?_eq_some_iff.mp hj
    simpa using hl
  rw [List.getElem?_replicate, if_pos hjk] at hj
  rw [add_plain, blk_cell h]
  unfold repRow
  rw [List.getElem?_toArray, List.getElem?_append_left (by simp; omega), List.getElem?_replicate, if_pos (by omega)]
  exact hj
theorem size_of_int : (Try.prog.info? 3).map (·.size) = some 1 := by kernel_rfl
theorem rep_src {w : World} {ad : Addr} (x : Int) (m : Nat) (hm : m ≤ 1) (hc : w.cell? (ad.add 0) = some (.int .i64 x)) : ∀ j v, (List.replicate m (Value.int .i64 x))[j]? = some v → w.cell? (ad.add j) = some v := by
  intro j v h
  have hj : j < m := by
    have := List.getElem?_eq_some_iff.mp h
    obtain ⟨hl, _⟩ := this
    simpa using hl
  obtain rfl : j = 0 := by omega
  rw [List.getElem?_replicate, if_pos hj] at h
  rw [hc]; exact h
set_option maxHeartbeats 2000000 in
set_option maxRecDepth 100000 in
theorem slices_Repeat_int_int.calls (A0 : Option Addr) (c0 : Nat) (l0 : List Int) (a1 : Int) (r : List Int) (w : World) (hr0 : Kd.C (Kd.int .i64) w A0 l0.length l0) (hc0 : l0.length ≤ c0) (h : slices_Repeat_int_int.f l0 a1 = some r) :
    Calls Try.prog 146 #[.slice A0 l0.length c0, .int .i64 a1] w fun e w' => ∃ v0_ : Value, e = .returned v0_ ∧ Kd.R (Kd.int .i64) 3 w' w.heap.size (fun _ => True) v0_ r ∧ Below w.heap.size w w' := by
  unfold slices_Repeat_int_int.f at h
  by_cases hh : l0.length = 1 ∧ 0 ≤ a1 ∧ a1 ≤ 1000
  · rw [if_pos hh] at h
    obtain rfl := Option.some.inj h
    clear h
    obtain ⟨hl, h0, h1⟩ := hh
    obtain ⟨x, rfl⟩ : ∃ x, l0 = [x] := List.length_eq_one_iff.mp hl
    obtain ⟨n, rfl⟩ := Int.eq_ofNat_of_zero_le h0
    have hn : n ≤ 1000 := by omega
    clear hl h0 h1 hc0
    have HR := Aside0.mk hr0
    clear hr0
    have cm := fun W : World => bits_Mul.calls 1 (n : Int) _ _ W (bits_Mul_one n (by omega) (by omega))
    have hmk : ∀ W : World, (Instr.makeSlice 67 (.int .i64 (n : Int)) (.int .i64 (n : Int))).run Try.prog W = .ok (.slice (some ⟨W.heap.size, 0, none⟩) n n) (W.alloc (.cells (repRow x n 0).toArray 3)) := fun W => by
      have h := run_make_row' (P := Try.prog) 67 3 (.int .i64 0) 8 Try.underlying67 info3 rfl .i64 .i64 n (by omega) (by omega) W
      rw [h, repRow_zero]
    have HMK := Aside0.mk hmk
    clear hmk
    have HC1 := rd_cell HR.out
    obtain ⟨ad, hA, hcell⟩ := HC1
    subst hA
    have HCELL := Aside0.mk hcell
    clear hcell
    obtain ⟨m0, hm0⟩ : ∃ m0 : Nat, m0 = Nat.min 1 n := ⟨_, rfl⟩
    have hm0n : m0 ≤ n := by rw [hm0]; exact Nat.min_le_right _ _
    have hm01 : n = 0 ∨ 1 ≤ m0 := by rw [hm0]; simp only [Nat.min_def]; split <;> omega
    have HM := Aside0.mk hm0
    have HM1 := Aside0.mk hm01
    clear hm0 hm01
    have HSRC := Aside0.mk (rep_src x m0 (by rw [HM.out]; exact Nat.min_le_left _ _) HCELL.out)
    have HFIT := Aside0.mk (show 0 + (List.replicate m0 (Value.int .i64 x)).length ≤ (repRow x n 0).length from by rw [repRow_length x n 0 (by omega), List.length_replicate]; omega)
    have HONE := Aside0.mk (show ∀ v ∈ List.replicate m0 (Value.int .i64 x), v.oneCell' = true from fun v hv => by rw [List.eq_of_mem_replicate hv]; rfl)
    have HN1 := Aside0.mk (show (List.replicate m0 (Value.int .i64 x)).length = Nat.min 1 n from by rw [List.length_replicate]; exact HM.out)
    have eu : IntKind.u64.wrap (n : Int) = (n : Int) := by rw [IntKind.wrap_u64]; omega
    go_enter Try.func146, Try.ntmps146
    go_wp2_with (first
      | (go_at_call 182; refine (cm _).mono ?_; rintro e w' ⟨rfl, ⟨nd, rfl⟩⟩)
      | ((with_reducible refine gate_dst (N := 30) rfl ?_); refine Kd.event_run (v := .slice (some ⟨w.heap.size, 0, none⟩) n n) rfl (w1 := (w.alloc (.cells (repRow x n 0).toArray 3)).drewN nd) ?hr ?_; (case hr => have hmk := HMK.out; go_simp; rfl))
      | ((with_reducible refine gate_builtin (b := .copy) (xs := #[.tmp 31, .tmp 32]) rfl ?_); refine wpList_copy_splice rfl (.tmp 31) (.tmp 32) 67 67 rfl 3 Try.underlying67 size_of_int _ _ _ _ _ _ rfl rfl w.heap.size 0 (repRow x n 0) 3 ?hg (List.replicate m0 (.int .i64 x)) ?hn ?hpos ?hfit ?h1 w.heap.size w ?hb (Nat.le_refl _) ?_; (case hg => exact heap_alloc_new w _); (case hn => exact HN1.out); (case hpos => exact fun _ => ⟨rfl, ad, rfl, fun j v hj => pw_cell_below (pw_below_drewN (below_alloc (Below.refl _ _) _) _) (HSRC.out j v hj)⟩); (case hfit => exact HFIT.out); (case h1 => exact HONE.out); (case hb => repeat (first | exact Below.refl _ _ | apply below_alloc | apply pw_below_drewN | apply below_drew1)); intro w2 HG2 hB2; rw [List.length_replicate]; have n0_ := Aside0.mk (show w2.heap[w.heap.size]? = some (.cells (repRow x n m0).toArray 3 (0, 0)) from by have z := HG2.out; rw [repRow_splice x n 0 m0 (by omega), Nat.zero_add] at z; exact z); have HB := Aside0.mk hB2; clear HG2 hB2; have HG := n0_; clear n0_))
    go_loopg [8] n (fun gg s8 w' => ∃ m : Nat, m ≤ n ∧ n - m ≤ gg ∧ s8 = .int .i64 (m : Int) ∧ Aside0 (n = 0 ∨ 1 ≤ m) ∧ Aside0 (w'.heap[w.heap.size]? = some (.cells (repRow x n m).toArray 3 (0, 0))) ∧ Aside0 (Below w.heap.size w w'))
    case atStart => exact ⟨m0, hm0n, by omega, rfl, HM1, HG, HB⟩
    case round =>
      clear HG HB HM HM1 HMK HR HCELL HSRC HFIT HONE HN1 cm
      obtain ⟨m, hm, hg, rfl, H1, HG, HB⟩ := hrel
      by_cases hlt : m < n
      · have hltz : (m : Int) < (n : Int) := by omega
        have h1m : 1 ≤ m := by have := H1.out; omega
        obtain ⟨k, hk⟩ : ∃ k : Nat, k = Nat.min m (n - m) := ⟨_, rfl⟩
        have hk1 : 1 ≤ k := by rw [hk]; simp only [Nat.min_def]; split <;> omega
        have hkm : k ≤ m := by rw [hk]; exact Nat.min_le_left _ _
        have hkn : m + k ≤ n := by have : k ≤ n - m := by (rw [hk]; exact Nat.min_le_right _ _)
                                   omega
        have HC := Aside0.mk (rep_part HG.out hkm)
        have HFIT := Aside0.mk (show m + (List.replicate k (Value.int .i64 x)).length ≤ (repRow x n m).length from by rw [repRow_length x n m hm, List.length_replicate]; omega)
        have HONE := Aside0.mk (show ∀ v ∈ List.replicate k (Value.int .i64 x), v.oneCell' = true from fun v hv => by rw [List.eq_of_mem_replicate hv]; rfl)
        have HN1 := Aside0.mk (show (List.replicate k (Value.int .i64 x)).length = Nat.min m (n - m) from by rw [List.length_replicate]; exact hk)
        clear hk
        have hnm : ¬ n = m := by omega
        go_wp2
        have hsum : IntKind.i64.wrap ((m : Int) + (k : Int)) = (m : Int) + k := by rw [IntKind.wrap_i64]; omega
        go_region_law (refine step_copy_splice rfl (.tmp 41) (.tmp 44) 67 67 rfl 3 Try.underlying67 size_of_int (some ⟨w.heap.size, m, none⟩) (some ⟨w.heap.size, 0, none⟩) (n - m) (n - m) m n (by simp [Act.eval, Act.put]) (by simp [Act.eval, Act.put]) w.heap.size m (repRow x n m) 3 HG.out (List.replicate k (.int .i64 x)) HN1.out (fun _ => ⟨rfl, _, rfl, HC.out⟩) HFIT.out HONE.out w.heap.size w (below_drew1 HB.out) (Nat.le_refl _) ?_; intro w4 hg4 hb4)
        have HG1 := Aside0.mk (show w4.heap[w.heap.size]? = some (.cells (repRow x n (m + k)).toArray 3 (0, 0)) from by have z := hg4.out; rw [repRow_splice x n m k hkn] at z; exact z)
        have HB1 := Aside0.mk hb4
        clear hg4 hb4
        go_wp2
        go_roundg (n - (m + k))
        case measure => omega
        case rel => exact ⟨m + k, by omega, by omega, by go_num, ⟨by omega⟩, HG1, HB1⟩
      · have hltz : ¬ (m : Int) < (n : Int) := by omega
        obtain rfl : m = n := by omega
        go_wp2
        go_ret
        refine ⟨_, rfl, ?_, HB.out⟩
        have z := HG.out
        rw [repRow_full] at z
        exact R_of_block z (Nat.le_refl _) (by omega)
  · rw [if_neg hh] at h
    exact absurd h (by simp)


-- NOT PRINTED: function 185 (impl_Send_185)

-- NOT PRINTED: function 149 (impl_Send_149)

-- NOT PRINTED: function 150 (impl_arrivals_1)

end Go.Proofs.Ytokkmkncplkpiaa.P
