-- PRINTED by print.py (a twelfth state) out of the translation. Not trusted: Lean checks it.
import Derived.Test.YtokkmkncplkpiaaP0
import Derived.Test.YtokkmkncplkpiaaP2
namespace Go.Proofs.Ytokkmkncplkpiaa.P
open Go.RowKit Go.Proofs.YtokkmkncplkpiaaW.PrintWords Go.Proofs.YtokkmkncplkpiaaW.PrintLast Go.Proofs.YtokkmkncplkpiaaW.PrintMore
attribute [local go_sem] max2_int min2_int max_two min_two max_three min_three max_four min_four   -- for this text's walks alone
set_option linter.unusedVariables false
set_option linter.unusedSimpArgs false

/-! ### spec_ClaimGroups: function 8 -/
mutual
def spec_ClaimGroups.l0 : Nat → Int → List (S84) → List Int → Int → Int → Option ((List (List Int)) × Bool)
  | 0, _, _, _, _, _ => none
  | k + 1, x0, x1, x6, x24, x25 => if x25 < x24 then (if 0 ≤ x25 then (if x25 < (x6.length : Int) then (spec_ClaimGroups.l0 k x0 x1 (x6.set (x25 : Int).toNat x25) x24 (wrap64 (x25 + 1))) else (none)) else (none)) else (spec_ClaimGroups.l1 k x0 x1 x6 true)
def spec_ClaimGroups.l1 : Nat → Int → List (S84) → List Int → Bool → Option ((List (List Int)) × Bool)
  | 0, _, _, _, _ => none
  | k + 1, x0, x1, x6, x8 => if x8 = true then (spec_ClaimGroups.l2 k x0 x1 x6 false x1 (x1.length : Int) 0) else (spec_ClaimGroups.l3 k x0 x6 ([] : List (List Int)) 0)
def spec_ClaimGroups.l2 : Nat → Int → List (S84) → List Int → Bool → List (S84) → Int → Int → Option ((List (List Int)) × Bool)
  | 0, _, _, _, _, _, _, _ => none
  | k + 1, x0, x1, x6, x8, x34, x35, x36 => if x36 < x35 then (if 0 ≤ x36 then (if x36 < (x34.length : Int) then (if 0 ≤ ((rd_T84 x34 x36).f0) then (if ((rd_T84 x34 x36).f0) < (x6.length : Int) then (if 0 ≤ ((rd_T84 x34 x36).f1) then (if ((rd_T84 x34 x36).f1) < (x6.length : Int) then ((spec_l1Least.f (rd x6 ((rd_T84 x34 x36).f0)) (rd x6 ((rd_T84 x34 x36).f1))).bind fun t116 => (if (rd x6 ((rd_T84 x34 x36).f0)) = t116 then (if (rd x6 ((rd_T84 x34 x36).f1)) = t116 then (spec_ClaimGroups.l2 k x0 x1 x6 x8 x34 x35 (wrap64 (x36 + 1))) else (spec_ClaimGroups.l2 k x0 x1 ((x6.set (((rd_T84 x34 x36).f0) : Int).toNat t116).set (((rd_T84 x34 x36).f1) : Int).toNat t116) true x34 x35 (wrap64 (x36 + 1)))) else (spec_ClaimGroups.l2 k x0 x1 ((x6.set (((rd_T84 x34 x36).f0) : Int).toNat t116).set (((rd_T84 x34 x36).f1) : Int).toNat t116) true x34 x35 (wrap64 (x36 + 1))))) else (none)) else (none)) else (none)) else (none)) else (none)) else (none)) else (spec_ClaimGroups.l1 k x0 x1 x6 x8)
def spec_ClaimGroups.l3 : Nat → Int → List Int → List (List Int) → Int → Option ((List (List Int)) × Bool)
  | 0, _, _, _, _ => none
  | k + 1, x0, x6, x12, x13 => if x13 < x0 then (spec_ClaimGroups.l4 k x0 x6 x12 x13 ([] : List Int) x6 (x6.length : Int) 0) else (some (x12, true))
def spec_ClaimGroups.l4 : Nat → Int → List Int → List (List Int) → Int → List Int → List Int → Int → Int → Option ((List (List Int)) × Bool)
  | 0, _, _, _, _, _, _, _, _ => none
  | k + 1, x0, x6, x12, x13, x14, x83, x84, x85 => if x85 < x84 then (if 0 ≤ x85 then (if x85 < (x83.length : Int) then (if (rd x83 x85) = x13 then (if x14.length < 17592186044416 then (spec_ClaimGroups.l4 k x0 x6 x12 x13 (x14 ++ [x85]) x83 x84 (wrap64 (x85 + 1))) else (none)) else (spec_ClaimGroups.l4 k x0 x6 x12 x13 x14 x83 x84 (wrap64 (x85 + 1)))) else (none)) else (none)) else (if (x14.length : Int) > 0 then (if x12.length < 5864062014805 then (spec_ClaimGroups.l3 k x0 x6 (x12 ++ [x14]) (wrap64 (x13 + 1))) else (none)) else (spec_ClaimGroups.l3 k x0 x6 x12 (wrap64 (x13 + 1))))
end
def spec_ClaimGroups.f (k : Nat) (a0 : Int) (l1 : List (S84)) : Option ((List (List Int)) × Bool) := (spec_liGood.f k a0 l1).bind fun t107 => (if t107 = true then (if 0 ≤ a0 then (if (a0 : Int).toNat ≤ 35184372088832 then ((some (List.replicate (a0 : Int).toNat 0 : List Int)).bind fun y108 => (spec_ClaimGroups.l0 k a0 l1 y108 (y108.length : Int) 0)) else (none)) else (none)) else (some (([] : List (List Int)), false)))
theorem spec_ClaimGroups.mono_l : ∀ k, (∀ y0 y1 y2 y3 y4, LeO (spec_ClaimGroups.l0 k y0 y1 y2 y3 y4) (spec_ClaimGroups.l0 (k + 1) y0 y1 y2 y3 y4)) ∧ (∀ y0 y1 y2 y3, LeO (spec_ClaimGroups.l1 k y0 y1 y2 y3) (spec_ClaimGroups.l1 (k + 1) y0 y1 y2 y3)) ∧ (∀ y0 y1 y2 y3 y4 y5 y6, LeO (spec_ClaimGroups.l2 k y0 y1 y2 y3 y4 y5 y6) (spec_ClaimGroups.l2 (k + 1) y0 y1 y2 y3 y4 y5 y6)) ∧ (∀ y0 y1 y2 y3, LeO (spec_ClaimGroups.l3 k y0 y1 y2 y3) (spec_ClaimGroups.l3 (k + 1) y0 y1 y2 y3)) ∧ (∀ y0 y1 y2 y3 y4 y5 y6 y7, LeO (spec_ClaimGroups.l4 k y0 y1 y2 y3 y4 y5 y6 y7) (spec_ClaimGroups.l4 (k + 1) y0 y1 y2 y3 y4 y5 y6 y7))
  | 0 => ⟨fun _ _ _ _ _ r h => by simp [spec_ClaimGroups.l0] at h, fun _ _ _ _ r h => by simp [spec_ClaimGroups.l1] at h, fun _ _ _ _ _ _ _ r h => by simp [spec_ClaimGroups.l2] at h, fun _ _ _ _ r h => by simp [spec_ClaimGroups.l3] at h, fun _ _ _ _ _ _ _ _ r h => by simp [spec_ClaimGroups.l4] at h⟩
  | k + 1 => by
    obtain ⟨ih0, ih1, ih2, ih3, ih4⟩ := spec_ClaimGroups.mono_l k
    refine ⟨?_, ?_, ?_, ?_, ?_⟩
    · intro y0 y1 y2 y3 y4
      unfold spec_ClaimGroups.l0
      repeat' first
      | (with_reducible exact ih0 _ _ _ _ _)
      | (with_reducible exact ih1 _ _ _ _)
      | (with_reducible exact ih2 _ _ _ _ _ _ _)
      | (with_reducible exact ih3 _ _ _ _)
      | (with_reducible exact ih4 _ _ _ _ _ _ _ _)
      | (with_reducible exact spec_liGood.mono _ _ _)
      | (with_reducible exact LeO.refl _)
      | (with_reducible exact LeO.none _)
      | (with_reducible refine LeO.ite ?_ ?_)
      | (with_reducible refine LeO.bind ?_ (fun _ => ?_))
      | exact ih0 _ _ _ _ _
      | exact ih1 _ _ _ _
      | exact ih2 _ _ _ _ _ _ _
      | exact ih3 _ _ _ _
      | exact ih4 _ _ _ _ _ _ _ _
      | exact spec_liGood.mono _ _ _
      | exact LeO.none _
      | refine LeO.ite ?_ ?_
      | refine LeO.bind ?_ (fun _ => ?_)
    · intro y0 y1 y2 y3
      unfold spec_ClaimGroups.l1
      repeat' first
      | (with_reducible exact ih0 _ _ _ _ _)
      | (with_reducible exact ih1 _ _ _ _)
      | (with_reducible exact ih2 _ _ _ _ _ _ _)
      | (with_reducible exact ih3 _ _ _ _)
      | (with_reducible exact ih4 _ _ _ _ _ _ _ _)
      | (with_reducible exact spec_liGood.mono _ _ _)
      | (with_reducible exact LeO.refl _)
      | (with_reducible exact LeO.none _)
      | (with_reducible refine LeO.ite ?_ ?_)
      | (with_reducible refine LeO.bind ?_ (fun _ => ?_))
      | exact ih0 _ _ _ _ _
      | exact ih1 _ _ _ _
      | exact ih2 _ _ _ _ _ _ _
      | exact ih3 _ _ _ _
      | exact ih4 _ _ _ _ _ _ _ _
      | exact spec_liGood.mono _ _ _
      | exact LeO.none _
      | refine LeO.ite ?_ ?_
      | refine LeO.bind ?_ (fun _ => ?_)
    · intro y0 y1 y2 y3 y4 y5 y6
      unfold spec_ClaimGroups.l2
      repeat' first
      | (with_reducible exact ih0 _ _ _ _ _)
      | (with_reducible exact ih1 _ _ _ _)
      | (with_reducible exact ih2 _ _ _ _ _ _ _)
      | (with_reducible exact ih3 _ _ _ _)
      | (with_reducible exact ih4 _ _ _ _ _ _ _ _)
      | (with_reducible exact spec_liGood.mono _ _ _)
      | (with_reducible exact LeO.refl _)
      | (with_reducible exact LeO.none _)
      | (with_reducible refine LeO.ite ?_ ?_)
      | (with_reducible refine LeO.bind ?_ (fun _ => ?_))
      | exact ih0 _ _ _ _ _
      | exact ih1 _ _ _ _
      | exact ih2 _ _ _ _ _ _ _
      | exact ih3 _ _ _ _
      | exact ih4 _ _ _ _ _ _ _ _
      | exact spec_liGood.mono _ _ _
      | exact LeO.none _
      | refine LeO.ite ?_ ?_
      | refine LeO.bind ?_ (fun _ => ?_)
    · intro y0 y1 y2 y3
      unfold spec_ClaimGroups.l3
      repeat' first
      | (with_reducible exact ih0 _ _ _ _ _)
      | (with_reducible exact ih1 _ _ _ _)
      | (with_reducible exact ih2 _ _ _ _ _ _ _)
      | (with_reducible exact ih3 _ _ _ _)
      | (with_reducible exact ih4 _ _ _ _ _ _ _ _)
      | (with_reducible exact spec_liGood.mono _ _ _)
      | (with_reducible exact LeO.refl _)
      | (with_reducible exact LeO.none _)
      | (with_reducible refine LeO.ite ?_ ?_)
      | (with_reducible refine LeO.bind ?_ (fun _ => ?_))
      | exact ih0 _ _ _ _ _
      | exact ih1 _ _ _ _
      | exact ih2 _ _ _ _ _ _ _
      | exact ih3 _ _ _ _
      | exact ih4 _ _ _ _ _ _ _ _
      | exact spec_liGood.mono _ _ _
      | exact LeO.none _
      | refine LeO.ite ?_ ?_
      | refine LeO.bind ?_ (fun _ => ?_)
    · intro y0 y1 y2 y3 y4 y5 y6 y7
      unfold spec_ClaimGroups.l4
      repeat' first
      | (with_reducible exact ih0 _ _ _ _ _)
      | (with_reducible exact ih1 _ _ _ _)
      | (with_reducible exact ih2 _ _ _ _ _ _ _)
      | (with_reducible exact ih3 _ _ _ _)
      | (with_reducible exact ih4 _ _ _ _ _ _ _ _)
      | (with_reducible exact spec_liGood.mono _ _ _)
      | (with_reducible exact LeO.refl _)
      | (with_reducible exact LeO.none _)
      | (with_reducible refine LeO.ite ?_ ?_)
      | (with_reducible refine LeO.bind ?_ (fun _ => ?_))
      | exact ih0 _ _ _ _ _
      | exact ih1 _ _ _ _
      | exact ih2 _ _ _ _ _ _ _
      | exact ih3 _ _ _ _
      | exact ih4 _ _ _ _ _ _ _ _
      | exact spec_liGood.mono _ _ _
      | exact LeO.none _
      | refine LeO.ite ?_ ?_
      | refine LeO.bind ?_ (fun _ => ?_)
theorem spec_ClaimGroups.mono : ∀ a0 a1 k, LeO (spec_ClaimGroups.f k a0 a1) (spec_ClaimGroups.f (k + 1) a0 a1) := by
  intro a0 a1 k
  obtain ⟨ih0, ih1, ih2, ih3, ih4⟩ := spec_ClaimGroups.mono_l k
  unfold spec_ClaimGroups.f
  repeat' first
      | (with_reducible exact ih0 _ _ _ _ _)
      | (with_reducible exact ih1 _ _ _ _)
      | (with_reducible exact ih2 _ _ _ _ _ _ _)
      | (with_reducible exact ih3 _ _ _ _)
      | (with_reducible exact ih4 _ _ _ _ _ _ _ _)
      | (with_reducible exact spec_liGood.mono _ _ _)
      | (with_reducible exact LeO.refl _)
      | (with_reducible exact LeO.none _)
      | (with_reducible refine LeO.ite ?_ ?_)
      | (with_reducible refine LeO.bind ?_ (fun _ => ?_))
      | exact ih0 _ _ _ _ _
      | exact ih1 _ _ _ _
      | exact ih2 _ _ _ _ _ _ _
      | exact ih3 _ _ _ _
      | exact ih4 _ _ _ _ _ _ _ _
      | exact spec_liGood.mono _ _ _
      | exact LeO.none _
      | refine LeO.ite ?_ ?_
      | refine LeO.bind ?_ (fun _ => ?_)
set_option maxHeartbeats 8000000 in
set_option maxRecDepth 100000 in
theorem spec_ClaimGroups.calls (k : Nat) (a0 : Int) (A1 : Option Addr) (c1 : Nat) (l1 : List (S84)) (r1 : List (List Int)) (r2 : Bool) (w : World) (hr1 : Kd.C k84 w A1 l1.length l1) (hc1 : l1.length ≤ c1) (h : spec_ClaimGroups.f k a0 l1 = some (r1, r2)) :
    Calls Try.prog 8 #[.int .i64 a0, .slice A1 l1.length c1] w fun e w' => ∃ v0_ : Value, e = .returned (.tuple #[v0_, .bool r2]) ∧ Kd.S (Kd.slice 3 (Kd.int .i64)) 67 w' w.heap.size (fun _ => True) v0_ r1 ∧ Below w.heap.size w w' := by
  have hu84 := Try.underlying84
  have HR1 := Aside0.mk hr1
  have HC1 := Aside0.mk hc1
  clear hr1 hc1
  have HB := Aside0.mk (Below.refl w.heap.size w)
  have H : ((spec_liGood.f k a0 l1).bind fun t107 => (if t107 = true then (if 0 ≤ a0 then (if (a0 : Int).toNat ≤ 35184372088832 then ((some (List.replicate (a0 : Int).toNat 0 : List Int)).bind fun y108 => (spec_ClaimGroups.l0 k a0 l1 y108 (y108.length : Int) 0)) else (none)) else (none)) else (some (([] : List (List Int)), false)))) = some (r1, r2) := h
  clear h
  replace H := Option.bind_eq_some_iff.mp H
  obtain ⟨t107, A30, H⟩ := H
  replace H : (if t107 = true then (if 0 ≤ a0 then (if (a0 : Int).toNat ≤ 35184372088832 then ((some (List.replicate (a0 : Int).toNat 0 : List Int)).bind fun y108 => (spec_ClaimGroups.l0 k a0 l1 y108 (y108.length : Int) 0)) else (none)) else (none)) else (some (([] : List (List Int)), false))) = some (r1, r2) := H
  have A3 := Aside0.mk A30
  clear A30
  by_cases c4 : t107 = true
  · subst c4
    have H1 : (if 0 ≤ a0 then (if (a0 : Int).toNat ≤ 35184372088832 then ((some (List.replicate (a0 : Int).toNat 0 : List Int)).bind fun y108 => (spec_ClaimGroups.l0 k a0 l1 y108 (y108.length : Int) 0)) else (none)) else (none)) = some (r1, r2) := by rw [if_pos rfl] at H; exact H
    clear H
    have H := H1
    clear H1
    by_cases c5 : 0 ≤ a0
    · rw [if_pos c5] at H
      have c5b0 := eq_true c5
      have c5b1 : decide (0 ≤ a0) = true := decide_eq_true c5
      clear c5
      by_cases c6 : (a0 : Int).toNat ≤ 35184372088832
      · rw [if_pos c6] at H
        have c6b0 := eq_true c6
        have c6b1 : decide ((a0 : Int).toNat ≤ 35184372088832) = true := decide_eq_true c6
        clear c6
        obtain ⟨y108, hy108⟩ : ∃ y_ : List Int, y_ = (List.replicate (a0 : Int).toNat 0) := ⟨_, rfl⟩
        replace H : (spec_ClaimGroups.l0 k a0 l1 y108 (y108.length : Int) 0) = some (r1, r2) := by first | (rw [hy108]; with_reducible exact H) | (have H2_ := (Option.bind_some _ _).symm.trans H; rw [hy108]; with_reducible exact H2_) | (have H2_ := (Option.bind_some _ _).symm.trans H; with_reducible exact H2_) | with_reducible exact H | (rw [hy108]; exact H) | exact H
        have Ny108 := Aside0.mk hy108
        clear hy108
        have H' := Aside0.mk H
        clear H
        go_enter Try.func8, Try.ntmps8
        go_wp2_with (first | (go_at_call 70; (with_reducible refine (spec_liGood.calls k a0 _ _ l1 true _ ?side1 ?side2 A3.out).mono ?_); (case side1 => repeat (first | exact HR1.out | (with_reducible refine Kd.C_alloc ?_ _) | (with_reducible refine Kd.C_drewN ?_ _) | (with_reducible refine Kd.C_drew ?_))); (case side2 => exact HC1.out); rintro e w7 ⟨rfl, hb⟩; have n0_ := Aside0.mk (below_step (by repeat (first | (with_reducible first | exact HB.out | apply below_alloc | apply pw_below_drewN | apply below_drew1) | exact HB.out)) hb); clear HB; have HB := n0_; clear n0_; (try clear hb); (try clear hb2); (try clear hk); (try clear hi)) | ((with_reducible refine gate_dst (N := 22) rfl ?_); refine Kd.R_make (Kd.int .i64) _ 3 rfl (N := 22) rfl 67 _ _ rfl a0 rfl rfl Try.underlying67 (.int .i64 0) 8 info3 rfl (by decide) (by omega) 0 (ok := fun _ => True) (okp := fun _ => True) rfl (fun _ hk => hk) trivial (of_decide_eq_true (by first | (with_reducible assumption) | assumption)) (Nat.le_trans (Nat.mul_le_mul_right _ (of_decide_eq_true (by first | (with_reducible assumption) | assumption) : a0.toNat ≤ 35184372088832)) (by omega)) (Below.refl _ _) (Nat.le_refl _) ?_; intro v109 w8 ho9 hb hg_ hnew_; clear hg_ hnew_; (first | rw [← Ny108.out] at ho9 | (simp only [Int.reduceToNat] at ho9; rw [← Ny108.out] at ho9)); have n0_ := Aside0.mk (Kd.R_lower ho9 (below_size (by repeat (first | (with_reducible first | exact HB.out | apply below_alloc | apply pw_below_drewN | apply below_drew1) | exact HB.out)))); have n1_ := Aside0.mk (below_step (by repeat (first | (with_reducible first | exact HB.out | apply below_alloc | apply pw_below_drewN | apply below_drew1) | exact HB.out)) hb); clear HB; have HO110 := n0_; have HB := n1_; clear n0_ n1_; clear hb ho9; obtain ⟨Ao10, co10, eo10⟩ := Kd.R_slice HO110.out; subst eo10))
        repeat (go_quiet (first | (go_at_call 70; (with_reducible refine (spec_liGood.calls k a0 _ _ l1 true _ ?side1 ?side2 A3.out).mono ?_); (case side1 => repeat (first | exact HR1.out | (with_reducible refine Kd.C_alloc ?_ _) | (with_reducible refine Kd.C_drewN ?_ _) | (with_reducible refine Kd.C_drew ?_))); (case side2 => exact HC1.out); rintro e w7 ⟨rfl, hb⟩; have n0_ := Aside0.mk (below_step (by repeat (first | (with_reducible first | exact HB.out | apply below_alloc | apply pw_below_drewN | apply below_drew1) | exact HB.out)) hb); clear HB; have HB := n0_; clear n0_; (try clear hb); (try clear hb2); (try clear hk); (try clear hi)) | ((with_reducible refine gate_dst (N := 22) rfl ?_); refine Kd.R_make (Kd.int .i64) _ 3 rfl (N := 22) rfl 67 _ _ rfl a0 rfl rfl Try.underlying67 (.int .i64 0) 8 info3 rfl (by decide) (by omega) 0 (ok := fun _ => True) (okp := fun _ => True) rfl (fun _ hk => hk) trivial (of_decide_eq_true (by first | (with_reducible assumption) | assumption)) (Nat.le_trans (Nat.mul_le_mul_right _ (of_decide_eq_true (by first | (with_reducible assumption) | assumption) : a0.toNat ≤ 35184372088832)) (by omega)) (Below.refl _ _) (Nat.le_refl _) ?_; intro v109 w8 ho9 hb hg_ hnew_; clear hg_ hnew_; (first | rw [← Ny108.out] at ho9 | (simp only [Int.reduceToNat] at ho9; rw [← Ny108.out] at ho9)); have n0_ := Aside0.mk (Kd.R_lower ho9 (below_size (by repeat (first | (with_reducible first | exact HB.out | apply below_alloc | apply pw_below_drewN | apply below_drew1) | exact HB.out)))); have n1_ := Aside0.mk (below_step (by repeat (first | (with_reducible first | exact HB.out | apply below_alloc | apply pw_below_drewN | apply below_drew1) | exact HB.out)) hb); clear HB; have HO110 := n0_; have HB := n1_; clear n0_ n1_; clear hb ho9; obtain ⟨Ao10, co10, eo10⟩ := Kd.R_slice HO110.out; subst eo10)); try go_wp2_with (first | (go_at_call 70; (with_reducible refine (spec_liGood.calls k a0 _ _ l1 true _ ?side1 ?side2 A3.out).mono ?_); (case side1 => repeat (first | exact HR1.out | (with_reducible refine Kd.C_alloc ?_ _) | (with_reducible refine Kd.C_drewN ?_ _) | (with_reducible refine Kd.C_drew ?_))); (case side2 => exact HC1.out); rintro e w7 ⟨rfl, hb⟩; have n0_ := Aside0.mk (below_step (by repeat (first | (with_reducible first | exact HB.out | apply below_alloc | apply pw_below_drewN | apply below_drew1) | exact HB.out)) hb); clear HB; have HB := n0_; clear n0_; (try clear hb); (try clear hb2); (try clear hk); (try clear hi)) | ((with_reducible refine gate_dst (N := 22) rfl ?_); refine Kd.R_make (Kd.int .i64) _ 3 rfl (N := 22) rfl 67 _ _ rfl a0 rfl rfl Try.underlying67 (.int .i64 0) 8 info3 rfl (by decide) (by omega) 0 (ok := fun _ => True) (okp := fun _ => True) rfl (fun _ hk => hk) trivial (of_decide_eq_true (by first | (with_reducible assumption) | assumption)) (Nat.le_trans (Nat.mul_le_mul_right _ (of_decide_eq_true (by first | (with_reducible assumption) | assumption) : a0.toNat ≤ 35184372088832)) (by omega)) (Below.refl _ _) (Nat.le_refl _) ?_; intro v109 w8 ho9 hb hg_ hnew_; clear hg_ hnew_; (first | rw [← Ny108.out] at ho9 | (simp only [Int.reduceToNat] at ho9; rw [← Ny108.out] at ho9)); have n0_ := Aside0.mk (Kd.R_lower ho9 (below_size (by repeat (first | (with_reducible first | exact HB.out | apply below_alloc | apply pw_below_drewN | apply below_drew1) | exact HB.out)))); have n1_ := Aside0.mk (below_step (by repeat (first | (with_reducible first | exact HB.out | apply below_alloc | apply pw_below_drewN | apply below_drew1) | exact HB.out)) hb); clear HB; have HO110 := n0_; have HB := n1_; clear n0_ n1_; clear hb ho9; obtain ⟨Ao10, co10, eo10⟩ := Kd.R_slice HO110.out; subst eo10)))
        go_loopg [25] k (fun kq v25 w' => ∃ (x6_1 : List Int) (x25_1 : Int), v25 = .int .i64 x25_1 ∧ Aside0 (spec_ClaimGroups.l0 kq a0 l1 x6_1 (y108.length : Int) x25_1 = some (r1, r2)) ∧ Aside0 (kq ≤ k) ∧ Aside0 (Kd.R (Kd.int .i64) 3 w' w.heap.size (fun _ => True) (.slice Ao10 y108.length co10) x6_1) ∧ Aside0 (Below w.heap.size w w'))
        case atStart => exact ⟨(y108), (0), (by first | rfl | (simp; done) | (simp [*]; done)), H', ⟨Nat.le_refl _⟩, ⟨by (with_reducible repeat (first | apply Kd.R_alloc | apply Kd.R_drewN | apply Kd.R_drew)); exact HO110.out⟩, ⟨by repeat (first | (with_reducible first | exact HB.out | apply below_alloc | apply pw_below_drewN | apply below_drew1) | exact HB.out)⟩⟩
        case round =>
          clear H'
          try clear c1
          try clear p2
          try clear c4
          try clear c5
          try clear c5b0
          try clear c5b1
          try clear c6
          try clear c6b0
          try clear c6b1
          try clear c8
          obtain ⟨x6_1, x25_1, rfl, HA, HK1, HO_6, HB⟩ := hrel
          have hl6_1 := (Kd.R_reads' HO_6.out).1
          rw [hl6_1] at HO_6
          (try simp only [hl6_1])
          cases gk with
          | zero => exact absurd HA.out (by simp [spec_ClaimGroups.l0])
          | succ k1 =>
            have H := HA.out
            clear HA
            simp only [spec_ClaimGroups.l0] at H
            by_cases c11 : x25_1 < (y108.length : Int)
            · rw [if_pos c11] at H
              have c11b0 : decide (x25_1 < (y108.length : Int)) = true := decide_eq_true c11
              (try (have c11b0h := c11b0; simp only [hl6_1] at c11b0h))
              clear c11
              by_cases c12 : 0 ≤ x25_1
              · rw [if_pos c12] at H
                have c12b0 : decide (0 ≤ x25_1) = true := decide_eq_true c12
                clear c12
                by_cases c13 : x25_1 < (x6_1.length : Int)
                · rw [if_pos c13] at H
                  have c13b0 : decide (x25_1 < (x6_1.length : Int)) = true := decide_eq_true c13
                  (try (have c13b0h := c13b0; simp only [hl6_1] at c13b0h))
                  clear c13
                  obtain ⟨y111, hy111⟩ : ∃ y_ : List Int, y_ = (x6_1.set (x25_1 : Int).toNat x25_1) := ⟨_, rfl⟩
                  replace H : (spec_ClaimGroups.l0 k1 a0 l1 y111 (y108.length : Int) (wrap64 (x25_1 + 1))) = some (r1, r2) := by first | (rw [hy111]; with_reducible exact H) | (have H2_ := (Option.bind_some _ _).symm.trans H; rw [hy111]; with_reducible exact H2_) | (have H2_ := (Option.bind_some _ _).symm.trans H; with_reducible exact H2_) | with_reducible exact H | (rw [hy111]; exact H) | exact H
                  have Ny111 := Aside0.mk hy111
                  clear hy111
                  have H' := Aside0.mk H
                  clear H
                  have p14 : 0 ≤ (x25_1 : Int) := of_decide_eq_true (by first | (with_reducible assumption) | assumption)
                  have q14 : (x25_1 : Int) < ((x6_1.length : Int) : Int) := of_decide_eq_true (by first | (with_reducible assumption) | assumption)
                  obtain ⟨go14, co14, eo14, gb14, gl14, cl14, HG14⟩ := Kd.R_form HO_6.out (by omega)
                  (first | cases eo14 | (injection eo14 with ea_ en_ ec_; (first | subst ea_ | (injection ea_ with ea_; subst ea_)); subst ec_; clear en_))
                  have GB14 := Aside0.mk gb14
                  have GG14 := Aside0.mk HG14
                  clear gb14 gl14 HG14
                  obtain ⟨hx14_0, hf14_0⟩ := Kd.R_celln 0 HO_6.out (x25_1 : Int) p14 q14
                  replace p14 := eq_true p14
                  replace q14 := eq_true q14
                  have HP15 := Kd.R_putg HO_6.out (x25_1 : Int) x25_1
                  go_wp2_with (first | ((with_reducible refine gate_store (t := 3) (p := 31) rfl ?_); (try (rw [drewN_self wr]; generalize hq_ : World.drewN wr _ = wr; have n0_ := Aside0.mk (Kd.R_at hq_ HO_6.out); have n1_ := Aside0.mk (below_at hq_ HB.out); clear hq_ HO_6 HB; have HO_6 := n0_; have HB := n1_; clear n0_ n1_; (try (have HP15 := Kd.R_putg HO_6.out (x25_1 : Int) x25_1)))); refine store_event (t := 3) (p := 31) (v := ?vo_w16) (w1 := (wr.setCell ⟨go14, (x25_1 : Int).toNat, none⟩ (.int .i64 x25_1))) ?hg ?ho ?hn ?hr ?_; (case ho => rfl); (case hg => rfl); (case hn => rfl); (case hr => first | (go_simp; done) | (go_simp; rfl)); intro w16 hw; have hg : wr.grownBy w16 (some go14) := (by rw [hw]; exact HP15.2); have hp_ : Kd.R (Kd.int .i64) 3 w16 w.heap.size (fun _ => True) (.slice (some ⟨go14, 0, none⟩) x6_1.length co10) y111 := (by rw [hw, Ny111.out]; exact HP15.1); clear HP15; have n0_ := Aside0.mk (hp_); have n1_ := Aside0.mk ((by rw [hw]; exact below_set (HB.out) GB14.out : Below w.heap.size w w16)); clear HO_6; clear HB; have HO_6 := n0_; have HB := n1_; clear n0_ n1_; clear hg hw hp_))
                  repeat (go_quiet (first | ((with_reducible refine gate_store (t := 3) (p := 31) rfl ?_); (try (rw [drewN_self wr]; generalize hq_ : World.drewN wr _ = wr; have n0_ := Aside0.mk (Kd.R_at hq_ HO_6.out); have n1_ := Aside0.mk (below_at hq_ HB.out); clear hq_ HO_6 HB; have HO_6 := n0_; have HB := n1_; clear n0_ n1_; (try (have HP15 := Kd.R_putg HO_6.out (x25_1 : Int) x25_1)))); refine store_event (t := 3) (p := 31) (v := ?vo_w16) (w1 := (wr.setCell ⟨go14, (x25_1 : Int).toNat, none⟩ (.int .i64 x25_1))) ?hg ?ho ?hn ?hr ?_; (case ho => rfl); (case hg => rfl); (case hn => rfl); (case hr => first | (go_simp; done) | (go_simp; rfl)); intro w16 hw; have hg : wr.grownBy w16 (some go14) := (by rw [hw]; exact HP15.2); have hp_ : Kd.R (Kd.int .i64) 3 w16 w.heap.size (fun _ => True) (.slice (some ⟨go14, 0, none⟩) x6_1.length co10) y111 := (by rw [hw, Ny111.out]; exact HP15.1); clear HP15; have n0_ := Aside0.mk (hp_); have n1_ := Aside0.mk ((by rw [hw]; exact below_set (HB.out) GB14.out : Below w.heap.size w w16)); clear HO_6; clear HB; have HO_6 := n0_; have HB := n1_; clear n0_ n1_; clear hg hw hp_)); try go_wp2_with (first | ((with_reducible refine gate_store (t := 3) (p := 31) rfl ?_); (try (rw [drewN_self wr]; generalize hq_ : World.drewN wr _ = wr; have n0_ := Aside0.mk (Kd.R_at hq_ HO_6.out); have n1_ := Aside0.mk (below_at hq_ HB.out); clear hq_ HO_6 HB; have HO_6 := n0_; have HB := n1_; clear n0_ n1_; (try (have HP15 := Kd.R_putg HO_6.out (x25_1 : Int) x25_1)))); refine store_event (t := 3) (p := 31) (v := ?vo_w16) (w1 := (wr.setCell ⟨go14, (x25_1 : Int).toNat, none⟩ (.int .i64 x25_1))) ?hg ?ho ?hn ?hr ?_; (case ho => rfl); (case hg => rfl); (case hn => rfl); (case hr => first | (go_simp; done) | (go_simp; rfl)); intro w16 hw; have hg : wr.grownBy w16 (some go14) := (by rw [hw]; exact HP15.2); have hp_ : Kd.R (Kd.int .i64) 3 w16 w.heap.size (fun _ => True) (.slice (some ⟨go14, 0, none⟩) x6_1.length co10) y111 := (by rw [hw, Ny111.out]; exact HP15.1); clear HP15; have n0_ := Aside0.mk (hp_); have n1_ := Aside0.mk ((by rw [hw]; exact below_set (HB.out) GB14.out : Below w.heap.size w w16)); clear HO_6; clear HB; have HO_6 := n0_; have HB := n1_; clear n0_ n1_; clear hg hw hp_)))
                  (try simp only [← hl6_1])
                  go_roundg k1
                  case measure => have := HK1.out; omega
                  case rel => exact ⟨(y111), (wrap64 (x25_1 + 1)), (by first | rfl | (simp; done) | (simp [*]; done)), H', ⟨by have := HK1.out; omega⟩, ⟨by (try simp only [hl6_1]); (with_reducible repeat (first | apply Kd.R_alloc | apply Kd.R_drewN | apply Kd.R_drew)); exact HO_6.out⟩, ⟨by repeat (first | (with_reducible first | exact HB.out | apply below_alloc | apply pw_below_drewN | apply below_drew1) | exact HB.out)⟩⟩
                · rw [if_neg c13] at H
                  exact absurd H (by simp)
              · rw [if_neg c12] at H
                exact absurd H (by simp)
            · rw [if_neg c11] at H
              have c11b0 : decide (x25_1 < (y108.length : Int)) = false := decide_eq_false c11
              (try (have c11b0h := c11b0; simp only [hl6_1] at c11b0h))
              clear c11
              have H' := Aside0.mk H
              clear H
              go_wp2
              repeat (go_quiet (fail); try go_wp2)
              go_loopg [8] k1 (fun kq v8 w' => ∃ (x6_2 : List Int) (x8_2 : Bool), v8 = .bool x8_2 ∧ Aside0 (spec_ClaimGroups.l1 kq a0 l1 x6_2 x8_2 = some (r1, r2)) ∧ Aside0 (kq ≤ k1) ∧ Aside0 (Kd.R (Kd.int .i64) 3 w' w.heap.size (fun _ => True) (.slice Ao10 x6_1.length co10) x6_2) ∧ Aside0 (Below w.heap.size w w'))
              case atStart => exact ⟨(x6_1), (true), (by first | rfl | (simp; done) | (simp [*]; done)), H', ⟨Nat.le_refl _⟩, ⟨by (try simp only [hl6_1]); (with_reducible repeat (first | apply Kd.R_alloc | apply Kd.R_drewN | apply Kd.R_drew)); exact HO_6.out⟩, ⟨by repeat (first | (with_reducible first | exact HB.out | apply below_alloc | apply pw_below_drewN | apply below_drew1) | exact HB.out)⟩⟩
              case round =>
                clear H'
                try clear c1
                try clear p1
                try clear q1
                try clear hx1
                try clear p2
                try clear c4
                try clear c5
                try clear c5b0
                try clear c5b1
                try clear c6
                try clear c6b0
                try clear c6b1
                try clear p6
                try clear c8
                try clear c11
                try clear c11b0
                try clear c12
                try clear c12b0
                try clear c13
                try clear c13b0
                try clear p14
                try clear q14
                try clear hx14
                try clear hf14
                try clear hx14_0
                try clear p14
                try clear p2
                try clear q14
                obtain ⟨x6_2, x8_2, rfl, HA, HK2, HO_6, HB⟩ := hrel
                have hl6_2 := (Kd.R_reads' HO_6.out).1
                rw [hl6_2] at HO_6
                (try simp only [hl6_2])
                cases gk with
                | zero => exact absurd HA.out (by simp [spec_ClaimGroups.l1])
                | succ k2 =>
                  have H := HA.out
                  clear HA
                  simp only [spec_ClaimGroups.l1] at H
                  by_cases c17 : x8_2 = true
                  · subst c17
                    have H1 : (spec_ClaimGroups.l2 k2 a0 l1 x6_2 false l1 (l1.length : Int) 0) = some (r1, r2) := by rw [if_pos rfl] at H; exact H
                    clear H
                    have H := H1
                    clear H1
                    have H' := Aside0.mk H
                    clear H
                    go_wp2
                    repeat (go_quiet (fail); try go_wp2)
                    go_loopg [8, 36] k2 (fun kq v8 v36 w' => ∃ (x6_3 : List Int) (x8_3 : Bool) (x36_3 : Int), v8 = .bool x8_3 ∧ v36 = .int .i64 x36_3 ∧ Aside0 (spec_ClaimGroups.l2 kq a0 l1 x6_3 x8_3 l1 (l1.length : Int) x36_3 = some (r1, r2)) ∧ Aside0 (kq ≤ k2) ∧ Aside0 (Kd.R (Kd.int .i64) 3 w' w.heap.size (fun _ => True) (.slice Ao10 x6_2.length co10) x6_3) ∧ Aside0 (Below w.heap.size w w'))
                    case atStart => exact ⟨(x6_2), (false), (0), (by first | rfl | (simp; done) | (simp [*]; done)), (by first | rfl | (simp; done) | (simp [*]; done)), H', ⟨Nat.le_refl _⟩, ⟨by (try simp only [hl6_1]); (try simp only [hl6_2]); (with_reducible repeat (first | apply Kd.R_alloc | apply Kd.R_drewN | apply Kd.R_drew)); exact HO_6.out⟩, ⟨by repeat (first | (with_reducible first | exact HB.out | apply below_alloc | apply pw_below_drewN | apply below_drew1) | exact HB.out)⟩⟩
                    case round =>
                      clear H'
                      try clear c1
                      try clear p1
                      try clear q1
                      try clear hx1
                      try clear p2
                      try clear c4
                      try clear c5
                      try clear c5b0
                      try clear c5b1
                      try clear c6
                      try clear c6b0
                      try clear c6b1
                      try clear p6
                      try clear c8
                      try clear c11
                      try clear c11b0
                      try clear c12
                      try clear c12b0
                      try clear c13
                      try clear c13b0
                      try clear p14
                      try clear q14
                      try clear hx14
                      try clear hf14
                      try clear c17
                      try clear hx14_0
                      try clear p1
                      try clear p14
                      try clear p2
                      try clear p6
                      try clear q1
                      try clear q14
                      obtain ⟨x6_3, x8_3, x36_3, rfl, rfl, HA, HK3, HO_6, HB⟩ := hrel
                      have hl6_3 := (Kd.R_reads' HO_6.out).1
                      rw [hl6_3] at HO_6
                      (try simp only [hl6_3])
                      cases gk with
                      | zero => exact absurd HA.out (by simp [spec_ClaimGroups.l2])
                      | succ k3 =>
                        have H := HA.out
                        clear HA
                        simp only [spec_ClaimGroups.l2] at H
                        by_cases c18 : x36_3 < (l1.length : Int)
                        · rw [if_pos c18] at H
                          have c18b0 : decide (x36_3 < (l1.length : Int)) = true := decide_eq_true c18
                          (try (have c18b0h := c18b0; simp only [hl6_1, hl6_2, hl6_3] at c18b0h))
                          clear c18
                          by_cases c19 : 0 ≤ x36_3
                          · rw [if_pos c19] at H
                            have c19b0 : decide (0 ≤ x36_3) = true := decide_eq_true c19
                            clear c19
                            by_cases c20 : x36_3 < (l1.length : Int)
                            · rw [if_pos c20] at H
                              have c20b0 : decide (x36_3 < (l1.length : Int)) = true := decide_eq_true c20
                              (try (have c20b0h := c20b0; simp only [hl6_1, hl6_2, hl6_3] at c20b0h))
                              clear c20
                              by_cases c21 : 0 ≤ ((rd_T84 l1 x36_3).f0)
                              · rw [if_pos c21] at H
                                have c21b0 : decide (0 ≤ ((rd_T84 l1 x36_3).f0)) = true := decide_eq_true c21
                                clear c21
                                by_cases c22 : ((rd_T84 l1 x36_3).f0) < (x6_3.length : Int)
                                · rw [if_pos c22] at H
                                  have c22b0 : decide (((rd_T84 l1 x36_3).f0) < (x6_3.length : Int)) = true := decide_eq_true c22
                                  (try (have c22b0h := c22b0; simp only [hl6_1, hl6_2, hl6_3] at c22b0h))
                                  clear c22
                                  by_cases c23 : 0 ≤ ((rd_T84 l1 x36_3).f1)
                                  · rw [if_pos c23] at H
                                    have c23b0 : decide (0 ≤ ((rd_T84 l1 x36_3).f1)) = true := decide_eq_true c23
                                    clear c23
                                    by_cases c24 : ((rd_T84 l1 x36_3).f1) < (x6_3.length : Int)
                                    · rw [if_pos c24] at H
                                      have c24b0 : decide (((rd_T84 l1 x36_3).f1) < (x6_3.length : Int)) = true := decide_eq_true c24
                                      (try (have c24b0h := c24b0; simp only [hl6_1, hl6_2, hl6_3] at c24b0h))
                                      clear c24
                                      replace H := Option.bind_eq_some_iff.mp H
                                      obtain ⟨t116, A250, H⟩ := H
                                      replace H : (if (rd x6_3 ((rd_T84 l1 x36_3).f0)) = t116 then (if (rd x6_3 ((rd_T84 l1 x36_3).f1)) = t116 then (spec_ClaimGroups.l2 k3 a0 l1 x6_3 x8_3 l1 (l1.length : Int) (wrap64 (x36_3 + 1))) else (spec_ClaimGroups.l2 k3 a0 l1 ((x6_3.set (((rd_T84 l1 x36_3).f0) : Int).toNat t116).set (((rd_T84 l1 x36_3).f1) : Int).toNat t116) true l1 (l1.length : Int) (wrap64 (x36_3 + 1)))) else (spec_ClaimGroups.l2 k3 a0 l1 ((x6_3.set (((rd_T84 l1 x36_3).f0) : Int).toNat t116).set (((rd_T84 l1 x36_3).f1) : Int).toNat t116) true l1 (l1.length : Int) (wrap64 (x36_3 + 1)))) = some (r1, r2) := H
                                      have A25 := Aside0.mk A250
                                      clear A250
                                      by_cases c26 : (rd x6_3 ((rd_T84 l1 x36_3).f0)) = t116
                                      · rw [if_pos c26] at H
                                        have c26b0 : ((rd x6_3 ((rd_T84 l1 x36_3).f0)) == t116) = true := beq_iff_eq.mpr c26
                                        have c26b1 : ((rd x6_3 ((rd_T84 l1 x36_3).f0)) != t116) = false := bne_eq_false_iff_eq.mpr c26
                                        clear c26
                                        by_cases c27 : (rd x6_3 ((rd_T84 l1 x36_3).f1)) = t116
                                        · rw [if_pos c27] at H
                                          have c27b0 : ((rd x6_3 ((rd_T84 l1 x36_3).f1)) == t116) = true := beq_iff_eq.mpr c27
                                          have c27b1 : ((rd x6_3 ((rd_T84 l1 x36_3).f1)) != t116) = false := bne_eq_false_iff_eq.mpr c27
                                          clear c27
                                          have H' := Aside0.mk H
                                          clear H
                                          have p112 : 0 ≤ (x36_3 : Int) := of_decide_eq_true (by first | (with_reducible assumption) | assumption)
                                          have q112 : x36_3 < (l1.length : Int) := of_decide_eq_true (by first | (with_reducible assumption) | assumption)
                                          obtain ⟨ad112, e112, hx112_0, hx112_1, hx112_2⟩ := at_T84 HR1.out x36_3 p112 q112
                                          cases e112
                                          replace hx112_0 := (HB.out.cell (World.block_lt_of_cell? w _ hx112_0)).trans hx112_0
                                          replace hx112_1 := (HB.out.cell (World.block_lt_of_cell? w _ hx112_1)).trans hx112_1
                                          replace hx112_2 := (HB.out.cell (World.block_lt_of_cell? w _ hx112_2)).trans hx112_2
                                          replace p112 := eq_true p112
                                          replace q112 := eq_true q112
                                          go_wp2_with (first | ((with_reducible refine gate_dst (N := 10) rfl ?_); refine box_event ?hg (N := 10) ?hd (cs := #[.int .i64 0, .int .i64 0, .bool false]) (t := 84) ?hr ?_; (case hd => rfl); (case hg => rfl); (case hr => first | (go_simp; done) | (go_simp; rfl)); intro gb113 hg w28 hbox hb; have n0_ := Aside0.mk (Kd.R_below (by (with_reducible repeat (first | apply Kd.R_alloc | apply Kd.R_drewN | apply Kd.R_drew)); exact HO_6.out) hb); have n1_ := Aside0.mk (below_step (by repeat (first | (with_reducible first | exact HB.out | apply below_alloc | apply pw_below_drewN | apply below_drew1) | exact HB.out)) hb); have n2_ := Aside0.mk (hbox); have n3_ := Aside0.mk ((by rw [hg]; exact (below_size (by repeat (first | (with_reducible first | exact HB.out | apply below_alloc | apply pw_below_drewN | apply below_drew1) | exact HB.out))) : w.heap.size ≤ gb113)); have n4_ := Aside0.mk ((by rw [hg]; exact (below_size (by repeat (first | (with_reducible first | exact HB.out | apply below_alloc | apply pw_below_drewN | apply below_drew1) | exact HB.out))) : w.heap.size ≤ gb113)); clear HO_6; clear HB; have HO_6 := n0_; have HB := n1_; have BK113 := n2_; have GW113 := n3_; have GE113 := n4_; clear n0_ n1_ n2_ n3_ n4_; clear hb hbox hg; have hcz29_0 : w28.cell? ⟨gb113, 0, none⟩ = some (.int .i64 0) := (blk_cell BK113.out 0).trans rfl; have hcz29_1 : w28.cell? ⟨gb113, 1, none⟩ = some (.int .i64 0) := (blk_cell BK113.out 1).trans rfl; have hcz29_2 : w28.cell? ⟨gb113, 2, none⟩ = some (.bool false) := (blk_cell BK113.out 2).trans rfl; have hfz29_0 := blk_frozen BK113.out 0; have hfz29_1 := blk_frozen BK113.out 1; have hfz29_2 := blk_frozen BK113.out 2; have p114 : 0 ≤ (((rd_T84 l1 x36_3).f0) : Int) := of_decide_eq_true (by first | (with_reducible assumption) | assumption); have q114 : ((rd_T84 l1 x36_3).f0) < (x6_3.length : Int) := of_decide_eq_true (by first | (with_reducible assumption) | assumption); obtain ⟨ad114, e114, hx114_0⟩ := Kd.at_int (Kd.R_reads' HO_6.out).2.2 ((rd_T84 l1 x36_3).f0) p114 q114; cases e114; have hn114_0 : ad114.block ≠ gb113 := Kd.own_blk (Kd.R_ne HO_6.out BK113.out (by decide)); have hn114_1 : ad114.block ≠ gb113 := Kd.own_blk (Kd.R_ne HO_6.out BK113.out (by decide)); have hn114_2 : ad114.block ≠ gb113 := Kd.own_blk (Kd.R_ne HO_6.out BK113.out (by decide)); replace hx114_0 := (cell_far (p := ⟨gb113, 0, none⟩) (by first | (rw [add_block]; exact hn114_0) | (show (Addr.add _ _).block ≠ _; rw [add_block]; exact hn114_0) | exact hn114_0) (.int .i64 ((rd_T84 l1 x36_3).f0))).trans hx114_0; replace hx114_0 := (cell_far (p := ⟨gb113, 1, none⟩) (by first | (rw [add_block]; exact hn114_1) | (show (Addr.add _ _).block ≠ _; rw [add_block]; exact hn114_1) | exact hn114_1) (.int .i64 ((rd_T84 l1 x36_3).f1))).trans hx114_0; replace hx114_0 := (cell_far (p := ⟨gb113, 2, none⟩) (by first | (rw [add_block]; exact hn114_2) | (show (Addr.add _ _).block ≠ _; rw [add_block]; exact hn114_2) | exact hn114_2) (.bool ((rd_T84 l1 x36_3).f2))).trans hx114_0; (try have hy114_0 := fun (n_ : Nat) => (show (((((w28.drewN n_).setCell ⟨gb113, 0, none⟩ (.int .i64 ((rd_T84 l1 x36_3).f0))).setCell ⟨gb113, 1, none⟩ (.int .i64 ((rd_T84 l1 x36_3).f1))).setCell ⟨gb113, 2, none⟩ (.bool ((rd_T84 l1 x36_3).f2)))).cell? _ = some _ from hx114_0)); clear hn114_0; clear hn114_1; clear hn114_2; replace p114 := eq_true p114; replace q114 := eq_true q114; have p115 : 0 ≤ (((rd_T84 l1 x36_3).f1) : Int) := of_decide_eq_true (by first | (with_reducible assumption) | assumption); have q115 : ((rd_T84 l1 x36_3).f1) < (x6_3.length : Int) := of_decide_eq_true (by first | (with_reducible assumption) | assumption); obtain ⟨ad115, e115, hx115_0⟩ := Kd.at_int (Kd.R_reads' HO_6.out).2.2 ((rd_T84 l1 x36_3).f1) p115 q115; obtain rfl : ad114 = ad115 := (by injection e115); have hn115_0 : ad114.block ≠ gb113 := Kd.own_blk (Kd.R_ne HO_6.out BK113.out (by decide)); have hn115_1 : ad114.block ≠ gb113 := Kd.own_blk (Kd.R_ne HO_6.out BK113.out (by decide)); have hn115_2 : ad114.block ≠ gb113 := Kd.own_blk (Kd.R_ne HO_6.out BK113.out (by decide)); replace hx115_0 := (cell_far (p := ⟨gb113, 0, none⟩) (by first | (rw [add_block]; exact hn115_0) | (show (Addr.add _ _).block ≠ _; rw [add_block]; exact hn115_0) | exact hn115_0) (.int .i64 ((rd_T84 l1 x36_3).f0))).trans hx115_0; replace hx115_0 := (cell_far (p := ⟨gb113, 1, none⟩) (by first | (rw [add_block]; exact hn115_1) | (show (Addr.add _ _).block ≠ _; rw [add_block]; exact hn115_1) | exact hn115_1) (.int .i64 ((rd_T84 l1 x36_3).f1))).trans hx115_0; replace hx115_0 := (cell_far (p := ⟨gb113, 2, none⟩) (by first | (rw [add_block]; exact hn115_2) | (show (Addr.add _ _).block ≠ _; rw [add_block]; exact hn115_2) | exact hn115_2) (.bool ((rd_T84 l1 x36_3).f2))).trans hx115_0; (try have hy115_0 := fun (n_ : Nat) => (show (((((w28.drewN n_).setCell ⟨gb113, 0, none⟩ (.int .i64 ((rd_T84 l1 x36_3).f0))).setCell ⟨gb113, 1, none⟩ (.int .i64 ((rd_T84 l1 x36_3).f1))).setCell ⟨gb113, 2, none⟩ (.bool ((rd_T84 l1 x36_3).f2)))).cell? _ = some _ from hx115_0)); clear hn115_0; clear hn115_1; clear hn115_2; replace p115 := eq_true p115; replace q115 := eq_true q115) | (go_at_call 71; (with_reducible refine (spec_l1Least.calls (rd x6_3 ((rd_T84 l1 x36_3).f0)) (rd x6_3 ((rd_T84 l1 x36_3).f1)) t116 _ A25.out).mono ?_); rintro e w' ⟨rfl, ⟨nd, rfl⟩⟩; (try first | exact ⟨rfl, _, World.drewN_drewN _ _ _⟩ | exact ⟨rfl, _, Eq.trans (World.drewN_drewN _ _ _) (congrArg (World.drewN _) (Nat.add_assoc _ _ _))⟩); have p117 : 0 ≤ (((rd_T84 l1 x36_3).f0) : Int) := of_decide_eq_true (by first | (with_reducible assumption) | assumption); have q117 : ((rd_T84 l1 x36_3).f0) < (x6_3.length : Int) := of_decide_eq_true (by first | (with_reducible assumption) | assumption); obtain ⟨ad117, e117, hx117_0⟩ := Kd.at_int (Kd.R_reads' HO_6.out).2.2 ((rd_T84 l1 x36_3).f0) p117 q117; obtain rfl : ad114 = ad117 := (by injection e117); have hn117_0 : ad114.block ≠ gb113 := Kd.own_blk (Kd.R_ne HO_6.out BK113.out (by decide)); have hn117_1 : ad114.block ≠ gb113 := Kd.own_blk (Kd.R_ne HO_6.out BK113.out (by decide)); have hn117_2 : ad114.block ≠ gb113 := Kd.own_blk (Kd.R_ne HO_6.out BK113.out (by decide)); replace hx117_0 := (cell_far (p := ⟨gb113, 0, none⟩) (by first | (rw [add_block]; exact hn117_0) | (show (Addr.add _ _).block ≠ _; rw [add_block]; exact hn117_0) | exact hn117_0) (.int .i64 ((rd_T84 l1 x36_3).f0))).trans hx117_0; replace hx117_0 := (cell_far (p := ⟨gb113, 1, none⟩) (by first | (rw [add_block]; exact hn117_1) | (show (Addr.add _ _).block ≠ _; rw [add_block]; exact hn117_1) | exact hn117_1) (.int .i64 ((rd_T84 l1 x36_3).f1))).trans hx117_0; replace hx117_0 := (cell_far (p := ⟨gb113, 2, none⟩) (by first | (rw [add_block]; exact hn117_2) | (show (Addr.add _ _).block ≠ _; rw [add_block]; exact hn117_2) | exact hn117_2) (.bool ((rd_T84 l1 x36_3).f2))).trans hx117_0; (try have hy117_0 := fun (n_ : Nat) => (show (((((w28.drewN n_).setCell ⟨gb113, 0, none⟩ (.int .i64 ((rd_T84 l1 x36_3).f0))).setCell ⟨gb113, 1, none⟩ (.int .i64 ((rd_T84 l1 x36_3).f1))).setCell ⟨gb113, 2, none⟩ (.bool ((rd_T84 l1 x36_3).f2)))).cell? _ = some _ from hx117_0)); clear hn117_0; clear hn117_1; clear hn117_2; replace p117 := eq_true p117; replace q117 := eq_true q117; have p118 : 0 ≤ (((rd_T84 l1 x36_3).f1) : Int) := of_decide_eq_true (by first | (with_reducible assumption) | assumption); have q118 : ((rd_T84 l1 x36_3).f1) < (x6_3.length : Int) := of_decide_eq_true (by first | (with_reducible assumption) | assumption); obtain ⟨ad118, e118, hx118_0⟩ := Kd.at_int (Kd.R_reads' HO_6.out).2.2 ((rd_T84 l1 x36_3).f1) p118 q118; obtain rfl : ad114 = ad118 := (by injection e118); have hn118_0 : ad114.block ≠ gb113 := Kd.own_blk (Kd.R_ne HO_6.out BK113.out (by decide)); have hn118_1 : ad114.block ≠ gb113 := Kd.own_blk (Kd.R_ne HO_6.out BK113.out (by decide)); have hn118_2 : ad114.block ≠ gb113 := Kd.own_blk (Kd.R_ne HO_6.out BK113.out (by decide)); replace hx118_0 := (cell_far (p := ⟨gb113, 0, none⟩) (by first | (rw [add_block]; exact hn118_0) | (show (Addr.add _ _).block ≠ _; rw [add_block]; exact hn118_0) | exact hn118_0) (.int .i64 ((rd_T84 l1 x36_3).f0))).trans hx118_0; replace hx118_0 := (cell_far (p := ⟨gb113, 1, none⟩) (by first | (rw [add_block]; exact hn118_1) | (show (Addr.add _ _).block ≠ _; rw [add_block]; exact hn118_1) | exact hn118_1) (.int .i64 ((rd_T84 l1 x36_3).f1))).trans hx118_0; replace hx118_0 := (cell_far (p := ⟨gb113, 2, none⟩) (by first | (rw [add_block]; exact hn118_2) | (show (Addr.add _ _).block ≠ _; rw [add_block]; exact hn118_2) | exact hn118_2) (.bool ((rd_T84 l1 x36_3).f2))).trans hx118_0; (try have hy118_0 := fun (n_ : Nat) => (show (((((w28.drewN n_).setCell ⟨gb113, 0, none⟩ (.int .i64 ((rd_T84 l1 x36_3).f0))).setCell ⟨gb113, 1, none⟩ (.int .i64 ((rd_T84 l1 x36_3).f1))).setCell ⟨gb113, 2, none⟩ (.bool ((rd_T84 l1 x36_3).f2)))).cell? _ = some _ from hx118_0)); clear hn118_0; clear hn118_1; clear hn118_2; replace p118 := eq_true p118; replace q118 := eq_true q118))
                                          repeat (go_quiet (first | ((with_reducible refine gate_dst (N := 10) rfl ?_); refine box_event ?hg (N := 10) ?hd (cs := #[.int .i64 0, .int .i64 0, .bool false]) (t := 84) ?hr ?_; (case hd => rfl); (case hg => rfl); (case hr => first | (go_simp; done) | (go_simp; rfl)); intro gb113 hg w28 hbox hb; have n0_ := Aside0.mk (Kd.R_below (by (with_reducible repeat (first | apply Kd.R_alloc | apply Kd.R_drewN | apply Kd.R_drew)); exact HO_6.out) hb); have n1_ := Aside0.mk (below_step (by repeat (first | (with_reducible first | exact HB.out | apply below_alloc | apply pw_below_drewN | apply below_drew1) | exact HB.out)) hb); have n2_ := Aside0.mk (hbox); have n3_ := Aside0.mk ((by rw [hg]; exact (below_size (by repeat (first | (with_reducible first | exact HB.out | apply below_alloc | apply pw_below_drewN | apply below_drew1) | exact HB.out))) : w.heap.size ≤ gb113)); have n4_ := Aside0.mk ((by rw [hg]; exact (below_size (by repeat (first | (with_reducible first | exact HB.out | apply below_alloc | apply pw_below_drewN | apply below_drew1) | exact HB.out))) : w.heap.size ≤ gb113)); clear HO_6; clear HB; have HO_6 := n0_; have HB := n1_; have BK113 := n2_; have GW113 := n3_; have GE113 := n4_; clear n0_ n1_ n2_ n3_ n4_; clear hb hbox hg; have hcz29_0 : w28.cell? ⟨gb113, 0, none⟩ = some (.int .i64 0) := (blk_cell BK113.out 0).trans rfl; have hcz29_1 : w28.cell? ⟨gb113, 1, none⟩ = some (.int .i64 0) := (blk_cell BK113.out 1).trans rfl; have hcz29_2 : w28.cell? ⟨gb113, 2, none⟩ = some (.bool false) := (blk_cell BK113.out 2).trans rfl; have hfz29_0 := blk_frozen BK113.out 0; have hfz29_1 := blk_frozen BK113.out 1; have hfz29_2 := blk_frozen BK113.out 2; have p114 : 0 ≤ (((rd_T84 l1 x36_3).f0) : Int) := of_decide_eq_true (by first | (with_reducible assumption) | assumption); have q114 : ((rd_T84 l1 x36_3).f0) < (x6_3.length : Int) := of_decide_eq_true (by first | (with_reducible assumption) | assumption); obtain ⟨ad114, e114, hx114_0⟩ := Kd.at_int (Kd.R_reads' HO_6.out).2.2 ((rd_T84 l1 x36_3).f0) p114 q114; cases e114; have hn114_0 : ad114.block ≠ gb113 := Kd.own_blk (Kd.R_ne HO_6.out BK113.out (by decide)); have hn114_1 : ad114.block ≠ gb113 := Kd.own_blk (Kd.R_ne HO_6.out BK113.out (by decide)); have hn114_2 : ad114.block ≠ gb113 := Kd.own_blk (Kd.R_ne HO_6.out BK113.out (by decide)); replace hx114_0 := (cell_far (p := ⟨gb113, 0, none⟩) (by first | (rw [add_block]; exact hn114_0) | (show (Addr.add _ _).block ≠ _; rw [add_block]; exact hn114_0) | exact hn114_0) (.int .i64 ((rd_T84 l1 x36_3).f0))).trans hx114_0; replace hx114_0 := (cell_far (p := ⟨gb113, 1, none⟩) (by first | (rw [add_block]; exact hn114_1) | (show (Addr.add _ _).block ≠ _; rw [add_block]; exact hn114_1) | exact hn114_1) (.int .i64 ((rd_T84 l1 x36_3).f1))).trans hx114_0; replace hx114_0 := (cell_far (p := ⟨gb113, 2, none⟩) (by first | (rw [add_block]; exact hn114_2) | (show (Addr.add _ _).block ≠ _; rw [add_block]; exact hn114_2) | exact hn114_2) (.bool ((rd_T84 l1 x36_3).f2))).trans hx114_0; (try have hy114_0 := fun (n_ : Nat) => (show (((((w28.drewN n_).setCell ⟨gb113, 0, none⟩ (.int .i64 ((rd_T84 l1 x36_3).f0))).setCell ⟨gb113, 1, none⟩ (.int .i64 ((rd_T84 l1 x36_3).f1))).setCell ⟨gb113, 2, none⟩ (.bool ((rd_T84 l1 x36_3).f2)))).cell? _ = some _ from hx114_0)); clear hn114_0; clear hn114_1; clear hn114_2; replace p114 := eq_true p114; replace q114 := eq_true q114; have p115 : 0 ≤ (((rd_T84 l1 x36_3).f1) : Int) := of_decide_eq_true (by first | (with_reducible assumption) | assumption); have q115 : ((rd_T84 l1 x36_3).f1) < (x6_3.length : Int) := of_decide_eq_true (by first | (with_reducible assumption) | assumption); obtain ⟨ad115, e115, hx115_0⟩ := Kd.at_int (Kd.R_reads' HO_6.out).2.2 ((rd_T84 l1 x36_3).f1) p115 q115; obtain rfl : ad114 = ad115 := (by injection e115); have hn115_0 : ad114.block ≠ gb113 := Kd.own_blk (Kd.R_ne HO_6.out BK113.out (by decide)); have hn115_1 : ad114.block ≠ gb113 := Kd.own_blk (Kd.R_ne HO_6.out BK113.out (by decide)); have hn115_2 : ad114.block ≠ gb113 := Kd.own_blk (Kd.R_ne HO_6.out BK113.out (by decide)); replace hx115_0 := (cell_far (p := ⟨gb113, 0, none⟩) (by first | (rw [add_block]; exact hn115_0) | (show (Addr.add _ _).block ≠ _; rw [add_block]; exact hn115_0) | exact hn115_0) (.int .i64 ((rd_T84 l1 x36_3).f0))).trans hx115_0; replace hx115_0 := (cell_far (p := ⟨gb113, 1, none⟩) (by first | (rw [add_block]; exact hn115_1) | (show (Addr.add _ _).block ≠ _; rw [add_block]; exact hn115_1) | exact hn115_1) (.int .i64 ((rd_T84 l1 x36_3).f1))).trans hx115_0; replace hx115_0 := (cell_far (p := ⟨gb113, 2, none⟩) (by first | (rw [add_block]; exact hn115_2) | (show (Addr.add _ _).block ≠ _; rw [add_block]; exact hn115_2) | exact hn115_2) (.bool ((rd_T84 l1 x36_3).f2))).trans hx115_0; (try have hy115_0 := fun (n_ : Nat) => (show (((((w28.drewN n_).setCell ⟨gb113, 0, none⟩ (.int .i64 ((rd_T84 l1 x36_3).f0))).setCell ⟨gb113, 1, none⟩ (.int .i64 ((rd_T84 l1 x36_3).f1))).setCell ⟨gb113, 2, none⟩ (.bool ((rd_T84 l1 x36_3).f2)))).cell? _ = some _ from hx115_0)); clear hn115_0; clear hn115_1; clear hn115_2; replace p115 := eq_true p115; replace q115 := eq_true q115) | (go_at_call 71; (with_reducible refine (spec_l1Least.calls (rd x6_3 ((rd_T84 l1 x36_3).f0)) (rd x6_3 ((rd_T84 l1 x36_3).f1)) t116 _ A25.out).mono ?_); rintro e w' ⟨rfl, ⟨nd, rfl⟩⟩; (try first | exact ⟨rfl, _, World.drewN_drewN _ _ _⟩ | exact ⟨rfl, _, Eq.trans (World.drewN_drewN _ _ _) (congrArg (World.drewN _) (Nat.add_assoc _ _ _))⟩); have p117 : 0 ≤ (((rd_T84 l1 x36_3).f0) : Int) := of_decide_eq_true (by first | (with_reducible assumption) | assumption); have q117 : ((rd_T84 l1 x36_3).f0) < (x6_3.length : Int) := of_decide_eq_true (by first | (with_reducible assumption) | assumption); obtain ⟨ad117, e117, hx117_0⟩ := Kd.at_int (Kd.R_reads' HO_6.out).2.2 ((rd_T84 l1 x36_3).f0) p117 q117; obtain rfl : ad114 = ad117 := (by injection e117); have hn117_0 : ad114.block ≠ gb113 := Kd.own_blk (Kd.R_ne HO_6.out BK113.out (by decide)); have hn117_1 : ad114.block ≠ gb113 := Kd.own_blk (Kd.R_ne HO_6.out BK113.out (by decide)); have hn117_2 : ad114.block ≠ gb113 := Kd.own_blk (Kd.R_ne HO_6.out BK113.out (by decide)); replace hx117_0 := (cell_far (p := ⟨gb113, 0, none⟩) (by first | (rw [add_block]; exact hn117_0) | (show (Addr.add _ _).block ≠ _; rw [add_block]; exact hn117_0) | exact hn117_0) (.int .i64 ((rd_T84 l1 x36_3).f0))).trans hx117_0; replace hx117_0 := (cell_far (p := ⟨gb113, 1, none⟩) (by first | (rw [add_block]; exact hn117_1) | (show (Addr.add _ _).block ≠ _; rw [add_block]; exact hn117_1) | exact hn117_1) (.int .i64 ((rd_T84 l1 x36_3).f1))).trans hx117_0; replace hx117_0 := (cell_far (p := ⟨gb113, 2, none⟩) (by first | (rw [add_block]; exact hn117_2) | (show (Addr.add _ _).block ≠ _; rw [add_block]; exact hn117_2) | exact hn117_2) (.bool ((rd_T84 l1 x36_3).f2))).trans hx117_0; (try have hy117_0 := fun (n_ : Nat) => (show (((((w28.drewN n_).setCell ⟨gb113, 0, none⟩ (.int .i64 ((rd_T84 l1 x36_3).f0))).setCell ⟨gb113, 1, none⟩ (.int .i64 ((rd_T84 l1 x36_3).f1))).setCell ⟨gb113, 2, none⟩ (.bool ((rd_T84 l1 x36_3).f2)))).cell? _ = some _ from hx117_0)); clear hn117_0; clear hn117_1; clear hn117_2; replace p117 := eq_true p117; replace q117 := eq_true q117; have p118 : 0 ≤ (((rd_T84 l1 x36_3).f1) : Int) := of_decide_eq_true (by first | (with_reducible assumption) | assumption); have q118 : ((rd_T84 l1 x36_3).f1) < (x6_3.length : Int) := of_decide_eq_true (by first | (with_reducible assumption) | assumption); obtain ⟨ad118, e118, hx118_0⟩ := Kd.at_int (Kd.R_reads' HO_6.out).2.2 ((rd_T84 l1 x36_3).f1) p118 q118; obtain rfl : ad114 = ad118 := (by injection e118); have hn118_0 : ad114.block ≠ gb113 := Kd.own_blk (Kd.R_ne HO_6.out BK113.out (by decide)); have hn118_1 : ad114.block ≠ gb113 := Kd.own_blk (Kd.R_ne HO_6.out BK113.out (by decide)); have hn118_2 : ad114.block ≠ gb113 := Kd.own_blk (Kd.R_ne HO_6.out BK113.out (by decide)); replace hx118_0 := (cell_far (p := ⟨gb113, 0, none⟩) (by first | (rw [add_block]; exact hn118_0) | (show (Addr.add _ _).block ≠ _; rw [add_block]; exact hn118_0) | exact hn118_0) (.int .i64 ((rd_T84 l1 x36_3).f0))).trans hx118_0; replace hx118_0 := (cell_far (p := ⟨gb113, 1, none⟩) (by first | (rw [add_block]; exact hn118_1) | (show (Addr.add _ _).block ≠ _; rw [add_block]; exact hn118_1) | exact hn118_1) (.int .i64 ((rd_T84 l1 x36_3).f1))).trans hx118_0; replace hx118_0 := (cell_far (p := ⟨gb113, 2, none⟩) (by first | (rw [add_block]; exact hn118_2) | (show (Addr.add _ _).block ≠ _; rw [add_block]; exact hn118_2) | exact hn118_2) (.bool ((rd_T84 l1 x36_3).f2))).trans hx118_0; (try have hy118_0 := fun (n_ : Nat) => (show (((((w28.drewN n_).setCell ⟨gb113, 0, none⟩ (.int .i64 ((rd_T84 l1 x36_3).f0))).setCell ⟨gb113, 1, none⟩ (.int .i64 ((rd_T84 l1 x36_3).f1))).setCell ⟨gb113, 2, none⟩ (.bool ((rd_T84 l1 x36_3).f2)))).cell? _ = some _ from hx118_0)); clear hn118_0; clear hn118_1; clear hn118_2; replace p118 := eq_true p118; replace q118 := eq_true q118)); try go_wp2_with (first | ((with_reducible refine gate_dst (N := 10) rfl ?_); refine box_event ?hg (N := 10) ?hd (cs := #[.int .i64 0, .int .i64 0, .bool false]) (t := 84) ?hr ?_; (case hd => rfl); (case hg => rfl); (case hr => first | (go_simp; done) | (go_simp; rfl)); intro gb113 hg w28 hbox hb; have n0_ := Aside0.mk (Kd.R_below (by (with_reducible repeat (first | apply Kd.R_alloc | apply Kd.R_drewN | apply Kd.R_drew)); exact HO_6.out) hb); have n1_ := Aside0.mk (below_step (by repeat (first | (with_reducible first | exact HB.out | apply below_alloc | apply pw_below_drewN | apply below_drew1) | exact HB.out)) hb); have n2_ := Aside0.mk (hbox); have n3_ := Aside0.mk ((by rw [hg]; exact (below_size (by repeat (first | (with_reducible first | exact HB.out | apply below_alloc | apply pw_below_drewN | apply below_drew1) | exact HB.out))) : w.heap.size ≤ gb113)); have n4_ := Aside0.mk ((by rw [hg]; exact (below_size (by repeat (first | (with_reducible first | exact HB.out | apply below_alloc | apply pw_below_drewN | apply below_drew1) | exact HB.out))) : w.heap.size ≤ gb113)); clear HO_6; clear HB; have HO_6 := n0_; have HB := n1_; have BK113 := n2_; have GW113 := n3_; have GE113 := n4_; clear n0_ n1_ n2_ n3_ n4_; clear hb hbox hg; have hcz29_0 : w28.cell? ⟨gb113, 0, none⟩ = some (.int .i64 0) := (blk_cell BK113.out 0).trans rfl; have hcz29_1 : w28.cell? ⟨gb113, 1, none⟩ = some (.int .i64 0) := (blk_cell BK113.out 1).trans rfl; have hcz29_2 : w28.cell? ⟨gb113, 2, none⟩ = some (.bool false) := (blk_cell BK113.out 2).trans rfl; have hfz29_0 := blk_frozen BK113.out 0; have hfz29_1 := blk_frozen BK113.out 1; have hfz29_2 := blk_frozen BK113.out 2; have p114 : 0 ≤ (((rd_T84 l1 x36_3).f0) : Int) := of_decide_eq_true (by first | (with_reducible assumption) | assumption); have q114 : ((rd_T84 l1 x36_3).f0) < (x6_3.length : Int) := of_decide_eq_true (by first | (with_reducible assumption) | assumption); obtain ⟨ad114, e114, hx114_0⟩ := Kd.at_int (Kd.R_reads' HO_6.out).2.2 ((rd_T84 l1 x36_3).f0) p114 q114; cases e114; have hn114_0 : ad114.block ≠ gb113 := Kd.own_blk (Kd.R_ne HO_6.out BK113.out (by decide)); have hn114_1 : ad114.block ≠ gb113 := Kd.own_blk (Kd.R_ne HO_6.out BK113.out (by decide)); have hn114_2 : ad114.block ≠ gb113 := Kd.own_blk (Kd.R_ne HO_6.out BK113.out (by decide)); replace hx114_0 := (cell_far (p := ⟨gb113, 0, none⟩) (by first | (rw [add_block]; exact hn114_0) | (show (Addr.add _ _).block ≠ _; rw [add_block]; exact hn114_0) | exact hn114_0) (.int .i64 ((rd_T84 l1 x36_3).f0))).trans hx114_0; replace hx114_0 := (cell_far (p := ⟨gb113, 1, none⟩) (by first | (rw [add_block]; exact hn114_1) | (show (Addr.add _ _).block ≠ _; rw [add_block]; exact hn114_1) | exact hn114_1) (.int .i64 ((rd_T84 l1 x36_3).f1))).trans hx114_0; replace hx114_0 := (cell_far (p := ⟨gb113, 2, none⟩) (by first | (rw [add_block]; exact hn114_2) | (show (Addr.add _ _).block ≠ _; rw [add_block]; exact hn114_2) | exact hn114_2) (.bool ((rd_T84 l1 x36_3).f2))).trans hx114_0; (try have hy114_0 := fun (n_ : Nat) => (show (((((w28.drewN n_).setCell ⟨gb113, 0, none⟩ (.int .i64 ((rd_T84 l1 x36_3).f0))).setCell ⟨gb113, 1, none⟩ (.int .i64 ((rd_T84 l1 x36_3).f1))).setCell ⟨gb113, 2, none⟩ (.bool ((rd_T84 l1 x36_3).f2)))).cell? _ = some _ from hx114_0)); clear hn114_0; clear hn114_1; clear hn114_2; replace p114 := eq_true p114; replace q114 := eq_true q114; have p115 : 0 ≤ (((rd_T84 l1 x36_3).f1) : Int) := of_decide_eq_true (by first | (with_reducible assumption) | assumption); have q115 : ((rd_T84 l1 x36_3).f1) < (x6_3.length : Int) := of_decide_eq_true (by first | (with_reducible assumption) | assumption); obtain ⟨ad115, e115, hx115_0⟩ := Kd.at_int (Kd.R_reads' HO_6.out).2.2 ((rd_T84 l1 x36_3).f1) p115 q115; obtain rfl : ad114 = ad115 := (by injection e115); have hn115_0 : ad114.block ≠ gb113 := Kd.own_blk (Kd.R_ne HO_6.out BK113.out (by decide)); have hn115_1 : ad114.block ≠ gb113 := Kd.own_blk (Kd.R_ne HO_6.out BK113.out (by decide)); have hn115_2 : ad114.block ≠ gb113 := Kd.own_blk (Kd.R_ne HO_6.out BK113.out (by decide)); replace hx115_0 := (cell_far (p := ⟨gb113, 0, none⟩) (by first | (rw [add_block]; exact hn115_0) | (show (Addr.add _ _).block ≠ _; rw [add_block]; exact hn115_0) | exact hn115_0) (.int .i64 ((rd_T84 l1 x36_3).f0))).trans hx115_0; replace hx115_0 := (cell_far (p := ⟨gb113, 1, none⟩) (by first | (rw [add_block]; exact hn115_1) | (show (Addr.add _ _).block ≠ _; rw [add_block]; exact hn115_1) | exact hn115_1) (.int .i64 ((rd_T84 l1 x36_3).f1))).trans hx115_0; replace hx115_0 := (cell_far (p := ⟨gb113, 2, none⟩) (by first | (rw [add_block]; exact hn115_2) | (show (Addr.add _ _).block ≠ _; rw [add_block]; exact hn115_2) | exact hn115_2) (.bool ((rd_T84 l1 x36_3).f2))).trans hx115_0; (try have hy115_0 := fun (n_ : Nat) => (show (((((w28.drewN n_).setCell ⟨gb113, 0, none⟩ (.int .i64 ((rd_T84 l1 x36_3).f0))).setCell ⟨gb113, 1, none⟩ (.int .i64 ((rd_T84 l1 x36_3).f1))).setCell ⟨gb113, 2, none⟩ (.bool ((rd_T84 l1 x36_3).f2)))).cell? _ = some _ from hx115_0)); clear hn115_0; clear hn115_1; clear hn115_2; replace p115 := eq_true p115; replace q115 := eq_true q115) | (go_at_call 71; (with_reducible refine (spec_l1Least.calls (rd x6_3 ((rd_T84 l1 x36_3).f0)) (rd x6_3 ((rd_T84 l1 x36_3).f1)) t116 _ A25.out).mono ?_); rintro e w' ⟨rfl, ⟨nd, rfl⟩⟩; (try first | exact ⟨rfl, _, World.drewN_drewN _ _ _⟩ | exact ⟨rfl, _, Eq.trans (World.drewN_drewN _ _ _) (congrArg (World.drewN _) (Nat.add_assoc _ _ _))⟩); have p117 : 0 ≤ (((rd_T84 l1 x36_3).f0) : Int) := of_decide_eq_true (by first | (with_reducible assumption) | assumption); have q117 : ((rd_T84 l1 x36_3).f0) < (x6_3.length : Int) := of_decide_eq_true (by first | (with_reducible assumption) | assumption); obtain ⟨ad117, e117, hx117_0⟩ := Kd.at_int (Kd.R_reads' HO_6.out).2.2 ((rd_T84 l1 x36_3).f0) p117 q117; obtain rfl : ad114 = ad117 := (by injection e117); have hn117_0 : ad114.block ≠ gb113 := Kd.own_blk (Kd.R_ne HO_6.out BK113.out (by decide)); have hn117_1 : ad114.block ≠ gb113 := Kd.own_blk (Kd.R_ne HO_6.out BK113.out (by decide)); have hn117_2 : ad114.block ≠ gb113 := Kd.own_blk (Kd.R_ne HO_6.out BK113.out (by decide)); replace hx117_0 := (cell_far (p := ⟨gb113, 0, none⟩) (by first | (rw [add_block]; exact hn117_0) | (show (Addr.add _ _).block ≠ _; rw [add_block]; exact hn117_0) | exact hn117_0) (.int .i64 ((rd_T84 l1 x36_3).f0))).trans hx117_0; replace hx117_0 := (cell_far (p := ⟨gb113, 1, none⟩) (by first | (rw [add_block]; exact hn117_1) | (show (Addr.add _ _).block ≠ _; rw [add_block]; exact hn117_1) | exact hn117_1) (.int .i64 ((rd_T84 l1 x36_3).f1))).trans hx117_0; replace hx117_0 := (cell_far (p := ⟨gb113, 2, none⟩) (by first | (rw [add_block]; exact hn117_2) | (show (Addr.add _ _).block ≠ _; rw [add_block]; exact hn117_2) | exact hn117_2) (.bool ((rd_T84 l1 x36_3).f2))).trans hx117_0; (try have hy117_0 := fun (n_ : Nat) => (show (((((w28.drewN n_).setCell ⟨gb113, 0, none⟩ (.int .i64 ((rd_T84 l1 x36_3).f0))).setCell ⟨gb113, 1, none⟩ (.int .i64 ((rd_T84 l1 x36_3).f1))).setCell ⟨gb113, 2, none⟩ (.bool ((rd_T84 l1 x36_3).f2)))).cell? _ = some _ from hx117_0)); clear hn117_0; clear hn117_1; clear hn117_2; replace p117 := eq_true p117; replace q117 := eq_true q117; have p118 : 0 ≤ (((rd_T84 l1 x36_3).f1) : Int) := of_decide_eq_true (by first | (with_reducible assumption) | assumption); have q118 : ((rd_T84 l1 x36_3).f1) < (x6_3.length : Int) := of_decide_eq_true (by first | (with_reducible assumption) | assumption); obtain ⟨ad118, e118, hx118_0⟩ := Kd.at_int (Kd.R_reads' HO_6.out).2.2 ((rd_T84 l1 x36_3).f1) p118 q118; obtain rfl : ad114 = ad118 := (by injection e118); have hn118_0 : ad114.block ≠ gb113 := Kd.own_blk (Kd.R_ne HO_6.out BK113.out (by decide)); have hn118_1 : ad114.block ≠ gb113 := Kd.own_blk (Kd.R_ne HO_6.out BK113.out (by decide)); have hn118_2 : ad114.block ≠ gb113 := Kd.own_blk (Kd.R_ne HO_6.out BK113.out (by decide)); replace hx118_0 := (cell_far (p := ⟨gb113, 0, none⟩) (by first | (rw [add_block]; exact hn118_0) | (show (Addr.add _ _).block ≠ _; rw [add_block]; exact hn118_0) | exact hn118_0) (.int .i64 ((rd_T84 l1 x36_3).f0))).trans hx118_0; replace hx118_0 := (cell_far (p := ⟨gb113, 1, none⟩) (by first | (rw [add_block]; exact hn118_1) | (show (Addr.add _ _).block ≠ _; rw [add_block]; exact hn118_1) | exact hn118_1) (.int .i64 ((rd_T84 l1 x36_3).f1))).trans hx118_0; replace hx118_0 := (cell_far (p := ⟨gb113, 2, none⟩) (by first | (rw [add_block]; exact hn118_2) | (show (Addr.add _ _).block ≠ _; rw [add_block]; exact hn118_2) | exact hn118_2) (.bool ((rd_T84 l1 x36_3).f2))).trans hx118_0; (try have hy118_0 := fun (n_ : Nat) => (show (((((w28.drewN n_).setCell ⟨gb113, 0, none⟩ (.int .i64 ((rd_T84 l1 x36_3).f0))).setCell ⟨gb113, 1, none⟩ (.int .i64 ((rd_T84 l1 x36_3).f1))).setCell ⟨gb113, 2, none⟩ (.bool ((rd_T84 l1 x36_3).f2)))).cell? _ = some _ from hx118_0)); clear hn118_0; clear hn118_1; clear hn118_2; replace p118 := eq_true p118; replace q118 := eq_true q118)))
                                          (try simp only [← hl6_3])
                                          go_roundg k3
                                          case measure => have := HK1.out; have := HK2.out; have := HK3.out; omega
                                          case rel => exact ⟨(x6_3), (x8_3), (wrap64 (x36_3 + 1)), (by first | rfl | (simp; done) | (simp [*]; done)), (by first | rfl | (simp; done) | (simp [*]; done)), H', ⟨by have := HK1.out; have := HK2.out; have := HK3.out; omega⟩, ⟨by (try simp only [hl6_1]); (try simp only [hl6_2]); (try simp only [hl6_3]); (with_reducible repeat (first | apply Kd.R_alloc | apply Kd.R_drewN | apply Kd.R_drew)); exact Kd.R_mono (Kd.R_far (p := ⟨gb113, 2, none⟩) (Kd.R_far (p := ⟨gb113, 1, none⟩) (Kd.R_far (p := ⟨gb113, 0, none⟩) (Kd.R_types HO_6.out BK113.out (by decide)) (fun _ hk => hk.2) (.int .i64 ((rd_T84 l1 x36_3).f0))) (fun _ hk => hk.2) (.int .i64 ((rd_T84 l1 x36_3).f1))) (fun _ hk => hk.2) (.bool ((rd_T84 l1 x36_3).f2))) (fun _ hk => trivial)⟩, ⟨by repeat (first | (with_reducible first | exact HB.out | apply below_alloc | apply pw_below_drewN | apply below_drew1 | refine below_set ?_ GE113.out) | exact HB.out)⟩⟩
                                        · rw [if_neg c27] at H
                                          have c27b0 : ((rd x6_3 ((rd_T84 l1 x36_3).f1)) == t116) = false := beq_eq_false_iff_ne.mpr c27
                                          have c27b1 : ((rd x6_3 ((rd_T84 l1 x36_3).f1)) != t116) = true := bne_iff_ne.mpr c27
                                          obtain ⟨y119, hy119⟩ : ∃ y_ : List Int, y_ = (x6_3.set (((rd_T84 l1 x36_3).f0) : Int).toNat t116) := ⟨_, rfl⟩
                                          replace H : (spec_ClaimGroups.l2 k3 a0 l1 (y119.set (((rd_T84 l1 x36_3).f1) : Int).toNat t116) true l1 (l1.length : Int) (wrap64 (x36_3 + 1))) = some (r1, r2) := by first | (rw [hy119]; with_reducible exact H) | (have H2_ := (Option.bind_some _ _).symm.trans H; rw [hy119]; with_reducible exact H2_) | (have H2_ := (Option.bind_some _ _).symm.trans H; with_reducible exact H2_) | with_reducible exact H | (rw [hy119]; exact H) | exact H
                                          have Ny119 := Aside0.mk hy119
                                          clear hy119
                                          obtain ⟨y120, hy120⟩ : ∃ y_ : List Int, y_ = (y119.set (((rd_T84 l1 x36_3).f1) : Int).toNat t116) := ⟨_, rfl⟩
                                          replace H : (spec_ClaimGroups.l2 k3 a0 l1 y120 true l1 (l1.length : Int) (wrap64 (x36_3 + 1))) = some (r1, r2) := by first | (rw [hy120]; with_reducible exact H) | (have H2_ := (Option.bind_some _ _).symm.trans H; rw [hy120]; with_reducible exact H2_) | (have H2_ := (Option.bind_some _ _).symm.trans H; with_reducible exact H2_) | with_reducible exact H | (rw [hy120]; exact H) | exact H
                                          have Ny120 := Aside0.mk hy120
                                          clear hy120
                                          have H' := Aside0.mk H
                                          clear H
                                          have p112 : 0 ≤ (x36_3 : Int) := of_decide_eq_true (by first | (with_reducible assumption) | assumption)
                                          have q112 : x36_3 < (l1.length : Int) := of_decide_eq_true (by first | (with_reducible assumption) | assumption)
                                          obtain ⟨ad112, e112, hx112_0, hx112_1, hx112_2⟩ := at_T84 HR1.out x36_3 p112 q112
                                          cases e112
                                          replace hx112_0 := (HB.out.cell (World.block_lt_of_cell? w _ hx112_0)).trans hx112_0
                                          replace hx112_1 := (HB.out.cell (World.block_lt_of_cell? w _ hx112_1)).trans hx112_1
                                          replace hx112_2 := (HB.out.cell (World.block_lt_of_cell? w _ hx112_2)).trans hx112_2
                                          replace p112 := eq_true p112
                                          replace q112 := eq_true q112
                                          go_wp2_with (first | ((with_reducible refine gate_dst (N := 10) rfl ?_); refine box_event ?hg (N := 10) ?hd (cs := #[.int .i64 0, .int .i64 0, .bool false]) (t := 84) ?hr ?_; (case hd => rfl); (case hg => rfl); (case hr => first | (go_simp; done) | (go_simp; rfl)); intro gb113 hg w32 hbox hb; have n0_ := Aside0.mk (Kd.R_below (by (with_reducible repeat (first | apply Kd.R_alloc | apply Kd.R_drewN | apply Kd.R_drew)); exact HO_6.out) hb); have n1_ := Aside0.mk (below_step (by repeat (first | (with_reducible first | exact HB.out | apply below_alloc | apply pw_below_drewN | apply below_drew1) | exact HB.out)) hb); have n2_ := Aside0.mk (hbox); have n3_ := Aside0.mk ((by rw [hg]; exact (below_size (by repeat (first | (with_reducible first | exact HB.out | apply below_alloc | apply pw_below_drewN | apply below_drew1) | exact HB.out))) : w.heap.size ≤ gb113)); have n4_ := Aside0.mk ((by rw [hg]; exact (below_size (by repeat (first | (with_reducible first | exact HB.out | apply below_alloc | apply pw_below_drewN | apply below_drew1) | exact HB.out))) : w.heap.size ≤ gb113)); clear HO_6; clear HB; have HO_6 := n0_; have HB := n1_; have BK113 := n2_; have GW113 := n3_; have GE113 := n4_; clear n0_ n1_ n2_ n3_ n4_; clear hb hbox hg; have hcz33_0 : w32.cell? ⟨gb113, 0, none⟩ = some (.int .i64 0) := (blk_cell BK113.out 0).trans rfl; have hcz33_1 : w32.cell? ⟨gb113, 1, none⟩ = some (.int .i64 0) := (blk_cell BK113.out 1).trans rfl; have hcz33_2 : w32.cell? ⟨gb113, 2, none⟩ = some (.bool false) := (blk_cell BK113.out 2).trans rfl; have hfz33_0 := blk_frozen BK113.out 0; have hfz33_1 := blk_frozen BK113.out 1; have hfz33_2 := blk_frozen BK113.out 2) | ((with_reducible refine gate_store (t := 84) (p := 10) rfl ?_); (try (rw [drewN_self w32]; generalize hq_ : World.drewN w32 _ = w32; have n0_ := Aside0.mk (Kd.R_at hq_ HO_6.out); have n1_ := Aside0.mk (blk_at hq_ BK113.out); have n2_ := Aside0.mk (below_at hq_ HB.out); clear hq_ HO_6 BK113 HB; have HO_6 := n0_; have BK113 := n1_; have HB := n2_; clear n0_ n1_ n2_)); refine store_event (t := 84) (p := 10) (v := ?vo_w34) (w1 := (((w32.setCell ⟨gb113, 0, none⟩ (.int .i64 ((rd_T84 l1 x36_3).f0))).setCell ⟨gb113, 1, none⟩ (.int .i64 ((rd_T84 l1 x36_3).f1))).setCell ⟨gb113, 2, none⟩ (.bool ((rd_T84 l1 x36_3).f2)))) ?hg ?ho ?hn ?hr ?_; (case ho => rfl); (case hg => rfl); (case hn => rfl); (case hr => first | (go_simp; done) | (go_simp; rfl)); intro w34 hw; have n0_ : Aside0 (Kd.R (Kd.int .i64) 3 w34 w.heap.size (fun _ => True) (.slice Ao10 x6_3.length co10) x6_3) := ⟨(by rw [hw]; exact (by (with_reducible repeat (first | apply Kd.R_alloc | apply Kd.R_drewN | apply Kd.R_drew)); exact Kd.R_mono (Kd.R_far (p := ⟨gb113, 2, none⟩) (Kd.R_far (p := ⟨gb113, 1, none⟩) (Kd.R_far (p := ⟨gb113, 0, none⟩) (Kd.R_types HO_6.out BK113.out (by decide)) (fun _ hk => hk.2) (.int .i64 ((rd_T84 l1 x36_3).f0))) (fun _ hk => hk.2) (.int .i64 ((rd_T84 l1 x36_3).f1))) (fun _ hk => hk.2) (.bool ((rd_T84 l1 x36_3).f2))) (fun _ hk => trivial)))⟩; have n1_ : Aside0 (w34.heap[gb113]? = some (.cells #[.int .i64 ((rd_T84 l1 x36_3).f0), .int .i64 ((rd_T84 l1 x36_3).f1), .bool ((rd_T84 l1 x36_3).f2)] 84 (0, 0))) := ⟨(by rw [hw]; exact (by (with_reducible repeat (first | refine blk_drewN ?_ _ | refine blk_drew ?_ | refine blk_alloc ?_ _)); refine blk_put (cs := #[.int .i64 ((rd_T84 l1 x36_3).f0), .int .i64 ((rd_T84 l1 x36_3).f1), .bool false]) ?_ 2 _ rfl; (with_reducible repeat (first | refine blk_drewN ?_ _ | refine blk_drew ?_ | refine blk_alloc ?_ _)); refine blk_put (cs := #[.int .i64 ((rd_T84 l1 x36_3).f0), .int .i64 0, .bool false]) ?_ 1 _ rfl; (with_reducible repeat (first | refine blk_drewN ?_ _ | refine blk_drew ?_ | refine blk_alloc ?_ _)); refine blk_put (cs := #[.int .i64 0, .int .i64 0, .bool false]) ?_ 0 _ rfl; (with_reducible repeat (first | refine blk_drewN ?_ _ | refine blk_drew ?_ | refine blk_alloc ?_ _)); exact BK113.out))⟩; have n2_ : Aside0 (Below w.heap.size w w34) := ⟨(by rw [hw]; exact (by repeat (first | (with_reducible first | exact HB.out | apply below_alloc | apply pw_below_drewN | apply below_drew1 | refine below_set ?_ GE113.out) | exact HB.out)))⟩; clear hw; clear HO_6; clear BK113; clear HB; have HO_6 := n0_; have BK113 := n1_; have HB := n2_; clear n0_ n1_ n2_; have hcz35_0 : w34.cell? ⟨gb113, 0, none⟩ = some (.int .i64 ((rd_T84 l1 x36_3).f0)) := (blk_cell BK113.out 0).trans rfl; have hcz35_1 : w34.cell? ⟨gb113, 1, none⟩ = some (.int .i64 ((rd_T84 l1 x36_3).f1)) := (blk_cell BK113.out 1).trans rfl; have hcz35_2 : w34.cell? ⟨gb113, 2, none⟩ = some (.bool ((rd_T84 l1 x36_3).f2)) := (blk_cell BK113.out 2).trans rfl; have hfz35_0 := blk_frozen BK113.out 0; have hfz35_1 := blk_frozen BK113.out 1; have hfz35_2 := blk_frozen BK113.out 2; have p114 : 0 ≤ (((rd_T84 l1 x36_3).f0) : Int) := of_decide_eq_true (by first | (with_reducible assumption) | assumption); have q114 : ((rd_T84 l1 x36_3).f0) < (x6_3.length : Int) := of_decide_eq_true (by first | (with_reducible assumption) | assumption); obtain ⟨ad114, e114, hx114_0⟩ := Kd.at_int (Kd.R_reads' HO_6.out).2.2 ((rd_T84 l1 x36_3).f0) p114 q114; cases e114; replace p114 := eq_true p114; replace q114 := eq_true q114; have p115 : 0 ≤ (((rd_T84 l1 x36_3).f1) : Int) := of_decide_eq_true (by first | (with_reducible assumption) | assumption); have q115 : ((rd_T84 l1 x36_3).f1) < (x6_3.length : Int) := of_decide_eq_true (by first | (with_reducible assumption) | assumption); obtain ⟨ad115, e115, hx115_0⟩ := Kd.at_int (Kd.R_reads' HO_6.out).2.2 ((rd_T84 l1 x36_3).f1) p115 q115; obtain rfl : ad114 = ad115 := (by injection e115); replace p115 := eq_true p115; replace q115 := eq_true q115) | (go_at_call 71; (with_reducible refine (spec_l1Least.calls (rd x6_3 ((rd_T84 l1 x36_3).f0)) (rd x6_3 ((rd_T84 l1 x36_3).f1)) t116 _ A25.out).mono ?_); rintro e w' ⟨rfl, ⟨nd, rfl⟩⟩; (try first | exact ⟨rfl, _, World.drewN_drewN _ _ _⟩ | exact ⟨rfl, _, Eq.trans (World.drewN_drewN _ _ _) (congrArg (World.drewN _) (Nat.add_assoc _ _ _))⟩); have p117 : 0 ≤ (((rd_T84 l1 x36_3).f0) : Int) := of_decide_eq_true (by first | (with_reducible assumption) | assumption); have q117 : ((rd_T84 l1 x36_3).f0) < (x6_3.length : Int) := of_decide_eq_true (by first | (with_reducible assumption) | assumption); obtain ⟨ad117, e117, hx117_0⟩ := Kd.at_int (Kd.R_reads' HO_6.out).2.2 ((rd_T84 l1 x36_3).f0) p117 q117; obtain rfl : ad114 = ad117 := (by injection e117); replace p117 := eq_true p117; replace q117 := eq_true q117; have p118 : 0 ≤ (((rd_T84 l1 x36_3).f1) : Int) := of_decide_eq_true (by first | (with_reducible assumption) | assumption); have q118 : ((rd_T84 l1 x36_3).f1) < (x6_3.length : Int) := of_decide_eq_true (by first | (with_reducible assumption) | assumption); obtain ⟨ad118, e118, hx118_0⟩ := Kd.at_int (Kd.R_reads' HO_6.out).2.2 ((rd_T84 l1 x36_3).f1) p118 q118; obtain rfl : ad114 = ad118 := (by injection e118); replace p118 := eq_true p118; replace q118 := eq_true q118; have p30 : 0 ≤ (((rd_T84 l1 x36_3).f0) : Int) := of_decide_eq_true (by first | (with_reducible assumption) | assumption); have q30 : (((rd_T84 l1 x36_3).f0) : Int) < ((x6_3.length : Int) : Int) := of_decide_eq_true (by first | (with_reducible assumption) | assumption); obtain ⟨go30, co30, eo30, gb30, gl30, cl30, HG30⟩ := Kd.R_form HO_6.out (by omega); (first | cases eo30 | (injection eo30 with ea_ en_ ec_; (first | subst ea_ | (injection ea_ with ea_; subst ea_)); subst ec_; clear en_)); have GB30 := Aside0.mk gb30; have GG30 := Aside0.mk HG30; clear gb30 gl30 HG30; (first | simp only [add_plain] at hx114_0 | skip); (first | simp only [add_plain] at hx115_0 | skip); (first | simp only [add_plain] at hx117_0 | skip); (first | simp only [add_plain] at hx118_0 | skip); obtain ⟨hx30_0, hf30_0⟩ := Kd.R_celln 0 HO_6.out (((rd_T84 l1 x36_3).f0) : Int) p30 q30; replace p30 := eq_true p30; replace q30 := eq_true q30; obtain ⟨hy36_, hz36_⟩ := Kd.R_celln 0 HO_6.out (((rd_T84 l1 x36_3).f0) : Int) (of_decide_eq_true (by first | (with_reducible assumption) | assumption)) (of_decide_eq_true (by first | (with_reducible assumption) | assumption)); have HP36 := Kd.R_putg HO_6.out (((rd_T84 l1 x36_3).f0) : Int) t116) | ((with_reducible refine gate_store (t := 3) (p := 71) rfl ?_); (try (rw [drewN_self w34]; generalize hq_ : World.drewN w34 _ = w34; have n0_ := Aside0.mk (Kd.R_at hq_ HO_6.out); have n1_ := Aside0.mk (blk_at hq_ BK113.out); have n2_ := Aside0.mk (below_at hq_ HB.out); clear hq_ HO_6 BK113 HB; have HO_6 := n0_; have BK113 := n1_; have HB := n2_; clear n0_ n1_ n2_; (try (obtain ⟨hy36_, hz36_⟩ := Kd.R_celln 0 HO_6.out (((rd_T84 l1 x36_3).f0) : Int) (of_decide_eq_true (by first | (with_reducible assumption) | assumption)) (of_decide_eq_true (by first | (with_reducible assumption) | assumption)))); (try (have HP36 := Kd.R_putg HO_6.out (((rd_T84 l1 x36_3).f0) : Int) t116)))); refine store_event (t := 3) (p := 71) (v := ?vo_w37) (w1 := (w34.setCell ⟨go30, (((rd_T84 l1 x36_3).f0) : Int).toNat, none⟩ (.int .i64 t116))) ?hg ?ho ?hn ?hr ?_; (case ho => rfl); (case hg => rfl); (case hn => rfl); (case hr => first | (go_simp; done) | (go_simp; rfl)); intro w37 hw; have hg : w34.grownBy w37 (some go30) := (by rw [hw]; exact HP36.2); have hp_ : Kd.R (Kd.int .i64) 3 w37 w.heap.size (fun _ => True) (.slice (some ⟨go30, 0, none⟩) x6_3.length co10) y119 := (by rw [hw, Ny119.out]; exact HP36.1); clear HP36; have n0_ := Aside0.mk (hp_); have n1_ := Aside0.mk (blk_grown (g := gb113) (o := .cells #[.int .i64 ((rd_T84 l1 x36_3).f0), .int .i64 ((rd_T84 l1 x36_3).f1), .bool ((rd_T84 l1 x36_3).f2)] 84 (0, 0)) (by (with_reducible repeat (first | refine blk_drewN ?_ _ | refine blk_drew ?_ | refine blk_alloc ?_ _)); exact BK113.out) hg (Kd.R_ne HO_6.out BK113.out (by decide))); have n2_ := Aside0.mk ((by rw [hw]; exact below_set (HB.out) GB30.out : Below w.heap.size w w37)); clear HO_6; clear BK113; clear HB; have HO_6 := n0_; have BK113 := n1_; have HB := n2_; clear n0_ n1_ n2_; clear hg hw hp_; have hcz38_0 : w37.cell? ⟨gb113, 0, none⟩ = some (.int .i64 ((rd_T84 l1 x36_3).f0)) := (blk_cell BK113.out 0).trans rfl; have hcz38_1 : w37.cell? ⟨gb113, 1, none⟩ = some (.int .i64 ((rd_T84 l1 x36_3).f1)) := (blk_cell BK113.out 1).trans rfl; have hcz38_2 : w37.cell? ⟨gb113, 2, none⟩ = some (.bool ((rd_T84 l1 x36_3).f2)) := (blk_cell BK113.out 2).trans rfl; have hfz38_0 := blk_frozen BK113.out 0; have hfz38_1 := blk_frozen BK113.out 1; have hfz38_2 := blk_frozen BK113.out 2; have p31 : 0 ≤ (((rd_T84 l1 x36_3).f1) : Int) := of_decide_eq_true (by first | (with_reducible assumption) | assumption); have q31 : (((rd_T84 l1 x36_3).f1) : Int) < ((x6_3.length : Int) : Int) := of_decide_eq_true (by first | (with_reducible assumption) | assumption); obtain ⟨hx31_0, hf31_0⟩ := Kd.R_celln 0 HO_6.out (((rd_T84 l1 x36_3).f1) : Int) p31 q31; replace p31 := eq_true p31; replace q31 := eq_true q31; obtain ⟨hy39_, hz39_⟩ := Kd.R_celln 0 HO_6.out (((rd_T84 l1 x36_3).f1) : Int) (of_decide_eq_true (by first | (with_reducible assumption) | assumption)) (of_decide_eq_true (by first | (with_reducible assumption) | assumption)); have HP39 := Kd.R_putg HO_6.out (((rd_T84 l1 x36_3).f1) : Int) t116) | ((with_reducible refine gate_store (t := 3) (p := 76) rfl ?_); (try (rw [drewN_self w37]; generalize hq_ : World.drewN w37 _ = w37; have n0_ := Aside0.mk (Kd.R_at hq_ HO_6.out); have n1_ := Aside0.mk (blk_at hq_ BK113.out); have n2_ := Aside0.mk (below_at hq_ HB.out); clear hq_ HO_6 BK113 HB; have HO_6 := n0_; have BK113 := n1_; have HB := n2_; clear n0_ n1_ n2_; (try (obtain ⟨hy39_, hz39_⟩ := Kd.R_celln 0 HO_6.out (((rd_T84 l1 x36_3).f1) : Int) (of_decide_eq_true (by first | (with_reducible assumption) | assumption)) (of_decide_eq_true (by first | (with_reducible assumption) | assumption)))); (try (have HP39 := Kd.R_putg HO_6.out (((rd_T84 l1 x36_3).f1) : Int) t116)))); refine store_event (t := 3) (p := 76) (v := ?vo_w40) (w1 := (w37.setCell ⟨go30, (((rd_T84 l1 x36_3).f1) : Int).toNat, none⟩ (.int .i64 t116))) ?hg ?ho ?hn ?hr ?_; (case ho => rfl); (case hg => rfl); (case hn => rfl); (case hr => first | (go_simp; done) | (go_simp; rfl)); intro w40 hw; have hg : w37.grownBy w40 (some go30) := (by rw [hw]; exact HP39.2); have hp_ : Kd.R (Kd.int .i64) 3 w40 w.heap.size (fun _ => True) (.slice (some ⟨go30, 0, none⟩) x6_3.length co10) y120 := (by rw [hw, Ny120.out]; exact HP39.1); clear HP39; have n0_ := Aside0.mk (hp_); have n1_ := Aside0.mk (blk_grown (g := gb113) (o := .cells #[.int .i64 ((rd_T84 l1 x36_3).f0), .int .i64 ((rd_T84 l1 x36_3).f1), .bool ((rd_T84 l1 x36_3).f2)] 84 (0, 0)) (by (with_reducible repeat (first | refine blk_drewN ?_ _ | refine blk_drew ?_ | refine blk_alloc ?_ _)); exact BK113.out) hg (Kd.R_ne HO_6.out BK113.out (by decide))); have n2_ := Aside0.mk ((by rw [hw]; exact below_set (HB.out) GB30.out : Below w.heap.size w w40)); clear HO_6; clear BK113; clear HB; have HO_6 := n0_; have BK113 := n1_; have HB := n2_; clear n0_ n1_ n2_; clear hg hw hp_))
                                          repeat (go_quiet (first | ((with_reducible refine gate_dst (N := 10) rfl ?_); refine box_event ?hg (N := 10) ?hd (cs := #[.int .i64 0, .int .i64 0, .bool false]) (t := 84) ?hr ?_; (case hd => rfl); (case hg => rfl); (case hr => first | (go_simp; done) | (go_simp; rfl)); intro gb113 hg w32 hbox hb; have n0_ := Aside0.mk (Kd.R_below (by (with_reducible repeat (first | apply Kd.R_alloc | apply Kd.R_drewN | apply Kd.R_drew)); exact HO_6.out) hb); have n1_ := Aside0.mk (below_step (by repeat (first | (with_reducible first | exact HB.out | apply below_alloc | apply pw_below_drewN | apply below_drew1) | exact HB.out)) hb); have n2_ := Aside0.mk (hbox); have n3_ := Aside0.mk ((by rw [hg]; exact (below_size (by repeat (first | (with_reducible first | exact HB.out | apply below_alloc | apply pw_below_drewN | apply below_drew1) | exact HB.out))) : w.heap.size ≤ gb113)); have n4_ := Aside0.mk ((by rw [hg]; exact (below_size (by repeat (first | (with_reducible first | exact HB.out | apply below_alloc | apply pw_below_drewN | apply below_drew1) | exact HB.out))) : w.heap.size ≤ gb113)); clear HO_6; clear HB; have HO_6 := n0_; have HB := n1_; have BK113 := n2_; have GW113 := n3_; have GE113 := n4_; clear n0_ n1_ n2_ n3_ n4_; clear hb hbox hg; have hcz33_0 : w32.cell? ⟨gb113, 0, none⟩ = some (.int .i64 0) := (blk_cell BK113.out 0).trans rfl; have hcz33_1 : w32.cell? ⟨gb113, 1, none⟩ = some (.int .i64 0) := (blk_cell BK113.out 1).trans rfl; have hcz33_2 : w32.cell? ⟨gb113, 2, none⟩ = some (.bool false) := (blk_cell BK113.out 2).trans rfl; have hfz33_0 := blk_frozen BK113.out 0; have hfz33_1 := blk_frozen BK113.out 1; have hfz33_2 := blk_frozen BK113.out 2) | ((with_reducible refine gate_store (t := 84) (p := 10) rfl ?_); (try (rw [drewN_self w32]; generalize hq_ : World.drewN w32 _ = w32; have n0_ := Aside0.mk (Kd.R_at hq_ HO_6.out); have n1_ := Aside0.mk (blk_at hq_ BK113.out); have n2_ := Aside0.mk (below_at hq_ HB.out); clear hq_ HO_6 BK113 HB; have HO_6 := n0_; have BK113 := n1_; have HB := n2_; clear n0_ n1_ n2_)); refine store_event (t := 84) (p := 10) (v := ?vo_w34) (w1 := (((w32.setCell ⟨gb113, 0, none⟩ (.int .i64 ((rd_T84 l1 x36_3).f0))).setCell ⟨gb113, 1, none⟩ (.int .i64 ((rd_T84 l1 x36_3).f1))).setCell ⟨gb113, 2, none⟩ (.bool ((rd_T84 l1 x36_3).f2)))) ?hg ?ho ?hn ?hr ?_; (case ho => rfl); (case hg => rfl); (case hn => rfl); (case hr => first | (go_simp; done) | (go_simp; rfl)); intro w34 hw; have n0_ : Aside0 (Kd.R (Kd.int .i64) 3 w34 w.heap.size (fun _ => True) (.slice Ao10 x6_3.length co10) x6_3) := ⟨(by rw [hw]; exact (by (with_reducible repeat (first | apply Kd.R_alloc | apply Kd.R_drewN | apply Kd.R_drew)); exact Kd.R_mono (Kd.R_far (p := ⟨gb113, 2, none⟩) (Kd.R_far (p := ⟨gb113, 1, none⟩) (Kd.R_far (p := ⟨gb113, 0, none⟩) (Kd.R_types HO_6.out BK113.out (by decide)) (fun _ hk => hk.2) (.int .i64 ((rd_T84 l1 x36_3).f0))) (fun _ hk => hk.2) (.int .i64 ((rd_T84 l1 x36_3).f1))) (fun _ hk => hk.2) (.bool ((rd_T84 l1 x36_3).f2))) (fun _ hk => trivial)))⟩; have n1_ : Aside0 (w34.heap[gb113]? = some (.cells #[.int .i64 ((rd_T84 l1 x36_3).f0), .int .i64 ((rd_T84 l1 x36_3).f1), .bool ((rd_T84 l1 x36_3).f2)] 84 (0, 0))) := ⟨(by rw [hw]; exact (by (with_reducible repeat (first | refine blk_drewN ?_ _ | refine blk_drew ?_ | refine blk_alloc ?_ _)); refine blk_put (cs := #[.int .i64 ((rd_T84 l1 x36_3).f0), .int .i64 ((rd_T84 l1 x36_3).f1), .bool false]) ?_ 2 _ rfl; (with_reducible repeat (first | refine blk_drewN ?_ _ | refine blk_drew ?_ | refine blk_alloc ?_ _)); refine blk_put (cs := #[.int .i64 ((rd_T84 l1 x36_3).f0), .int .i64 0, .bool false]) ?_ 1 _ rfl; (with_reducible repeat (first | refine blk_drewN ?_ _ | refine blk_drew ?_ | refine blk_alloc ?_ _)); refine blk_put (cs := #[.int .i64 0, .int .i64 0, .bool false]) ?_ 0 _ rfl; (with_reducible repeat (first | refine blk_drewN ?_ _ | refine blk_drew ?_ | refine blk_alloc ?_ _)); exact BK113.out))⟩; have n2_ : Aside0 (Below w.heap.size w w34) := ⟨(by rw [hw]; exact (by repeat (first | (with_reducible first | exact HB.out | apply below_alloc | apply pw_below_drewN | apply below_drew1 | refine below_set ?_ GE113.out) | exact HB.out)))⟩; clear hw; clear HO_6; clear BK113; clear HB; have HO_6 := n0_; have BK113 := n1_; have HB := n2_; clear n0_ n1_ n2_; have hcz35_0 : w34.cell? ⟨gb113, 0, none⟩ = some (.int .i64 ((rd_T84 l1 x36_3).f0)) := (blk_cell BK113.out 0).trans rfl; have hcz35_1 : w34.cell? ⟨gb113, 1, none⟩ = some (.int .i64 ((rd_T84 l1 x36_3).f1)) := (blk_cell BK113.out 1).trans rfl; have hcz35_2 : w34.cell? ⟨gb113, 2, none⟩ = some (.bool ((rd_T84 l1 x36_3).f2)) := (blk_cell BK113.out 2).trans rfl; have hfz35_0 := blk_frozen BK113.out 0; have hfz35_1 := blk_frozen BK113.out 1; have hfz35_2 := blk_frozen BK113.out 2; have p114 : 0 ≤ (((rd_T84 l1 x36_3).f0) : Int) := of_decide_eq_true (by first | (with_reducible assumption) | assumption); have q114 : ((rd_T84 l1 x36_3).f0) < (x6_3.length : Int) := of_decide_eq_true (by first | (with_reducible assumption) | assumption); obtain ⟨ad114, e114, hx114_0⟩ := Kd.at_int (Kd.R_reads' HO_6.out).2.2 ((rd_T84 l1 x36_3).f0) p114 q114; cases e114; replace p114 := eq_true p114; replace q114 := eq_true q114; have p115 : 0 ≤ (((rd_T84 l1 x36_3).f1) : Int) := of_decide_eq_true (by first | (with_reducible assumption) | assumption); have q115 : ((rd_T84 l1 x36_3).f1) < (x6_3.length : Int) := of_decide_eq_true (by first | (with_reducible assumption) | assumption); obtain ⟨ad115, e115, hx115_0⟩ := Kd.at_int (Kd.R_reads' HO_6.out).2.2 ((rd_T84 l1 x36_3).f1) p115 q115; obtain rfl : ad114 = ad115 := (by injection e115); replace p115 := eq_true p115; replace q115 := eq_true q115) | (go_at_call 71; (with_reducible refine (spec_l1Least.calls (rd x6_3 ((rd_T84 l1 x36_3).f0)) (rd x6_3 ((rd_T84 l1 x36_3).f1)) t116 _ A25.out).mono ?_); rintro e w' ⟨rfl, ⟨nd, rfl⟩⟩; (try first | exact ⟨rfl, _, World.drewN_drewN _ _ _⟩ | exact ⟨rfl, _, Eq.trans (World.drewN_drewN _ _ _) (congrArg (World.drewN _) (Nat.add_assoc _ _ _))⟩); have p117 : 0 ≤ (((rd_T84 l1 x36_3).f0) : Int) := of_decide_eq_true (by first | (with_reducible assumption) | assumption); have q117 : ((rd_T84 l1 x36_3).f0) < (x6_3.length : Int) := of_decide_eq_true (by first | (with_reducible assumption) | assumption); obtain ⟨ad117, e117, hx117_0⟩ := Kd.at_int (Kd.R_reads' HO_6.out).2.2 ((rd_T84 l1 x36_3).f0) p117 q117; obtain rfl : ad114 = ad117 := (by injection e117); replace p117 := eq_true p117; replace q117 := eq_true q117; have p118 : 0 ≤ (((rd_T84 l1 x36_3).f1) : Int) := of_decide_eq_true (by first | (with_reducible assumption) | assumption); have q118 : ((rd_T84 l1 x36_3).f1) < (x6_3.length : Int) := of_decide_eq_true (by first | (with_reducible assumption) | assumption); obtain ⟨ad118, e118, hx118_0⟩ := Kd.at_int (Kd.R_reads' HO_6.out).2.2 ((rd_T84 l1 x36_3).f1) p118 q118; obtain rfl : ad114 = ad118 := (by injection e118); replace p118 := eq_true p118; replace q118 := eq_true q118; have p30 : 0 ≤ (((rd_T84 l1 x36_3).f0) : Int) := of_decide_eq_true (by first | (with_reducible assumption) | assumption); have q30 : (((rd_T84 l1 x36_3).f0) : Int) < ((x6_3.length : Int) : Int) := of_decide_eq_true (by first | (with_reducible assumption) | assumption); obtain ⟨go30, co30, eo30, gb30, gl30, cl30, HG30⟩ := Kd.R_form HO_6.out (by omega); (first | cases eo30 | (injection eo30 with ea_ en_ ec_; (first | subst ea_ | (injection ea_ with ea_; subst ea_)); subst ec_; clear en_)); have GB30 := Aside0.mk gb30; have GG30 := Aside0.mk HG30; clear gb30 gl30 HG30; (first | simp only [add_plain] at hx114_0 | skip); (first | simp only [add_plain] at hx115_0 | skip); (first | simp only [add_plain] at hx117_0 | skip); (first | simp only [add_plain] at hx118_0 | skip); obtain ⟨hx30_0, hf30_0⟩ := Kd.R_celln 0 HO_6.out (((rd_T84 l1 x36_3).f0) : Int) p30 q30; replace p30 := eq_true p30; replace q30 := eq_true q30; obtain ⟨hy36_, hz36_⟩ := Kd.R_celln 0 HO_6.out (((rd_T84 l1 x36_3).f0) : Int) (of_decide_eq_true (by first | (with_reducible assumption) | assumption)) (of_decide_eq_true (by first | (with_reducible assumption) | assumption)); have HP36 := Kd.R_putg HO_6.out (((rd_T84 l1 x36_3).f0) : Int) t116) | ((with_reducible refine gate_store (t := 3) (p := 71) rfl ?_); (try (rw [drewN_self w34]; generalize hq_ : World.drewN w34 _ = w34; have n0_ := Aside0.mk (Kd.R_at hq_ HO_6.out); have n1_ := Aside0.mk (blk_at hq_ BK113.out); have n2_ := Aside0.mk (below_at hq_ HB.out); clear hq_ HO_6 BK113 HB; have HO_6 := n0_; have BK113 := n1_; have HB := n2_; clear n0_ n1_ n2_; (try (obtain ⟨hy36_, hz36_⟩ := Kd.R_celln 0 HO_6.out (((rd_T84 l1 x36_3).f0) : Int) (of_decide_eq_true (by first | (with_reducible assumption) | assumption)) (of_decide_eq_true (by first | (with_reducible assumption) | assumption)))); (try (have HP36 := Kd.R_putg HO_6.out (((rd_T84 l1 x36_3).f0) : Int) t116)))); refine store_event (t := 3) (p := 71) (v := ?vo_w37) (w1 := (w34.setCell ⟨go30, (((rd_T84 l1 x36_3).f0) : Int).toNat, none⟩ (.int .i64 t116))) ?hg ?ho ?hn ?hr ?_; (case ho => rfl); (case hg => rfl); (case hn => rfl); (case hr => first | (go_simp; done) | (go_simp; rfl)); intro w37 hw; have hg : w34.grownBy w37 (some go30) := (by rw [hw]; exact HP36.2); have hp_ : Kd.R (Kd.int .i64) 3 w37 w.heap.size (fun _ => True) (.slice (some ⟨go30, 0, none⟩) x6_3.length co10) y119 := (by rw [hw, Ny119.out]; exact HP36.1); clear HP36; have n0_ := Aside0.mk (hp_); have n1_ := Aside0.mk (blk_grown (g := gb113) (o := .cells #[.int .i64 ((rd_T84 l1 x36_3).f0), .int .i64 ((rd_T84 l1 x36_3).f1), .bool ((rd_T84 l1 x36_3).f2)] 84 (0, 0)) (by (with_reducible repeat (first | refine blk_drewN ?_ _ | refine blk_drew ?_ | refine blk_alloc ?_ _)); exact BK113.out) hg (Kd.R_ne HO_6.out BK113.out (by decide))); have n2_ := Aside0.mk ((by rw [hw]; exact below_set (HB.out) GB30.out : Below w.heap.size w w37)); clear HO_6; clear BK113; clear HB; have HO_6 := n0_; have BK113 := n1_; have HB := n2_; clear n0_ n1_ n2_; clear hg hw hp_; have hcz38_0 : w37.cell? ⟨gb113, 0, none⟩ = some (.int .i64 ((rd_T84 l1 x36_3).f0)) := (blk_cell BK113.out 0).trans rfl; have hcz38_1 : w37.cell? ⟨gb113, 1, none⟩ = some (.int .i64 ((rd_T84 l1 x36_3).f1)) := (blk_cell BK113.out 1).trans rfl; have hcz38_2 : w37.cell? ⟨gb113, 2, none⟩ = some (.bool ((rd_T84 l1 x36_3).f2)) := (blk_cell BK113.out 2).trans rfl; have hfz38_0 := blk_frozen BK113.out 0; have hfz38_1 := blk_frozen BK113.out 1; have hfz38_2 := blk_frozen BK113.out 2; have p31 : 0 ≤ (((rd_T84 l1 x36_3).f1) : Int) := of_decide_eq_true (by first | (with_reducible assumption) | assumption); have q31 : (((rd_T84 l1 x36_3).f1) : Int) < ((x6_3.length : Int) : Int) := of_decide_eq_true (by first | (with_reducible assumption) | assumption); obtain ⟨hx31_0, hf31_0⟩ := Kd.R_celln 0 HO_6.out (((rd_T84 l1 x36_3).f1) : Int) p31 q31; replace p31 := eq_true p31; replace q31 := eq_true q31; obtain ⟨hy39_, hz39_⟩ := Kd.R_celln 0 HO_6.out (((rd_T84 l1 x36_3).f1) : Int) (of_decide_eq_true (by first | (with_reducible assumption) | assumption)) (of_decide_eq_true (by first | (with_reducible assumption) | assumption)); have HP39 := Kd.R_putg HO_6.out (((rd_T84 l1 x36_3).f1) : Int) t116) | ((with_reducible refine gate_store (t := 3) (p := 76) rfl ?_); (try (rw [drewN_self w37]; generalize hq_ : World.drewN w37 _ = w37; have n0_ := Aside0.mk (Kd.R_at hq_ HO_6.out); have n1_ := Aside0.mk (blk_at hq_ BK113.out); have n2_ := Aside0.mk (below_at hq_ HB.out); clear hq_ HO_6 BK113 HB; have HO_6 := n0_; have BK113 := n1_; have HB := n2_; clear n0_ n1_ n2_; (try (obtain ⟨hy39_, hz39_⟩ := Kd.R_celln 0 HO_6.out (((rd_T84 l1 x36_3).f1) : Int) (of_decide_eq_true (by first | (with_reducible assumption) | assumption)) (of_decide_eq_true (by first | (with_reducible assumption) | assumption)))); (try (have HP39 := Kd.R_putg HO_6.out (((rd_T84 l1 x36_3).f1) : Int) t116)))); refine store_event (t := 3) (p := 76) (v := ?vo_w40) (w1 := (w37.setCell ⟨go30, (((rd_T84 l1 x36_3).f1) : Int).toNat, none⟩ (.int .i64 t116))) ?hg ?ho ?hn ?hr ?_; (case ho => rfl); (case hg => rfl); (case hn => rfl); (case hr => first | (go_simp; done) | (go_simp; rfl)); intro w40 hw; have hg : w37.grownBy w40 (some go30) := (by rw [hw]; exact HP39.2); have hp_ : Kd.R (Kd.int .i64) 3 w40 w.heap.size (fun _ => True) (.slice (some ⟨go30, 0, none⟩) x6_3.length co10) y120 := (by rw [hw, Ny120.out]; exact HP39.1); clear HP39; have n0_ := Aside0.mk (hp_); have n1_ := Aside0.mk (blk_grown (g := gb113) (o := .cells #[.int .i64 ((rd_T84 l1 x36_3).f0), .int .i64 ((rd_T84 l1 x36_3).f1), .bool ((rd_T84 l1 x36_3).f2)] 84 (0, 0)) (by (with_reducible repeat (first | refine blk_drewN ?_ _ | refine blk_drew ?_ | refine blk_alloc ?_ _)); exact BK113.out) hg (Kd.R_ne HO_6.out BK113.out (by decide))); have n2_ := Aside0.mk ((by rw [hw]; exact below_set (HB.out) GB30.out : Below w.heap.size w w40)); clear HO_6; clear BK113; clear HB; have HO_6 := n0_; have BK113 := n1_; have HB := n2_; clear n0_ n1_ n2_; clear hg hw hp_)); try go_wp2_with (first | ((with_reducible refine gate_dst (N := 10) rfl ?_); refine box_event ?hg (N := 10) ?hd (cs := #[.int .i64 0, .int .i64 0, .bool false]) (t := 84) ?hr ?_; (case hd => rfl); (case hg => rfl); (case hr => first | (go_simp; done) | (go_simp; rfl)); intro gb113 hg w32 hbox hb; have n0_ := Aside0.mk (Kd.R_below (by (with_reducible repeat (first | apply Kd.R_alloc | apply Kd.R_drewN | apply Kd.R_drew)); exact HO_6.out) hb); have n1_ := Aside0.mk (below_step (by repeat (first | (with_reducible first | exact HB.out | apply below_alloc | apply pw_below_drewN | apply below_drew1) | exact HB.out)) hb); have n2_ := Aside0.mk (hbox); have n3_ := Aside0.mk ((by rw [hg]; exact (below_size (by repeat (first | (with_reducible first | exact HB.out | apply below_alloc | apply pw_below_drewN | apply below_drew1) | exact HB.out))) : w.heap.size ≤ gb113)); have n4_ := Aside0.mk ((by rw [hg]; exact (below_size (by repeat (first | (with_reducible first | exact HB.out | apply below_alloc | apply pw_below_drewN | apply below_drew1) | exact HB.out))) : w.heap.size ≤ gb113)); clear HO_6; clear HB; have HO_6 := n0_; have HB := n1_; have BK113 := n2_; have GW113 := n3_; have GE113 := n4_; clear n0_ n1_ n2_ n3_ n4_; clear hb hbox hg; have hcz33_0 : w32.cell? ⟨gb113, 0, none⟩ = some (.int .i64 0) := (blk_cell BK113.out 0).trans rfl; have hcz33_1 : w32.cell? ⟨gb113, 1, none⟩ = some (.int .i64 0) := (blk_cell BK113.out 1).trans rfl; have hcz33_2 : w32.cell? ⟨gb113, 2, none⟩ = some (.bool false) := (blk_cell BK113.out 2).trans rfl; have hfz33_0 := blk_frozen BK113.out 0; have hfz33_1 := blk_frozen BK113.out 1; have hfz33_2 := blk_frozen BK113.out 2) | ((with_reducible refine gate_store (t := 84) (p := 10) rfl ?_); (try (rw [drewN_self w32]; generalize hq_ : World.drewN w32 _ = w32; have n0_ := Aside0.mk (Kd.R_at hq_ HO_6.out); have n1_ := Aside0.mk (blk_at hq_ BK113.out); have n2_ := Aside0.mk (below_at hq_ HB.out); clear hq_ HO_6 BK113 HB; have HO_6 := n0_; have BK113 := n1_; have HB := n2_; clear n0_ n1_ n2_)); refine store_event (t := 84) (p := 10) (v := ?vo_w34) (w1 := (((w32.setCell ⟨gb113, 0, none⟩ (.int .i64 ((rd_T84 l1 x36_3).f0))).setCell ⟨gb113, 1, none⟩ (.int .i64 ((rd_T84 l1 x36_3).f1))).setCell ⟨gb113, 2, none⟩ (.bool ((rd_T84 l1 x36_3).f2)))) ?hg ?ho ?hn ?hr ?_; (case ho => rfl); (case hg => rfl); (case hn => rfl); (case hr => first | (go_simp; done) | (go_simp; rfl)); intro w34 hw; have n0_ : Aside0 (Kd.R (Kd.int .i64) 3 w34 w.heap.size (fun _ => True) (.slice Ao10 x6_3.length co10) x6_3) := ⟨(by rw [hw]; exact (by (with_reducible repeat (first | apply Kd.R_alloc | apply Kd.R_drewN | apply Kd.R_drew)); exact Kd.R_mono (Kd.R_far (p := ⟨gb113, 2, none⟩) (Kd.R_far (p := ⟨gb113, 1, none⟩) (Kd.R_far (p := ⟨gb113, 0, none⟩) (Kd.R_types HO_6.out BK113.out (by decide)) (fun _ hk => hk.2) (.int .i64 ((rd_T84 l1 x36_3).f0))) (fun _ hk => hk.2) (.int .i64 ((rd_T84 l1 x36_3).f1))) (fun _ hk => hk.2) (.bool ((rd_T84 l1 x36_3).f2))) (fun _ hk => trivial)))⟩; have n1_ : Aside0 (w34.heap[gb113]? = some (.cells #[.int .i64 ((rd_T84 l1 x36_3).f0), .int .i64 ((rd_T84 l1 x36_3).f1), .bool ((rd_T84 l1 x36_3).f2)] 84 (0, 0))) := ⟨(by rw [hw]; exact (by (with_reducible repeat (first | refine blk_drewN ?_ _ | refine blk_drew ?_ | refine blk_alloc ?_ _)); refine blk_put (cs := #[.int .i64 ((rd_T84 l1 x36_3).f0), .int .i64 ((rd_T84 l1 x36_3).f1), .bool false]) ?_ 2 _ rfl; (with_reducible repeat (first | refine blk_drewN ?_ _ | refine blk_drew ?_ | refine blk_alloc ?_ _)); refine blk_put (cs := #[.int .i64 ((rd_T84 l1 x36_3).f0), .int .i64 0, .bool false]) ?_ 1 _ rfl; (with_reducible repeat (first | refine blk_drewN ?_ _ | refine blk_drew ?_ | refine blk_alloc ?_ _)); refine blk_put (cs := #[.int .i64 0, .int .i64 0, .bool false]) ?_ 0 _ rfl; (with_reducible repeat (first | refine blk_drewN ?_ _ | refine blk_drew ?_ | refine blk_alloc ?_ _)); exact BK113.out))⟩; have n2_ : Aside0 (Below w.heap.size w w34) := ⟨(by rw [hw]; exact (by repeat (first | (with_reducible first | exact HB.out | apply below_alloc | apply pw_below_drewN | apply below_drew1 | refine below_set ?_ GE113.out) | exact HB.out)))⟩; clear hw; clear HO_6; clear BK113; clear HB; have HO_6 := n0_; have BK113 := n1_; have HB := n2_; clear n0_ n1_ n2_; have hcz35_0 : w34.cell? ⟨gb113, 0, none⟩ = some (.int .i64 ((rd_T84 l1 x36_3).f0)) := (blk_cell BK113.out 0).trans rfl; have hcz35_1 : w34.cell? ⟨gb113, 1, none⟩ = some (.int .i64 ((rd_T84 l1 x36_3).f1)) := (blk_cell BK113.out 1).trans rfl; have hcz35_2 : w34.cell? ⟨gb113, 2, none⟩ = some (.bool ((rd_T84 l1 x36_3).f2)) := (blk_cell BK113.out 2).trans rfl; have hfz35_0 := blk_frozen BK113.out 0; have hfz35_1 := blk_frozen BK113.out 1; have hfz35_2 := blk_frozen BK113.out 2; have p114 : 0 ≤ (((rd_T84 l1 x36_3).f0) : Int) := of_decide_eq_true (by first | (with_reducible assumption) | assumption); have q114 : ((rd_T84 l1 x36_3).f0) < (x6_3.length : Int) := of_decide_eq_true (by first | (with_reducible assumption) | assumption); obtain ⟨ad114, e114, hx114_0⟩ := Kd.at_int (Kd.R_reads' HO_6.out).2.2 ((rd_T84 l1 x36_3).f0) p114 q114; cases e114; replace p114 := eq_true p114; replace q114 := eq_true q114; have p115 : 0 ≤ (((rd_T84 l1 x36_3).f1) : Int) := of_decide_eq_true (by first | (with_reducible assumption) | assumption); have q115 : ((rd_T84 l1 x36_3).f1) < (x6_3.length : Int) := of_decide_eq_true (by first | (with_reducible assumption) | assumption); obtain ⟨ad115, e115, hx115_0⟩ := Kd.at_int (Kd.R_reads' HO_6.out).2.2 ((rd_T84 l1 x36_3).f1) p115 q115; obtain rfl : ad114 = ad115 := (by injection e115); replace p115 := eq_true p115; replace q115 := eq_true q115) | (go_at_call 71; (with_reducible refine (spec_l1Least.calls (rd x6_3 ((rd_T84 l1 x36_3).f0)) (rd x6_3 ((rd_T84 l1 x36_3).f1)) t116 _ A25.out).mono ?_); rintro e w' ⟨rfl, ⟨nd, rfl⟩⟩; (try first | exact ⟨rfl, _, World.drewN_drewN _ _ _⟩ | exact ⟨rfl, _, Eq.trans (World.drewN_drewN _ _ _) (congrArg (World.drewN _) (Nat.add_assoc _ _ _))⟩); have p117 : 0 ≤ (((rd_T84 l1 x36_3).f0) : Int) := of_decide_eq_true (by first | (with_reducible assumption) | assumption); have q117 : ((rd_T84 l1 x36_3).f0) < (x6_3.length : Int) := of_decide_eq_true (by first | (with_reducible assumption) | assumption); obtain ⟨ad117, e117, hx117_0⟩ := Kd.at_int (Kd.R_reads' HO_6.out).2.2 ((rd_T84 l1 x36_3).f0) p117 q117; obtain rfl : ad114 = ad117 := (by injection e117); replace p117 := eq_true p117; replace q117 := eq_true q117; have p118 : 0 ≤ (((rd_T84 l1 x36_3).f1) : Int) := of_decide_eq_true (by first | (with_reducible assumption) | assumption); have q118 : ((rd_T84 l1 x36_3).f1) < (x6_3.length : Int) := of_decide_eq_true (by first | (with_reducible assumption) | assumption); obtain ⟨ad118, e118, hx118_0⟩ := Kd.at_int (Kd.R_reads' HO_6.out).2.2 ((rd_T84 l1 x36_3).f1) p118 q118; obtain rfl : ad114 = ad118 := (by injection e118); replace p118 := eq_true p118; replace q118 := eq_true q118; have p30 : 0 ≤ (((rd_T84 l1 x36_3).f0) : Int) := of_decide_eq_true (by first | (with_reducible assumption) | assumption); have q30 : (((rd_T84 l1 x36_3).f0) : Int) < ((x6_3.length : Int) : Int) := of_decide_eq_true (by first | (with_reducible assumption) | assumption); obtain ⟨go30, co30, eo30, gb30, gl30, cl30, HG30⟩ := Kd.R_form HO_6.out (by omega); (first | cases eo30 | (injection eo30 with ea_ en_ ec_; (first | subst ea_ | (injection ea_ with ea_; subst ea_)); subst ec_; clear en_)); have GB30 := Aside0.mk gb30; have GG30 := Aside0.mk HG30; clear gb30 gl30 HG30; (first | simp only [add_plain] at hx114_0 | skip); (first | simp only [add_plain] at hx115_0 | skip); (first | simp only [add_plain] at hx117_0 | skip); (first | simp only [add_plain] at hx118_0 | skip); obtain ⟨hx30_0, hf30_0⟩ := Kd.R_celln 0 HO_6.out (((rd_T84 l1 x36_3).f0) : Int) p30 q30; replace p30 := eq_true p30; replace q30 := eq_true q30; obtain ⟨hy36_, hz36_⟩ := Kd.R_celln 0 HO_6.out (((rd_T84 l1 x36_3).f0) : Int) (of_decide_eq_true (by first | (with_reducible assumption) | assumption)) (of_decide_eq_true (by first | (with_reducible assumption) | assumption)); have HP36 := Kd.R_putg HO_6.out (((rd_T84 l1 x36_3).f0) : Int) t116) | ((with_reducible refine gate_store (t := 3) (p := 71) rfl ?_); (try (rw [drewN_self w34]; generalize hq_ : World.drewN w34 _ = w34; have n0_ := Aside0.mk (Kd.R_at hq_ HO_6.out); have n1_ := Aside0.mk (blk_at hq_ BK113.out); have n2_ := Aside0.mk (below_at hq_ HB.out); clear hq_ HO_6 BK113 HB; have HO_6 := n0_; have BK113 := n1_; have HB := n2_; clear n0_ n1_ n2_; (try (obtain ⟨hy36_, hz36_⟩ := Kd.R_celln 0 HO_6.out (((rd_T84 l1 x36_3).f0) : Int) (of_decide_eq_true (by first | (with_reducible assumption) | assumption)) (of_decide_eq_true (by first | (with_reducible assumption) | assumption)))); (try (have HP36 := Kd.R_putg HO_6.out (((rd_T84 l1 x36_3).f0) : Int) t116)))); refine store_event (t := 3) (p := 71) (v := ?vo_w37) (w1 := (w34.setCell ⟨go30, (((rd_T84 l1 x36_3).f0) : Int).toNat, none⟩ (.int .i64 t116))) ?hg ?ho ?hn ?hr ?_; (case ho => rfl); (case hg => rfl); (case hn => rfl); (case hr => first | (go_simp; done) | (go_simp; rfl)); intro w37 hw; have hg : w34.grownBy w37 (some go30) := (by rw [hw]; exact HP36.2); have hp_ : Kd.R (Kd.int .i64) 3 w37 w.heap.size (fun _ => True) (.slice (some ⟨go30, 0, none⟩) x6_3.length co10) y119 := (by rw [hw, Ny119.out]; exact HP36.1); clear HP36; have n0_ := Aside0.mk (hp_); have n1_ := Aside0.mk (blk_grown (g := gb113) (o := .cells #[.int .i64 ((rd_T84 l1 x36_3).f0), .int .i64 ((rd_T84 l1 x36_3).f1), .bool ((rd_T84 l1 x36_3).f2)] 84 (0, 0)) (by (with_reducible repeat (first | refine blk_drewN ?_ _ | refine blk_drew ?_ | refine blk_alloc ?_ _)); exact BK113.out) hg (Kd.R_ne HO_6.out BK113.out (by decide))); have n2_ := Aside0.mk ((by rw [hw]; exact below_set (HB.out) GB30.out : Below w.heap.size w w37)); clear HO_6; clear BK113; clear HB; have HO_6 := n0_; have BK113 := n1_; have HB := n2_; clear n0_ n1_ n2_; clear hg hw hp_; have hcz38_0 : w37.cell? ⟨gb113, 0, none⟩ = some (.int .i64 ((rd_T84 l1 x36_3).f0)) := (blk_cell BK113.out 0).trans rfl; have hcz38_1 : w37.cell? ⟨gb113, 1, none⟩ = some (.int .i64 ((rd_T84 l1 x36_3).f1)) := (blk_cell BK113.out 1).trans rfl; have hcz38_2 : w37.cell? ⟨gb113, 2, none⟩ = some (.bool ((rd_T84 l1 x36_3).f2)) := (blk_cell BK113.out 2).trans rfl; have hfz38_0 := blk_frozen BK113.out 0; have hfz38_1 := blk_frozen BK113.out 1; have hfz38_2 := blk_frozen BK113.out 2; have p31 : 0 ≤ (((rd_T84 l1 x36_3).f1) : Int) := of_decide_eq_true (by first | (with_reducible assumption) | assumption); have q31 : (((rd_T84 l1 x36_3).f1) : Int) < ((x6_3.length : Int) : Int) := of_decide_eq_true (by first | (with_reducible assumption) | assumption); obtain ⟨hx31_0, hf31_0⟩ := Kd.R_celln 0 HO_6.out (((rd_T84 l1 x36_3).f1) : Int) p31 q31; replace p31 := eq_true p31; replace q31 := eq_true q31; obtain ⟨hy39_, hz39_⟩ := Kd.R_celln 0 HO_6.out (((rd_T84 l1 x36_3).f1) : Int) (of_decide_eq_true (by first | (with_reducible assumption) | assumption)) (of_decide_eq_true (by first | (with_reducible assumption) | assumption)); have HP39 := Kd.R_putg HO_6.out (((rd_T84 l1 x36_3).f1) : Int) t116) | ((with_reducible refine gate_store (t := 3) (p := 76) rfl ?_); (try (rw [drewN_self w37]; generalize hq_ : World.drewN w37 _ = w37; have n0_ := Aside0.mk (Kd.R_at hq_ HO_6.out); have n1_ := Aside0.mk (blk_at hq_ BK113.out); have n2_ := Aside0.mk (below_at hq_ HB.out); clear hq_ HO_6 BK113 HB; have HO_6 := n0_; have BK113 := n1_; have HB := n2_; clear n0_ n1_ n2_; (try (obtain ⟨hy39_, hz39_⟩ := Kd.R_celln 0 HO_6.out (((rd_T84 l1 x36_3).f1) : Int) (of_decide_eq_true (by first | (with_reducible assumption) | assumption)) (of_decide_eq_true (by first | (with_reducible assumption) | assumption)))); (try (have HP39 := Kd.R_putg HO_6.out (((rd_T84 l1 x36_3).f1) : Int) t116)))); refine store_event (t := 3) (p := 76) (v := ?vo_w40) (w1 := (w37.setCell ⟨go30, (((rd_T84 l1 x36_3).f1) : Int).toNat, none⟩ (.int .i64 t116))) ?hg ?ho ?hn ?hr ?_; (case ho => rfl); (case hg => rfl); (case hn => rfl); (case hr => first | (go_simp; done) | (go_simp; rfl)); intro w40 hw; have hg : w37.grownBy w40 (some go30) := (by rw [hw]; exact HP39.2); have hp_ : Kd.R (Kd.int .i64) 3 w40 w.heap.size (fun _ => True) (.slice (some ⟨go30, 0, none⟩) x6_3.length co10) y120 := (by rw [hw, Ny120.out]; exact HP39.1); clear HP39; have n0_ := Aside0.mk (hp_); have n1_ := Aside0.mk (blk_grown (g := gb113) (o := .cells #[.int .i64 ((rd_T84 l1 x36_3).f0), .int .i64 ((rd_T84 l1 x36_3).f1), .bool ((rd_T84 l1 x36_3).f2)] 84 (0, 0)) (by (with_reducible repeat (first | refine blk_drewN ?_ _ | refine blk_drew ?_ | refine blk_alloc ?_ _)); exact BK113.out) hg (Kd.R_ne HO_6.out BK113.out (by decide))); have n2_ := Aside0.mk ((by rw [hw]; exact below_set (HB.out) GB30.out : Below w.heap.size w w40)); clear HO_6; clear BK113; clear HB; have HO_6 := n0_; have BK113 := n1_; have HB := n2_; clear n0_ n1_ n2_; clear hg hw hp_)))
                                          (try simp only [← hl6_3])
                                          go_roundg k3
                                          case measure => have := HK1.out; have := HK2.out; have := HK3.out; omega
                                          case rel => exact ⟨(y120), (true), (wrap64 (x36_3 + 1)), (by first | rfl | (simp; done) | (simp [*]; done)), (by first | rfl | (simp; done) | (simp [*]; done)), H', ⟨by have := HK1.out; have := HK2.out; have := HK3.out; omega⟩, ⟨by (try simp only [hl6_1]); (try simp only [hl6_2]); (try simp only [hl6_3]); (with_reducible repeat (first | apply Kd.R_alloc | apply Kd.R_drewN | apply Kd.R_drew)); exact HO_6.out⟩, ⟨by repeat (first | (with_reducible first | exact HB.out | apply below_alloc | apply pw_below_drewN | apply below_drew1 | refine below_set ?_ GE113.out) | exact HB.out)⟩⟩
                                      · rw [if_neg c26] at H
                                        have c26b0 : ((rd x6_3 ((rd_T84 l1 x36_3).f0)) == t116) = false := beq_eq_false_iff_ne.mpr c26
                                        have c26b1 : ((rd x6_3 ((rd_T84 l1 x36_3).f0)) != t116) = true := bne_iff_ne.mpr c26
                                        obtain ⟨y121, hy121⟩ : ∃ y_ : List Int, y_ = (x6_3.set (((rd_T84 l1 x36_3).f0) : Int).toNat t116) := ⟨_, rfl⟩
                                        replace H : (spec_ClaimGroups.l2 k3 a0 l1 (y121.set (((rd_T84 l1 x36_3).f1) : Int).toNat t116) true l1 (l1.length : Int) (wrap64 (x36_3 + 1))) = some (r1, r2) := by first | (rw [hy121]; with_reducible exact H) | (have H2_ := (Option.bind_some _ _).symm.trans H; rw [hy121]; with_reducible exact H2_) | (have H2_ := (Option.bind_some _ _).symm.trans H; with_reducible exact H2_) | with_reducible exact H | (rw [hy121]; exact H) | exact H
                                        have Ny121 := Aside0.mk hy121
                                        clear hy121
                                        obtain ⟨y122, hy122⟩ : ∃ y_ : List Int, y_ = (y121.set (((rd_T84 l1 x36_3).f1) : Int).toNat t116) := ⟨_, rfl⟩
                                        replace H : (spec_ClaimGroups.l2 k3 a0 l1 y122 true l1 (l1.length : Int) (wrap64 (x36_3 + 1))) = some (r1, r2) := by first | (rw [hy122]; with_reducible exact H) | (have H2_ := (Option.bind_some _ _).symm.trans H; rw [hy122]; with_reducible exact H2_) | (have H2_ := (Option.bind_some _ _).symm.trans H; with_reducible exact H2_) | with_reducible exact H | (rw [hy122]; exact H) | exact H
                                        have Ny122 := Aside0.mk hy122
                                        clear hy122
                                        have H' := Aside0.mk H
                                        clear H
                                        have p112 : 0 ≤ (x36_3 : Int) := of_decide_eq_true (by first | (with_reducible assumption) | assumption)
                                        have q112 : x36_3 < (l1.length : Int) := of_decide_eq_true (by first | (with_reducible assumption) | assumption)
                                        obtain ⟨ad112, e112, hx112_0, hx112_1, hx112_2⟩ := at_T84 HR1.out x36_3 p112 q112
                                        cases e112
                                        replace hx112_0 := (HB.out.cell (World.block_lt_of_cell? w _ hx112_0)).trans hx112_0
                                        replace hx112_1 := (HB.out.cell (World.block_lt_of_cell? w _ hx112_1)).trans hx112_1
                                        replace hx112_2 := (HB.out.cell (World.block_lt_of_cell? w _ hx112_2)).trans hx112_2
                                        replace p112 := eq_true p112
                                        replace q112 := eq_true q112
                                        go_wp2_with (first | ((with_reducible refine gate_dst (N := 10) rfl ?_); refine box_event ?hg (N := 10) ?hd (cs := #[.int .i64 0, .int .i64 0, .bool false]) (t := 84) ?hr ?_; (case hd => rfl); (case hg => rfl); (case hr => first | (go_simp; done) | (go_simp; rfl)); intro gb113 hg w43 hbox hb; have n0_ := Aside0.mk (Kd.R_below (by (with_reducible repeat (first | apply Kd.R_alloc | apply Kd.R_drewN | apply Kd.R_drew)); exact HO_6.out) hb); have n1_ := Aside0.mk (below_step (by repeat (first | (with_reducible first | exact HB.out | apply below_alloc | apply pw_below_drewN | apply below_drew1) | exact HB.out)) hb); have n2_ := Aside0.mk (hbox); have n3_ := Aside0.mk ((by rw [hg]; exact (below_size (by repeat (first | (with_reducible first | exact HB.out | apply below_alloc | apply pw_below_drewN | apply below_drew1) | exact HB.out))) : w.heap.size ≤ gb113)); have n4_ := Aside0.mk ((by rw [hg]; exact (below_size (by repeat (first | (with_reducible first | exact HB.out | apply below_alloc | apply pw_below_drewN | apply below_drew1) | exact HB.out))) : w.heap.size ≤ gb113)); clear HO_6; clear HB; have HO_6 := n0_; have HB := n1_; have BK113 := n2_; have GW113 := n3_; have GE113 := n4_; clear n0_ n1_ n2_ n3_ n4_; clear hb hbox hg; have hcz44_0 : w43.cell? ⟨gb113, 0, none⟩ = some (.int .i64 0) := (blk_cell BK113.out 0).trans rfl; have hcz44_1 : w43.cell? ⟨gb113, 1, none⟩ = some (.int .i64 0) := (blk_cell BK113.out 1).trans rfl; have hcz44_2 : w43.cell? ⟨gb113, 2, none⟩ = some (.bool false) := (blk_cell BK113.out 2).trans rfl; have hfz44_0 := blk_frozen BK113.out 0; have hfz44_1 := blk_frozen BK113.out 1; have hfz44_2 := blk_frozen BK113.out 2) | ((with_reducible refine gate_store (t := 84) (p := 10) rfl ?_); (try (rw [drewN_self w43]; generalize hq_ : World.drewN w43 _ = w43; have n0_ := Aside0.mk (Kd.R_at hq_ HO_6.out); have n1_ := Aside0.mk (blk_at hq_ BK113.out); have n2_ := Aside0.mk (below_at hq_ HB.out); clear hq_ HO_6 BK113 HB; have HO_6 := n0_; have BK113 := n1_; have HB := n2_; clear n0_ n1_ n2_)); refine store_event (t := 84) (p := 10) (v := ?vo_w45) (w1 := (((w43.setCell ⟨gb113, 0, none⟩ (.int .i64 ((rd_T84 l1 x36_3).f0))).setCell ⟨gb113, 1, none⟩ (.int .i64 ((rd_T84 l1 x36_3).f1))).setCell ⟨gb113, 2, none⟩ (.bool ((rd_T84 l1 x36_3).f2)))) ?hg ?ho ?hn ?hr ?_; (case ho => rfl); (case hg => rfl); (case hn => rfl); (case hr => first | (go_simp; done) | (go_simp; rfl)); intro w45 hw; have n0_ : Aside0 (Kd.R (Kd.int .i64) 3 w45 w.heap.size (fun _ => True) (.slice Ao10 x6_3.length co10) x6_3) := ⟨(by rw [hw]; exact (by (with_reducible repeat (first | apply Kd.R_alloc | apply Kd.R_drewN | apply Kd.R_drew)); exact Kd.R_mono (Kd.R_far (p := ⟨gb113, 2, none⟩) (Kd.R_far (p := ⟨gb113, 1, none⟩) (Kd.R_far (p := ⟨gb113, 0, none⟩) (Kd.R_types HO_6.out BK113.out (by decide)) (fun _ hk => hk.2) (.int .i64 ((rd_T84 l1 x36_3).f0))) (fun _ hk => hk.2) (.int .i64 ((rd_T84 l1 x36_3).f1))) (fun _ hk => hk.2) (.bool ((rd_T84 l1 x36_3).f2))) (fun _ hk => trivial)))⟩; have n1_ : Aside0 (w45.heap[gb113]? = some (.cells #[.int .i64 ((rd_T84 l1 x36_3).f0), .int .i64 ((rd_T84 l1 x36_3).f1), .bool ((rd_T84 l1 x36_3).f2)] 84 (0, 0))) := ⟨(by rw [hw]; exact (by (with_reducible repeat (first | refine blk_drewN ?_ _ | refine blk_drew ?_ | refine blk_alloc ?_ _)); refine blk_put (cs := #[.int .i64 ((rd_T84 l1 x36_3).f0), .int .i64 ((rd_T84 l1 x36_3).f1), .bool false]) ?_ 2 _ rfl; (with_reducible repeat (first | refine blk_drewN ?_ _ | refine blk_drew ?_ | refine blk_alloc ?_ _)); refine blk_put (cs := #[.int .i64 ((rd_T84 l1 x36_3).f0), .int .i64 0, .bool false]) ?_ 1 _ rfl; (with_reducible repeat (first | refine blk_drewN ?_ _ | refine blk_drew ?_ | refine blk_alloc ?_ _)); refine blk_put (cs := #[.int .i64 0, .int .i64 0, .bool false]) ?_ 0 _ rfl; (with_reducible repeat (first | refine blk_drewN ?_ _ | refine blk_drew ?_ | refine blk_alloc ?_ _)); exact BK113.out))⟩; have n2_ : Aside0 (Below w.heap.size w w45) := ⟨(by rw [hw]; exact (by repeat (first | (with_reducible first | exact HB.out | apply below_alloc | apply pw_below_drewN | apply below_drew1 | refine below_set ?_ GE113.out) | exact HB.out)))⟩; clear hw; clear HO_6; clear BK113; clear HB; have HO_6 := n0_; have BK113 := n1_; have HB := n2_; clear n0_ n1_ n2_; have hcz46_0 : w45.cell? ⟨gb113, 0, none⟩ = some (.int .i64 ((rd_T84 l1 x36_3).f0)) := (blk_cell BK113.out 0).trans rfl; have hcz46_1 : w45.cell? ⟨gb113, 1, none⟩ = some (.int .i64 ((rd_T84 l1 x36_3).f1)) := (blk_cell BK113.out 1).trans rfl; have hcz46_2 : w45.cell? ⟨gb113, 2, none⟩ = some (.bool ((rd_T84 l1 x36_3).f2)) := (blk_cell BK113.out 2).trans rfl; have hfz46_0 := blk_frozen BK113.out 0; have hfz46_1 := blk_frozen BK113.out 1; have hfz46_2 := blk_frozen BK113.out 2; have p114 : 0 ≤ (((rd_T84 l1 x36_3).f0) : Int) := of_decide_eq_true (by first | (with_reducible assumption) | assumption); have q114 : ((rd_T84 l1 x36_3).f0) < (x6_3.length : Int) := of_decide_eq_true (by first | (with_reducible assumption) | assumption); obtain ⟨ad114, e114, hx114_0⟩ := Kd.at_int (Kd.R_reads' HO_6.out).2.2 ((rd_T84 l1 x36_3).f0) p114 q114; cases e114; replace p114 := eq_true p114; replace q114 := eq_true q114; have p115 : 0 ≤ (((rd_T84 l1 x36_3).f1) : Int) := of_decide_eq_true (by first | (with_reducible assumption) | assumption); have q115 : ((rd_T84 l1 x36_3).f1) < (x6_3.length : Int) := of_decide_eq_true (by first | (with_reducible assumption) | assumption); obtain ⟨ad115, e115, hx115_0⟩ := Kd.at_int (Kd.R_reads' HO_6.out).2.2 ((rd_T84 l1 x36_3).f1) p115 q115; obtain rfl : ad114 = ad115 := (by injection e115); replace p115 := eq_true p115; replace q115 := eq_true q115) | (go_at_call 71; (with_reducible refine (spec_l1Least.calls (rd x6_3 ((rd_T84 l1 x36_3).f0)) (rd x6_3 ((rd_T84 l1 x36_3).f1)) t116 _ A25.out).mono ?_); rintro e w' ⟨rfl, ⟨nd, rfl⟩⟩; (try first | exact ⟨rfl, _, World.drewN_drewN _ _ _⟩ | exact ⟨rfl, _, Eq.trans (World.drewN_drewN _ _ _) (congrArg (World.drewN _) (Nat.add_assoc _ _ _))⟩); have p117 : 0 ≤ (((rd_T84 l1 x36_3).f0) : Int) := of_decide_eq_true (by first | (with_reducible assumption) | assumption); have q117 : ((rd_T84 l1 x36_3).f0) < (x6_3.length : Int) := of_decide_eq_true (by first | (with_reducible assumption) | assumption); obtain ⟨ad117, e117, hx117_0⟩ := Kd.at_int (Kd.R_reads' HO_6.out).2.2 ((rd_T84 l1 x36_3).f0) p117 q117; obtain rfl : ad114 = ad117 := (by injection e117); replace p117 := eq_true p117; replace q117 := eq_true q117; have p41 : 0 ≤ (((rd_T84 l1 x36_3).f0) : Int) := of_decide_eq_true (by first | (with_reducible assumption) | assumption); have q41 : (((rd_T84 l1 x36_3).f0) : Int) < ((x6_3.length : Int) : Int) := of_decide_eq_true (by first | (with_reducible assumption) | assumption); obtain ⟨go41, co41, eo41, gb41, gl41, cl41, HG41⟩ := Kd.R_form HO_6.out (by omega); (first | cases eo41 | (injection eo41 with ea_ en_ ec_; (first | subst ea_ | (injection ea_ with ea_; subst ea_)); subst ec_; clear en_)); have GB41 := Aside0.mk gb41; have GG41 := Aside0.mk HG41; clear gb41 gl41 HG41; (first | simp only [add_plain] at hx114_0 | skip); (first | simp only [add_plain] at hx115_0 | skip); (first | simp only [add_plain] at hx117_0 | skip); obtain ⟨hx41_0, hf41_0⟩ := Kd.R_celln 0 HO_6.out (((rd_T84 l1 x36_3).f0) : Int) p41 q41; replace p41 := eq_true p41; replace q41 := eq_true q41; obtain ⟨hy47_, hz47_⟩ := Kd.R_celln 0 HO_6.out (((rd_T84 l1 x36_3).f0) : Int) (of_decide_eq_true (by first | (with_reducible assumption) | assumption)) (of_decide_eq_true (by first | (with_reducible assumption) | assumption)); have HP47 := Kd.R_putg HO_6.out (((rd_T84 l1 x36_3).f0) : Int) t116) | ((with_reducible refine gate_store (t := 3) (p := 71) rfl ?_); (try (rw [drewN_self w45]; generalize hq_ : World.drewN w45 _ = w45; have n0_ := Aside0.mk (Kd.R_at hq_ HO_6.out); have n1_ := Aside0.mk (blk_at hq_ BK113.out); have n2_ := Aside0.mk (below_at hq_ HB.out); clear hq_ HO_6 BK113 HB; have HO_6 := n0_; have BK113 := n1_; have HB := n2_; clear n0_ n1_ n2_; (try (obtain ⟨hy47_, hz47_⟩ := Kd.R_celln 0 HO_6.out (((rd_T84 l1 x36_3).f0) : Int) (of_decide_eq_true (by first | (with_reducible assumption) | assumption)) (of_decide_eq_true (by first | (with_reducible assumption) | assumption)))); (try (have HP47 := Kd.R_putg HO_6.out (((rd_T84 l1 x36_3).f0) : Int) t116)))); refine store_event (t := 3) (p := 71) (v := ?vo_w48) (w1 := (w45.setCell ⟨go41, (((rd_T84 l1 x36_3).f0) : Int).toNat, none⟩ (.int .i64 t116))) ?hg ?ho ?hn ?hr ?_; (case ho => rfl); (case hg => rfl); (case hn => rfl); (case hr => first | (go_simp; done) | (go_simp; rfl)); intro w48 hw; have hg : w45.grownBy w48 (some go41) := (by rw [hw]; exact HP47.2); have hp_ : Kd.R (Kd.int .i64) 3 w48 w.heap.size (fun _ => True) (.slice (some ⟨go41, 0, none⟩) x6_3.length co10) y121 := (by rw [hw, Ny121.out]; exact HP47.1); clear HP47; have n0_ := Aside0.mk (hp_); have n1_ := Aside0.mk (blk_grown (g := gb113) (o := .cells #[.int .i64 ((rd_T84 l1 x36_3).f0), .int .i64 ((rd_T84 l1 x36_3).f1), .bool ((rd_T84 l1 x36_3).f2)] 84 (0, 0)) (by (with_reducible repeat (first | refine blk_drewN ?_ _ | refine blk_drew ?_ | refine blk_alloc ?_ _)); exact BK113.out) hg (Kd.R_ne HO_6.out BK113.out (by decide))); have n2_ := Aside0.mk ((by rw [hw]; exact below_set (HB.out) GB41.out : Below w.heap.size w w48)); clear HO_6; clear BK113; clear HB; have HO_6 := n0_; have BK113 := n1_; have HB := n2_; clear n0_ n1_ n2_; clear hg hw hp_; have hcz49_0 : w48.cell? ⟨gb113, 0, none⟩ = some (.int .i64 ((rd_T84 l1 x36_3).f0)) := (blk_cell BK113.out 0).trans rfl; have hcz49_1 : w48.cell? ⟨gb113, 1, none⟩ = some (.int .i64 ((rd_T84 l1 x36_3).f1)) := (blk_cell BK113.out 1).trans rfl; have hcz49_2 : w48.cell? ⟨gb113, 2, none⟩ = some (.bool ((rd_T84 l1 x36_3).f2)) := (blk_cell BK113.out 2).trans rfl; have hfz49_0 := blk_frozen BK113.out 0; have hfz49_1 := blk_frozen BK113.out 1; have hfz49_2 := blk_frozen BK113.out 2; have p42 : 0 ≤ (((rd_T84 l1 x36_3).f1) : Int) := of_decide_eq_true (by first | (with_reducible assumption) | assumption); have q42 : (((rd_T84 l1 x36_3).f1) : Int) < ((x6_3.length : Int) : Int) := of_decide_eq_true (by first | (with_reducible assumption) | assumption); obtain ⟨hx42_0, hf42_0⟩ := Kd.R_celln 0 HO_6.out (((rd_T84 l1 x36_3).f1) : Int) p42 q42; replace p42 := eq_true p42; replace q42 := eq_true q42; obtain ⟨hy50_, hz50_⟩ := Kd.R_celln 0 HO_6.out (((rd_T84 l1 x36_3).f1) : Int) (of_decide_eq_true (by first | (with_reducible assumption) | assumption)) (of_decide_eq_true (by first | (with_reducible assumption) | assumption)); have HP50 := Kd.R_putg HO_6.out (((rd_T84 l1 x36_3).f1) : Int) t116) | ((with_reducible refine gate_store (t := 3) (p := 76) rfl ?_); (try (rw [drewN_self w48]; generalize hq_ : World.drewN w48 _ = w48; have n0_ := Aside0.mk (Kd.R_at hq_ HO_6.out); have n1_ := Aside0.mk (blk_at hq_ BK113.out); have n2_ := Aside0.mk (below_at hq_ HB.out); clear hq_ HO_6 BK113 HB; have HO_6 := n0_; have BK113 := n1_; have HB := n2_; clear n0_ n1_ n2_; (try (obtain ⟨hy50_, hz50_⟩ := Kd.R_celln 0 HO_6.out (((rd_T84 l1 x36_3).f1) : Int) (of_decide_eq_true (by first | (with_reducible assumption) | assumption)) (of_decide_eq_true (by first | (with_reducible assumption) | assumption)))); (try (have HP50 := Kd.R_putg HO_6.out (((rd_T84 l1 x36_3).f1) : Int) t116)))); refine store_event (t := 3) (p := 76) (v := ?vo_w51) (w1 := (w48.setCell ⟨go41, (((rd_T84 l1 x36_3).f1) : Int).toNat, none⟩ (.int .i64 t116))) ?hg ?ho ?hn ?hr ?_; (case ho => rfl); (case hg => rfl); (case hn => rfl); (case hr => first | (go_simp; done) | (go_simp; rfl)); intro w51 hw; have hg : w48.grownBy w51 (some go41) := (by rw [hw]; exact HP50.2); have hp_ : Kd.R (Kd.int .i64) 3 w51 w.heap.size (fun _ => True) (.slice (some ⟨go41, 0, none⟩) x6_3.length co10) y122 := (by rw [hw, Ny122.out]; exact HP50.1); clear HP50; have n0_ := Aside0.mk (hp_); have n1_ := Aside0.mk (blk_grown (g := gb113) (o := .cells #[.int .i64 ((rd_T84 l1 x36_3).f0), .int .i64 ((rd_T84 l1 x36_3).f1), .bool ((rd_T84 l1 x36_3).f2)] 84 (0, 0)) (by (with_reducible repeat (first | refine blk_drewN ?_ _ | refine blk_drew ?_ | refine blk_alloc ?_ _)); exact BK113.out) hg (Kd.R_ne HO_6.out BK113.out (by decide))); have n2_ := Aside0.mk ((by rw [hw]; exact below_set (HB.out) GB41.out : Below w.heap.size w w51)); clear HO_6; clear BK113; clear HB; have HO_6 := n0_; have BK113 := n1_; have HB := n2_; clear n0_ n1_ n2_; clear hg hw hp_))
                                        repeat (go_quiet (first | ((with_reducible refine gate_dst (N := 10) rfl ?_); refine box_event ?hg (N := 10) ?hd (cs := #[.int .i64 0, .int .i64 0, .bool false]) (t := 84) ?hr ?_; (case hd => rfl); (case hg => rfl); (case hr => first | (go_simp; done) | (go_simp; rfl)); intro gb113 hg w43 hbox hb; have n0_ := Aside0.mk (Kd.R_below (by (with_reducible repeat (first | apply Kd.R_alloc | apply Kd.R_drewN | apply Kd.R_drew)); exact HO_6.out) hb); have n1_ := Aside0.mk (below_step (by repeat (first | (with_reducible first | exact HB.out | apply below_alloc | apply pw_below_drewN | apply below_drew1) | exact HB.out)) hb); have n2_ := Aside0.mk (hbox); have n3_ := Aside0.mk ((by rw [hg]; exact (below_size (by repeat (first | (with_reducible first | exact HB.out | apply below_alloc | apply pw_below_drewN | apply below_drew1) | exact HB.out))) : w.heap.size ≤ gb113)); have n4_ := Aside0.mk ((by rw [hg]; exact (below_size (by repeat (first | (with_reducible first | exact HB.out | apply below_alloc | apply pw_below_drewN | apply below_drew1) | exact HB.out))) : w.heap.size ≤ gb113)); clear HO_6; clear HB; have HO_6 := n0_; have HB := n1_; have BK113 := n2_; have GW113 := n3_; have GE113 := n4_; clear n0_ n1_ n2_ n3_ n4_; clear hb hbox hg; have hcz44_0 : w43.cell? ⟨gb113, 0, none⟩ = some (.int .i64 0) := (blk_cell BK113.out 0).trans rfl; have hcz44_1 : w43.cell? ⟨gb113, 1, none⟩ = some (.int .i64 0) := (blk_cell BK113.out 1).trans rfl; have hcz44_2 : w43.cell? ⟨gb113, 2, none⟩ = some (.bool false) := (blk_cell BK113.out 2).trans rfl; have hfz44_0 := blk_frozen BK113.out 0; have hfz44_1 := blk_frozen BK113.out 1; have hfz44_2 := blk_frozen BK113.out 2) | ((with_reducible refine gate_store (t := 84) (p := 10) rfl ?_); (try (rw [drewN_self w43]; generalize hq_ : World.drewN w43 _ = w43; have n0_ := Aside0.mk (Kd.R_at hq_ HO_6.out); have n1_ := Aside0.mk (blk_at hq_ BK113.out); have n2_ := Aside0.mk (below_at hq_ HB.out); clear hq_ HO_6 BK113 HB; have HO_6 := n0_; have BK113 := n1_; have HB := n2_; clear n0_ n1_ n2_)); refine store_event (t := 84) (p := 10) (v := ?vo_w45) (w1 := (((w43.setCell ⟨gb113, 0, none⟩ (.int .i64 ((rd_T84 l1 x36_3).f0))).setCell ⟨gb113, 1, none⟩ (.int .i64 ((rd_T84 l1 x36_3).f1))).setCell ⟨gb113, 2, none⟩ (.bool ((rd_T84 l1 x36_3).f2)))) ?hg ?ho ?hn ?hr ?_; (case ho => rfl); (case hg => rfl); (case hn => rfl); (case hr => first | (go_simp; done) | (go_simp; rfl)); intro w45 hw; have n0_ : Aside0 (Kd.R (Kd.int .i64) 3 w45 w.heap.size (fun _ => True) (.slice Ao10 x6_3.length co10) x6_3) := ⟨(by rw [hw]; exact (by (with_reducible repeat (first | apply Kd.R_alloc | apply Kd.R_drewN | apply Kd.R_drew)); exact Kd.R_mono (Kd.R_far (p := ⟨gb113, 2, none⟩) (Kd.R_far (p := ⟨gb113, 1, none⟩) (Kd.R_far (p := ⟨gb113, 0, none⟩) (Kd.R_types HO_6.out BK113.out (by decide)) (fun _ hk => hk.2) (.int .i64 ((rd_T84 l1 x36_3).f0))) (fun _ hk => hk.2) (.int .i64 ((rd_T84 l1 x36_3).f1))) (fun _ hk => hk.2) (.bool ((rd_T84 l1 x36_3).f2))) (fun _ hk => trivial)))⟩; have n1_ : Aside0 (w45.heap[gb113]? = some (.cells #[.int .i64 ((rd_T84 l1 x36_3).f0), .int .i64 ((rd_T84 l1 x36_3).f1), .bool ((rd_T84 l1 x36_3).f2)] 84 (0, 0))) := ⟨(by rw [hw]; exact (by (with_reducible repeat (first | refine blk_drewN ?_ _ | refine blk_drew ?_ | refine blk_alloc ?_ _)); refine blk_put (cs := #[.int .i64 ((rd_T84 l1 x36_3).f0), .int .i64 ((rd_T84 l1 x36_3).f1), .bool false]) ?_ 2 _ rfl; (with_reducible repeat (first | refine blk_drewN ?_ _ | refine blk_drew ?_ | refine blk_alloc ?_ _)); refine blk_put (cs := #[.int .i64 ((rd_T84 l1 x36_3).f0), .int .i64 0, .bool false]) ?_ 1 _ rfl; (with_reducible repeat (first | refine blk_drewN ?_ _ | refine blk_drew ?_ | refine blk_alloc ?_ _)); refine blk_put (cs := #[.int .i64 0, .int .i64 0, .bool false]) ?_ 0 _ rfl; (with_reducible repeat (first | refine blk_drewN ?_ _ | refine blk_drew ?_ | refine blk_alloc ?_ _)); exact BK113.out))⟩; have n2_ : Aside0 (Below w.heap.size w w45) := ⟨(by rw [hw]; exact (by repeat (first | (with_reducible first | exact HB.out | apply below_alloc | apply pw_below_drewN | apply below_drew1 | refine below_set ?_ GE113.out) | exact HB.out)))⟩; clear hw; clear HO_6; clear BK113; clear HB; have HO_6 := n0_; have BK113 := n1_; have HB := n2_; clear n0_ n1_ n2_; have hcz46_0 : w45.cell? ⟨gb113, 0, none⟩ = some (.int .i64 ((rd_T84 l1 x36_3).f0)) := (blk_cell BK113.out 0).trans rfl; have hcz46_1 : w45.cell? ⟨gb113, 1, none⟩ = some (.int .i64 ((rd_T84 l1 x36_3).f1)) := (blk_cell BK113.out 1).trans rfl; have hcz46_2 : w45.cell? ⟨gb113, 2, none⟩ = some (.bool ((rd_T84 l1 x36_3).f2)) := (blk_cell BK113.out 2).trans rfl; have hfz46_0 := blk_frozen BK113.out 0; have hfz46_1 := blk_frozen BK113.out 1; have hfz46_2 := blk_frozen BK113.out 2; have p114 : 0 ≤ (((rd_T84 l1 x36_3).f0) : Int) := of_decide_eq_true (by first | (with_reducible assumption) | assumption); have q114 : ((rd_T84 l1 x36_3).f0) < (x6_3.length : Int) := of_decide_eq_true (by first | (with_reducible assumption) | assumption); obtain ⟨ad114, e114, hx114_0⟩ := Kd.at_int (Kd.R_reads' HO_6.out).2.2 ((rd_T84 l1 x36_3).f0) p114 q114; cases e114; replace p114 := eq_true p114; replace q114 := eq_true q114; have p115 : 0 ≤ (((rd_T84 l1 x36_3).f1) : Int) := of_decide_eq_true (by first | (with_reducible assumption) | assumption); have q115 : ((rd_T84 l1 x36_3).f1) < (x6_3.length : Int) := of_decide_eq_true (by first | (with_reducible assumption) | assumption); obtain ⟨ad115, e115, hx115_0⟩ := Kd.at_int (Kd.R_reads' HO_6.out).2.2 ((rd_T84 l1 x36_3).f1) p115 q115; obtain rfl : ad114 = ad115 := (by injection e115); replace p115 := eq_true p115; replace q115 := eq_true q115) | (go_at_call 71; (with_reducible refine (spec_l1Least.calls (rd x6_3 ((rd_T84 l1 x36_3).f0)) (rd x6_3 ((rd_T84 l1 x36_3).f1)) t116 _ A25.out).mono ?_); rintro e w' ⟨rfl, ⟨nd, rfl⟩⟩; (try first | exact ⟨rfl, _, World.drewN_drewN _ _ _⟩ | exact ⟨rfl, _, Eq.trans (World.drewN_drewN _ _ _) (congrArg (World.drewN _) (Nat.add_assoc _ _ _))⟩); have p117 : 0 ≤ (((rd_T84 l1 x36_3).f0) : Int) := of_decide_eq_true (by first | (with_reducible assumption) | assumption); have q117 : ((rd_T84 l1 x36_3).f0) < (x6_3.length : Int) := of_decide_eq_true (by first | (with_reducible assumption) | assumption); obtain ⟨ad117, e117, hx117_0⟩ := Kd.at_int (Kd.R_reads' HO_6.out).2.2 ((rd_T84 l1 x36_3).f0) p117 q117; obtain rfl : ad114 = ad117 := (by injection e117); replace p117 := eq_true p117; replace q117 := eq_true q117; have p41 : 0 ≤ (((rd_T84 l1 x36_3).f0) : Int) := of_decide_eq_true (by first | (with_reducible assumption) | assumption); have q41 : (((rd_T84 l1 x36_3).f0) : Int) < ((x6_3.length : Int) : Int) := of_decide_eq_true (by first | (with_reducible assumption) | assumption); obtain ⟨go41, co41, eo41, gb41, gl41, cl41, HG41⟩ := Kd.R_form HO_6.out (by omega); (first | cases eo41 | (injection eo41 with ea_ en_ ec_; (first | subst ea_ | (injection ea_ with ea_; subst ea_)); subst ec_; clear en_)); have GB41 := Aside0.mk gb41; have GG41 := Aside0.mk HG41; clear gb41 gl41 HG41; (first | simp only [add_plain] at hx114_0 | skip); (first | simp only [add_plain] at hx115_0 | skip); (first | simp only [add_plain] at hx117_0 | skip); obtain ⟨hx41_0, hf41_0⟩ := Kd.R_celln 0 HO_6.out (((rd_T84 l1 x36_3).f0) : Int) p41 q41; replace p41 := eq_true p41; replace q41 := eq_true q41; obtain ⟨hy47_, hz47_⟩ := Kd.R_celln 0 HO_6.out (((rd_T84 l1 x36_3).f0) : Int) (of_decide_eq_true (by first | (with_reducible assumption) | assumption)) (of_decide_eq_true (by first | (with_reducible assumption) | assumption)); have HP47 := Kd.R_putg HO_6.out (((rd_T84 l1 x36_3).f0) : Int) t116) | ((with_reducible refine gate_store (t := 3) (p := 71) rfl ?_); (try (rw [drewN_self w45]; generalize hq_ : World.drewN w45 _ = w45; have n0_ := Aside0.mk (Kd.R_at hq_ HO_6.out); have n1_ := Aside0.mk (blk_at hq_ BK113.out); have n2_ := Aside0.mk (below_at hq_ HB.out); clear hq_ HO_6 BK113 HB; have HO_6 := n0_; have BK113 := n1_; have HB := n2_; clear n0_ n1_ n2_; (try (obtain ⟨hy47_, hz47_⟩ := Kd.R_celln 0 HO_6.out (((rd_T84 l1 x36_3).f0) : Int) (of_decide_eq_true (by first | (with_reducible assumption) | assumption)) (of_decide_eq_true (by first | (with_reducible assumption) | assumption)))); (try (have HP47 := Kd.R_putg HO_6.out (((rd_T84 l1 x36_3).f0) : Int) t116)))); refine store_event (t := 3) (p := 71) (v := ?vo_w48) (w1 := (w45.setCell ⟨go41, (((rd_T84 l1 x36_3).f0) : Int).toNat, none⟩ (.int .i64 t116))) ?hg ?ho ?hn ?hr ?_; (case ho => rfl); (case hg => rfl); (case hn => rfl); (case hr => first | (go_simp; done) | (go_simp; rfl)); intro w48 hw; have hg : w45.grownBy w48 (some go41) := (by rw [hw]; exact HP47.2); have hp_ : Kd.R (Kd.int .i64) 3 w48 w.heap.size (fun _ => True) (.slice (some ⟨go41, 0, none⟩) x6_3.length co10) y121 := (by rw [hw, Ny121.out]; exact HP47.1); clear HP47; have n0_ := Aside0.mk (hp_); have n1_ := Aside0.mk (blk_grown (g := gb113) (o := .cells #[.int .i64 ((rd_T84 l1 x36_3).f0), .int .i64 ((rd_T84 l1 x36_3).f1), .bool ((rd_T84 l1 x36_3).f2)] 84 (0, 0)) (by (with_reducible repeat (first | refine blk_drewN ?_ _ | refine blk_drew ?_ | refine blk_alloc ?_ _)); exact BK113.out) hg (Kd.R_ne HO_6.out BK113.out (by decide))); have n2_ := Aside0.mk ((by rw [hw]; exact below_set (HB.out) GB41.out : Below w.heap.size w w48)); clear HO_6; clear BK113; clear HB; have HO_6 := n0_; have BK113 := n1_; have HB := n2_; clear n0_ n1_ n2_; clear hg hw hp_; have hcz49_0 : w48.cell? ⟨gb113, 0, none⟩ = some (.int .i64 ((rd_T84 l1 x36_3).f0)) := (blk_cell BK113.out 0).trans rfl; have hcz49_1 : w48.cell? ⟨gb113, 1, none⟩ = some (.int .i64 ((rd_T84 l1 x36_3).f1)) := (blk_cell BK113.out 1).trans rfl; have hcz49_2 : w48.cell? ⟨gb113, 2, none⟩ = some (.bool ((rd_T84 l1 x36_3).f2)) := (blk_cell BK113.out 2).trans rfl; have hfz49_0 := blk_frozen BK113.out 0; have hfz49_1 := blk_frozen BK113.out 1; have hfz49_2 := blk_frozen BK113.out 2; have p42 : 0 ≤ (((rd_T84 l1 x36_3).f1) : Int) := of_decide_eq_true (by first | (with_reducible assumption) | assumption); have q42 : (((rd_T84 l1 x36_3).f1) : Int) < ((x6_3.length : Int) : Int) := of_decide_eq_true (by first | (with_reducible assumption) | assumption); obtain ⟨hx42_0, hf42_0⟩ := Kd.R_celln 0 HO_6.out (((rd_T84 l1 x36_3).f1) : Int) p42 q42; replace p42 := eq_true p42; replace q42 := eq_true q42; obtain ⟨hy50_, hz50_⟩ := Kd.R_celln 0 HO_6.out (((rd_T84 l1 x36_3).f1) : Int) (of_decide_eq_true (by first | (with_reducible assumption) | assumption)) (of_decide_eq_true (by first | (with_reducible assumption) | assumption)); have HP50 := Kd.R_putg HO_6.out (((rd_T84 l1 x36_3).f1) : Int) t116) | ((with_reducible refine gate_store (t := 3) (p := 76) rfl ?_); (try (rw [drewN_self w48]; generalize hq_ : World.drewN w48 _ = w48; have n0_ := Aside0.mk (Kd.R_at hq_ HO_6.out); have n1_ := Aside0.mk (blk_at hq_ BK113.out); have n2_ := Aside0.mk (below_at hq_ HB.out); clear hq_ HO_6 BK113 HB; have HO_6 := n0_; have BK113 := n1_; have HB := n2_; clear n0_ n1_ n2_; (try (obtain ⟨hy50_, hz50_⟩ := Kd.R_celln 0 HO_6.out (((rd_T84 l1 x36_3).f1) : Int) (of_decide_eq_true (by first | (with_reducible assumption) | assumption)) (of_decide_eq_true (by first | (with_reducible assumption) | assumption)))); (try (have HP50 := Kd.R_putg HO_6.out (((rd_T84 l1 x36_3).f1) : Int) t116)))); refine store_event (t := 3) (p := 76) (v := ?vo_w51) (w1 := (w48.setCell ⟨go41, (((rd_T84 l1 x36_3).f1) : Int).toNat, none⟩ (.int .i64 t116))) ?hg ?ho ?hn ?hr ?_; (case ho => rfl); (case hg => rfl); (case hn => rfl); (case hr => first | (go_simp; done) | (go_simp; rfl)); intro w51 hw; have hg : w48.grownBy w51 (some go41) := (by rw [hw]; exact HP50.2); have hp_ : Kd.R (Kd.int .i64) 3 w51 w.heap.size (fun _ => True) (.slice (some ⟨go41, 0, none⟩) x6_3.length co10) y122 := (by rw [hw, Ny122.out]; exact HP50.1); clear HP50; have n0_ := Aside0.mk (hp_); have n1_ := Aside0.mk (blk_grown (g := gb113) (o := .cells #[.int .i64 ((rd_T84 l1 x36_3).f0), .int .i64 ((rd_T84 l1 x36_3).f1), .bool ((rd_T84 l1 x36_3).f2)] 84 (0, 0)) (by (with_reducible repeat (first | refine blk_drewN ?_ _ | refine blk_drew ?_ | refine blk_alloc ?_ _)); exact BK113.out) hg (Kd.R_ne HO_6.out BK113.out (by decide))); have n2_ := Aside0.mk ((by rw [hw]; exact below_set (HB.out) GB41.out : Below w.heap.size w w51)); clear HO_6; clear BK113; clear HB; have HO_6 := n0_; have BK113 := n1_; have HB := n2_; clear n0_ n1_ n2_; clear hg hw hp_)); try go_wp2_with (first | ((with_reducible refine gate_dst (N := 10) rfl ?_); refine box_event ?hg (N := 10) ?hd (cs := #[.int .i64 0, .int .i64 0, .bool false]) (t := 84) ?hr ?_; (case hd => rfl); (case hg => rfl); (case hr => first | (go_simp; done) | (go_simp; rfl)); intro gb113 hg w43 hbox hb; have n0_ := Aside0.mk (Kd.R_below (by (with_reducible repeat (first | apply Kd.R_alloc | apply Kd.R_drewN | apply Kd.R_drew)); exact HO_6.out) hb); have n1_ := Aside0.mk (below_step (by repeat (first | (with_reducible first | exact HB.out | apply below_alloc | apply pw_below_drewN | apply below_drew1) | exact HB.out)) hb); have n2_ := Aside0.mk (hbox); have n3_ := Aside0.mk ((by rw [hg]; exact (below_size (by repeat (first | (with_reducible first | exact HB.out | apply below_alloc | apply pw_below_drewN | apply below_drew1) | exact HB.out))) : w.heap.size ≤ gb113)); have n4_ := Aside0.mk ((by rw [hg]; exact (below_size (by repeat (first | (with_reducible first | exact HB.out | apply below_alloc | apply pw_below_drewN | apply below_drew1) | exact HB.out))) : w.heap.size ≤ gb113)); clear HO_6; clear HB; have HO_6 := n0_; have HB := n1_; have BK113 := n2_; have GW113 := n3_; have GE113 := n4_; clear n0_ n1_ n2_ n3_ n4_; clear hb hbox hg; have hcz44_0 : w43.cell? ⟨gb113, 0, none⟩ = some (.int .i64 0) := (blk_cell BK113.out 0).trans rfl; have hcz44_1 : w43.cell? ⟨gb113, 1, none⟩ = some (.int .i64 0) := (blk_cell BK113.out 1).trans rfl; have hcz44_2 : w43.cell? ⟨gb113, 2, none⟩ = some (.bool false) := (blk_cell BK113.out 2).trans rfl; have hfz44_0 := blk_frozen BK113.out 0; have hfz44_1 := blk_frozen BK113.out 1; have hfz44_2 := blk_frozen BK113.out 2) | ((with_reducible refine gate_store (t := 84) (p := 10) rfl ?_); (try (rw [drewN_self w43]; generalize hq_ : World.drewN w43 _ = w43; have n0_ := Aside0.mk (Kd.R_at hq_ HO_6.out); have n1_ := Aside0.mk (blk_at hq_ BK113.out); have n2_ := Aside0.mk (below_at hq_ HB.out); clear hq_ HO_6 BK113 HB; have HO_6 := n0_; have BK113 := n1_; have HB := n2_; clear n0_ n1_ n2_)); refine store_event (t := 84) (p := 10) (v := ?vo_w45) (w1 := (((w43.setCell ⟨gb113, 0, none⟩ (.int .i64 ((rd_T84 l1 x36_3).f0))).setCell ⟨gb113, 1, none⟩ (.int .i64 ((rd_T84 l1 x36_3).f1))).setCell ⟨gb113, 2, none⟩ (.bool ((rd_T84 l1 x36_3).f2)))) ?hg ?ho ?hn ?hr ?_; (case ho => rfl); (case hg => rfl); (case hn => rfl); (case hr => first | (go_simp; done) | (go_simp; rfl)); intro w45 hw; have n0_ : Aside0 (Kd.R (Kd.int .i64) 3 w45 w.heap.size (fun _ => True) (.slice Ao10 x6_3.length co10) x6_3) := ⟨(by rw [hw]; exact (by (with_reducible repeat (first | apply Kd.R_alloc | apply Kd.R_drewN | apply Kd.R_drew)); exact Kd.R_mono (Kd.R_far (p := ⟨gb113, 2, none⟩) (Kd.R_far (p := ⟨gb113, 1, none⟩) (Kd.R_far (p := ⟨gb113, 0, none⟩) (Kd.R_types HO_6.out BK113.out (by decide)) (fun _ hk => hk.2) (.int .i64 ((rd_T84 l1 x36_3).f0))) (fun _ hk => hk.2) (.int .i64 ((rd_T84 l1 x36_3).f1))) (fun _ hk => hk.2) (.bool ((rd_T84 l1 x36_3).f2))) (fun _ hk => trivial)))⟩; have n1_ : Aside0 (w45.heap[gb113]? = some (.cells #[.int .i64 ((rd_T84 l1 x36_3).f0), .int .i64 ((rd_T84 l1 x36_3).f1), .bool ((rd_T84 l1 x36_3).f2)] 84 (0, 0))) := ⟨(by rw [hw]; exact (by (with_reducible repeat (first | refine blk_drewN ?_ _ | refine blk_drew ?_ | refine blk_alloc ?_ _)); refine blk_put (cs := #[.int .i64 ((rd_T84 l1 x36_3).f0), .int .i64 ((rd_T84 l1 x36_3).f1), .bool false]) ?_ 2 _ rfl; (with_reducible repeat (first | refine blk_drewN ?_ _ | refine blk_drew ?_ | refine blk_alloc ?_ _)); refine blk_put (cs := #[.int .i64 ((rd_T84 l1 x36_3).f0), .int .i64 0, .bool false]) ?_ 1 _ rfl; (with_reducible repeat (first | refine blk_drewN ?_ _ | refine blk_drew ?_ | refine blk_alloc ?_ _)); refine blk_put (cs := #[.int .i64 0, .int .i64 0, .bool false]) ?_ 0 _ rfl; (with_reducible repeat (first | refine blk_drewN ?_ _ | refine blk_drew ?_ | refine blk_alloc ?_ _)); exact BK113.out))⟩; have n2_ : Aside0 (Below w.heap.size w w45) := ⟨(by rw [hw]; exact (by repeat (first | (with_reducible first | exact HB.out | apply below_alloc | apply pw_below_drewN | apply below_drew1 | refine below_set ?_ GE113.out) | exact HB.out)))⟩; clear hw; clear HO_6; clear BK113; clear HB; have HO_6 := n0_; have BK113 := n1_; have HB := n2_; clear n0_ n1_ n2_; have hcz46_0 : w45.cell? ⟨gb113, 0, none⟩ = some (.int .i64 ((rd_T84 l1 x36_3).f0)) := (blk_cell BK113.out 0).trans rfl; have hcz46_1 : w45.cell? ⟨gb113, 1, none⟩ = some (.int .i64 ((rd_T84 l1 x36_3).f1)) := (blk_cell BK113.out 1).trans rfl; have hcz46_2 : w45.cell? ⟨gb113, 2, none⟩ = some (.bool ((rd_T84 l1 x36_3).f2)) := (blk_cell BK113.out 2).trans rfl; have hfz46_0 := blk_frozen BK113.out 0; have hfz46_1 := blk_frozen BK113.out 1; have hfz46_2 := blk_frozen BK113.out 2; have p114 : 0 ≤ (((rd_T84 l1 x36_3).f0) : Int) := of_decide_eq_true (by first | (with_reducible assumption) | assumption); have q114 : ((rd_T84 l1 x36_3).f0) < (x6_3.length : Int) := of_decide_eq_true (by first | (with_reducible assumption) | assumption); obtain ⟨ad114, e114, hx114_0⟩ := Kd.at_int (Kd.R_reads' HO_6.out).2.2 ((rd_T84 l1 x36_3).f0) p114 q114; cases e114; replace p114 := eq_true p114; replace q114 := eq_true q114; have p115 : 0 ≤ (((rd_T84 l1 x36_3).f1) : Int) := of_decide_eq_true (by first | (with_reducible assumption) | assumption); have q115 : ((rd_T84 l1 x36_3).f1) < (x6_3.length : Int) := of_decide_eq_true (by first | (with_reducible assumption) | assumption); obtain ⟨ad115, e115, hx115_0⟩ := Kd.at_int (Kd.R_reads' HO_6.out).2.2 ((rd_T84 l1 x36_3).f1) p115 q115; obtain rfl : ad114 = ad115 := (by injection e115); replace p115 := eq_true p115; replace q115 := eq_true q115) | (go_at_call 71; (with_reducible refine (spec_l1Least.calls (rd x6_3 ((rd_T84 l1 x36_3).f0)) (rd x6_3 ((rd_T84 l1 x36_3).f1)) t116 _ A25.out).mono ?_); rintro e w' ⟨rfl, ⟨nd, rfl⟩⟩; (try first | exact ⟨rfl, _, World.drewN_drewN _ _ _⟩ | exact ⟨rfl, _, Eq.trans (World.drewN_drewN _ _ _) (congrArg (World.drewN _) (Nat.add_assoc _ _ _))⟩); have p117 : 0 ≤ (((rd_T84 l1 x36_3).f0) : Int) := of_decide_eq_true (by first | (with_reducible assumption) | assumption); have q117 : ((rd_T84 l1 x36_3).f0) < (x6_3.length : Int) := of_decide_eq_true (by first | (with_reducible assumption) | assumption); obtain ⟨ad117, e117, hx117_0⟩ := Kd.at_int (Kd.R_reads' HO_6.out).2.2 ((rd_T84 l1 x36_3).f0) p117 q117; obtain rfl : ad114 = ad117 := (by injection e117); replace p117 := eq_true p117; replace q117 := eq_true q117; have p41 : 0 ≤ (((rd_T84 l1 x36_3).f0) : Int) := of_decide_eq_true (by first | (with_reducible assumption) | assumption); have q41 : (((rd_T84 l1 x36_3).f0) : Int) < ((x6_3.length : Int) : Int) := of_decide_eq_true (by first | (with_reducible assumption) | assumption); obtain ⟨go41, co41, eo41, gb41, gl41, cl41, HG41⟩ := Kd.R_form HO_6.out (by omega); (first | cases eo41 | (injection eo41 with ea_ en_ ec_; (first | subst ea_ | (injection ea_ with ea_; subst ea_)); subst ec_; clear en_)); have GB41 := Aside0.mk gb41; have GG41 := Aside0.mk HG41; clear gb41 gl41 HG41; (first | simp only [add_plain] at hx114_0 | skip); (first | simp only [add_plain] at hx115_0 | skip); (first | simp only [add_plain] at hx117_0 | skip); obtain ⟨hx41_0, hf41_0⟩ := Kd.R_celln 0 HO_6.out (((rd_T84 l1 x36_3).f0) : Int) p41 q41; replace p41 := eq_true p41; replace q41 := eq_true q41; obtain ⟨hy47_, hz47_⟩ := Kd.R_celln 0 HO_6.out (((rd_T84 l1 x36_3).f0) : Int) (of_decide_eq_true (by first | (with_reducible assumption) | assumption)) (of_decide_eq_true (by first | (with_reducible assumption) | assumption)); have HP47 := Kd.R_putg HO_6.out (((rd_T84 l1 x36_3).f0) : Int) t116) | ((with_reducible refine gate_store (t := 3) (p := 71) rfl ?_); (try (rw [drewN_self w45]; generalize hq_ : World.drewN w45 _ = w45; have n0_ := Aside0.mk (Kd.R_at hq_ HO_6.out); have n1_ := Aside0.mk (blk_at hq_ BK113.out); have n2_ := Aside0.mk (below_at hq_ HB.out); clear hq_ HO_6 BK113 HB; have HO_6 := n0_; have BK113 := n1_; have HB := n2_; clear n0_ n1_ n2_; (try (obtain ⟨hy47_, hz47_⟩ := Kd.R_celln 0 HO_6.out (((rd_T84 l1 x36_3).f0) : Int) (of_decide_eq_true (by first | (with_reducible assumption) | assumption)) (of_decide_eq_true (by first | (with_reducible assumption) | assumption)))); (try (have HP47 := Kd.R_putg HO_6.out (((rd_T84 l1 x36_3).f0) : Int) t116)))); refine store_event (t := 3) (p := 71) (v := ?vo_w48) (w1 := (w45.setCell ⟨go41, (((rd_T84 l1 x36_3).f0) : Int).toNat, none⟩ (.int .i64 t116))) ?hg ?ho ?hn ?hr ?_; (case ho => rfl); (case hg => rfl); (case hn => rfl); (case hr => first | (go_simp; done) | (go_simp; rfl)); intro w48 hw; have hg : w45.grownBy w48 (some go41) := (by rw [hw]; exact HP47.2); have hp_ : Kd.R (Kd.int .i64) 3 w48 w.heap.size (fun _ => True) (.slice (some ⟨go41, 0, none⟩) x6_3.length co10) y121 := (by rw [hw, Ny121.out]; exact HP47.1); clear HP47; have n0_ := Aside0.mk (hp_); have n1_ := Aside0.mk (blk_grown (g := gb113) (o := .cells #[.int .i64 ((rd_T84 l1 x36_3).f0), .int .i64 ((rd_T84 l1 x36_3).f1), .bool ((rd_T84 l1 x36_3).f2)] 84 (0, 0)) (by (with_reducible repeat (first | refine blk_drewN ?_ _ | refine blk_drew ?_ | refine blk_alloc ?_ _)); exact BK113.out) hg (Kd.R_ne HO_6.out BK113.out (by decide))); have n2_ := Aside0.mk ((by rw [hw]; exact below_set (HB.out) GB41.out : Below w.heap.size w w48)); clear HO_6; clear BK113; clear HB; have HO_6 := n0_; have BK113 := n1_; have HB := n2_; clear n0_ n1_ n2_; clear hg hw hp_; have hcz49_0 : w48.cell? ⟨gb113, 0, none⟩ = some (.int .i64 ((rd_T84 l1 x36_3).f0)) := (blk_cell BK113.out 0).trans rfl; have hcz49_1 : w48.cell? ⟨gb113, 1, none⟩ = some (.int .i64 ((rd_T84 l1 x36_3).f1)) := (blk_cell BK113.out 1).trans rfl; have hcz49_2 : w48.cell? ⟨gb113, 2, none⟩ = some (.bool ((rd_T84 l1 x36_3).f2)) := (blk_cell BK113.out 2).trans rfl; have hfz49_0 := blk_frozen BK113.out 0; have hfz49_1 := blk_frozen BK113.out 1; have hfz49_2 := blk_frozen BK113.out 2; have p42 : 0 ≤ (((rd_T84 l1 x36_3).f1) : Int) := of_decide_eq_true (by first | (with_reducible assumption) | assumption); have q42 : (((rd_T84 l1 x36_3).f1) : Int) < ((x6_3.length : Int) : Int) := of_decide_eq_true (by first | (with_reducible assumption) | assumption); obtain ⟨hx42_0, hf42_0⟩ := Kd.R_celln 0 HO_6.out (((rd_T84 l1 x36_3).f1) : Int) p42 q42; replace p42 := eq_true p42; replace q42 := eq_true q42; obtain ⟨hy50_, hz50_⟩ := Kd.R_celln 0 HO_6.out (((rd_T84 l1 x36_3).f1) : Int) (of_decide_eq_true (by first | (with_reducible assumption) | assumption)) (of_decide_eq_true (by first | (with_reducible assumption) | assumption)); have HP50 := Kd.R_putg HO_6.out (((rd_T84 l1 x36_3).f1) : Int) t116) | ((with_reducible refine gate_store (t := 3) (p := 76) rfl ?_); (try (rw [drewN_self w48]; generalize hq_ : World.drewN w48 _ = w48; have n0_ := Aside0.mk (Kd.R_at hq_ HO_6.out); have n1_ := Aside0.mk (blk_at hq_ BK113.out); have n2_ := Aside0.mk (below_at hq_ HB.out); clear hq_ HO_6 BK113 HB; have HO_6 := n0_; have BK113 := n1_; have HB := n2_; clear n0_ n1_ n2_; (try (obtain ⟨hy50_, hz50_⟩ := Kd.R_celln 0 HO_6.out (((rd_T84 l1 x36_3).f1) : Int) (of_decide_eq_true (by first | (with_reducible assumption) | assumption)) (of_decide_eq_true (by first | (with_reducible assumption) | assumption)))); (try (have HP50 := Kd.R_putg HO_6.out (((rd_T84 l1 x36_3).f1) : Int) t116)))); refine store_event (t := 3) (p := 76) (v := ?vo_w51) (w1 := (w48.setCell ⟨go41, (((rd_T84 l1 x36_3).f1) : Int).toNat, none⟩ (.int .i64 t116))) ?hg ?ho ?hn ?hr ?_; (case ho => rfl); (case hg => rfl); (case hn => rfl); (case hr => first | (go_simp; done) | (go_simp; rfl)); intro w51 hw; have hg : w48.grownBy w51 (some go41) := (by rw [hw]; exact HP50.2); have hp_ : Kd.R (Kd.int .i64) 3 w51 w.heap.size (fun _ => True) (.slice (some ⟨go41, 0, none⟩) x6_3.length co10) y122 := (by rw [hw, Ny122.out]; exact HP50.1); clear HP50; have n0_ := Aside0.mk (hp_); have n1_ := Aside0.mk (blk_grown (g := gb113) (o := .cells #[.int .i64 ((rd_T84 l1 x36_3).f0), .int .i64 ((rd_T84 l1 x36_3).f1), .bool ((rd_T84 l1 x36_3).f2)] 84 (0, 0)) (by (with_reducible repeat (first | refine blk_drewN ?_ _ | refine blk_drew ?_ | refine blk_alloc ?_ _)); exact BK113.out) hg (Kd.R_ne HO_6.out BK113.out (by decide))); have n2_ := Aside0.mk ((by rw [hw]; exact below_set (HB.out) GB41.out : Below w.heap.size w w51)); clear HO_6; clear BK113; clear HB; have HO_6 := n0_; have BK113 := n1_; have HB := n2_; clear n0_ n1_ n2_; clear hg hw hp_)))
                                        (try simp only [← hl6_3])
                                        go_roundg k3
                                        case measure => have := HK1.out; have := HK2.out; have := HK3.out; omega
                                        case rel => exact ⟨(y122), (true), (wrap64 (x36_3 + 1)), (by first | rfl | (simp; done) | (simp [*]; done)), (by first | rfl | (simp; done) | (simp [*]; done)), H', ⟨by have := HK1.out; have := HK2.out; have := HK3.out; omega⟩, ⟨by (try simp only [hl6_1]); (try simp only [hl6_2]); (try simp only [hl6_3]); (with_reducible repeat (first | apply Kd.R_alloc | apply Kd.R_drewN | apply Kd.R_drew)); exact HO_6.out⟩, ⟨by repeat (first | (with_reducible first | exact HB.out | apply below_alloc | apply pw_below_drewN | apply below_drew1 | refine below_set ?_ GE113.out) | exact HB.out)⟩⟩
                                    · rw [if_neg c24] at H
                                      exact absurd H (by simp)
                                  · rw [if_neg c23] at H
                                    exact absurd H (by simp)
                                · rw [if_neg c22] at H
                                  exact absurd H (by simp)
                              · rw [if_neg c21] at H
                                exact absurd H (by simp)
                            · rw [if_neg c20] at H
                              exact absurd H (by simp)
                          · rw [if_neg c19] at H
                            exact absurd H (by simp)
                        · rw [if_neg c18] at H
                          have c18b0 : decide (x36_3 < (l1.length : Int)) = false := decide_eq_false c18
                          (try (have c18b0h := c18b0; simp only [hl6_1, hl6_2, hl6_3] at c18b0h))
                          clear c18
                          have H' := Aside0.mk H
                          clear H
                          go_wp2
                          repeat (go_quiet (fail); try go_wp2)
                          (try simp only [← hl6_2, ← hl6_3])
                          go_roundg k3
                          case measure => have := HK1.out; have := HK2.out; have := HK3.out; omega
                          case rel => exact ⟨(x6_3), (x8_3), (by first | rfl | (simp; done) | (simp [*]; done)), H', ⟨by have := HK1.out; have := HK2.out; have := HK3.out; omega⟩, ⟨by (try simp only [hl6_1]); (try simp only [hl6_2]); (try simp only [hl6_3]); (with_reducible repeat (first | apply Kd.R_alloc | apply Kd.R_drewN | apply Kd.R_drew)); exact HO_6.out⟩, ⟨by repeat (first | (with_reducible first | exact HB.out | apply below_alloc | apply pw_below_drewN | apply below_drew1) | exact HB.out)⟩⟩
                  · replace c17 := Bool.eq_false_iff.mpr c17
                    subst c17
                    have H1 : (spec_ClaimGroups.l3 k2 a0 x6_2 ([] : List (List Int)) 0) = some (r1, r2) := by rw [if_neg (show ¬ (false = true) by decide)] at H; exact H
                    clear H
                    have H := H1
                    clear H1
                    have H' := Aside0.mk H
                    clear H
                    go_wp2
                    repeat (go_quiet (fail); try go_wp2)
                    go_loopg [12, 13] k2 (fun kq v12 v13 w' => ∃ (x12_3 : List (List Int)) (x13_3 : Int), v13 = .int .i64 x13_3 ∧ Aside0 (spec_ClaimGroups.l3 kq a0 x6_2 x12_3 x13_3 = some (r1, r2)) ∧ Aside0 (kq ≤ k2) ∧ Aside0 (Kd.R (Kd.int .i64) 3 w' w.heap.size (fun _ => True) (.slice Ao10 x6_2.length co10) x6_2) ∧ Aside0 (Kd.S (Kd.slice 3 (Kd.int .i64)) 67 w' w.heap.size (fun k_ => some k_ ≠ ((.slice Ao10 x6_2.length co10) : Value).ownBlock) v12 x12_3) ∧ Aside0 (Below w.heap.size w w'))
                    case atStart => exact ⟨(([] : List (List Int))), (0), (by first | rfl | (simp; done) | (simp [*]; done)), H', ⟨Nat.le_refl _⟩, ⟨by (try simp only [hl6_1]); (try simp only [hl6_2]); (with_reducible repeat (first | apply Kd.R_alloc | apply Kd.R_drewN | apply Kd.R_drew)); exact HO_6.out⟩, ⟨by (try simp only [hl6_1]); (try simp only [hl6_2]); first | exact Kd.S_nil _ _ _ _ _ | exact Kd.N_nil _ _ _ _ _ | exact Kd.V_nil _ _ _ _ _ | exact Kd.Q_nil _ _ _ _ _ | exact Kd.R_nil _ _ _ _ _⟩, ⟨by repeat (first | (with_reducible first | exact HB.out | apply below_alloc | apply pw_below_drewN | apply below_drew1) | exact HB.out)⟩⟩
                    case round =>
                      clear H'
                      try clear c1
                      try clear p1
                      try clear q1
                      try clear hx1
                      try clear c2
                      try clear p2
                      try clear p3
                      try clear q3
                      try clear hx3
                      try clear hf3
                      try clear c4
                      try clear p4
                      try clear q4
                      try clear hx4
                      try clear hf4
                      try clear c5
                      try clear c5b0
                      try clear c5b1
                      try clear c6
                      try clear c6b0
                      try clear c6b1
                      try clear p6
                      try clear c8
                      try clear c11
                      try clear c11b0
                      try clear p11
                      try clear q11
                      try clear hx11
                      try clear c12
                      try clear c12b0
                      try clear c13
                      try clear c13b0
                      try clear p14
                      try clear q14
                      try clear hx14
                      try clear hf14
                      try clear c17
                      try clear c18
                      try clear c18b0
                      try clear c19
                      try clear c19b0
                      try clear c20
                      try clear c20b0
                      try clear c21
                      try clear c21b0
                      try clear c22
                      try clear c22b0
                      try clear c23
                      try clear c23b0
                      try clear c24
                      try clear c24b0
                      try clear c26
                      try clear c26b0
                      try clear c26b1
                      try clear c27
                      try clear c27b0
                      try clear c27b1
                      try clear p30
                      try clear q30
                      try clear hx30
                      try clear hf30
                      try clear p31
                      try clear q31
                      try clear hx31
                      try clear hf31
                      try clear p41
                      try clear q41
                      try clear hx41
                      try clear hf41
                      try clear p42
                      try clear q42
                      try clear hx42
                      try clear hf42
                      try clear hcz29_0
                      try clear hcz29_1
                      try clear hcz29_2
                      try clear hcz33_0
                      try clear hcz33_1
                      try clear hcz33_2
                      try clear hcz35_0
                      try clear hcz35_1
                      try clear hcz35_2
                      try clear hcz38_0
                      try clear hcz38_1
                      try clear hcz38_2
                      try clear hcz44_0
                      try clear hcz44_1
                      try clear hcz44_2
                      try clear hcz46_0
                      try clear hcz46_1
                      try clear hcz46_2
                      try clear hcz49_0
                      try clear hcz49_1
                      try clear hcz49_2
                      try clear hfz29_0
                      try clear hfz29_1
                      try clear hfz29_2
                      try clear hfz33_0
                      try clear hfz33_1
                      try clear hfz33_2
                      try clear hfz35_0
                      try clear hfz35_1
                      try clear hfz35_2
                      try clear hfz38_0
                      try clear hfz38_1
                      try clear hfz38_2
                      try clear hfz44_0
                      try clear hfz44_1
                      try clear hfz44_2
                      try clear hfz46_0
                      try clear hfz46_1
                      try clear hfz46_2
                      try clear hfz49_0
                      try clear hfz49_1
                      try clear hfz49_2
                      try clear hx112_0
                      try clear hx112_1
                      try clear hx112_2
                      try clear hx114_0
                      try clear hx115_0
                      try clear hx117_0
                      try clear hx118_0
                      try clear hx14_0
                      try clear hx30_0
                      try clear hx31_0
                      try clear hx41_0
                      try clear hx42_0
                      try clear p1
                      try clear p112
                      try clear p114
                      try clear p115
                      try clear p117
                      try clear p118
                      try clear p14
                      try clear p2
                      try clear p30
                      try clear p31
                      try clear p41
                      try clear p42
                      try clear p6
                      try clear q1
                      try clear q112
                      try clear q114
                      try clear q115
                      try clear q117
                      try clear q118
                      try clear q14
                      try clear q30
                      try clear q31
                      try clear q41
                      try clear q42
                      obtain ⟨x12_3, x13_3, rfl, HA, HK3, HO_6, HO_12, HB⟩ := hrel
                      cases gk with
                      | zero => exact absurd HA.out (by simp [spec_ClaimGroups.l3])
                      | succ k3 =>
                        have H := HA.out
                        clear HA
                        simp only [spec_ClaimGroups.l3] at H
                        by_cases c52 : x13_3 < a0
                        · rw [if_pos c52] at H
                          have c52b0 : decide (x13_3 < a0) = true := decide_eq_true c52
                          clear c52
                          have H' := Aside0.mk H
                          clear H
                          go_wp2
                          repeat (go_quiet (fail); try go_wp2)
                          go_loopg [14, 85] k3 (fun kq v14 v85 w' => ∃ (x14_4 : List Int) (x85_4 : Int), v85 = .int .i64 x85_4 ∧ Aside0 (spec_ClaimGroups.l4 kq a0 x6_2 x12_3 x13_3 x14_4 x6_2 (x6_2.length : Int) x85_4 = some (r1, r2)) ∧ Aside0 (kq ≤ k3) ∧ Aside0 (Kd.R (Kd.int .i64) 3 w' w.heap.size (fun k_ => some k_ ≠ (v14 : Value).ownBlock) (.slice Ao10 x6_2.length co10) x6_2) ∧ Aside0 (Kd.S (Kd.slice 3 (Kd.int .i64)) 67 w' w.heap.size (fun k_ => some k_ ≠ ((.slice Ao10 x6_2.length co10) : Value).ownBlock ∧ some k_ ≠ (v14 : Value).ownBlock ∧ some k_ ≠ ((.slice Ao10 x6_2.length co10) : Value).ownBlock) u12 x12_3) ∧ Aside0 (Kd.R (Kd.int .i64) 3 w' w.heap.size (fun k_ => some k_ ≠ ((.slice Ao10 x6_2.length co10) : Value).ownBlock ∧ some k_ ≠ ((.slice Ao10 x6_2.length co10) : Value).ownBlock) v14 x14_4) ∧ Aside0 (Kd.R (Kd.int .i64) 3 w' w.heap.size (fun k_ => some k_ ≠ (v14 : Value).ownBlock) (.slice Ao10 x6_2.length co10) x6_2) ∧ Aside0 (Below w.heap.size w w'))
                          case atStart => exact ⟨(([] : List Int)), (0), (by first | rfl | (simp; done) | (simp [*]; done)), H', ⟨Nat.le_refl _⟩, ⟨by (try simp only [hl6_1]); (try simp only [hl6_2]); (with_reducible repeat (first | apply Kd.R_alloc | apply Kd.R_drewN | apply Kd.R_drew)); exact Kd.R_mono HO_6.out (fun _ hk => (by simp [Value.ownBlock]))⟩, ⟨by (try simp only [hl6_1]); (try simp only [hl6_2]); (with_reducible repeat (first | apply Kd.S_alloc | apply Kd.S_drewN | apply Kd.S_drew)); exact Kd.S_mono HO_12.out (fun _ hk => ⟨hk, ⟨(by simp [Value.ownBlock]), hk⟩⟩)⟩, ⟨by (try simp only [hl6_1]); (try simp only [hl6_2]); first | exact Kd.R_nil _ _ _ _ _ | exact Kd.N_nil _ _ _ _ _ | exact Kd.V_nil _ _ _ _ _ | exact Kd.Q_nil _ _ _ _ _ | exact Kd.S_nil _ _ _ _ _⟩, ⟨by (try simp only [hl6_1]); (try simp only [hl6_2]); (with_reducible repeat (first | apply Kd.R_alloc | apply Kd.R_drewN | apply Kd.R_drew)); exact Kd.R_mono HO_6.out (fun _ hk => (by simp [Value.ownBlock]))⟩, ⟨by repeat (first | (with_reducible first | exact HB.out | apply below_alloc | apply pw_below_drewN | apply below_drew1) | exact HB.out)⟩⟩
                          case round =>
                            clear H'
                            try clear c1
                            try clear p1
                            try clear q1
                            try clear hx1
                            try clear c2
                            try clear p2
                            try clear p3
                            try clear q3
                            try clear hx3
                            try clear hf3
                            try clear c4
                            try clear p4
                            try clear q4
                            try clear hx4
                            try clear hf4
                            try clear c5
                            try clear c5b0
                            try clear c5b1
                            try clear c6
                            try clear c6b0
                            try clear c6b1
                            try clear p6
                            try clear c8
                            try clear c11
                            try clear c11b0
                            try clear p11
                            try clear q11
                            try clear hx11
                            try clear c12
                            try clear c12b0
                            try clear c13
                            try clear c13b0
                            try clear p14
                            try clear q14
                            try clear hx14
                            try clear hf14
                            try clear c17
                            try clear c18
                            try clear c18b0
                            try clear c19
                            try clear c19b0
                            try clear c20
                            try clear c20b0
                            try clear c21
                            try clear c21b0
                            try clear c22
                            try clear c22b0
                            try clear c23
                            try clear c23b0
                            try clear c24
                            try clear c24b0
                            try clear c26
                            try clear c26b0
                            try clear c26b1
                            try clear c27
                            try clear c27b0
                            try clear c27b1
                            try clear p30
                            try clear q30
                            try clear hx30
                            try clear hf30
                            try clear p31
                            try clear q31
                            try clear hx31
                            try clear hf31
                            try clear p41
                            try clear q41
                            try clear hx41
                            try clear hf41
                            try clear p42
                            try clear q42
                            try clear hx42
                            try clear hf42
                            try clear c52
                            try clear c52b0
                            try clear hcz29_0
                            try clear hcz29_1
                            try clear hcz29_2
                            try clear hcz33_0
                            try clear hcz33_1
                            try clear hcz33_2
                            try clear hcz35_0
                            try clear hcz35_1
                            try clear hcz35_2
                            try clear hcz38_0
                            try clear hcz38_1
                            try clear hcz38_2
                            try clear hcz44_0
                            try clear hcz44_1
                            try clear hcz44_2
                            try clear hcz46_0
                            try clear hcz46_1
                            try clear hcz46_2
                            try clear hcz49_0
                            try clear hcz49_1
                            try clear hcz49_2
                            try clear hfz29_0
                            try clear hfz29_1
                            try clear hfz29_2
                            try clear hfz33_0
                            try clear hfz33_1
                            try clear hfz33_2
                            try clear hfz35_0
                            try clear hfz35_1
                            try clear hfz35_2
                            try clear hfz38_0
                            try clear hfz38_1
                            try clear hfz38_2
                            try clear hfz44_0
                            try clear hfz44_1
                            try clear hfz44_2
                            try clear hfz46_0
                            try clear hfz46_1
                            try clear hfz46_2
                            try clear hfz49_0
                            try clear hfz49_1
                            try clear hfz49_2
                            try clear hx112_0
                            try clear hx112_1
                            try clear hx112_2
                            try clear hx114_0
                            try clear hx115_0
                            try clear hx117_0
                            try clear hx118_0
                            try clear hx14_0
                            try clear hx30_0
                            try clear hx31_0
                            try clear hx41_0
                            try clear hx42_0
                            try clear p1
                            try clear p11
                            try clear p112
                            try clear p114
                            try clear p115
                            try clear p117
                            try clear p118
                            try clear p14
                            try clear p2
                            try clear p3
                            try clear p30
                            try clear p31
                            try clear p4
                            try clear p41
                            try clear p42
                            try clear p6
                            try clear q1
                            try clear q11
                            try clear q112
                            try clear q114
                            try clear q115
                            try clear q117
                            try clear q118
                            try clear q14
                            try clear q3
                            try clear q30
                            try clear q31
                            try clear q4
                            try clear q41
                            try clear q42
                            obtain ⟨x14_4, x85_4, rfl, HA, HK4, HO_6, HO_12, HO_14, HO_83, HB⟩ := hrel
                            cases gk with
                            | zero => exact absurd HA.out (by simp [spec_ClaimGroups.l4])
                            | succ k4 =>
                              have H := HA.out
                              clear HA
                              simp only [spec_ClaimGroups.l4] at H
                              by_cases c53 : x85_4 < (x6_2.length : Int)
                              · rw [if_pos c53] at H
                                have c53b0 : decide (x85_4 < (x6_2.length : Int)) = true := decide_eq_true c53
                                (try (have c53b0h := c53b0; simp only [hl6_1, hl6_2] at c53b0h))
                                clear c53
                                by_cases c54 : 0 ≤ x85_4
                                · rw [if_pos c54] at H
                                  have c54b0 : decide (0 ≤ x85_4) = true := decide_eq_true c54
                                  clear c54
                                  by_cases c55 : x85_4 < (x6_2.length : Int)
                                  · rw [if_pos c55] at H
                                    have c55b0 : decide (x85_4 < (x6_2.length : Int)) = true := decide_eq_true c55
                                    (try (have c55b0h := c55b0; simp only [hl6_1, hl6_2] at c55b0h))
                                    clear c55
                                    by_cases c56 : (rd x6_2 x85_4) = x13_3
                                    · rw [if_pos c56] at H
                                      have c56b0 : ((rd x6_2 x85_4) == x13_3) = true := beq_iff_eq.mpr c56
                                      have c56b1 : ((rd x6_2 x85_4) != x13_3) = false := bne_eq_false_iff_eq.mpr c56
                                      clear c56
                                      by_cases c57 : x14_4.length < 17592186044416
                                      · rw [if_pos c57] at H
                                        have LMc57 := Aside0.mk c57
                                        clear c57
                                        obtain ⟨y124, hy124⟩ : ∃ y_ : List Int, y_ = (x14_4 ++ [x85_4]) := ⟨_, rfl⟩
                                        replace H : (spec_ClaimGroups.l4 k4 a0 x6_2 x12_3 x13_3 y124 x6_2 (x6_2.length : Int) (wrap64 (x85_4 + 1))) = some (r1, r2) := by first | (rw [hy124]; with_reducible exact H) | (have H2_ := (Option.bind_some _ _).symm.trans H; rw [hy124]; with_reducible exact H2_) | (have H2_ := (Option.bind_some _ _).symm.trans H; with_reducible exact H2_) | with_reducible exact H | (rw [hy124]; exact H) | exact H
                                        have Ny124 := Aside0.mk hy124
                                        clear hy124
                                        have H' := Aside0.mk H
                                        clear H
                                        have p123 : 0 ≤ (x85_4 : Int) := of_decide_eq_true (by first | (with_reducible assumption) | assumption)
                                        have q123 : x85_4 < (x6_2.length : Int) := of_decide_eq_true (by first | (with_reducible assumption) | assumption)
                                        obtain ⟨ad123, e123, hx123_0⟩ := Kd.at_int (Kd.R_reads' HO_83.out).2.2 x85_4 p123 q123
                                        cases e123
                                        replace p123 := eq_true p123
                                        replace q123 := eq_true q123
                                        go_wp2_with (first | ((with_reducible refine gate_builtin (b := .append) (xs := #[.tmp 93, .tmp 95]) rfl ?_); at_builtin; refine Kd.R_append (Kd.int .i64) (w0 := w) w.heap.size rfl (.tmp 93) (.tmp 95) 67 3 (.int .i64 0) 8 rfl Try.underlying67 info3 rfl (by decide) (by omega) u14 x14_4 x85_4 [.int .i64 x85_4] (fun k_ => some k_ ≠ (.slice (some ad123) x6_2.length co10 : Value).ownBlock ∧ some k_ ≠ (.slice (some ad123) x6_2.length co10 : Value).ownBlock) (fun _ => False) rfl rfl ?aP (fun _ hk => hk.elim) ?aF ?aO ?aB ?aS ?aL ?_; (case aP => exact rfl); (case aB => exact (by repeat (first | (with_reducible first | exact HB.out | apply below_alloc | apply pw_below_drewN | apply below_drew1) | exact HB.out))); (case aF => exact (fun k_ hk => ⟨Kd.fresh' (Kd.R_lt (by (with_reducible repeat (first | apply Kd.R_alloc | apply Kd.R_drewN | apply Kd.R_drew)); exact HO_6.out)) k_ hk, Kd.fresh' (Kd.R_lt (by (with_reducible repeat (first | apply Kd.R_alloc | apply Kd.R_drewN | apply Kd.R_drew)); exact HO_83.out)) k_ hk⟩)); (case aO => exact (by (with_reducible repeat (first | apply Kd.R_alloc | apply Kd.R_drewN | apply Kd.R_drew)); exact HO_14.out)); (case aS => exact (below_size (by repeat (first | (with_reducible first | exact HB.out | apply below_alloc | apply pw_below_drewN | apply below_drew1) | exact HB.out)))); (case aL => have := LMc57.out; omega); intro v125 w58 ho hb hg hat; rw [← Ny124.out] at ho; have n0_ := Aside0.mk (Kd.R_after (ok := (fun _ => True)) (by (with_reducible repeat (first | apply Kd.R_alloc | apply Kd.R_drewN | apply Kd.R_drew)); exact Kd.R_mono HO_6.out (fun _ hk => ⟨trivial, hk⟩)) hg hat); have n1_ := Aside0.mk (Kd.S_after (ok := (fun k_ => some k_ ≠ (.slice (some ad123) x6_2.length co10 : Value).ownBlock ∧ some k_ ≠ (.slice (some ad123) x6_2.length co10 : Value).ownBlock)) (by (with_reducible repeat (first | apply Kd.S_alloc | apply Kd.S_drewN | apply Kd.S_drew)); exact Kd.S_mono HO_12.out (fun _ hk => ⟨⟨hk.1, hk.2.2⟩, hk.2.1⟩)) hg hat); have n2_ := Aside0.mk (Kd.R_after (ok := (fun _ => True)) (by (with_reducible repeat (first | apply Kd.R_alloc | apply Kd.R_drewN | apply Kd.R_drew)); exact Kd.R_mono HO_83.out (fun _ hk => ⟨trivial, hk⟩)) hg hat); have n3_ := Aside0.mk (hb); have n4_ := Aside0.mk (ho); clear HO_6; clear HO_12; clear HO_83; clear HB; clear HO_14; have HO_6 := n0_; have HO_12 := n1_; have HO_83 := n2_; have HB := n3_; have HO126 := n4_; clear n0_ n1_ n2_ n3_ n4_; clear ho hb hg hat))
                                        repeat (go_quiet (first | ((with_reducible refine gate_builtin (b := .append) (xs := #[.tmp 93, .tmp 95]) rfl ?_); at_builtin; refine Kd.R_append (Kd.int .i64) (w0 := w) w.heap.size rfl (.tmp 93) (.tmp 95) 67 3 (.int .i64 0) 8 rfl Try.underlying67 info3 rfl (by decide) (by omega) u14 x14_4 x85_4 [.int .i64 x85_4] (fun k_ => some k_ ≠ (.slice (some ad123) x6_2.length co10 : Value).ownBlock ∧ some k_ ≠ (.slice (some ad123) x6_2.length co10 : Value).ownBlock) (fun _ => False) rfl rfl ?aP (fun _ hk => hk.elim) ?aF ?aO ?aB ?aS ?aL ?_; (case aP => exact rfl); (case aB => exact (by repeat (first | (with_reducible first | exact HB.out | apply below_alloc | apply pw_below_drewN | apply below_drew1) | exact HB.out))); (case aF => exact (fun k_ hk => ⟨Kd.fresh' (Kd.R_lt (by (with_reducible repeat (first | apply Kd.R_alloc | apply Kd.R_drewN | apply Kd.R_drew)); exact HO_6.out)) k_ hk, Kd.fresh' (Kd.R_lt (by (with_reducible repeat (first | apply Kd.R_alloc | apply Kd.R_drewN | apply Kd.R_drew)); exact HO_83.out)) k_ hk⟩)); (case aO => exact (by (with_reducible repeat (first | apply Kd.R_alloc | apply Kd.R_drewN | apply Kd.R_drew)); exact HO_14.out)); (case aS => exact (below_size (by repeat (first | (with_reducible first | exact HB.out | apply below_alloc | apply pw_below_drewN | apply below_drew1) | exact HB.out)))); (case aL => have := LMc57.out; omega); intro v125 w58 ho hb hg hat; rw [← Ny124.out] at ho; have n0_ := Aside0.mk (Kd.R_after (ok := (fun _ => True)) (by (with_reducible repeat (first | apply Kd.R_alloc | apply Kd.R_drewN | apply Kd.R_drew)); exact Kd.R_mono HO_6.out (fun _ hk => ⟨trivial, hk⟩)) hg hat); have n1_ := Aside0.mk (Kd.S_after (ok := (fun k_ => some k_ ≠ (.slice (some ad123) x6_2.length co10 : Value).ownBlock ∧ some k_ ≠ (.slice (some ad123) x6_2.length co10 : Value).ownBlock)) (by (with_reducible repeat (first | apply Kd.S_alloc | apply Kd.S_drewN | apply Kd.S_drew)); exact Kd.S_mono HO_12.out (fun _ hk => ⟨⟨hk.1, hk.2.2⟩, hk.2.1⟩)) hg hat); have n2_ := Aside0.mk (Kd.R_after (ok := (fun _ => True)) (by (with_reducible repeat (first | apply Kd.R_alloc | apply Kd.R_drewN | apply Kd.R_drew)); exact Kd.R_mono HO_83.out (fun _ hk => ⟨trivial, hk⟩)) hg hat); have n3_ := Aside0.mk (hb); have n4_ := Aside0.mk (ho); clear HO_6; clear HO_12; clear HO_83; clear HB; clear HO_14; have HO_6 := n0_; have HO_12 := n1_; have HO_83 := n2_; have HB := n3_; have HO126 := n4_; clear n0_ n1_ n2_ n3_ n4_; clear ho hb hg hat)); try go_wp2_with (first | ((with_reducible refine gate_builtin (b := .append) (xs := #[.tmp 93, .tmp 95]) rfl ?_); at_builtin; refine Kd.R_append (Kd.int .i64) (w0 := w) w.heap.size rfl (.tmp 93) (.tmp 95) 67 3 (.int .i64 0) 8 rfl Try.underlying67 info3 rfl (by decide) (by omega) u14 x14_4 x85_4 [.int .i64 x85_4] (fun k_ => some k_ ≠ (.slice (some ad123) x6_2.length co10 : Value).ownBlock ∧ some k_ ≠ (.slice (some ad123) x6_2.length co10 : Value).ownBlock) (fun _ => False) rfl rfl ?aP (fun _ hk => hk.elim) ?aF ?aO ?aB ?aS ?aL ?_; (case aP => exact rfl); (case aB => exact (by repeat (first | (with_reducible first | exact HB.out | apply below_alloc | apply pw_below_drewN | apply below_drew1) | exact HB.out))); (case aF => exact (fun k_ hk => ⟨Kd.fresh' (Kd.R_lt (by (with_reducible repeat (first | apply Kd.R_alloc | apply Kd.R_drewN | apply Kd.R_drew)); exact HO_6.out)) k_ hk, Kd.fresh' (Kd.R_lt (by (with_reducible repeat (first | apply Kd.R_alloc | apply Kd.R_drewN | apply Kd.R_drew)); exact HO_83.out)) k_ hk⟩)); (case aO => exact (by (with_reducible repeat (first | apply Kd.R_alloc | apply Kd.R_drewN | apply Kd.R_drew)); exact HO_14.out)); (case aS => exact (below_size (by repeat (first | (with_reducible first | exact HB.out | apply below_alloc | apply pw_below_drewN | apply below_drew1) | exact HB.out)))); (case aL => have := LMc57.out; omega); intro v125 w58 ho hb hg hat; rw [← Ny124.out] at ho; have n0_ := Aside0.mk (Kd.R_after (ok := (fun _ => True)) (by (with_reducible repeat (first | apply Kd.R_alloc | apply Kd.R_drewN | apply Kd.R_drew)); exact Kd.R_mono HO_6.out (fun _ hk => ⟨trivial, hk⟩)) hg hat); have n1_ := Aside0.mk (Kd.S_after (ok := (fun k_ => some k_ ≠ (.slice (some ad123) x6_2.length co10 : Value).ownBlock ∧ some k_ ≠ (.slice (some ad123) x6_2.length co10 : Value).ownBlock)) (by (with_reducible repeat (first | apply Kd.S_alloc | apply Kd.S_drewN | apply Kd.S_drew)); exact Kd.S_mono HO_12.out (fun _ hk => ⟨⟨hk.1, hk.2.2⟩, hk.2.1⟩)) hg hat); have n2_ := Aside0.mk (Kd.R_after (ok := (fun _ => True)) (by (with_reducible repeat (first | apply Kd.R_alloc | apply Kd.R_drewN | apply Kd.R_drew)); exact Kd.R_mono HO_83.out (fun _ hk => ⟨trivial, hk⟩)) hg hat); have n3_ := Aside0.mk (hb); have n4_ := Aside0.mk (ho); clear HO_6; clear HO_12; clear HO_83; clear HB; clear HO_14; have HO_6 := n0_; have HO_12 := n1_; have HO_83 := n2_; have HB := n3_; have HO126 := n4_; clear n0_ n1_ n2_ n3_ n4_; clear ho hb hg hat)))
                                        go_roundg k4
                                        case measure => have := HK1.out; have := HK2.out; have := HK3.out; have := HK4.out; omega
                                        case rel => exact ⟨(y124), (wrap64 (x85_4 + 1)), (by first | rfl | (simp; done) | (simp [*]; done)), H', ⟨by have := HK1.out; have := HK2.out; have := HK3.out; have := HK4.out; omega⟩, ⟨by (try simp only [hl6_1]); (try simp only [hl6_2]); (with_reducible repeat (first | apply Kd.R_alloc | apply Kd.R_drewN | apply Kd.R_drew)); exact Kd.R_mono HO_6.out (fun _ hk => hk.2)⟩, ⟨by (try simp only [hl6_1]); (try simp only [hl6_2]); (with_reducible repeat (first | apply Kd.S_alloc | apply Kd.S_drewN | apply Kd.S_drew)); exact Kd.S_mono HO_12.out (fun _ hk => ⟨hk.1.1, ⟨hk.2, hk.1.2⟩⟩)⟩, ⟨by (try simp only [hl6_1]); (try simp only [hl6_2]); (with_reducible repeat (first | apply Kd.R_alloc | apply Kd.R_drewN | apply Kd.R_drew)); exact HO126.out⟩, ⟨by (try simp only [hl6_1]); (try simp only [hl6_2]); (with_reducible repeat (first | apply Kd.R_alloc | apply Kd.R_drewN | apply Kd.R_drew)); exact Kd.R_mono HO_83.out (fun _ hk => hk.2)⟩, ⟨by repeat (first | (with_reducible first | exact HB.out | apply below_alloc | apply pw_below_drewN | apply below_drew1) | exact HB.out)⟩⟩
                                      · rw [if_neg c57] at H
                                        exact absurd H (by simp)
                                    · rw [if_neg c56] at H
                                      have c56b0 : ((rd x6_2 x85_4) == x13_3) = false := beq_eq_false_iff_ne.mpr c56
                                      have c56b1 : ((rd x6_2 x85_4) != x13_3) = true := bne_iff_ne.mpr c56
                                      have H' := Aside0.mk H
                                      clear H
                                      have p123 : 0 ≤ (x85_4 : Int) := of_decide_eq_true (by first | (with_reducible assumption) | assumption)
                                      have q123 : x85_4 < (x6_2.length : Int) := of_decide_eq_true (by first | (with_reducible assumption) | assumption)
                                      obtain ⟨ad123, e123, hx123_0⟩ := Kd.at_int (Kd.R_reads' HO_83.out).2.2 x85_4 p123 q123
                                      cases e123
                                      replace p123 := eq_true p123
                                      replace q123 := eq_true q123
                                      go_wp2
                                      repeat (go_quiet (fail); try go_wp2)
                                      go_roundg k4
                                      case measure => have := HK1.out; have := HK2.out; have := HK3.out; have := HK4.out; omega
                                      case rel => exact ⟨(x14_4), (wrap64 (x85_4 + 1)), (by first | rfl | (simp; done) | (simp [*]; done)), H', ⟨by have := HK1.out; have := HK2.out; have := HK3.out; have := HK4.out; omega⟩, ⟨by (try simp only [hl6_1]); (try simp only [hl6_2]); (with_reducible repeat (first | apply Kd.R_alloc | apply Kd.R_drewN | apply Kd.R_drew)); exact HO_6.out⟩, ⟨by (try simp only [hl6_1]); (try simp only [hl6_2]); (with_reducible repeat (first | apply Kd.S_alloc | apply Kd.S_drewN | apply Kd.S_drew)); exact HO_12.out⟩, ⟨by (try simp only [hl6_1]); (try simp only [hl6_2]); (with_reducible repeat (first | apply Kd.R_alloc | apply Kd.R_drewN | apply Kd.R_drew)); exact HO_14.out⟩, ⟨by (try simp only [hl6_1]); (try simp only [hl6_2]); (with_reducible repeat (first | apply Kd.R_alloc | apply Kd.R_drewN | apply Kd.R_drew)); exact HO_83.out⟩, ⟨by repeat (first | (with_reducible first | exact HB.out | apply below_alloc | apply pw_below_drewN | apply below_drew1) | exact HB.out)⟩⟩
                                  · rw [if_neg c55] at H
                                    exact absurd H (by simp)
                                · rw [if_neg c54] at H
                                  exact absurd H (by simp)
                              · rw [if_neg c53] at H
                                have c53b0 : decide (x85_4 < (x6_2.length : Int)) = false := decide_eq_false c53
                                (try (have c53b0h := c53b0; simp only [hl6_1, hl6_2] at c53b0h))
                                clear c53
                                by_cases c59 : (x14_4.length : Int) > 0
                                · rw [if_pos c59] at H
                                  have c59b0 : decide (0 < (x14_4.length : Int)) = true := decide_eq_true c59
                                  have c59b1 : decide (0 < x14_4.length) = true := decide_eq_true (by omega)
                                  (try (have c59b0h := c59b0; simp only [hl6_1, hl6_2] at c59b0h))
                                  (try (have c59b1h := c59b1; simp only [hl6_1, hl6_2] at c59b1h))
                                  clear c59
                                  by_cases c60 : x12_3.length < 5864062014805
                                  · rw [if_pos c60] at H
                                    have LMc60 := Aside0.mk c60
                                    clear c60
                                    obtain ⟨y127, hy127⟩ : ∃ y_ : List (List Int), y_ = (x12_3 ++ [x14_4]) := ⟨_, rfl⟩
                                    replace H : (spec_ClaimGroups.l3 k4 a0 x6_2 y127 (wrap64 (x13_3 + 1))) = some (r1, r2) := by first | (rw [hy127]; with_reducible exact H) | (have H2_ := (Option.bind_some _ _).symm.trans H; rw [hy127]; with_reducible exact H2_) | (have H2_ := (Option.bind_some _ _).symm.trans H; with_reducible exact H2_) | with_reducible exact H | (rw [hy127]; exact H) | exact H
                                    have Ny127 := Aside0.mk hy127
                                    clear hy127
                                    have H' := Aside0.mk H
                                    clear H
                                    obtain ⟨Ao61, co61, eo61⟩ := Kd.R_slice HO_14.out
                                    subst eo61
                                    go_wp2_with (first | ((with_reducible refine gate_builtin (b := .append) (xs := #[.tmp 101, .tmp 103]) rfl ?_); at_builtin; refine Kd.S_append (Kd.slice 3 (Kd.int .i64)) (w0 := w) w.heap.size rfl (.tmp 101) (.tmp 103) 24 67 (.slice none 0 0) 24 rfl Try.underlying24 info67 rfl (by decide) (by omega) u12 x12_3 x14_4 [.slice Ao61 x14_4.length co61] (fun k_ => some k_ ≠ (.slice Ao10 x6_2.length co10 : Value).ownBlock ∧ some k_ ≠ (.slice Ao10 x6_2.length co10 : Value).ownBlock) (fun k_ => some k_ = (.slice Ao61 x14_4.length co61 : Value).ownBlock) rfl rfl ?aP (fun k_ hk_ => ((Kd.R_mono (ok' := fun k_ => ((fun k_ => some k_ ≠ (.slice Ao10 x6_2.length co10 : Value).ownBlock ∧ some k_ ≠ (.slice Ao10 x6_2.length co10 : Value).ownBlock)) k_ ∧ some k_ ≠ (u12 : Value).ownBlock) (Kd.R_apart' (HO_14.out) (Kd.S_typed HO_12.out) (by decide)) (fun k_ hk => ⟨⟨hk.1.1, hk.1.2⟩, hk.2⟩))).1 k_ hk_.symm) ?aF ?aO ?aB ?aS ?aL ?_; (case aP => exact Kd.M_row (Kd.R_mono (Kd.R_tight rfl (Kd.R_mono (ok' := fun k_ => ((fun k_ => some k_ ≠ (.slice Ao10 x6_2.length co10 : Value).ownBlock ∧ some k_ ≠ (.slice Ao10 x6_2.length co10 : Value).ownBlock)) k_ ∧ some k_ ≠ (u12 : Value).ownBlock) (Kd.R_apart' (HO_14.out) (Kd.S_typed HO_12.out) (by decide)) (fun k_ hk => ⟨⟨hk.1.1, hk.1.2⟩, hk.2⟩))) (fun _ h_ => h_))); (case aB => exact (by repeat (first | (with_reducible first | exact HB.out | apply below_alloc | apply pw_below_drewN | apply below_drew1) | exact HB.out))); (case aF => exact (fun k_ hk => ⟨Kd.fresh' (Kd.R_lt (by (with_reducible repeat (first | apply Kd.R_alloc | apply Kd.R_drewN | apply Kd.R_drew)); exact HO_6.out)) k_ hk, Kd.fresh' (Kd.R_lt (by (with_reducible repeat (first | apply Kd.R_alloc | apply Kd.R_drewN | apply Kd.R_drew)); exact HO_83.out)) k_ hk⟩)); (case aO => exact (by (with_reducible repeat (first | apply Kd.S_alloc | apply Kd.S_drewN | apply Kd.S_drew)); exact Kd.S_mono HO_12.out (fun k_ hk => ⟨⟨hk.1, hk.2.2⟩, fun e_ => hk.2.1 e_⟩))); (case aS => exact (below_size (by repeat (first | (with_reducible first | exact HB.out | apply below_alloc | apply pw_below_drewN | apply below_drew1) | exact HB.out)))); (case aL => have := LMc60.out; omega); intro v128 w62 ho hb hg hat; rw [← Ny127.out] at ho; have n0_ := Aside0.mk (Kd.R_over' (by (with_reducible repeat (first | apply Kd.R_alloc | apply Kd.R_drewN | apply Kd.R_drew)); exact HO_6.out) (Kd.S_typed (by (with_reducible repeat (first | apply Kd.S_alloc | apply Kd.S_drewN | apply Kd.S_drew)); exact HO_12.out)) (by decide) hg); have n1_ := Aside0.mk (Kd.R_over' (by (with_reducible repeat (first | apply Kd.R_alloc | apply Kd.R_drewN | apply Kd.R_drew)); exact HO_83.out) (Kd.S_typed (by (with_reducible repeat (first | apply Kd.S_alloc | apply Kd.S_drewN | apply Kd.S_drew)); exact HO_12.out)) (by decide) hg); have n2_ := Aside0.mk (hb); have n3_ := Aside0.mk (ho); clear HO_6; clear HO_83; clear HB; clear HO_12; clear HO_14; have HO_6 := n0_; have HO_83 := n1_; have HB := n2_; have HO129 := n3_; clear n0_ n1_ n2_ n3_; clear ho hb hg hat))
                                    repeat (go_quiet (first | ((with_reducible refine gate_builtin (b := .append) (xs := #[.tmp 101, .tmp 103]) rfl ?_); at_builtin; refine Kd.S_append (Kd.slice 3 (Kd.int .i64)) (w0 := w) w.heap.size rfl (.tmp 101) (.tmp 103) 24 67 (.slice none 0 0) 24 rfl Try.underlying24 info67 rfl (by decide) (by omega) u12 x12_3 x14_4 [.slice Ao61 x14_4.length co61] (fun k_ => some k_ ≠ (.slice Ao10 x6_2.length co10 : Value).ownBlock ∧ some k_ ≠ (.slice Ao10 x6_2.length co10 : Value).ownBlock) (fun k_ => some k_ = (.slice Ao61 x14_4.length co61 : Value).ownBlock) rfl rfl ?aP (fun k_ hk_ => ((Kd.R_mono (ok' := fun k_ => ((fun k_ => some k_ ≠ (.slice Ao10 x6_2.length co10 : Value).ownBlock ∧ some k_ ≠ (.slice Ao10 x6_2.length co10 : Value).ownBlock)) k_ ∧ some k_ ≠ (u12 : Value).ownBlock) (Kd.R_apart' (HO_14.out) (Kd.S_typed HO_12.out) (by decide)) (fun k_ hk => ⟨⟨hk.1.1, hk.1.2⟩, hk.2⟩))).1 k_ hk_.symm) ?aF ?aO ?aB ?aS ?aL ?_; (case aP => exact Kd.M_row (Kd.R_mono (Kd.R_tight rfl (Kd.R_mono (ok' := fun k_ => ((fun k_ => some k_ ≠ (.slice Ao10 x6_2.length co10 : Value).ownBlock ∧ some k_ ≠ (.slice Ao10 x6_2.length co10 : Value).ownBlock)) k_ ∧ some k_ ≠ (u12 : Value).ownBlock) (Kd.R_apart' (HO_14.out) (Kd.S_typed HO_12.out) (by decide)) (fun k_ hk => ⟨⟨hk.1.1, hk.1.2⟩, hk.2⟩))) (fun _ h_ => h_))); (case aB => exact (by repeat (first | (with_reducible first | exact HB.out | apply below_alloc | apply pw_below_drewN | apply below_drew1) | exact HB.out))); (case aF => exact (fun k_ hk => ⟨Kd.fresh' (Kd.R_lt (by (with_reducible repeat (first | apply Kd.R_alloc | apply Kd.R_drewN | apply Kd.R_drew)); exact HO_6.out)) k_ hk, Kd.fresh' (Kd.R_lt (by (with_reducible repeat (first | apply Kd.R_alloc | apply Kd.R_drewN | apply Kd.R_drew)); exact HO_83.out)) k_ hk⟩)); (case aO => exact (by (with_reducible repeat (first | apply Kd.S_alloc | apply Kd.S_drewN | apply Kd.S_drew)); exact Kd.S_mono HO_12.out (fun k_ hk => ⟨⟨hk.1, hk.2.2⟩, fun e_ => hk.2.1 e_⟩))); (case aS => exact (below_size (by repeat (first | (with_reducible first | exact HB.out | apply below_alloc | apply pw_below_drewN | apply below_drew1) | exact HB.out)))); (case aL => have := LMc60.out; omega); intro v128 w62 ho hb hg hat; rw [← Ny127.out] at ho; have n0_ := Aside0.mk (Kd.R_over' (by (with_reducible repeat (first | apply Kd.R_alloc | apply Kd.R_drewN | apply Kd.R_drew)); exact HO_6.out) (Kd.S_typed (by (with_reducible repeat (first | apply Kd.S_alloc | apply Kd.S_drewN | apply Kd.S_drew)); exact HO_12.out)) (by decide) hg); have n1_ := Aside0.mk (Kd.R_over' (by (with_reducible repeat (first | apply Kd.R_alloc | apply Kd.R_drewN | apply Kd.R_drew)); exact HO_83.out) (Kd.S_typed (by (with_reducible repeat (first | apply Kd.S_alloc | apply Kd.S_drewN | apply Kd.S_drew)); exact HO_12.out)) (by decide) hg); have n2_ := Aside0.mk (hb); have n3_ := Aside0.mk (ho); clear HO_6; clear HO_83; clear HB; clear HO_12; clear HO_14; have HO_6 := n0_; have HO_83 := n1_; have HB := n2_; have HO129 := n3_; clear n0_ n1_ n2_ n3_; clear ho hb hg hat)); try go_wp2_with (first | ((with_reducible refine gate_builtin (b := .append) (xs := #[.tmp 101, .tmp 103]) rfl ?_); at_builtin; refine Kd.S_append (Kd.slice 3 (Kd.int .i64)) (w0 := w) w.heap.size rfl (.tmp 101) (.tmp 103) 24 67 (.slice none 0 0) 24 rfl Try.underlying24 info67 rfl (by decide) (by omega) u12 x12_3 x14_4 [.slice Ao61 x14_4.length co61] (fun k_ => some k_ ≠ (.slice Ao10 x6_2.length co10 : Value).ownBlock ∧ some k_ ≠ (.slice Ao10 x6_2.length co10 : Value).ownBlock) (fun k_ => some k_ = (.slice Ao61 x14_4.length co61 : Value).ownBlock) rfl rfl ?aP (fun k_ hk_ => ((Kd.R_mono (ok' := fun k_ => ((fun k_ => some k_ ≠ (.slice Ao10 x6_2.length co10 : Value).ownBlock ∧ some k_ ≠ (.slice Ao10 x6_2.length co10 : Value).ownBlock)) k_ ∧ some k_ ≠ (u12 : Value).ownBlock) (Kd.R_apart' (HO_14.out) (Kd.S_typed HO_12.out) (by decide)) (fun k_ hk => ⟨⟨hk.1.1, hk.1.2⟩, hk.2⟩))).1 k_ hk_.symm) ?aF ?aO ?aB ?aS ?aL ?_; (case aP => exact Kd.M_row (Kd.R_mono (Kd.R_tight rfl (Kd.R_mono (ok' := fun k_ => ((fun k_ => some k_ ≠ (.slice Ao10 x6_2.length co10 : Value).ownBlock ∧ some k_ ≠ (.slice Ao10 x6_2.length co10 : Value).ownBlock)) k_ ∧ some k_ ≠ (u12 : Value).ownBlock) (Kd.R_apart' (HO_14.out) (Kd.S_typed HO_12.out) (by decide)) (fun k_ hk => ⟨⟨hk.1.1, hk.1.2⟩, hk.2⟩))) (fun _ h_ => h_))); (case aB => exact (by repeat (first | (with_reducible first | exact HB.out | apply below_alloc | apply pw_below_drewN | apply below_drew1) | exact HB.out))); (case aF => exact (fun k_ hk => ⟨Kd.fresh' (Kd.R_lt (by (with_reducible repeat (first | apply Kd.R_alloc | apply Kd.R_drewN | apply Kd.R_drew)); exact HO_6.out)) k_ hk, Kd.fresh' (Kd.R_lt (by (with_reducible repeat (first | apply Kd.R_alloc | apply Kd.R_drewN | apply Kd.R_drew)); exact HO_83.out)) k_ hk⟩)); (case aO => exact (by (with_reducible repeat (first | apply Kd.S_alloc | apply Kd.S_drewN | apply Kd.S_drew)); exact Kd.S_mono HO_12.out (fun k_ hk => ⟨⟨hk.1, hk.2.2⟩, fun e_ => hk.2.1 e_⟩))); (case aS => exact (below_size (by repeat (first | (with_reducible first | exact HB.out | apply below_alloc | apply pw_below_drewN | apply below_drew1) | exact HB.out)))); (case aL => have := LMc60.out; omega); intro v128 w62 ho hb hg hat; rw [← Ny127.out] at ho; have n0_ := Aside0.mk (Kd.R_over' (by (with_reducible repeat (first | apply Kd.R_alloc | apply Kd.R_drewN | apply Kd.R_drew)); exact HO_6.out) (Kd.S_typed (by (with_reducible repeat (first | apply Kd.S_alloc | apply Kd.S_drewN | apply Kd.S_drew)); exact HO_12.out)) (by decide) hg); have n1_ := Aside0.mk (Kd.R_over' (by (with_reducible repeat (first | apply Kd.R_alloc | apply Kd.R_drewN | apply Kd.R_drew)); exact HO_83.out) (Kd.S_typed (by (with_reducible repeat (first | apply Kd.S_alloc | apply Kd.S_drewN | apply Kd.S_drew)); exact HO_12.out)) (by decide) hg); have n2_ := Aside0.mk (hb); have n3_ := Aside0.mk (ho); clear HO_6; clear HO_83; clear HB; clear HO_12; clear HO_14; have HO_6 := n0_; have HO_83 := n1_; have HB := n2_; have HO129 := n3_; clear n0_ n1_ n2_ n3_; clear ho hb hg hat)))
                                    go_roundg k4
                                    case measure => have := HK1.out; have := HK2.out; have := HK3.out; have := HK4.out; omega
                                    case rel => exact ⟨(y127), (wrap64 (x13_3 + 1)), (by first | rfl | (simp; done) | (simp [*]; done)), H', ⟨by have := HK1.out; have := HK2.out; have := HK3.out; have := HK4.out; omega⟩, ⟨by (try simp only [hl6_1]); (try simp only [hl6_2]); (with_reducible repeat (first | apply Kd.R_alloc | apply Kd.R_drewN | apply Kd.R_drew)); exact Kd.R_mono HO_6.out (fun _ hk => trivial)⟩, ⟨by (try simp only [hl6_1]); (try simp only [hl6_2]); (with_reducible repeat (first | apply Kd.S_alloc | apply Kd.S_drewN | apply Kd.S_drew)); exact Kd.S_mono HO129.out (fun _ hk => hk.1)⟩, ⟨by repeat (first | (with_reducible first | exact HB.out | apply below_alloc | apply pw_below_drewN | apply below_drew1) | exact HB.out)⟩⟩
                                  · rw [if_neg c60] at H
                                    exact absurd H (by simp)
                                · rw [if_neg c59] at H
                                  have c59b0 : decide (0 < (x14_4.length : Int)) = false := decide_eq_false c59
                                  have c59b1 : decide (0 < x14_4.length) = false := decide_eq_false (by omega)
                                  (try (have c59b0h := c59b0; simp only [hl6_1, hl6_2] at c59b0h))
                                  (try (have c59b1h := c59b1; simp only [hl6_1, hl6_2] at c59b1h))
                                  clear c59
                                  have H' := Aside0.mk H
                                  clear H
                                  obtain ⟨Ao63, co63, eo63⟩ := Kd.R_slice HO_14.out
                                  subst eo63
                                  go_wp2
                                  repeat (go_quiet (fail); try go_wp2)
                                  go_roundg k4
                                  case measure => have := HK1.out; have := HK2.out; have := HK3.out; have := HK4.out; omega
                                  case rel => exact ⟨(x12_3), (wrap64 (x13_3 + 1)), (by first | rfl | (simp; done) | (simp [*]; done)), H', ⟨by have := HK1.out; have := HK2.out; have := HK3.out; have := HK4.out; omega⟩, ⟨by (try simp only [hl6_1]); (try simp only [hl6_2]); (with_reducible repeat (first | apply Kd.R_alloc | apply Kd.R_drewN | apply Kd.R_drew)); exact Kd.R_mono HO_6.out (fun _ hk => trivial)⟩, ⟨by (try simp only [hl6_1]); (try simp only [hl6_2]); (with_reducible repeat (first | apply Kd.S_alloc | apply Kd.S_drewN | apply Kd.S_drew)); exact Kd.S_mono HO_12.out (fun _ hk => hk.1)⟩, ⟨by repeat (first | (with_reducible first | exact HB.out | apply below_alloc | apply pw_below_drewN | apply below_drew1) | exact HB.out)⟩⟩
                        · rw [if_neg c52] at H
                          have c52b0 : decide (x13_3 < a0) = false := decide_eq_false c52
                          clear c52
                          simp only [Option.some.injEq, Prod.mk.injEq] at H
                          obtain ⟨rfl, rfl⟩ := H
                          go_wp2
                          repeat (go_quiet (fail); try go_wp2)
                          go_ret2
                          exact ⟨_, by first | rfl | (simp [errW_none, errW_some] <;> rfl) | (simp [*, errW_none, errW_some] <;> rfl), by (with_reducible repeat (first | apply Kd.S_alloc | apply Kd.S_drewN | apply Kd.S_drew)); exact Kd.S_mono HO_12.out (fun _ hk => trivial), by repeat (first | (with_reducible first | exact HB.out | apply below_alloc | apply pw_below_drewN | apply below_drew1) | exact HB.out)⟩
      · rw [if_neg c6] at H
        exact absurd H (by simp)
    · rw [if_neg c5] at H
      exact absurd H (by simp)
  · replace c4 := Bool.eq_false_iff.mpr c4
    subst c4
    have H1 : (some (([] : List (List Int)), false)) = some (r1, r2) := by rw [if_neg (show ¬ (false = true) by decide)] at H; exact H
    clear H
    have H := H1
    clear H1
    simp only [Option.some.injEq, Prod.mk.injEq] at H
    obtain ⟨rfl, rfl⟩ := H
    go_enter Try.func8, Try.ntmps8
    go_wp2_with (first | (go_at_call 70; (with_reducible refine (spec_liGood.calls k a0 _ _ l1 false _ ?side1 ?side2 A3.out).mono ?_); (case side1 => repeat (first | exact HR1.out | (with_reducible refine Kd.C_alloc ?_ _) | (with_reducible refine Kd.C_drewN ?_ _) | (with_reducible refine Kd.C_drew ?_))); (case side2 => exact HC1.out); rintro e w64 ⟨rfl, hb⟩; have n0_ := Aside0.mk (below_step (by repeat (first | (with_reducible first | exact HB.out | apply below_alloc | apply pw_below_drewN | apply below_drew1) | exact HB.out)) hb); clear HB; have HB := n0_; clear n0_; (try clear hb); (try clear hb2); (try clear hk); (try clear hi)))
    repeat (go_quiet (first | (go_at_call 70; (with_reducible refine (spec_liGood.calls k a0 _ _ l1 false _ ?side1 ?side2 A3.out).mono ?_); (case side1 => repeat (first | exact HR1.out | (with_reducible refine Kd.C_alloc ?_ _) | (with_reducible refine Kd.C_drewN ?_ _) | (with_reducible refine Kd.C_drew ?_))); (case side2 => exact HC1.out); rintro e w64 ⟨rfl, hb⟩; have n0_ := Aside0.mk (below_step (by repeat (first | (with_reducible first | exact HB.out | apply below_alloc | apply pw_below_drewN | apply below_drew1) | exact HB.out)) hb); clear HB; have HB := n0_; clear n0_; (try clear hb); (try clear hb2); (try clear hk); (try clear hi))); try go_wp2_with (first | (go_at_call 70; (with_reducible refine (spec_liGood.calls k a0 _ _ l1 false _ ?side1 ?side2 A3.out).mono ?_); (case side1 => repeat (first | exact HR1.out | (with_reducible refine Kd.C_alloc ?_ _) | (with_reducible refine Kd.C_drewN ?_ _) | (with_reducible refine Kd.C_drew ?_))); (case side2 => exact HC1.out); rintro e w64 ⟨rfl, hb⟩; have n0_ := Aside0.mk (below_step (by repeat (first | (with_reducible first | exact HB.out | apply below_alloc | apply pw_below_drewN | apply below_drew1) | exact HB.out)) hb); clear HB; have HB := n0_; clear n0_; (try clear hb); (try clear hb2); (try clear hk); (try clear hi))))
    go_ret2
    exact ⟨_, by first | rfl | (simp [errW_none, errW_some] <;> rfl) | (simp [*, errW_none, errW_some] <;> rfl), by first | exact Kd.S_nil _ _ _ _ _ | exact Kd.N_nil _ _ _ _ _ | exact Kd.V_nil _ _ _ _ _ | exact Kd.Q_nil _ _ _ _ _ | exact Kd.R_nil _ _ _ _ _, by repeat (first | (with_reducible first | exact HB.out | apply below_alloc | apply pw_below_drewN | apply below_drew1) | exact HB.out)⟩

end Go.Proofs.Ytokkmkncplkpiaa.P
