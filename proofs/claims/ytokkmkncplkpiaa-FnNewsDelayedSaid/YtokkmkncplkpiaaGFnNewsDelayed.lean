/- The law FnNewsDelayed: its body as one statement, and the walk. Laid by lawgen.py. -/
import Derived.Test.YtokkmkncplkpiaaLwC
import Derived.Test.YtokkmkncplkpiaaP3
import Derived.Test.YtokkmkncplkpiaaP4
import Derived.Test.YtokkmkncplkpiaaP5
import Derived.Test.YtokkmkncplkpiaaP6
import Derived.Test.YtokkmkncplkpiaaP7
import Derived.Test.YtokkmkncplkpiaaP8
import Derived.Test.YtokkmkncplkpiaaP9
import Derived.Test.YtokkmkncplkpiaaP10
import Derived.Test.YtokkmkncplkpiaaP11
import Derived.Test.YtokkmkncplkpiaaP15
import Derived.Test.YtokkmkncplkpiaaP16
import Derived.Test.YtokkmkncplkpiaaP17
import Derived.Test.YtokkmkncplkpiaaP20
import Derived.Test.YtokkmkncplkpiaaP21
set_option linter.unusedVariables false
namespace Go.Proofs.Ytokkmkncplkpiaa.G
open Go.RowKit Go.Proofs.YtokkmkncplkpiaaW.PrintWords Go.Proofs.YtokkmkncplkpiaaW.PrintLast Go.Proofs.YtokkmkncplkpiaaW.PrintMore Go.Proofs.Ytokkmkncplkpiaa.P Go.Proofs.Ytokkmkncplkpiaa.Lw
def FnNewsDelayed.j4 : Prop :=
 True
def FnNewsDelayed.l5 (t215_39 : List (S48)) : Nat → Int → Prop
 | 0, _ => False
 | k + 1, x55 =>
 ((decide (x55 < (t215_39.length : Int))) = true →
 (0 ≤ x55 ∧ x55 < (t215_39.length : Int)) ∧
 (((t215_39.getD (Int.toNat x55) z48).f1) != (wrap64 (x55 + 1))) = false ∧
 ((decide (x55 > 0)) = true →
 (0 ≤ (wrap64 (x55 - 1)) ∧ (wrap64 (x55 - 1)) < (t215_39.length : Int)) ∧
 (decide (((t215_39.getD (Int.toNat (wrap64 (x55 - 1))) z48).f2) > ((t215_39.getD (Int.toNat x55) z48).f2))) = false ∧
 (0 ≤ (wrap64 (x55 - 1)) ∧ (wrap64 (x55 - 1)) < (t215_39.length : Int)) ∧
 ((((t215_39.getD (Int.toNat (wrap64 (x55 - 1))) z48).f2) == ((t215_39.getD (Int.toNat x55) z48).f2)) = true →
 (0 ≤ (wrap64 (x55 - 1)) ∧ (wrap64 (x55 - 1)) < (t215_39.length : Int)) ∧
 (decide (((t215_39.getD (Int.toNat (wrap64 (x55 - 1))) z48).f0) ≥ ((t215_39.getD (Int.toNat x55) z48).f0))) = false ∧
 FnNewsDelayed.l5 t215_39 k (wrap64 (x55 + 1))) ∧ ((((t215_39.getD (Int.toNat (wrap64 (x55 - 1))) z48).f2) == ((t215_39.getD (Int.toNat x55) z48).f2)) = false →
 FnNewsDelayed.l5 t215_39 k (wrap64 (x55 + 1)))) ∧ ((decide (x55 > 0)) = false →
 FnNewsDelayed.l5 t215_39 k (wrap64 (x55 + 1)))) ∧ ((decide (x55 < (t215_39.length : Int))) = false →
 FnNewsDelayed.j4)
def FnNewsDelayed.j3 (t215_40 : Bool) (t209_36 : Int) (t209_37 : Int) (t215_39 : List (S48)) : Prop :=
 (t215_40 = true →
 ∃ (q51 : Nat) (t322_49 : Bool) (t322_50 : Bool), impl_AreSends.f q51 t209_36 t209_37 t215_39 = some (t322_49, t322_50) ∧
 ∃ (q54 : Nat) (t329_52 : Int) (t329_53 : Bool), impl_LateBy.f q54 t209_36 t209_37 t215_39 = some (t329_52, t329_53) ∧
 (!t322_50) = false ∧
 (!t322_49) = false ∧
 (!t329_53) = false ∧
 (t329_52 != 0) = false ∧
 ((t215_39.length : Int) != (wrap64 (t209_37 - 1))) = false ∧
 ∃ k, FnNewsDelayed.l5 t215_39 k 0) ∧ (t215_40 = false →
 FnNewsDelayed.j4)
def FnNewsDelayed.j2 (t198_31 : Bool) (t198_30 : Int) (t192_27 : Int) (t192_28 : Int) (t215_40 : Bool) (t209_36 : Int) (t209_37 : Int) (t215_39 : List (S48)) : Prop :=
 (t198_31 = true →
 ∃ (q63 : Nat) (t291_61 : Int) (t291_62 : Bool), impl_MinutesFor.f q63 t198_30 t192_27 = some (t291_61, t291_62) ∧
 (!t291_62) = false ∧
 (decide (t291_61 > t192_28)) = false ∧
 ((decide (t198_30 < 10)) = true →
 ∃ (q66 : Nat) (t307_64 : Int) (t307_65 : Bool), impl_MinutesFor.f q66 (wrap64 (t198_30 + 1)) t192_27 = some (t307_64, t307_65) ∧
 (!t307_65) = false ∧
 (decide (t307_64 ≤ t192_28)) = false ∧
 FnNewsDelayed.j3 t215_40 t209_36 t209_37 t215_39) ∧ ((decide (t198_30 < 10)) = false →
 FnNewsDelayed.j3 t215_40 t209_36 t209_37 t215_39)) ∧ (t198_31 = false →
 FnNewsDelayed.j3 t215_40 t209_36 t209_37 t215_39)
def FnNewsDelayed.j1 (l1 : List Int) : Prop :=
 ∃ (t175_18 : Int) (t175_19 : Int), spec_DrawMinutesFor.f l1 = some (t175_18, t175_19) ∧
 ∃ (q23 : Nat) (t181_21 : Int) (t181_22 : Bool), impl_MinutesFor.f q23 t175_18 t175_19 = some (t181_21, t181_22) ∧
 ∃ (q26 : Nat) (t187_24 : Int) (t187_25 : Bool), spec_MinutesFor.f q26 t175_18 t175_19 = some (t187_24, t187_25) ∧
 ∃ (t192_27 : Int) (t192_28 : Int), spec_DrawGreatestDelay.f l1 = some (t192_27, t192_28) ∧
 ∃ (q32 : Nat) (t198_30 : Int) (t198_31 : Bool), impl_GreatestDelay.f q32 t192_27 t192_28 = some (t198_30, t198_31) ∧
 ∃ (q35 : Nat) (t204_33 : Int) (t204_34 : Bool), spec_GreatestDelay.f q35 t192_27 t192_28 = some (t204_33, t204_34) ∧
 ∃ (q38 : Nat) (t209_36 : Int) (t209_37 : Int), spec_DrawQuickSends.f q38 l1 = some (t209_36, t209_37) ∧
 ∃ (q41 : Nat) (t215_39 : List (S48)) (t215_40 : Bool), impl_QuickSends.f q41 t209_36 t209_37 = some (t215_39, t215_40) ∧
 ∃ (q45 : Nat) (t221_43 : List (S48)) (t221_44 : Bool), spec_QuickSends.f q45 t209_36 t209_37 = some (t221_43, t221_44) ∧
 (t181_22 != t187_25) = false ∧
 (t181_21 != t187_24) = false ∧
 (t198_31 != t204_34) = false ∧
 (t198_30 != t204_33) = false ∧
 (t215_40 != t221_44) = false ∧
 ∃ (q48 : Nat) (t250_47 : Bool), laws_dSends.f q48 t215_39 t221_43 = some t250_47 ∧
 (!t250_47) = false ∧
 (t181_22 = true →
 ((decide (t181_21 ≤ 60)) = true →
 ∃ (q69 : Nat) (t261_67 : Int) (t261_68 : Bool), impl_InformedAt.f q69 t175_18 t181_21 = some (t261_67, t261_68) ∧
 (!t261_68) = false ∧
 (decide (t261_67 < t175_19)) = false ∧
 ((decide (t181_21 > 0)) = true →
 ∃ (q72 : Nat) (t277_70 : Int) (t277_71 : Bool), impl_InformedAt.f q72 t175_18 (wrap64 (t181_21 - 1)) = some (t277_70, t277_71) ∧
 (!t277_71) = false ∧
 (decide (t277_70 ≥ t175_19)) = false ∧
 FnNewsDelayed.j2 t198_31 t198_30 t192_27 t192_28 t215_40 t209_36 t209_37 t215_39) ∧ ((decide (t181_21 > 0)) = false →
 FnNewsDelayed.j2 t198_31 t198_30 t192_27 t192_28 t215_40 t209_36 t209_37 t215_39)) ∧ ((decide (t181_21 ≤ 60)) = false →
 FnNewsDelayed.j2 t198_31 t198_30 t192_27 t192_28 t215_40 t209_36 t209_37 t215_39)) ∧ (t181_22 = false →
 FnNewsDelayed.j2 t198_31 t198_30 t192_27 t192_28 t215_40 t209_36 t209_37 t215_39)
def FnNewsDelayed.j7 (t65_6 : Int) (t59_3 : Int) (t59_4 : Int) (t77_12 : Int) (l1 : List Int) : Prop :=
 ((decide (t65_6 ≤ 1000000)) = true →
 ∃ (q76 : Nat) (t154_74 : Int) (t154_75 : Bool), impl_MinutesFor.f q76 t59_3 t65_6 = some (t154_74, t154_75) ∧
 (!t154_75) = false ∧
 (decide (t154_74 > t59_4)) = false ∧
 ((decide (t77_12 > 0)) = true →
 (t154_74 != t59_4) = false ∧
 FnNewsDelayed.j1 l1) ∧ ((decide (t77_12 > 0)) = false →
 FnNewsDelayed.j1 l1)) ∧ ((decide (t65_6 ≤ 1000000)) = false →
 FnNewsDelayed.j1 l1)
def FnNewsDelayed.j6 (t77_12 : Int) (t65_6 : Int) (x73 : Int) (t59_4 : Int) (t59_3 : Int) (l1 : List Int) : Prop :=
 (t77_12 != (wrap64 (t65_6 - x73))) = false ∧
 (decide (t65_6 < 1)) = false ∧
 ((decide (t59_4 ≥ t59_3)) = true →
 ∃ (q79 : Nat) (t139_77 : Int) (t139_78 : Bool), impl_InformedAt.f q79 t59_3 (wrap64 (t59_4 - t59_3)) = some (t139_77, t139_78) ∧
 (!t139_78) = false ∧
 (t77_12 != t139_77) = false ∧
 FnNewsDelayed.j7 t65_6 t59_3 t59_4 t77_12 l1) ∧ ((decide (t59_4 ≥ t59_3)) = false →
 FnNewsDelayed.j7 t65_6 t59_3 t59_4 t77_12 l1)
def FnNewsDelayed.wp (l0 : List Int) (l1 : List Int) : Prop :=
 ∃ (t56_1 : Bool), laws_big.f l0 l1 = some t56_1 ∧
 (t56_1 = true →
 True) ∧ (t56_1 = false →
 ∃ (t59_3 : Int) (t59_4 : Int), spec_DrawInformedAt.f l0 = some (t59_3, t59_4) ∧
 ∃ (q8 : Nat) (t65_6 : Int) (t65_7 : Bool), impl_InformedAt.f q8 t59_3 t59_4 = some (t65_6, t65_7) ∧
 ∃ (q11 : Nat) (t71_9 : Int) (t71_10 : Bool), spec_InformedAt.f q11 t59_3 t59_4 = some (t71_9, t71_10) ∧
 ∃ (q14 : Nat) (t77_12 : Int) (t77_13 : Bool), impl_NewAt.f q14 t59_3 t59_4 = some (t77_12, t77_13) ∧
 ∃ (q17 : Nat) (t83_15 : Int) (t83_16 : Bool), spec_NewAt.f q17 t59_3 t59_4 = some (t83_15, t83_16) ∧
 (t65_7 != t71_10) = false ∧
 (t65_6 != t71_9) = false ∧
 (t77_13 != t83_16) = false ∧
 (t77_12 != t83_15) = false ∧
 (t77_13 != t65_7) = false ∧
 (t65_7 = true →
 ((decide (t59_4 > 0)) = true →
 ∃ (q82 : Nat) (t116_80 : Int) (t116_81 : Bool), impl_InformedAt.f q82 t59_3 (wrap64 (t59_4 - 1)) = some (t116_80, t116_81) ∧
 (!t116_81) = false ∧
 FnNewsDelayed.j6 t77_12 t65_6 t116_80 t59_4 t59_3 l1) ∧ ((decide (t59_4 > 0)) = false →
 FnNewsDelayed.j6 t77_12 t65_6 0 t59_4 t59_3 l1)) ∧ (t65_7 = false →
 FnNewsDelayed.j1 l1))
def f48 (x : S48) : List Value := [.int .i64 x.f0, .int .i64 x.f1, .int .i64 x.f2]
theorem Fk48 : Fun k48 f48 := fun _ _ _ h => k48_open h
theorem e16 : Ent Try.prog 16 := ⟨_, Try.func16, by kernel_rfl, by kernel_rfl⟩
theorem e17 : Ent Try.prog 17 := ⟨_, Try.func17, by kernel_rfl, by kernel_rfl⟩
theorem e18 : Ent Try.prog 18 := ⟨_, Try.func18, by kernel_rfl, by kernel_rfl⟩
theorem e19 : Ent Try.prog 19 := ⟨_, Try.func19, by kernel_rfl, by kernel_rfl⟩
theorem e20 : Ent Try.prog 20 := ⟨_, Try.func20, by kernel_rfl, by kernel_rfl⟩
theorem e21 : Ent Try.prog 21 := ⟨_, Try.func21, by kernel_rfl, by kernel_rfl⟩
theorem e22 : Ent Try.prog 22 := ⟨_, Try.func22, by kernel_rfl, by kernel_rfl⟩
theorem e23 : Ent Try.prog 23 := ⟨_, Try.func23, by kernel_rfl, by kernel_rfl⟩
theorem e24 : Ent Try.prog 24 := ⟨_, Try.func24, by kernel_rfl, by kernel_rfl⟩
theorem e25 : Ent Try.prog 25 := ⟨_, Try.func25, by kernel_rfl, by kernel_rfl⟩
theorem e26 : Ent Try.prog 26 := ⟨_, Try.func26, by kernel_rfl, by kernel_rfl⟩
theorem e27 : Ent Try.prog 27 := ⟨_, Try.func27, by kernel_rfl, by kernel_rfl⟩
theorem e28 : Ent Try.prog 28 := ⟨_, Try.func28, by kernel_rfl, by kernel_rfl⟩
theorem e29 : Ent Try.prog 29 := ⟨_, Try.func29, by kernel_rfl, by kernel_rfl⟩
theorem e30 : Ent Try.prog 30 := ⟨_, Try.func30, by kernel_rfl, by kernel_rfl⟩
theorem e31 : Ent Try.prog 31 := ⟨_, Try.func31, by kernel_rfl, by kernel_rfl⟩
theorem e32 : Ent Try.prog 32 := ⟨_, Try.func32, by kernel_rfl, by kernel_rfl⟩
theorem e33 : Ent Try.prog 33 := ⟨_, Try.func33, by kernel_rfl, by kernel_rfl⟩
theorem o3 : oneB Try.prog 3 = true := by kernel_rfl
theorem s3 : (Try.prog.info? 3).map (·.size) = some 1 := by kernel_rfl
theorem s48 : (Try.prog.info? 48).map (·.size) = some 3 := by kernel_rfl
theorem zr48 : (Try.prog.info? 48).map (·.zero) = some (some (.agg (f48 z48).toArray)) := by kernel_rfl
theorem mixed : Try.prog.follows .mixedOrders = true := by kernel_rfl
set_option maxHeartbeats 4000000 in
set_option maxRecDepth 100000 in
theorem FnNewsDelayed.calls (A0_ : Option Addr) (c0_ : Nat) (l0 : List Int) (A1_ : Option Addr) (c1_ : Nat) (l1 : List Int) (w : World) (hr0 : Kd.C (Kd.int .u8) w A0_ l0.length l0) (hc0 : l0.length ≤ c0_) (hr1 : Kd.C (Kd.int .u8) w A1_ l1.length l1) (hc1 : l1.length ≤ c1_) (H : FnNewsDelayed.wp l0 l1) :
    Calls Try.prog 4 #[.slice A0_ l0.length c0_, .slice A1_ l1.length c1_] w fun e w' => e = .returned (.bool true) ∧ Below w.heap.size w w' := by
  unfold FnNewsDelayed.wp at H
  refine enter (vs := [.slice A0_ l0.length c0_, .slice A1_ l1.length c1_]) Try.func4 rfl Try.ntmps4 rfl ?_
  obtain ⟨t56_1, h2, H⟩ := H
  refine W_seq (W_region (V rfl rfl (WL_nil (E_then (W_seq (W_seq (W_region (V rfl rfl (V rfl rfl (C0 rfl e16 rfl (fun w b s => (laws_big.calls A0_ c0_ l0 A1_ c1_ l1 t56_1 w ((CF.arg hr0) w ⟨b, s⟩) hc0 ((CF.arg hr1) w ⟨b, s⟩) hc1 h2).mono fun _ _ h => ⟨h.1, h.2.below⟩) ?_))))))))))
  refine WL_nil (E_then (W_cond rfl (fun c => ?_) (fun c => ?_)))
  · replace H := H.1 c
    refine W_seq (W_region (V rfl rfl (WL_nil (E_then (W_ret (E_thenR (E_body rfl rfl fun _ _ s => ⟨rfl, s.below⟩)))))))
  · replace H := H.2 c
    obtain ⟨t59_3, t59_4, h5, H⟩ := H
    refine W_skip (E_then (W_seq (W_region (V rfl rfl (C0 rfl e17 rfl (fun w b s => (spec_DrawInformedAt.calls A0_ c0_ l0 t59_3 t59_4 w ((CF.arg hr0) w ⟨b, s⟩) hc0 h5).mono fun _ _ h => ⟨h.1, h.2⟩) ?_)))))
    obtain ⟨q8, t65_6, t65_7, hq8, H⟩ := H
    refine V rfl rfl (V rfl rfl (V rfl rfl (V rfl rfl (V rfl rfl (WL_nil (E_then (W_seq (W_region (V rfl rfl (V rfl rfl (C0 rfl e18 rfl (fun w b s => (impl_InformedAt.calls q8 t59_3 t59_4 t65_6 t65_7 w hq8).mono fun _ _ h => ⟨h.1, h.2⟩) ?_)))))))))))
    obtain ⟨q11, t71_9, t71_10, hq11, H⟩ := H
    refine V rfl rfl (V rfl rfl (V rfl rfl (V rfl rfl (V rfl rfl (WL_nil (E_then (W_seq (W_region (V rfl rfl (V rfl rfl (C0 rfl e19 rfl (fun w b s => (spec_InformedAt.calls q11 t59_3 t59_4 t71_9 t71_10 w hq11).mono fun _ _ h => ⟨h.1, h.2⟩) ?_)))))))))))
    obtain ⟨q14, t77_12, t77_13, hq14, H⟩ := H
    refine V rfl rfl (V rfl rfl (V rfl rfl (V rfl rfl (V rfl rfl (WL_nil (E_then (W_seq (W_region (V rfl rfl (V rfl rfl (C0 rfl e20 rfl (fun w b s => (impl_NewAt.calls q14 t59_3 t59_4 t77_12 t77_13 w hq14).mono fun _ _ h => ⟨h.1, h.2⟩) ?_)))))))))))
    obtain ⟨q17, t83_15, t83_16, hq17, H⟩ := H
    refine V rfl rfl (V rfl rfl (V rfl rfl (V rfl rfl (V rfl rfl (WL_nil (E_then (W_seq (W_region (V rfl rfl (V rfl rfl (C0 rfl e21 rfl (fun w b s => (spec_NewAt.calls q17 t59_3 t59_4 t83_15 t83_16 w hq17).mono fun _ _ h => ⟨h.1, h.2⟩) ?_)))))))))))
    refine V rfl rfl (V rfl rfl (V rfl rfl (V rfl rfl (V rfl rfl (WL_nil (E_then (W_seq (W_seq (W_region (V rfl rfl (V rfl rfl (WL_val rfl (OpV_boolNe Try.underlying4 rfl rfl) (V rfl rfl (WL_know 89 false rfl H.1 ?_))))))))))))))
    replace H := H.2
    refine WL_gT rfl rfl (V rfl rfl (WL_gT rfl rfl (V rfl rfl (WL_gT rfl rfl (V rfl rfl (V rfl rfl (V rfl rfl (WL_know 94 false rfl H.1 ?_))))))))
    replace H := H.2
    refine WL_gT rfl rfl (V rfl rfl (WL_gT rfl rfl (V rfl rfl (WL_gT rfl rfl (WL_val rfl (OpV_boolNe Try.underlying4 rfl rfl) (V rfl rfl (V rfl rfl (WL_know 99 false rfl H.1 ?_))))))))
    replace H := H.2
    refine WL_gT rfl rfl (V rfl rfl (WL_gT rfl rfl (V rfl rfl (WL_gT rfl rfl (V rfl rfl (V rfl rfl (V rfl rfl (WL_know 104 false rfl H.1 ?_))))))))
    replace H := H.2
    refine WL_gT rfl rfl (V rfl rfl (WL_gT rfl rfl (V rfl rfl (WL_gT rfl rfl (WL_val rfl (OpV_boolNe Try.underlying4 rfl rfl) (V rfl rfl (WL_nil (E_then (W_cond rfl (fun c => absurd (c.symm.trans H.1) (by decide)) (fun _ => ?_))))))))))
    replace H := H.2
    refine W_skip (E_then (W_seq (W_cut (fun L M => L = [(1, .slice A1_ l1.length c1_), (4, .bool false)] ∧ M = [] ∧ FnNewsDelayed.j1 l1) ?_ ?_)))
    · refine W_seq (W_region (V rfl rfl (WL_nil (E_then (W_cond rfl (fun c => ?_) (fun c => ?_))))))
      · replace H := H.1 c
        refine W_seq (W_region (V rfl rfl (WL_nil (E_then (W_seq (W_cut (fun L M => ∃ x73 : Int, L = [(1, .slice A1_ l1.length c1_), (4, .bool false), (5, .int .i64 t59_3), (6, .int .i64 t59_4), (7, .int .i64 t65_6), (11, .int .i64 t77_12), (15, .int .i64 x73)] ∧ M = [] ∧ FnNewsDelayed.j6 t77_12 t65_6 x73 t59_4 t59_3 l1) ?_ ?_))))))
        · refine W_seq (W_region (V rfl rfl (V rfl rfl (WL_nil (E_then (W_cond rfl (fun c => ?_) (fun c => ?_)))))))
          · replace H := H.1 c
            obtain ⟨q82, t116_80, t116_81, hq82, H⟩ := H
            refine W_seq (W_region (V rfl rfl (V rfl rfl (V rfl rfl (C0 rfl e18 rfl (fun w b s => (impl_InformedAt.calls q82 t59_3 (wrap64 (t59_4 - 1)) t116_80 t116_81 w hq82).mono fun _ _ h => ⟨h.1, h.2⟩) ?_)))))
            refine V rfl rfl (V rfl rfl (V rfl rfl (V rfl rfl (V rfl rfl (WL_nil (E_then (W_seq (W_seq (W_region (V rfl rfl (V rfl rfl (WL_nil (E_then (W_cond rfl (fun c => absurd (c.symm.trans H.1) (by decide)) (fun _ => ?_)))))))))))))))
            replace H := H.2
            refine W_skip (E_then (W_region (V rfl rfl (V rfl rfl (WL_nil (E_meet [1, 4, 5, 6, 7, 11, 15] [] ⟨t116_80, rfl, rfl, H⟩))))))
          · replace H := H.2 c
            refine W_skip (E_meet [1, 4, 5, 6, 7, 11, 15] [] ⟨0, rfl, rfl, H⟩)
        · clear H
          rintro _ _ ⟨x73, rfl, rfl, H⟩
          unfold FnNewsDelayed.j6 at H
          refine E_then (W_seq (W_seq (W_region (V rfl rfl (V rfl rfl (V rfl rfl (V rfl rfl (V rfl rfl (V rfl rfl (WL_know 127 false rfl H.1 ?_))))))))))
          replace H := H.2
          refine WL_gT rfl rfl (V rfl rfl (WL_gT rfl rfl (V rfl rfl (V rfl rfl (WL_nil (E_then (W_cond rfl (fun c => absurd (c.symm.trans H.1) (by decide)) (fun _ => ?_))))))))
          replace H := H.2
          refine W_skip (E_then (W_seq (W_cut (fun L M => L = [(1, .slice A1_ l1.length c1_), (4, .bool false), (5, .int .i64 t59_3), (6, .int .i64 t59_4), (7, .int .i64 t65_6), (11, .int .i64 t77_12)] ∧ M = [] ∧ FnNewsDelayed.j7 t65_6 t59_3 t59_4 t77_12 l1) ?_ ?_)))
          · refine W_seq (W_region (V rfl rfl (V rfl rfl (V rfl rfl (WL_nil (E_then (W_cond rfl (fun c => ?_) (fun c => ?_))))))))
            · replace H := H.1 c
              obtain ⟨q79, t139_77, t139_78, hq79, H⟩ := H
              refine W_seq (W_region (V rfl rfl (V rfl rfl (V rfl rfl (V rfl rfl (C0 rfl e18 rfl (fun w b s => (impl_InformedAt.calls q79 t59_3 (wrap64 (t59_4 - t59_3)) t139_77 t139_78 w hq79).mono fun _ _ h => ⟨h.1, h.2⟩) ?_))))))
              refine V rfl rfl (V rfl rfl (V rfl rfl (V rfl rfl (V rfl rfl (WL_nil (E_then (W_seq (W_region (V rfl rfl (V rfl rfl (V rfl rfl (WL_know 144 false rfl H.1 ?_))))))))))))
              replace H := H.2
              refine WL_gT rfl rfl (V rfl rfl (WL_gT rfl rfl (V rfl rfl (WL_gT rfl rfl (V rfl rfl (V rfl rfl (WL_nil (E_then (W_cond rfl (fun c => absurd (c.symm.trans H.1) (by decide)) (fun _ => ?_))))))))))
              replace H := H.2
              refine W_skip (E_meet [1, 4, 5, 6, 7, 11] [] ⟨rfl, rfl, H⟩)
            · replace H := H.2 c
              refine W_skip (E_meet [1, 4, 5, 6, 7, 11] [] ⟨rfl, rfl, H⟩)
          · clear H
            rintro _ _ ⟨rfl, rfl, H⟩
            unfold FnNewsDelayed.j7 at H
            refine E_then (W_seq (W_region (V rfl rfl (V rfl rfl (WL_nil (E_then (W_cond rfl (fun c => ?_) (fun c => ?_))))))))
            · replace H := H.1 c
              obtain ⟨q76, t154_74, t154_75, hq76, H⟩ := H
              refine W_seq (W_region (V rfl rfl (V rfl rfl (C0 rfl e22 rfl (fun w b s => (impl_MinutesFor.calls q76 t59_3 t65_6 t154_74 t154_75 w hq76).mono fun _ _ h => ⟨h.1, h.2⟩) ?_))))
              refine V rfl rfl (V rfl rfl (V rfl rfl (V rfl rfl (V rfl rfl (WL_nil (E_then (W_seq (W_region (V rfl rfl (V rfl rfl (V rfl rfl (WL_know 159 false rfl H.1 ?_))))))))))))
              replace H := H.2
              refine WL_gT rfl rfl (V rfl rfl (WL_gT rfl rfl (V rfl rfl (WL_gT rfl rfl (V rfl rfl (V rfl rfl (V rfl rfl (WL_know 164 false rfl H.1 ?_))))))))
              replace H := H.2
              refine WL_gT rfl rfl (V rfl rfl (WL_gT rfl rfl (V rfl rfl (WL_gT rfl rfl (V rfl rfl (WL_split 167 rfl (fun c => ?_) (fun c => ?_)))))))
              · replace H := H.1 c
                refine WL_gT rfl rfl (V rfl rfl (WL_gT rfl rfl (V rfl rfl (WL_gT rfl rfl (V rfl rfl (WL_gT rfl rfl (V rfl rfl (V rfl rfl (WL_nil (E_then (W_cond rfl (fun c => absurd (c.symm.trans H.1) (by decide)) (fun _ => ?_))))))))))))
                replace H := H.2
                refine W_skip (E_meet [1, 4] [] ⟨rfl, rfl, H⟩)
              · replace H := H.2 c
                refine WL_gF rfl rfl rfl rfl (WL_gF rfl rfl rfl rfl (WL_gF rfl rfl rfl rfl (WL_gT rfl rfl (V rfl rfl (V rfl rfl (WL_nil (E_then (W_condF rfl (W_skip (E_meet [1, 4] [] ⟨rfl, rfl, H⟩))))))))))
            · replace H := H.2 c
              refine W_skip (E_meet [1, 4] [] ⟨rfl, rfl, H⟩)
      · replace H := H.2 c
        refine W_skip (E_meet [1, 4] [] ⟨rfl, rfl, H⟩)
    · clear H
      rintro _ _ ⟨rfl, rfl, H⟩
      unfold FnNewsDelayed.j1 at H
      obtain ⟨t175_18, t175_19, h20, H⟩ := H
      refine E_then (W_seq (W_region (V rfl rfl (C0 rfl e23 rfl (fun w b s => (spec_DrawMinutesFor.calls A1_ c1_ l1 t175_18 t175_19 w ((CF.arg hr1) w ⟨b, s⟩) hc1 h20).mono fun _ _ h => ⟨h.1, h.2⟩) ?_))))
      obtain ⟨q23, t181_21, t181_22, hq23, H⟩ := H
      refine V rfl rfl (V rfl rfl (V rfl rfl (V rfl rfl (V rfl rfl (WL_nil (E_then (W_seq (W_region (V rfl rfl (V rfl rfl (C0 rfl e22 rfl (fun w b s => (impl_MinutesFor.calls q23 t175_18 t175_19 t181_21 t181_22 w hq23).mono fun _ _ h => ⟨h.1, h.2⟩) ?_)))))))))))
      obtain ⟨q26, t187_24, t187_25, hq26, H⟩ := H
      refine V rfl rfl (V rfl rfl (V rfl rfl (V rfl rfl (V rfl rfl (WL_nil (E_then (W_seq (W_region (V rfl rfl (V rfl rfl (C0 rfl e24 rfl (fun w b s => (spec_MinutesFor.calls q26 t175_18 t175_19 t187_24 t187_25 w hq26).mono fun _ _ h => ⟨h.1, h.2⟩) ?_)))))))))))
      obtain ⟨t192_27, t192_28, h29, H⟩ := H
      refine V rfl rfl (V rfl rfl (V rfl rfl (V rfl rfl (V rfl rfl (WL_nil (E_then (W_seq (W_region (V rfl rfl (C0 rfl e25 rfl (fun w b s => (spec_DrawGreatestDelay.calls A1_ c1_ l1 t192_27 t192_28 w ((CF.arg hr1) w ⟨b, s⟩) hc1 h29).mono fun _ _ h => ⟨h.1, h.2⟩) ?_))))))))))
      obtain ⟨q32, t198_30, t198_31, hq32, H⟩ := H
      refine V rfl rfl (V rfl rfl (V rfl rfl (V rfl rfl (V rfl rfl (WL_nil (E_then (W_seq (W_region (V rfl rfl (V rfl rfl (C0 rfl e26 rfl (fun w b s => (impl_GreatestDelay.calls q32 t192_27 t192_28 t198_30 t198_31 w hq32).mono fun _ _ h => ⟨h.1, h.2⟩) ?_)))))))))))
      obtain ⟨q35, t204_33, t204_34, hq35, H⟩ := H
      refine V rfl rfl (V rfl rfl (V rfl rfl (V rfl rfl (V rfl rfl (WL_nil (E_then (W_seq (W_region (V rfl rfl (V rfl rfl (C0 rfl e27 rfl (fun w b s => (spec_GreatestDelay.calls q35 t192_27 t192_28 t204_33 t204_34 w hq35).mono fun _ _ h => ⟨h.1, h.2⟩) ?_)))))))))))
      obtain ⟨q38, t209_36, t209_37, hq38, H⟩ := H
      refine V rfl rfl (V rfl rfl (V rfl rfl (V rfl rfl (V rfl rfl (WL_nil (E_then (W_seq (W_region (V rfl rfl (C0 rfl e28 rfl (fun w b s => (spec_DrawQuickSends.calls q38 A1_ c1_ l1 t209_36 t209_37 w ((CF.arg hr1) w ⟨b, s⟩) hc1 hq38).mono fun _ _ h => ⟨h.1, h.2⟩) ?_))))))))))
      obtain ⟨q41, t215_39, t215_40, hq41, H⟩ := H
      refine V rfl rfl (V rfl rfl (V rfl rfl (V rfl rfl (V rfl rfl (WL_nil (E_then (W_seq (W_region (V rfl rfl (V rfl rfl (C1 (dk := k48) (e := 48) (l := t215_39) (fun u => .tuple #[u, .bool t215_40]) rfl e29 rfl (fun w b s => impl_QuickSends.calls q41 t209_36 t209_37 t215_39 t215_40 w hq41) (fun A42 c42 hc42 => ?_))))))))))))
      obtain ⟨q45, t221_43, t221_44, hq45, H⟩ := H
      refine V rfl rfl (V rfl rfl (V rfl rfl (V rfl rfl (V rfl rfl (WL_nil (E_then (W_seq (W_region (V rfl rfl (V rfl rfl (C1 (dk := k48) (e := 48) (l := t221_43) (fun u => .tuple #[u, .bool t221_44]) rfl e30 rfl (fun w b s => spec_QuickSends.calls q45 t209_36 t209_37 t221_43 t221_44 w hq45) (fun A46 c46 hc46 => ?_))))))))))))
      refine V rfl rfl (V rfl rfl (V rfl rfl (V rfl rfl (V rfl rfl (WL_nil (E_then (W_seq (W_seq (W_region (V rfl rfl (V rfl rfl (WL_val rfl (OpV_boolNe Try.underlying4 rfl rfl) (V rfl rfl (WL_know 227 false rfl H.1 ?_))))))))))))))
      replace H := H.2
      refine WL_gT rfl rfl (V rfl rfl (WL_gT rfl rfl (V rfl rfl (WL_gT rfl rfl (V rfl rfl (V rfl rfl (V rfl rfl (WL_know 232 false rfl H.1 ?_))))))))
      replace H := H.2
      refine WL_gT rfl rfl (V rfl rfl (WL_gT rfl rfl (V rfl rfl (WL_gT rfl rfl (WL_val rfl (OpV_boolNe Try.underlying4 rfl rfl) (V rfl rfl (V rfl rfl (WL_know 237 false rfl H.1 ?_))))))))
      replace H := H.2
      refine WL_gT rfl rfl (V rfl rfl (WL_gT rfl rfl (V rfl rfl (WL_gT rfl rfl (V rfl rfl (V rfl rfl (V rfl rfl (WL_know 242 false rfl H.1 ?_))))))))
      replace H := H.2
      refine WL_gT rfl rfl (V rfl rfl (WL_gT rfl rfl (V rfl rfl (WL_gT rfl rfl (WL_val rfl (OpV_boolNe Try.underlying4 rfl rfl) (V rfl rfl (V rfl rfl (WL_know 247 false rfl H.1 ?_))))))))
      replace H := H.2
      obtain ⟨q48, t250_47, hq48, H⟩ := H
      refine WL_gT rfl rfl (V rfl rfl (WL_gT rfl rfl (V rfl rfl (WL_gT rfl rfl (C0 rfl e31 rfl (fun w b s => (laws_dSends.calls q48 A42 c42 t215_39 A46 c46 t221_43 t250_47 w ((CF.own (i := 1) rfl) w ⟨b, s⟩) hc42 ((CF.own (i := 0) rfl) w ⟨b, s⟩) hc46 hq48).mono fun _ _ h => ⟨h.1, h.2.below⟩) ?_)))))
      refine WL_gT rfl rfl (V rfl rfl (V rfl rfl (WL_nil (E_then (W_cond rfl (fun c => absurd (c.symm.trans H.1) (by decide)) (fun _ => ?_))))))
      replace H := H.2
      refine W_skip (E_then (W_seq (W_cut (fun L M => L = [(4, .bool false), (28, .int .i64 t192_27), (29, .int .i64 t192_28), (30, .int .i64 t198_30), (31, .bool t198_31), (34, .int .i64 t209_36), (35, .int .i64 t209_37), (36, .slice A42 t215_39.length c42), (37, .bool t215_40)] ∧ M = [own k48 48 (.slice A42 t215_39.length c42) t215_39] ∧ FnNewsDelayed.j2 t198_31 t198_30 t192_27 t192_28 t215_40 t209_36 t209_37 t215_39) ?_ ?_)))
      · refine W_seq (W_region (V rfl rfl (V rfl rfl (WL_split 254 rfl (fun c => ?_) (fun c => ?_)))))
        · replace H := H.1 c
          refine WL_gT rfl rfl (V rfl rfl (WL_gT rfl rfl (V rfl rfl (V rfl rfl (WL_nil (E_then (W_cond rfl (fun c => ?_) (fun c => ?_))))))))
          · replace H := H.1 c
            obtain ⟨q69, t261_67, t261_68, hq69, H⟩ := H
            refine W_seq (W_region (V rfl rfl (V rfl rfl (C0 rfl e18 rfl (fun w b s => (impl_InformedAt.calls q69 t175_18 t181_21 t261_67 t261_68 w hq69).mono fun _ _ h => ⟨h.1, h.2⟩) ?_))))
            refine V rfl rfl (V rfl rfl (V rfl rfl (V rfl rfl (V rfl rfl (WL_nil (E_then (W_seq (W_seq (W_region (V rfl rfl (V rfl rfl (V rfl rfl (WL_know 266 false rfl H.1 ?_)))))))))))))
            replace H := H.2
            refine WL_gT rfl rfl (V rfl rfl (WL_gT rfl rfl (V rfl rfl (WL_gT rfl rfl (V rfl rfl (V rfl rfl (WL_nil (E_then (W_cond rfl (fun c => absurd (c.symm.trans H.1) (by decide)) (fun _ => ?_))))))))))
            replace H := H.2
            refine W_skip (E_then (W_seq (W_region (V rfl rfl (V rfl rfl (WL_nil (E_then (W_cond rfl (fun c => ?_) (fun c => ?_)))))))))
            · replace H := H.1 c
              obtain ⟨q72, t277_70, t277_71, hq72, H⟩ := H
              refine W_seq (W_region (V rfl rfl (V rfl rfl (V rfl rfl (C0 rfl e18 rfl (fun w b s => (impl_InformedAt.calls q72 t175_18 (wrap64 (t181_21 - 1)) t277_70 t277_71 w hq72).mono fun _ _ h => ⟨h.1, h.2⟩) ?_)))))
              refine V rfl rfl (V rfl rfl (V rfl rfl (V rfl rfl (V rfl rfl (WL_nil (E_then (W_seq (W_region (V rfl rfl (V rfl rfl (V rfl rfl (WL_know 282 false rfl H.1 ?_))))))))))))
              replace H := H.2
              refine WL_gT rfl rfl (V rfl rfl (WL_gT rfl rfl (V rfl rfl (WL_gT rfl rfl (V rfl rfl (V rfl rfl (WL_nil (E_then (W_cond rfl (fun c => absurd (c.symm.trans H.1) (by decide)) (fun _ => ?_))))))))))
              replace H := H.2
              refine W_skip (E_meet [4, 28, 29, 30, 31, 34, 35, 36, 37] [1] ⟨rfl, rfl, H⟩)
            · replace H := H.2 c
              refine W_skip (E_meet [4, 28, 29, 30, 31, 34, 35, 36, 37] [1] ⟨rfl, rfl, H⟩)
          · replace H := H.2 c
            refine W_skip (E_meet [4, 28, 29, 30, 31, 34, 35, 36, 37] [1] ⟨rfl, rfl, H⟩)
        · replace H := H.2 c
          refine WL_gF rfl rfl rfl rfl (WL_gF rfl rfl rfl rfl (V rfl rfl (WL_nil (E_then (W_condF rfl (W_skip (E_meet [4, 28, 29, 30, 31, 34, 35, 36, 37] [1] ⟨rfl, rfl, H⟩)))))))
      · clear H
        rintro _ _ ⟨rfl, rfl, H⟩
        unfold FnNewsDelayed.j2 at H
        refine E_then (W_seq (W_cut (fun L M => L = [(4, .bool false), (34, .int .i64 t209_36), (35, .int .i64 t209_37), (36, .slice A42 t215_39.length c42), (37, .bool t215_40)] ∧ M = [own k48 48 (.slice A42 t215_39.length c42) t215_39] ∧ FnNewsDelayed.j3 t215_40 t209_36 t209_37 t215_39) ?_ ?_))
        · refine W_seq (W_region (V rfl rfl (WL_nil (E_then (W_cond rfl (fun c => ?_) (fun c => ?_))))))
          · replace H := H.1 c
            obtain ⟨q63, t291_61, t291_62, hq63, H⟩ := H
            refine W_seq (W_region (V rfl rfl (V rfl rfl (C0 rfl e22 rfl (fun w b s => (impl_MinutesFor.calls q63 t198_30 t192_27 t291_61 t291_62 w hq63).mono fun _ _ h => ⟨h.1, h.2⟩) ?_))))
            refine V rfl rfl (V rfl rfl (V rfl rfl (V rfl rfl (V rfl rfl (WL_nil (E_then (W_seq (W_seq (W_region (V rfl rfl (V rfl rfl (V rfl rfl (WL_know 296 false rfl H.1 ?_)))))))))))))
            replace H := H.2
            refine WL_gT rfl rfl (V rfl rfl (WL_gT rfl rfl (V rfl rfl (WL_gT rfl rfl (V rfl rfl (V rfl rfl (WL_nil (E_then (W_cond rfl (fun c => absurd (c.symm.trans H.1) (by decide)) (fun _ => ?_))))))))))
            replace H := H.2
            refine W_skip (E_then (W_seq (W_region (V rfl rfl (V rfl rfl (WL_nil (E_then (W_cond rfl (fun c => ?_) (fun c => ?_)))))))))
            · replace H := H.1 c
              obtain ⟨q66, t307_64, t307_65, hq66, H⟩ := H
              refine W_seq (W_region (V rfl rfl (V rfl rfl (V rfl rfl (C0 rfl e22 rfl (fun w b s => (impl_MinutesFor.calls q66 (wrap64 (t198_30 + 1)) t192_27 t307_64 t307_65 w hq66).mono fun _ _ h => ⟨h.1, h.2⟩) ?_)))))
              refine V rfl rfl (V rfl rfl (V rfl rfl (V rfl rfl (V rfl rfl (WL_nil (E_then (W_seq (W_region (V rfl rfl (V rfl rfl (V rfl rfl (WL_know 312 false rfl H.1 ?_))))))))))))
              replace H := H.2
              refine WL_gT rfl rfl (V rfl rfl (WL_gT rfl rfl (V rfl rfl (WL_gT rfl rfl (V rfl rfl (V rfl rfl (WL_nil (E_then (W_cond rfl (fun c => absurd (c.symm.trans H.1) (by decide)) (fun _ => ?_))))))))))
              replace H := H.2
              refine W_skip (E_meet [4, 34, 35, 36, 37] [0] ⟨rfl, rfl, H⟩)
            · replace H := H.2 c
              refine W_skip (E_meet [4, 34, 35, 36, 37] [0] ⟨rfl, rfl, H⟩)
          · replace H := H.2 c
            refine W_skip (E_meet [4, 34, 35, 36, 37] [0] ⟨rfl, rfl, H⟩)
        · clear H
          rintro _ _ ⟨rfl, rfl, H⟩
          unfold FnNewsDelayed.j3 at H
          refine E_then (W_seq (W_cut (fun L M => L = [(4, .bool false)] ∧ M = [] ∧ FnNewsDelayed.j4) ?_ ?_))
          · refine W_seq (W_region (V rfl rfl (WL_nil (E_then (W_cond rfl (fun c => ?_) (fun c => ?_))))))
            · replace H := H.1 c
              obtain ⟨q51, t322_49, t322_50, hq51, H⟩ := H
              refine W_seq (W_region (V rfl rfl (V rfl rfl (V rfl rfl (C0 rfl e32 rfl (fun w b s => (impl_AreSends.calls q51 t209_36 t209_37 A42 c42 t215_39 t322_49 t322_50 w ((CF.own (i := 0) rfl) w ⟨b, s⟩) hc42 hq51).mono fun _ _ h => ⟨h.1, h.2⟩) ?_)))))
              obtain ⟨q54, t329_52, t329_53, hq54, H⟩ := H
              refine V rfl rfl (V rfl rfl (V rfl rfl (V rfl rfl (V rfl rfl (WL_nil (E_then (W_seq (W_region (V rfl rfl (V rfl rfl (V rfl rfl (C0 rfl e33 rfl (fun w b s => (impl_LateBy.calls q54 t209_36 t209_37 A42 c42 t215_39 t329_52 t329_53 w ((CF.own (i := 0) rfl) w ⟨b, s⟩) hc42 hq54).mono fun _ _ h => ⟨h.1, h.2⟩) ?_))))))))))))
              refine V rfl rfl (V rfl rfl (V rfl rfl (V rfl rfl (V rfl rfl (WL_nil (E_then (W_seq (W_seq (W_region (V rfl rfl (V rfl rfl (V rfl rfl (WL_know 334 false rfl H.1 ?_)))))))))))))
              replace H := H.2
              refine WL_gT rfl rfl (V rfl rfl (WL_gT rfl rfl (V rfl rfl (V rfl rfl (V rfl rfl (WL_know 338 false rfl H.1 ?_))))))
              replace H := H.2
              refine WL_gT rfl rfl (V rfl rfl (WL_gT rfl rfl (V rfl rfl (V rfl rfl (V rfl rfl (WL_know 342 false rfl H.1 ?_))))))
              replace H := H.2
              refine WL_gT rfl rfl (V rfl rfl (WL_gT rfl rfl (V rfl rfl (V rfl rfl (V rfl rfl (WL_know 346 false rfl H.1 ?_))))))
              replace H := H.2
              refine WL_gT rfl rfl (V rfl rfl (WL_gT rfl rfl (WL_val rfl (OpV_lenL Try.underlying40 rfl) (WL_gT rfl rfl (V rfl rfl (WL_gT rfl rfl (V rfl rfl (WL_gT rfl rfl (V rfl rfl (V rfl rfl (WL_nil (E_then (W_cond rfl (fun c => absurd (c.symm.trans H.1) (by decide)) (fun _ => ?_))))))))))))))
              replace H := H.2
              obtain ⟨k0, H⟩ := H
              refine W_skip (E_then (W_seq (W_region (V rfl rfl (WL_val rfl (OpV_lenL Try.underlying40 rfl) (V rfl rfl (WL_nil (E_then (W_block (W_loop (fun k L M => ∃ x55 : Int, L = [(4, .bool false), (36, .slice A42 t215_39.length c42), (353, .slice A42 t215_39.length c42), (354, .int .i64 (t215_39.length : Int)), (355, .int .i64 x55)] ∧ M = [own k48 48 (.slice A42 t215_39.length c42) t215_39] ∧ FnNewsDelayed.l5 t215_39 k x55) (k0 := k0) [4, 36, 353, 354, 355] [0] ⟨0, rfl, rfl, H⟩ ?_))))))))))
              clear H
              rintro k _ _ ⟨x55, rfl, rfl, H⟩
              cases k with
              | zero => exact H.elim
              | succ k =>
                unfold FnNewsDelayed.l5 at H
                refine W_seq (W_region (V rfl rfl (WL_nil (E_then (W_seq (W_cond rfl (fun c => ?_) (fun c => ?_)))))))
                · replace H := H.1 c
                  refine W_skip (E_then (W_seq (W_block (W_seq (W_region (V rfl rfl (?_)))))))
                  have hb56 := H.1
                  replace H := H.2
                  refine WL_val rfl (OpV_idx (d := k48) Try.underlying40 s48 rfl rfl (CF.own (i := 0) rfl) hb56) (WL_val rfl (OpV_loadS (d := k48) z48 rfl ⟨_, Try.underlying48⟩ s48 (CF.own (i := 0) rfl) Fk48 hb56) (WL_alloc (zs := f48 z48) rfl zr48 fun g57 => ?_))
                  refine V rfl rfl (WL_store (i := 0) (cs := f48 z48) (cs' := f48 (t215_39.getD (Int.toNat x55) z48)) rfl rfl s48 rfl rfl rfl (WL_nil (E_then (W_seq (W_regionQ mixed (by kernel_rfl) (WQ_val rfl (OpV_field rfl Try.underlying48 rfl ⟨_, s3⟩) (WQ_val rfl (OpV_loadC rfl o3 (i := 0) rfl rfl) (WQ_val rfl (OpV_pure rfl) (WQ_val rfl (OpV_pure rfl) (WQ_val rfl (OpV_pure rfl) (WQ_val rfl (OpV_pure rfl) (WQ_know 365 false rfl H.1 ?_))))))))))))
                  replace H := H.2
                  refine WQ_gT rfl rfl (WQ_val rfl (OpV_pure rfl) (WQ_gT rfl rfl (WQ_val rfl (OpV_pure rfl) (WQ_gT rfl rfl (WQ_val rfl (OpV_pure rfl) (WQ_split 368 rfl (fun c => ?_) (fun c => ?_)))))))
                  · replace H := H.1 c
                    refine WQ_gT rfl rfl (WQ_val rfl (OpV_pure rfl) (WQ_gT rfl rfl (WQ_val rfl (OpV_pure rfl) (WQ_gT rfl rfl (WQ_val rfl (OpV_pure rfl) (WQ_gT rfl rfl (?_)))))))
                    have hb58 := H.1
                    replace H := H.2
                    refine WQ_val rfl (OpV_idx (d := k48) Try.underlying40 s48 rfl rfl (CF.own (i := 1) rfl) hb58) (WQ_gT rfl rfl (WQ_val rfl (OpV_field rfl Try.underlying48 rfl ⟨_, s3⟩) (WQ_gT rfl rfl (WQ_val rfl (OpV_loadF (d := k48) z48 rfl o3 (CF.own (i := 1) rfl) Fk48 hb58 rfl) (WQ_gT rfl rfl (WQ_val rfl (OpV_field rfl Try.underlying48 rfl ⟨_, s3⟩) (WQ_gT rfl rfl (WQ_val rfl (OpV_loadC rfl o3 (i := 0) rfl rfl) (WQ_gT rfl rfl (WQ_val rfl (OpV_pure rfl) (WQ_gT rfl rfl (WQ_val rfl (OpV_pure rfl) (WQ_know 378 false rfl H.1 ?_)))))))))))))
                    replace H := H.2
                    refine WQ_gT rfl rfl (WQ_val rfl (OpV_pure rfl) (WQ_gT rfl rfl (WQ_val rfl (OpV_pure rfl) (WQ_gT rfl rfl (WQ_val rfl (OpV_pure rfl) (WQ_gT rfl rfl (?_)))))))
                    have hb59 := H.1
                    replace H := H.2
                    refine WQ_val rfl (OpV_idx (d := k48) Try.underlying40 s48 rfl rfl (CF.own (i := 1) rfl) hb59) (WQ_gT rfl rfl (WQ_val rfl (OpV_field rfl Try.underlying48 rfl ⟨_, s3⟩) (WQ_gT rfl rfl (WQ_val rfl (OpV_loadF (d := k48) z48 rfl o3 (CF.own (i := 1) rfl) Fk48 hb59 rfl) (WQ_gT rfl rfl (WQ_val rfl (OpV_field rfl Try.underlying48 rfl ⟨_, s3⟩) (WQ_gT rfl rfl (WQ_val rfl (OpV_loadC rfl o3 (i := 0) rfl rfl) (WQ_gT rfl rfl (WQ_val rfl (OpV_pure rfl) (WQ_gT rfl rfl (WQ_val rfl (OpV_pure rfl) (WQ_split 388 rfl (fun c => ?_) (fun c => ?_))))))))))))))
                    · replace H := H.1 c
                      refine WQ_gT rfl rfl (WQ_val rfl (OpV_pure rfl) (WQ_gT rfl rfl (WQ_val rfl (OpV_pure rfl) (WQ_gT rfl rfl (WQ_val rfl (OpV_pure rfl) (WQ_gT rfl rfl (?_)))))))
                      have hb60 := H.1
                      replace H := H.2
                      refine WQ_val rfl (OpV_idx (d := k48) Try.underlying40 s48 rfl rfl (CF.own (i := 1) rfl) hb60) (WQ_gT rfl rfl (WQ_val rfl (OpV_field rfl Try.underlying48 rfl ⟨_, s3⟩) (WQ_gT rfl rfl (WQ_val rfl (OpV_loadF (d := k48) z48 rfl o3 (CF.own (i := 1) rfl) Fk48 hb60 rfl) (WQ_gT rfl rfl (WQ_val rfl (OpV_field rfl Try.underlying48 rfl ⟨_, s3⟩) (WQ_gT rfl rfl (WQ_val rfl (OpV_loadC rfl o3 (i := 0) rfl rfl) (WQ_gT rfl rfl (WQ_val rfl (OpV_pure rfl) (WQ_gT rfl rfl (WQ_val rfl (OpV_pure rfl) (WQ_gT rfl rfl (WQ_val rfl (OpV_pure rfl) (WQ_gT rfl rfl (WQ_val rfl (OpV_pure rfl) (WQ_val rfl (OpV_pure rfl) (WQ_nil (E_then (W_cond rfl (fun c => absurd (c.symm.trans H.1) (by decide)) (fun _ => ?_)))))))))))))))))))))
                      replace H := H.2
                      refine W_skip (E_blkN (E_then (W_region (V rfl rfl (V rfl rfl (WL_nil (E_meet [4, 36, 353, 354, 355] [1] ⟨k, Nat.lt_succ_self k, (wrap64 (x55 + 1)), rfl, rfl, H⟩)))))))
                    · replace H := H.2 c
                      refine WQ_gF rfl rfl rfl rfl (WQ_gF rfl rfl rfl rfl (WQ_gF rfl rfl rfl rfl (WQ_gF rfl rfl rfl rfl (WQ_gF rfl rfl rfl rfl (WQ_gF rfl rfl rfl rfl (WQ_gF rfl rfl rfl rfl (WQ_gF rfl rfl rfl rfl (WQ_gF rfl rfl rfl rfl (WQ_gT rfl rfl (WQ_val rfl (OpV_pure rfl) (WQ_gT rfl rfl (WQ_val rfl (OpV_pure rfl) (WQ_gT rfl rfl (WQ_val rfl (OpV_pure rfl) (WQ_val rfl (OpV_pure rfl) (WQ_nil (E_then (W_condF rfl (W_skip (E_blkN (E_then (W_region (V rfl rfl (V rfl rfl (WL_nil (E_meet [4, 36, 353, 354, 355] [1] ⟨k, Nat.lt_succ_self k, (wrap64 (x55 + 1)), rfl, rfl, H⟩))))))))))))))))))))))))))
                  · replace H := H.2 c
                    refine WQ_gF rfl rfl rfl rfl (WQ_gF rfl rfl rfl rfl (WQ_gF rfl rfl rfl rfl (WQ_gF rfl rfl rfl rfl (WQ_gF rfl rfl rfl rfl (WQ_gF rfl rfl rfl rfl (WQ_gF rfl rfl rfl rfl (WQ_gF rfl rfl rfl rfl (WQ_gF rfl rfl rfl rfl (WQ_gF rfl rfl rfl rfl (WQ_gU rfl rfl rfl (WQ_gU rfl rfl rfl (WQ_gU rfl rfl rfl (WQ_gU rfl rfl rfl (WQ_gU rfl rfl rfl (WQ_gU rfl rfl rfl (WQ_gU rfl rfl rfl (WQ_gU rfl rfl rfl (WQ_gU rfl rfl rfl (WQ_gU rfl rfl rfl (WQ_gU rfl rfl rfl (WQ_gU rfl rfl rfl (WQ_gU rfl rfl rfl (WQ_gU rfl rfl rfl (WQ_gU rfl rfl rfl (WQ_gU rfl rfl rfl (WQ_gU rfl rfl rfl (WQ_gU rfl rfl rfl (WQ_gU rfl rfl rfl (WQ_gU rfl rfl rfl (WQ_gF rfl rfl rfl rfl (WQ_gT rfl rfl (WQ_val rfl (OpV_pure rfl) (WQ_val rfl (OpV_pure rfl) (WQ_nil (E_then (W_condF rfl (W_skip (E_blkN (E_then (W_region (V rfl rfl (V rfl rfl (WL_nil (E_meet [4, 36, 353, 354, 355] [1] ⟨k, Nat.lt_succ_self k, (wrap64 (x55 + 1)), rfl, rfl, H⟩))))))))))))))))))))))))))))))))))))))))))))
                · replace H := H.2 c
                  refine W_exit (E_thenX (E_thenX (E_blkX (E_meet [4] [] ⟨rfl, rfl, H⟩))))
            · replace H := H.2 c
              refine W_skip (E_meet [4] [] ⟨rfl, rfl, H⟩)
          · clear H
            rintro _ _ ⟨rfl, rfl, H⟩
            unfold FnNewsDelayed.j4 at H
            refine E_then (W_seq (W_region (V rfl rfl (WL_nil (E_then (W_ret (E_body rfl rfl fun _ _ s => ⟨rfl, s.below⟩)))))))
end Go.Proofs.Ytokkmkncplkpiaa.G
