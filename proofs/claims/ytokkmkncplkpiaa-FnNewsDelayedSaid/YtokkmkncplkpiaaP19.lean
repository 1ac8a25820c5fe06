-- PRINTED by print.py (a twelfth state) out of the translation. Not trusted: Lean checks it.
import Derived.Test.YtokkmkncplkpiaaP0
import Derived.Test.YtokkmkncplkpiaaP4
import Derived.Test.YtokkmkncplkpiaaP18
namespace Go.Proofs.Ytokkmkncplkpiaa.P
open Go.RowKit Go.Proofs.YtokkmkncplkpiaaW.PrintWords Go.Proofs.YtokkmkncplkpiaaW.PrintLast Go.Proofs.YtokkmkncplkpiaaW.PrintMore
attribute [local go_sem] max2_int min2_int max_two min_two max_three min_three max_four min_four   -- for this text's walks alone
set_option linter.unusedVariables false
set_option linter.unusedSimpArgs false

def vSend (x : S48) : Value := .agg #[.int .i64 x.f0, .int .i64 x.f1, .int .i64 x.f2]
theorem rdSend_nat (l : List S48) (k : Nat) (h : k < l.length) : l[k] = rd_T48 l k := by
  simp only [rd_T48, Int.toNat_natCast]; rw [List.getD_eq_getElem?_getD, List.getElem?_eq_getElem h]; rfl
set_option maxHeartbeats 2000000 in
theorem idxf_Send (g : Nat) (lb : Array Value) (eg : ∀ args w, (callFunc g args).run Try.prog w = .ok (.enter g args) w) (p : S48 → Bool) (l : List S48) (A : Option Addr) (c : Nat) (w : World) (hr : Kd.C k48 w A l.length l) (hlen : l.length ≤ 140737488355328)
    (hp : ∀ x, x ∈ l → ∀ W, Below w.heap.size w W → Calls Try.prog g (#[vSend x] ++ lb) W fun e w' => e = .returned (.bool (p x)) ∧ Below W.heap.size W w') :
    Calls Try.prog 185 #[.slice A l.length c, .func (.func g) #[] lb] w fun e w' => e = .returned (.int .i64 (idxP p l 0)) ∧ Below w.heap.size w w' := by
  have HR := Aside0.mk hr
  clear hr
  go_enter Try.func185, Try.ntmps185
  go_wp2
  go_loopg [5, 8] l.length (fun gg _ s8 wr => ∃ kk : Nat, kk ≤ l.length ∧ l.length - kk ≤ gg ∧ s8 = .int .i64 kk ∧ Aside0 (Below w.heap.size w wr) ∧ Aside0 (idxP p l 0 = idxP p (l.drop kk) kk))
  case atStart => exact ⟨0, Nat.zero_le _, by omega, rfl, ⟨Below.refl _ w⟩, ⟨rfl⟩⟩
  case round =>
    obtain ⟨kk, hkk, hg, rfl, BW, AA⟩ := hrel
    by_cases hlt : kk < l.length
    · have hltz : (kk : Int) < (l.length : Int) := by omega
      have C1 := Kd.C_below HR.out BW.out
      obtain ⟨ad, e0, h0, h1, h2⟩ := at_T48 C1 (kk : Int) (by omega) hltz
      clear C1
      subst e0
      have hcall := hp (rd_T48 l kk) (by rw [← rdSend_nat l kk hlt]; exact List.getElem_mem hlt) wr BW.out
      have hd := idxP_drop p l kk hlt kk
      rw [rdSend_nat l kk hlt] at hd
      simp only [Int.toNat_natCast] at h0 h1 h2
      unfold vSend at hcall
      generalize rd_T48 l kk = y at h0 h1 h2 hcall hd
      have HD := Aside0.mk hd
      clear hd hp
      cases hq : p y with
      | true =>
        rw [hq] at hcall HD
        clear hq
        go_wp2_with (go_at_fn g; refine hcall.mono ?_; rintro e w' ⟨rfl, hb'⟩)
        go_ret
        refine ⟨?_, BW.out.trans (hb'.mono BW.out.size)⟩
        rw [AA.out, HD.out]; rfl
      | false =>
        rw [hq] at hcall HD
        clear hq
        go_wp2_with (go_at_fn g; refine hcall.mono ?_; rintro e w' ⟨rfl, hb'⟩)
        go_roundg (l.length - (kk + 1))
        case measure => omega
        case rel =>
          refine ⟨kk + 1, by omega, by omega, by go_num, ⟨BW.out.trans (hb'.mono BW.out.size)⟩, ⟨?_⟩⟩
          rw [AA.out, HD.out]; rfl
    · have hltz : ¬ (kk : Int) < (l.length : Int) := by omega
      obtain rfl : kk = l.length := by omega
      go_wp2
      go_ret
      refine ⟨?_, BW.out⟩
      rw [AA.out, List.drop_length]; rfl
theorem has_Send (g : Nat) (lb : Array Value) (eg : ∀ args w, (callFunc g args).run Try.prog w = .ok (.enter g args) w) (p : S48 → Bool) (l : List S48) (A : Option Addr) (c : Nat) (w : World) (hr : Kd.C k48 w A l.length l) (hlen : l.length ≤ 140737488355328)
    (hp : ∀ x, x ∈ l → ∀ W, Below w.heap.size w W → Calls Try.prog g (#[vSend x] ++ lb) W fun e w' => e = .returned (.bool (p x)) ∧ Below W.heap.size W w') :
    Calls Try.prog 149 #[.slice A l.length c, .func (.func g) #[] lb] w fun e w' => e = .returned (.bool (l.any p)) ∧ Below w.heap.size w w' := by
  rw [← idxP_nonneg p l 0 (by omega)]
  have hcall := idxf_Send g lb eg p l A c w hr hlen hp
  clear hr hp
  generalize idxP p l 0 = q at hcall ⊢
  go_enter Try.func149, Try.ntmps149
  go_wp2_with (go_at_call 185; refine hcall.mono ?_; rintro e w' ⟨rfl, hb'⟩)
  go_ret
  exact ⟨rfl, hb'⟩

def impl_arrivals_1.f (l1 : List S48) (a2 a3 a4 : Int) : Option Bool := if l1.length ≤ 140737488355328 then some (l1.any fun t => decide (t.f0 = a2) && decide (t.f2 = a4)) else none
set_option maxHeartbeats 2000000 in
theorem impl_arrivals_1.one (x : S48) (b : Nat) (a2 a4 : Int) (w : World) (h0 : w.cell? ⟨b, 0, none⟩ = some (.int .i64 a2)) (h2 : w.cell? ⟨b, 2, none⟩ = some (.int .i64 a4)) (hb : b < w.heap.size) :
    Calls Try.prog 150 (#[vSend x] ++ #[.pointer (some ⟨b, 0, none⟩)]) w fun e w' => e = .returned (.bool (decide (x.f0 = a2) && decide (x.f2 = a4))) ∧ Below w.heap.size w w' := by
  unfold vSend
  have hu := Try.underlying48
  by_cases e0 : x.f0 = a2 <;> by_cases e2 : x.f2 = a4
  all_goals
    simp only [e0, e2, decide_true, decide_false, Bool.and_true, Bool.and_false]
    go_enter Try.func150, Try.ntmps150
    go_wp2
    go_ret
    exact ⟨by simp [*], by repeat (first | exact Below.refl _ _ | apply below_alloc | apply pw_below_drewN | apply below_drew1)⟩
theorem impl_arrivals_1.calls (b : Nat) (A1 : Option Addr) (c1 : Nat) (l1 : List S48) (a2 a3 a4 : Int) (r : Bool) (w : World) (hcell : w.heap[b]? = some (.cells #[.int .i64 a2, .int .i64 a3, .int .i64 a4] 48 (0, 0))) (hr1 : Kd.C k48 w A1 l1.length l1) (hc1 : l1.length ≤ c1) (h : impl_arrivals_1.f l1 a2 a3 a4 = some r) :
    Calls Try.prog 149 #[.slice A1 l1.length c1, .func (.func 150) #[] #[.pointer (some ⟨b, 0, none⟩)]] w fun e w' => e = .returned (.bool r) ∧ Below w.heap.size w w' := by
  unfold impl_arrivals_1.f at h
  by_cases hl : l1.length ≤ 140737488355328
  · rw [if_pos hl] at h
    obtain rfl := Option.some.inj h
    have hbs : b < w.heap.size := by
      rcases Nat.lt_or_ge b w.heap.size with z | z
      · exact z
      · rw [Array.getElem?_eq_none z] at hcell; cases hcell
    exact has_Send 150 _ (enters_of Try.func150 (by kernel_rfl) rfl) (fun t => decide (t.f0 = a2) && decide (t.f2 = a4)) l1 A1 c1 w hr1 hl (fun x _ W hW => by
      have hc := (hW.block b hbs).trans hcell
      refine impl_arrivals_1.one x b a2 a4 W ?_ ?_ (Nat.lt_of_lt_of_le hbs hW.size)
      · rw [show (⟨b, 0, none⟩ : Addr) = (⟨b, 0, none⟩ : Addr).add 0 from rfl, add_plain, blk_cell hc]; rfl
      · rw [show (⟨b, 2, none⟩ : Addr) = (⟨b, 0, none⟩ : Addr).add 2 from rfl, add_plain, blk_cell hc]; rfl)
  · rw [if_neg hl] at h
    exact absurd h (by simp)

/-! ### impl_arrivals: function 98 -/
mutual
def impl_arrivals.l0 : Nat → Int → Int → List (S48) → List Int → List (S48) → Int → Int → Option (List Int × Bool)
  | 0, _, _, _, _, _, _, _ => none
  | k + 1, x0, x1, x2, x8, x21, x22, x23 => if x23 < x22 then (if 0 ≤ x23 then (if x23 < (x21.length : Int) then ((impl_within.f ((rd_T48 x21 x23).f0) 0 (wrap64 (x1 - 1))).bind fun t354 => (if t354 = true then ((impl_within.f ((rd_T48 x21 x23).f1) 1 (wrap64 (x1 - 1))).bind fun t355 => (if t355 = true then (if ((rd_T48 x21 x23).f0) = ((rd_T48 x21 x23).f1) then (impl_arrivals.j1 k x0 x1 x2 x8 x23 x21 x22 x23 true ((rd_T48 x21 x23).f0) ((rd_T48 x21 x23).f1) ((rd_T48 x21 x23).f2)) else ((impl_isMinute.f ((rd_T48 x21 x23).f2)).bind fun t356 => (if t356 = true then (if 0 ≤ ((rd_T48 x21 x23).f1) then (if ((rd_T48 x21 x23).f1) < (x8.length : Int) then (impl_arrivals.j1 k x0 x1 x2 x8 x23 x21 x22 x23 (decide ((rd x8 ((rd_T48 x21 x23).f1)) ≥ 0)) ((rd_T48 x21 x23).f0) ((rd_T48 x21 x23).f1) ((rd_T48 x21 x23).f2)) else (none)) else (none)) else (impl_arrivals.j1 k x0 x1 x2 x8 x23 x21 x22 x23 true ((rd_T48 x21 x23).f0) ((rd_T48 x21 x23).f1) ((rd_T48 x21 x23).f2))))) else (impl_arrivals.j1 k x0 x1 x2 x8 x23 x21 x22 x23 true ((rd_T48 x21 x23).f0) ((rd_T48 x21 x23).f1) ((rd_T48 x21 x23).f2)))) else (impl_arrivals.j1 k x0 x1 x2 x8 x23 x21 x22 x23 true ((rd_T48 x21 x23).f0) ((rd_T48 x21 x23).f1) ((rd_T48 x21 x23).f2)))) else (none)) else (none)) else (impl_arrivals.l1 k x8 x2 (x2.length : Int) 0)
def impl_arrivals.j1 : Nat → Int → Int → List (S48) → List Int → Int → List (S48) → Int → Int → Bool → Int → Int → Int → Option (List Int × Bool)
  | 0, _, _, _, _, _, _, _, _, _, _, _, _ => none
  | k + 1, x0, x1, x2, x8, x9, x21, x22, x23, x62, x354000, x354001, x354002 => if x62 = true then (some (([] : List Int), false)) else (if 0 ≤ x9 then (if x9 ≤ (x2.length : Int) then ((impl_arrivals_1.f (x2.take (x9 : Int).toNat) x354000 x354001 x354002).bind fun t362 => (if t362 = true then (some (([] : List Int), false)) else (if 0 ≤ x354001 then (if x354001 < (x8.length : Int) then (impl_arrivals.l0 k x0 x1 x2 (x8.set (x354001 : Int).toNat (wrap64 (x354002 + x0))) x21 x22 (wrap64 (x23 + 1))) else (none)) else (none)))) else (none)) else (none))
def impl_arrivals.l1 : Nat → List Int → List (S48) → Int → Int → Option (List Int × Bool)
  | 0, _, _, _, _ => none
  | k + 1, x8, x77, x78, x79 => if x79 < x78 then (if 0 ≤ x79 then (if x79 < (x77.length : Int) then (if 0 ≤ ((rd_T48 x77 x79).f0) then (if ((rd_T48 x77 x79).f0) < (x8.length : Int) then (if (rd x8 ((rd_T48 x77 x79).f0)) < 0 then (some (([] : List Int), false)) else (if (rd x8 ((rd_T48 x77 x79).f0)) > ((rd_T48 x77 x79).f2) then (some (([] : List Int), false)) else (impl_arrivals.l1 k x8 x77 x78 (wrap64 (x79 + 1))))) else (none)) else (none)) else (none)) else (none)) else (some (x8, true))
end
def impl_arrivals.f (k : Nat) (a0 : Int) (a1 : Int) (l2 : List (S48)) : Option (List Int × Bool) := if (l2.length : Int) > 40 then (some (([] : List Int), false)) else ((slices_Repeat_int_int.f (([(-1)] : List Int)) a1).bind fun t348 => (if 0 < (t348.length : Int) then (impl_arrivals.l0 k a0 a1 l2 (t348.set (0 : Int).toNat 0) l2 (l2.length : Int) 0) else (none)))
theorem impl_arrivals.mono_l : ∀ k, (∀ y0 y1 y2 y3 y4 y5 y6, LeO (impl_arrivals.l0 k y0 y1 y2 y3 y4 y5 y6) (impl_arrivals.l0 (k + 1) y0 y1 y2 y3 y4 y5 y6)) ∧ (∀ y0 y1 y2 y3 y4 y5 y6 y7 y8 y9 y10 y11, LeO (impl_arrivals.j1 k y0 y1 y2 y3 y4 y5 y6 y7 y8 y9 y10 y11) (impl_arrivals.j1 (k + 1) y0 y1 y2 y3 y4 y5 y6 y7 y8 y9 y10 y11)) ∧ (∀ y0 y1 y2 y3, LeO (impl_arrivals.l1 k y0 y1 y2 y3) (impl_arrivals.l1 (k + 1) y0 y1 y2 y3))
  | 0 => ⟨fun _ _ _ _ _ _ _ r h => by simp [impl_arrivals.l0] at h, fun _ _ _ _ _ _ _ _ _ _ _ _ r h => by simp [impl_arrivals.j1] at h, fun _ _ _ _ r h => by simp [impl_arrivals.l1] at h⟩
  | k + 1 => by
    obtain ⟨ih0, ih1, ih2⟩ := impl_arrivals.mono_l k
    refine ⟨?_, ?_, ?_⟩
    · intro y0 y1 y2 y3 y4 y5 y6
      unfold impl_arrivals.l0
      repeat' first
      | (with_reducible exact ih0 _ _ _ _ _ _ _)
      | (with_reducible exact ih1 _ _ _ _ _ _ _ _ _ _ _ _)
      | (with_reducible exact ih2 _ _ _ _)
      | (with_reducible exact LeO.refl _)
      | (with_reducible exact LeO.none _)
      | (with_reducible refine LeO.ite ?_ ?_)
      | (with_reducible refine LeO.bind ?_ (fun _ => ?_))
      | exact ih0 _ _ _ _ _ _ _
      | exact ih1 _ _ _ _ _ _ _ _ _ _ _ _
      | exact ih2 _ _ _ _
      | exact LeO.none _
      | refine LeO.ite ?_ ?_
      | refine LeO.bind ?_ (fun _ => ?_)
    · intro y0 y1 y2 y3 y4 y5 y6 y7 y8 y9 y10 y11
      unfold impl_arrivals.j1
      repeat' first
      | (with_reducible exact ih0 _ _ _ _ _ _ _)
      | (with_reducible exact ih1 _ _ _ _ _ _ _ _ _ _ _ _)
      | (with_reducible exact ih2 _ _ _ _)
      | (with_reducible exact LeO.refl _)
      | (with_reducible exact LeO.none _)
      | (with_reducible refine LeO.ite ?_ ?_)
      | (with_reducible refine LeO.bind ?_ (fun _ => ?_))
      | exact ih0 _ _ _ _ _ _ _
      | exact ih1 _ _ _ _ _ _ _ _ _ _ _ _
      | exact ih2 _ _ _ _
      | exact LeO.none _
      | refine LeO.ite ?_ ?_
      | refine LeO.bind ?_ (fun _ => ?_)
    · intro y0 y1 y2 y3
      unfold impl_arrivals.l1
      repeat' first
      | (with_reducible exact ih0 _ _ _ _ _ _ _)
      | (with_reducible exact ih1 _ _ _ _ _ _ _ _ _ _ _ _)
      | (with_reducible exact ih2 _ _ _ _)
      | (with_reducible exact LeO.refl _)
      | (with_reducible exact LeO.none _)
      | (with_reducible refine LeO.ite ?_ ?_)
      | (with_reducible refine LeO.bind ?_ (fun _ => ?_))
      | exact ih0 _ _ _ _ _ _ _
      | exact ih1 _ _ _ _ _ _ _ _ _ _ _ _
      | exact ih2 _ _ _ _
      | exact LeO.none _
      | refine LeO.ite ?_ ?_
      | refine LeO.bind ?_ (fun _ => ?_)
theorem impl_arrivals.mono : ∀ a0 a1 a2 k, LeO (impl_arrivals.f k a0 a1 a2) (impl_arrivals.f (k + 1) a0 a1 a2) := by
  intro a0 a1 a2 k
  obtain ⟨ih0, ih1, ih2⟩ := impl_arrivals.mono_l k
  unfold impl_arrivals.f
  repeat' first
      | (with_reducible exact ih0 _ _ _ _ _ _ _)
      | (with_reducible exact ih1 _ _ _ _ _ _ _ _ _ _ _ _)
      | (with_reducible exact ih2 _ _ _ _)
      | (with_reducible exact LeO.refl _)
      | (with_reducible exact LeO.none _)
      | (with_reducible refine LeO.ite ?_ ?_)
      | (with_reducible refine LeO.bind ?_ (fun _ => ?_))
      | exact ih0 _ _ _ _ _ _ _
      | exact ih1 _ _ _ _ _ _ _ _ _ _ _ _
      | exact ih2 _ _ _ _
      | exact LeO.none _
      | refine LeO.ite ?_ ?_
      | refine LeO.bind ?_ (fun _ => ?_)
set_option maxHeartbeats 8000000 in
set_option maxRecDepth 100000 in
theorem impl_arrivals.calls (k : Nat) (a0 : Int) (a1 : Int) (A2 : Option Addr) (c2 : Nat) (l2 : List (S48)) (r1 : List Int) (r2 : Bool) (w : World) (hr2 : Kd.C k48 w A2 l2.length l2) (hc2 : l2.length ≤ c2) (h : impl_arrivals.f k a0 a1 l2 = some (r1, r2)) :
    Calls Try.prog 98 #[.int .i64 a0, .int .i64 a1, .slice A2 l2.length c2] w fun e w' => ∃ v0_ : Value, e = .returned (.tuple #[v0_, .bool r2]) ∧ Kd.R (Kd.int .i64) 3 w' w.heap.size (fun _ => True) v0_ r1 ∧ Below w.heap.size w w' := by
  have hu48 := Try.underlying48
  have HR2 := Aside0.mk hr2
  have HC2 := Aside0.mk hc2
  clear hr2 hc2
  have HB := Aside0.mk (Below.refl w.heap.size w)
  have H : (if (l2.length : Int) > 40 then (some (([] : List Int), false)) else ((slices_Repeat_int_int.f (([(-1)] : List Int)) a1).bind fun t348 => (if 0 < (t348.length : Int) then (impl_arrivals.l0 k a0 a1 l2 (t348.set (0 : Int).toNat 0) l2 (l2.length : Int) 0) else (none)))) = some (r1, r2) := h
  clear h
  by_cases c4 : (l2.length : Int) > 40
  · rw [if_pos c4] at H
    have c4b0 : decide (40 < (l2.length : Int)) = true := decide_eq_true c4
    have c4b1 : decide (40 < l2.length) = true := decide_eq_true (by omega)
    clear c4
    simp only [Option.some.injEq, Prod.mk.injEq] at H
    obtain ⟨rfl, rfl⟩ := H
    go_enter Try.func98, Try.ntmps98
    go_wp2
    repeat (go_quiet (fail); try go_wp2)
    go_ret2
    exact ⟨_, by first | rfl | (simp [errW_none, errW_some] <;> rfl) | (simp [*, errW_none, errW_some] <;> rfl), by first | exact Kd.R_nil _ _ _ _ _ | exact Kd.N_nil _ _ _ _ _ | exact Kd.V_nil _ _ _ _ _ | exact Kd.Q_nil _ _ _ _ _ | exact Kd.S_nil _ _ _ _ _, by repeat (first | (with_reducible first | exact HB.out | apply below_alloc | apply pw_below_drewN | apply below_drew1) | exact HB.out)⟩
  · rw [if_neg c4] at H
    have c4b0 : decide (40 < (l2.length : Int)) = false := decide_eq_false c4
    have c4b1 : decide (40 < l2.length) = false := decide_eq_false (by omega)
    clear c4
    obtain ⟨y345, hy345⟩ : ∃ y_ : List Int, y_ = (([(-1)] : List Int)) := ⟨_, rfl⟩
    replace H : ((slices_Repeat_int_int.f y345 a1).bind fun t348 => (if 0 < (t348.length : Int) then (impl_arrivals.l0 k a0 a1 l2 (t348.set (0 : Int).toNat 0) l2 (l2.length : Int) 0) else (none))) = some (r1, r2) := by first | (rw [hy345]; with_reducible exact H) | (have H2_ := (Option.bind_some _ _).symm.trans H; rw [hy345]; with_reducible exact H2_) | (have H2_ := (Option.bind_some _ _).symm.trans H; with_reducible exact H2_) | with_reducible exact H | (rw [hy345]; exact H) | exact H
    have Ny345 := Aside0.mk hy345
    clear hy345
    replace H := Option.bind_eq_some_iff.mp H
    obtain ⟨t348, A50, H⟩ := H
    replace H : (if 0 < (t348.length : Int) then (impl_arrivals.l0 k a0 a1 l2 (t348.set (0 : Int).toNat 0) l2 (l2.length : Int) 0) else (none)) = some (r1, r2) := H
    have A5 := Aside0.mk A50
    clear A50
    by_cases c6 : 0 < (t348.length : Int)
    · rw [if_pos c6] at H
      have c6b0 : decide (0 < (t348.length : Int)) = true := decide_eq_true c6
      have c6b1 : decide (0 < t348.length) = true := decide_eq_true (by omega)
      clear c6
      obtain ⟨y351, hy351⟩ : ∃ y_ : List Int, y_ = (t348.set (0 : Int).toNat 0) := ⟨_, rfl⟩
      replace H : (impl_arrivals.l0 k a0 a1 l2 y351 l2 (l2.length : Int) 0) = some (r1, r2) := by first | (rw [hy351]; with_reducible exact H) | (have H2_ := (Option.bind_some _ _).symm.trans H; rw [hy351]; with_reducible exact H2_) | (have H2_ := (Option.bind_some _ _).symm.trans H; with_reducible exact H2_) | with_reducible exact H | (rw [hy351]; exact H) | exact H
      have Ny351 := Aside0.mk hy351
      clear hy351
      have H' := Aside0.mk H
      clear H
      go_enter Try.func98, Try.ntmps98
      go_wp2_with (first | ((with_reducible refine gate_dst (N := 16) rfl ?_); refine Kd.R_lit (Kd.int .i64) _ 3 ?hg (N := 16) ?hd (xs := ([(-1)] : List Int)) (inner := [.int .i64 (-1)]) (ok := fun _ => True) (okp := fun _ => True) ?hr ?hp (fun _ hk => hk) trivial (Below.refl _ _) (Nat.le_refl _) (by simp) ?_; (case hd => rfl); (case hg => rfl); (case hr => first | (go_simp; done) | (go_simp; rfl)); (case hp => exact (Reps.one (show Kd.M (Kd.int .i64) _ _ _ (-1) [.int .i64 (-1)] from rfl) (Reps.none _ _))); intro v346 w8 ho9 hb hg_ hnew_; clear hg_ hnew_; (first | rw [← Ny345.out] at ho9 | (simp only [Int.reduceToNat] at ho9; rw [← Ny345.out] at ho9)); have n0_ := Aside0.mk (Kd.R_lower ho9 (below_size (by repeat (first | (with_reducible first | exact HB.out | apply below_alloc | apply pw_below_drewN | apply below_drew1) | exact HB.out)))); have n1_ := Aside0.mk (below_step (by repeat (first | (with_reducible first | exact HB.out | apply below_alloc | apply pw_below_drewN | apply below_drew1) | exact HB.out)) hb); clear HB; have HO347 := n0_; have HB := n1_; clear n0_ n1_; clear hb ho9; obtain ⟨Ao10, co10, eo10⟩ := Kd.R_slice HO347.out; subst eo10) | (go_at_call 146; (with_reducible refine (slices_Repeat_int_int.calls _ _ y345 a1 t348 _ ?side1 ?side2 A5.out).mono ?_); (case side1 => repeat (first | exact (Kd.R_reads' HO347.out).2.2 | (with_reducible refine Kd.C_alloc ?_ _) | (with_reducible refine Kd.C_drewN ?_ _) | (with_reducible refine Kd.C_drew ?_))); (case side2 => exact (Kd.R_reads' HO347.out).2.1); rintro e w11 ⟨v349, rfl, ho0, hb⟩; have n0_ := Aside0.mk (Kd.R_elder' (by (with_reducible repeat (first | apply Kd.R_alloc | apply Kd.R_drewN | apply Kd.R_drew)); exact HO347.out) (Kd.R_base ho0) hb); have n1_ := Aside0.mk (Kd.R_lower (Kd.R_new' ho0 (Kd.R_lt (by (with_reducible repeat (first | apply Kd.R_alloc | apply Kd.R_drewN | apply Kd.R_drew)); exact HO347.out))) (below_size (by repeat (first | (with_reducible first | exact HB.out | apply below_alloc | apply pw_below_drewN | apply below_drew1) | exact HB.out)))); have n2_ := Aside0.mk (below_step (by repeat (first | (with_reducible first | exact HB.out | apply below_alloc | apply pw_below_drewN | apply below_drew1) | exact HB.out)) hb); clear HO347; clear HB; have HO347 := n0_; have HO350 := n1_; have HB := n2_; clear n0_ n1_ n2_; (try clear hb); (try clear hb2); (try clear hk); (try clear hi); (try clear ho0); have p7 : 0 ≤ (0 : Int) := (by omega); have q7 : (0 : Int) < ((t348.length : Int) : Int) := of_decide_eq_true (by first | (with_reducible assumption) | assumption); have qi7 : (0 < t348.length) = True := eq_true (by omega); obtain ⟨go7, co7, eo7, gb7, gl7, cl7, HG7⟩ := Kd.R_form HO350.out (by omega); (first | cases eo7 | (injection eo7 with ea_ en_ ec_; (first | subst ea_ | (injection ea_ with ea_; subst ea_)); subst ec_; clear en_)); have GB7 := Aside0.mk gb7; have GG7 := Aside0.mk HG7; clear gb7 gl7 HG7; obtain ⟨hx7_0, hf7_0⟩ := Kd.R_celln 0 HO350.out (0 : Int) p7 q7; (try rw [show ((0 : Int)).toNat = 0 from rfl] at hx7_0); (try simp only [Nat.reduceMul, Nat.zero_mul, Nat.zero_add, Nat.reduceAdd] at hx7_0); (try rw [show ((0 : Int)).toNat = 0 from rfl] at hf7_0); (try simp only [Nat.reduceMul, Nat.zero_mul, Nat.zero_add, Nat.reduceAdd] at hf7_0); replace p7 := eq_true p7; replace q7 := eq_true q7; have n_ := Aside0.mk (Kd.R_mono (ok' := (fun k_ => some k_ ≠ (.slice Ao10 y345.length co10 : Value).ownBlock)) HO350.out (fun k_ hk => hk.2)); clear HO350; have HO350 := n_; clear n_; obtain ⟨hy12_, hz12_⟩ := Kd.R_celln 0 HO350.out (0 : Int) (by omega) (of_decide_eq_true (by first | (with_reducible assumption) | assumption)); (try simp only [Int.reduceToNat, Int.toNat_zero, Int.toNat_ofNat, Nat.reduceMul, Nat.zero_mul, Nat.zero_add] at hy12_ hz12_); (try rw [show ((0 : Int)).toNat = 0 from rfl] at hy12_); (try rw [show ((0 : Int)).toNat = 0 from rfl] at hz12_); have HP12 := Kd.R_putg HO350.out (0 : Int) 0) | ((with_reducible refine gate_store (t := 3) (p := 20) rfl ?_); (try (rw [drewN_self w11]; generalize hq_ : World.drewN w11 _ = w11; have n0_ := Aside0.mk (Kd.R_at hq_ HO347.out); have n1_ := Aside0.mk (Kd.R_at hq_ HO350.out); have n2_ := Aside0.mk (below_at hq_ HB.out); clear hq_ HO347 HO350 HB; have HO347 := n0_; have HO350 := n1_; have HB := n2_; clear n0_ n1_ n2_; (try (have n_ := Aside0.mk (Kd.R_mono (ok' := (fun k_ => some k_ ≠ (.slice Ao10 y345.length co10 : Value).ownBlock)) HO350.out (fun k_ hk => hk.2)); clear HO350; have HO350 := n_; clear n_)); (try (obtain ⟨hy12_, hz12_⟩ := Kd.R_celln 0 HO350.out (0 : Int) (by omega) (of_decide_eq_true (by first | (with_reducible assumption) | assumption)))); (try (try simp only [Int.reduceToNat, Int.toNat_zero, Int.toNat_ofNat, Nat.reduceMul, Nat.zero_mul, Nat.zero_add] at hy12_ hz12_)); (try (try rw [show ((0 : Int)).toNat = 0 from rfl] at hy12_)); (try (try rw [show ((0 : Int)).toNat = 0 from rfl] at hz12_)); (try (have HP12 := Kd.R_putg HO350.out (0 : Int) 0)))); refine store_event (t := 3) (p := 20) (v := ?vo_w13) (w1 := (w11.setCell ⟨go7, (0 : Int).toNat, none⟩ (.int .i64 0))) ?hg ?ho ?hn ?hr ?_; (case ho => rfl); (case hg => rfl); (case hn => rfl); (case hr => first | (go_simp; done) | (go_simp; rfl)); intro w13 hw; have hg : w11.grownBy w13 (some go7) := (by rw [hw]; exact HP12.2); have hp_ : Kd.R (Kd.int .i64) 3 w13 w.heap.size (fun k_ => some k_ ≠ (.slice Ao10 y345.length co10 : Value).ownBlock) (.slice (some ⟨go7, 0, none⟩) t348.length co7) y351 := (by rw [hw, Ny351.out]; exact HP12.1); clear HP12; have n0_ := Aside0.mk (Kd.R_after (v := (.slice (some ⟨go7, 0, none⟩) t348.length co7)) (v1 := (.slice (some ⟨go7, 0, none⟩) t348.length co7)) (ok := (fun _ => True)) (by (with_reducible repeat (first | apply Kd.R_alloc | apply Kd.R_drewN | apply Kd.R_drew)); exact HO347.out) hg (.inl rfl)); have n1_ := Aside0.mk (hp_); have n2_ := Aside0.mk ((by rw [hw]; exact below_set (HB.out) GB7.out : Below w.heap.size w w13)); clear HO347; clear HO350; clear HB; have HO347 := n0_; have HO350 := n1_; have HB := n2_; clear n0_ n1_ n2_; clear hg hw hp_))
      repeat (go_quiet (first | ((with_reducible refine gate_dst (N := 16) rfl ?_); refine Kd.R_lit (Kd.int .i64) _ 3 ?hg (N := 16) ?hd (xs := ([(-1)] : List Int)) (inner := [.int .i64 (-1)]) (ok := fun _ => True) (okp := fun _ => True) ?hr ?hp (fun _ hk => hk) trivial (Below.refl _ _) (Nat.le_refl _) (by simp) ?_; (case hd => rfl); (case hg => rfl); (case hr => first | (go_simp; done) | (go_simp; rfl)); (case hp => exact (Reps.one (show Kd.M (Kd.int .i64) _ _ _ (-1) [.int .i64 (-1)] from rfl) (Reps.none _ _))); intro v346 w8 ho9 hb hg_ hnew_; clear hg_ hnew_; (first | rw [← Ny345.out] at ho9 | (simp only [Int.reduceToNat] at ho9; rw [← Ny345.out] at ho9)); have n0_ := Aside0.mk (Kd.R_lower ho9 (below_size (by repeat (first | (with_reducible first | exact HB.out | apply below_alloc | apply pw_below_drewN | apply below_drew1) | exact HB.out)))); have n1_ := Aside0.mk (below_step (by repeat (first | (with_reducible first | exact HB.out | apply below_alloc | apply pw_below_drewN | apply below_drew1) | exact HB.out)) hb); clear HB; have HO347 := n0_; have HB := n1_; clear n0_ n1_; clear hb ho9; obtain ⟨Ao10, co10, eo10⟩ := Kd.R_slice HO347.out; subst eo10) | (go_at_call 146; (with_reducible refine (slices_Repeat_int_int.calls _ _ y345 a1 t348 _ ?side1 ?side2 A5.out).mono ?_); (case side1 => repeat (first | exact (Kd.R_reads' HO347.out).2.2 | (with_reducible refine Kd.C_alloc ?_ _) | (with_reducible refine Kd.C_drewN ?_ _) | (with_reducible refine Kd.C_drew ?_))); (case side2 => exact (Kd.R_reads' HO347.out).2.1); rintro e w11 ⟨v349, rfl, ho0, hb⟩; have n0_ := Aside0.mk (Kd.R_elder' (by (with_reducible repeat (first | apply Kd.R_alloc | apply Kd.R_drewN | apply Kd.R_drew)); exact HO347.out) (Kd.R_base ho0) hb); have n1_ := Aside0.mk (Kd.R_lower (Kd.R_new' ho0 (Kd.R_lt (by (with_reducible repeat (first | apply Kd.R_alloc | apply Kd.R_drewN | apply Kd.R_drew)); exact HO347.out))) (below_size (by repeat (first | (with_reducible first | exact HB.out | apply below_alloc | apply pw_below_drewN | apply below_drew1) | exact HB.out)))); have n2_ := Aside0.mk (below_step (by repeat (first | (with_reducible first | exact HB.out | apply below_alloc | apply pw_below_drewN | apply below_drew1) | exact HB.out)) hb); clear HO347; clear HB; have HO347 := n0_; have HO350 := n1_; have HB := n2_; clear n0_ n1_ n2_; (try clear hb); (try clear hb2); (try clear hk); (try clear hi); (try clear ho0); have p7 : 0 ≤ (0 : Int) := (by omega); have q7 : (0 : Int) < ((t348.length : Int) : Int) := of_decide_eq_true (by first | (with_reducible assumption) | assumption); have qi7 : (0 < t348.length) = True := eq_true (by omega); obtain ⟨go7, co7, eo7, gb7, gl7, cl7, HG7⟩ := Kd.R_form HO350.out (by omega); (first | cases eo7 | (injection eo7 with ea_ en_ ec_; (first | subst ea_ | (injection ea_ with ea_; subst ea_)); subst ec_; clear en_)); have GB7 := Aside0.mk gb7; have GG7 := Aside0.mk HG7; clear gb7 gl7 HG7; obtain ⟨hx7_0, hf7_0⟩ := Kd.R_celln 0 HO350.out (0 : Int) p7 q7; (try rw [show ((0 : Int)).toNat = 0 from rfl] at hx7_0); (try simp only [Nat.reduceMul, Nat.zero_mul, Nat.zero_add, Nat.reduceAdd] at hx7_0); (try rw [show ((0 : Int)).toNat = 0 from rfl] at hf7_0); (try simp only [Nat.reduceMul, Nat.zero_mul, Nat.zero_add, Nat.reduceAdd] at hf7_0); replace p7 := eq_true p7; replace q7 := eq_true q7; have n_ := Aside0.mk (Kd.R_mono (ok' := (fun k_ => some k_ ≠ (.slice Ao10 y345.length co10 : Value).ownBlock)) HO350.out (fun k_ hk => hk.2)); clear HO350; have HO350 := n_; clear n_; obtain ⟨hy12_, hz12_⟩ := Kd.R_celln 0 HO350.out (0 : Int) (by omega) (of_decide_eq_true (by first | (with_reducible assumption) | assumption)); (try simp only [Int.reduceToNat, Int.toNat_zero, Int.toNat_ofNat, Nat.reduceMul, Nat.zero_mul, Nat.zero_add] at hy12_ hz12_); (try rw [show ((0 : Int)).toNat = 0 from rfl] at hy12_); (try rw [show ((0 : Int)).toNat = 0 from rfl] at hz12_); have HP12 := Kd.R_putg HO350.out (0 : Int) 0) | ((with_reducible refine gate_store (t := 3) (p := 20) rfl ?_); (try (rw [drewN_self w11]; generalize hq_ : World.drewN w11 _ = w11; have n0_ := Aside0.mk (Kd.R_at hq_ HO347.out); have n1_ := Aside0.mk (Kd.R_at hq_ HO350.out); have n2_ := Aside0.mk (below_at hq_ HB.out); clear hq_ HO347 HO350 HB; have HO347 := n0_; have HO350 := n1_; have HB := n2_; clear n0_ n1_ n2_; (try (have n_ := Aside0.mk (Kd.R_mono (ok' := (fun k_ => some k_ ≠ (.slice Ao10 y345.length co10 : Value).ownBlock)) HO350.out (fun k_ hk => hk.2)); clear HO350; have HO350 := n_; clear n_)); (try (obtain ⟨hy12_, hz12_⟩ := Kd.R_celln 0 HO350.out (0 : Int) (by omega) (of_decide_eq_true (by first | (with_reducible assumption) | assumption)))); (try (try simp only [Int.reduceToNat, Int.toNat_zero, Int.toNat_ofNat, Nat.reduceMul, Nat.zero_mul, Nat.zero_add] at hy12_ hz12_)); (try (try rw [show ((0 : Int)).toNat = 0 from rfl] at hy12_)); (try (try rw [show ((0 : Int)).toNat = 0 from rfl] at hz12_)); (try (have HP12 := Kd.R_putg HO350.out (0 : Int) 0)))); refine store_event (t := 3) (p := 20) (v := ?vo_w13) (w1 := (w11.setCell ⟨go7, (0 : Int).toNat, none⟩ (.int .i64 0))) ?hg ?ho ?hn ?hr ?_; (case ho => rfl); (case hg => rfl); (case hn => rfl); (case hr => first | (go_simp; done) | (go_simp; rfl)); intro w13 hw; have hg : w11.grownBy w13 (some go7) := (by rw [hw]; exact HP12.2); have hp_ : Kd.R (Kd.int .i64) 3 w13 w.heap.size (fun k_ => some k_ ≠ (.slice Ao10 y345.length co10 : Value).ownBlock) (.slice (some ⟨go7, 0, none⟩) t348.length co7) y351 := (by rw [hw, Ny351.out]; exact HP12.1); clear HP12; have n0_ := Aside0.mk (Kd.R_after (v := (.slice (some ⟨go7, 0, none⟩) t348.length co7)) (v1 := (.slice (some ⟨go7, 0, none⟩) t348.length co7)) (ok := (fun _ => True)) (by (with_reducible repeat (first | apply Kd.R_alloc | apply Kd.R_drewN | apply Kd.R_drew)); exact HO347.out) hg (.inl rfl)); have n1_ := Aside0.mk (hp_); have n2_ := Aside0.mk ((by rw [hw]; exact below_set (HB.out) GB7.out : Below w.heap.size w w13)); clear HO347; clear HO350; clear HB; have HO347 := n0_; have HO350 := n1_; have HB := n2_; clear n0_ n1_ n2_; clear hg hw hp_)); try go_wp2_with (first | ((with_reducible refine gate_dst (N := 16) rfl ?_); refine Kd.R_lit (Kd.int .i64) _ 3 ?hg (N := 16) ?hd (xs := ([(-1)] : List Int)) (inner := [.int .i64 (-1)]) (ok := fun _ => True) (okp := fun _ => True) ?hr ?hp (fun _ hk => hk) trivial (Below.refl _ _) (Nat.le_refl _) (by simp) ?_; (case hd => rfl); (case hg => rfl); (case hr => first | (go_simp; done) | (go_simp; rfl)); (case hp => exact (Reps.one (show Kd.M (Kd.int .i64) _ _ _ (-1) [.int .i64 (-1)] from rfl) (Reps.none _ _))); intro v346 w8 ho9 hb hg_ hnew_; clear hg_ hnew_; (first | rw [← Ny345.out] at ho9 | (simp only [Int.reduceToNat] at ho9; rw [← Ny345.out] at ho9)); have n0_ := Aside0.mk (Kd.R_lower ho9 (below_size (by repeat (first | (with_reducible first | exact HB.out | apply below_alloc | apply pw_below_drewN | apply below_drew1) | exact HB.out)))); have n1_ := Aside0.mk (below_step (by repeat (first | (with_reducible first | exact HB.out | apply below_alloc | apply pw_below_drewN | apply below_drew1) | exact HB.out)) hb); clear HB; have HO347 := n0_; have HB := n1_; clear n0_ n1_; clear hb ho9; obtain ⟨Ao10, co10, eo10⟩ := Kd.R_slice HO347.out; subst eo10) | (go_at_call 146; (with_reducible refine (slices_Repeat_int_int.calls _ _ y345 a1 t348 _ ?side1 ?side2 A5.out).mono ?_); (case side1 => repeat (first | exact (Kd.R_reads' HO347.out).2.2 | (with_reducible refine Kd.C_alloc ?_ _) | (with_reducible refine Kd.C_drewN ?_ _) | (with_reducible refine Kd.C_drew ?_))); (case side2 => exact (Kd.R_reads' HO347.out).2.1); rintro e w11 ⟨v349, rfl, ho0, hb⟩; have n0_ := Aside0.mk (Kd.R_elder' (by (with_reducible repeat (first | apply Kd.R_alloc | apply Kd.R_drewN | apply Kd.R_drew)); exact HO347.out) (Kd.R_base ho0) hb); have n1_ := Aside0.mk (Kd.R_lower (Kd.R_new' ho0 (Kd.R_lt (by (with_reducible repeat (first | apply Kd.R_alloc | apply Kd.R_drewN | apply Kd.R_drew)); exact HO347.out))) (below_size (by repeat (first | (with_reducible first | exact HB.out | apply below_alloc | apply pw_below_drewN | apply below_drew1) | exact HB.out)))); have n2_ := Aside0.mk (below_step (by repeat (first | (with_reducible first | exact HB.out | apply below_alloc | apply pw_below_drewN | apply below_drew1) | exact HB.out)) hb); clear HO347; clear HB; have HO347 := n0_; have HO350 := n1_; have HB := n2_; clear n0_ n1_ n2_; (try clear hb); (try clear hb2); (try clear hk); (try clear hi); (try clear ho0); have p7 : 0 ≤ (0 : Int) := (by omega); have q7 : (0 : Int) < ((t348.length : Int) : Int) := of_decide_eq_true (by first | (with_reducible assumption) | assumption); have qi7 : (0 < t348.length) = True := eq_true (by omega); obtain ⟨go7, co7, eo7, gb7, gl7, cl7, HG7⟩ := Kd.R_form HO350.out (by omega); (first | cases eo7 | (injection eo7 with ea_ en_ ec_; (first | subst ea_ | (injection ea_ with ea_; subst ea_)); subst ec_; clear en_)); have GB7 := Aside0.mk gb7; have GG7 := Aside0.mk HG7; clear gb7 gl7 HG7; obtain ⟨hx7_0, hf7_0⟩ := Kd.R_celln 0 HO350.out (0 : Int) p7 q7; (try rw [show ((0 : Int)).toNat = 0 from rfl] at hx7_0); (try simp only [Nat.reduceMul, Nat.zero_mul, Nat.zero_add, Nat.reduceAdd] at hx7_0); (try rw [show ((0 : Int)).toNat = 0 from rfl] at hf7_0); (try simp only [Nat.reduceMul, Nat.zero_mul, Nat.zero_add, Nat.reduceAdd] at hf7_0); replace p7 := eq_true p7; replace q7 := eq_true q7; have n_ := Aside0.mk (Kd.R_mono (ok' := (fun k_ => some k_ ≠ (.slice Ao10 y345.length co10 : Value).ownBlock)) HO350.out (fun k_ hk => hk.2)); clear HO350; have HO350 := n_; clear n_; obtain ⟨hy12_, hz12_⟩ := Kd.R_celln 0 HO350.out (0 : Int) (by omega) (of_decide_eq_true (by first | (with_reducible assumption) | assumption)); (try simp only [Int.reduceToNat, Int.toNat_zero, Int.toNat_ofNat, Nat.reduceMul, Nat.zero_mul, Nat.zero_add] at hy12_ hz12_); (try rw [show ((0 : Int)).toNat = 0 from rfl] at hy12_); (try rw [show ((0 : Int)).toNat = 0 from rfl] at hz12_); have HP12 := Kd.R_putg HO350.out (0 : Int) 0) | ((with_reducible refine gate_store (t := 3) (p := 20) rfl ?_); (try (rw [drewN_self w11]; generalize hq_ : World.drewN w11 _ = w11; have n0_ := Aside0.mk (Kd.R_at hq_ HO347.out); have n1_ := Aside0.mk (Kd.R_at hq_ HO350.out); have n2_ := Aside0.mk (below_at hq_ HB.out); clear hq_ HO347 HO350 HB; have HO347 := n0_; have HO350 := n1_; have HB := n2_; clear n0_ n1_ n2_; (try (have n_ := Aside0.mk (Kd.R_mono (ok' := (fun k_ => some k_ ≠ (.slice Ao10 y345.length co10 : Value).ownBlock)) HO350.out (fun k_ hk => hk.2)); clear HO350; have HO350 := n_; clear n_)); (try (obtain ⟨hy12_, hz12_⟩ := Kd.R_celln 0 HO350.out (0 : Int) (by omega) (of_decide_eq_true (by first | (with_reducible assumption) | assumption)))); (try (try simp only [Int.reduceToNat, Int.toNat_zero, Int.toNat_ofNat, Nat.reduceMul, Nat.zero_mul, Nat.zero_add] at hy12_ hz12_)); (try (try rw [show ((0 : Int)).toNat = 0 from rfl] at hy12_)); (try (try rw [show ((0 : Int)).toNat = 0 from rfl] at hz12_)); (try (have HP12 := Kd.R_putg HO350.out (0 : Int) 0)))); refine store_event (t := 3) (p := 20) (v := ?vo_w13) (w1 := (w11.setCell ⟨go7, (0 : Int).toNat, none⟩ (.int .i64 0))) ?hg ?ho ?hn ?hr ?_; (case ho => rfl); (case hg => rfl); (case hn => rfl); (case hr => first | (go_simp; done) | (go_simp; rfl)); intro w13 hw; have hg : w11.grownBy w13 (some go7) := (by rw [hw]; exact HP12.2); have hp_ : Kd.R (Kd.int .i64) 3 w13 w.heap.size (fun k_ => some k_ ≠ (.slice Ao10 y345.length co10 : Value).ownBlock) (.slice (some ⟨go7, 0, none⟩) t348.length co7) y351 := (by rw [hw, Ny351.out]; exact HP12.1); clear HP12; have n0_ := Aside0.mk (Kd.R_after (v := (.slice (some ⟨go7, 0, none⟩) t348.length co7)) (v1 := (.slice (some ⟨go7, 0, none⟩) t348.length co7)) (ok := (fun _ => True)) (by (with_reducible repeat (first | apply Kd.R_alloc | apply Kd.R_drewN | apply Kd.R_drew)); exact HO347.out) hg (.inl rfl)); have n1_ := Aside0.mk (hp_); have n2_ := Aside0.mk ((by rw [hw]; exact below_set (HB.out) GB7.out : Below w.heap.size w w13)); clear HO347; clear HO350; clear HB; have HO347 := n0_; have HO350 := n1_; have HB := n2_; clear n0_ n1_ n2_; clear hg hw hp_)))
      go_loopg [23] k (fun kq v23 w' => ∃ (x8_1 : List Int) (x23_1 : Int), v23 = .int .i64 x23_1 ∧ Aside0 (impl_arrivals.l0 kq a0 a1 l2 x8_1 l2 (l2.length : Int) x23_1 = some (r1, r2)) ∧ Aside0 (kq ≤ k) ∧ Aside0 (Kd.R (Kd.int .i64) 3 w' w.heap.size (fun _ => True) (.slice (some ⟨go7, 0, none⟩) t348.length co7) x8_1) ∧ Aside0 (Below w.heap.size w w'))
      case atStart => exact ⟨(y351), (0), (by first | rfl | (simp; done) | (simp [*]; done)), H', ⟨Nat.le_refl _⟩, ⟨by (with_reducible repeat (first | apply Kd.R_alloc | apply Kd.R_drewN | apply Kd.R_drew)); exact Kd.R_mono HO350.out (fun _ hk => trivial)⟩, ⟨by repeat (first | (with_reducible first | exact HB.out | apply below_alloc | apply pw_below_drewN | apply below_drew1) | exact HB.out)⟩⟩
      case round =>
        clear H'
        try clear c2
        try clear p2
        try clear c4
        try clear c4b0
        try clear c4b1
        try clear c6
        try clear c6b0
        try clear c6b1
        try clear p7
        try clear q7
        try clear hx7
        try clear qi7
        try clear hf7
        try clear c9
        try clear hx7_0
        try clear p7
        try clear q7
        obtain ⟨x8_1, x23_1, rfl, HA, HK1, HO_8, HB⟩ := hrel
        have hl8_1 := (Kd.R_reads' HO_8.out).1
        rw [hl8_1] at HO_8
        (try simp only [hl8_1])
        cases gk with
        | zero => exact absurd HA.out (by simp [impl_arrivals.l0])
        | succ k1 =>
          have H := HA.out
          clear HA
          simp only [impl_arrivals.l0] at H
          by_cases c14 : x23_1 < (l2.length : Int)
          · rw [if_pos c14] at H
            have c14b0 : decide (x23_1 < (l2.length : Int)) = true := decide_eq_true c14
            (try (have c14b0h := c14b0; simp only [hl8_1] at c14b0h))
            clear c14
            by_cases c15 : 0 ≤ x23_1
            · rw [if_pos c15] at H
              have c15b0 : decide (0 ≤ x23_1) = true := decide_eq_true c15
              clear c15
              by_cases c16 : x23_1 < (l2.length : Int)
              · rw [if_pos c16] at H
                have c16b0 : decide (x23_1 < (l2.length : Int)) = true := decide_eq_true c16
                (try (have c16b0h := c16b0; simp only [hl8_1] at c16b0h))
                clear c16
                have HC17 := Aside0.mk H
                clear H
                have p352 : 0 ≤ (x23_1 : Int) := of_decide_eq_true (by first | (with_reducible assumption) | assumption)
                have q352 : x23_1 < (l2.length : Int) := of_decide_eq_true (by first | (with_reducible assumption) | assumption)
                obtain ⟨ad352, e352, hx352_0, hx352_1, hx352_2⟩ := at_T48 HR2.out x23_1 p352 q352
                cases e352
                replace hx352_0 := (HB.out.cell (World.block_lt_of_cell? w _ hx352_0)).trans hx352_0
                replace hx352_1 := (HB.out.cell (World.block_lt_of_cell? w _ hx352_1)).trans hx352_1
                replace hx352_2 := (HB.out.cell (World.block_lt_of_cell? w _ hx352_2)).trans hx352_2
                replace p352 := eq_true p352
                replace q352 := eq_true q352
                go_upto_region 8 with (first | ((with_reducible refine gate_dst (N := 10) rfl ?_); refine box_event ?hg (N := 10) ?hd (cs := #[.int .i64 0, .int .i64 0, .int .i64 0]) (t := 48) ?hr ?_; (case hd => rfl); (case hg => rfl); (case hr => first | (go_simp; done) | (go_simp; rfl)); intro gb353 hg w18 hbox hb; have n0_ := Aside0.mk (Kd.R_below (by (with_reducible repeat (first | apply Kd.R_alloc | apply Kd.R_drewN | apply Kd.R_drew)); exact HO_8.out) hb); have n1_ := Aside0.mk (below_step (by repeat (first | (with_reducible first | exact HB.out | apply below_alloc | apply pw_below_drewN | apply below_drew1) | exact HB.out)) hb); have n2_ := Aside0.mk (hbox); have n3_ := Aside0.mk ((by rw [hg]; exact (below_size (by repeat (first | (with_reducible first | exact HB.out | apply below_alloc | apply pw_below_drewN | apply below_drew1) | exact HB.out))) : w.heap.size ≤ gb353)); have n4_ := Aside0.mk ((by rw [hg]; exact (below_size (by repeat (first | (with_reducible first | exact HB.out | apply below_alloc | apply pw_below_drewN | apply below_drew1) | exact HB.out))) : w.heap.size ≤ gb353)); clear HO_8; clear HB; have HO_8 := n0_; have HB := n1_; have BK353 := n2_; have GW353 := n3_; have GE353 := n4_; clear n0_ n1_ n2_ n3_ n4_; clear hb hbox hg; have hcz19_0 : w18.cell? ⟨gb353, 0, none⟩ = some (.int .i64 0) := (blk_cell BK353.out 0).trans rfl; have hcz19_1 : w18.cell? ⟨gb353, 1, none⟩ = some (.int .i64 0) := (blk_cell BK353.out 1).trans rfl; have hcz19_2 : w18.cell? ⟨gb353, 2, none⟩ = some (.int .i64 0) := (blk_cell BK353.out 2).trans rfl; have hfz19_0 := blk_frozen BK353.out 0; have hfz19_1 := blk_frozen BK353.out 1; have hfz19_2 := blk_frozen BK353.out 2))
                repeat (go_quiet (first | ((with_reducible refine gate_dst (N := 10) rfl ?_); refine box_event ?hg (N := 10) ?hd (cs := #[.int .i64 0, .int .i64 0, .int .i64 0]) (t := 48) ?hr ?_; (case hd => rfl); (case hg => rfl); (case hr => first | (go_simp; done) | (go_simp; rfl)); intro gb353 hg w18 hbox hb; have n0_ := Aside0.mk (Kd.R_below (by (with_reducible repeat (first | apply Kd.R_alloc | apply Kd.R_drewN | apply Kd.R_drew)); exact HO_8.out) hb); have n1_ := Aside0.mk (below_step (by repeat (first | (with_reducible first | exact HB.out | apply below_alloc | apply pw_below_drewN | apply below_drew1) | exact HB.out)) hb); have n2_ := Aside0.mk (hbox); have n3_ := Aside0.mk ((by rw [hg]; exact (below_size (by repeat (first | (with_reducible first | exact HB.out | apply below_alloc | apply pw_below_drewN | apply below_drew1) | exact HB.out))) : w.heap.size ≤ gb353)); have n4_ := Aside0.mk ((by rw [hg]; exact (below_size (by repeat (first | (with_reducible first | exact HB.out | apply below_alloc | apply pw_below_drewN | apply below_drew1) | exact HB.out))) : w.heap.size ≤ gb353)); clear HO_8; clear HB; have HO_8 := n0_; have HB := n1_; have BK353 := n2_; have GW353 := n3_; have GE353 := n4_; clear n0_ n1_ n2_ n3_ n4_; clear hb hbox hg; have hcz19_0 : w18.cell? ⟨gb353, 0, none⟩ = some (.int .i64 0) := (blk_cell BK353.out 0).trans rfl; have hcz19_1 : w18.cell? ⟨gb353, 1, none⟩ = some (.int .i64 0) := (blk_cell BK353.out 1).trans rfl; have hcz19_2 : w18.cell? ⟨gb353, 2, none⟩ = some (.int .i64 0) := (blk_cell BK353.out 2).trans rfl; have hfz19_0 := blk_frozen BK353.out 0; have hfz19_1 := blk_frozen BK353.out 1; have hfz19_2 := blk_frozen BK353.out 2)); go_upto_region 8 with (first | ((with_reducible refine gate_dst (N := 10) rfl ?_); refine box_event ?hg (N := 10) ?hd (cs := #[.int .i64 0, .int .i64 0, .int .i64 0]) (t := 48) ?hr ?_; (case hd => rfl); (case hg => rfl); (case hr => first | (go_simp; done) | (go_simp; rfl)); intro gb353 hg w18 hbox hb; have n0_ := Aside0.mk (Kd.R_below (by (with_reducible repeat (first | apply Kd.R_alloc | apply Kd.R_drewN | apply Kd.R_drew)); exact HO_8.out) hb); have n1_ := Aside0.mk (below_step (by repeat (first | (with_reducible first | exact HB.out | apply below_alloc | apply pw_below_drewN | apply below_drew1) | exact HB.out)) hb); have n2_ := Aside0.mk (hbox); have n3_ := Aside0.mk ((by rw [hg]; exact (below_size (by repeat (first | (with_reducible first | exact HB.out | apply below_alloc | apply pw_below_drewN | apply below_drew1) | exact HB.out))) : w.heap.size ≤ gb353)); have n4_ := Aside0.mk ((by rw [hg]; exact (below_size (by repeat (first | (with_reducible first | exact HB.out | apply below_alloc | apply pw_below_drewN | apply below_drew1) | exact HB.out))) : w.heap.size ≤ gb353)); clear HO_8; clear HB; have HO_8 := n0_; have HB := n1_; have BK353 := n2_; have GW353 := n3_; have GE353 := n4_; clear n0_ n1_ n2_ n3_ n4_; clear hb hbox hg; have hcz19_0 : w18.cell? ⟨gb353, 0, none⟩ = some (.int .i64 0) := (blk_cell BK353.out 0).trans rfl; have hcz19_1 : w18.cell? ⟨gb353, 1, none⟩ = some (.int .i64 0) := (blk_cell BK353.out 1).trans rfl; have hcz19_2 : w18.cell? ⟨gb353, 2, none⟩ = some (.int .i64 0) := (blk_cell BK353.out 2).trans rfl; have hfz19_0 := blk_frozen BK353.out 0; have hfz19_1 := blk_frozen BK353.out 1; have hfz19_2 := blk_frozen BK353.out 2)))
                (try simp only [Act.put, List.setIfInBounds_toArray, List.set_cons_zero, List.set_cons_succ])
                go_cut [62] (fun v62 wc => ∃ (kq : Nat) (x62_16 : Bool), v62 = .bool x62_16 ∧ Aside0 (impl_arrivals.j1 kq a0 a1 l2 x8_1 x23_1 l2 (l2.length : Int) x23_1 x62_16 ((rd_T48 l2 x23_1).f0) ((rd_T48 l2 x23_1).f1) ((rd_T48 l2 x23_1).f2) = some (r1, r2)) ∧ Aside0 (kq ≤ k1) ∧ Aside0 (Kd.R (Kd.int .i64) 3 wc w.heap.size (fun _ => True) (.slice (some ⟨go7, 0, none⟩) x8_1.length co7) x8_1) ∧ Aside0 (wc.heap[gb353]? = some (.cells #[.int .i64 ((rd_T48 l2 x23_1).f0), .int .i64 ((rd_T48 l2 x23_1).f1), .int .i64 ((rd_T48 l2 x23_1).f2)] 48 (0, 0))) ∧ Aside0 (Below w.heap.size w wc))
                case first =>
                  have H := HC17.out
                  clear HC17
                  replace H := Option.bind_eq_some_iff.mp H
                  obtain ⟨t354, A200, H⟩ := H
                  replace H : (if t354 = true then ((impl_within.f ((rd_T48 l2 x23_1).f1) 1 (wrap64 (a1 - 1))).bind fun t355 => (if t355 = true then (if ((rd_T48 l2 x23_1).f0) = ((rd_T48 l2 x23_1).f1) then (impl_arrivals.j1 k1 a0 a1 l2 x8_1 x23_1 l2 (l2.length : Int) x23_1 true ((rd_T48 l2 x23_1).f0) ((rd_T48 l2 x23_1).f1) ((rd_T48 l2 x23_1).f2)) else ((impl_isMinute.f ((rd_T48 l2 x23_1).f2)).bind fun t356 => (if t356 = true then (if 0 ≤ ((rd_T48 l2 x23_1).f1) then (if ((rd_T48 l2 x23_1).f1) < (x8_1.length : Int) then (impl_arrivals.j1 k1 a0 a1 l2 x8_1 x23_1 l2 (l2.length : Int) x23_1 (decide ((rd x8_1 ((rd_T48 l2 x23_1).f1)) ≥ 0)) ((rd_T48 l2 x23_1).f0) ((rd_T48 l2 x23_1).f1) ((rd_T48 l2 x23_1).f2)) else (none)) else (none)) else (impl_arrivals.j1 k1 a0 a1 l2 x8_1 x23_1 l2 (l2.length : Int) x23_1 true ((rd_T48 l2 x23_1).f0) ((rd_T48 l2 x23_1).f1) ((rd_T48 l2 x23_1).f2))))) else (impl_arrivals.j1 k1 a0 a1 l2 x8_1 x23_1 l2 (l2.length : Int) x23_1 true ((rd_T48 l2 x23_1).f0) ((rd_T48 l2 x23_1).f1) ((rd_T48 l2 x23_1).f2)))) else (impl_arrivals.j1 k1 a0 a1 l2 x8_1 x23_1 l2 (l2.length : Int) x23_1 true ((rd_T48 l2 x23_1).f0) ((rd_T48 l2 x23_1).f1) ((rd_T48 l2 x23_1).f2))) = some (r1, r2) := H
                  have A20 := Aside0.mk A200
                  clear A200
                  by_cases c21 : t354 = true
                  · subst c21
                    have H1 : ((impl_within.f ((rd_T48 l2 x23_1).f1) 1 (wrap64 (a1 - 1))).bind fun t355 => (if t355 = true then (if ((rd_T48 l2 x23_1).f0) = ((rd_T48 l2 x23_1).f1) then (impl_arrivals.j1 k1 a0 a1 l2 x8_1 x23_1 l2 (l2.length : Int) x23_1 true ((rd_T48 l2 x23_1).f0) ((rd_T48 l2 x23_1).f1) ((rd_T48 l2 x23_1).f2)) else ((impl_isMinute.f ((rd_T48 l2 x23_1).f2)).bind fun t356 => (if t356 = true then (if 0 ≤ ((rd_T48 l2 x23_1).f1) then (if ((rd_T48 l2 x23_1).f1) < (x8_1.length : Int) then (impl_arrivals.j1 k1 a0 a1 l2 x8_1 x23_1 l2 (l2.length : Int) x23_1 (decide ((rd x8_1 ((rd_T48 l2 x23_1).f1)) ≥ 0)) ((rd_T48 l2 x23_1).f0) ((rd_T48 l2 x23_1).f1) ((rd_T48 l2 x23_1).f2)) else (none)) else (none)) else (impl_arrivals.j1 k1 a0 a1 l2 x8_1 x23_1 l2 (l2.length : Int) x23_1 true ((rd_T48 l2 x23_1).f0) ((rd_T48 l2 x23_1).f1) ((rd_T48 l2 x23_1).f2))))) else (impl_arrivals.j1 k1 a0 a1 l2 x8_1 x23_1 l2 (l2.length : Int) x23_1 true ((rd_T48 l2 x23_1).f0) ((rd_T48 l2 x23_1).f1) ((rd_T48 l2 x23_1).f2)))) = some (r1, r2) := by rw [if_pos rfl] at H; exact H
                    clear H
                    have H := H1
                    clear H1
                    replace H := Option.bind_eq_some_iff.mp H
                    obtain ⟨t355, A220, H⟩ := H
                    replace H : (if t355 = true then (if ((rd_T48 l2 x23_1).f0) = ((rd_T48 l2 x23_1).f1) then (impl_arrivals.j1 k1 a0 a1 l2 x8_1 x23_1 l2 (l2.length : Int) x23_1 true ((rd_T48 l2 x23_1).f0) ((rd_T48 l2 x23_1).f1) ((rd_T48 l2 x23_1).f2)) else ((impl_isMinute.f ((rd_T48 l2 x23_1).f2)).bind fun t356 => (if t356 = true then (if 0 ≤ ((rd_T48 l2 x23_1).f1) then (if ((rd_T48 l2 x23_1).f1) < (x8_1.length : Int) then (impl_arrivals.j1 k1 a0 a1 l2 x8_1 x23_1 l2 (l2.length : Int) x23_1 (decide ((rd x8_1 ((rd_T48 l2 x23_1).f1)) ≥ 0)) ((rd_T48 l2 x23_1).f0) ((rd_T48 l2 x23_1).f1) ((rd_T48 l2 x23_1).f2)) else (none)) else (none)) else (impl_arrivals.j1 k1 a0 a1 l2 x8_1 x23_1 l2 (l2.length : Int) x23_1 true ((rd_T48 l2 x23_1).f0) ((rd_T48 l2 x23_1).f1) ((rd_T48 l2 x23_1).f2))))) else (impl_arrivals.j1 k1 a0 a1 l2 x8_1 x23_1 l2 (l2.length : Int) x23_1 true ((rd_T48 l2 x23_1).f0) ((rd_T48 l2 x23_1).f1) ((rd_T48 l2 x23_1).f2))) = some (r1, r2) := H
                    have A22 := Aside0.mk A220
                    clear A220
                    by_cases c23 : t355 = true
                    · subst c23
                      have H1 : (if ((rd_T48 l2 x23_1).f0) = ((rd_T48 l2 x23_1).f1) then (impl_arrivals.j1 k1 a0 a1 l2 x8_1 x23_1 l2 (l2.length : Int) x23_1 true ((rd_T48 l2 x23_1).f0) ((rd_T48 l2 x23_1).f1) ((rd_T48 l2 x23_1).f2)) else ((impl_isMinute.f ((rd_T48 l2 x23_1).f2)).bind fun t356 => (if t356 = true then (if 0 ≤ ((rd_T48 l2 x23_1).f1) then (if ((rd_T48 l2 x23_1).f1) < (x8_1.length : Int) then (impl_arrivals.j1 k1 a0 a1 l2 x8_1 x23_1 l2 (l2.length : Int) x23_1 (decide ((rd x8_1 ((rd_T48 l2 x23_1).f1)) ≥ 0)) ((rd_T48 l2 x23_1).f0) ((rd_T48 l2 x23_1).f1) ((rd_T48 l2 x23_1).f2)) else (none)) else (none)) else (impl_arrivals.j1 k1 a0 a1 l2 x8_1 x23_1 l2 (l2.length : Int) x23_1 true ((rd_T48 l2 x23_1).f0) ((rd_T48 l2 x23_1).f1) ((rd_T48 l2 x23_1).f2))))) = some (r1, r2) := by rw [if_pos rfl] at H; exact H
                      clear H
                      have H := H1
                      clear H1
                      by_cases c24 : ((rd_T48 l2 x23_1).f0) = ((rd_T48 l2 x23_1).f1)
                      · rw [if_pos c24] at H
                        have c24b0 : (((rd_T48 l2 x23_1).f0) == ((rd_T48 l2 x23_1).f1)) = true := beq_iff_eq.mpr c24
                        have c24b1 : (((rd_T48 l2 x23_1).f0) != ((rd_T48 l2 x23_1).f1)) = false := bne_eq_false_iff_eq.mpr c24
                        clear c24
                        (first | rw [c24b0] | (simp only [i64_w, i32_w]; rw [c24b0]) | skip)
                        have H' := Aside0.mk H
                        clear H
                        have hcz25_0 : w18.cell? ⟨gb353, 0, none⟩ = some (.int .i64 0) := (blk_cell BK353.out 0).trans rfl
                        have hcz25_1 : w18.cell? ⟨gb353, 1, none⟩ = some (.int .i64 0) := (blk_cell BK353.out 1).trans rfl
                        have hcz25_2 : w18.cell? ⟨gb353, 2, none⟩ = some (.int .i64 0) := (blk_cell BK353.out 2).trans rfl
                        have hfz25_0 := blk_frozen BK353.out 0
                        have hfz25_1 := blk_frozen BK353.out 1
                        have hfz25_2 := blk_frozen BK353.out 2
                        go_wp2_with (first | (go_at_call 89; (with_reducible refine (impl_within.calls ((rd_T48 l2 x23_1).f0) 0 (wrap64 (a1 - 1)) true _ A20.out).mono ?_); rintro e w' ⟨rfl, ⟨nd, rfl⟩⟩; (try first | exact ⟨rfl, _, World.drewN_drewN _ _ _⟩ | exact ⟨rfl, _, Eq.trans (World.drewN_drewN _ _ _) (congrArg (World.drewN _) (Nat.add_assoc _ _ _))⟩)) | (go_at_call 89; (with_reducible refine (impl_within.calls ((rd_T48 l2 x23_1).f1) 1 (wrap64 (a1 - 1)) true _ A22.out).mono ?_); rintro e w' ⟨rfl, ⟨nd, rfl⟩⟩; (try first | exact ⟨rfl, _, World.drewN_drewN _ _ _⟩ | exact ⟨rfl, _, Eq.trans (World.drewN_drewN _ _ _) (congrArg (World.drewN _) (Nat.add_assoc _ _ _))⟩)))
                        repeat (go_quiet (first | (go_at_call 89; (with_reducible refine (impl_within.calls ((rd_T48 l2 x23_1).f0) 0 (wrap64 (a1 - 1)) true _ A20.out).mono ?_); rintro e w' ⟨rfl, ⟨nd, rfl⟩⟩; (try first | exact ⟨rfl, _, World.drewN_drewN _ _ _⟩ | exact ⟨rfl, _, Eq.trans (World.drewN_drewN _ _ _) (congrArg (World.drewN _) (Nat.add_assoc _ _ _))⟩)) | (go_at_call 89; (with_reducible refine (impl_within.calls ((rd_T48 l2 x23_1).f1) 1 (wrap64 (a1 - 1)) true _ A22.out).mono ?_); rintro e w' ⟨rfl, ⟨nd, rfl⟩⟩; (try first | exact ⟨rfl, _, World.drewN_drewN _ _ _⟩ | exact ⟨rfl, _, Eq.trans (World.drewN_drewN _ _ _) (congrArg (World.drewN _) (Nat.add_assoc _ _ _))⟩))); try go_wp2_with (first | (go_at_call 89; (with_reducible refine (impl_within.calls ((rd_T48 l2 x23_1).f0) 0 (wrap64 (a1 - 1)) true _ A20.out).mono ?_); rintro e w' ⟨rfl, ⟨nd, rfl⟩⟩; (try first | exact ⟨rfl, _, World.drewN_drewN _ _ _⟩ | exact ⟨rfl, _, Eq.trans (World.drewN_drewN _ _ _) (congrArg (World.drewN _) (Nat.add_assoc _ _ _))⟩)) | (go_at_call 89; (with_reducible refine (impl_within.calls ((rd_T48 l2 x23_1).f1) 1 (wrap64 (a1 - 1)) true _ A22.out).mono ?_); rintro e w' ⟨rfl, ⟨nd, rfl⟩⟩; (try first | exact ⟨rfl, _, World.drewN_drewN _ _ _⟩ | exact ⟨rfl, _, Eq.trans (World.drewN_drewN _ _ _) (congrArg (World.drewN _) (Nat.add_assoc _ _ _))⟩))))
                        go_meet
                        case rel => exact ⟨_, (true), (by first | rfl | (simp; done) | (simp [*]; done)), H', ⟨by have := HK1.out; first | omega | exact Nat.le_refl _⟩, ⟨by (try simp only [hl8_1]); (with_reducible repeat (first | apply Kd.R_alloc | apply Kd.R_drewN | apply Kd.R_drew)); exact Kd.R_mono (Kd.R_far (p := ⟨gb353, 2, none⟩) (Kd.R_far (p := ⟨gb353, 1, none⟩) (Kd.R_far (p := ⟨gb353, 0, none⟩) (Kd.R_types HO_8.out BK353.out (by decide)) (fun _ hk => hk.2) (.int .i64 ((rd_T48 l2 x23_1).f0))) (fun _ hk => hk.2) (.int .i64 ((rd_T48 l2 x23_1).f1))) (fun _ hk => hk.2) (.int .i64 ((rd_T48 l2 x23_1).f2))) (fun _ hk => trivial)⟩, ⟨by (try simp only [hl8_1]); (with_reducible repeat (first | refine blk_drewN ?_ _ | refine blk_drew ?_ | refine blk_alloc ?_ _)); refine blk_put (cs := #[.int .i64 ((rd_T48 l2 x23_1).f0), .int .i64 ((rd_T48 l2 x23_1).f1), .int .i64 0]) ?_ 2 _ rfl; (with_reducible repeat (first | refine blk_drewN ?_ _ | refine blk_drew ?_ | refine blk_alloc ?_ _)); refine blk_put (cs := #[.int .i64 ((rd_T48 l2 x23_1).f0), .int .i64 0, .int .i64 0]) ?_ 1 _ rfl; (with_reducible repeat (first | refine blk_drewN ?_ _ | refine blk_drew ?_ | refine blk_alloc ?_ _)); refine blk_put (cs := #[.int .i64 0, .int .i64 0, .int .i64 0]) ?_ 0 _ rfl; (with_reducible repeat (first | refine blk_drewN ?_ _ | refine blk_drew ?_ | refine blk_alloc ?_ _)); exact BK353.out⟩, ⟨by repeat (first | (with_reducible first | exact HB.out | apply below_alloc | apply pw_below_drewN | apply below_drew1 | refine below_set ?_ GE353.out) | exact HB.out)⟩⟩
                      · rw [if_neg c24] at H
                        have c24b0 : (((rd_T48 l2 x23_1).f0) == ((rd_T48 l2 x23_1).f1)) = false := beq_eq_false_iff_ne.mpr c24
                        have c24b1 : (((rd_T48 l2 x23_1).f0) != ((rd_T48 l2 x23_1).f1)) = true := bne_iff_ne.mpr c24
                        (first | rw [c24b0] | (simp only [i64_w, i32_w]; rw [c24b0]) | skip)
                        replace H := Option.bind_eq_some_iff.mp H
                        obtain ⟨t356, A260, H⟩ := H
                        replace H : (if t356 = true then (if 0 ≤ ((rd_T48 l2 x23_1).f1) then (if ((rd_T48 l2 x23_1).f1) < (x8_1.length : Int) then (impl_arrivals.j1 k1 a0 a1 l2 x8_1 x23_1 l2 (l2.length : Int) x23_1 (decide ((rd x8_1 ((rd_T48 l2 x23_1).f1)) ≥ 0)) ((rd_T48 l2 x23_1).f0) ((rd_T48 l2 x23_1).f1) ((rd_T48 l2 x23_1).f2)) else (none)) else (none)) else (impl_arrivals.j1 k1 a0 a1 l2 x8_1 x23_1 l2 (l2.length : Int) x23_1 true ((rd_T48 l2 x23_1).f0) ((rd_T48 l2 x23_1).f1) ((rd_T48 l2 x23_1).f2))) = some (r1, r2) := H
                        have A26 := Aside0.mk A260
                        clear A260
                        by_cases c27 : t356 = true
                        · subst c27
                          have H1 : (if 0 ≤ ((rd_T48 l2 x23_1).f1) then (if ((rd_T48 l2 x23_1).f1) < (x8_1.length : Int) then (impl_arrivals.j1 k1 a0 a1 l2 x8_1 x23_1 l2 (l2.length : Int) x23_1 (decide ((rd x8_1 ((rd_T48 l2 x23_1).f1)) ≥ 0)) ((rd_T48 l2 x23_1).f0) ((rd_T48 l2 x23_1).f1) ((rd_T48 l2 x23_1).f2)) else (none)) else (none)) = some (r1, r2) := by rw [if_pos rfl] at H; exact H
                          clear H
                          have H := H1
                          clear H1
                          by_cases c28 : 0 ≤ ((rd_T48 l2 x23_1).f1)
                          · rw [if_pos c28] at H
                            have c28b0 : decide (0 ≤ ((rd_T48 l2 x23_1).f1)) = true := decide_eq_true c28
                            clear c28
                            by_cases c29 : ((rd_T48 l2 x23_1).f1) < (x8_1.length : Int)
                            · rw [if_pos c29] at H
                              have c29b0 : decide (((rd_T48 l2 x23_1).f1) < (x8_1.length : Int)) = true := decide_eq_true c29
                              (try (have c29b0h := c29b0; simp only [hl8_1] at c29b0h))
                              clear c29
                              have H' := Aside0.mk H
                              clear H
                              have hcz30_0 : w18.cell? ⟨gb353, 0, none⟩ = some (.int .i64 0) := (blk_cell BK353.out 0).trans rfl
                              have hcz30_1 : w18.cell? ⟨gb353, 1, none⟩ = some (.int .i64 0) := (blk_cell BK353.out 1).trans rfl
                              have hcz30_2 : w18.cell? ⟨gb353, 2, none⟩ = some (.int .i64 0) := (blk_cell BK353.out 2).trans rfl
                              have hfz30_0 := blk_frozen BK353.out 0
                              have hfz30_1 := blk_frozen BK353.out 1
                              have hfz30_2 := blk_frozen BK353.out 2
                              go_wp2_with (first | (go_at_call 89; (with_reducible refine (impl_within.calls ((rd_T48 l2 x23_1).f0) 0 (wrap64 (a1 - 1)) true _ A20.out).mono ?_); rintro e w' ⟨rfl, ⟨nd, rfl⟩⟩; (try first | exact ⟨rfl, _, World.drewN_drewN _ _ _⟩ | exact ⟨rfl, _, Eq.trans (World.drewN_drewN _ _ _) (congrArg (World.drewN _) (Nat.add_assoc _ _ _))⟩)) | (go_at_call 89; (with_reducible refine (impl_within.calls ((rd_T48 l2 x23_1).f1) 1 (wrap64 (a1 - 1)) true _ A22.out).mono ?_); rintro e w' ⟨rfl, ⟨nd, rfl⟩⟩; (try first | exact ⟨rfl, _, World.drewN_drewN _ _ _⟩ | exact ⟨rfl, _, Eq.trans (World.drewN_drewN _ _ _) (congrArg (World.drewN _) (Nat.add_assoc _ _ _))⟩)) | (go_at_call 84; (with_reducible refine (impl_isMinute.calls ((rd_T48 l2 x23_1).f2) true _ A26.out).mono ?_); rintro e w' ⟨rfl, ⟨nd, rfl⟩⟩; (try first | exact ⟨rfl, _, World.drewN_drewN _ _ _⟩ | exact ⟨rfl, _, Eq.trans (World.drewN_drewN _ _ _) (congrArg (World.drewN _) (Nat.add_assoc _ _ _))⟩); have p357 : 0 ≤ (((rd_T48 l2 x23_1).f1) : Int) := of_decide_eq_true (by first | (with_reducible assumption) | assumption); have q357 : ((rd_T48 l2 x23_1).f1) < (x8_1.length : Int) := of_decide_eq_true (by first | (with_reducible assumption) | assumption); obtain ⟨ad357, e357, hx357_0⟩ := Kd.at_int (Kd.R_reads' HO_8.out).2.2 ((rd_T48 l2 x23_1).f1) p357 q357; obtain rfl : (⟨go7, 0, none⟩ : Addr) = ad357 := (by injection e357); (first | simp only [add_plain] at hx357_0 | simp only [add_at] at hx357_0 | simp only [Addr.add, Nat.zero_add] at hx357_0 | skip); have hn357_0 : (⟨go7, 0, none⟩ : Addr).block ≠ gb353 := Kd.own_blk (Kd.R_ne HO_8.out BK353.out (by decide)); have hn357_1 : (⟨go7, 0, none⟩ : Addr).block ≠ gb353 := Kd.own_blk (Kd.R_ne HO_8.out BK353.out (by decide)); have hn357_2 : (⟨go7, 0, none⟩ : Addr).block ≠ gb353 := Kd.own_blk (Kd.R_ne HO_8.out BK353.out (by decide)); replace hx357_0 := (cell_far (p := ⟨gb353, 0, none⟩) (by first | (rw [add_block]; exact hn357_0) | (show (Addr.add _ _).block ≠ _; rw [add_block]; exact hn357_0) | exact hn357_0) (.int .i64 ((rd_T48 l2 x23_1).f0))).trans hx357_0; replace hx357_0 := (cell_far (p := ⟨gb353, 1, none⟩) (by first | (rw [add_block]; exact hn357_1) | (show (Addr.add _ _).block ≠ _; rw [add_block]; exact hn357_1) | exact hn357_1) (.int .i64 ((rd_T48 l2 x23_1).f1))).trans hx357_0; replace hx357_0 := (cell_far (p := ⟨gb353, 2, none⟩) (by first | (rw [add_block]; exact hn357_2) | (show (Addr.add _ _).block ≠ _; rw [add_block]; exact hn357_2) | exact hn357_2) (.int .i64 ((rd_T48 l2 x23_1).f2))).trans hx357_0; (try have hy357_0 := fun (n_ : Nat) => (show (((((w18.drewN n_).setCell ⟨gb353, 0, none⟩ (.int .i64 ((rd_T48 l2 x23_1).f0))).setCell ⟨gb353, 1, none⟩ (.int .i64 ((rd_T48 l2 x23_1).f1))).setCell ⟨gb353, 2, none⟩ (.int .i64 ((rd_T48 l2 x23_1).f2)))).cell? _ = some _ from hx357_0)); clear hn357_0; clear hn357_1; clear hn357_2; replace p357 := eq_true p357; replace q357 := eq_true q357))
                              repeat (go_quiet (first | (go_at_call 89; (with_reducible refine (impl_within.calls ((rd_T48 l2 x23_1).f0) 0 (wrap64 (a1 - 1)) true _ A20.out).mono ?_); rintro e w' ⟨rfl, ⟨nd, rfl⟩⟩; (try first | exact ⟨rfl, _, World.drewN_drewN _ _ _⟩ | exact ⟨rfl, _, Eq.trans (World.drewN_drewN _ _ _) (congrArg (World.drewN _) (Nat.add_assoc _ _ _))⟩)) | (go_at_call 89; (with_reducible refine (impl_within.calls ((rd_T48 l2 x23_1).f1) 1 (wrap64 (a1 - 1)) true _ A22.out).mono ?_); rintro e w' ⟨rfl, ⟨nd, rfl⟩⟩; (try first | exact ⟨rfl, _, World.drewN_drewN _ _ _⟩ | exact ⟨rfl, _, Eq.trans (World.drewN_drewN _ _ _) (congrArg (World.drewN _) (Nat.add_assoc _ _ _))⟩)) | (go_at_call 84; (with_reducible refine (impl_isMinute.calls ((rd_T48 l2 x23_1).f2) true _ A26.out).mono ?_); rintro e w' ⟨rfl, ⟨nd, rfl⟩⟩; (try first | exact ⟨rfl, _, World.drewN_drewN _ _ _⟩ | exact ⟨rfl, _, Eq.trans (World.drewN_drewN _ _ _) (congrArg (World.drewN _) (Nat.add_assoc _ _ _))⟩); have p357 : 0 ≤ (((rd_T48 l2 x23_1).f1) : Int) := of_decide_eq_true (by first | (with_reducible assumption) | assumption); have q357 : ((rd_T48 l2 x23_1).f1) < (x8_1.length : Int) := of_decide_eq_true (by first | (with_reducible assumption) | assumption); obtain ⟨ad357, e357, hx357_0⟩ := Kd.at_int (Kd.R_reads' HO_8.out).2.2 ((rd_T48 l2 x23_1).f1) p357 q357; obtain rfl : (⟨go7, 0, none⟩ : Addr) = ad357 := (by injection e357); (first | simp only [add_plain] at hx357_0 | simp only [add_at] at hx357_0 | simp only [Addr.add, Nat.zero_add] at hx357_0 | skip); have hn357_0 : (⟨go7, 0, none⟩ : Addr).block ≠ gb353 := Kd.own_blk (Kd.R_ne HO_8.out BK353.out (by decide)); have hn357_1 : (⟨go7, 0, none⟩ : Addr).block ≠ gb353 := Kd.own_blk (Kd.R_ne HO_8.out BK353.out (by decide)); have hn357_2 : (⟨go7, 0, none⟩ : Addr).block ≠ gb353 := Kd.own_blk (Kd.R_ne HO_8.out BK353.out (by decide)); replace hx357_0 := (cell_far (p := ⟨gb353, 0, none⟩) (by first | (rw [add_block]; exact hn357_0) | (show (Addr.add _ _).block ≠ _; rw [add_block]; exact hn357_0) | exact hn357_0) (.int .i64 ((rd_T48 l2 x23_1).f0))).trans hx357_0; replace hx357_0 := (cell_far (p := ⟨gb353, 1, none⟩) (by first | (rw [add_block]; exact hn357_1) | (show (Addr.add _ _).block ≠ _; rw [add_block]; exact hn357_1) | exact hn357_1) (.int .i64 ((rd_T48 l2 x23_1).f1))).trans hx357_0; replace hx357_0 := (cell_far (p := ⟨gb353, 2, none⟩) (by first | (rw [add_block]; exact hn357_2) | (show (Addr.add _ _).block ≠ _; rw [add_block]; exact hn357_2) | exact hn357_2) (.int .i64 ((rd_T48 l2 x23_1).f2))).trans hx357_0; (try have hy357_0 := fun (n_ : Nat) => (show (((((w18.drewN n_).setCell ⟨gb353, 0, none⟩ (.int .i64 ((rd_T48 l2 x23_1).f0))).setCell ⟨gb353, 1, none⟩ (.int .i64 ((rd_T48 l2 x23_1).f1))).setCell ⟨gb353, 2, none⟩ (.int .i64 ((rd_T48 l2 x23_1).f2)))).cell? _ = some _ from hx357_0)); clear hn357_0; clear hn357_1; clear hn357_2; replace p357 := eq_true p357; replace q357 := eq_true q357)); try go_wp2_with (first | (go_at_call 89; (with_reducible refine (impl_within.calls ((rd_T48 l2 x23_1).f0) 0 (wrap64 (a1 - 1)) true _ A20.out).mono ?_); rintro e w' ⟨rfl, ⟨nd, rfl⟩⟩; (try first | exact ⟨rfl, _, World.drewN_drewN _ _ _⟩ | exact ⟨rfl, _, Eq.trans (World.drewN_drewN _ _ _) (congrArg (World.drewN _) (Nat.add_assoc _ _ _))⟩)) | (go_at_call 89; (with_reducible refine (impl_within.calls ((rd_T48 l2 x23_1).f1) 1 (wrap64 (a1 - 1)) true _ A22.out).mono ?_); rintro e w' ⟨rfl, ⟨nd, rfl⟩⟩; (try first | exact ⟨rfl, _, World.drewN_drewN _ _ _⟩ | exact ⟨rfl, _, Eq.trans (World.drewN_drewN _ _ _) (congrArg (World.drewN _) (Nat.add_assoc _ _ _))⟩)) | (go_at_call 84; (with_reducible refine (impl_isMinute.calls ((rd_T48 l2 x23_1).f2) true _ A26.out).mono ?_); rintro e w' ⟨rfl, ⟨nd, rfl⟩⟩; (try first | exact ⟨rfl, _, World.drewN_drewN _ _ _⟩ | exact ⟨rfl, _, Eq.trans (World.drewN_drewN _ _ _) (congrArg (World.drewN _) (Nat.add_assoc _ _ _))⟩); have p357 : 0 ≤ (((rd_T48 l2 x23_1).f1) : Int) := of_decide_eq_true (by first | (with_reducible assumption) | assumption); have q357 : ((rd_T48 l2 x23_1).f1) < (x8_1.length : Int) := of_decide_eq_true (by first | (with_reducible assumption) | assumption); obtain ⟨ad357, e357, hx357_0⟩ := Kd.at_int (Kd.R_reads' HO_8.out).2.2 ((rd_T48 l2 x23_1).f1) p357 q357; obtain rfl : (⟨go7, 0, none⟩ : Addr) = ad357 := (by injection e357); (first | simp only [add_plain] at hx357_0 | simp only [add_at] at hx357_0 | simp only [Addr.add, Nat.zero_add] at hx357_0 | skip); have hn357_0 : (⟨go7, 0, none⟩ : Addr).block ≠ gb353 := Kd.own_blk (Kd.R_ne HO_8.out BK353.out (by decide)); have hn357_1 : (⟨go7, 0, none⟩ : Addr).block ≠ gb353 := Kd.own_blk (Kd.R_ne HO_8.out BK353.out (by decide)); have hn357_2 : (⟨go7, 0, none⟩ : Addr).block ≠ gb353 := Kd.own_blk (Kd.R_ne HO_8.out BK353.out (by decide)); replace hx357_0 := (cell_far (p := ⟨gb353, 0, none⟩) (by first | (rw [add_block]; exact hn357_0) | (show (Addr.add _ _).block ≠ _; rw [add_block]; exact hn357_0) | exact hn357_0) (.int .i64 ((rd_T48 l2 x23_1).f0))).trans hx357_0; replace hx357_0 := (cell_far (p := ⟨gb353, 1, none⟩) (by first | (rw [add_block]; exact hn357_1) | (show (Addr.add _ _).block ≠ _; rw [add_block]; exact hn357_1) | exact hn357_1) (.int .i64 ((rd_T48 l2 x23_1).f1))).trans hx357_0; replace hx357_0 := (cell_far (p := ⟨gb353, 2, none⟩) (by first | (rw [add_block]; exact hn357_2) | (show (Addr.add _ _).block ≠ _; rw [add_block]; exact hn357_2) | exact hn357_2) (.int .i64 ((rd_T48 l2 x23_1).f2))).trans hx357_0; (try have hy357_0 := fun (n_ : Nat) => (show (((((w18.drewN n_).setCell ⟨gb353, 0, none⟩ (.int .i64 ((rd_T48 l2 x23_1).f0))).setCell ⟨gb353, 1, none⟩ (.int .i64 ((rd_T48 l2 x23_1).f1))).setCell ⟨gb353, 2, none⟩ (.int .i64 ((rd_T48 l2 x23_1).f2)))).cell? _ = some _ from hx357_0)); clear hn357_0; clear hn357_1; clear hn357_2; replace p357 := eq_true p357; replace q357 := eq_true q357)))
                              go_meet
                              case rel => exact ⟨_, (decide ((rd x8_1 ((rd_T48 l2 x23_1).f1)) ≥ 0)), (by first | rfl | (simp; done) | (simp [*]; done)), H', ⟨by have := HK1.out; first | omega | exact Nat.le_refl _⟩, ⟨by (try simp only [hl8_1]); (with_reducible repeat (first | apply Kd.R_alloc | apply Kd.R_drewN | apply Kd.R_drew)); exact Kd.R_mono (Kd.R_far (p := ⟨gb353, 2, none⟩) (Kd.R_far (p := ⟨gb353, 1, none⟩) (Kd.R_far (p := ⟨gb353, 0, none⟩) (Kd.R_types HO_8.out BK353.out (by decide)) (fun _ hk => hk.2) (.int .i64 ((rd_T48 l2 x23_1).f0))) (fun _ hk => hk.2) (.int .i64 ((rd_T48 l2 x23_1).f1))) (fun _ hk => hk.2) (.int .i64 ((rd_T48 l2 x23_1).f2))) (fun _ hk => trivial)⟩, ⟨by (try simp only [hl8_1]); (with_reducible repeat (first | refine blk_drewN ?_ _ | refine blk_drew ?_ | refine blk_alloc ?_ _)); refine blk_put (cs := #[.int .i64 ((rd_T48 l2 x23_1).f0), .int .i64 ((rd_T48 l2 x23_1).f1), .int .i64 0]) ?_ 2 _ rfl; (with_reducible repeat (first | refine blk_drewN ?_ _ | refine blk_drew ?_ | refine blk_alloc ?_ _)); refine blk_put (cs := #[.int .i64 ((rd_T48 l2 x23_1).f0), .int .i64 0, .int .i64 0]) ?_ 1 _ rfl; (with_reducible repeat (first | refine blk_drewN ?_ _ | refine blk_drew ?_ | refine blk_alloc ?_ _)); refine blk_put (cs := #[.int .i64 0, .int .i64 0, .int .i64 0]) ?_ 0 _ rfl; (with_reducible repeat (first | refine blk_drewN ?_ _ | refine blk_drew ?_ | refine blk_alloc ?_ _)); exact BK353.out⟩, ⟨by repeat (first | (with_reducible first | exact HB.out | apply below_alloc | apply pw_below_drewN | apply below_drew1 | refine below_set ?_ GE353.out) | exact HB.out)⟩⟩
                            · rw [if_neg c29] at H
                              exact absurd H (by simp)
                          · rw [if_neg c28] at H
                            exact absurd H (by simp)
                        · replace c27 := Bool.eq_false_iff.mpr c27
                          subst c27
                          have H1 : (impl_arrivals.j1 k1 a0 a1 l2 x8_1 x23_1 l2 (l2.length : Int) x23_1 true ((rd_T48 l2 x23_1).f0) ((rd_T48 l2 x23_1).f1) ((rd_T48 l2 x23_1).f2)) = some (r1, r2) := by rw [if_neg (show ¬ (false = true) by decide)] at H; exact H
                          clear H
                          have H := H1
                          clear H1
                          have H' := Aside0.mk H
                          clear H
                          have hcz31_0 : w18.cell? ⟨gb353, 0, none⟩ = some (.int .i64 0) := (blk_cell BK353.out 0).trans rfl
                          have hcz31_1 : w18.cell? ⟨gb353, 1, none⟩ = some (.int .i64 0) := (blk_cell BK353.out 1).trans rfl
                          have hcz31_2 : w18.cell? ⟨gb353, 2, none⟩ = some (.int .i64 0) := (blk_cell BK353.out 2).trans rfl
                          have hfz31_0 := blk_frozen BK353.out 0
                          have hfz31_1 := blk_frozen BK353.out 1
                          have hfz31_2 := blk_frozen BK353.out 2
                          go_wp2_with (first | (go_at_call 89; (with_reducible refine (impl_within.calls ((rd_T48 l2 x23_1).f0) 0 (wrap64 (a1 - 1)) true _ A20.out).mono ?_); rintro e w' ⟨rfl, ⟨nd, rfl⟩⟩; (try first | exact ⟨rfl, _, World.drewN_drewN _ _ _⟩ | exact ⟨rfl, _, Eq.trans (World.drewN_drewN _ _ _) (congrArg (World.drewN _) (Nat.add_assoc _ _ _))⟩)) | (go_at_call 89; (with_reducible refine (impl_within.calls ((rd_T48 l2 x23_1).f1) 1 (wrap64 (a1 - 1)) true _ A22.out).mono ?_); rintro e w' ⟨rfl, ⟨nd, rfl⟩⟩; (try first | exact ⟨rfl, _, World.drewN_drewN _ _ _⟩ | exact ⟨rfl, _, Eq.trans (World.drewN_drewN _ _ _) (congrArg (World.drewN _) (Nat.add_assoc _ _ _))⟩)) | (go_at_call 84; (with_reducible refine (impl_isMinute.calls ((rd_T48 l2 x23_1).f2) false _ A26.out).mono ?_); rintro e w' ⟨rfl, ⟨nd, rfl⟩⟩; (try first | exact ⟨rfl, _, World.drewN_drewN _ _ _⟩ | exact ⟨rfl, _, Eq.trans (World.drewN_drewN _ _ _) (congrArg (World.drewN _) (Nat.add_assoc _ _ _))⟩)))
                          repeat (go_quiet (first | (go_at_call 89; (with_reducible refine (impl_within.calls ((rd_T48 l2 x23_1).f0) 0 (wrap64 (a1 - 1)) true _ A20.out).mono ?_); rintro e w' ⟨rfl, ⟨nd, rfl⟩⟩; (try first | exact ⟨rfl, _, World.drewN_drewN _ _ _⟩ | exact ⟨rfl, _, Eq.trans (World.drewN_drewN _ _ _) (congrArg (World.drewN _) (Nat.add_assoc _ _ _))⟩)) | (go_at_call 89; (with_reducible refine (impl_within.calls ((rd_T48 l2 x23_1).f1) 1 (wrap64 (a1 - 1)) true _ A22.out).mono ?_); rintro e w' ⟨rfl, ⟨nd, rfl⟩⟩; (try first | exact ⟨rfl, _, World.drewN_drewN _ _ _⟩ | exact ⟨rfl, _, Eq.trans (World.drewN_drewN _ _ _) (congrArg (World.drewN _) (Nat.add_assoc _ _ _))⟩)) | (go_at_call 84; (with_reducible refine (impl_isMinute.calls ((rd_T48 l2 x23_1).f2) false _ A26.out).mono ?_); rintro e w' ⟨rfl, ⟨nd, rfl⟩⟩; (try first | exact ⟨rfl, _, World.drewN_drewN _ _ _⟩ | exact ⟨rfl, _, Eq.trans (World.drewN_drewN _ _ _) (congrArg (World.drewN _) (Nat.add_assoc _ _ _))⟩))); try go_wp2_with (first | (go_at_call 89; (with_reducible refine (impl_within.calls ((rd_T48 l2 x23_1).f0) 0 (wrap64 (a1 - 1)) true _ A20.out).mono ?_); rintro e w' ⟨rfl, ⟨nd, rfl⟩⟩; (try first | exact ⟨rfl, _, World.drewN_drewN _ _ _⟩ | exact ⟨rfl, _, Eq.trans (World.drewN_drewN _ _ _) (congrArg (World.drewN _) (Nat.add_assoc _ _ _))⟩)) | (go_at_call 89; (with_reducible refine (impl_within.calls ((rd_T48 l2 x23_1).f1) 1 (wrap64 (a1 - 1)) true _ A22.out).mono ?_); rintro e w' ⟨rfl, ⟨nd, rfl⟩⟩; (try first | exact ⟨rfl, _, World.drewN_drewN _ _ _⟩ | exact ⟨rfl, _, Eq.trans (World.drewN_drewN _ _ _) (congrArg (World.drewN _) (Nat.add_assoc _ _ _))⟩)) | (go_at_call 84; (with_reducible refine (impl_isMinute.calls ((rd_T48 l2 x23_1).f2) false _ A26.out).mono ?_); rintro e w' ⟨rfl, ⟨nd, rfl⟩⟩; (try first | exact ⟨rfl, _, World.drewN_drewN _ _ _⟩ | exact ⟨rfl, _, Eq.trans (World.drewN_drewN _ _ _) (congrArg (World.drewN _) (Nat.add_assoc _ _ _))⟩))))
                          go_meet
                          case rel => exact ⟨_, (true), (by first | rfl | (simp; done) | (simp [*]; done)), H', ⟨by have := HK1.out; first | omega | exact Nat.le_refl _⟩, ⟨by (try simp only [hl8_1]); (with_reducible repeat (first | apply Kd.R_alloc | apply Kd.R_drewN | apply Kd.R_drew)); exact Kd.R_mono (Kd.R_far (p := ⟨gb353, 2, none⟩) (Kd.R_far (p := ⟨gb353, 1, none⟩) (Kd.R_far (p := ⟨gb353, 0, none⟩) (Kd.R_types HO_8.out BK353.out (by decide)) (fun _ hk => hk.2) (.int .i64 ((rd_T48 l2 x23_1).f0))) (fun _ hk => hk.2) (.int .i64 ((rd_T48 l2 x23_1).f1))) (fun _ hk => hk.2) (.int .i64 ((rd_T48 l2 x23_1).f2))) (fun _ hk => trivial)⟩, ⟨by (try simp only [hl8_1]); (with_reducible repeat (first | refine blk_drewN ?_ _ | refine blk_drew ?_ | refine blk_alloc ?_ _)); refine blk_put (cs := #[.int .i64 ((rd_T48 l2 x23_1).f0), .int .i64 ((rd_T48 l2 x23_1).f1), .int .i64 0]) ?_ 2 _ rfl; (with_reducible repeat (first | refine blk_drewN ?_ _ | refine blk_drew ?_ | refine blk_alloc ?_ _)); refine blk_put (cs := #[.int .i64 ((rd_T48 l2 x23_1).f0), .int .i64 0, .int .i64 0]) ?_ 1 _ rfl; (with_reducible repeat (first | refine blk_drewN ?_ _ | refine blk_drew ?_ | refine blk_alloc ?_ _)); refine blk_put (cs := #[.int .i64 0, .int .i64 0, .int .i64 0]) ?_ 0 _ rfl; (with_reducible repeat (first | refine blk_drewN ?_ _ | refine blk_drew ?_ | refine blk_alloc ?_ _)); exact BK353.out⟩, ⟨by repeat (first | (with_reducible first | exact HB.out | apply below_alloc | apply pw_below_drewN | apply below_drew1 | refine below_set ?_ GE353.out) | exact HB.out)⟩⟩
                    · replace c23 := Bool.eq_false_iff.mpr c23
                      subst c23
                      have H1 : (impl_arrivals.j1 k1 a0 a1 l2 x8_1 x23_1 l2 (l2.length : Int) x23_1 true ((rd_T48 l2 x23_1).f0) ((rd_T48 l2 x23_1).f1) ((rd_T48 l2 x23_1).f2)) = some (r1, r2) := by rw [if_neg (show ¬ (false = true) by decide)] at H; exact H
                      clear H
                      have H := H1
                      clear H1
                      have H' := Aside0.mk H
                      clear H
                      have hcz32_0 : w18.cell? ⟨gb353, 0, none⟩ = some (.int .i64 0) := (blk_cell BK353.out 0).trans rfl
                      have hcz32_1 : w18.cell? ⟨gb353, 1, none⟩ = some (.int .i64 0) := (blk_cell BK353.out 1).trans rfl
                      have hcz32_2 : w18.cell? ⟨gb353, 2, none⟩ = some (.int .i64 0) := (blk_cell BK353.out 2).trans rfl
                      have hfz32_0 := blk_frozen BK353.out 0
                      have hfz32_1 := blk_frozen BK353.out 1
                      have hfz32_2 := blk_frozen BK353.out 2
                      go_wp2_with (first | (go_at_call 89; (with_reducible refine (impl_within.calls ((rd_T48 l2 x23_1).f0) 0 (wrap64 (a1 - 1)) true _ A20.out).mono ?_); rintro e w' ⟨rfl, ⟨nd, rfl⟩⟩; (try first | exact ⟨rfl, _, World.drewN_drewN _ _ _⟩ | exact ⟨rfl, _, Eq.trans (World.drewN_drewN _ _ _) (congrArg (World.drewN _) (Nat.add_assoc _ _ _))⟩)) | (go_at_call 89; (with_reducible refine (impl_within.calls ((rd_T48 l2 x23_1).f1) 1 (wrap64 (a1 - 1)) false _ A22.out).mono ?_); rintro e w' ⟨rfl, ⟨nd, rfl⟩⟩; (try first | exact ⟨rfl, _, World.drewN_drewN _ _ _⟩ | exact ⟨rfl, _, Eq.trans (World.drewN_drewN _ _ _) (congrArg (World.drewN _) (Nat.add_assoc _ _ _))⟩)))
                      repeat (go_quiet (first | (go_at_call 89; (with_reducible refine (impl_within.calls ((rd_T48 l2 x23_1).f0) 0 (wrap64 (a1 - 1)) true _ A20.out).mono ?_); rintro e w' ⟨rfl, ⟨nd, rfl⟩⟩; (try first | exact ⟨rfl, _, World.drewN_drewN _ _ _⟩ | exact ⟨rfl, _, Eq.trans (World.drewN_drewN _ _ _) (congrArg (World.drewN _) (Nat.add_assoc _ _ _))⟩)) | (go_at_call 89; (with_reducible refine (impl_within.calls ((rd_T48 l2 x23_1).f1) 1 (wrap64 (a1 - 1)) false _ A22.out).mono ?_); rintro e w' ⟨rfl, ⟨nd, rfl⟩⟩; (try first | exact ⟨rfl, _, World.drewN_drewN _ _ _⟩ | exact ⟨rfl, _, Eq.trans (World.drewN_drewN _ _ _) (congrArg (World.drewN _) (Nat.add_assoc _ _ _))⟩))); try go_wp2_with (first | (go_at_call 89; (with_reducible refine (impl_within.calls ((rd_T48 l2 x23_1).f0) 0 (wrap64 (a1 - 1)) true _ A20.out).mono ?_); rintro e w' ⟨rfl, ⟨nd, rfl⟩⟩; (try first | exact ⟨rfl, _, World.drewN_drewN _ _ _⟩ | exact ⟨rfl, _, Eq.trans (World.drewN_drewN _ _ _) (congrArg (World.drewN _) (Nat.add_assoc _ _ _))⟩)) | (go_at_call 89; (with_reducible refine (impl_within.calls ((rd_T48 l2 x23_1).f1) 1 (wrap64 (a1 - 1)) false _ A22.out).mono ?_); rintro e w' ⟨rfl, ⟨nd, rfl⟩⟩; (try first | exact ⟨rfl, _, World.drewN_drewN _ _ _⟩ | exact ⟨rfl, _, Eq.trans (World.drewN_drewN _ _ _) (congrArg (World.drewN _) (Nat.add_assoc _ _ _))⟩))))
                      go_meet
                      case rel => exact ⟨_, (true), (by first | rfl | (simp; done) | (simp [*]; done)), H', ⟨by have := HK1.out; first | omega | exact Nat.le_refl _⟩, ⟨by (try simp only [hl8_1]); (with_reducible repeat (first | apply Kd.R_alloc | apply Kd.R_drewN | apply Kd.R_drew)); exact Kd.R_mono (Kd.R_far (p := ⟨gb353, 2, none⟩) (Kd.R_far (p := ⟨gb353, 1, none⟩) (Kd.R_far (p := ⟨gb353, 0, none⟩) (Kd.R_types HO_8.out BK353.out (by decide)) (fun _ hk => hk.2) (.int .i64 ((rd_T48 l2 x23_1).f0))) (fun _ hk => hk.2) (.int .i64 ((rd_T48 l2 x23_1).f1))) (fun _ hk => hk.2) (.int .i64 ((rd_T48 l2 x23_1).f2))) (fun _ hk => trivial)⟩, ⟨by (try simp only [hl8_1]); (with_reducible repeat (first | refine blk_drewN ?_ _ | refine blk_drew ?_ | refine blk_alloc ?_ _)); refine blk_put (cs := #[.int .i64 ((rd_T48 l2 x23_1).f0), .int .i64 ((rd_T48 l2 x23_1).f1), .int .i64 0]) ?_ 2 _ rfl; (with_reducible repeat (first | refine blk_drewN ?_ _ | refine blk_drew ?_ | refine blk_alloc ?_ _)); refine blk_put (cs := #[.int .i64 ((rd_T48 l2 x23_1).f0), .int .i64 0, .int .i64 0]) ?_ 1 _ rfl; (with_reducible repeat (first | refine blk_drewN ?_ _ | refine blk_drew ?_ | refine blk_alloc ?_ _)); refine blk_put (cs := #[.int .i64 0, .int .i64 0, .int .i64 0]) ?_ 0 _ rfl; (with_reducible repeat (first | refine blk_drewN ?_ _ | refine blk_drew ?_ | refine blk_alloc ?_ _)); exact BK353.out⟩, ⟨by repeat (first | (with_reducible first | exact HB.out | apply below_alloc | apply pw_below_drewN | apply below_drew1 | refine below_set ?_ GE353.out) | exact HB.out)⟩⟩
                  · replace c21 := Bool.eq_false_iff.mpr c21
                    subst c21
                    have H1 : (impl_arrivals.j1 k1 a0 a1 l2 x8_1 x23_1 l2 (l2.length : Int) x23_1 true ((rd_T48 l2 x23_1).f0) ((rd_T48 l2 x23_1).f1) ((rd_T48 l2 x23_1).f2)) = some (r1, r2) := by rw [if_neg (show ¬ (false = true) by decide)] at H; exact H
                    clear H
                    have H := H1
                    clear H1
                    have H' := Aside0.mk H
                    clear H
                    have hcz33_0 : w18.cell? ⟨gb353, 0, none⟩ = some (.int .i64 0) := (blk_cell BK353.out 0).trans rfl
                    have hcz33_1 : w18.cell? ⟨gb353, 1, none⟩ = some (.int .i64 0) := (blk_cell BK353.out 1).trans rfl
                    have hcz33_2 : w18.cell? ⟨gb353, 2, none⟩ = some (.int .i64 0) := (blk_cell BK353.out 2).trans rfl
                    have hfz33_0 := blk_frozen BK353.out 0
                    have hfz33_1 := blk_frozen BK353.out 1
                    have hfz33_2 := blk_frozen BK353.out 2
                    go_wp2_with (first | (go_at_call 89; (with_reducible refine (impl_within.calls ((rd_T48 l2 x23_1).f0) 0 (wrap64 (a1 - 1)) false _ A20.out).mono ?_); rintro e w' ⟨rfl, ⟨nd, rfl⟩⟩; (try first | exact ⟨rfl, _, World.drewN_drewN _ _ _⟩ | exact ⟨rfl, _, Eq.trans (World.drewN_drewN _ _ _) (congrArg (World.drewN _) (Nat.add_assoc _ _ _))⟩)))
                    repeat (go_quiet (first | (go_at_call 89; (with_reducible refine (impl_within.calls ((rd_T48 l2 x23_1).f0) 0 (wrap64 (a1 - 1)) false _ A20.out).mono ?_); rintro e w' ⟨rfl, ⟨nd, rfl⟩⟩; (try first | exact ⟨rfl, _, World.drewN_drewN _ _ _⟩ | exact ⟨rfl, _, Eq.trans (World.drewN_drewN _ _ _) (congrArg (World.drewN _) (Nat.add_assoc _ _ _))⟩))); try go_wp2_with (first | (go_at_call 89; (with_reducible refine (impl_within.calls ((rd_T48 l2 x23_1).f0) 0 (wrap64 (a1 - 1)) false _ A20.out).mono ?_); rintro e w' ⟨rfl, ⟨nd, rfl⟩⟩; (try first | exact ⟨rfl, _, World.drewN_drewN _ _ _⟩ | exact ⟨rfl, _, Eq.trans (World.drewN_drewN _ _ _) (congrArg (World.drewN _) (Nat.add_assoc _ _ _))⟩))))
                    go_meet
                    case rel => exact ⟨_, (true), (by first | rfl | (simp; done) | (simp [*]; done)), H', ⟨by have := HK1.out; first | omega | exact Nat.le_refl _⟩, ⟨by (try simp only [hl8_1]); (with_reducible repeat (first | apply Kd.R_alloc | apply Kd.R_drewN | apply Kd.R_drew)); exact Kd.R_mono (Kd.R_far (p := ⟨gb353, 2, none⟩) (Kd.R_far (p := ⟨gb353, 1, none⟩) (Kd.R_far (p := ⟨gb353, 0, none⟩) (Kd.R_types HO_8.out BK353.out (by decide)) (fun _ hk => hk.2) (.int .i64 ((rd_T48 l2 x23_1).f0))) (fun _ hk => hk.2) (.int .i64 ((rd_T48 l2 x23_1).f1))) (fun _ hk => hk.2) (.int .i64 ((rd_T48 l2 x23_1).f2))) (fun _ hk => trivial)⟩, ⟨by (try simp only [hl8_1]); (with_reducible repeat (first | refine blk_drewN ?_ _ | refine blk_drew ?_ | refine blk_alloc ?_ _)); refine blk_put (cs := #[.int .i64 ((rd_T48 l2 x23_1).f0), .int .i64 ((rd_T48 l2 x23_1).f1), .int .i64 0]) ?_ 2 _ rfl; (with_reducible repeat (first | refine blk_drewN ?_ _ | refine blk_drew ?_ | refine blk_alloc ?_ _)); refine blk_put (cs := #[.int .i64 ((rd_T48 l2 x23_1).f0), .int .i64 0, .int .i64 0]) ?_ 1 _ rfl; (with_reducible repeat (first | refine blk_drewN ?_ _ | refine blk_drew ?_ | refine blk_alloc ?_ _)); refine blk_put (cs := #[.int .i64 0, .int .i64 0, .int .i64 0]) ?_ 0 _ rfl; (with_reducible repeat (first | refine blk_drewN ?_ _ | refine blk_drew ?_ | refine blk_alloc ?_ _)); exact BK353.out⟩, ⟨by repeat (first | (with_reducible first | exact HB.out | apply below_alloc | apply pw_below_drewN | apply below_drew1 | refine below_set ?_ GE353.out) | exact HB.out)⟩⟩
                case rest =>
                  clear HC17
                  try clear c1
                  try clear c2
                  try clear p2
                  try clear p3
                  try clear q3
                  try clear hx3
                  try clear c4
                  try clear c4b0
                  try clear c4b1
                  try clear c6
                  try clear c6b0
                  try clear c6b1
                  try clear p6
                  try clear p7
                  try clear q7
                  try clear hx7
                  try clear qi7
                  try clear hf7
                  try clear c9
                  try clear c14
                  try clear c14b0
                  try clear c15
                  try clear c15b0
                  try clear c16
                  try clear c16b0
                  try clear c21
                  try clear c23
                  try clear c24
                  try clear c24b0
                  try clear c24b1
                  try clear c27
                  try clear c28
                  try clear c28b0
                  try clear c29
                  try clear c29b0
                  try clear hcz19_0
                  try clear hcz19_1
                  try clear hcz19_2
                  try clear hcz25_0
                  try clear hcz25_1
                  try clear hcz25_2
                  try clear hcz30_0
                  try clear hcz30_1
                  try clear hcz30_2
                  try clear hcz31_0
                  try clear hcz31_1
                  try clear hcz31_2
                  try clear hcz32_0
                  try clear hcz32_1
                  try clear hcz32_2
                  try clear hcz33_0
                  try clear hcz33_1
                  try clear hcz33_2
                  try clear hfz19_0
                  try clear hfz19_1
                  try clear hfz19_2
                  try clear hfz25_0
                  try clear hfz25_1
                  try clear hfz25_2
                  try clear hfz30_0
                  try clear hfz30_1
                  try clear hfz30_2
                  try clear hfz31_0
                  try clear hfz31_1
                  try clear hfz31_2
                  try clear hfz32_0
                  try clear hfz32_1
                  try clear hfz32_2
                  try clear hfz33_0
                  try clear hfz33_1
                  try clear hfz33_2
                  try clear hx352_0
                  try clear hx352_1
                  try clear hx352_2
                  try clear hx357_0
                  try clear hx7_0
                  try clear p2
                  try clear p352
                  try clear p357
                  try clear p7
                  try clear q352
                  try clear q357
                  try clear q7
                  obtain ⟨kq, x62_16, rfl, HA, HJ16, HO_8, BK353, HB⟩ := hcut
                  cases kq with
                  | zero => exact absurd HA.out (by simp [impl_arrivals.j1])
                  | succ kj16 =>
                    have H := HA.out
                    clear HA
                    simp only [impl_arrivals.j1] at H
                    by_cases c34 : x62_16 = true
                    · subst c34
                      have H1 : (some (([] : List Int), false)) = some (r1, r2) := by rw [if_pos rfl] at H; exact H
                      clear H
                      have H := H1
                      clear H1
                      simp only [Option.some.injEq, Prod.mk.injEq] at H
                      obtain ⟨rfl, rfl⟩ := H
                      go_wp2
                      repeat (go_quiet (fail); try go_wp2)
                      go_ret2
                      exact ⟨_, by first | rfl | (simp [errW_none, errW_some] <;> rfl) | (simp [*, errW_none, errW_some] <;> rfl), by first | exact Kd.R_nil _ _ _ _ _ | exact Kd.N_nil _ _ _ _ _ | exact Kd.V_nil _ _ _ _ _ | exact Kd.Q_nil _ _ _ _ _ | exact Kd.S_nil _ _ _ _ _, by repeat (first | (with_reducible first | exact HB.out | apply below_alloc | apply pw_below_drewN | apply below_drew1 | refine below_set ?_ GE353.out) | exact HB.out)⟩
                    · replace c34 := Bool.eq_false_iff.mpr c34
                      subst c34
                      have H1 : (if 0 ≤ x23_1 then (if x23_1 ≤ (l2.length : Int) then ((impl_arrivals_1.f (l2.take (x23_1 : Int).toNat) ((rd_T48 l2 x23_1).f0) ((rd_T48 l2 x23_1).f1) ((rd_T48 l2 x23_1).f2)).bind fun t362 => (if t362 = true then (some (([] : List Int), false)) else (if 0 ≤ ((rd_T48 l2 x23_1).f1) then (if ((rd_T48 l2 x23_1).f1) < (x8_1.length : Int) then (impl_arrivals.l0 kj16 a0 a1 l2 (x8_1.set (((rd_T48 l2 x23_1).f1) : Int).toNat (wrap64 (((rd_T48 l2 x23_1).f2) + a0))) l2 (l2.length : Int) (wrap64 (x23_1 + 1))) else (none)) else (none)))) else (none)) else (none)) = some (r1, r2) := by rw [if_neg (show ¬ (false = true) by decide)] at H; exact H
                      clear H
                      have H := H1
                      clear H1
                      by_cases c35 : 0 ≤ x23_1
                      · rw [if_pos c35] at H
                        have c35b0 := eq_true c35
                        have c35b1 : decide (0 ≤ x23_1) = true := decide_eq_true c35
                        clear c35
                        by_cases c36 : x23_1 ≤ (l2.length : Int)
                        · rw [if_pos c36] at H
                          have c36b0 := eq_true c36
                          have c36b1 : decide (x23_1 ≤ (l2.length : Int)) = true := decide_eq_true c36
                          clear c36
                          obtain ⟨y358, hy358⟩ : ∃ y_ : List (S48), y_ = (l2.take (x23_1 : Int).toNat) := ⟨_, rfl⟩
                          replace H : ((impl_arrivals_1.f y358 ((rd_T48 l2 x23_1).f0) ((rd_T48 l2 x23_1).f1) ((rd_T48 l2 x23_1).f2)).bind fun t362 => (if t362 = true then (some (([] : List Int), false)) else (if 0 ≤ ((rd_T48 l2 x23_1).f1) then (if ((rd_T48 l2 x23_1).f1) < (x8_1.length : Int) then (impl_arrivals.l0 kj16 a0 a1 l2 (x8_1.set (((rd_T48 l2 x23_1).f1) : Int).toNat (wrap64 (((rd_T48 l2 x23_1).f2) + a0))) l2 (l2.length : Int) (wrap64 (x23_1 + 1))) else (none)) else (none)))) = some (r1, r2) := by first | (rw [hy358]; with_reducible exact H) | (have H2_ := (Option.bind_some _ _).symm.trans H; rw [hy358]; with_reducible exact H2_) | (have H2_ := (Option.bind_some _ _).symm.trans H; with_reducible exact H2_) | with_reducible exact H | (rw [hy358]; exact H) | exact H
                          have Ny358 := Aside0.mk hy358
                          clear hy358
                          replace H := Option.bind_eq_some_iff.mp H
                          obtain ⟨t362, A370, H⟩ := H
                          replace H : (if t362 = true then (some (([] : List Int), false)) else (if 0 ≤ ((rd_T48 l2 x23_1).f1) then (if ((rd_T48 l2 x23_1).f1) < (x8_1.length : Int) then (impl_arrivals.l0 kj16 a0 a1 l2 (x8_1.set (((rd_T48 l2 x23_1).f1) : Int).toNat (wrap64 (((rd_T48 l2 x23_1).f2) + a0))) l2 (l2.length : Int) (wrap64 (x23_1 + 1))) else (none)) else (none))) = some (r1, r2) := H
                          have A37 := Aside0.mk A370
                          clear A370
                          by_cases c38 : t362 = true
                          · subst c38
                            have H1 : (some (([] : List Int), false)) = some (r1, r2) := by rw [if_pos rfl] at H; exact H
                            clear H
                            have H := H1
                            clear H1
                            simp only [Option.some.injEq, Prod.mk.injEq] at H
                            obtain ⟨rfl, rfl⟩ := H
                            have q39 : (x23_1 : Int) ≤ ((l2.length : Int) : Int) := of_decide_eq_true (by first | (with_reducible assumption) | assumption)
                            obtain ⟨i039, hi039, _, hsz39, _⟩ := info_parts info48
                            have hroom39 : l2.length ≤ c2 := HC2.out
                            have hC39 : Kd.C k48 _ (some ad352) l2.length l2 := HR2.out
                            have hcut39 := cut_to (P := Try.prog) 40 48 .i64 Try.underlying40 hi039 (some ad352) l2.length c2 x23_1 (of_decide_eq_true (by first | (with_reducible assumption) | assumption)) q39 hroom39
                            have hr39 := Kd.C_take (m := (x23_1 : Int).toNat) hC39 (by omega)
                            have hy39 : y358.length = (x23_1 : Int).toNat := (by rw [Ny358.out, List.length_take]; omega)
                            rw [← Ny358.out] at hr39
                            rw [← hy39] at hcut39
                            have HR361 := Aside0.mk hr39
                            have HC361 := Aside0.mk (show y358.length ≤ c2 from by omega)
                            clear hr39 hC39 hroom39 hi039 hsz39
                            have KY39 := Aside0.mk hy39
                            clear hy39
                            replace q39 := eq_true q39
                            have hcz40_0 : wc.cell? ⟨gb353, 0, none⟩ = some (.int .i64 ((rd_T48 l2 x23_1).f0)) := (blk_cell BK353.out 0).trans rfl
                            have hcz40_1 : wc.cell? ⟨gb353, 1, none⟩ = some (.int .i64 ((rd_T48 l2 x23_1).f1)) := (blk_cell BK353.out 1).trans rfl
                            have hcz40_2 : wc.cell? ⟨gb353, 2, none⟩ = some (.int .i64 ((rd_T48 l2 x23_1).f2)) := (blk_cell BK353.out 2).trans rfl
                            have hfz40_0 := blk_frozen BK353.out 0
                            have hfz40_1 := blk_frozen BK353.out 1
                            have hfz40_2 := blk_frozen BK353.out 2
                            go_wp2_with (first | (go_at_call 149; (with_reducible refine (impl_arrivals_1.calls gb353 _ _ y358 ((rd_T48 l2 x23_1).f0) ((rd_T48 l2 x23_1).f1) ((rd_T48 l2 x23_1).f2) true _ ?cell ?side1 ?side2 A37.out).mono ?_); (case cell => exact (by (with_reducible repeat (first | refine blk_drewN ?_ _ | refine blk_drew ?_ | refine blk_alloc ?_ _)); exact BK353.out)); (case side1 => repeat (first | exact (Kd.C_below HR361.out HB.out) | (with_reducible refine Kd.C_alloc ?_ _) | (with_reducible refine Kd.C_drewN ?_ _) | (with_reducible refine Kd.C_drew ?_))); (case side2 => exact HC361.out); rintro e w41 ⟨rfl, hb⟩; have n0_ := Aside0.mk (Kd.R_below (by (with_reducible repeat (first | apply Kd.R_alloc | apply Kd.R_drewN | apply Kd.R_drew)); exact HO_8.out) hb); have n1_ := Aside0.mk (blk_below (g := gb353) (o := .cells #[.int .i64 ((rd_T48 l2 x23_1).f0), .int .i64 ((rd_T48 l2 x23_1).f1), .int .i64 ((rd_T48 l2 x23_1).f2)] 48 (0, 0)) (by (with_reducible repeat (first | refine blk_drewN ?_ _ | refine blk_drew ?_ | refine blk_alloc ?_ _)); exact BK353.out) hb); have n2_ := Aside0.mk (below_step (by repeat (first | (with_reducible first | exact HB.out | apply below_alloc | apply pw_below_drewN | apply below_drew1 | refine below_set ?_ GE353.out) | exact HB.out)) hb); clear HO_8; clear BK353; clear HB; have HO_8 := n0_; have BK353 := n1_; have HB := n2_; clear n0_ n1_ n2_; (try clear hb); (try clear hb2); (try clear hk); (try clear hi)))
                            repeat (go_quiet (first | (go_at_call 149; (with_reducible refine (impl_arrivals_1.calls gb353 _ _ y358 ((rd_T48 l2 x23_1).f0) ((rd_T48 l2 x23_1).f1) ((rd_T48 l2 x23_1).f2) true _ ?cell ?side1 ?side2 A37.out).mono ?_); (case cell => exact (by (with_reducible repeat (first | refine blk_drewN ?_ _ | refine blk_drew ?_ | refine blk_alloc ?_ _)); exact BK353.out)); (case side1 => repeat (first | exact (Kd.C_below HR361.out HB.out) | (with_reducible refine Kd.C_alloc ?_ _) | (with_reducible refine Kd.C_drewN ?_ _) | (with_reducible refine Kd.C_drew ?_))); (case side2 => exact HC361.out); rintro e w41 ⟨rfl, hb⟩; have n0_ := Aside0.mk (Kd.R_below (by (with_reducible repeat (first | apply Kd.R_alloc | apply Kd.R_drewN | apply Kd.R_drew)); exact HO_8.out) hb); have n1_ := Aside0.mk (blk_below (g := gb353) (o := .cells #[.int .i64 ((rd_T48 l2 x23_1).f0), .int .i64 ((rd_T48 l2 x23_1).f1), .int .i64 ((rd_T48 l2 x23_1).f2)] 48 (0, 0)) (by (with_reducible repeat (first | refine blk_drewN ?_ _ | refine blk_drew ?_ | refine blk_alloc ?_ _)); exact BK353.out) hb); have n2_ := Aside0.mk (below_step (by repeat (first | (with_reducible first | exact HB.out | apply below_alloc | apply pw_below_drewN | apply below_drew1 | refine below_set ?_ GE353.out) | exact HB.out)) hb); clear HO_8; clear BK353; clear HB; have HO_8 := n0_; have BK353 := n1_; have HB := n2_; clear n0_ n1_ n2_; (try clear hb); (try clear hb2); (try clear hk); (try clear hi))); try go_wp2_with (first | (go_at_call 149; (with_reducible refine (impl_arrivals_1.calls gb353 _ _ y358 ((rd_T48 l2 x23_1).f0) ((rd_T48 l2 x23_1).f1) ((rd_T48 l2 x23_1).f2) true _ ?cell ?side1 ?side2 A37.out).mono ?_); (case cell => exact (by (with_reducible repeat (first | refine blk_drewN ?_ _ | refine blk_drew ?_ | refine blk_alloc ?_ _)); exact BK353.out)); (case side1 => repeat (first | exact (Kd.C_below HR361.out HB.out) | (with_reducible refine Kd.C_alloc ?_ _) | (with_reducible refine Kd.C_drewN ?_ _) | (with_reducible refine Kd.C_drew ?_))); (case side2 => exact HC361.out); rintro e w41 ⟨rfl, hb⟩; have n0_ := Aside0.mk (Kd.R_below (by (with_reducible repeat (first | apply Kd.R_alloc | apply Kd.R_drewN | apply Kd.R_drew)); exact HO_8.out) hb); have n1_ := Aside0.mk (blk_below (g := gb353) (o := .cells #[.int .i64 ((rd_T48 l2 x23_1).f0), .int .i64 ((rd_T48 l2 x23_1).f1), .int .i64 ((rd_T48 l2 x23_1).f2)] 48 (0, 0)) (by (with_reducible repeat (first | refine blk_drewN ?_ _ | refine blk_drew ?_ | refine blk_alloc ?_ _)); exact BK353.out) hb); have n2_ := Aside0.mk (below_step (by repeat (first | (with_reducible first | exact HB.out | apply below_alloc | apply pw_below_drewN | apply below_drew1 | refine below_set ?_ GE353.out) | exact HB.out)) hb); clear HO_8; clear BK353; clear HB; have HO_8 := n0_; have BK353 := n1_; have HB := n2_; clear n0_ n1_ n2_; (try clear hb); (try clear hb2); (try clear hk); (try clear hi))))
                            go_ret2
                            exact ⟨_, by first | rfl | (simp [errW_none, errW_some] <;> rfl) | (simp [*, errW_none, errW_some] <;> rfl), by first | exact Kd.R_nil _ _ _ _ _ | exact Kd.N_nil _ _ _ _ _ | exact Kd.V_nil _ _ _ _ _ | exact Kd.Q_nil _ _ _ _ _ | exact Kd.S_nil _ _ _ _ _, by repeat (first | (with_reducible first | exact HB.out | apply below_alloc | apply pw_below_drewN | apply below_drew1 | refine below_set ?_ GE353.out) | exact HB.out)⟩
                          · replace c38 := Bool.eq_false_iff.mpr c38
                            subst c38
                            have H1 : (if 0 ≤ ((rd_T48 l2 x23_1).f1) then (if ((rd_T48 l2 x23_1).f1) < (x8_1.length : Int) then (impl_arrivals.l0 kj16 a0 a1 l2 (x8_1.set (((rd_T48 l2 x23_1).f1) : Int).toNat (wrap64 (((rd_T48 l2 x23_1).f2) + a0))) l2 (l2.length : Int) (wrap64 (x23_1 + 1))) else (none)) else (none)) = some (r1, r2) := by rw [if_neg (show ¬ (false = true) by decide)] at H; exact H
                            clear H
                            have H := H1
                            clear H1
                            by_cases c42 : 0 ≤ ((rd_T48 l2 x23_1).f1)
                            · rw [if_pos c42] at H
                              have c42b0 : decide (0 ≤ ((rd_T48 l2 x23_1).f1)) = true := decide_eq_true c42
                              clear c42
                              by_cases c43 : ((rd_T48 l2 x23_1).f1) < (x8_1.length : Int)
                              · rw [if_pos c43] at H
                                have c43b0 : decide (((rd_T48 l2 x23_1).f1) < (x8_1.length : Int)) = true := decide_eq_true c43
                                (try (have c43b0h := c43b0; simp only [hl8_1] at c43b0h))
                                clear c43
                                obtain ⟨y363, hy363⟩ : ∃ y_ : List Int, y_ = (x8_1.set (((rd_T48 l2 x23_1).f1) : Int).toNat (wrap64 (((rd_T48 l2 x23_1).f2) + a0))) := ⟨_, rfl⟩
                                replace H : (impl_arrivals.l0 kj16 a0 a1 l2 y363 l2 (l2.length : Int) (wrap64 (x23_1 + 1))) = some (r1, r2) := by first | (rw [hy363]; with_reducible exact H) | (have H2_ := (Option.bind_some _ _).symm.trans H; rw [hy363]; with_reducible exact H2_) | (have H2_ := (Option.bind_some _ _).symm.trans H; with_reducible exact H2_) | with_reducible exact H | (rw [hy363]; exact H) | exact H
                                have Ny363 := Aside0.mk hy363
                                clear hy363
                                have H' := Aside0.mk H
                                clear H
                                have q45 : (x23_1 : Int) ≤ ((l2.length : Int) : Int) := of_decide_eq_true (by first | (with_reducible assumption) | assumption)
                                obtain ⟨i045, hi045, _, hsz45, _⟩ := info_parts info48
                                have hroom45 : l2.length ≤ c2 := HC2.out
                                have hC45 : Kd.C k48 _ (some ad352) l2.length l2 := HR2.out
                                have hcut45 := cut_to (P := Try.prog) 40 48 .i64 Try.underlying40 hi045 (some ad352) l2.length c2 x23_1 (of_decide_eq_true (by first | (with_reducible assumption) | assumption)) q45 hroom45
                                have hr45 := Kd.C_take (m := (x23_1 : Int).toNat) hC45 (by omega)
                                have hy45 : y358.length = (x23_1 : Int).toNat := (by rw [Ny358.out, List.length_take]; omega)
                                rw [← Ny358.out] at hr45
                                rw [← hy45] at hcut45
                                have HR361 := Aside0.mk hr45
                                have HC361 := Aside0.mk (show y358.length ≤ c2 from by omega)
                                clear hr45 hC45 hroom45 hi045 hsz45
                                have KY45 := Aside0.mk hy45
                                clear hy45
                                replace q45 := eq_true q45
                                have hcz46_0 : wc.cell? ⟨gb353, 0, none⟩ = some (.int .i64 ((rd_T48 l2 x23_1).f0)) := (blk_cell BK353.out 0).trans rfl
                                have hcz46_1 : wc.cell? ⟨gb353, 1, none⟩ = some (.int .i64 ((rd_T48 l2 x23_1).f1)) := (blk_cell BK353.out 1).trans rfl
                                have hcz46_2 : wc.cell? ⟨gb353, 2, none⟩ = some (.int .i64 ((rd_T48 l2 x23_1).f2)) := (blk_cell BK353.out 2).trans rfl
                                have hfz46_0 := blk_frozen BK353.out 0
                                have hfz46_1 := blk_frozen BK353.out 1
                                have hfz46_2 := blk_frozen BK353.out 2
                                go_wp2_with (first | (go_at_call 149; (with_reducible refine (impl_arrivals_1.calls gb353 _ _ y358 ((rd_T48 l2 x23_1).f0) ((rd_T48 l2 x23_1).f1) ((rd_T48 l2 x23_1).f2) false _ ?cell ?side1 ?side2 A37.out).mono ?_); (case cell => exact (by (with_reducible repeat (first | refine blk_drewN ?_ _ | refine blk_drew ?_ | refine blk_alloc ?_ _)); exact BK353.out)); (case side1 => repeat (first | exact (Kd.C_below HR361.out HB.out) | (with_reducible refine Kd.C_alloc ?_ _) | (with_reducible refine Kd.C_drewN ?_ _) | (with_reducible refine Kd.C_drew ?_))); (case side2 => exact HC361.out); rintro e w47 ⟨rfl, hb⟩; have n0_ := Aside0.mk (Kd.R_below (by (with_reducible repeat (first | apply Kd.R_alloc | apply Kd.R_drewN | apply Kd.R_drew)); exact HO_8.out) hb); have n1_ := Aside0.mk (blk_below (g := gb353) (o := .cells #[.int .i64 ((rd_T48 l2 x23_1).f0), .int .i64 ((rd_T48 l2 x23_1).f1), .int .i64 ((rd_T48 l2 x23_1).f2)] 48 (0, 0)) (by (with_reducible repeat (first | refine blk_drewN ?_ _ | refine blk_drew ?_ | refine blk_alloc ?_ _)); exact BK353.out) hb); have n2_ := Aside0.mk (below_step (by repeat (first | (with_reducible first | exact HB.out | apply below_alloc | apply pw_below_drewN | apply below_drew1 | refine below_set ?_ GE353.out) | exact HB.out)) hb); clear HO_8; clear BK353; clear HB; have HO_8 := n0_; have BK353 := n1_; have HB := n2_; clear n0_ n1_ n2_; (try clear hb); (try clear hb2); (try clear hk); (try clear hi); have hcz48_0 : w47.cell? ⟨gb353, 0, none⟩ = some (.int .i64 ((rd_T48 l2 x23_1).f0)) := (blk_cell BK353.out 0).trans rfl; have hcz48_1 : w47.cell? ⟨gb353, 1, none⟩ = some (.int .i64 ((rd_T48 l2 x23_1).f1)) := (blk_cell BK353.out 1).trans rfl; have hcz48_2 : w47.cell? ⟨gb353, 2, none⟩ = some (.int .i64 ((rd_T48 l2 x23_1).f2)) := (blk_cell BK353.out 2).trans rfl; have hfz48_0 := blk_frozen BK353.out 0; have hfz48_1 := blk_frozen BK353.out 1; have hfz48_2 := blk_frozen BK353.out 2; have p44 : 0 ≤ (((rd_T48 l2 x23_1).f1) : Int) := of_decide_eq_true (by first | (with_reducible assumption) | assumption); have q44 : (((rd_T48 l2 x23_1).f1) : Int) < ((x8_1.length : Int) : Int) := of_decide_eq_true (by first | (with_reducible assumption) | assumption); obtain ⟨hx44_0, hf44_0⟩ := Kd.R_celln 0 HO_8.out (((rd_T48 l2 x23_1).f1) : Int) p44 q44; replace p44 := eq_true p44; replace q44 := eq_true q44; obtain ⟨hy49_, hz49_⟩ := Kd.R_celln 0 HO_8.out (((rd_T48 l2 x23_1).f1) : Int) (of_decide_eq_true (by first | (with_reducible assumption) | assumption)) (of_decide_eq_true (by first | (with_reducible assumption) | assumption)); have HP49 := Kd.R_putg HO_8.out (((rd_T48 l2 x23_1).f1) : Int) (wrap64 (((rd_T48 l2 x23_1).f2) + a0))) | ((with_reducible refine gate_store (t := 3) (p := 75) rfl ?_); (try (rw [drewN_self w47]; generalize hq_ : World.drewN w47 _ = w47; have n0_ := Aside0.mk (Kd.R_at hq_ HO_8.out); have n1_ := Aside0.mk (blk_at hq_ BK353.out); have n2_ := Aside0.mk (below_at hq_ HB.out); clear hq_ HO_8 BK353 HB; have HO_8 := n0_; have BK353 := n1_; have HB := n2_; clear n0_ n1_ n2_; (try (obtain ⟨hy49_, hz49_⟩ := Kd.R_celln 0 HO_8.out (((rd_T48 l2 x23_1).f1) : Int) (of_decide_eq_true (by first | (with_reducible assumption) | assumption)) (of_decide_eq_true (by first | (with_reducible assumption) | assumption)))); (try (have HP49 := Kd.R_putg HO_8.out (((rd_T48 l2 x23_1).f1) : Int) (wrap64 (((rd_T48 l2 x23_1).f2) + a0)))))); refine store_event (t := 3) (p := 75) (v := ?vo_w50) (w1 := (w47.setCell ⟨go7, (((rd_T48 l2 x23_1).f1) : Int).toNat, none⟩ (.int .i64 (wrap64 (((rd_T48 l2 x23_1).f2) + a0))))) ?hg ?ho ?hn ?hr ?_; (case ho => rfl); (case hg => rfl); (case hn => rfl); (case hr => first | (go_simp; done) | (go_simp; rfl)); intro w50 hw; have hg : w47.grownBy w50 (some go7) := (by rw [hw]; exact HP49.2); have hp_ : Kd.R (Kd.int .i64) 3 w50 w.heap.size (fun _ => True) (.slice (some ⟨go7, 0, none⟩) x8_1.length co7) y363 := (by rw [hw, Ny363.out]; exact HP49.1); clear HP49; have n0_ := Aside0.mk (hp_); have n1_ := Aside0.mk (blk_grown (g := gb353) (o := .cells #[.int .i64 ((rd_T48 l2 x23_1).f0), .int .i64 ((rd_T48 l2 x23_1).f1), .int .i64 ((rd_T48 l2 x23_1).f2)] 48 (0, 0)) (by (with_reducible repeat (first | refine blk_drewN ?_ _ | refine blk_drew ?_ | refine blk_alloc ?_ _)); exact BK353.out) hg (Kd.R_ne HO_8.out BK353.out (by decide))); have n2_ := Aside0.mk ((by rw [hw]; exact below_set (HB.out) GB7.out : Below w.heap.size w w50)); clear HO_8; clear BK353; clear HB; have HO_8 := n0_; have BK353 := n1_; have HB := n2_; clear n0_ n1_ n2_; clear hg hw hp_))
                                repeat (go_quiet (first | (go_at_call 149; (with_reducible refine (impl_arrivals_1.calls gb353 _ _ y358 ((rd_T48 l2 x23_1).f0) ((rd_T48 l2 x23_1).f1) ((rd_T48 l2 x23_1).f2) false _ ?cell ?side1 ?side2 A37.out).mono ?_); (case cell => exact (by (with_reducible repeat (first | refine blk_drewN ?_ _ | refine blk_drew ?_ | refine blk_alloc ?_ _)); exact BK353.out)); (case side1 => repeat (first | exact (Kd.C_below HR361.out HB.out) | (with_reducible refine Kd.C_alloc ?_ _) | (with_reducible refine Kd.C_drewN ?_ _) | (with_reducible refine Kd.C_drew ?_))); (case side2 => exact HC361.out); rintro e w47 ⟨rfl, hb⟩; have n0_ := Aside0.mk (Kd.R_below (by (with_reducible repeat (first | apply Kd.R_alloc | apply Kd.R_drewN | apply Kd.R_drew)); exact HO_8.out) hb); have n1_ := Aside0.mk (blk_below (g := gb353) (o := .cells #[.int .i64 ((rd_T48 l2 x23_1).f0), .int .i64 ((rd_T48 l2 x23_1).f1), .int .i64 ((rd_T48 l2 x23_1).f2)] 48 (0, 0)) (by (with_reducible repeat (first | refine blk_drewN ?_ _ | refine blk_drew ?_ | refine blk_alloc ?_ _)); exact BK353.out) hb); have n2_ := Aside0.mk (below_step (by repeat (first | (with_reducible first | exact HB.out | apply below_alloc | apply pw_below_drewN | apply below_drew1 | refine below_set ?_ GE353.out) | exact HB.out)) hb); clear HO_8; clear BK353; clear HB; have HO_8 := n0_; have BK353 := n1_; have HB := n2_; clear n0_ n1_ n2_; (try clear hb); (try clear hb2); (try clear hk); (try clear hi); have hcz48_0 : w47.cell? ⟨gb353, 0, none⟩ = some (.int .i64 ((rd_T48 l2 x23_1).f0)) := (blk_cell BK353.out 0).trans rfl; have hcz48_1 : w47.cell? ⟨gb353, 1, none⟩ = some (.int .i64 ((rd_T48 l2 x23_1).f1)) := (blk_cell BK353.out 1).trans rfl; have hcz48_2 : w47.cell? ⟨gb353, 2, none⟩ = some (.int .i64 ((rd_T48 l2 x23_1).f2)) := (blk_cell BK353.out 2).trans rfl; have hfz48_0 := blk_frozen BK353.out 0; have hfz48_1 := blk_frozen BK353.out 1; have hfz48_2 := blk_frozen BK353.out 2; have p44 : 0 ≤ (((rd_T48 l2 x23_1).f1) : Int) := of_decide_eq_true (by first | (with_reducible assumption) | assumption); have q44 : (((rd_T48 l2 x23_1).f1) : Int) < ((x8_1.length : Int) : Int) := of_decide_eq_true (by first | (with_reducible assumption) | assumption); obtain ⟨hx44_0, hf44_0⟩ := Kd.R_celln 0 HO_8.out (((rd_T48 l2 x23_1).f1) : Int) p44 q44; replace p44 := eq_true p44; replace q44 := eq_true q44; obtain ⟨hy49_, hz49_⟩ := Kd.R_celln 0 HO_8.out (((rd_T48 l2 x23_1).f1) : Int) (of_decide_eq_true (by first | (with_reducible assumption) | assumption)) (of_decide_eq_true (by first | (with_reducible assumption) | assumption)); have HP49 := Kd.R_putg HO_8.out (((rd_T48 l2 x23_1).f1) : Int) (wrap64 (((rd_T48 l2 x23_1).f2) + a0))) | ((with_reducible refine gate_store (t := 3) (p := 75) rfl ?_); (try (rw [drewN_self w47]; generalize hq_ : World.drewN w47 _ = w47; have n0_ := Aside0.mk (Kd.R_at hq_ HO_8.out); have n1_ := Aside0.mk (blk_at hq_ BK353.out); have n2_ := Aside0.mk (below_at hq_ HB.out); clear hq_ HO_8 BK353 HB; have HO_8 := n0_; have BK353 := n1_; have HB := n2_; clear n0_ n1_ n2_; (try (obtain ⟨hy49_, hz49_⟩ := Kd.R_celln 0 HO_8.out (((rd_T48 l2 x23_1).f1) : Int) (of_decide_eq_true (by first | (with_reducible assumption) | assumption)) (of_decide_eq_true (by first | (with_reducible assumption) | assumption)))); (try (have HP49 := Kd.R_putg HO_8.out (((rd_T48 l2 x23_1).f1) : Int) (wrap64 (((rd_T48 l2 x23_1).f2) + a0)))))); refine store_event (t := 3) (p := 75) (v := ?vo_w50) (w1 := (w47.setCell ⟨go7, (((rd_T48 l2 x23_1).f1) : Int).toNat, none⟩ (.int .i64 (wrap64 (((rd_T48 l2 x23_1).f2) + a0))))) ?hg ?ho ?hn ?hr ?_; (case ho => rfl); (case hg => rfl); (case hn => rfl); (case hr => first | (go_simp; done) | (go_simp; rfl)); intro w50 hw; have hg : w47.grownBy w50 (some go7) := (by rw [hw]; exact HP49.2); have hp_ : Kd.R (Kd.int .i64) 3 w50 w.heap.size (fun _ => True) (.slice (some ⟨go7, 0, none⟩) x8_1.length co7) y363 := (by rw [hw, Ny363.out]; exact HP49.1); clear HP49; have n0_ := Aside0.mk (hp_); have n1_ := Aside0.mk (blk_grown (g := gb353) (o := .cells #[.int .i64 ((rd_T48 l2 x23_1).f0), .int .i64 ((rd_T48 l2 x23_1).f1), .int .i64 ((rd_T48 l2 x23_1).f2)] 48 (0, 0)) (by (with_reducible repeat (first | refine blk_drewN ?_ _ | refine blk_drew ?_ | refine blk_alloc ?_ _)); exact BK353.out) hg (Kd.R_ne HO_8.out BK353.out (by decide))); have n2_ := Aside0.mk ((by rw [hw]; exact below_set (HB.out) GB7.out : Below w.heap.size w w50)); clear HO_8; clear BK353; clear HB; have HO_8 := n0_; have BK353 := n1_; have HB := n2_; clear n0_ n1_ n2_; clear hg hw hp_)); try go_wp2_with (first | (go_at_call 149; (with_reducible refine (impl_arrivals_1.calls gb353 _ _ y358 ((rd_T48 l2 x23_1).f0) ((rd_T48 l2 x23_1).f1) ((rd_T48 l2 x23_1).f2) false _ ?cell ?side1 ?side2 A37.out).mono ?_); (case cell => exact (by (with_reducible repeat (first | refine blk_drewN ?_ _ | refine blk_drew ?_ | refine blk_alloc ?_ _)); exact BK353.out)); (case side1 => repeat (first | exact (Kd.C_below HR361.out HB.out) | (with_reducible refine Kd.C_alloc ?_ _) | (with_reducible refine Kd.C_drewN ?_ _) | (with_reducible refine Kd.C_drew ?_))); (case side2 => exact HC361.out); rintro e w47 ⟨rfl, hb⟩; have n0_ := Aside0.mk (Kd.R_below (by (with_reducible repeat (first | apply Kd.R_alloc | apply Kd.R_drewN | apply Kd.R_drew)); exact HO_8.out) hb); have n1_ := Aside0.mk (blk_below (g := gb353) (o := .cells #[.int .i64 ((rd_T48 l2 x23_1).f0), .int .i64 ((rd_T48 l2 x23_1).f1), .int .i64 ((rd_T48 l2 x23_1).f2)] 48 (0, 0)) (by (with_reducible repeat (first | refine blk_drewN ?_ _ | refine blk_drew ?_ | refine blk_alloc ?_ _)); exact BK353.out) hb); have n2_ := Aside0.mk (below_step (by repeat (first | (with_reducible first | exact HB.out | apply below_alloc | apply pw_below_drewN | apply below_drew1 | refine below_set ?_ GE353.out) | exact HB.out)) hb); clear HO_8; clear BK353; clear HB; have HO_8 := n0_; have BK353 := n1_; have HB := n2_; clear n0_ n1_ n2_; (try clear hb); (try clear hb2); (try clear hk); (try clear hi); have hcz48_0 : w47.cell? ⟨gb353, 0, none⟩ = some (.int .i64 ((rd_T48 l2 x23_1).f0)) := (blk_cell BK353.out 0).trans rfl; have hcz48_1 : w47.cell? ⟨gb353, 1, none⟩ = some (.int .i64 ((rd_T48 l2 x23_1).f1)) := (blk_cell BK353.out 1).trans rfl; have hcz48_2 : w47.cell? ⟨gb353, 2, none⟩ = some (.int .i64 ((rd_T48 l2 x23_1).f2)) := (blk_cell BK353.out 2).trans rfl; have hfz48_0 := blk_frozen BK353.out 0; have hfz48_1 := blk_frozen BK353.out 1; have hfz48_2 := blk_frozen BK353.out 2; have p44 : 0 ≤ (((rd_T48 l2 x23_1).f1) : Int) := of_decide_eq_true (by first | (with_reducible assumption) | assumption); have q44 : (((rd_T48 l2 x23_1).f1) : Int) < ((x8_1.length : Int) : Int) := of_decide_eq_true (by first | (with_reducible assumption) | assumption); obtain ⟨hx44_0, hf44_0⟩ := Kd.R_celln 0 HO_8.out (((rd_T48 l2 x23_1).f1) : Int) p44 q44; replace p44 := eq_true p44; replace q44 := eq_true q44; obtain ⟨hy49_, hz49_⟩ := Kd.R_celln 0 HO_8.out (((rd_T48 l2 x23_1).f1) : Int) (of_decide_eq_true (by first | (with_reducible assumption) | assumption)) (of_decide_eq_true (by first | (with_reducible assumption) | assumption)); have HP49 := Kd.R_putg HO_8.out (((rd_T48 l2 x23_1).f1) : Int) (wrap64 (((rd_T48 l2 x23_1).f2) + a0))) | ((with_reducible refine gate_store (t := 3) (p := 75) rfl ?_); (try (rw [drewN_self w47]; generalize hq_ : World.drewN w47 _ = w47; have n0_ := Aside0.mk (Kd.R_at hq_ HO_8.out); have n1_ := Aside0.mk (blk_at hq_ BK353.out); have n2_ := Aside0.mk (below_at hq_ HB.out); clear hq_ HO_8 BK353 HB; have HO_8 := n0_; have BK353 := n1_; have HB := n2_; clear n0_ n1_ n2_; (try (obtain ⟨hy49_, hz49_⟩ := Kd.R_celln 0 HO_8.out (((rd_T48 l2 x23_1).f1) : Int) (of_decide_eq_true (by first | (with_reducible assumption) | assumption)) (of_decide_eq_true (by first | (with_reducible assumption) | assumption)))); (try (have HP49 := Kd.R_putg HO_8.out (((rd_T48 l2 x23_1).f1) : Int) (wrap64 (((rd_T48 l2 x23_1).f2) + a0)))))); refine store_event (t := 3) (p := 75) (v := ?vo_w50) (w1 := (w47.setCell ⟨go7, (((rd_T48 l2 x23_1).f1) : Int).toNat, none⟩ (.int .i64 (wrap64 (((rd_T48 l2 x23_1).f2) + a0))))) ?hg ?ho ?hn ?hr ?_; (case ho => rfl); (case hg => rfl); (case hn => rfl); (case hr => first | (go_simp; done) | (go_simp; rfl)); intro w50 hw; have hg : w47.grownBy w50 (some go7) := (by rw [hw]; exact HP49.2); have hp_ : Kd.R (Kd.int .i64) 3 w50 w.heap.size (fun _ => True) (.slice (some ⟨go7, 0, none⟩) x8_1.length co7) y363 := (by rw [hw, Ny363.out]; exact HP49.1); clear HP49; have n0_ := Aside0.mk (hp_); have n1_ := Aside0.mk (blk_grown (g := gb353) (o := .cells #[.int .i64 ((rd_T48 l2 x23_1).f0), .int .i64 ((rd_T48 l2 x23_1).f1), .int .i64 ((rd_T48 l2 x23_1).f2)] 48 (0, 0)) (by (with_reducible repeat (first | refine blk_drewN ?_ _ | refine blk_drew ?_ | refine blk_alloc ?_ _)); exact BK353.out) hg (Kd.R_ne HO_8.out BK353.out (by decide))); have n2_ := Aside0.mk ((by rw [hw]; exact below_set (HB.out) GB7.out : Below w.heap.size w w50)); clear HO_8; clear BK353; clear HB; have HO_8 := n0_; have BK353 := n1_; have HB := n2_; clear n0_ n1_ n2_; clear hg hw hp_)))
                                (try simp only [← hl8_1])
                                go_roundg kj16
                                case measure => have := HK1.out; have := HJ16.out; omega
                                case rel => exact ⟨(y363), (wrap64 (x23_1 + 1)), (by first | rfl | (simp; done) | (simp [*]; done)), H', ⟨by have := HK1.out; have := HJ16.out; omega⟩, ⟨by (try simp only [hl8_1]); (with_reducible repeat (first | apply Kd.R_alloc | apply Kd.R_drewN | apply Kd.R_drew)); exact HO_8.out⟩, ⟨by repeat (first | (with_reducible first | exact HB.out | apply below_alloc | apply pw_below_drewN | apply below_drew1 | refine below_set ?_ GE353.out) | exact HB.out)⟩⟩
                              · rw [if_neg c43] at H
                                exact absurd H (by simp)
                            · rw [if_neg c42] at H
                              exact absurd H (by simp)
                        · rw [if_neg c36] at H
                          exact absurd H (by simp)
                      · rw [if_neg c35] at H
                        exact absurd H (by simp)
              · rw [if_neg c16] at H
                exact absurd H (by simp)
            · rw [if_neg c15] at H
              exact absurd H (by simp)
          · rw [if_neg c14] at H
            have c14b0 : decide (x23_1 < (l2.length : Int)) = false := decide_eq_false c14
            (try (have c14b0h := c14b0; simp only [hl8_1] at c14b0h))
            clear c14
            have H' := Aside0.mk H
            clear H
            go_wp2
            repeat (go_quiet (fail); try go_wp2)
            go_loopg [79] k1 (fun kq v79 w' => ∃ (x79_2 : Int), v79 = .int .i64 x79_2 ∧ Aside0 (impl_arrivals.l1 kq x8_1 l2 (l2.length : Int) x79_2 = some (r1, r2)) ∧ Aside0 (kq ≤ k1) ∧ Aside0 (Kd.R (Kd.int .i64) 3 w' w.heap.size (fun _ => True) (.slice (some ⟨go7, 0, none⟩) x8_1.length co7) x8_1) ∧ Aside0 (Below w.heap.size w w'))
            case atStart => exact ⟨(0), (by first | rfl | (simp; done) | (simp [*]; done)), H', ⟨Nat.le_refl _⟩, ⟨by (try simp only [hl8_1]); (with_reducible repeat (first | apply Kd.R_alloc | apply Kd.R_drewN | apply Kd.R_drew)); exact HO_8.out⟩, ⟨by repeat (first | (with_reducible first | exact HB.out | apply below_alloc | apply pw_below_drewN | apply below_drew1) | exact HB.out)⟩⟩
            case round =>
              clear H'
              try clear c1
              try clear c2
              try clear p2
              try clear c3
              try clear p3
              try clear q3
              try clear hx3
              try clear c4
              try clear c4b0
              try clear c4b1
              try clear p4
              try clear q4
              try clear hx4
              try clear hf4
              try clear c6
              try clear c6b0
              try clear c6b1
              try clear p6
              try clear p7
              try clear q7
              try clear hx7
              try clear qi7
              try clear hf7
              try clear c9
              try clear c14
              try clear c14b0
              try clear c15
              try clear c15b0
              try clear c16
              try clear c16b0
              try clear c21
              try clear c23
              try clear c24
              try clear c24b0
              try clear c24b1
              try clear c27
              try clear c28
              try clear c28b0
              try clear c29
              try clear c29b0
              try clear c34
              try clear c35
              try clear c35b0
              try clear c35b1
              try clear p35
              try clear q35
              try clear hx35
              try clear c36
              try clear c36b0
              try clear c36b1
              try clear c38
              try clear q39
              try clear c42
              try clear c42b0
              try clear c43
              try clear c43b0
              try clear p44
              try clear q44
              try clear hx44
              try clear hf44
              try clear q45
              try clear hcz19_0
              try clear hcz19_1
              try clear hcz19_2
              try clear hcz25_0
              try clear hcz25_1
              try clear hcz25_2
              try clear hcz30_0
              try clear hcz30_1
              try clear hcz30_2
              try clear hcz31_0
              try clear hcz31_1
              try clear hcz31_2
              try clear hcz32_0
              try clear hcz32_1
              try clear hcz32_2
              try clear hcz33_0
              try clear hcz33_1
              try clear hcz33_2
              try clear hcz40_0
              try clear hcz40_1
              try clear hcz40_2
              try clear hcz46_0
              try clear hcz46_1
              try clear hcz46_2
              try clear hcz48_0
              try clear hcz48_1
              try clear hcz48_2
              try clear hfz19_0
              try clear hfz19_1
              try clear hfz19_2
              try clear hfz25_0
              try clear hfz25_1
              try clear hfz25_2
              try clear hfz30_0
              try clear hfz30_1
              try clear hfz30_2
              try clear hfz31_0
              try clear hfz31_1
              try clear hfz31_2
              try clear hfz32_0
              try clear hfz32_1
              try clear hfz32_2
              try clear hfz33_0
              try clear hfz33_1
              try clear hfz33_2
              try clear hfz40_0
              try clear hfz40_1
              try clear hfz40_2
              try clear hfz46_0
              try clear hfz46_1
              try clear hfz46_2
              try clear hfz48_0
              try clear hfz48_1
              try clear hfz48_2
              try clear hx352_0
              try clear hx352_1
              try clear hx352_2
              try clear hx357_0
              try clear hx44_0
              try clear hx7_0
              try clear p2
              try clear p3
              try clear p352
              try clear p357
              try clear p44
              try clear p6
              try clear p7
              try clear q3
              try clear q352
              try clear q357
              try clear q39
              try clear q44
              try clear q45
              try clear q7
              obtain ⟨x79_2, rfl, HA, HK2, HO_8, HB⟩ := hrel
              cases gk with
              | zero => exact absurd HA.out (by simp [impl_arrivals.l1])
              | succ k2 =>
                have H := HA.out
                clear HA
                simp only [impl_arrivals.l1] at H
                by_cases c51 : x79_2 < (l2.length : Int)
                · rw [if_pos c51] at H
                  have c51b0 : decide (x79_2 < (l2.length : Int)) = true := decide_eq_true c51
                  (try (have c51b0h := c51b0; simp only [hl8_1] at c51b0h))
                  clear c51
                  by_cases c52 : 0 ≤ x79_2
                  · rw [if_pos c52] at H
                    have c52b0 : decide (0 ≤ x79_2) = true := decide_eq_true c52
                    clear c52
                    by_cases c53 : x79_2 < (l2.length : Int)
                    · rw [if_pos c53] at H
                      have c53b0 : decide (x79_2 < (l2.length : Int)) = true := decide_eq_true c53
                      (try (have c53b0h := c53b0; simp only [hl8_1] at c53b0h))
                      clear c53
                      by_cases c54 : 0 ≤ ((rd_T48 l2 x79_2).f0)
                      · rw [if_pos c54] at H
                        have c54b0 : decide (0 ≤ ((rd_T48 l2 x79_2).f0)) = true := decide_eq_true c54
                        clear c54
                        by_cases c55 : ((rd_T48 l2 x79_2).f0) < (x8_1.length : Int)
                        · rw [if_pos c55] at H
                          have c55b0 : decide (((rd_T48 l2 x79_2).f0) < (x8_1.length : Int)) = true := decide_eq_true c55
                          (try (have c55b0h := c55b0; simp only [hl8_1] at c55b0h))
                          clear c55
                          by_cases c56 : (rd x8_1 ((rd_T48 l2 x79_2).f0)) < 0
                          · rw [if_pos c56] at H
                            have c56b0 : decide ((rd x8_1 ((rd_T48 l2 x79_2).f0)) < 0) = true := decide_eq_true c56
                            clear c56
                            simp only [Option.some.injEq, Prod.mk.injEq] at H
                            obtain ⟨rfl, rfl⟩ := H
                            have p364 : 0 ≤ (x79_2 : Int) := of_decide_eq_true (by first | (with_reducible assumption) | assumption)
                            have q364 : x79_2 < (l2.length : Int) := of_decide_eq_true (by first | (with_reducible assumption) | assumption)
                            obtain ⟨ad364, e364, hx364_0, hx364_1, hx364_2⟩ := at_T48 HR2.out x79_2 p364 q364
                            cases e364
                            replace hx364_0 := (HB.out.cell (World.block_lt_of_cell? w _ hx364_0)).trans hx364_0
                            replace hx364_1 := (HB.out.cell (World.block_lt_of_cell? w _ hx364_1)).trans hx364_1
                            replace hx364_2 := (HB.out.cell (World.block_lt_of_cell? w _ hx364_2)).trans hx364_2
                            replace p364 := eq_true p364
                            replace q364 := eq_true q364
                            go_wp2_with (first | ((with_reducible refine gate_dst (N := 12) rfl ?_); refine box_event ?hg (N := 12) ?hd (cs := #[.int .i64 0, .int .i64 0, .int .i64 0]) (t := 48) ?hr ?_; (case hd => rfl); (case hg => rfl); (case hr => first | (go_simp; done) | (go_simp; rfl)); intro gb365 hg w57 hbox hb; have n0_ := Aside0.mk (Kd.R_below (by (with_reducible repeat (first | apply Kd.R_alloc | apply Kd.R_drewN | apply Kd.R_drew)); exact HO_8.out) hb); have n1_ := Aside0.mk (below_step (by repeat (first | (with_reducible first | exact HB.out | apply below_alloc | apply pw_below_drewN | apply below_drew1) | exact HB.out)) hb); have n2_ := Aside0.mk (hbox); have n3_ := Aside0.mk ((by rw [hg]; exact (below_size (by repeat (first | (with_reducible first | exact HB.out | apply below_alloc | apply pw_below_drewN | apply below_drew1) | exact HB.out))) : w.heap.size ≤ gb365)); have n4_ := Aside0.mk ((by rw [hg]; exact (below_size (by repeat (first | (with_reducible first | exact HB.out | apply below_alloc | apply pw_below_drewN | apply below_drew1) | exact HB.out))) : w.heap.size ≤ gb365)); clear HO_8; clear HB; have HO_8 := n0_; have HB := n1_; have BK365 := n2_; have GW365 := n3_; have GE365 := n4_; clear n0_ n1_ n2_ n3_ n4_; clear hb hbox hg; have hcz58_0 : w57.cell? ⟨gb365, 0, none⟩ = some (.int .i64 0) := (blk_cell BK365.out 0).trans rfl; have hcz58_1 : w57.cell? ⟨gb365, 1, none⟩ = some (.int .i64 0) := (blk_cell BK365.out 1).trans rfl; have hcz58_2 : w57.cell? ⟨gb365, 2, none⟩ = some (.int .i64 0) := (blk_cell BK365.out 2).trans rfl; have hfz58_0 := blk_frozen BK365.out 0; have hfz58_1 := blk_frozen BK365.out 1; have hfz58_2 := blk_frozen BK365.out 2; have p366 : 0 ≤ (((rd_T48 l2 x79_2).f0) : Int) := of_decide_eq_true (by first | (with_reducible assumption) | assumption); have q366 : ((rd_T48 l2 x79_2).f0) < (x8_1.length : Int) := of_decide_eq_true (by first | (with_reducible assumption) | assumption); obtain ⟨ad366, e366, hx366_0⟩ := Kd.at_int (Kd.R_reads' HO_8.out).2.2 ((rd_T48 l2 x79_2).f0) p366 q366; obtain rfl : (⟨go7, 0, none⟩ : Addr) = ad366 := (by injection e366); (first | simp only [add_plain] at hx366_0 | simp only [add_at] at hx366_0 | simp only [Addr.add, Nat.zero_add] at hx366_0 | skip); have hn366_0 : (⟨go7, 0, none⟩ : Addr).block ≠ gb365 := Kd.own_blk (Kd.R_ne HO_8.out BK365.out (by decide)); have hn366_1 : (⟨go7, 0, none⟩ : Addr).block ≠ gb365 := Kd.own_blk (Kd.R_ne HO_8.out BK365.out (by decide)); have hn366_2 : (⟨go7, 0, none⟩ : Addr).block ≠ gb365 := Kd.own_blk (Kd.R_ne HO_8.out BK365.out (by decide)); replace hx366_0 := (cell_far (p := ⟨gb365, 0, none⟩) (by first | (rw [add_block]; exact hn366_0) | (show (Addr.add _ _).block ≠ _; rw [add_block]; exact hn366_0) | exact hn366_0) (.int .i64 ((rd_T48 l2 x79_2).f0))).trans hx366_0; replace hx366_0 := (cell_far (p := ⟨gb365, 1, none⟩) (by first | (rw [add_block]; exact hn366_1) | (show (Addr.add _ _).block ≠ _; rw [add_block]; exact hn366_1) | exact hn366_1) (.int .i64 ((rd_T48 l2 x79_2).f1))).trans hx366_0; replace hx366_0 := (cell_far (p := ⟨gb365, 2, none⟩) (by first | (rw [add_block]; exact hn366_2) | (show (Addr.add _ _).block ≠ _; rw [add_block]; exact hn366_2) | exact hn366_2) (.int .i64 ((rd_T48 l2 x79_2).f2))).trans hx366_0; (try have hy366_0 := fun (n_ : Nat) => (show (((((w57.drewN n_).setCell ⟨gb365, 0, none⟩ (.int .i64 ((rd_T48 l2 x79_2).f0))).setCell ⟨gb365, 1, none⟩ (.int .i64 ((rd_T48 l2 x79_2).f1))).setCell ⟨gb365, 2, none⟩ (.int .i64 ((rd_T48 l2 x79_2).f2)))).cell? _ = some _ from hx366_0)); clear hn366_0; clear hn366_1; clear hn366_2; replace p366 := eq_true p366; replace q366 := eq_true q366))
                            repeat (go_quiet (first | ((with_reducible refine gate_dst (N := 12) rfl ?_); refine box_event ?hg (N := 12) ?hd (cs := #[.int .i64 0, .int .i64 0, .int .i64 0]) (t := 48) ?hr ?_; (case hd => rfl); (case hg => rfl); (case hr => first | (go_simp; done) | (go_simp; rfl)); intro gb365 hg w57 hbox hb; have n0_ := Aside0.mk (Kd.R_below (by (with_reducible repeat (first | apply Kd.R_alloc | apply Kd.R_drewN | apply Kd.R_drew)); exact HO_8.out) hb); have n1_ := Aside0.mk (below_step (by repeat (first | (with_reducible first | exact HB.out | apply below_alloc | apply pw_below_drewN | apply below_drew1) | exact HB.out)) hb); have n2_ := Aside0.mk (hbox); have n3_ := Aside0.mk ((by rw [hg]; exact (below_size (by repeat (first | (with_reducible first | exact HB.out | apply below_alloc | apply pw_below_drewN | apply below_drew1) | exact HB.out))) : w.heap.size ≤ gb365)); have n4_ := Aside0.mk ((by rw [hg]; exact (below_size (by repeat (first | (with_reducible first | exact HB.out | apply below_alloc | apply pw_below_drewN | apply below_drew1) | exact HB.out))) : w.heap.size ≤ gb365)); clear HO_8; clear HB; have HO_8 := n0_; have HB := n1_; have BK365 := n2_; have GW365 := n3_; have GE365 := n4_; clear n0_ n1_ n2_ n3_ n4_; clear hb hbox hg; have hcz58_0 : w57.cell? ⟨gb365, 0, none⟩ = some (.int .i64 0) := (blk_cell BK365.out 0).trans rfl; have hcz58_1 : w57.cell? ⟨gb365, 1, none⟩ = some (.int .i64 0) := (blk_cell BK365.out 1).trans rfl; have hcz58_2 : w57.cell? ⟨gb365, 2, none⟩ = some (.int .i64 0) := (blk_cell BK365.out 2).trans rfl; have hfz58_0 := blk_frozen BK365.out 0; have hfz58_1 := blk_frozen BK365.out 1; have hfz58_2 := blk_frozen BK365.out 2; have p366 : 0 ≤ (((rd_T48 l2 x79_2).f0) : Int) := of_decide_eq_true (by first | (with_reducible assumption) | assumption); have q366 : ((rd_T48 l2 x79_2).f0) < (x8_1.length : Int) := of_decide_eq_true (by first | (with_reducible assumption) | assumption); obtain ⟨ad366, e366, hx366_0⟩ := Kd.at_int (Kd.R_reads' HO_8.out).2.2 ((rd_T48 l2 x79_2).f0) p366 q366; obtain rfl : (⟨go7, 0, none⟩ : Addr) = ad366 := (by injection e366); (first | simp only [add_plain] at hx366_0 | simp only [add_at] at hx366_0 | simp only [Addr.add, Nat.zero_add] at hx366_0 | skip); have hn366_0 : (⟨go7, 0, none⟩ : Addr).block ≠ gb365 := Kd.own_blk (Kd.R_ne HO_8.out BK365.out (by decide)); have hn366_1 : (⟨go7, 0, none⟩ : Addr).block ≠ gb365 := Kd.own_blk (Kd.R_ne HO_8.out BK365.out (by decide)); have hn366_2 : (⟨go7, 0, none⟩ : Addr).block ≠ gb365 := Kd.own_blk (Kd.R_ne HO_8.out BK365.out (by decide)); replace hx366_0 := (cell_far (p := ⟨gb365, 0, none⟩) (by first | (rw [add_block]; exact hn366_0) | (show (Addr.add _ _).block ≠ _; rw [add_block]; exact hn366_0) | exact hn366_0) (.int .i64 ((rd_T48 l2 x79_2).f0))).trans hx366_0; replace hx366_0 := (cell_far (p := ⟨gb365, 1, none⟩) (by first | (rw [add_block]; exact hn366_1) | (show (Addr.add _ _).block ≠ _; rw [add_block]; exact hn366_1) | exact hn366_1) (.int .i64 ((rd_T48 l2 x79_2).f1))).trans hx366_0; replace hx366_0 := (cell_far (p := ⟨gb365, 2, none⟩) (by first | (rw [add_block]; exact hn366_2) | (show (Addr.add _ _).block ≠ _; rw [add_block]; exact hn366_2) | exact hn366_2) (.int .i64 ((rd_T48 l2 x79_2).f2))).trans hx366_0; (try have hy366_0 := fun (n_ : Nat) => (show (((((w57.drewN n_).setCell ⟨gb365, 0, none⟩ (.int .i64 ((rd_T48 l2 x79_2).f0))).setCell ⟨gb365, 1, none⟩ (.int .i64 ((rd_T48 l2 x79_2).f1))).setCell ⟨gb365, 2, none⟩ (.int .i64 ((rd_T48 l2 x79_2).f2)))).cell? _ = some _ from hx366_0)); clear hn366_0; clear hn366_1; clear hn366_2; replace p366 := eq_true p366; replace q366 := eq_true q366)); try go_wp2_with (first | ((with_reducible refine gate_dst (N := 12) rfl ?_); refine box_event ?hg (N := 12) ?hd (cs := #[.int .i64 0, .int .i64 0, .int .i64 0]) (t := 48) ?hr ?_; (case hd => rfl); (case hg => rfl); (case hr => first | (go_simp; done) | (go_simp; rfl)); intro gb365 hg w57 hbox hb; have n0_ := Aside0.mk (Kd.R_below (by (with_reducible repeat (first | apply Kd.R_alloc | apply Kd.R_drewN | apply Kd.R_drew)); exact HO_8.out) hb); have n1_ := Aside0.mk (below_step (by repeat (first | (with_reducible first | exact HB.out | apply below_alloc | apply pw_below_drewN | apply below_drew1) | exact HB.out)) hb); have n2_ := Aside0.mk (hbox); have n3_ := Aside0.mk ((by rw [hg]; exact (below_size (by repeat (first | (with_reducible first | exact HB.out | apply below_alloc | apply pw_below_drewN | apply below_drew1) | exact HB.out))) : w.heap.size ≤ gb365)); have n4_ := Aside0.mk ((by rw [hg]; exact (below_size (by repeat (first | (with_reducible first | exact HB.out | apply below_alloc | apply pw_below_drewN | apply below_drew1) | exact HB.out))) : w.heap.size ≤ gb365)); clear HO_8; clear HB; have HO_8 := n0_; have HB := n1_; have BK365 := n2_; have GW365 := n3_; have GE365 := n4_; clear n0_ n1_ n2_ n3_ n4_; clear hb hbox hg; have hcz58_0 : w57.cell? ⟨gb365, 0, none⟩ = some (.int .i64 0) := (blk_cell BK365.out 0).trans rfl; have hcz58_1 : w57.cell? ⟨gb365, 1, none⟩ = some (.int .i64 0) := (blk_cell BK365.out 1).trans rfl; have hcz58_2 : w57.cell? ⟨gb365, 2, none⟩ = some (.int .i64 0) := (blk_cell BK365.out 2).trans rfl; have hfz58_0 := blk_frozen BK365.out 0; have hfz58_1 := blk_frozen BK365.out 1; have hfz58_2 := blk_frozen BK365.out 2; have p366 : 0 ≤ (((rd_T48 l2 x79_2).f0) : Int) := of_decide_eq_true (by first | (with_reducible assumption) | assumption); have q366 : ((rd_T48 l2 x79_2).f0) < (x8_1.length : Int) := of_decide_eq_true (by first | (with_reducible assumption) | assumption); obtain ⟨ad366, e366, hx366_0⟩ := Kd.at_int (Kd.R_reads' HO_8.out).2.2 ((rd_T48 l2 x79_2).f0) p366 q366; obtain rfl : (⟨go7, 0, none⟩ : Addr) = ad366 := (by injection e366); (first | simp only [add_plain] at hx366_0 | simp only [add_at] at hx366_0 | simp only [Addr.add, Nat.zero_add] at hx366_0 | skip); have hn366_0 : (⟨go7, 0, none⟩ : Addr).block ≠ gb365 := Kd.own_blk (Kd.R_ne HO_8.out BK365.out (by decide)); have hn366_1 : (⟨go7, 0, none⟩ : Addr).block ≠ gb365 := Kd.own_blk (Kd.R_ne HO_8.out BK365.out (by decide)); have hn366_2 : (⟨go7, 0, none⟩ : Addr).block ≠ gb365 := Kd.own_blk (Kd.R_ne HO_8.out BK365.out (by decide)); replace hx366_0 := (cell_far (p := ⟨gb365, 0, none⟩) (by first | (rw [add_block]; exact hn366_0) | (show (Addr.add _ _).block ≠ _; rw [add_block]; exact hn366_0) | exact hn366_0) (.int .i64 ((rd_T48 l2 x79_2).f0))).trans hx366_0; replace hx366_0 := (cell_far (p := ⟨gb365, 1, none⟩) (by first | (rw [add_block]; exact hn366_1) | (show (Addr.add _ _).block ≠ _; rw [add_block]; exact hn366_1) | exact hn366_1) (.int .i64 ((rd_T48 l2 x79_2).f1))).trans hx366_0; replace hx366_0 := (cell_far (p := ⟨gb365, 2, none⟩) (by first | (rw [add_block]; exact hn366_2) | (show (Addr.add _ _).block ≠ _; rw [add_block]; exact hn366_2) | exact hn366_2) (.int .i64 ((rd_T48 l2 x79_2).f2))).trans hx366_0; (try have hy366_0 := fun (n_ : Nat) => (show (((((w57.drewN n_).setCell ⟨gb365, 0, none⟩ (.int .i64 ((rd_T48 l2 x79_2).f0))).setCell ⟨gb365, 1, none⟩ (.int .i64 ((rd_T48 l2 x79_2).f1))).setCell ⟨gb365, 2, none⟩ (.int .i64 ((rd_T48 l2 x79_2).f2)))).cell? _ = some _ from hx366_0)); clear hn366_0; clear hn366_1; clear hn366_2; replace p366 := eq_true p366; replace q366 := eq_true q366)))
                            go_ret2
                            exact ⟨_, by first | rfl | (simp [errW_none, errW_some] <;> rfl) | (simp [*, errW_none, errW_some] <;> rfl), by first | exact Kd.R_nil _ _ _ _ _ | exact Kd.N_nil _ _ _ _ _ | exact Kd.V_nil _ _ _ _ _ | exact Kd.Q_nil _ _ _ _ _ | exact Kd.S_nil _ _ _ _ _, by repeat (first | (with_reducible first | exact HB.out | apply below_alloc | apply pw_below_drewN | apply below_drew1 | refine below_set ?_ GE365.out) | exact HB.out)⟩
                          · rw [if_neg c56] at H
                            have c56b0 : decide ((rd x8_1 ((rd_T48 l2 x79_2).f0)) < 0) = false := decide_eq_false c56
                            clear c56
                            by_cases c59 : (rd x8_1 ((rd_T48 l2 x79_2).f0)) > ((rd_T48 l2 x79_2).f2)
                            · rw [if_pos c59] at H
                              have c59b0 : decide (((rd_T48 l2 x79_2).f2) < (rd x8_1 ((rd_T48 l2 x79_2).f0))) = true := decide_eq_true c59
                              clear c59
                              simp only [Option.some.injEq, Prod.mk.injEq] at H
                              obtain ⟨rfl, rfl⟩ := H
                              have p364 : 0 ≤ (x79_2 : Int) := of_decide_eq_true (by first | (with_reducible assumption) | assumption)
                              have q364 : x79_2 < (l2.length : Int) := of_decide_eq_true (by first | (with_reducible assumption) | assumption)
                              obtain ⟨ad364, e364, hx364_0, hx364_1, hx364_2⟩ := at_T48 HR2.out x79_2 p364 q364
                              cases e364
                              replace hx364_0 := (HB.out.cell (World.block_lt_of_cell? w _ hx364_0)).trans hx364_0
                              replace hx364_1 := (HB.out.cell (World.block_lt_of_cell? w _ hx364_1)).trans hx364_1
                              replace hx364_2 := (HB.out.cell (World.block_lt_of_cell? w _ hx364_2)).trans hx364_2
                              replace p364 := eq_true p364
                              replace q364 := eq_true q364
                              go_wp2_with (first | ((with_reducible refine gate_dst (N := 12) rfl ?_); refine box_event ?hg (N := 12) ?hd (cs := #[.int .i64 0, .int .i64 0, .int .i64 0]) (t := 48) ?hr ?_; (case hd => rfl); (case hg => rfl); (case hr => first | (go_simp; done) | (go_simp; rfl)); intro gb365 hg w60 hbox hb; have n0_ := Aside0.mk (Kd.R_below (by (with_reducible repeat (first | apply Kd.R_alloc | apply Kd.R_drewN | apply Kd.R_drew)); exact HO_8.out) hb); have n1_ := Aside0.mk (below_step (by repeat (first | (with_reducible first | exact HB.out | apply below_alloc | apply pw_below_drewN | apply below_drew1) | exact HB.out)) hb); have n2_ := Aside0.mk (hbox); have n3_ := Aside0.mk ((by rw [hg]; exact (below_size (by repeat (first | (with_reducible first | exact HB.out | apply below_alloc | apply pw_below_drewN | apply below_drew1) | exact HB.out))) : w.heap.size ≤ gb365)); have n4_ := Aside0.mk ((by rw [hg]; exact (below_size (by repeat (first | (with_reducible first | exact HB.out | apply below_alloc | apply pw_below_drewN | apply below_drew1) | exact HB.out))) : w.heap.size ≤ gb365)); clear HO_8; clear HB; have HO_8 := n0_; have HB := n1_; have BK365 := n2_; have GW365 := n3_; have GE365 := n4_; clear n0_ n1_ n2_ n3_ n4_; clear hb hbox hg; have hcz61_0 : w60.cell? ⟨gb365, 0, none⟩ = some (.int .i64 0) := (blk_cell BK365.out 0).trans rfl; have hcz61_1 : w60.cell? ⟨gb365, 1, none⟩ = some (.int .i64 0) := (blk_cell BK365.out 1).trans rfl; have hcz61_2 : w60.cell? ⟨gb365, 2, none⟩ = some (.int .i64 0) := (blk_cell BK365.out 2).trans rfl; have hfz61_0 := blk_frozen BK365.out 0; have hfz61_1 := blk_frozen BK365.out 1; have hfz61_2 := blk_frozen BK365.out 2; have p366 : 0 ≤ (((rd_T48 l2 x79_2).f0) : Int) := of_decide_eq_true (by first | (with_reducible assumption) | assumption); have q366 : ((rd_T48 l2 x79_2).f0) < (x8_1.length : Int) := of_decide_eq_true (by first | (with_reducible assumption) | assumption); obtain ⟨ad366, e366, hx366_0⟩ := Kd.at_int (Kd.R_reads' HO_8.out).2.2 ((rd_T48 l2 x79_2).f0) p366 q366; obtain rfl : (⟨go7, 0, none⟩ : Addr) = ad366 := (by injection e366); (first | simp only [add_plain] at hx366_0 | simp only [add_at] at hx366_0 | simp only [Addr.add, Nat.zero_add] at hx366_0 | skip); have hn366_0 : (⟨go7, 0, none⟩ : Addr).block ≠ gb365 := Kd.own_blk (Kd.R_ne HO_8.out BK365.out (by decide)); have hn366_1 : (⟨go7, 0, none⟩ : Addr).block ≠ gb365 := Kd.own_blk (Kd.R_ne HO_8.out BK365.out (by decide)); have hn366_2 : (⟨go7, 0, none⟩ : Addr).block ≠ gb365 := Kd.own_blk (Kd.R_ne HO_8.out BK365.out (by decide)); replace hx366_0 := (cell_far (p := ⟨gb365, 0, none⟩) (by first | (rw [add_block]; exact hn366_0) | (show (Addr.add _ _).block ≠ _; rw [add_block]; exact hn366_0) | exact hn366_0) (.int .i64 ((rd_T48 l2 x79_2).f0))).trans hx366_0; replace hx366_0 := (cell_far (p := ⟨gb365, 1, none⟩) (by first | (rw [add_block]; exact hn366_1) | (show (Addr.add _ _).block ≠ _; rw [add_block]; exact hn366_1) | exact hn366_1) (.int .i64 ((rd_T48 l2 x79_2).f1))).trans hx366_0; replace hx366_0 := (cell_far (p := ⟨gb365, 2, none⟩) (by first | (rw [add_block]; exact hn366_2) | (show (Addr.add _ _).block ≠ _; rw [add_block]; exact hn366_2) | exact hn366_2) (.int .i64 ((rd_T48 l2 x79_2).f2))).trans hx366_0; (try have hy366_0 := fun (n_ : Nat) => (show (((((w60.drewN n_).setCell ⟨gb365, 0, none⟩ (.int .i64 ((rd_T48 l2 x79_2).f0))).setCell ⟨gb365, 1, none⟩ (.int .i64 ((rd_T48 l2 x79_2).f1))).setCell ⟨gb365, 2, none⟩ (.int .i64 ((rd_T48 l2 x79_2).f2)))).cell? _ = some _ from hx366_0)); clear hn366_0; clear hn366_1; clear hn366_2; replace p366 := eq_true p366; replace q366 := eq_true q366; have p367 : 0 ≤ (((rd_T48 l2 x79_2).f0) : Int) := of_decide_eq_true (by first | (with_reducible assumption) | assumption); have q367 : ((rd_T48 l2 x79_2).f0) < (x8_1.length : Int) := of_decide_eq_true (by first | (with_reducible assumption) | assumption); obtain ⟨ad367, e367, hx367_0⟩ := Kd.at_int (Kd.R_reads' HO_8.out).2.2 ((rd_T48 l2 x79_2).f0) p367 q367; obtain rfl : (⟨go7, 0, none⟩ : Addr) = ad367 := (by injection e367); (first | simp only [add_plain] at hx367_0 | simp only [add_at] at hx367_0 | simp only [Addr.add, Nat.zero_add] at hx367_0 | skip); have hn367_0 : (⟨go7, 0, none⟩ : Addr).block ≠ gb365 := Kd.own_blk (Kd.R_ne HO_8.out BK365.out (by decide)); have hn367_1 : (⟨go7, 0, none⟩ : Addr).block ≠ gb365 := Kd.own_blk (Kd.R_ne HO_8.out BK365.out (by decide)); have hn367_2 : (⟨go7, 0, none⟩ : Addr).block ≠ gb365 := Kd.own_blk (Kd.R_ne HO_8.out BK365.out (by decide)); replace hx367_0 := (cell_far (p := ⟨gb365, 0, none⟩) (by first | (rw [add_block]; exact hn367_0) | (show (Addr.add _ _).block ≠ _; rw [add_block]; exact hn367_0) | exact hn367_0) (.int .i64 ((rd_T48 l2 x79_2).f0))).trans hx367_0; replace hx367_0 := (cell_far (p := ⟨gb365, 1, none⟩) (by first | (rw [add_block]; exact hn367_1) | (show (Addr.add _ _).block ≠ _; rw [add_block]; exact hn367_1) | exact hn367_1) (.int .i64 ((rd_T48 l2 x79_2).f1))).trans hx367_0; replace hx367_0 := (cell_far (p := ⟨gb365, 2, none⟩) (by first | (rw [add_block]; exact hn367_2) | (show (Addr.add _ _).block ≠ _; rw [add_block]; exact hn367_2) | exact hn367_2) (.int .i64 ((rd_T48 l2 x79_2).f2))).trans hx367_0; (try have hy367_0 := fun (n_ : Nat) => (show (((((w60.drewN n_).setCell ⟨gb365, 0, none⟩ (.int .i64 ((rd_T48 l2 x79_2).f0))).setCell ⟨gb365, 1, none⟩ (.int .i64 ((rd_T48 l2 x79_2).f1))).setCell ⟨gb365, 2, none⟩ (.int .i64 ((rd_T48 l2 x79_2).f2)))).cell? _ = some _ from hx367_0)); clear hn367_0; clear hn367_1; clear hn367_2; replace p367 := eq_true p367; replace q367 := eq_true q367))
                              repeat (go_quiet (first | ((with_reducible refine gate_dst (N := 12) rfl ?_); refine box_event ?hg (N := 12) ?hd (cs := #[.int .i64 0, .int .i64 0, .int .i64 0]) (t := 48) ?hr ?_; (case hd => rfl); (case hg => rfl); (case hr => first | (go_simp; done) | (go_simp; rfl)); intro gb365 hg w60 hbox hb; have n0_ := Aside0.mk (Kd.R_below (by (with_reducible repeat (first | apply Kd.R_alloc | apply Kd.R_drewN | apply Kd.R_drew)); exact HO_8.out) hb); have n1_ := Aside0.mk (below_step (by repeat (first | (with_reducible first | exact HB.out | apply below_alloc | apply pw_below_drewN | apply below_drew1) | exact HB.out)) hb); have n2_ := Aside0.mk (hbox); have n3_ := Aside0.mk ((by rw [hg]; exact (below_size (by repeat (first | (with_reducible first | exact HB.out | apply below_alloc | apply pw_below_drewN | apply below_drew1) | exact HB.out))) : w.heap.size ≤ gb365)); have n4_ := Aside0.mk ((by rw [hg]; exact (below_size (by repeat (first | (with_reducible first | exact HB.out | apply below_alloc | apply pw_below_drewN | apply below_drew1) | exact HB.out))) : w.heap.size ≤ gb365)); clear HO_8; clear HB; have HO_8 := n0_; have HB := n1_; have BK365 := n2_; have GW365 := n3_; have GE365 := n4_; clear n0_ n1_ n2_ n3_ n4_; clear hb hbox hg; have hcz61_0 : w60.cell? ⟨gb365, 0, none⟩ = some (.int .i64 0) := (blk_cell BK365.out 0).trans rfl; have hcz61_1 : w60.cell? ⟨gb365, 1, none⟩ = some (.int .i64 0) := (blk_cell BK365.out 1).trans rfl; have hcz61_2 : w60.cell? ⟨gb365, 2, none⟩ = some (.int .i64 0) := (blk_cell BK365.out 2).trans rfl; have hfz61_0 := blk_frozen BK365.out 0; have hfz61_1 := blk_frozen BK365.out 1; have hfz61_2 := blk_frozen BK365.out 2; have p366 : 0 ≤ (((rd_T48 l2 x79_2).f0) : Int) := of_decide_eq_true (by first | (with_reducible assumption) | assumption); have q366 : ((rd_T48 l2 x79_2).f0) < (x8_1.length : Int) := of_decide_eq_true (by first | (with_reducible assumption) | assumption); obtain ⟨ad366, e366, hx366_0⟩ := Kd.at_int (Kd.R_reads' HO_8.out).2.2 ((rd_T48 l2 x79_2).f0) p366 q366; obtain rfl : (⟨go7, 0, none⟩ : Addr) = ad366 := (by injection e366); (first | simp only [add_plain] at hx366_0 | simp only [add_at] at hx366_0 | simp only [Addr.add, Nat.zero_add] at hx366_0 | skip); have hn366_0 : (⟨go7, 0, none⟩ : Addr).block ≠ gb365 := Kd.own_blk (Kd.R_ne HO_8.out BK365.out (by decide)); have hn366_1 : (⟨go7, 0, none⟩ : Addr).block ≠ gb365 := Kd.own_blk (Kd.R_ne HO_8.out BK365.out (by decide)); have hn366_2 : (⟨go7, 0, none⟩ : Addr).block ≠ gb365 := Kd.own_blk (Kd.R_ne HO_8.out BK365.out (by decide)); replace hx366_0 := (cell_far (p := ⟨gb365, 0, none⟩) (by first | (rw [add_block]; exact hn366_0) | (show (Addr.add _ _).block ≠ _; rw [add_block]; exact hn366_0) | exact hn366_0) (.int .i64 ((rd_T48 l2 x79_2).f0))).trans hx366_0; replace hx366_0 := (cell_far (p := ⟨gb365, 1, none⟩) (by first | (rw [add_block]; exact hn366_1) | (show (Addr.add _ _).block ≠ _; rw [add_block]; exact hn366_1) | exact hn366_1) (.int .i64 ((rd_T48 l2 x79_2).f1))).trans hx366_0; replace hx366_0 := (cell_far (p := ⟨gb365, 2, none⟩) (by first | (rw [add_block]; exact hn366_2) | (show (Addr.add _ _).block ≠ _; rw [add_block]; exact hn366_2) | exact hn366_2) (.int .i64 ((rd_T48 l2 x79_2).f2))).trans hx366_0; (try have hy366_0 := fun (n_ : Nat) => (show (((((w60.drewN n_).setCell ⟨gb365, 0, none⟩ (.int .i64 ((rd_T48 l2 x79_2).f0))).setCell ⟨gb365, 1, none⟩ (.int .i64 ((rd_T48 l2 x79_2).f1))).setCell ⟨gb365, 2, none⟩ (.int .i64 ((rd_T48 l2 x79_2).f2)))).cell? _ = some _ from hx366_0)); clear hn366_0; clear hn366_1; clear hn366_2; replace p366 := eq_true p366; replace q366 := eq_true q366; have p367 : 0 ≤ (((rd_T48 l2 x79_2).f0) : Int) := of_decide_eq_true (by first | (with_reducible assumption) | assumption); have q367 : ((rd_T48 l2 x79_2).f0) < (x8_1.length : Int) := of_decide_eq_true (by first | (with_reducible assumption) | assumption); obtain ⟨ad367, e367, hx367_0⟩ := Kd.at_int (Kd.R_reads' HO_8.out).2.2 ((rd_T48 l2 x79_2).f0) p367 q367; obtain rfl : (⟨go7, 0, none⟩ : Addr) = ad367 := (by injection e367); (first | simp only [add_plain] at hx367_0 | simp only [add_at] at hx367_0 | simp only [Addr.add, Nat.zero_add] at hx367_0 | skip); have hn367_0 : (⟨go7, 0, none⟩ : Addr).block ≠ gb365 := Kd.own_blk (Kd.R_ne HO_8.out BK365.out (by decide)); have hn367_1 : (⟨go7, 0, none⟩ : Addr).block ≠ gb365 := Kd.own_blk (Kd.R_ne HO_8.out BK365.out (by decide)); have hn367_2 : (⟨go7, 0, none⟩ : Addr).block ≠ gb365 := Kd.own_blk (Kd.R_ne HO_8.out BK365.out (by decide)); replace hx367_0 := (cell_far (p := ⟨gb365, 0, none⟩) (by first | (rw [add_block]; exact hn367_0) | (show (Addr.add _ _).block ≠ _; rw [add_block]; exact hn367_0) | exact hn367_0) (.int .i64 ((rd_T48 l2 x79_2).f0))).trans hx367_0; replace hx367_0 := (cell_far (p := ⟨gb365, 1, none⟩) (by first | (rw [add_block]; exact hn367_1) | (show (Addr.add _ _).block ≠ _; rw [add_block]; exact hn367_1) | exact hn367_1) (.int .i64 ((rd_T48 l2 x79_2).f1))).trans hx367_0; replace hx367_0 := (cell_far (p := ⟨gb365, 2, none⟩) (by first | (rw [add_block]; exact hn367_2) | (show (Addr.add _ _).block ≠ _; rw [add_block]; exact hn367_2) | exact hn367_2) (.int .i64 ((rd_T48 l2 x79_2).f2))).trans hx367_0; (try have hy367_0 := fun (n_ : Nat) => (show (((((w60.drewN n_).setCell ⟨gb365, 0, none⟩ (.int .i64 ((rd_T48 l2 x79_2).f0))).setCell ⟨gb365, 1, none⟩ (.int .i64 ((rd_T48 l2 x79_2).f1))).setCell ⟨gb365, 2, none⟩ (.int .i64 ((rd_T48 l2 x79_2).f2)))).cell? _ = some _ from hx367_0)); clear hn367_0; clear hn367_1; clear hn367_2; replace p367 := eq_true p367; replace q367 := eq_true q367)); try go_wp2_with (first | ((with_reducible refine gate_dst (N := 12) rfl ?_); refine box_event ?hg (N := 12) ?hd (cs := #[.int .i64 0, .int .i64 0, .int .i64 0]) (t := 48) ?hr ?_; (case hd => rfl); (case hg => rfl); (case hr => first | (go_simp; done) | (go_simp; rfl)); intro gb365 hg w60 hbox hb; have n0_ := Aside0.mk (Kd.R_below (by (with_reducible repeat (first | apply Kd.R_alloc | apply Kd.R_drewN | apply Kd.R_drew)); exact HO_8.out) hb); have n1_ := Aside0.mk (below_step (by repeat (first | (with_reducible first | exact HB.out | apply below_alloc | apply pw_below_drewN | apply below_drew1) | exact HB.out)) hb); have n2_ := Aside0.mk (hbox); have n3_ := Aside0.mk ((by rw [hg]; exact (below_size (by repeat (first | (with_reducible first | exact HB.out | apply below_alloc | apply pw_below_drewN | apply below_drew1) | exact HB.out))) : w.heap.size ≤ gb365)); have n4_ := Aside0.mk ((by rw [hg]; exact (below_size (by repeat (first | (with_reducible first | exact HB.out | apply below_alloc | apply pw_below_drewN | apply below_drew1) | exact HB.out))) : w.heap.size ≤ gb365)); clear HO_8; clear HB; have HO_8 := n0_; have HB := n1_; have BK365 := n2_; have GW365 := n3_; have GE365 := n4_; clear n0_ n1_ n2_ n3_ n4_; clear hb hbox hg; have hcz61_0 : w60.cell? ⟨gb365, 0, none⟩ = some (.int .i64 0) := (blk_cell BK365.out 0).trans rfl; have hcz61_1 : w60.cell? ⟨gb365, 1, none⟩ = some (.int .i64 0) := (blk_cell BK365.out 1).trans rfl; have hcz61_2 : w60.cell? ⟨gb365, 2, none⟩ = some (.int .i64 0) := (blk_cell BK365.out 2).trans rfl; have hfz61_0 := blk_frozen BK365.out 0; have hfz61_1 := blk_frozen BK365.out 1; have hfz61_2 := blk_frozen BK365.out 2; have p366 : 0 ≤ (((rd_T48 l2 x79_2).f0) : Int) := of_decide_eq_true (by first | (with_reducible assumption) | assumption); have q366 : ((rd_T48 l2 x79_2).f0) < (x8_1.length : Int) := of_decide_eq_true (by first | (with_reducible assumption) | assumption); obtain ⟨ad366, e366, hx366_0⟩ := Kd.at_int (Kd.R_reads' HO_8.out).2.2 ((rd_T48 l2 x79_2).f0) p366 q366; obtain rfl : (⟨go7, 0, none⟩ : Addr) = ad366 := (by injection e366); (first | simp only [add_plain] at hx366_0 | simp only [add_at] at hx366_0 | simp only [Addr.add, Nat.zero_add] at hx366_0 | skip); have hn366_0 : (⟨go7, 0, none⟩ : Addr).block ≠ gb365 := Kd.own_blk (Kd.R_ne HO_8.out BK365.out (by decide)); have hn366_1 : (⟨go7, 0, none⟩ : Addr).block ≠ gb365 := Kd.own_blk (Kd.R_ne HO_8.out BK365.out (by decide)); have hn366_2 : (⟨go7, 0, none⟩ : Addr).block ≠ gb365 := Kd.own_blk (Kd.R_ne HO_8.out BK365.out (by decide)); replace hx366_0 := (cell_far (p := ⟨gb365, 0, none⟩) (by first | (rw [add_block]; exact hn366_0) | (show (Addr.add _ _).block ≠ _; rw [add_block]; exact hn366_0) | exact hn366_0) (.int .i64 ((rd_T48 l2 x79_2).f0))).trans hx366_0; replace hx366_0 := (cell_far (p := ⟨gb365, 1, none⟩) (by first | (rw [add_block]; exact hn366_1) | (show (Addr.add _ _).block ≠ _; rw [add_block]; exact hn366_1) | exact hn366_1) (.int .i64 ((rd_T48 l2 x79_2).f1))).trans hx366_0; replace hx366_0 := (cell_far (p := ⟨gb365, 2, none⟩) (by first | (rw [add_block]; exact hn366_2) | (show (Addr.add _ _).block ≠ _; rw [add_block]; exact hn366_2) | exact hn366_2) (.int .i64 ((rd_T48 l2 x79_2).f2))).trans hx366_0; (try have hy366_0 := fun (n_ : Nat) => (show (((((w60.drewN n_).setCell ⟨gb365, 0, none⟩ (.int .i64 ((rd_T48 l2 x79_2).f0))).setCell ⟨gb365, 1, none⟩ (.int .i64 ((rd_T48 l2 x79_2).f1))).setCell ⟨gb365, 2, none⟩ (.int .i64 ((rd_T48 l2 x79_2).f2)))).cell? _ = some _ from hx366_0)); clear hn366_0; clear hn366_1; clear hn366_2; replace p366 := eq_true p366; replace q366 := eq_true q366; have p367 : 0 ≤ (((rd_T48 l2 x79_2).f0) : Int) := of_decide_eq_true (by first | (with_reducible assumption) | assumption); have q367 : ((rd_T48 l2 x79_2).f0) < (x8_1.length : Int) := of_decide_eq_true (by first | (with_reducible assumption) | assumption); obtain ⟨ad367, e367, hx367_0⟩ := Kd.at_int (Kd.R_reads' HO_8.out).2.2 ((rd_T48 l2 x79_2).f0) p367 q367; obtain rfl : (⟨go7, 0, none⟩ : Addr) = ad367 := (by injection e367); (first | simp only [add_plain] at hx367_0 | simp only [add_at] at hx367_0 | simp only [Addr.add, Nat.zero_add] at hx367_0 | skip); have hn367_0 : (⟨go7, 0, none⟩ : Addr).block ≠ gb365 := Kd.own_blk (Kd.R_ne HO_8.out BK365.out (by decide)); have hn367_1 : (⟨go7, 0, none⟩ : Addr).block ≠ gb365 := Kd.own_blk (Kd.R_ne HO_8.out BK365.out (by decide)); have hn367_2 : (⟨go7, 0, none⟩ : Addr).block ≠ gb365 := Kd.own_blk (Kd.R_ne HO_8.out BK365.out (by decide)); replace hx367_0 := (cell_far (p := ⟨gb365, 0, none⟩) (by first | (rw [add_block]; exact hn367_0) | (show (Addr.add _ _).block ≠ _; rw [add_block]; exact hn367_0) | exact hn367_0) (.int .i64 ((rd_T48 l2 x79_2).f0))).trans hx367_0; replace hx367_0 := (cell_far (p := ⟨gb365, 1, none⟩) (by first | (rw [add_block]; exact hn367_1) | (show (Addr.add _ _).block ≠ _; rw [add_block]; exact hn367_1) | exact hn367_1) (.int .i64 ((rd_T48 l2 x79_2).f1))).trans hx367_0; replace hx367_0 := (cell_far (p := ⟨gb365, 2, none⟩) (by first | (rw [add_block]; exact hn367_2) | (show (Addr.add _ _).block ≠ _; rw [add_block]; exact hn367_2) | exact hn367_2) (.int .i64 ((rd_T48 l2 x79_2).f2))).trans hx367_0; (try have hy367_0 := fun (n_ : Nat) => (show (((((w60.drewN n_).setCell ⟨gb365, 0, none⟩ (.int .i64 ((rd_T48 l2 x79_2).f0))).setCell ⟨gb365, 1, none⟩ (.int .i64 ((rd_T48 l2 x79_2).f1))).setCell ⟨gb365, 2, none⟩ (.int .i64 ((rd_T48 l2 x79_2).f2)))).cell? _ = some _ from hx367_0)); clear hn367_0; clear hn367_1; clear hn367_2; replace p367 := eq_true p367; replace q367 := eq_true q367)))
                              go_ret2
                              exact ⟨_, by first | rfl | (simp [errW_none, errW_some] <;> rfl) | (simp [*, errW_none, errW_some] <;> rfl), by first | exact Kd.R_nil _ _ _ _ _ | exact Kd.N_nil _ _ _ _ _ | exact Kd.V_nil _ _ _ _ _ | exact Kd.Q_nil _ _ _ _ _ | exact Kd.S_nil _ _ _ _ _, by repeat (first | (with_reducible first | exact HB.out | apply below_alloc | apply pw_below_drewN | apply below_drew1 | refine below_set ?_ GE365.out) | exact HB.out)⟩
                            · rw [if_neg c59] at H
                              have c59b0 : decide (((rd_T48 l2 x79_2).f2) < (rd x8_1 ((rd_T48 l2 x79_2).f0))) = false := decide_eq_false c59
                              clear c59
                              have H' := Aside0.mk H
                              clear H
                              have p364 : 0 ≤ (x79_2 : Int) := of_decide_eq_true (by first | (with_reducible assumption) | assumption)
                              have q364 : x79_2 < (l2.length : Int) := of_decide_eq_true (by first | (with_reducible assumption) | assumption)
                              obtain ⟨ad364, e364, hx364_0, hx364_1, hx364_2⟩ := at_T48 HR2.out x79_2 p364 q364
                              cases e364
                              replace hx364_0 := (HB.out.cell (World.block_lt_of_cell? w _ hx364_0)).trans hx364_0
                              replace hx364_1 := (HB.out.cell (World.block_lt_of_cell? w _ hx364_1)).trans hx364_1
                              replace hx364_2 := (HB.out.cell (World.block_lt_of_cell? w _ hx364_2)).trans hx364_2
                              replace p364 := eq_true p364
                              replace q364 := eq_true q364
                              go_wp2_with (first | ((with_reducible refine gate_dst (N := 12) rfl ?_); refine box_event ?hg (N := 12) ?hd (cs := #[.int .i64 0, .int .i64 0, .int .i64 0]) (t := 48) ?hr ?_; (case hd => rfl); (case hg => rfl); (case hr => first | (go_simp; done) | (go_simp; rfl)); intro gb365 hg w62 hbox hb; have n0_ := Aside0.mk (Kd.R_below (by (with_reducible repeat (first | apply Kd.R_alloc | apply Kd.R_drewN | apply Kd.R_drew)); exact HO_8.out) hb); have n1_ := Aside0.mk (below_step (by repeat (first | (with_reducible first | exact HB.out | apply below_alloc | apply pw_below_drewN | apply below_drew1) | exact HB.out)) hb); have n2_ := Aside0.mk (hbox); have n3_ := Aside0.mk ((by rw [hg]; exact (below_size (by repeat (first | (with_reducible first | exact HB.out | apply below_alloc | apply pw_below_drewN | apply below_drew1) | exact HB.out))) : w.heap.size ≤ gb365)); have n4_ := Aside0.mk ((by rw [hg]; exact (below_size (by repeat (first | (with_reducible first | exact HB.out | apply below_alloc | apply pw_below_drewN | apply below_drew1) | exact HB.out))) : w.heap.size ≤ gb365)); clear HO_8; clear HB; have HO_8 := n0_; have HB := n1_; have BK365 := n2_; have GW365 := n3_; have GE365 := n4_; clear n0_ n1_ n2_ n3_ n4_; clear hb hbox hg; have hcz63_0 : w62.cell? ⟨gb365, 0, none⟩ = some (.int .i64 0) := (blk_cell BK365.out 0).trans rfl; have hcz63_1 : w62.cell? ⟨gb365, 1, none⟩ = some (.int .i64 0) := (blk_cell BK365.out 1).trans rfl; have hcz63_2 : w62.cell? ⟨gb365, 2, none⟩ = some (.int .i64 0) := (blk_cell BK365.out 2).trans rfl; have hfz63_0 := blk_frozen BK365.out 0; have hfz63_1 := blk_frozen BK365.out 1; have hfz63_2 := blk_frozen BK365.out 2; have p366 : 0 ≤ (((rd_T48 l2 x79_2).f0) : Int) := of_decide_eq_true (by first | (with_reducible assumption) | assumption); have q366 : ((rd_T48 l2 x79_2).f0) < (x8_1.length : Int) := of_decide_eq_true (by first | (with_reducible assumption) | assumption); obtain ⟨ad366, e366, hx366_0⟩ := Kd.at_int (Kd.R_reads' HO_8.out).2.2 ((rd_T48 l2 x79_2).f0) p366 q366; obtain rfl : (⟨go7, 0, none⟩ : Addr) = ad366 := (by injection e366); (first | simp only [add_plain] at hx366_0 | simp only [add_at] at hx366_0 | simp only [Addr.add, Nat.zero_add] at hx366_0 | skip); have hn366_0 : (⟨go7, 0, none⟩ : Addr).block ≠ gb365 := Kd.own_blk (Kd.R_ne HO_8.out BK365.out (by decide)); have hn366_1 : (⟨go7, 0, none⟩ : Addr).block ≠ gb365 := Kd.own_blk (Kd.R_ne HO_8.out BK365.out (by decide)); have hn366_2 : (⟨go7, 0, none⟩ : Addr).block ≠ gb365 := Kd.own_blk (Kd.R_ne HO_8.out BK365.out (by decide)); replace hx366_0 := (cell_far (p := ⟨gb365, 0, none⟩) (by first | (rw [add_block]; exact hn366_0) | (show (Addr.add _ _).block ≠ _; rw [add_block]; exact hn366_0) | exact hn366_0) (.int .i64 ((rd_T48 l2 x79_2).f0))).trans hx366_0; replace hx366_0 := (cell_far (p := ⟨gb365, 1, none⟩) (by first | (rw [add_block]; exact hn366_1) | (show (Addr.add _ _).block ≠ _; rw [add_block]; exact hn366_1) | exact hn366_1) (.int .i64 ((rd_T48 l2 x79_2).f1))).trans hx366_0; replace hx366_0 := (cell_far (p := ⟨gb365, 2, none⟩) (by first | (rw [add_block]; exact hn366_2) | (show (Addr.add _ _).block ≠ _; rw [add_block]; exact hn366_2) | exact hn366_2) (.int .i64 ((rd_T48 l2 x79_2).f2))).trans hx366_0; (try have hy366_0 := fun (n_ : Nat) => (show (((((w62.drewN n_).setCell ⟨gb365, 0, none⟩ (.int .i64 ((rd_T48 l2 x79_2).f0))).setCell ⟨gb365, 1, none⟩ (.int .i64 ((rd_T48 l2 x79_2).f1))).setCell ⟨gb365, 2, none⟩ (.int .i64 ((rd_T48 l2 x79_2).f2)))).cell? _ = some _ from hx366_0)); clear hn366_0; clear hn366_1; clear hn366_2; replace p366 := eq_true p366; replace q366 := eq_true q366; have p367 : 0 ≤ (((rd_T48 l2 x79_2).f0) : Int) := of_decide_eq_true (by first | (with_reducible assumption) | assumption); have q367 : ((rd_T48 l2 x79_2).f0) < (x8_1.length : Int) := of_decide_eq_true (by first | (with_reducible assumption) | assumption); obtain ⟨ad367, e367, hx367_0⟩ := Kd.at_int (Kd.R_reads' HO_8.out).2.2 ((rd_T48 l2 x79_2).f0) p367 q367; obtain rfl : (⟨go7, 0, none⟩ : Addr) = ad367 := (by injection e367); (first | simp only [add_plain] at hx367_0 | simp only [add_at] at hx367_0 | simp only [Addr.add, Nat.zero_add] at hx367_0 | skip); have hn367_0 : (⟨go7, 0, none⟩ : Addr).block ≠ gb365 := Kd.own_blk (Kd.R_ne HO_8.out BK365.out (by decide)); have hn367_1 : (⟨go7, 0, none⟩ : Addr).block ≠ gb365 := Kd.own_blk (Kd.R_ne HO_8.out BK365.out (by decide)); have hn367_2 : (⟨go7, 0, none⟩ : Addr).block ≠ gb365 := Kd.own_blk (Kd.R_ne HO_8.out BK365.out (by decide)); replace hx367_0 := (cell_far (p := ⟨gb365, 0, none⟩) (by first | (rw [add_block]; exact hn367_0) | (show (Addr.add _ _).block ≠ _; rw [add_block]; exact hn367_0) | exact hn367_0) (.int .i64 ((rd_T48 l2 x79_2).f0))).trans hx367_0; replace hx367_0 := (cell_far (p := ⟨gb365, 1, none⟩) (by first | (rw [add_block]; exact hn367_1) | (show (Addr.add _ _).block ≠ _; rw [add_block]; exact hn367_1) | exact hn367_1) (.int .i64 ((rd_T48 l2 x79_2).f1))).trans hx367_0; replace hx367_0 := (cell_far (p := ⟨gb365, 2, none⟩) (by first | (rw [add_block]; exact hn367_2) | (show (Addr.add _ _).block ≠ _; rw [add_block]; exact hn367_2) | exact hn367_2) (.int .i64 ((rd_T48 l2 x79_2).f2))).trans hx367_0; (try have hy367_0 := fun (n_ : Nat) => (show (((((w62.drewN n_).setCell ⟨gb365, 0, none⟩ (.int .i64 ((rd_T48 l2 x79_2).f0))).setCell ⟨gb365, 1, none⟩ (.int .i64 ((rd_T48 l2 x79_2).f1))).setCell ⟨gb365, 2, none⟩ (.int .i64 ((rd_T48 l2 x79_2).f2)))).cell? _ = some _ from hx367_0)); clear hn367_0; clear hn367_1; clear hn367_2; replace p367 := eq_true p367; replace q367 := eq_true q367))
                              repeat (go_quiet (first | ((with_reducible refine gate_dst (N := 12) rfl ?_); refine box_event ?hg (N := 12) ?hd (cs := #[.int .i64 0, .int .i64 0, .int .i64 0]) (t := 48) ?hr ?_; (case hd => rfl); (case hg => rfl); (case hr => first | (go_simp; done) | (go_simp; rfl)); intro gb365 hg w62 hbox hb; have n0_ := Aside0.mk (Kd.R_below (by (with_reducible repeat (first | apply Kd.R_alloc | apply Kd.R_drewN | apply Kd.R_drew)); exact HO_8.out) hb); have n1_ := Aside0.mk (below_step (by repeat (first | (with_reducible first | exact HB.out | apply below_alloc | apply pw_below_drewN | apply below_drew1) | exact HB.out)) hb); have n2_ := Aside0.mk (hbox); have n3_ := Aside0.mk ((by rw [hg]; exact (below_size (by repeat (first | (with_reducible first | exact HB.out | apply below_alloc | apply pw_below_drewN | apply below_drew1) | exact HB.out))) : w.heap.size ≤ gb365)); have n4_ := Aside0.mk ((by rw [hg]; exact (below_size (by repeat (first | (with_reducible first | exact HB.out | apply below_alloc | apply pw_below_drewN | apply below_drew1) | exact HB.out))) : w.heap.size ≤ gb365)); clear HO_8; clear HB; have HO_8 := n0_; have HB := n1_; have BK365 := n2_; have GW365 := n3_; have GE365 := n4_; clear n0_ n1_ n2_ n3_ n4_; clear hb hbox hg; have hcz63_0 : w62.cell? ⟨gb365, 0, none⟩ = some (.int .i64 0) := (blk_cell BK365.out 0).trans rfl; have hcz63_1 : w62.cell? ⟨gb365, 1, none⟩ = some (.int .i64 0) := (blk_cell BK365.out 1).trans rfl; have hcz63_2 : w62.cell? ⟨gb365, 2, none⟩ = some (.int .i64 0) := (blk_cell BK365.out 2).trans rfl; have hfz63_0 := blk_frozen BK365.out 0; have hfz63_1 := blk_frozen BK365.out 1; have hfz63_2 := blk_frozen BK365.out 2; have p366 : 0 ≤ (((rd_T48 l2 x79_2).f0) : Int) := of_decide_eq_true (by first | (with_reducible assumption) | assumption); have q366 : ((rd_T48 l2 x79_2).f0) < (x8_1.length : Int) := of_decide_eq_true (by first | (with_reducible assumption) | assumption); obtain ⟨ad366, e366, hx366_0⟩ := Kd.at_int (Kd.R_reads' HO_8.out).2.2 ((rd_T48 l2 x79_2).f0) p366 q366; obtain rfl : (⟨go7, 0, none⟩ : Addr) = ad366 := (by injection e366); (first | simp only [add_plain] at hx366_0 | simp only [add_at] at hx366_0 | simp only [Addr.add, Nat.zero_add] at hx366_0 | skip); have hn366_0 : (⟨go7, 0, none⟩ : Addr).block ≠ gb365 := Kd.own_blk (Kd.R_ne HO_8.out BK365.out (by decide)); have hn366_1 : (⟨go7, 0, none⟩ : Addr).block ≠ gb365 := Kd.own_blk (Kd.R_ne HO_8.out BK365.out (by decide)); have hn366_2 : (⟨go7, 0, none⟩ : Addr).block ≠ gb365 := Kd.own_blk (Kd.R_ne HO_8.out BK365.out (by decide)); replace hx366_0 := (cell_far (p := ⟨gb365, 0, none⟩) (by first | (rw [add_block]; exact hn366_0) | (show (Addr.add _ _).block ≠ _; rw [add_block]; exact hn366_0) | exact hn366_0) (.int .i64 ((rd_T48 l2 x79_2).f0))).trans hx366_0; replace hx366_0 := (cell_far (p := ⟨gb365, 1, none⟩) (by first | (rw [add_block]; exact hn366_1) | (show (Addr.add _ _).block ≠ _; rw [add_block]; exact hn366_1) | exact hn366_1) (.int .i64 ((rd_T48 l2 x79_2).f1))).trans hx366_0; replace hx366_0 := (cell_far (p := ⟨gb365, 2, none⟩) (by first | (rw [add_block]; exact hn366_2) | (show (Addr.add _ _).block ≠ _; rw [add_block]; exact hn366_2) | exact hn366_2) (.int .i64 ((rd_T48 l2 x79_2).f2))).trans hx366_0; (try have hy366_0 := fun (n_ : Nat) => (show (((((w62.drewN n_).setCell ⟨gb365, 0, none⟩ (.int .i64 ((rd_T48 l2 x79_2).f0))).setCell ⟨gb365, 1, none⟩ (.int .i64 ((rd_T48 l2 x79_2).f1))).setCell ⟨gb365, 2, none⟩ (.int .i64 ((rd_T48 l2 x79_2).f2)))).cell? _ = some _ from hx366_0)); clear hn366_0; clear hn366_1; clear hn366_2; replace p366 := eq_true p366; replace q366 := eq_true q366; have p367 : 0 ≤ (((rd_T48 l2 x79_2).f0) : Int) := of_decide_eq_true (by first | (with_reducible assumption) | assumption); have q367 : ((rd_T48 l2 x79_2).f0) < (x8_1.length : Int) := of_decide_eq_true (by first | (with_reducible assumption) | assumption); obtain ⟨ad367, e367, hx367_0⟩ := Kd.at_int (Kd.R_reads' HO_8.out).2.2 ((rd_T48 l2 x79_2).f0) p367 q367; obtain rfl : (⟨go7, 0, none⟩ : Addr) = ad367 := (by injection e367); (first | simp only [add_plain] at hx367_0 | simp only [add_at] at hx367_0 | simp only [Addr.add, Nat.zero_add] at hx367_0 | skip); have hn367_0 : (⟨go7, 0, none⟩ : Addr).block ≠ gb365 := Kd.own_blk (Kd.R_ne HO_8.out BK365.out (by decide)); have hn367_1 : (⟨go7, 0, none⟩ : Addr).block ≠ gb365 := Kd.own_blk (Kd.R_ne HO_8.out BK365.out (by decide)); have hn367_2 : (⟨go7, 0, none⟩ : Addr).block ≠ gb365 := Kd.own_blk (Kd.R_ne HO_8.out BK365.out (by decide)); replace hx367_0 := (cell_far (p := ⟨gb365, 0, none⟩) (by first | (rw [add_block]; exact hn367_0) | (show (Addr.add _ _).block ≠ _; rw [add_block]; exact hn367_0) | exact hn367_0) (.int .i64 ((rd_T48 l2 x79_2).f0))).trans hx367_0; replace hx367_0 := (cell_far (p := ⟨gb365, 1, none⟩) (by first | (rw [add_block]; exact hn367_1) | (show (Addr.add _ _).block ≠ _; rw [add_block]; exact hn367_1) | exact hn367_1) (.int .i64 ((rd_T48 l2 x79_2).f1))).trans hx367_0; replace hx367_0 := (cell_far (p := ⟨gb365, 2, none⟩) (by first | (rw [add_block]; exact hn367_2) | (show (Addr.add _ _).block ≠ _; rw [add_block]; exact hn367_2) | exact hn367_2) (.int .i64 ((rd_T48 l2 x79_2).f2))).trans hx367_0; (try have hy367_0 := fun (n_ : Nat) => (show (((((w62.drewN n_).setCell ⟨gb365, 0, none⟩ (.int .i64 ((rd_T48 l2 x79_2).f0))).setCell ⟨gb365, 1, none⟩ (.int .i64 ((rd_T48 l2 x79_2).f1))).setCell ⟨gb365, 2, none⟩ (.int .i64 ((rd_T48 l2 x79_2).f2)))).cell? _ = some _ from hx367_0)); clear hn367_0; clear hn367_1; clear hn367_2; replace p367 := eq_true p367; replace q367 := eq_true q367)); try go_wp2_with (first | ((with_reducible refine gate_dst (N := 12) rfl ?_); refine box_event ?hg (N := 12) ?hd (cs := #[.int .i64 0, .int .i64 0, .int .i64 0]) (t := 48) ?hr ?_; (case hd => rfl); (case hg => rfl); (case hr => first | (go_simp; done) | (go_simp; rfl)); intro gb365 hg w62 hbox hb; have n0_ := Aside0.mk (Kd.R_below (by (with_reducible repeat (first | apply Kd.R_alloc | apply Kd.R_drewN | apply Kd.R_drew)); exact HO_8.out) hb); have n1_ := Aside0.mk (below_step (by repeat (first | (with_reducible first | exact HB.out | apply below_alloc | apply pw_below_drewN | apply below_drew1) | exact HB.out)) hb); have n2_ := Aside0.mk (hbox); have n3_ := Aside0.mk ((by rw [hg]; exact (below_size (by repeat (first | (with_reducible first | exact HB.out | apply below_alloc | apply pw_below_drewN | apply below_drew1) | exact HB.out))) : w.heap.size ≤ gb365)); have n4_ := Aside0.mk ((by rw [hg]; exact (below_size (by repeat (first | (with_reducible first | exact HB.out | apply below_alloc | apply pw_below_drewN | apply below_drew1) | exact HB.out))) : w.heap.size ≤ gb365)); clear HO_8; clear HB; have HO_8 := n0_; have HB := n1_; have BK365 := n2_; have GW365 := n3_; have GE365 := n4_; clear n0_ n1_ n2_ n3_ n4_; clear hb hbox hg; have hcz63_0 : w62.cell? ⟨gb365, 0, none⟩ = some (.int .i64 0) := (blk_cell BK365.out 0).trans rfl; have hcz63_1 : w62.cell? ⟨gb365, 1, none⟩ = some (.int .i64 0) := (blk_cell BK365.out 1).trans rfl; have hcz63_2 : w62.cell? ⟨gb365, 2, none⟩ = some (.int .i64 0) := (blk_cell BK365.out 2).trans rfl; have hfz63_0 := blk_frozen BK365.out 0; have hfz63_1 := blk_frozen BK365.out 1; have hfz63_2 := blk_frozen BK365.out 2; have p366 : 0 ≤ (((rd_T48 l2 x79_2).f0) : Int) := of_decide_eq_true (by first | (with_reducible assumption) | assumption); have q366 : ((rd_T48 l2 x79_2).f0) < (x8_1.length : Int) := of_decide_eq_true (by first | (with_reducible assumption) | assumption); obtain ⟨ad366, e366, hx366_0⟩ := Kd.at_int (Kd.R_reads' HO_8.out).2.2 ((rd_T48 l2 x79_2).f0) p366 q366; obtain rfl : (⟨go7, 0, none⟩ : Addr) = ad366 := (by injection e366); (first | simp only [add_plain] at hx366_0 | simp only [add_at] at hx366_0 | simp only [Addr.add, Nat.zero_add] at hx366_0 | skip); have hn366_0 : (⟨go7, 0, none⟩ : Addr).block ≠ gb365 := Kd.own_blk (Kd.R_ne HO_8.out BK365.out (by decide)); have hn366_1 : (⟨go7, 0, none⟩ : Addr).block ≠ gb365 := Kd.own_blk (Kd.R_ne HO_8.out BK365.out (by decide)); have hn366_2 : (⟨go7, 0, none⟩ : Addr).block ≠ gb365 := Kd.own_blk (Kd.R_ne HO_8.out BK365.out (by decide)); replace hx366_0 := (cell_far (p := ⟨gb365, 0, none⟩) (by first | (rw [add_block]; exact hn366_0) | (show (Addr.add _ _).block ≠ _; rw [add_block]; exact hn366_0) | exact hn366_0) (.int .i64 ((rd_T48 l2 x79_2).f0))).trans hx366_0; replace hx366_0 := (cell_far (p := ⟨gb365, 1, none⟩) (by first | (rw [add_block]; exact hn366_1) | (show (Addr.add _ _).block ≠ _; rw [add_block]; exact hn366_1) | exact hn366_1) (.int .i64 ((rd_T48 l2 x79_2).f1))).trans hx366_0; replace hx366_0 := (cell_far (p := ⟨gb365, 2, none⟩) (by first | (rw [add_block]; exact hn366_2) | (show (Addr.add _ _).block ≠ _; rw [add_block]; exact hn366_2) | exact hn366_2) (.int .i64 ((rd_T48 l2 x79_2).f2))).trans hx366_0; (try have hy366_0 := fun (n_ : Nat) => (show (((((w62.drewN n_).setCell ⟨gb365, 0, none⟩ (.int .i64 ((rd_T48 l2 x79_2).f0))).setCell ⟨gb365, 1, none⟩ (.int .i64 ((rd_T48 l2 x79_2).f1))).setCell ⟨gb365, 2, none⟩ (.int .i64 ((rd_T48 l2 x79_2).f2)))).cell? _ = some _ from hx366_0)); clear hn366_0; clear hn366_1; clear hn366_2; replace p366 := eq_true p366; replace q366 := eq_true q366; have p367 : 0 ≤ (((rd_T48 l2 x79_2).f0) : Int) := of_decide_eq_true (by first | (with_reducible assumption) | assumption); have q367 : ((rd_T48 l2 x79_2).f0) < (x8_1.length : Int) := of_decide_eq_true (by first | (with_reducible assumption) | assumption); obtain ⟨ad367, e367, hx367_0⟩ := Kd.at_int (Kd.R_reads' HO_8.out).2.2 ((rd_T48 l2 x79_2).f0) p367 q367; obtain rfl : (⟨go7, 0, none⟩ : Addr) = ad367 := (by injection e367); (first | simp only [add_plain] at hx367_0 | simp only [add_at] at hx367_0 | simp only [Addr.add, Nat.zero_add] at hx367_0 | skip); have hn367_0 : (⟨go7, 0, none⟩ : Addr).block ≠ gb365 := Kd.own_blk (Kd.R_ne HO_8.out BK365.out (by decide)); have hn367_1 : (⟨go7, 0, none⟩ : Addr).block ≠ gb365 := Kd.own_blk (Kd.R_ne HO_8.out BK365.out (by decide)); have hn367_2 : (⟨go7, 0, none⟩ : Addr).block ≠ gb365 := Kd.own_blk (Kd.R_ne HO_8.out BK365.out (by decide)); replace hx367_0 := (cell_far (p := ⟨gb365, 0, none⟩) (by first | (rw [add_block]; exact hn367_0) | (show (Addr.add _ _).block ≠ _; rw [add_block]; exact hn367_0) | exact hn367_0) (.int .i64 ((rd_T48 l2 x79_2).f0))).trans hx367_0; replace hx367_0 := (cell_far (p := ⟨gb365, 1, none⟩) (by first | (rw [add_block]; exact hn367_1) | (show (Addr.add _ _).block ≠ _; rw [add_block]; exact hn367_1) | exact hn367_1) (.int .i64 ((rd_T48 l2 x79_2).f1))).trans hx367_0; replace hx367_0 := (cell_far (p := ⟨gb365, 2, none⟩) (by first | (rw [add_block]; exact hn367_2) | (show (Addr.add _ _).block ≠ _; rw [add_block]; exact hn367_2) | exact hn367_2) (.int .i64 ((rd_T48 l2 x79_2).f2))).trans hx367_0; (try have hy367_0 := fun (n_ : Nat) => (show (((((w62.drewN n_).setCell ⟨gb365, 0, none⟩ (.int .i64 ((rd_T48 l2 x79_2).f0))).setCell ⟨gb365, 1, none⟩ (.int .i64 ((rd_T48 l2 x79_2).f1))).setCell ⟨gb365, 2, none⟩ (.int .i64 ((rd_T48 l2 x79_2).f2)))).cell? _ = some _ from hx367_0)); clear hn367_0; clear hn367_1; clear hn367_2; replace p367 := eq_true p367; replace q367 := eq_true q367)))
                              go_roundg k2
                              case measure => have := HK1.out; have := HK2.out; omega
                              case rel => exact ⟨(wrap64 (x79_2 + 1)), (by first | rfl | (simp; done) | (simp [*]; done)), H', ⟨by have := HK1.out; have := HK2.out; omega⟩, ⟨by (try simp only [hl8_1]); (with_reducible repeat (first | apply Kd.R_alloc | apply Kd.R_drewN | apply Kd.R_drew)); exact Kd.R_mono (Kd.R_far (p := ⟨gb365, 2, none⟩) (Kd.R_far (p := ⟨gb365, 1, none⟩) (Kd.R_far (p := ⟨gb365, 0, none⟩) (Kd.R_types HO_8.out BK365.out (by decide)) (fun _ hk => hk.2) (.int .i64 ((rd_T48 l2 x79_2).f0))) (fun _ hk => hk.2) (.int .i64 ((rd_T48 l2 x79_2).f1))) (fun _ hk => hk.2) (.int .i64 ((rd_T48 l2 x79_2).f2))) (fun _ hk => trivial)⟩, ⟨by repeat (first | (with_reducible first | exact HB.out | apply below_alloc | apply pw_below_drewN | apply below_drew1 | refine below_set ?_ GE365.out) | exact HB.out)⟩⟩
                        · rw [if_neg c55] at H
                          exact absurd H (by simp)
                      · rw [if_neg c54] at H
                        exact absurd H (by simp)
                    · rw [if_neg c53] at H
                      exact absurd H (by simp)
                  · rw [if_neg c52] at H
                    exact absurd H (by simp)
                · rw [if_neg c51] at H
                  have c51b0 : decide (x79_2 < (l2.length : Int)) = false := decide_eq_false c51
                  (try (have c51b0h := c51b0; simp only [hl8_1] at c51b0h))
                  clear c51
                  simp only [Option.some.injEq, Prod.mk.injEq] at H
                  obtain ⟨rfl, rfl⟩ := H
                  go_wp2
                  repeat (go_quiet (fail); try go_wp2)
                  go_ret2
                  exact ⟨_, by first | rfl | (simp [errW_none, errW_some] <;> rfl) | (simp [*, errW_none, errW_some] <;> rfl), by (with_reducible repeat (first | apply Kd.R_alloc | apply Kd.R_drewN | apply Kd.R_drew)); exact HO_8.out, by repeat (first | (with_reducible first | exact HB.out | apply below_alloc | apply pw_below_drewN | apply below_drew1) | exact HB.out)⟩
    · rw [if_neg c6] at H
      exact absurd H (by simp)

end Go.Proofs.Ytokkmkncplkpiaa.P
