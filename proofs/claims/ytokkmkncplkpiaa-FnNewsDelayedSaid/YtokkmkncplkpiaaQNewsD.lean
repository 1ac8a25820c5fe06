/- What is drawn for news that are delayed. -/
import Derived.Test.YtokkmkncplkpiaaQTot
import Derived.Test.YtokkmkncplkpiaaQCur
import Derived.Test.YtokkmkncplkpiaaP14
import Derived.Test.YtokkmkncplkpiaaP4
import Derived.Test.YtokkmkncplkpiaaP8
import Derived.Test.YtokkmkncplkpiaaP9
import Derived.Test.YtokkmkncplkpiaaP15
namespace Go.Proofs.Ytokkmkncplkpiaa.Q
open Go.RowKit Go.Proofs.YtokkmkncplkpiaaW.PrintWords Go.Proofs.YtokkmkncplkpiaaW.PrintLast Go.Proofs.YtokkmkncplkpiaaW.PrintMore Go.Proofs.Ytokkmkncplkpiaa.P

def dDs : List Int := [1, 2, 3, 4, 10, 11, 0]
def dMs : List Int := [0, 1, 2, 3, 5, 8, 13, 60, 61, (-1)]
def dPs : List Int := [1, 2, 3, 4, 5, 8, 100, 1000000, 1000001, 0, (-1)]
def dEs : List Int := [1, 2, 3, 4, 0, 10, 11, (-1)]
def dQs : List Int := [1, 2, 3, 4, 5, 6, 7, 8, 0, 40, 41, (-1)]
theorem drawInformedAt_ok {s : List Int} (hs : Bytes s) : ∃ d m, spec_DrawInformedAt.f s = some (d, m) ∧ d ∈ dDs ∧ m ∈ dMs := by
  obtain ⟨d, i, sd, e1, h1, h2, h3⟩ := among_ok hs 0 0 ([1, 2, 3, 4, 10, 11, 0] : List Int) (by omega) (by omega) (by decide) (by decide)
  obtain ⟨m, i2, sd2, e2, h4, h5, h6⟩ := among_ok hs i sd ([0, 1, 2, 3, 5, 8, 13, 60, 61, (-1)] : List Int) (by omega) (by omega) (by decide) (by decide)
  refine ⟨d, m, ?_, h1, h4⟩
  unfold spec_DrawInformedAt.f spec_DrawInformedAt.m
  rw [e1]; simp only [Option.bind_some]; rw [e2]; rfl
theorem drawMinutesFor_ok {s : List Int} (hs : Bytes s) : ∃ d m, spec_DrawMinutesFor.f s = some (d, m) ∧ d ∈ dDs ∧ m ∈ dPs := by
  obtain ⟨d, i, sd, e1, h1, h2, h3⟩ := among_ok hs 0 0 ([1, 2, 3, 4, 10, 11, 0] : List Int) (by omega) (by omega) (by decide) (by decide)
  obtain ⟨m, i2, sd2, e2, h4, h5, h6⟩ := among_ok hs i sd ([1, 2, 3, 4, 5, 8, 100, 1000000, 1000001, 0, (-1)] : List Int) (by omega) (by omega) (by decide) (by decide)
  refine ⟨d, m, ?_, h1, h4⟩
  unfold spec_DrawMinutesFor.f spec_DrawMinutesFor.m
  rw [e1]; simp only [Option.bind_some]; rw [e2]; rfl
theorem drawGreatestDelay_ok {s : List Int} (hs : Bytes s) : ∃ p m, spec_DrawGreatestDelay.f s = some (p, m) ∧ p ∈ dPs ∧ m ∈ dMs := by
  obtain ⟨d, p, e1, _, h1⟩ := drawMinutesFor_ok hs
  obtain ⟨d2, m, e2, _, h2⟩ := drawInformedAt_ok hs
  refine ⟨p, m, ?_, h1, h2⟩
  unfold spec_DrawGreatestDelay.f
  rw [e1]; simp only [Option.bind_some]; rw [e2]; rfl
abbrev Sd := S48
def dR (r : Int × Int × List Sd × Int × Int) : Prop := r.1 ∈ dEs ∧ r.2.1 ∈ dQs
theorem delayed_l2 {s : List Int} (hs : Bytes s) (x5 x6 : Int) (h5 : x5 ∈ dEs) (h6 : x6 ∈ dQs) (m : Nat) : ∀ (x7 : List Sd) (j : Int) (i sd : Int), 0 ≤ j → (x7.length : Int) - j = m → x7.length ≤ 100 → 0 ≤ i → i ≤ 2000000 + 10 * j →
    Tot (fun k => spec_l1Cur_delayed.l2 k x5 x6 x7 (x7.length : Int) j s i sd) dR := by
  induction m with
  | zero =>
    intro x7 j i sd hj hm hl h0 h1
    refine Tot.step (f := fun _ => some (x5, x6, x7, i, sd)) (Tot.const rfl ⟨h5, h6⟩) (fun k => ?_)
    simp only [spec_l1Cur_delayed.l2]
    rw [if_neg (by omega)]
  | succ m ih =>
    intro x7 j i sd hj hm hl h0 h1
    obtain ⟨x, i', sd', e, hx0, hx1, h2, h3⟩ := pick_ok hs i sd (x7.length : Int) h0 (by omega) (by omega) (by omega)
    have ew : wrap64 (j + 1) = j + 1 := w64 (by omega) (by omega)
    have hlen : ∀ (a b : Sd), ((x7.set j.toNat a).set x.toNat b).length = x7.length := fun a b => by simp
    refine Tot.step (f := fun k => spec_l1Cur_delayed.l2 k x5 x6 ((x7.set (j : Int).toNat (⟨(rd_T48 x7 x).f0, (rd_T48 x7 x).f1, (rd_T48 x7 x).f2⟩ : Sd)).set (x : Int).toNat (⟨(rd_T48 x7 j).f0, (rd_T48 x7 j).f1, (rd_T48 x7 j).f2⟩ : Sd)) (x7.length : Int) (wrap64 (j + 1)) s i' sd') ?_ (fun k => ?_)
    · rw [ew]
      have z := ih ((x7.set (j : Int).toNat (⟨(rd_T48 x7 x).f0, (rd_T48 x7 x).f1, (rd_T48 x7 x).f2⟩ : Sd)).set (x : Int).toNat (⟨(rd_T48 x7 j).f0, (rd_T48 x7 j).f1, (rd_T48 x7 j).f2⟩ : Sd)) (j + 1) i' sd' (by omega) (by rw [hlen]; omega) (by rw [hlen]; omega) (by omega) (by omega)
      rw [hlen] at z
      exact z
    · simp only [spec_l1Cur_delayed.l2]
      rw [if_pos (by omega), e]
      simp only [Option.bind_some]
      rw [if_pos hj, if_pos (by omega), if_pos hx0, if_pos hx1]
theorem delayed_l1 {s : List Int} (x5 x6 : Int) (x7 : List Sd) (x8 : List Int) (x9 x10 : Int) (i sd : Int) (hl7 : x7.length ≤ 100) (hl8 : x8.length ≤ 100) (P : Int × Int × List Sd × Int × Int → Prop)
    (hn : ∀ x11, Tot (fun k => spec_l1Cur_delayed.l0 k x5 x6 (x7 ++ [(⟨x10, x9, x11⟩ : Sd)]) (x8 ++ [wrap64 (x11 + x5)]) (wrap64 (x9 + 1)) s i sd) P) (m : Nat) :
    ∀ (x11 j : Int), 0 ≤ j → (x7.length : Int) - j = m → Tot (fun k => spec_l1Cur_delayed.l1 k x5 x6 x7 x8 x9 x10 x11 (x7.length : Int) j s i sd) P := by
  induction m with
  | zero =>
    intro x11 j hj hm
    refine Tot.step (hn x11) (fun k => ?_)
    simp only [spec_l1Cur_delayed.l1]
    rw [if_neg (by omega), if_pos (by omega), if_pos (by omega)]
  | succ m ih =>
    intro x11 j hj hm
    have ew : wrap64 (j + 1) = j + 1 := w64 (by omega) (by omega)
    by_cases c1 : (rd_T48 x7 j).f0 = x10 ∧ (rd_T48 x7 j).f2 ≥ x11
    · refine Tot.step (ih (wrap64 ((rd_T48 x7 j).f2 + 1)) (j + 1) (by omega) (by omega)) (fun k => ?_)
      simp only [spec_l1Cur_delayed.l1]
      rw [if_pos (by omega), if_pos hj, if_pos (by omega), if_pos c1.1, if_pos c1.2, ew]
    · refine Tot.step (ih x11 (j + 1) (by omega) (by omega)) (fun k => ?_)
      simp only [spec_l1Cur_delayed.l1]
      rw [if_pos (by omega), if_pos hj, if_pos (by omega), ew]
      by_cases c2 : (rd_T48 x7 j).f0 = x10
      · rw [if_pos c2, if_neg (fun c3 => c1 ⟨c2, c3⟩)]
      · rw [if_neg c2]
theorem delayed_end {s : List Int} (hs : Bytes s) (x5 x6 : Int) (h5 : x5 ∈ dEs) (h6 : x6 ∈ dQs) (x7 : List Sd) (x8 : List Int) (x9 i sd : Int) (hl7 : x7.length ≤ 100) (h0 : 0 ≤ i) (h1 : i ≤ 1500000) :
    Tot (fun k => spec_l1Cur_delayed.j1 k x5 x6 x7 x8 x9 false s i sd) dR := by
  obtain ⟨x, i1, sd1, e1, hx0, hx1, h2, h3⟩ := pick_ok hs i sd 10 h0 (by omega) (by omega) (by omega)
  refine Tot.round (fun k => by rw [spec_l1Cur_delayed.j1]) ?_
  refine (Tot.neg (by simp) (Tot.bindc e1 (Tot.both (fun hx => ?_) (fun hx => Tot.both (fun hx1 => ?_) (fun hx1 => ?_)))))
  · obtain ⟨a, i2, sd2, e2, _, h4, h5'⟩ := among_ok hs i1 sd1 ([0, 1, (-1), 40] : List Int) (by omega) (by omega) (by decide) (by decide)
    obtain ⟨b, i3, sd3, e3, _, h6', h7⟩ := among_ok hs i2 sd2 ([0, 1, 2, 40] : List Int) (by omega) (by omega) (by decide) (by decide)
    obtain ⟨c, i4, sd4, e4, _, h8, h9⟩ := among_ok hs i3 sd3 ([0, 1, 60, 61] : List Int) (by omega) (by omega) (by decide) (by decide)
    exact Tot.bindc e2 (Tot.bindc e3 (Tot.bindc e4 (Tot.pos (by omega) (Tot.const rfl ⟨h5, h6⟩))))
  · exact delayed_l2 hs x5 x6 h5 h6 x7.length x7 0 i1 sd1 (by omega) (by omega) hl7 (by omega) (by omega)
  · exact Tot.const rfl ⟨h5, h6⟩
theorem delayed_l0 {s : List Int} (hs : Bytes s) (x5 x6 : Int) (h5 : x5 ∈ dEs) (h6 : x6 ∈ dQs) (h68 : x6 ≤ 8) (m : Nat) : ∀ (x7 : List Sd) (x8 : List Int) (x9 i sd : Int), 1 ≤ x9 → x9 + m = 9 → (x7.length : Int) + 1 = x9 → (x8.length : Int) = x9 → 0 ≤ i → i ≤ 1000000 + 10 * x9 →
    Tot (fun k => spec_l1Cur_delayed.l0 k x5 x6 x7 x8 x9 s i sd) dR := by
  induction m with
  | zero => 
    intro x7 x8 x9 i sd h9 hm hl7 hl8 h0 h1
    refine Tot.round (fun k => by rw [spec_l1Cur_delayed.l0]) ?_
    exact (Tot.neg (by omega) (delayed_end hs x5 x6 h5 h6 x7 x8 x9 i sd (by omega) h0 (by omega)))
  | succ m ih =>
    intro x7 x8 x9 i sd h9 hm hl7 hl8 h0 h1
    refine Tot.round (fun k => by rw [spec_l1Cur_delayed.l0]) ?_
    refine (Tot.both (fun hx => ?_) (fun hx => delayed_end hs x5 x6 h5 h6 x7 x8 x9 i sd (by omega) h0 (by omega)))
    obtain ⟨b, i1, sd1, e1, h2, h3⟩ := one_ok hs i sd 12 h0 (by omega) (by omega) (by omega)
    refine Tot.bindc e1 ?_
    cases b with
    | true => exact delayed_end hs x5 x6 h5 h6 x7 x8 x9 i1 sd1 (by omega) (by omega) (by omega)
    | false =>
      obtain ⟨x, i2, sd2, e2, hx0, hx1, h4, h5'⟩ := pick_ok hs i1 sd1 x9 (by omega) (by omega) (by omega) (by omega)
      obtain ⟨y, i3, sd3, e3, hy0, hy1, h6', h7⟩ := pick_ok hs i2 sd2 3 (by omega) (by omega) (by omega) (by omega)
      refine Tot.round (fun k => by rw [spec_l1Cur_delayed.j1]) ?_
      refine (Tot.pos (by simp) (Tot.bindc e2 (Tot.neg (by show ¬ x ≥ _; omega) ?_)))
      refine Tot.round (fun k => by rw [spec_l1Cur_delayed.j2]) ?_
      refine (Tot.pos hx0 (Tot.pos (by show x < _; omega) (Tot.bindc e3 ?_)))
      refine delayed_l1 x5 x6 x7 x8 x9 x i3 sd3 (by omega) (by omega) dR (fun x11 => ?_) x7.length _ 0 (by omega) (by omega)
      have ew : wrap64 (x9 + 1) = x9 + 1 := w64 (by omega) (by omega)
      rw [ew]
      exact ih _ _ (x9 + 1) i3 sd3 (by omega) (by omega) (by simp; omega) (by simp; omega) (by omega) (by omega)
/-- every pair that is asked for quick sends -/
def okDeQuick (e q : Int) : Bool := (spec_deQuick.f 200 e q).isSome
theorem deQuick_all : ∀ e ∈ ([1, 2, 3, 4] : List Int), ∀ q ∈ ([1, 2, 3, 4, 5, 6, 7, 8] : List Int), okDeQuick e q = true := by decide +kernel
theorem Tot.of_mono {α : Type} {P : α → Prop} {g : Nat → Option α} (hm : ∀ k, LeO (g k) (g (k + 1))) (K : Nat) {r : α} (h : g K = some r) (hp : P r) : Tot g P := by
  refine ⟨r, ⟨K, fun k hk => ?_⟩, hp⟩
  induction k with
  | zero => obtain rfl : K = 0 := by omega
            exact h
  | succ k ih =>
    rcases Nat.lt_or_ge k K with z | z
    · obtain rfl : K = k + 1 := by omega
      exact h
    · exact hm k r (ih z)
theorem delayed_ok {s : List Int} (hs : Bytes s) : Tot (fun k => spec_l1Cur_delayed.f k s 0 0) dR := by
  obtain ⟨a, i1, sd1, e1, a0, a1, h1, h2⟩ := pick_ok hs 0 0 4 (by omega) (by omega) (by omega) (by omega)
  obtain ⟨b, i2, sd2, e2, b0, b1, h3, h4⟩ := pick_ok hs i1 sd1 8 (by omega) (by omega) (by omega) (by omega)
  obtain ⟨c, i3, sd3, e3, h5, h6⟩ := one_ok hs i2 sd2 14 (by omega) (by omega) (by omega) (by omega)
  have wa : wrap64 (1 + a) = 1 + a := w64 (by omega) (by omega)
  have wb : wrap64 (1 + b) = 1 + b := w64 (by omega) (by omega)
  have ma : 1 + a ∈ ([1, 2, 3, 4] : List Int) := by simp; omega
  have mb : 1 + b ∈ ([1, 2, 3, 4, 5, 6, 7, 8] : List Int) := by simp; omega
  have ma' : 1 + a ∈ dEs := by simp [dEs]; omega
  have mb' : 1 + b ∈ dQs := by simp [dQs]; omega
  unfold spec_l1Cur_delayed.f
  refine Tot.bindc e1 (Tot.bindc e2 (Tot.bindc e3 (Tot.both (fun hc => ?_) (fun hc => ?_))))
  · obtain ⟨d, i4, sd4, e4, m4, h7, h8⟩ := among_ok hs i3 sd3 ([0, 1, 10, 11, (-1)] : List Int) (by omega) (by omega) (by decide) (by decide)
    obtain ⟨p, i5, sd5, e5, m5, h9, h10⟩ := among_ok hs i4 sd4 ([0, 1, 40, 41, (-1)] : List Int) (by omega) (by omega) (by decide) (by decide)
    refine Tot.bindc e4 (Tot.bindc e5 (Tot.const rfl ⟨?_, ?_⟩))
    · simp at m4; simp [dEs]; omega
    · simp at m5; simp [dQs]; omega
  · obtain ⟨d, i4, sd4, e4, h7, h8⟩ := one_ok hs i3 sd3 3 (by omega) (by omega) (by omega) (by omega)
    refine Tot.bindc e4 (Tot.both (fun hd => ?_) (fun hd => ?_))
    · have z := deQuick_all _ ma _ mb
      obtain ⟨r, hr⟩ := Option.isSome_iff_exists.mp z
      obtain ⟨r', hr', _⟩ := Tot.of_mono (g := fun k => spec_deQuick.f k (1 + a) (1 + b)) (P := fun _ => True) (spec_deQuick.mono (1 + a) (1 + b)) 200 hr trivial
      simp only [wa, wb]
      exact Tot.bind hr' (Tot.const rfl ⟨ma', mb'⟩)
    · simp only [wa, wb]
      exact delayed_l0 hs (1 + a) (1 + b) ma' mb' (by omega) 8 _ _ 1 i4 sd4 (by omega) (by omega) (by simp) (by simp) (by omega) (by omega)
theorem drawQuickSends_ok {s : List Int} (hs : Bytes s) : ∃ e q, Ev (fun k => spec_DrawQuickSends.f k s) (e, q) ∧ e ∈ dEs ∧ q ∈ dQs := by
  obtain ⟨r, h, h1, h2⟩ := delayed_ok hs
  refine ⟨r.1, r.2.1, ?_, h1, h2⟩
  unfold spec_DrawQuickSends.f spec_DrawAreSends.f spec_DrawAreSends.m
  exact Ev.bind (Ev.bind (Ev.bind h (Ev.const rfl)) (Ev.const rfl)) (Ev.const rfl)
end Go.Proofs.Ytokkmkncplkpiaa.Q
