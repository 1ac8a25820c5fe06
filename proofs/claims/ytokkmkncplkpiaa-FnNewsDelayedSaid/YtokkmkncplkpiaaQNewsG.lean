/- FnNewsDelayed: its one statement holds at all bytes. Plain: no program. -/
import Derived.Test.YtokkmkncplkpiaaQNewsF
import Derived.Test.YtokkmkncplkpiaaGFnNewsDelayed
namespace Go.Proofs.Ytokkmkncplkpiaa.Q
open Go.RowKit Go.Proofs.YtokkmkncplkpiaaW.PrintWords Go.Proofs.YtokkmkncplkpiaaW.PrintLast Go.Proofs.YtokkmkncplkpiaaW.PrintMore Go.Proofs.Ytokkmkncplkpiaa.P Go.Proofs.Ytokkmkncplkpiaa.G

theorem bne_self' {α : Type} [BEq α] [LawfulBEq α] (x : α) : (x != x) = false := by simp
theorem news_l5 (l : List Sd) (hl : l.length ≤ 100) (h : quickOk l) : ∀ k i : Nat, l.length - i < k → i ≤ l.length → FnNewsDelayed.l5 l k (i : Int) := by
  intro k
  induction k with
  | zero => intro i h1 _; omega
  | succ k ih =>
    intro i h1 hi
    unfold FnNewsDelayed.l5
    refine ⟨fun c => ?_, fun _ => trivial⟩
    have hlt : i < l.length := by have := of_decide_eq_true c; omega
    obtain ⟨q1, q2⟩ := h i hlt
    have e1 : wrap64 ((i : Int) + 1) = ((i + 1 : Nat) : Int) := w64 (by omega) (by omega)
    have nx := ih (i + 1) (by omega) (by omega)
    rw [e1]
    refine ⟨⟨by omega, by omega⟩, ?_, fun c2 => ?_, fun _ => nx⟩
    · have : (l.getD (Int.toNat (i : Int)) z48).f1 = ((i + 1 : Nat) : Int) := by rw [Int.natCast_add]; exact q1
      rw [this]; exact bne_self' _
    · have h0 : 0 < i := by have := of_decide_eq_true c2; omega
      obtain ⟨r1, r2⟩ := q2 h0
      have e2 : wrap64 ((i : Int) - 1) = (i : Int) - 1 := w64 (by omega) (by omega)
      rw [e2]
      refine ⟨⟨by omega, by omega⟩, decide_eq_false r1, ⟨by omega, by omega⟩, fun c3 => ⟨⟨by omega, by omega⟩, decide_eq_false (r2 (eq_of_beq c3)), nx⟩, fun _ => nx⟩
theorem news_wp (l0 l1 : List Int) (hs0 : Bytes l0) (hs1 : Bytes l1) : FnNewsDelayed.wp l0 l1 := by
  obtain ⟨big, hbig⟩ : ∃ b, laws_big.f l0 l1 = some b := by
    unfold laws_big.f; split
    · exact ⟨_, rfl⟩
    · exact ⟨_, rfl⟩
  obtain ⟨d, m, hd1, hd, hm⟩ := drawInformedAt_ok hs0
  obtain ⟨all, ok, fresh, before, need, FA⟩ := newsA d m hd hm
  obtain ⟨d2, p2, hd2, hd2', hp2⟩ := drawMinutesFor_ok hs1
  obtain ⟨gp, gm, hd3, hgp, hgm⟩ := drawGreatestDelay_ok hs1
  obtain ⟨need2, three, many, less, great, five, by_, later, FB⟩ := newsB d2 p2 gp gm hd2' hp2 hgp hgm
  obtain ⟨e, q, ⟨K, hd4⟩, he, hq⟩ := drawQuickSends_ok hs1
  obtain ⟨l, seven, FC⟩ := newsC e q he hq
  replace hd4 := hd4 K (Nat.le_refl _)
  have J3 : FnNewsDelayed.j3 seven e q l := by
    refine ⟨fun h7 => ⟨_, true, true, FC.c4 h7, _, 0, true, FC.c5 h7, rfl, rfl, rfl, by decide, ?_, l.length + 1, ?_⟩, fun _ => trivial⟩
    · rw [FC.c6 h7]; exact bne_self' _
    · exact news_l5 l (FC.c7 h7) FC.c8 _ 0 (by omega) (Nat.zero_le _)
  have J2 : FnNewsDelayed.j2 five great gp gm seven e q l := by
    refine ⟨fun h5 => ⟨_, by_, true, (FB.b7 h5).1, rfl, decide_eq_false (FB.b7 h5).2, fun c => ⟨400, later, true, ?_, rfl, decide_eq_false (FB.b8 h5 (of_decide_eq_true c)).2, J3⟩, fun _ => J3⟩, fun _ => J3⟩
    have hw : wrap64 (great + 1) = great + 1 := w64 (by have := FB.g0; omega) (by have := of_decide_eq_true c; omega)
    rw [hw]; exact (FB.b8 h5 (of_decide_eq_true c)).1
  have J1 : FnNewsDelayed.j1 l1 := by
    refine ⟨d2, p2, hd2, _, need2, three, FB.b1, _, need2, three, FB.b2, gp, gm, hd3, _, great, five, FB.b3, _, great, five, FB.b4, _, e, q, hd4, _, l, seven, FC.c1, _, l, seven, FC.c2, bne_self' _, bne_self' _, bne_self' _, bne_self' _, bne_self' _, _, true, FC.c3, rfl, fun h3 => ⟨fun c => ?_, fun _ => J2⟩, fun _ => J2⟩
    have hn := of_decide_eq_true c
    refine ⟨_, many, true, (FB.b5 h3 hn).1, rfl, decide_eq_false (FB.b5 h3 hn).2, fun c2 => ?_, fun _ => J2⟩
    have h0 := of_decide_eq_true c2
    have hw : wrap64 (need2 - 1) = need2 - 1 := w64 (by omega) (by omega)
    exact ⟨_, less, true, by rw [hw]; exact (FB.b6 h3 hn h0).1, rfl, decide_eq_false (FB.b6 h3 hn h0).2, J2⟩
  refine ⟨big, hbig, fun _ => trivial, fun _ => ⟨d, m, hd1, _, all, ok, FA.a1, _, all, ok, FA.a2, _, fresh, ok, FA.a3, _, fresh, ok, FA.a4, bne_self' _, bne_self' _, bne_self' _, bne_self' _, bne_self' _, fun hok => ?_, fun _ => J1⟩⟩
  have J7 : FnNewsDelayed.j7 all d m fresh l1 := by
    refine ⟨fun c => ?_, fun _ => J1⟩
    obtain ⟨h1, h2, h3⟩ := FA.a9 hok (of_decide_eq_true c)
    exact ⟨_, need, true, h1, rfl, decide_eq_false (by omega), fun c2 => ⟨by rw [h3 (of_decide_eq_true c2)]; exact bne_self' _, J1⟩, fun _ => J1⟩
  have J6 : ∀ x, fresh = wrap64 (all - x) → FnNewsDelayed.j6 fresh all x m d l1 := by
    intro x hx
    refine ⟨by rw [← hx]; exact bne_self' _, decide_eq_false (by have := FA.a5 hok; omega), fun c => ?_, fun _ => J7⟩
    have hw : wrap64 (m - d) = m - d := w64 (by have := FA.m0; have := FA.d0; omega) (by have := FA.m0; have := FA.d0; omega)
    exact ⟨_, fresh, true, by rw [hw]; exact FA.a8 hok (of_decide_eq_true c), rfl, bne_self' _, J7⟩
  refine ⟨fun c => ?_, fun c => J6 0 (FA.a7 hok (by have := of_decide_eq_false c; omega))⟩
  have h0 := of_decide_eq_true c
  have hw : wrap64 (m - 1) = m - 1 := w64 (by have := FA.m0; omega) (by have := FA.m0; omega)
  exact ⟨_, before, true, by rw [hw]; exact (FA.a6 hok h0).1, rfl, J6 before (FA.a6 hok h0).2⟩
end Go.Proofs.Ytokkmkncplkpiaa.Q
