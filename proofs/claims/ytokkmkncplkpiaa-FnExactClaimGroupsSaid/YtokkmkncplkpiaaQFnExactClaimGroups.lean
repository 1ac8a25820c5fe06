/- The law's walk: FnExactClaimGroups answers true at every input. -/
import Derived.Test.YtokkmkncplkpiaaQClaimX
import Derived.Test.YtokkmkncplkpiaaP2
import Derived.Test.YtokkmkncplkpiaaP4
import Derived.Test.YtokkmkncplkpiaaP10
import Derived.Test.YtokkmkncplkpiaaP9
import Derived.Test.YtokkmkncplkpiaaP11
import Derived.Test.YtokkmkncplkpiaaP12
import Derived.Test.YtokkmkncplkpiaaP3
import Derived.Test.YtokkmkncplkpiaaP8
namespace Go.Proofs.Ytokkmkncplkpiaa.Q
open Go.RowKit Go.Proofs.YtokkmkncplkpiaaW.PrintWords Go.Proofs.YtokkmkncplkpiaaW.PrintLast Go.Proofs.YtokkmkncplkpiaaW.PrintMore Go.Proofs.Ytokkmkncplkpiaa.P

/-- all that the law's calls come to, at one number of rounds -/
structure Facts (a0 : Int) (l : List Cl0) (lc : List Cl) (G : List (List Int)) (b : Bool) (m : Int) (t' : List Cl) (q : Int) (G' : List (List Int)) (k : Nat) : Prop where
  conv : laws_toClaimS.f k l = some lc
  spec : spec_ClaimGroups.f k a0 lc = some (G, b)
  impl : impl_ClaimGroups.f k a0 lc = some (G, b)
  same : laws_eqIntSS.f k G G = some true
  held : laws_eqClaimS.f k lc lc = some true
  mark : laws_markClaimS.f k lc 1 = some (m, t')
  markG : laws_markIntSS.f k G 1 = some (q, G')
  heldG : laws_heldIntSS.f k G' 1 = some q
  len : G.length = G'.length
  m0 : 0 ≤ m
  q0 : 0 ≤ q
theorem S_lower {α : Type} {d : Kd α} {e : Nat} {w : World} {base base' : Nat} {ok : Nat → Prop} {v : Value} {xs : List α} (h : Kd.S d e w base ok v xs) (hb : base' ≤ base) : Kd.S d e w base' ok v xs := by
  obtain ⟨f, h⟩ := h
  exact ⟨f, Kd.R_lower h hb⟩
theorem Ev.pair {α β : Type} {g : Nat → Option α} {f : Nat → Option β} {r : α} {s : β} {K1 K2 : Nat} (h : ∀ k, K1 ≤ k → g k = some r) (k : ∀ k, K2 ≤ k → f k = some s) : ∀ j, max K1 K2 ≤ j → g j = some r ∧ f j = some s :=
  fun j hj => ⟨h j (by omega), k j (by omega)⟩
theorem grps_total (l : List Pr) (n : Nat) (hn : n ≤ 8) (m : Nat) (hm : m ≤ 8) : total (grps l n m) ≤ 64 ∧ ∀ x ∈ grps l n m, x.length ≤ 8 := by
  have hx : ∀ x ∈ grps l n m, x.length ≤ 8 := by
    intro x hx
    simp only [grps, List.mem_map] at hx
    obtain ⟨i, _, rfl⟩ := hx
    have := idxs_length (wayB l n i) n
    omega
  refine ⟨?_, hx⟩
  have hs : ∀ (g : List (List Int)), (∀ x ∈ g, x.length ≤ 8) → total g ≤ 8 * g.length := by
    intro g
    induction g with
    | nil => intro _; simp [total]
    | cons y g ih =>
      intro h
      have h1 := ih (fun x hx => h x (List.mem_cons_of_mem _ hx))
      have h2 := h y List.mem_cons_self
      simp only [total, List.map_cons, List.sum_cons, List.length_cons] at h1 ⊢
      omega
  have := hs _ hx
  have := grps_length l n m
  omega
theorem facts (a0 : Int) (l : List Cl0) (hl : l.length ≤ 1048576) : ∃ lc G b m t' q G' k, Facts a0 l lc G b m t' q G' k := by
  obtain ⟨G, b, hs, hi, hG, hGx, hGt⟩ : ∃ G b, Ev (fun k => spec_ClaimGroups.f k a0 (l.map cl)) (G, b) ∧ Ev (fun k => impl_ClaimGroups.f k a0 (l.map cl)) (G, b) ∧ G.length ≤ 1000 ∧ (∀ x ∈ G, x.length ≤ 1000000000) ∧ total G ≤ 64 := by
    cases h : okC a0 (l.map cl) with
    | true =>
      have hv : 1 ≤ a0 ∧ a0 ≤ 8 := by
        simp only [okC, Bool.and_eq_true, decide_eq_true_eq] at h; exact ⟨h.1.1, h.1.2.1⟩
      have ht := grps_total (prs (l.map cl)) a0.toNat (by omega) a0.toNat (by omega)
      have hgl := grps_length (prs (l.map cl)) a0.toNat a0.toNat
      exact ⟨_, _, spec_groups_ev a0 _ h, impl_groups_ev a0 _ h, by omega, fun x hx => by have := ht.2 x hx; omega, ht.1⟩
    | false =>
      refine ⟨[], false, spec_groups_no a0 _ (by simp; omega) h, impl_groups_no a0 _ h, by simp, ?_, by simp [total]⟩
      intro x hx
      simp at hx
  obtain ⟨m, t', hm, hm0⟩ := markClaimS_ev (l.map cl) (by simp; omega)
  obtain ⟨K1, h1⟩ := toClaimS_ev l (by omega)
  obtain ⟨K2, h2⟩ := hs
  obtain ⟨K3, h3⟩ := hi
  obtain ⟨K4, h4⟩ := eqIntSS_refl G (by omega) hGx
  obtain ⟨K5, h5⟩ := eqClaimS_refl (l.map cl) (by simp; omega)
  obtain ⟨K6, h6⟩ := hm
  obtain ⟨K7, h7⟩ := markIntSS_ev G 1 (by omega) (by omega)
  obtain ⟨K8, h8⟩ := heldIntSS_ev G 1 (by omega) (by omega) (by omega)
  have k := K1 + K2 + K3 + K4 + K5 + K6 + K7 + K8
  exact ⟨l.map cl, G, b, m, t', _, _, K1 + K2 + K3 + K4 + K5 + K6 + K7 + K8, h1 _ (by omega), h2 _ (by omega), h3 _ (by omega), h4 _ (by omega), h5 _ (by omega), h6 _ (by omega), h7 _ (by omega), h8 _ (by omega), by rw [runs_length], hm0, by omega⟩

set_option maxHeartbeats 8000000 in
set_option maxRecDepth 100000 in
theorem FnExactClaimGroups_true (a0 : Int) (A1 : Option Addr) (c1 : Nat) (l : List Cl0) (w : World) (hr1 : Kd.C k87 w A1 l.length l) (hc1 : l.length ≤ c1) (hl47 : l.length ≤ 140737488355328) :
    Calls Try.prog 3 #[.int .i64 a0, .slice A1 l.length c1] w fun e w' => e = .returned (.bool true) ∧ Below w.heap.size w w' := by
  have HR := Aside0.mk hr1
  clear hr1
  have hsz := fun W : World => laws_szClaimS.calls A1 c1 l 1048576
  by_cases hbig : l.length ≤ 1048576
  · obtain ⟨lc, G, b, m, t', q, G', k, F⟩ := facts a0 l hbig
    have cz := fun (W : World) (h : Kd.C k87 W A1 l.length l) => laws_szClaimS.calls A1 c1 l 1048576 (1048576 - (l.length : Int)) W h hc1 (by
      unfold laws_szClaimS.f
      have e : wrap64 (1048576 - (l.length : Int)) = 1048576 - (l.length : Int) := w64 (by omega) (by omega)
      rw [e, if_neg (by omega)])
    have zb : decide (1048576 - (l.length : Int) < 0) = false := decide_eq_false (by omega)
    have HF := Aside0.mk F
    clear F hsz hbig
    go_enter Try.func3, Try.ntmps3
    go_wp2_with fail
    refine (cz _ HR.out).mono ?_; rintro e w' ⟨rfl, ⟨nd, rfl⟩⟩
    clear cz
    have B0 := Aside0.mk (pw_below_drewN (Below.refl w.heap.size w) nd)
    generalize w.drewN nd = W0 at B0 ⊢
    go_wp2_with fail
    refine (laws_toClaimS.calls k A1 c1 l lc _ (Kd.C_below HR.out B0.out) hc1 HF.out.conv).mono ?_; rintro e w1 ⟨v1, rfl, h1, hb1⟩
    have B1 := Aside0.mk (B0.out.trans (hb1.mono B0.out.size))
    clear hb1
    obtain ⟨A2, c2, rfl⟩ := Kd.R_slice h1
    obtain ⟨-, hc2, h1⟩ := Kd.R_reads' h1
    have H1 := Aside0.mk h1
    clear h1
    go_wp2_with fail
    refine (spec_ClaimGroups.calls k a0 A2 c2 lc G b _ H1.out hc2 HF.out.spec).mono ?_; rintro e w2 ⟨vW, rfl, h2, hb2⟩
    have B2 := Aside0.mk (B1.out.trans (hb2.mono B1.out.size))
    have h2w := Aside0.mk (Kd.S_bound h2)
    clear hb2 h2
    go_wp2_with fail
    refine (laws_toClaimS.calls k A1 c1 l lc _ (Kd.C_below HR.out B2.out) hc1 HF.out.conv).mono ?_; rintro e w3 ⟨vX, rfl, h3, hb3⟩
    have B3 := Aside0.mk (B2.out.trans (hb3.mono B2.out.size))
    have K3 := Aside0.mk (Kept.of_below hb3 (fun _ => False))
    have h3x := Aside0.mk (Kd.R_bound h3)
    clear h3
    obtain ⟨A3, c3, rfl⟩ := Kd.R_slice h3x.out
    obtain ⟨-, hc3, h3⟩ := Kd.R_reads' h3x.out
    have H3 := Aside0.mk h3
    clear h3
    go_wp2_with fail
    refine (impl_ClaimGroups.calls k a0 A3 c3 lc G b _ H3.out hc3 HF.out.impl).mono ?_; rintro e w4 ⟨vG, rfl, h4, hb4⟩
    have B4 := Aside0.mk (B3.out.trans (hb4.mono B3.out.size))
    obtain ⟨Aw, cw, rfl⟩ := Kd.S_slice h2w.out
    obtain ⟨Ag, cg, rfl⟩ := Kd.S_slice h4
    have hcw := (Kd.S_reads' h2w.out).2.1
    have hcg := (Kd.S_reads' h4).2.1
    have hw4 := Aside0.mk (Kd.S_below (Kd.S_below h2w.out hb3) hb4)
    have h4 := Aside0.mk (Kd.S_bound h4)
    have b2 := Aside0.mk ((hb3.trans (hb4.mono hb3.size)))
    have b3 := Aside0.mk hb4
    have sz3 := hb3.size
    have sz4 := hb4.size
    clear hb3 hb4
    go_wp2_with fail
    refine (laws_eqIntSS.calls k Ag cg G Aw cw G true _ (Kd.S_reads' h4.out).2.2 hcg (Kd.S_reads' hw4.out).2.2 hcw HF.out.same).mono ?_; rintro e w' ⟨rfl, ⟨nd2, rfl⟩⟩
    have hb := pw_below_drewN (Below.refl w4.heap.size w4) nd2
    generalize w4.drewN nd2 = w5 at hb ⊢
    have B5 := Aside0.mk (B4.out.trans (hb.mono B4.out.size))
    have b25 := Aside0.mk (b2.out.trans (hb.mono b2.out.size))
    have b35 := Aside0.mk (b3.out.trans (hb.mono b3.out.size))
    have hw5 := Aside0.mk (Kd.S_below hw4.out hb)
    have hg5 := Aside0.mk (Kd.S_below h4.out hb)
    have hx5 := Aside0.mk (Kd.R_below h3x.out (b3.out.trans (hb.mono b3.out.size)))
    have sz5 : w4.heap.size ≤ w5.heap.size := hb.size
    clear hb hw4 h4 h3x b2 b3
    go_wp2_with fail
    refine (laws_toClaimS.calls k A1 c1 l lc _ (Kd.C_below HR.out B5.out) hc1 HF.out.conv).mono ?_; rintro e w6 ⟨v6, rfl, h6, hb⟩
    have B6 := Aside0.mk (B5.out.trans (hb.mono B5.out.size))
    have b26 := Aside0.mk (b25.out.trans (hb.mono b25.out.size))
    have b36 := Aside0.mk (b35.out.trans (hb.mono b35.out.size))
    have hw6 := Aside0.mk (Kd.S_below hw5.out hb)
    have hg6 := Aside0.mk (Kd.S_below hg5.out hb)
    have hx6 := Aside0.mk (Kd.R_below hx5.out hb)
    have sz6 : w4.heap.size ≤ w6.heap.size := Nat.le_trans sz5 hb.size
    clear hb hw5 hg5 hx5 b25 b35 sz5
    obtain ⟨A6, c6, rfl⟩ := Kd.R_slice h6
    obtain ⟨-, hc6, h6⟩ := Kd.R_reads' h6
    go_wp2_with fail
    refine (laws_eqClaimS.calls k A3 c3 lc A6 c6 lc true _ (Kd.R_reads' hx6.out).2.2 hc3 h6 hc6 HF.out.held).mono ?_; rintro e w7 ⟨rfl, hb⟩
    have B7 := Aside0.mk (B6.out.trans (hb.mono B6.out.size))
    have b27 := Aside0.mk (b26.out.trans (hb.mono b26.out.size))
    have b37 := Aside0.mk (b36.out.trans (hb.mono b36.out.size))
    have hw7 := Aside0.mk (Kd.S_below hw6.out hb)
    have hg7 := Aside0.mk (Kd.S_below hg6.out hb)
    have hx7 := Aside0.mk (Kd.R_mono (Kd.R_below hx6.out hb) (ok' := fun k => w2.heap.size ≤ k ∧ k < w3.heap.size) (fun k hk => ⟨hk.2.1, hk.2.2.1⟩))
    have sz7 : w4.heap.size ≤ w7.heap.size := Nat.le_trans sz6 hb.size
    clear hb hw6 hg6 hx6 b26 b36 h6 sz6
    go_wp2_with fail
    refine (laws_markClaimS.calls k (fun k => w2.heap.size ≤ k ∧ k < w3.heap.size) _ lc 1 m t' w2 w7 b27.out hx7.out HF.out.mark).mono ?_; rintro e w8 ⟨rfl, -, hb, hk⟩
    have B8 := Aside0.mk (B2.out.trans (hb.mono B2.out.size))
    have hw8 := Aside0.mk (Kd.S_kept hw7.out hk (fun k hk hn => by have := hk.2.2.1; omega))
    have hg8 := Aside0.mk (Kd.S_kept hg7.out hk (fun k hk hn => by have := hk.2.1; omega))
    have b28 := Aside0.mk hb
    have m0 : decide (m < 0) = false := decide_eq_false (by have := HF.out.m0; omega)
    have sz8 : w4.heap.size ≤ w8.heap.size := Nat.le_trans sz7 hk.1
    clear hb hk hw7 hg7 hx7 b27 b37 sz7
    go_wp2_with fail
    refine (laws_eqIntSS.calls k Ag cg G Aw cw G true _ (Kd.S_reads' hg8.out).2.2 hcg (Kd.S_reads' hw8.out).2.2 hcw HF.out.same).mono ?_; rintro e w' ⟨rfl, ⟨nd3, rfl⟩⟩
    have hb := pw_below_drewN (Below.refl w8.heap.size w8) nd3
    generalize w8.drewN nd3 = w9 at hb ⊢
    have B9 := Aside0.mk (B8.out.trans (hb.mono B8.out.size))
    have b29 := Aside0.mk (b28.out.trans (hb.mono b28.out.size))
    have hw9 := Aside0.mk (Kd.S_below hw8.out hb)
    have hg9 := Aside0.mk (S_lower (Kd.S_mono (Kd.S_below hg8.out hb) (ok' := fun k => w3.heap.size ≤ k ∧ k < w4.heap.size) (fun k hk => ⟨hk.2.1, hk.2.2.1⟩)) sz3)
    have sz9 := Nat.le_trans sz8 hb.size
    clear hb hw8 hg8 b28 sz8
    go_wp2_with fail
    refine (laws_markIntSS.calls k (fun k => w3.heap.size ≤ k ∧ k < w4.heap.size) _ G 1 q G' w2 w9 b29.out hg9.out HF.out.markG).mono ?_; rintro e w10 ⟨rfl, hg, hb, hk⟩
    have B10 := Aside0.mk (B2.out.trans (hb.mono B2.out.size))
    have hw10 := Aside0.mk (Kd.S_kept hw9.out hk (fun k hk hn => by have := hk.2.2.1; omega))
    have hg10 := Aside0.mk hg
    clear hb hk hw9 hg9 b29 sz9 hg
    have hl := HF.out.len
    have hgc := (Kd.S_reads' hg10.out).2.2
    have ch : ∀ W, Kd.C (Kd.slice 3 (Kd.int .i64)) W Ag G'.length G' → Calls Try.prog 15 #[.slice Ag G.length cg, .int .i64 1] W fun e w' => e = .returned (.int .i64 q) ∧ Drawn0 W w' := by
      intro W h
      rw [hl] at hcg ⊢
      exact laws_heldIntSS.calls k Ag cg G' 1 q W h hcg HF.out.heldG
    have q0 : decide (q < 0) = false := decide_eq_false (by have := HF.out.q0; omega)
    clear hl
    go_wp2_with fail
    refine (ch _ hgc).mono ?_; rintro e w' ⟨rfl, ⟨nd4, rfl⟩⟩
    have hb := pw_below_drewN (Below.refl w10.heap.size w10) nd4
    generalize w10.drewN nd4 = w11 at hb ⊢
    have B11 := Aside0.mk (B10.out.trans (hb.mono B10.out.size))
    have hw11 := Aside0.mk (Kd.S_below hw10.out hb)
    have hg11 := Aside0.mk (Kd.C_below hgc hb)
    clear hb hw10 hg10 hgc
    go_wp2_with fail
    refine (laws_toClaimS.calls k A1 c1 l lc _ (Kd.C_below HR.out B11.out) hc1 HF.out.conv).mono ?_; rintro e w12 ⟨v12, rfl, h12, hb⟩
    have B12 := Aside0.mk (B11.out.trans (hb.mono B11.out.size))
    have hw12 := Aside0.mk (Kd.S_below hw11.out hb)
    have hg12 := Aside0.mk (Kd.C_below hg11.out hb)
    clear hb hw11 hg11
    obtain ⟨A12, c12, rfl⟩ := Kd.R_slice h12
    obtain ⟨-, hc12, h12⟩ := Kd.R_reads' h12
    go_wp2_with fail
    refine (impl_ClaimGroups.calls k a0 A12 c12 lc G b _ h12 hc12 HF.out.impl).mono ?_; rintro e w13 ⟨vH, rfl, h13, hb⟩
    have B13 := Aside0.mk (B12.out.trans (hb.mono B12.out.size))
    have hw13 := Aside0.mk (Kd.S_below hw12.out hb)
    have hg13 := Aside0.mk (Kd.C_below hg12.out hb)
    clear hb hw12 hg12 h12
    obtain ⟨Ah, ch_, rfl⟩ := Kd.S_slice h13
    obtain ⟨-, hch, h13⟩ := Kd.S_reads' h13
    go_wp2_with fail
    refine (laws_eqIntSS.calls k Ah ch_ G Aw cw G true _ h13 hch (Kd.S_reads' hw13.out).2.2 hcw HF.out.same).mono ?_; rintro e w' ⟨rfl, ⟨nd5, rfl⟩⟩
    have hb := pw_below_drewN (Below.refl w13.heap.size w13) nd5
    generalize w13.drewN nd5 = w14 at hb ⊢
    have B14 := Aside0.mk (B13.out.trans (hb.mono B13.out.size))
    have hg14 := Aside0.mk (Kd.C_below hg13.out hb)
    clear hb hw13 hg13 h13
    go_wp2_with fail
    refine (ch _ hg14.out).mono ?_; rintro e w' ⟨rfl, ⟨nd6, rfl⟩⟩
    have hb := pw_below_drewN (Below.refl w14.heap.size w14) nd6
    generalize w14.drewN nd6 = w15 at hb ⊢
    have B15 := Aside0.mk (B14.out.trans (hb.mono B14.out.size))
    clear hb hg14
    go_wp2_with fail
    go_ret
    exact ⟨rfl, B15.out⟩
  · have cz := fun (W : World) (h : Kd.C k87 W A1 l.length l) => laws_szClaimS.calls A1 c1 l 1048576 (-1) W h hc1 (by
      unfold laws_szClaimS.f
      have e : wrap64 (1048576 - (l.length : Int)) = 1048576 - (l.length : Int) := w64 (by omega) (by omega)
      rw [e, if_pos (by omega)])
    clear hsz hbig
    go_enter Try.func3, Try.ntmps3
    go_wp2_with fail
    refine (cz _ HR.out).mono ?_; rintro e w' ⟨rfl, ⟨nd, rfl⟩⟩
    clear cz
    have B0 := Aside0.mk (pw_below_drewN (Below.refl w.heap.size w) nd)
    generalize w.drewN nd = W0 at B0 ⊢
    go_wp2_with fail
    go_ret
    exact ⟨rfl, B0.out⟩
end Go.Proofs.Ytokkmkncplkpiaa.Q
