/- ClaimGroups: what the reference answers. Plain: no program. -/
import Derived.Test.YtokkmkncplkpiaaQClaimG
namespace Go.Proofs.Ytokkmkncplkpiaa.Q
open Go.RowKit Go.Proofs.YtokkmkncplkpiaaW.PrintWords Go.Proofs.YtokkmkncplkpiaaW.PrintLast Go.Proofs.YtokkmkncplkpiaaW.PrintMore Go.Proofs.Ytokkmkncplkpiaa.P

def nsum (L : List Int) : Nat := (L.map Int.toNat).sum
theorem nsum_set : ∀ (L : List Int) (i : Nat) (v : Int) (h : i < L.length), nsum (L.set i v) + (L[i]).toNat = nsum L + v.toNat
  | x :: L, 0, v, h => by simp [nsum]; omega
  | x :: L, i + 1, v, h => by
    have := nsum_set L i v (by simpa using h)
    simp only [nsum, List.set_cons_succ, List.map_cons, List.sum_cons, List.getElem_cons_succ] at this ⊢
    omega
/-- labels: of each friend one who is not greater, and to whom there is a way -/
structure Lab (l : List Pr) (n : Nat) (L : List Int) : Prop where
  len : L.length = n
  lab : ∀ i : Nat, i < n → ∃ m : Nat, rd L (i : Int) = m ∧ m ≤ i ∧ Way l n i m
theorem Lab.put {l : List Pr} {n : Nat} {L : List Int} (h : Lab l n L) {a b : Nat} (ha : a < n) (hb : b < n) (hw : Way l n a b) {m : Nat} (hma : m ≤ a) (hmw : Way l n a m) : Lab l n (L.set a (m : Int)) ∧ (m ≤ b → Lab l n ((L.set a (m : Int)).set b (m : Int))) := by
  have hla : a < L.length := by rw [h.len]; exact ha
  have h1 : Lab l n (L.set a (m : Int)) := ⟨by rw [List.length_set]; exact h.len, fun i hi => by
    rw [rd_set _ _ _ _ hla]
    by_cases e : i = a
    · subst e; exact ⟨m, if_pos rfl, hma, hmw⟩
    · rw [if_neg e]; exact h.lab i hi⟩
  refine ⟨h1, fun hmb => ⟨by rw [List.length_set]; exact h1.len, fun i hi => ?_⟩⟩
  rw [rd_set _ _ _ _ (by rw [h1.len]; exact hb)]
  by_cases e : i = b
  · subst e; exact ⟨m, if_pos rfl, hmb, (hw.symm ha).trans hmw⟩
  · rw [if_neg e]; exact h1.lab i hi
theorem least_f (a b : Int) : spec_l1Least.f a b = some (if a < b then a else b) := by
  unfold spec_l1Least.f; split <;> rfl
/-- the groups of labels that stand -/
theorem grp_labels {l : List Pr} {n : Nat} {L : List Int} (h : Lab l n L) (hc : ∀ i j : Nat, i < n → Way l n i j → rd L (i : Int) = rd L (j : Int)) (f : Nat) (hf : f < n) :
    idxs (fun j => decide (rd L (j : Int) = f)) n = if leastB l n f = true then idxs (wayB l n f) n else [] := by
  obtain ⟨m, em, hmf, hmw⟩ := h.lab f hf
  by_cases hl : leastB l n f = true
  · rw [if_pos hl]
    have hmf2 : m = f := by
      by_cases e : m < f
      · exact absurd hmw (leastB_iff.mp hl m e)
      · omega
    refine idxs_congr n (fun j hj => ?_)
    by_cases hw : Way l n f j
    · rw [wayB_iff.mpr hw]
      refine decide_eq_true ?_
      rw [← hc f j hf hw, em, hmf2]
    · have e1 : wayB l n f j = false := by
        cases hq : wayB l n f j
        · rfl
        · exact absurd (wayB_iff.mp hq) hw
      rw [e1]
      refine decide_eq_false (fun e => hw ?_)
      obtain ⟨m2, em2, _, hw2⟩ := h.lab j hj
      have : m2 = f := by omega
      subst this
      exact hw2.symm hj
  · rw [if_neg hl]
    refine idxs_none n (fun j hj => decide_eq_false (fun e => hl ?_))
    obtain ⟨m2, em2, _, hw2⟩ := h.lab j hj
    have e2 : m2 = f := by omega
    subst e2
    have e3 := hc j m2 hj hw2
    rw [leastB_iff]
    intro i hi hwi
    obtain ⟨m3, em3, hm3, _⟩ := h.lab i (hwi.lt hf)
    have e4 := hc m2 i hf hwi
    omega
theorem spec_groups_ev (a0 : Int) (t : List Cl) (h : okC a0 t = true) : Ev (fun k => spec_ClaimGroups.f k a0 t) (grps (prs t) a0.toNat a0.toNat, true) := by
  have hv : (1 ≤ a0 ∧ a0 ≤ 8 ∧ t.length ≤ 20) ∧ t.all (isClaimB a0) = true := by simpa [okC] using h
  obtain ⟨⟨h1, h8, h20⟩, hall⟩ := hv
  rw [List.all_eq_true] at hall
  obtain ⟨n, rfl⟩ := Int.eq_ofNat_of_zero_le (show 0 ≤ a0 by omega)
  rw [Int.toNat_natCast]
  -- the groups
  have k3 : ∀ L, Lab (prs t) n L → (∀ i j : Nat, i < n → Way (prs t) n i j → rd L (i : Int) = rd L (j : Int)) → ∀ d f : Nat, n - f = d → f ≤ n → Ev (fun k => spec_ClaimGroups.l3 k (n : Int) L (grps (prs t) n f) (f : Int)) (grps (prs t) n n, true) := by
    intro L hL hc d
    induction d with
    | zero =>
      intro f hd hf
      obtain rfl : f = n := by omega
      exact Ev.round (fun k => rfl) (Ev.neg (by omega) (Ev.now _))
    | succ d ih =>
      intro f hd hf
      have hg := grp_labels hL hc f (by omega)
      have hgl := grps_length (prs t) n f
      have k4 : ∀ d2 j : Nat, n - j = d2 → j ≤ n → Ev (fun k => spec_ClaimGroups.l4 k (n : Int) L (grps (prs t) n f) (f : Int) (idxs (fun j => decide (rd L (j : Int) = f)) j) L (L.length : Int) (j : Int)) (grps (prs t) n n, true) := by
        intro d2
        induction d2 with
        | zero =>
          intro j hd2 hj
          obtain rfl : j = n := by omega
          have hlen := hL.len
          refine Ev.round (fun k => rfl) (Ev.neg (by omega) ?_)
          rw [hg]
          have hsucc := grps_succ (prs t) j f
          by_cases hl : leastB (prs t) j f = true
          · rw [if_pos hl]
            rw [if_pos hl] at hsucc
            obtain ⟨m, hm1, hm2, hm3, hm4, hm5⟩ := idxs_head (wayB (prs t) j f) j ⟨f, by omega, wayB_iff.mpr Way.here⟩
            refine Ev.pos (by omega) (Ev.pos (by omega) ?_)
            rw [w64 (by omega) (by omega), ← hsucc]
            exact ih (f + 1) (by omega) (by omega)
          · rw [if_neg hl]
            rw [if_neg hl] at hsucc
            refine Ev.neg (by simp) ?_
            rw [w64 (by omega) (by omega), ← hsucc]
            exact ih (f + 1) (by omega) (by omega)
        | succ d2 ih2 =>
          intro j hd2 hj
          have hlen := hL.len
          have hsucc := idxs_succ (fun j => decide (rd L (j : Int) = f)) j
          have hil := idxs_length (fun j => decide (rd L (j : Int) = f)) j
          refine Ev.round (fun k => rfl) (Ev.pos (by omega) (Ev.pos (by omega) (Ev.pos (by omega) ?_)))
          rw [w64 (by omega) (by omega)]
          by_cases hq : rd L (j : Int) = f
          · rw [if_pos (by simpa using hq)] at hsucc
            refine Ev.pos hq (Ev.pos (by omega) ?_)
            rw [← hsucc]
            exact ih2 (j + 1) (by omega) (by omega)
          · rw [if_neg (by simpa using hq)] at hsucc
            refine Ev.neg hq ?_
            rw [← hsucc]
            exact ih2 (j + 1) (by omega) (by omega)
      exact Ev.round (fun k => rfl) (Ev.pos (by omega) (k4 n 0 (by omega) (Nat.zero_le _)))
  have fix : ∀ L, Lab (prs t) n L → (∀ c ∈ t, ∀ a b : Nat, c.f0 = a → c.f1 = b → rd L (a : Int) = rd L (b : Int)) → Ev (fun k => spec_ClaimGroups.l1 k (n : Int) t L false) (grps (prs t) n n, true) := by
    intro L hL hc
    exact Ev.of_next (k3 L hL (fun i j _ hw => way_const (fun x => rd L (x : Int)) hc hw) n 0 (by omega) (Nat.zero_le _)) (fun k => rfl)
  -- a pass over the claims
  have k2 : ∀ S, (∀ L, Lab (prs t) n L → nsum L < S → Ev (fun k => spec_ClaimGroups.l1 k (n : Int) t L true) (grps (prs t) n n, true)) →
      ∀ d i : Nat, t.length - i = d → i ≤ t.length → ∀ L ag, Lab (prs t) n L → nsum L ≤ S → (ag = true → nsum L < S) → (ag = false → ∀ c ∈ t.take i, ∀ a b : Nat, c.f0 = a → c.f1 = b → rd L (a : Int) = rd L (b : Int)) →
      Ev (fun k => spec_ClaimGroups.l2 k (n : Int) t L ag t (t.length : Int) (i : Int)) (grps (prs t) n n, true) := by
    intro S hS d
    induction d with
    | zero =>
      intro i hd hi L ag hL hs hag hne
      rw [List.take_of_length_le (by omega)] at hne
      refine Ev.round (fun k => rfl) (Ev.neg (by omega) ?_)
      cases ag with
      | true => exact hS L hL (hag rfl)
      | false => exact fix L hL (hne rfl)
    | succ d ih =>
      intro i hd hi L ag hL hs hag hne
      have hlt : i < t.length := by omega
      have hlen := hL.len
      obtain ⟨a, b, ea, eb, han, hbn, hw⟩ := way_claim n rfl t[i] (List.getElem_mem hlt) (hall _ (List.getElem_mem hlt))
      obtain ⟨ma, ema, hma, hwa⟩ := hL.lab a han
      obtain ⟨mb, emb, hmb, hwb⟩ := hL.lab b hbn
      refine Ev.round (fun k => rfl) (Ev.pos (by omega) (Ev.pos (by omega) (Ev.pos (by omega) ?_)))
      rw [rdClaim_get t i hlt, ea, eb]
      refine Ev.pos (by omega) (Ev.pos (by omega) (Ev.pos (by omega) (Ev.pos (by omega) (Ev.bind (Ev.const (least_f _ _)) ?_))))
      rw [w64 (by omega) (by omega), ema, emb]
      by_cases hsame : ma = mb
      · subst hsame
        rw [if_neg (by omega)]
        refine Ev.pos rfl (Ev.pos rfl (ih (i + 1) (by omega) (by omega) L ag hL hs hag (fun hf c hc x y hx hy => ?_)))
        rw [List.take_succ_eq_append_getElem hlt, List.mem_append] at hc
        rcases hc with hc | hc
        · exact hne hf c hc x y hx hy
        · simp only [List.mem_singleton] at hc
          subst hc
          have : x = a := by omega
          have : y = b := by omega
          subst x y
          rw [ema, emb]
      · have hab : a ≠ b := fun e => hsame (by subst e; omega)
        have hla : a < L.length := by omega
        have eLa : L[a] = (ma : Int) := by rw [← rd_get L a hla]; exact ema
        have eLb : L[b]'(by omega) = (mb : Int) := by rw [← rd_get L b (by omega)]; exact emb
        obtain ⟨m, em, hm1, hm2, hm3⟩ : ∃ m : Nat, (if (ma : Int) < (mb : Int) then (ma : Int) else (mb : Int)) = m ∧ m ≤ a ∧ m ≤ b ∧ Way (prs t) n a m ∧ m + m < ma + mb ∧ m ≤ ma ∧ m ≤ mb := by
          by_cases hlt2 : ma < mb
          · exact ⟨ma, if_pos (by omega), hma, by omega, hwa, by omega, by omega, by omega⟩
          · exact ⟨mb, if_neg (by omega), by omega, hmb, hw.trans hwb, by omega, by omega, by omega⟩
        obtain ⟨hm3, hm4, hm5, hm6⟩ := hm3
        rw [em]
        have hL2 := (hL.put han hbn hw hm1 hm3).2 hm2
        have s1 := nsum_set L a (m : Int) hla
        have s2 := nsum_set (L.set a (m : Int)) b (m : Int) (by rw [List.length_set]; omega)
        rw [List.getElem_set_ne hab, eLb] at s2
        rw [eLa] at s1
        simp only [Int.toNat_natCast] at s1 s2
        have hfin := ih (i + 1) (by omega) (by omega) _ true hL2 (by omega) (fun _ => by omega) (fun hf => by cases hf)
        simp only [Int.toNat_natCast]
        by_cases hq : (ma : Int) = m
        · exact Ev.pos hq (Ev.neg (by omega) hfin)
        · exact Ev.neg hq hfin
  have k1 : ∀ s L, Lab (prs t) n L → nsum L ≤ s → Ev (fun k => spec_ClaimGroups.l1 k (n : Int) t L true) (grps (prs t) n n, true) := by
    intro s
    induction s with
    | zero => 
      intro L hL hs
      exact Ev.of_next (k2 (nsum L) (fun L' _ h' => by omega) t.length 0 (by omega) (Nat.zero_le _) L false hL (Nat.le_refl _) (fun h => by cases h) (fun _ c hc => by simp at hc)) (fun k => rfl)
    | succ s ih =>
      intro L hL hs
      exact Ev.of_next (k2 (nsum L) (fun L' hL' h' => ih L' hL' (by omega)) t.length 0 (by omega) (Nat.zero_le _) L false hL (Nat.le_refl _) (fun h => by cases h) (fun _ c hc => by simp at hc)) (fun k => rfl)
  -- the labels at first
  have k0 : ∀ d i : Nat, n - i = d → i ≤ n → ∀ L : List Int, L.length = n → (∀ j : Nat, j < i → rd L (j : Int) = j) → Ev (fun k => spec_ClaimGroups.l0 k (n : Int) t L (n : Int) (i : Int)) (grps (prs t) n n, true) := by
    intro d
    induction d with
    | zero =>
      intro i hd hi L hL hj
      exact Ev.round (fun k => rfl) (Ev.neg (by omega) (k1 (nsum L) L ⟨hL, fun j hjn => ⟨j, hj j (by omega), Nat.le_refl _, Way.here⟩⟩ (Nat.le_refl _)))
    | succ d ih =>
      intro i hd hi L hL hj
      refine Ev.round (fun k => rfl) (Ev.pos (by omega) (Ev.pos (by omega) (Ev.pos (by omega) ?_)))
      rw [w64 (by omega) (by omega), Int.toNat_natCast]
      refine ih (i + 1) (by omega) (by omega) _ (by rw [List.length_set]; exact hL) (fun j hji => ?_)
      rw [rd_set _ _ _ _ (by omega)]
      split
      · omega
      · exact hj j (by omega)
  refine Ev.bind (liGood_ev _ t (by omega)) ?_
  rw [h]
  refine Ev.pos rfl (Ev.pos (by omega) (Ev.pos (by omega) (Ev.bind (Ev.const (r := List.replicate n 0) (by rw [Int.toNat_natCast])) ?_)))
  rw [List.length_replicate]
  exact k0 n 0 (by omega) (Nat.zero_le _) _ (by simp) (fun j hj => absurd hj (Nat.not_lt_zero _))
theorem spec_groups_no (a0 : Int) (t : List Cl) (hl : t.length ≤ 1000000000) (h : okC a0 t = false) : Ev (fun k => spec_ClaimGroups.f k a0 t) ([], false) := by
  refine Ev.bind (liGood_ev _ t hl) ?_
  rw [h]
  exact Ev.neg (by simp) (Ev.now _)
end Go.Proofs.Ytokkmkncplkpiaa.Q
