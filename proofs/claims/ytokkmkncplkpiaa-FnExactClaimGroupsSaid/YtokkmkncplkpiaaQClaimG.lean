/- ClaimGroups: the reference's labels and the program's ways make the same groups. Plain: no program. -/
import Derived.Test.YtokkmkncplkpiaaQNet
import Derived.Test.YtokkmkncplkpiaaQExA
import Derived.Test.YtokkmkncplkpiaaP8
import Derived.Test.YtokkmkncplkpiaaP3
namespace Go.Proofs.Ytokkmkncplkpiaa.Q
open Go.RowKit Go.Proofs.YtokkmkncplkpiaaW.PrintWords Go.Proofs.YtokkmkncplkpiaaW.PrintLast Go.Proofs.YtokkmkncplkpiaaW.PrintMore Go.Proofs.Ytokkmkncplkpiaa.P

abbrev Cl := S84
theorem rdClaim_get (l : List Cl) (i : Nat) (h : i < l.length) : rd_T84 l (i : Int) = l[i] := by
  simp only [rd_T84, Int.toNat_natCast]; rw [List.getD_eq_getElem?_getD, List.getElem?_eq_getElem h]; rfl
theorem l1In_f (a lo hi : Int) : spec_l1In.f a lo hi = some (decide (lo ≤ a ∧ a ≤ hi)) := by
  unfold spec_l1In.f
  by_cases h : lo ≤ a <;> simp [h]
def okC (a0 : Int) (t : List Cl) : Bool := decide (1 ≤ a0 ∧ a0 ≤ 8 ∧ t.length ≤ 20) && t.all (isClaimB a0)
theorem liGood_ev (a0 : Int) (t : List Cl) (hl : t.length ≤ 1000000000) : Ev (fun k => spec_liGood.f k a0 t) (okC a0 t) := by
  have key : (1 ≤ a0 ∧ a0 ≤ 8) → ∀ d i : Nat, t.length - i = d → i ≤ t.length → Ev (fun k => spec_liGood.l0 k a0 t (t.length : Int) (i : Int)) ((t.drop i).all (isClaimB a0)) := by
    intro ha d
    induction d with
    | zero =>
      intro i hd hi
      rw [List.drop_eq_nil_of_le (by omega)]
      exact Ev.round (fun k => rfl) (Ev.neg (by omega) (Ev.now _))
    | succ d ih =>
      intro i hd hi
      have hlt : i < t.length := by omega
      rw [drop_cons t i hlt, List.all_cons]
      refine Ev.round (fun k => rfl) (Ev.pos (by omega) (Ev.pos (by omega) (Ev.pos (by omega) ?_)))
      rw [rdClaim_get t i hlt, w64 (by omega) (by omega)]
      refine Ev.bind (Ev.const (l1In_f _ _ _)) ?_
      by_cases h0 : 0 ≤ (t[i]).f0 ∧ (t[i]).f0 ≤ a0 - 1
      · refine Ev.pos (decide_eq_true h0) (Ev.bind (Ev.const (l1In_f _ _ _)) ?_)
        by_cases h1 : 0 ≤ (t[i]).f1 ∧ (t[i]).f1 ≤ a0 - 1
        · refine Ev.pos (decide_eq_true h1) ?_
          have e : isClaimB a0 t[i] = true := by simp [isClaimB, h0, h1]
          rw [e, Bool.true_and, w64 (by omega) (by omega)]
          exact ih (i + 1) (by omega) (by omega)
        · have e : isClaimB a0 t[i] = false := by simp only [isClaimB, decide_eq_false h1, Bool.and_false]
          rw [e, Bool.false_and]
          exact Ev.neg (by simpa using h1) (Ev.now _)
      · have e : isClaimB a0 t[i] = false := by simp only [isClaimB, decide_eq_false h0, Bool.false_and]
        rw [e, Bool.false_and]
        exact Ev.neg (by simpa using h0) (Ev.now _)
  refine Ev.bind (Ev.const (r := decide (1 ≤ a0 ∧ a0 ≤ 8)) (by unfold spec_liFriends.f; rw [l1In_f]; rfl)) ?_
  by_cases ha : 1 ≤ a0 ∧ a0 ≤ 8
  · refine Ev.pos (decide_eq_true ha) (Ev.round (fun k => rfl) ?_)
    by_cases h20 : (t.length : Int) > 20
    · have e : okC a0 t = false := by
        have : ¬ (1 ≤ a0 ∧ a0 ≤ 8 ∧ t.length ≤ 20) := by omega
        simp [okC, this]
      rw [e]; exact Ev.pos (decide_eq_true h20) (Ev.now _)
    · have e : okC a0 t = (t.drop 0).all (isClaimB a0) := by
        have : (1 ≤ a0 ∧ a0 ≤ 8 ∧ t.length ≤ 20) := by omega
        simp [okC, this]
      rw [e]; exact Ev.neg (by simpa using h20) (key ha _ 0 rfl (Nat.zero_le _))
  · have e : okC a0 t = false := by
      have : ¬ (1 ≤ a0 ∧ a0 ≤ 8 ∧ t.length ≤ 20) := fun z => ha ⟨z.1, z.2.1⟩
      simp [okC, this]
    rw [e]
    exact Ev.neg (by simpa using ha) (Ev.one (fun k => rfl))

/-- the pairs that claims make -/
def prs (t : List Cl) : List Pr := t.map fun c => ⟨mn c.f0 c.f1, mx c.f0 c.f1⟩
theorem mn_comm (a b : Int) : mn a b = mn b a := by unfold mn; omega
theorem mx_comm (a b : Int) : mx a b = mx b a := by unfold mx; omega
theorem adj_comm (l : List Pr) (a b : Int) : adj l a b = adj l b a := by
  unfold adj; rw [mn_comm, mx_comm]; congr 1
  by_cases h : a = b <;> simp [h, eq_comm]
theorem Way.trans {l : List Pr} {n a b c : Nat} (h : Way l n a b) (k : Way l n b c) : Way l n a c := by
  induction k with
  | here => exact h
  | step _ hc ha ih => exact ih.step hc ha
theorem Way.lt {l : List Pr} {n a b : Nat} (h : Way l n a b) (ha : a < n) : b < n := by
  cases h with
  | here => exact ha
  | step _ hb _ => exact hb
theorem Way.symm {l : List Pr} {n a b : Nat} (h : Way l n a b) (ha : a < n) : Way l n b a := by
  induction h with
  | here => exact Way.here
  | step hw hc hd ih =>
    rename_i x y
    exact (Way.here.step (hw.lt ha) (by rw [adj_comm]; exact hd)).trans ih
theorem adj_prs (t : List Cl) (a b : Int) : adj (prs t) a b = true ↔ a ≠ b ∧ ∃ c ∈ t, (c.f0 = a ∧ c.f1 = b) ∨ (c.f0 = b ∧ c.f1 = a) := by
  simp only [adj, hasCall, prs, Bool.and_eq_true, decide_eq_true_eq, List.any_map, List.any_eq_true, Function.comp, beq_iff_eq]
  constructor
  · rintro ⟨hab, c, hc, h1, h2⟩
    refine ⟨hab, c, hc, ?_⟩
    unfold mn at h1; unfold mx at h2
    omega
  · rintro ⟨hab, c, hc, h⟩
    refine ⟨hab, c, hc, ?_⟩
    unfold mn mx
    omega
theorem way_claim {a0 : Int} {t : List Cl} (n : Nat) (hn : a0 = n) (c : Cl) (hc : c ∈ t) (hok : isClaimB a0 c = true) : ∃ a b : Nat, c.f0 = a ∧ c.f1 = b ∧ a < n ∧ b < n ∧ Way (prs t) n a b := by
  simp only [isClaimB, Bool.and_eq_true, decide_eq_true_eq] at hok
  obtain ⟨a, ea⟩ := Int.eq_ofNat_of_zero_le hok.1.1
  obtain ⟨b, eb⟩ := Int.eq_ofNat_of_zero_le hok.2.1
  refine ⟨a, b, ea, eb, by omega, by omega, ?_⟩
  by_cases h : a = b
  · subst h; exact Way.here
  · exact Way.here.step (by omega) ((adj_prs t a b).mpr ⟨by omega, c, hc, .inl ⟨ea, eb⟩⟩)
theorem way_const {t : List Cl} {n : Nat} (f : Nat → Int) (hf : ∀ c ∈ t, ∀ a b : Nat, c.f0 = a → c.f1 = b → f a = f b) {i j : Nat} (h : Way (prs t) n i j) : f i = f j := by
  induction h with
  | here => rfl
  | step _ _ ha ih =>
    obtain ⟨_, c, hc, h | h⟩ := (adj_prs t _ _).mp ha
    · exact ih.trans (hf c hc _ _ h.1 h.2)
    · exact ih.trans (hf c hc _ _ h.1 h.2).symm

open Classical in
noncomputable def wayB (l : List Pr) (n i j : Nat) : Bool := decide (Way l n i j)
open Classical in
noncomputable def leastB (l : List Pr) (n i : Nat) : Bool := decide (∀ j, j < i → ¬ Way l n i j)
theorem wayB_iff {l : List Pr} {n i j : Nat} : wayB l n i j = true ↔ Way l n i j := by classical
  unfold wayB; exact decide_eq_true_iff
theorem leastB_iff {l : List Pr} {n i : Nat} : leastB l n i = true ↔ ∀ j, j < i → ¬ Way l n i j := by classical
  unfold leastB; exact decide_eq_true_iff
noncomputable def grps (l : List Pr) (n m : Nat) : List (List Int) := ((List.range m).filter (leastB l n)).map fun i => idxs (wayB l n i) n
theorem grps_succ (l : List Pr) (n m : Nat) : grps l n (m + 1) = if leastB l n m = true then grps l n m ++ [idxs (wayB l n m) n] else grps l n m := by
  unfold grps
  rw [List.range_succ, List.filter_append, List.map_append]
  by_cases h : leastB l n m = true
  · rw [if_pos h, List.filter_cons_of_pos h]; rfl
  · rw [if_neg h, List.filter_cons_of_neg h]; simp
theorem grps_length (l : List Pr) (n m : Nat) : (grps l n m).length ≤ m := by
  unfold grps; rw [List.length_map]; exact Nat.le_trans (List.length_filter_le _ _) (by simp)
theorem idxs_congr {p q : Nat → Bool} (n : Nat) (h : ∀ i, i < n → p i = q i) : idxs p n = idxs q n := by
  unfold idxs
  congr 1
  exact List.filter_congr (fun x hx => h x (List.mem_range.mp hx))
theorem idxs_none {p : Nat → Bool} (n : Nat) (h : ∀ i, i < n → p i = false) : idxs p n = [] := by
  unfold idxs
  rw [List.filter_eq_nil_iff.mpr (fun x hx => by rw [h x (List.mem_range.mp hx)]; simp)]
  rfl
theorem idxs_head (p : Nat → Bool) : ∀ n, (∃ j, j < n ∧ p j = true) → ∃ m, m < n ∧ p m = true ∧ (∀ j, j < m → p j = false) ∧ rd (idxs p n) 0 = m ∧ 0 < (idxs p n).length
  | 0, h => by obtain ⟨j, hj, _⟩ := h; omega
  | n + 1, h => by
    rw [idxs_succ]
    by_cases he : ∃ j, j < n ∧ p j = true
    · obtain ⟨m, h1, h2, h3, h4, h5⟩ := idxs_head p n he
      refine ⟨m, by omega, h2, h3, ?_, ?_⟩
      · split
        · have := rd_append_left (idxs p n) [(n : Int)] 0 h5
          rw [show ((0 : Nat) : Int) = 0 from rfl] at this
          rw [this]; exact h4
        · exact h4
      · split
        · simp
        · exact h5
    · obtain ⟨j, hj, hp⟩ := h
      have hnone : ∀ i, i < n → p i = false := fun i hi => by
        cases hq : p i
        · rfl
        · exact absurd ⟨i, hi, hq⟩ he
      have ej : j = n := by
        by_cases e : j < n
        · exact absurd ⟨j, e, hp⟩ he
        · omega
      subst ej
      refine ⟨j, by omega, hp, hnone, ?_, ?_⟩
      · rw [if_pos hp, idxs_none j hnone]; rfl
      · rw [if_pos hp]; simp

/-- the program's groups -/
theorem impl_groups_ev (a0 : Int) (t : List Cl) (h : okC a0 t = true) : Ev (fun k => impl_ClaimGroups.f k a0 t) (grps (prs t) a0.toNat a0.toNat, true) := by
  have hv : (1 ≤ a0 ∧ a0 ≤ 8 ∧ t.length ≤ 20) ∧ t.all (isClaimB a0) = true := by simpa [okC] using h
  obtain ⟨⟨h1, h8, h20⟩, hall⟩ := hv
  obtain ⟨n, rfl⟩ := Int.eq_ofNat_of_zero_le (show 0 ≤ a0 by omega)
  rw [Int.toNat_natCast]
  have k1 : ∀ d i : Nat, n - i = d → i ≤ n → Ev (fun k => impl_ClaimGroups.l1 k (n : Int) (prs t) (grps (prs t) n i) (n : Int) (i : Int)) (grps (prs t) n n, true) := by
    intro d
    induction d with
    | zero =>
      intro i hd hi
      obtain rfl : i = n := by omega
      exact Ev.round (fun k => rfl) (Ev.neg (by omega) (Ev.now _))
    | succ d ih =>
      intro i hd hi
      obtain ⟨r, hr1, hlen, hreach, _⟩ := distances_ev (prs t) (by simp [prs]; omega) n i (by omega) (by omega)
      have eidx : idxs (fun k => decide (0 ≤ rd r (k : Int))) n = idxs (wayB (prs t) n i) n := idxs_congr n (fun j hj => by
        have := hreach j hj
        by_cases hw : Way (prs t) n i j
        · rw [wayB_iff.mpr hw]; exact decide_eq_true (this.mpr hw)
        · have e1 : wayB (prs t) n i j = false := by
            cases hq : wayB (prs t) n i j
            · rfl
            · exact absurd (wayB_iff.mp hq) hw
          rw [e1]; exact decide_eq_false (fun hq => hw (this.mp hq)))
      obtain ⟨m, hm1, hm2, hm3, hm4, hm5⟩ := idxs_head (wayB (prs t) n i) n ⟨i, by omega, wayB_iff.mpr Way.here⟩
      have hg := grps_length (prs t) n i
      refine Ev.round (fun k => rfl) (Ev.pos (by omega) (Ev.bind hr1 (Ev.bind (Ev.const (r := idxs (wayB (prs t) n i) n) ?_) (Ev.pos (by omega) ?_))))
      · unfold impl_ClaimGroups_1.f
        rw [if_pos ⟨by omega, by omega, by rw [Int.toNat_natCast]; exact hlen⟩, Int.toNat_natCast, eidx]
      · have hsucc := grps_succ (prs t) n i
        by_cases hle : leastB (prs t) n i = true
        · have em : m = i := by
            have hw := wayB_iff.mp hm2
            by_cases e : m < i
            · exact absurd hw (leastB_iff.mp hle m e)
            · by_cases e2 : i < m
              · have := hm3 i e2
                rw [wayB_iff.mpr Way.here] at this; cases this
              · omega
          refine Ev.pos (by rw [hm4, em]) (Ev.pos (by omega) ?_)
          rw [if_pos hle] at hsucc
          rw [w64 (by omega) (by omega), ← hsucc]
          exact ih (i + 1) (by omega) (by omega)
        · have em : m ≠ i := by
            intro e
            subst e
            apply hle
            rw [leastB_iff]
            intro j hj hw
            have := hm3 j hj
            rw [wayB_iff.mpr hw] at this; cases this
          refine Ev.neg (by rw [hm4]; omega) ?_
          rw [if_neg hle] at hsucc
          rw [w64 (by omega) (by omega), ← hsucc]
          exact ih (i + 1) (by omega) (by omega)
  have k0 : ∀ d i : Nat, t.length - i = d → i ≤ t.length → Ev (fun k => impl_ClaimGroups.l0 k (n : Int) (prs (t.take i)) [] t (t.length : Int) (i : Int)) (grps (prs t) n n, true) := by
    intro d
    induction d with
    | zero =>
      intro i hd hi
      rw [List.take_of_length_le (by omega)]
      exact Ev.round (fun k => rfl) (Ev.neg (by omega) (k1 n 0 (by omega) (Nat.zero_le _)))
    | succ d ih =>
      intro i hd hi
      have hlt : i < t.length := by omega
      have hp : (prs (t.take i)).length = i := by simp [prs]; omega
      refine Ev.round (fun k => rfl) (Ev.pos (by omega) (Ev.pos (by omega) (Ev.pos (by omega) ?_)))
      rw [rdClaim_get t i hlt]
      refine Ev.bind (Ev.const (r := (mn (t[i]).f0 (t[i]).f1, mx (t[i]).f0 (t[i]).f1)) rfl) (Ev.pos (by omega) ?_)
      rw [w64 (by omega) (by omega)]
      have e : prs (t.take (i + 1)) = prs (t.take i) ++ [⟨mn (t[i]).f0 (t[i]).f1, mx (t[i]).f0 (t[i]).f1⟩] := by
        unfold prs; rw [List.take_succ_eq_append_getElem hlt, List.map_append]; rfl
      rw [← e]
      exact ih (i + 1) (by omega) (by omega)
  refine Ev.bind (Ev.const (r := true) (by unfold impl_AreClaims.f; rw [← h]; rfl)) (Ev.pos rfl ?_)
  exact k0 _ 0 rfl (Nat.zero_le _)
theorem impl_groups_no (a0 : Int) (t : List Cl) (h : okC a0 t = false) : Ev (fun k => impl_ClaimGroups.f k a0 t) ([], false) :=
  Ev.bind (Ev.const (r := false) (by unfold impl_AreClaims.f; rw [← h]; rfl)) (Ev.neg (by simp) (Ev.now _))
end Go.Proofs.Ytokkmkncplkpiaa.Q
