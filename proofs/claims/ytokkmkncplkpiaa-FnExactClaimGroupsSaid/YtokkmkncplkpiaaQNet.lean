/- Who can be reached by pairs: what 'isPair' and 'distances' answer. Plain: no program. -/
import Derived.Test.YtokkmkncplkpiaaQLib
import Derived.Test.YtokkmkncplkpiaaP7
namespace Go.Proofs.Ytokkmkncplkpiaa.Q
open Go.RowKit Go.Proofs.YtokkmkncplkpiaaW.PrintWords Go.Proofs.YtokkmkncplkpiaaW.PrintLast Go.Proofs.YtokkmkncplkpiaaW.PrintMore Go.Proofs.Ytokkmkncplkpiaa.P

abbrev Pr := S89
theorem rdCall_get (l : List Pr) (i : Nat) (h : i < l.length) : rd_T89 l (i : Int) = l[i] := by
  simp only [rd_T89, Int.toNat_natCast]; rw [List.getD_eq_getElem?_getD, List.getElem?_eq_getElem h]; rfl
def hasCall (l : List Pr) (a b : Int) : Bool := l.any fun p => a == p.f0 && b == p.f1
theorem Index_ev (l : List Pr) (a b : Int) (hl : l.length ≤ 1000000000) : ∃ r : Int, Ev (fun k => impl_Call_203.f k l a b) r ∧ (decide (r ≥ 0) = hasCall l a b) := by
  have key : ∀ d i : Nat, l.length - i = d → i ≤ l.length → ∃ r : Int, Ev (fun k => impl_Call_203.l0 k l (l.length : Int) (i : Int) a b) r ∧ (decide (r ≥ 0) = hasCall (l.drop i) a b) := by
    intro d
    induction d with
    | zero =>
      intro i hd hi
      refine ⟨-1, Ev.round (fun k => rfl) (Ev.neg (by omega) (Ev.now _)), ?_⟩
      rw [List.drop_eq_nil_of_le (by omega)]; rfl
    | succ d ih =>
      intro i hd hi
      have hlt : i < l.length := by omega
      rw [drop_cons l i hlt]
      by_cases hc : (a == (l[i]).f0 && (b == (l[i]).f1)) = true
      · refine ⟨i, Ev.round (fun k => rfl) (Ev.pos (by omega) (Ev.pos (by omega) (Ev.pos (by omega) ?_))), ?_⟩
        · rw [rdCall_get l i hlt]; exact Ev.pos hc (Ev.now _)
        · simp only [hasCall, List.any_cons, hc, Bool.true_or]; simp
      · obtain ⟨r, h1, h2⟩ := ih (i + 1) (by omega) (by omega)
        refine ⟨r, Ev.round (fun k => rfl) (Ev.pos (by omega) (Ev.pos (by omega) (Ev.pos (by omega) ?_))), ?_⟩
        · rw [rdCall_get l i hlt, w64 (by omega) (by omega)]; exact Ev.neg hc h1
        · rw [h2]; simp only [hasCall, List.any_cons]
          rw [show (a == (l[i]).f0 && b == (l[i]).f1) = false from by simpa using hc]; rfl
  obtain ⟨r, h1, h2⟩ := key _ 0 rfl (Nat.zero_le _)
  exact ⟨r, h1, by simpa using h2⟩
/-- two friends have a pair -/
def adj (l : List Pr) (a b : Int) : Bool := decide (a ≠ b) && hasCall l (mn a b) (mx a b)
theorem isPair_ev (l : List Pr) (a b : Int) (hl : l.length ≤ 1000000000) : Ev (fun k => impl_isPair.f k l a b) (adj l a b) := by
  by_cases h : a = b
  · refine Ev.pos h ?_
    have : adj l a b = false := by simp [adj, h]
    rw [this]; exact Ev.now _
  · obtain ⟨r, h1, h2⟩ := Index_ev l (mn a b) (mx a b) hl
    have e : adj l a b = decide (r ≥ 0) := by rw [h2]; simp [adj, h]
    rw [e]
    exact Ev.neg h (Ev.bind (Ev.const (r := (mn a b, mx a b)) rfl) (Ev.bind (Ev.bind h1 (Ev.now _)) (Ev.now _)))
/-- there is a way -/
inductive Way (l : List Pr) (n : Nat) (a : Nat) : Nat → Prop
  | here : Way l n a a
  | step {b c : Nat} : Way l n a b → c < n → adj l b c = true → Way l n a c

/-- what holds of the search at any time: 'out' tells who has been met, 'q' who has been put into the list; those before k are done -/
structure Bfs (l : List Pr) (n from_ : Nat) (out q : List Int) (k : Nat) : Prop where
  len : out.length = n
  start : from_ < n ∧ 0 ≤ rd out (from_ : Int)
  mem : ∀ x ∈ q, ∃ j : Nat, x = j ∧ j < n ∧ 0 ≤ rd out (j : Int) ∧ Way l n from_ j
  met : ∀ j : Nat, j < n → 0 ≤ rd out (j : Int) → (j : Int) ∈ q
  small : ∀ j : Nat, j < n → rd out (j : Int) < q.length
  low : ∀ j : Nat, j < n → -1 ≤ rd out (j : Int)
  num : out.countP (fun x => decide (x < 0)) + q.length = n
  done : ∀ p : Nat, p < k → p < q.length → ∀ i : Nat, i < n → adj l (rd q (p : Int)) (i : Int) = true → 0 ≤ rd out (i : Int)
  kle : k ≤ q.length
def Reached (l : List Pr) (n from_ : Nat) (r : List Int) : Prop := r.length = n ∧ (∀ j : Nat, j < n → (0 ≤ rd r (j : Int) ↔ Way l n from_ j)) ∧ ∀ j : Nat, j < n → -1 ≤ rd r (j : Int) ∧ rd r (j : Int) < n
theorem rd_set (xs : List Int) (i j : Nat) (v : Int) (hi : i < xs.length) : rd (xs.set i v) (j : Int) = if j = i then v else rd xs (j : Int) := by
  simp only [rd, Int.toNat_natCast]
  by_cases h : j = i
  · subst h; rw [if_pos rfl, List.getD_eq_getElem?_getD, List.getElem?_set_self hi]; rfl
  · rw [if_neg h, List.getD_eq_getElem?_getD, List.getD_eq_getElem?_getD, List.getElem?_set_ne (Ne.symm h)]
theorem rd_append_left (xs ys : List Int) (j : Nat) (h : j < xs.length) : rd (xs ++ ys) (j : Int) = rd xs (j : Int) := by
  simp only [rd, Int.toNat_natCast]; rw [List.getD_eq_getElem?_getD, List.getD_eq_getElem?_getD, List.getElem?_append_left h]
theorem rd_append_at (xs : List Int) (y : Int) : rd (xs ++ [y]) (xs.length : Int) = y := by
  simp only [rd, Int.toNat_natCast]; rw [List.getD_eq_getElem?_getD, List.getElem?_append_right (Nat.le_refl _)]; simp
theorem rd_mem (xs : List Int) (j : Nat) (h : j < xs.length) : rd xs (j : Int) ∈ xs := by rw [rd_get xs j h]; exact List.getElem_mem h
/-- one who is met: put into the list -/
theorem Bfs.put {l : List Pr} {n f : Nat} {out q : List Int} {k i : Nat} (h : Bfs l n f out q k) (hk : k < q.length) (hi : i < n) (hneg : rd out (i : Int) < 0) (ha : adj l (rd q (k : Int)) (i : Int) = true) :
    Bfs l n f (out.set i (rd out (rd q (k : Int)) + 1)) (q ++ [(i : Int)]) k ∧ rd out (rd q (k : Int)) + 1 ≤ n ∧ 0 ≤ rd out (rd q (k : Int)) := by
  obtain ⟨x, ex, hxn, hx0, hxw⟩ := h.mem _ (rd_mem q k hk)
  rw [ex] at ha ⊢
  have hsm := h.small x hxn
  have hqn : q.length ≤ n := by have := h.num; omega
  have hil : i < out.length := by rw [h.len]; exact hi
  refine ⟨⟨by rw [List.length_set]; exact h.len, ⟨h.start.1, ?_⟩, ?_, ?_, ?_, ?_, ?_, ?_, by simp; have := h.kle; omega⟩, by omega, hx0⟩
  · rw [rd_set _ _ _ _ hil]; split
    · omega
    · exact h.start.2
  · intro y hy
    rw [List.mem_append] at hy
    rcases hy with hy | hy
    · obtain ⟨j, e, hj, h0, hw⟩ := h.mem y hy
      refine ⟨j, e, hj, ?_, hw⟩
      rw [rd_set _ _ _ _ hil]; split
      · omega
      · exact h0
    · simp only [List.mem_singleton] at hy
      refine ⟨i, hy, hi, ?_, Way.step hxw hi ha⟩
      rw [rd_set _ _ _ _ hil, if_pos rfl]; omega
  · intro j hj h0
    rw [rd_set _ _ _ _ hil] at h0
    rw [List.mem_append]
    by_cases e : j = i
    · subst e; exact .inr (by simp)
    · rw [if_neg e] at h0; exact .inl (h.met j hj h0)
  · intro j hj
    rw [rd_set _ _ _ _ hil, List.length_append, List.length_singleton]
    have := h.small j hj
    split <;> omega
  · intro j hj
    rw [rd_set _ _ _ _ hil]
    have := h.low j hj
    split <;> omega
  · have hn := h.num
    rw [List.length_append, List.length_singleton, List.countP_set hil]
    have e1 : out[i] = rd out (i : Int) := (rd_get out i hil).symm
    have hpos : 0 < out.countP (fun x => decide (x < 0)) := List.countP_pos_iff.mpr ⟨out[i], List.getElem_mem hil, by rw [e1]; simpa using hneg⟩
    rw [e1]
    simp only [hneg, decide_true, if_true]
    have e2 : decide (rd out (x : Int) + 1 < 0) = false := by simp; omega
    rw [e2]
    simp
    omega
  · intro p hp hpq j hj hadj
    rw [rd_append_left _ _ _ (by omega)] at hadj
    have := h.done p hp (by omega) j hj hadj
    rw [rd_set _ _ _ _ hil]; split <;> omega
theorem Bfs.len_q {l : List Pr} {n f : Nat} {out q : List Int} {k : Nat} (h : Bfs l n f out q k) : q.length ≤ n := by have := h.num; omega
/-- the one at k is done when all have been looked at -/
theorem Bfs.next {l : List Pr} {n f : Nat} {out q : List Int} {k : Nat} (h : Bfs l n f out q k) (hk : k < q.length) (hall : ∀ i : Nat, i < n → adj l (rd q (k : Int)) (i : Int) = true → 0 ≤ rd out (i : Int)) : Bfs l n f out q (k + 1) :=
  { h with
    done := fun p hp hq i hi ha => by
      by_cases e : p = k
      · subst e; exact hall i hi ha
      · exact h.done p (by omega) hq i hi ha
    kle := hk }
theorem Bfs.final {l : List Pr} {n f : Nat} {out q : List Int} {k : Nat} (h : Bfs l n f out q k) (hk : k = q.length) : Reached l n f out := by
  refine ⟨h.len, fun j hj => ⟨fun h0 => ?_, fun hw => ?_⟩, fun j hj => ⟨h.low j hj, ?_⟩⟩
  · obtain ⟨j', e, _, _, hw⟩ := h.mem _ (h.met j hj h0)
    have : j = j' := by omega
    subst this; exact hw
  · clear hj
    induction hw with
    | here => exact h.start.2
    | step hw hc ha ih =>
      rename_i b c
      have hb : b < n := by
        cases hw with
        | here => exact h.start.1
        | step _ hb _ => exact hb
      have hmem := h.met b hb ih
      obtain ⟨p, hp, e⟩ := List.getElem_of_mem hmem
      refine h.done p (by omega) hp c hc ?_
      rw [rd_get q p hp, e]; exact ha
  · have := h.small j hj; have := h.len_q; omega
theorem dist_inner (l : List Pr) (hl : l.length ≤ 1000000000) (n f : Nat) (hn : n ≤ 1000) (k : Nat)
    (C : ∀ out q, Bfs l n f out q (k + 1) → ∃ r, Ev (fun m => impl_distances.l0 m (n : Int) l out q ((k : Int) + 1)) r ∧ Reached l n f r) :
    ∀ d i : Nat, n - i = d → i ≤ n → ∀ out q, Bfs l n f out q k → k < q.length → (∀ j : Nat, j < i → adj l (rd q (k : Int)) (j : Int) = true → 0 ≤ rd out (j : Int)) → ∃ r, Ev (fun m => impl_distances.l1 m (n : Int) l out q (k : Int) (n : Int) (i : Int)) r ∧ Reached l n f r := by
  intro d
  induction d with
  | zero =>
    intro i hd hi out q hB hk hdone
    obtain ⟨r, h1, h2⟩ := C out q (hB.next hk (fun j hj => hdone j (by omega)))
    refine ⟨r, Ev.round (fun k => rfl) (Ev.neg (by omega) ?_), h2⟩
    have := hB.len_q
    rw [w64 (by omega) (by omega)]; exact h1
  | succ d ih =>
    intro i hd hi out q hB hk hdone
    have hlen := hB.len
    have hqn := hB.len_q
    obtain ⟨x, ex, hxn, hx0, hxw⟩ := hB.mem _ (rd_mem q k hk)
    by_cases hneg : rd out (i : Int) < 0
    · by_cases ha : adj l (rd q (k : Int)) (i : Int) = true
      · obtain ⟨hB', hle, h0⟩ := hB.put hk (by omega) hneg ha
        obtain ⟨r, h1, h2⟩ := ih (i + 1) (by omega) (by omega) _ _ hB' (by simp; omega) (fun j hj hadj => by
          rw [rd_append_left _ _ _ hk] at hadj
          rw [rd_set _ _ _ _ (by omega)]
          by_cases e : j = i
          · rw [if_pos e]; omega
          · rw [if_neg e]; exact hdone j (by omega) hadj)
        refine ⟨r, Ev.round (fun k => rfl) (Ev.pos (by omega) (Ev.pos (by omega) (Ev.pos (by omega) (Ev.pos hneg (Ev.pos (by omega) (Ev.pos (by omega) (Ev.bind (isPair_ev l _ _ hl) ?_))))))), h2⟩
        rw [ha]
        refine Ev.pos rfl (Ev.pos (by omega) (Ev.pos (by omega) (Ev.pos (by omega) ?_)))
        rw [w64 (by omega) (by omega), w64 (by omega) (by omega), Int.toNat_natCast]; exact h1
      · obtain ⟨r, h1, h2⟩ := ih (i + 1) (by omega) (by omega) out q hB hk (fun j hj hadj => by
          by_cases e : j = i
          · subst e; exact absurd hadj ha
          · exact hdone j (by omega) hadj)
        refine ⟨r, Ev.round (fun k => rfl) (Ev.pos (by omega) (Ev.pos (by omega) (Ev.pos (by omega) (Ev.pos hneg (Ev.pos (by omega) (Ev.pos (by omega) (Ev.bind (isPair_ev l _ _ hl) (Ev.neg ha ?_)))))))), h2⟩
        rw [w64 (by omega) (by omega)]; exact h1
    · obtain ⟨r, h1, h2⟩ := ih (i + 1) (by omega) (by omega) out q hB hk (fun j hj hadj => by
        by_cases e : j = i
        · subst e; omega
        · exact hdone j (by omega) hadj)
      refine ⟨r, Ev.round (fun k => rfl) (Ev.pos (by omega) (Ev.pos (by omega) (Ev.pos (by omega) (Ev.neg hneg ?_)))), h2⟩
      rw [w64 (by omega) (by omega)]; exact h1
theorem dist_outer (l : List Pr) (hl : l.length ≤ 1000000000) (n f : Nat) (hn : n ≤ 1000) :
    ∀ d k : Nat, n - k = d → ∀ out q, Bfs l n f out q k → ∃ r, Ev (fun m => impl_distances.l0 m (n : Int) l out q (k : Int)) r ∧ Reached l n f r := by
  intro d
  induction d with
  | zero =>
    intro k hd out q hB
    have := hB.len_q; have := hB.kle
    exact ⟨out, Ev.round (fun k => rfl) (Ev.neg (by omega) (Ev.now _)), hB.final (by omega)⟩
  | succ d ih =>
    intro k hd out q hB
    have := hB.len_q; have := hB.kle
    by_cases hk : k < q.length
    · obtain ⟨r, h1, h2⟩ := dist_inner l hl n f hn k (fun out q hB => by have := ih (k + 1) (by omega) out q hB; simpa using this) n 0 (by omega) (by omega) out q hB hk (fun j hj => absurd hj (Nat.not_lt_zero _))
      exact ⟨r, Ev.round (fun k => rfl) (Ev.pos (by omega) h1), h2⟩
    · exact ⟨out, Ev.round (fun k => rfl) (Ev.neg (by omega) (Ev.now _)), hB.final (by omega)⟩
/-- 'distances' answers, and tells who can be reached -/
theorem distances_ev (l : List Pr) (hl : l.length ≤ 1000000000) (n f : Nat) (hn : n ≤ 1000) (hf : f < n) : ∃ r, Ev (fun m => impl_distances.f m (n : Int) l (f : Int)) r ∧ Reached l n f r := by
  have hB : Bfs l n f ((List.replicate n (-1)).set f 0) [(f : Int)] 0 := by
    have hfl : f < (List.replicate n (-1 : Int)).length := by simpa using hf
    have hr : ∀ j : Nat, rd ((List.replicate n (-1)).set f 0) (j : Int) = if j = f then 0 else rd (List.replicate n (-1)) (j : Int) := fun j => rd_set _ _ _ _ hfl
    have hm : ∀ j : Nat, j < n → rd (List.replicate n (-1)) (j : Int) = -1 := fun j hj => by rw [rd_get _ _ (by simpa using hj)]; simp
    refine ⟨by simp, ⟨hf, by rw [hr, if_pos rfl]; omega⟩, ?_, ?_, ?_, ?_, ?_, fun p hp => absurd hp (Nat.not_lt_zero _), Nat.zero_le _⟩
    · intro x hx
      simp only [List.mem_singleton] at hx
      exact ⟨f, hx, hf, by rw [hr, if_pos rfl]; omega, Way.here⟩
    · intro j hj h0
      rw [hr] at h0
      by_cases e : j = f
      · subst e; simp
      · rw [if_neg e, hm j hj] at h0; omega
    · intro j hj
      rw [hr]; split
      · simp
      · rw [hm j hj]; simp
    · intro j hj
      rw [hr]; split
      · omega
      · rw [hm j hj]; omega
    · rw [List.countP_set hfl]
      have hc : (List.replicate n (-1 : Int)).countP (fun x => decide (x < 0)) = n := by rw [List.countP_replicate]; simp
      rw [hc]
      simp
      omega
  obtain ⟨r, h1, h2⟩ := dist_outer l hl n f hn n 0 rfl _ _ hB
  refine ⟨r, Ev.bind (Ev.const (r := List.replicate n (-1)) ?_) (Ev.pos (by omega) (Ev.pos (by simp; omega) ?_)), h2⟩
  · unfold slices_Repeat_int_int.f
    rw [if_pos (by simp; omega), Int.toNat_natCast]; rfl
  · rw [Int.toNat_natCast]; exact h1
end Go.Proofs.Ytokkmkncplkpiaa.Q
