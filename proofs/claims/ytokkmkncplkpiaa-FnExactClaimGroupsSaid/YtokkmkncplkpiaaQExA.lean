/- What the exact laws' own helpers on numbers and lists of numbers answer: they are alike, marks are held. Plain: no program. -/
import Derived.Test.YtokkmkncplkpiaaQLib
import Derived.Test.YtokkmkncplkpiaaP9
import Derived.Test.YtokkmkncplkpiaaP12
import Derived.Test.YtokkmkncplkpiaaP11
namespace Go.Proofs.Ytokkmkncplkpiaa.Q
open Go.RowKit Go.Proofs.YtokkmkncplkpiaaW.PrintWords Go.Proofs.YtokkmkncplkpiaaW.PrintLast Go.Proofs.YtokkmkncplkpiaaW.PrintMore Go.Proofs.Ytokkmkncplkpiaa.P

theorem eqIntS_refl (l : List Int) (hl : l.length ≤ 1000000000) : Ev (fun k => laws_eqIntS.f k l l) true := by
  have key : ∀ d i : Nat, l.length - i = d → i ≤ l.length → Ev (fun k => laws_eqIntS.l0 k l l (i : Int)) true := by
    intro d
    induction d with
    | zero =>
      intro i hd hi
      refine Ev.round (fun k => rfl) ?_
      exact Ev.neg (by omega) (Ev.now _)
    | succ d ih =>
      intro i hd hi
      refine Ev.round (fun k => rfl) ?_
      refine Ev.pos (by omega) (Ev.pos (by omega) (Ev.pos (by omega) (Ev.pos rfl ?_)))
      rw [w64 (by omega) (by omega)]
      exact ih (i + 1) (by omega) (by omega)
  exact Ev.pos rfl (key _ 0 rfl (Nat.zero_le _))

theorem rdL_get (l : List (List Int)) (i : Nat) (h : i < l.length) : rd_L4 l (i : Int) = l[i] := by
  simp only [rd_L4, Int.toNat_natCast]; rw [List.getD_eq_getElem?_getD, List.getElem?_eq_getElem h]; rfl

theorem eqIntSS_refl (l : List (List Int)) (hl : l.length ≤ 1000000000) (hx : ∀ x ∈ l, x.length ≤ 1000000000) : Ev (fun k => laws_eqIntSS.f k l l) true := by
  have key : ∀ d i : Nat, l.length - i = d → i ≤ l.length → Ev (fun k => laws_eqIntSS.l0 k l l (i : Int)) true := by
    intro d
    induction d with
    | zero =>
      intro i hd hi
      refine Ev.round (fun k => rfl) ?_
      exact Ev.neg (by omega) (Ev.now _)
    | succ d ih =>
      intro i hd hi
      have hlt : i < l.length := by omega
      refine Ev.round (fun k => rfl) ?_
      refine Ev.pos (by omega) (Ev.pos (by omega) (Ev.pos (by omega) ?_))
      rw [rdL_get l i hlt]
      refine Ev.bind (eqIntS_refl l[i] (hx _ (List.getElem_mem hlt))) (Ev.pos rfl ?_)
      rw [w64 (by omega) (by omega)]
      exact ih (i + 1) (by omega) (by omega)
  exact Ev.pos rfl (key _ 0 rfl (Nat.zero_le _))

/-- n numbers from a on -/
def run (a : Int) : Nat → List Int
  | 0 => []
  | n + 1 => a :: run (a + 1) n
theorem run_length (n : Nat) : ∀ a, (run a n).length = n := by induction n with
  | zero => intro a; rfl
  | succ n ih => intro a; simp [run, ih]
theorem markIntS_ev (l : List Int) (a : Int) (h0 : 0 ≤ a) (ha : a + l.length ≤ 1000000000) : Ev (fun k => laws_markIntS.f k l a) (a + l.length, run a l.length) := by
  have key : ∀ (rest done : List Int) (b : Int), 0 ≤ b → done.length + rest.length = l.length → b + rest.length ≤ 1000000000 → Ev (fun k => laws_markIntS.l0 k (done ++ rest) b (done.length : Int)) (b + rest.length, done ++ run b rest.length) := by
    intro rest
    induction rest with
    | nil =>
      intro done b hb hl hbb
      refine Ev.round (fun k => rfl) ?_
      refine Ev.neg (by simp) ?_
      exact Ev.const (by simp [run])
    | cons x rest ih =>
      intro done b hb hl hbb
      simp only [List.length_cons] at hl hbb
      refine Ev.round (fun k => rfl) ?_
      refine Ev.pos (by simp; omega) (Ev.pos (by omega) ?_)
      rw [Int.toNat_natCast, List.set_append_right _ _ (Nat.le_refl _), Nat.sub_self, List.set_cons_zero, w64 (by omega) (by omega), w64 (by omega) (by omega)]
      have h := ih (done ++ [b]) (b + 1) (by omega) (by simp; omega) (by omega)
      simp only [List.append_assoc, List.singleton_append, List.length_append, List.length_singleton, Int.natCast_add] at h
      have e : (b + 1 + (rest.length : Int), done ++ b :: run (b + 1) rest.length) = (b + ((x :: rest).length : Int), done ++ run b (x :: rest).length) := by
        simp only [List.length_cons, run]; congr 1; omega
      rw [← e]; exact h
  have h := key l [] a h0 (by simp) ha
  show Ev (fun k => laws_markIntS.l0 k l a 0) _
  simpa using h
theorem heldIntS_ev (n : Nat) (a : Int) (h0 : 0 ≤ a) (ha : a + n ≤ 1000000000) : Ev (fun k => laws_heldIntS.f k (run a n) a) (a + n) := by
  have key : ∀ (rest : Nat) (done : List Int) (b : Int), 0 ≤ b → done.length + rest ≤ 1000000000 → b + rest ≤ 1000000000 → Ev (fun k => laws_heldIntS.l0 k (done ++ run b rest) b (done.length : Int)) (b + rest) := by
    intro rest
    induction rest with
    | zero =>
      intro done b hb hl hbb
      refine Ev.round (fun k => rfl) ?_
      refine Ev.neg (by simp [run]) ?_
      exact Ev.const (by simp)
    | succ rest ih =>
      intro done b hb hl hbb
      refine Ev.round (fun k => rfl) ?_
      refine Ev.pos (by simp [run]; omega) (Ev.pos (by omega) (Ev.pos ?_ ?_))
      · rw [rd_get _ _ (by simp [run])]; simp [run]
      · rw [w64 (by omega) (by omega), w64 (by omega) (by omega)]
        have h := ih (done ++ [b]) (b + 1) (by omega) (by simp; omega) (by omega)
        simp only [List.append_assoc, List.singleton_append, List.length_append, List.length_singleton, Int.natCast_add] at h
        have e : b + 1 + (rest : Int) = b + ((rest + 1 : Nat) : Int) := by omega
        rw [← e]; exact h
  have h := key n [] a h0 (by simp; omega) ha
  show Ev (fun k => laws_heldIntS.l0 k (run a n) a 0) _
  simpa using h
def total (l : List (List Int)) : Nat := (l.map List.length).sum
def runs (a : Int) : List (List Int) → List (List Int)
  | [] => []
  | x :: l => run a x.length :: runs (a + x.length) l
theorem runs_length (l : List (List Int)) : ∀ a, (runs a l).length = l.length := by induction l with
  | nil => intro a; rfl
  | cons x l ih => intro a; simp [runs, ih]
theorem markIntSS_ev (l : List (List Int)) : ∀ (a : Int), 0 ≤ a → a + total l ≤ 1000000000 → Ev (fun k => laws_markIntSS.f k l a) (a + total l, runs a l) := by
  induction l with
  | nil => intro a h0 ha; exact Ev.const (by simp [total, runs])
  | cons x l ih =>
    intro a h0 ha
    have et : total (x :: l) = x.length + total l := by simp [total]
    rw [et] at ha ⊢
    refine Ev.bind (markIntS_ev x a h0 (by omega)) (Ev.bind (ih (a + x.length) (by omega) (by omega)) ?_)
    exact Ev.const (by simp only [runs]; congr 2; omega)
theorem heldIntSS_ev (l : List (List Int)) (a : Int) (h0 : 0 ≤ a) (ha : a + total l ≤ 1000000000) (hl : l.length ≤ 1000000000) : Ev (fun k => laws_heldIntSS.f k (runs a l) a) (a + total l) := by
  have key : ∀ (rest : List (List Int)) (done : List (List Int)) (b : Int), 0 ≤ b → done.length + rest.length = l.length → b + total rest ≤ 1000000000 → Ev (fun k => laws_heldIntSS.l0 k (done ++ runs b rest) b (done.length : Int)) (b + total rest) := by
    intro rest
    induction rest with
    | nil =>
      intro done b hb hl hbb
      refine Ev.round (fun k => rfl) ?_
      refine Ev.neg (by simp [runs]) ?_
      exact Ev.const (by simp [total])
    | cons x rest ih =>
      intro done b hb hl hbb
      have et : total (x :: rest) = x.length + total rest := by simp [total]
      rw [et] at hbb ⊢
      simp only [List.length_cons] at hl
      refine Ev.round (fun k => rfl) ?_
      refine Ev.pos (by simp [runs]; omega) (Ev.pos (by omega) ?_)
      rw [rdL_get _ _ (by simp [runs])]
      have eg : (done ++ runs b (x :: rest))[done.length]'(by simp [runs]) = run b x.length := by simp [runs]
      rw [eg]
      refine Ev.bind (heldIntS_ev x.length b hb (by omega)) (Ev.neg (by omega) ?_)
      rw [w64 (by omega) (by omega)]
      have h := ih (done ++ [run b x.length]) (b + x.length) (by omega) (by simp; omega) (by omega)
      simp only [List.append_assoc, List.singleton_append, List.length_append, List.length_singleton, Int.natCast_add] at h
      have e : b + (x.length : Int) + (total rest : Int) = b + ((x.length + total rest : Nat) : Int) := by omega
      rw [← e]; exact h
  have h := key l [] a h0 (by simp) ha
  show Ev (fun k => laws_heldIntSS.l0 k (runs a l) a 0) _
  simpa using h
end Go.Proofs.Ytokkmkncplkpiaa.Q
