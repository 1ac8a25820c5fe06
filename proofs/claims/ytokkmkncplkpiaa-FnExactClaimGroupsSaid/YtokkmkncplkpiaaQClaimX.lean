/- The exact law's own helpers on claims. Plain: no program. -/
import Derived.Test.YtokkmkncplkpiaaQClaimS
import Derived.Test.YtokkmkncplkpiaaP4
import Derived.Test.YtokkmkncplkpiaaP10
import Derived.Test.YtokkmkncplkpiaaP11
namespace Go.Proofs.Ytokkmkncplkpiaa.Q
open Go.RowKit Go.Proofs.YtokkmkncplkpiaaW.PrintWords Go.Proofs.YtokkmkncplkpiaaW.PrintLast Go.Proofs.YtokkmkncplkpiaaW.PrintMore Go.Proofs.Ytokkmkncplkpiaa.P

abbrev Cl0 := S87
theorem rdClaim0_get (l : List Cl0) (i : Nat) (h : i < l.length) : rd_T87 l (i : Int) = l[i] := by
  simp only [rd_T87, Int.toNat_natCast]; rw [List.getD_eq_getElem?_getD, List.getElem?_eq_getElem h]; rfl
def cl (x : Cl0) : Cl := ⟨x.f0, x.f1, x.f2⟩
theorem toClaimS_ev (l : List Cl0) (hl : l.length ≤ 10000000) : Ev (fun k => laws_toClaimS.f k l) (l.map cl) := by
  have key : ∀ (rest : List Cl0) (done : List Cl0), l = done ++ rest → Ev (fun k => laws_toClaimS.l0 k l (done.map cl ++ List.replicate rest.length z84) (done.length : Int)) (l.map cl) := by
    intro rest
    induction rest with
    | nil =>
      intro done e
      have e2 : done = l := by simpa using e.symm
      subst e2
      refine Ev.round (fun k => rfl) (Ev.neg (by omega) ?_)
      exact Ev.const (by simp)
    | cons x rest ih =>
      intro done e
      have hlen : l.length = done.length + (rest.length + 1) := by rw [e]; simp
      have hlt : done.length < l.length := by omega
      refine Ev.round (fun k => rfl) (Ev.pos (by omega) (Ev.pos (by omega) ?_))
      rw [rdClaim0_get l done.length hlt]
      have ex : l[done.length] = x := by subst e; simp
      rw [ex]
      refine Ev.bind (Ev.const (r := (x.f0, x.f1, x.f2)) rfl) (Ev.pos (by simp; omega) ?_)
      rw [w64 (by omega) (by omega), Int.toNat_natCast]
      have h := ih (done ++ [x]) (by rw [e]; simp)
      have e3 : (done.map cl ++ List.replicate (x :: rest).length z84).set done.length (⟨x.f0, x.f1, x.f2⟩ : Cl) = (done ++ [x]).map cl ++ List.replicate rest.length z84 := by
        rw [List.set_append_right _ _ (by simp), List.length_map, Nat.sub_self, List.length_cons, List.replicate_succ, List.set_cons_zero]
        simp [cl]
      have e4 : ((done ++ [x]).length : Int) = (done.length : Int) + 1 := by simp
      rw [e4] at h
      rw [e3]; exact h
  refine Ev.pos (by omega) (Ev.pos (by omega) ?_)
  rw [Int.toNat_natCast]
  exact key l [] rfl
theorem eqClaimS_refl (l : List Cl) (hl : l.length ≤ 1000000000) : Ev (fun k => laws_eqClaimS.f k l l) true := by
  have key : ∀ d i : Nat, l.length - i = d → i ≤ l.length → Ev (fun k => laws_eqClaimS.l0 k l l (i : Int)) true := by
    intro d
    induction d with
    | zero =>
      intro i hd hi
      exact Ev.round (fun k => rfl) (Ev.neg (by omega) (Ev.now _))
    | succ d ih =>
      intro i hd hi
      refine Ev.round (fun k => rfl) (Ev.pos (by omega) (Ev.pos (by omega) (Ev.pos (by omega) (Ev.bind (Ev.const (r := true) ?_) ?_))))
      · unfold laws_eqClaim.f
        rw [if_pos rfl, if_pos rfl, if_neg (by simp)]
      · refine Ev.pos (c := true = true) rfl ?_
        rw [w64 (by omega) (by omega)]
        exact ih (i + 1) (by omega) (by omega)
  exact Ev.pos rfl (key _ 0 rfl (Nat.zero_le _))
theorem markClaimS_ev (l : List Cl) (hl : l.length ≤ 10000000) : ∃ m l', Ev (fun k => laws_markClaimS.f k l 1) (m, l') ∧ 0 ≤ m := by
  have key : ∀ d i : Nat, ∀ (l : List Cl) (a : Int), l.length - i = d → i ≤ l.length → l.length ≤ 10000000 → 0 ≤ a → a + 3 * d ≤ 1000000000 → ∃ m l', Ev (fun k => laws_markClaimS.l0 k l a (i : Int)) (m, l') ∧ 0 ≤ m := by
    intro d
    induction d with
    | zero =>
      intro i l a hd hi hl ha hb
      exact ⟨a, l, Ev.round (fun k => rfl) (Ev.neg (by omega) (Ev.now _)), ha⟩
    | succ d ih =>
      intro i l a hd hi hl ha hb
      have e1 : wrap64 (a + 1) = a + 1 := w64 (by omega) (by omega)
      have e2 : wrap64 (a + 1 + 1) = a + 1 + 1 := w64 (by omega) (by omega)
      have e3 : wrap64 (a + 1 + 1 + 1) = a + 1 + 1 + 1 := w64 (by omega) (by omega)
      have e4 : wrap64 ((i : Int) + 1) = ((i + 1 : Nat) : Int) := w64 (by omega) (by omega)
      obtain ⟨m, l', h1, h2⟩ := ih (i + 1) (((l.set (i : Int).toNat (⟨a, (rd_T84 l (i : Int)).f1, (rd_T84 l (i : Int)).f2⟩ : Cl)).set (i : Int).toNat (⟨(rd_T84 (l.set (i : Int).toNat (⟨a, (rd_T84 l (i : Int)).f1, (rd_T84 l (i : Int)).f2⟩ : Cl)) (i : Int)).f0, a + 1, (rd_T84 (l.set (i : Int).toNat (⟨a, (rd_T84 l (i : Int)).f1, (rd_T84 l (i : Int)).f2⟩ : Cl)) (i : Int)).f2⟩ : Cl)).set (i : Int).toNat _) (a + 1 + 1 + 1) (by simp; omega) (by simp; omega) (by simp; omega) (by omega) (by omega)
      refine ⟨m, l', Ev.round (fun k => rfl) (Ev.pos (by omega) (Ev.pos (by omega) (Ev.bind (Ev.const rfl) (Ev.bind (Ev.const rfl) ?_)))), h2⟩
      rw [e1, e2, e3, e4]
      exact h1
  exact key l.length 0 l 1 (by omega) (Nat.zero_le _) hl (by omega) (by omega)
end Go.Proofs.Ytokkmkncplkpiaa.Q
