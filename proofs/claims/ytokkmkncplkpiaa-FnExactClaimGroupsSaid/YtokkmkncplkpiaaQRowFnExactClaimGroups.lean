/- The law FnExactClaimGroups returns true at every input, and each argument reads behind the call as it read before. No condition. Laid by genrow.py. -/
import Derived.Test.YtokkmkncplkpiaaRows
import Derived.Test.YtokkmkncplkpiaaQFnExactClaimGroups
import Derived.Test.YtokkmkncplkpiaaQOpen
import Derived.WalkKit
import Derived.ProofKit
import Derived.OpenShut
import Derived.ShutString
import Derived.ChangeOld
import Derived.Below
import Derived.SizedLaws
namespace Go.Proofs.Ytokkmkncplkpiaa.fnExactClaimGroups
open Go.ChangeShapes Go.WideShapes Go.ChangeAt Go.RowKit
open Go.Proofs.YtokkmkncplkpiaaW.PrintWords Go.Proofs.YtokkmkncplkpiaaW.PrintLast Go.Proofs.YtokkmkncplkpiaaW.PrintMore Go.Proofs.Ytokkmkncplkpiaa.P Go.Proofs.Ytokkmkncplkpiaa.Q
theorem own : ownKnob Try.prog.godebug = none := by kernel_rfl
theorem laidOut : laidOutB Try.prog = true := by kernel_rfl
theorem C3 : Try.prog.cellsOf 3 = 1 := by kernel_rfl
theorem C4 : Try.prog.cellsOf 4 = 1 := by kernel_rfl
theorem C18 : Try.prog.cellsOf 18 = 1 := by kernel_rfl
theorem el1 {H : Type} {enc : TypeId × Value → H} {w : World} {base : Nat} {spare : Nat → Bool} {held : Bool} (n : Nat) (cs : List Value) (y : DataW H × List MemPlace) (h : DataW.trod enc Try.prog w base spare held n 87 cs = some y) (hl : cs.length = (k87).sz) : ∃ z, (k87).K w z cs := by
  obtain ⟨xs, m, rfl, _, _, hxl, hf⟩ := DataW.trod_struct Try.underlying87 h
  obtain ⟨v0, v1, v2, rfl⟩ := len3 (show cs.length = 3 from hl)
  obtain ⟨y0, y1, y2, rfl⟩ := len3 (show xs.length = 3 from hxl)
  have g0 := hf 0 _ rfl
  simp [C3] at g0
  obtain ⟨n0, hc0, _⟩ := DataW.trod_int Try.underlying3 g0
  have g1 := hf 1 _ rfl
  simp [C3] at g1
  obtain ⟨n1, hc1, _⟩ := DataW.trod_int Try.underlying3 g1
  have g2 := hf 2 _ rfl
  simp [C4] at g2
  obtain ⟨n2, hc2, _⟩ := DataW.trod_bool Try.underlying4 g2
  simp only [List.cons.injEq, and_true] at hc0 hc1 hc2
  subst hc0 hc1 hc2
  exact ⟨⟨n0, n1, n2⟩, k87_mk w _⟩
set_option maxRecDepth 100000 in
theorem lifted (os : Os) (started : os.Started) (H : Type) (enc : TypeId × Value → H) :
    ReturnsInHanded {} Try.checked os 3 .any (Rows.fnExactClaimGroupsSpec.pre6 enc Try.prog Try.f3 Rows.fnExactClaimGroupsRow.domain false) (Rows.fnExactClaimGroupsSpec.post enc Try.prog Try.f3 false true false false) := by
  refine returnsInHanded_of_change_sized (C := Try.checked) own started (by kernel_rfl) Try.func3
    (ChangeSpec.witness6 (enc := enc) (C := Try.checked) false ⟨#[], #[.int .i64 0, .slice none 0 0], []⟩ 8 (by kernel_rfl) (by kernel_rfl) (by kernel_rfl) (by kernel_rfl)) ?_
  intro W base args ds gs before hval0 hW hcnd hsz0 _
  have hsz : (DataW.weightsEach Try.prog (Try.f3.params.toList ++ Rows.fnExactClaimGroupsSpec.plain.varTypes Try.prog) (ds ++ gs)).all (· ≤ reachBytes) = true := hsz0
  have hval : ∀ (j : Nat) t v, Try.f3.params[j]? = some t → args[j]? = some v → Value.okWide Try.prog W .any base t v := hval0
  have hW' := hW
  obtain ⟨p, q, hA0, hV, rfl, hfz, hnd⟩ := hW
  have hA : DataW.TrodAll enc Try.prog W 0 (fun _ => true) true Try.f3.params.toList args.toList ds p := hA0
  rw [Try.params3] at hA hval hsz
  obtain ⟨v0, vs0, d0, ds0, p0, q0, hargs, rfl, rfl, h0, r0⟩ := trodAll_cons hA
  obtain ⟨v1, vs1, d1, ds1, p1, q1, rfl, rfl, rfl, h1, r1⟩ := trodAll_cons r0
  obtain ⟨rfl, rfl, rfl⟩ := trodAll_nil r1
  obtain rfl : args = #[v0, v1] := by cases args; simp_all
  obtain ⟨rfl, rfl⟩ := trodVars_none hV
  obtain ⟨a0, rfl, rfl, rfl, w0⟩ := open_int Try.underlying3 (hval 0 3 v0 rfl rfl) h0
  obtain ⟨a1, len1, cap1, rfl⟩ := okWide_slice Try.underlying22 (hval 1 22 v1 rfl rfl)
  have k1 := h1
  have lt1 : ∀ x ∈ p1, x.block < W.heap.size := by obtain ⟨m, hm⟩ := k1; exact DataW.trod_lt m _ _ _ hm
  obtain ⟨l1, hC1, hlen1, hcap1, hd1⟩ : ∃ l, Kd.C k87 W a1 l.length l ∧ len1 = l.length ∧ l.length ≤ cap1 ∧ ((d1 = .nil ∧ l.length = 0) ∨ ∃ elems sp, d1 = .slice elems sp ∧ elems.length = l.length) := by
    obtain ⟨fuel, hf⟩ := h1
    exact open_rows k87 Try.underlying22 (by kernel_rfl) el1 hf
  have y1 : l1.length ≤ 140737488355328 := by
    rcases hd1 with ⟨_, e⟩ | ⟨elems, sp, e, he⟩
    · omega
    · have z := sized_slice hsz (j := 1) (t := 22) rfl (by rw [e]; rfl) Try.underlying22
      have hb : 1 ≤ Try.prog.bytesOf 87 := of_decide_eq_true (by kernel_rfl)
      have hr := reachBytes_lt
      have := Nat.mul_le_mul (Nat.le_refl (elems.length + sp.length)) hb
      omega
  subst hlen1
  clear hA0 hval0 hsz0 hsz
  refine (FnExactClaimGroups_true a0 a1 cap1 l1 W hC1 hcap1 y1).mono fun e W' ⟨he, bel⟩ => ?_
  subst he
  exact ⟨_, rfl, _, _, _, [], _, [], hW', trodAll_mk1 (shut_bool Try.underlying4 _), (trodAll_cons_mk (shut_int Try.underlying3 w0) (trodAll_cons_mk (Below.trod laidOut (by kernel_rfl) (of_decide_eq_true (by kernel_rfl)) k1 bel lt1) trodAll_mk0)), rfl, bel.frame _, fun h => by cases h⟩
theorem over : Rows.fnExactClaimGroupsRow.holds Try.pinned (OpenSpec.ofChange Rows.fnExactClaimGroupsSpec) :=
  OpenClaim.holds_of_wide 3 Try.f3 rfl rfl rfl rfl rfl rfl rfl ⟨rfl, rfl, rfl, rfl, rfl⟩ rfl rfl rfl rfl rfl (by kernel_rfl) Try.func3 (by kernel_rfl)
    (of_decide_eq_true (by kernel_rfl)) (by unfold Func.isWrapper; first | (rw [if_pos (by decide +kernel)]; kernel_rfl) | (rw [if_neg (by decide +kernel)]; exact ⟨rfl, rfl⟩))
    (fun os started H enc _ => lifted os started H enc)
theorem proved : Rows.FnExactClaimGroupsSaid := over
#print axioms proved
end Go.Proofs.Ytokkmkncplkpiaa.fnExactClaimGroups
namespace Go.Proofs.Ytokkmkncplkpiaa
theorem fnExactClaimGroups_holds : Rows.FnExactClaimGroupsSaid := fnExactClaimGroups.proved
end Go.Proofs.Ytokkmkncplkpiaa
