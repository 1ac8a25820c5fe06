/- The law FnNewsDelayed returns true at every input, and each argument reads behind the call as it read before. No condition. Laid by genrow.py. -/
import Derived.Test.YtokkmkncplkpiaaRows
import Derived.Test.YtokkmkncplkpiaaQFnNewsDelayed
import Derived.Test.YtokkmkncplkpiaaQOpen
import Derived.WalkKit
import Derived.ProofKit
import Derived.OpenShut
import Derived.ShutString
import Derived.ChangeOld
import Derived.Below
import Derived.SizedLaws
namespace Go.Proofs.Ytokkmkncplkpiaa.fnNewsDelayed
open Go.ChangeShapes Go.WideShapes Go.ChangeAt Go.RowKit
open Go.Proofs.YtokkmkncplkpiaaW.PrintWords Go.Proofs.YtokkmkncplkpiaaW.PrintLast Go.Proofs.YtokkmkncplkpiaaW.PrintMore Go.Proofs.Ytokkmkncplkpiaa.P Go.Proofs.Ytokkmkncplkpiaa.Q
theorem own : ownKnob Try.prog.godebug = none := by kernel_rfl
theorem laidOut : laidOutB Try.prog = true := by kernel_rfl
theorem C3 : Try.prog.cellsOf 3 = 1 := by kernel_rfl
theorem C4 : Try.prog.cellsOf 4 = 1 := by kernel_rfl
theorem C18 : Try.prog.cellsOf 18 = 1 := by kernel_rfl
set_option maxRecDepth 100000 in
theorem lifted (os : Os) (started : os.Started) (H : Type) (enc : TypeId × Value → H) :
    ReturnsInHanded {} Try.checked os 4 .any (Rows.fnNewsDelayedSpec.pre6 enc Try.prog Try.f4 Rows.fnNewsDelayedRow.domain false) (Rows.fnNewsDelayedSpec.post enc Try.prog Try.f4 false true false false) := by
  refine returnsInHanded_of_change_sized (C := Try.checked) own started (by kernel_rfl) Try.func4
    (ChangeSpec.witness6 (enc := enc) (C := Try.checked) false ⟨#[], #[.slice none 0 0, .slice none 0 0], []⟩ 8 (by kernel_rfl) (by kernel_rfl) (by kernel_rfl) (by kernel_rfl)) ?_
  intro W base args ds gs before hval0 hW hcnd hsz0 _
  have hsz : (DataW.weightsEach Try.prog (Try.f4.params.toList ++ Rows.fnNewsDelayedSpec.plain.varTypes Try.prog) (ds ++ gs)).all (· ≤ reachBytes) = true := hsz0
  have hval : ∀ (j : Nat) t v, Try.f4.params[j]? = some t → args[j]? = some v → Value.okWide Try.prog W .any base t v := hval0
  have hW' := hW
  obtain ⟨p, q, hA0, hV, rfl, hfz, hnd⟩ := hW
  have hA : DataW.TrodAll enc Try.prog W 0 (fun _ => true) true Try.f4.params.toList args.toList ds p := hA0
  rw [Try.params4] at hA hval hsz
  obtain ⟨v0, vs0, d0, ds0, p0, q0, hargs, rfl, rfl, h0, r0⟩ := trodAll_cons hA
  obtain ⟨v1, vs1, d1, ds1, p1, q1, rfl, rfl, rfl, h1, r1⟩ := trodAll_cons r0
  obtain ⟨rfl, rfl, rfl⟩ := trodAll_nil r1
  obtain rfl : args = #[v0, v1] := by cases args; simp_all
  obtain ⟨rfl, rfl⟩ := trodVars_none hV
  obtain ⟨a0, len0, cap0, rfl⟩ := okWide_slice Try.underlying34 (hval 0 34 v0 rfl rfl)
  have k0 := h0
  have lt0 : ∀ x ∈ p0, x.block < W.heap.size := by obtain ⟨m, hm⟩ := k0; exact DataW.trod_lt m _ _ _ hm
  obtain ⟨z0, hZ0, hlen0, hcap0, hd0⟩ : ∃ l : List Byte, Kd.C (Kd.iso (Kd.int .u8) (fun z : Byte => z.1)) W a0 l.length l ∧ len0 = l.length ∧ l.length ≤ cap0 ∧ ((d0 = .nil ∧ l.length = 0) ∨ ∃ elems sp, d0 = .slice elems sp ∧ elems.length = l.length) := by
    obtain ⟨fuel, hf⟩ := h0
    exact open_rows (Kd.iso (Kd.int .u8) (fun z : Byte => z.1)) Try.underlying34 (by kernel_rfl) (byte_el Try.underlying5) hf
  obtain ⟨l0, hl0⟩ : ∃ l, l = z0.map (fun z : Byte => z.1) := ⟨_, rfl⟩
  have el0 : l0.length = z0.length := by rw [hl0, List.length_map]
  have hC0 : Kd.C (Kd.int .u8) W a0 l0.length l0 := by rw [el0, hl0]; exact C_of_iso hZ0
  have by0 : Bytes l0 := by rw [hl0]; exact bytes_of z0
  rw [← el0] at hlen0 hcap0 hd0
  subst hlen0
  obtain ⟨a1, len1, cap1, rfl⟩ := okWide_slice Try.underlying34 (hval 1 34 v1 rfl rfl)
  have k1 := h1
  have lt1 : ∀ x ∈ p1, x.block < W.heap.size := by obtain ⟨m, hm⟩ := k1; exact DataW.trod_lt m _ _ _ hm
  obtain ⟨z1, hZ1, hlen1, hcap1, hd1⟩ : ∃ l : List Byte, Kd.C (Kd.iso (Kd.int .u8) (fun z : Byte => z.1)) W a1 l.length l ∧ len1 = l.length ∧ l.length ≤ cap1 ∧ ((d1 = .nil ∧ l.length = 0) ∨ ∃ elems sp, d1 = .slice elems sp ∧ elems.length = l.length) := by
    obtain ⟨fuel, hf⟩ := h1
    exact open_rows (Kd.iso (Kd.int .u8) (fun z : Byte => z.1)) Try.underlying34 (by kernel_rfl) (byte_el Try.underlying5) hf
  obtain ⟨l1, hl1⟩ : ∃ l, l = z1.map (fun z : Byte => z.1) := ⟨_, rfl⟩
  have el1 : l1.length = z1.length := by rw [hl1, List.length_map]
  have hC1 : Kd.C (Kd.int .u8) W a1 l1.length l1 := by rw [el1, hl1]; exact C_of_iso hZ1
  have by1 : Bytes l1 := by rw [hl1]; exact bytes_of z1
  rw [← el1] at hlen1 hcap1 hd1
  subst hlen1
  clear hA0 hval0 hsz0 hsz
  refine (FnNewsDelayed_true a0 cap0 l0 a1 cap1 l1 W hC0 hcap0 by0 hC1 hcap1 by1).mono fun e W' ⟨he, bel⟩ => ?_
  subst he
  exact ⟨_, rfl, _, _, _, [], _, [], hW', trodAll_mk1 (shut_bool Try.underlying4 _), (trodAll_cons_mk (Below.trod laidOut (by kernel_rfl) (of_decide_eq_true (by kernel_rfl)) k0 bel lt0) (trodAll_cons_mk (Below.trod laidOut (by kernel_rfl) (of_decide_eq_true (by kernel_rfl)) k1 bel lt1) trodAll_mk0)), rfl, bel.frame _, fun h => by cases h⟩
theorem over : Rows.fnNewsDelayedRow.holds Try.pinned (OpenSpec.ofChange Rows.fnNewsDelayedSpec) :=
  OpenClaim.holds_of_wide 4 Try.f4 rfl rfl rfl rfl rfl rfl rfl ⟨rfl, rfl, rfl, rfl, rfl⟩ rfl rfl rfl rfl rfl (by kernel_rfl) Try.func4 (by kernel_rfl)
    (of_decide_eq_true (by kernel_rfl)) (by unfold Func.isWrapper; first | (rw [if_pos (by decide +kernel)]; kernel_rfl) | (rw [if_neg (by decide +kernel)]; exact ⟨rfl, rfl⟩))
    (fun os started H enc _ => lifted os started H enc)
theorem proved : Rows.FnNewsDelayedSaid := over
#print axioms proved
end Go.Proofs.Ytokkmkncplkpiaa.fnNewsDelayed
namespace Go.Proofs.Ytokkmkncplkpiaa
theorem fnNewsDelayed_holds : Rows.FnNewsDelayedSaid := fnNewsDelayed.proved
end Go.Proofs.Ytokkmkncplkpiaa
