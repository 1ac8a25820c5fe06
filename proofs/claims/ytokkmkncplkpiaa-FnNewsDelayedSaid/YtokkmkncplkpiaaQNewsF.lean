/- What news that are delayed come to at all that is drawn: by evaluation. -/
import Derived.Test.YtokkmkncplkpiaaQNewsD
import Derived.Test.YtokkmkncplkpiaaP5
import Derived.Test.YtokkmkncplkpiaaP6
import Derived.Test.YtokkmkncplkpiaaP7
import Derived.Test.YtokkmkncplkpiaaP8
import Derived.Test.YtokkmkncplkpiaaP9
import Derived.Test.YtokkmkncplkpiaaP10
import Derived.Test.YtokkmkncplkpiaaP11
import Derived.Test.YtokkmkncplkpiaaP16
import Derived.Test.YtokkmkncplkpiaaP17
import Derived.Test.YtokkmkncplkpiaaP20
import Derived.Test.YtokkmkncplkpiaaP21
namespace Go.Proofs.Ytokkmkncplkpiaa.Q
open Go.RowKit Go.Proofs.YtokkmkncplkpiaaW.PrintWords Go.Proofs.YtokkmkncplkpiaaW.PrintLast Go.Proofs.YtokkmkncplkpiaaW.PrintMore Go.Proofs.Ytokkmkncplkpiaa.P

def vA (d m : Int) : Int × Bool := (impl_InformedAt.f 400 d m).getD (0, false)
def vN (d m : Int) : Int × Bool := (impl_NewAt.f 400 d m).getD (0, false)
def vM (d p : Int) : Int × Bool := (impl_MinutesFor.f 400 d p).getD (0, false)
def vG (p m : Int) : Int × Bool := (impl_GreatestDelay.f 400 p m).getD (0, false)
def vQ (e q : Int) : List Sd × Bool := (impl_QuickSends.f 400 e q).getD ([], false)
theorem nA1 : ∀ d ∈ dDs, ∀ m ∈ dMs, impl_InformedAt.f 400 d m = some (vA d m) ∧ spec_InformedAt.f 400 d m = some (vA d m) ∧ impl_NewAt.f 400 d m = some (vN d m) ∧ spec_NewAt.f 400 d m = some (vN d m) ∧ (vN d m).2 = (vA d m).2 := by decide +kernel
theorem nA2 : ∀ d ∈ dDs, ∀ m ∈ dMs, (vA d m).2 = true → 1 ≤ (vA d m).1 ∧ (0 < m → impl_InformedAt.f 400 d (m - 1) = some ((vA d (m - 1)).1, true) ∧ (vN d m).1 = wrap64 ((vA d m).1 - (vA d (m - 1)).1)) ∧ (m ≤ 0 → (vN d m).1 = wrap64 ((vA d m).1 - 0)) := by decide +kernel
theorem nA3 : ∀ d ∈ dDs, ∀ m ∈ dMs, (vA d m).2 = true → m ≥ d → impl_InformedAt.f 400 d (m - d) = some ((vN d m).1, true) := by decide +kernel
theorem nA4 : ∀ d ∈ dDs, ∀ m ∈ dMs, (vA d m).2 = true → (vA d m).1 ≤ 1000000 → impl_MinutesFor.f 400 d (vA d m).1 = some ((vM d (vA d m).1).1, true) ∧ (vM d (vA d m).1).1 ≤ m ∧ ((vN d m).1 > 0 → (vM d (vA d m).1).1 = m) := by decide +kernel
theorem nM1 : ∀ d ∈ dDs, ∀ p ∈ dPs, impl_MinutesFor.f 400 d p = some (vM d p) ∧ spec_MinutesFor.f 400 d p = some (vM d p) := by decide +kernel
theorem nM2 : ∀ d ∈ dDs, ∀ p ∈ dPs, (vM d p).2 = true → (vM d p).1 ≤ 60 → impl_InformedAt.f 400 d (vM d p).1 = some ((vA d (vM d p).1).1, true) ∧ ¬ (vA d (vM d p).1).1 < p ∧ ((vM d p).1 > 0 → impl_InformedAt.f 400 d ((vM d p).1 - 1) = some ((vA d ((vM d p).1 - 1)).1, true) ∧ ¬ (vA d ((vM d p).1 - 1)).1 ≥ p) := by decide +kernel
theorem nG1 : ∀ p ∈ dPs, ∀ m ∈ dMs, impl_GreatestDelay.f 400 p m = some (vG p m) ∧ spec_GreatestDelay.f 400 p m = some (vG p m) := by decide +kernel
theorem nG0 : ∀ p ∈ dPs, ∀ m ∈ dMs, 0 ≤ (vG p m).1 := by decide +kernel
theorem nG2 : ∀ p ∈ dPs, ∀ m ∈ dMs, (vG p m).2 = true → impl_MinutesFor.f 400 (vG p m).1 p = some ((vM (vG p m).1 p).1, true) ∧ ¬ (vM (vG p m).1 p).1 > m ∧ ((vG p m).1 < 10 → impl_MinutesFor.f 400 ((vG p m).1 + 1) p = some ((vM ((vG p m).1 + 1) p).1, true) ∧ ¬ (vM ((vG p m).1 + 1) p).1 ≤ m) := by decide +kernel
theorem Sd_ext {a b : Sd} (h : a.f0 = b.f0 ∧ a.f1 = b.f1 ∧ a.f2 = b.f2) : a = b := by
  cases a; cases b; simp_all
instance : DecidableEq Sd := fun a b => if h : a.f0 = b.f0 ∧ a.f1 = b.f1 ∧ a.f2 = b.f2 then isTrue (Sd_ext h) else isFalse (fun e => h (by rw [e]; exact ⟨rfl, rfl, rfl⟩))
/-- quick sends go to the people in their order, at minutes and from people that rise -/
def quickOk (l : List Sd) : Prop := ∀ i < l.length, (rd_T48 l (i : Int)).f1 = (i : Int) + 1 ∧ (0 < i → ¬ (rd_T48 l ((i : Int) - 1)).f2 > (rd_T48 l (i : Int)).f2 ∧ ((rd_T48 l ((i : Int) - 1)).f2 = (rd_T48 l (i : Int)).f2 → ¬ (rd_T48 l ((i : Int) - 1)).f0 ≥ (rd_T48 l (i : Int)).f0))
instance (l : List Sd) : Decidable (quickOk l) := by unfold quickOk; infer_instance
theorem nQ1 : ∀ e ∈ dEs, ∀ q ∈ dQs, impl_QuickSends.f 400 e q = some (vQ e q) ∧ spec_QuickSends.f 400 e q = some (vQ e q) ∧ laws_dSends.f 400 (vQ e q).1 (vQ e q).1 = some true := by decide +kernel
theorem nQ2 : ∀ e ∈ dEs, ∀ q ∈ dQs, (vQ e q).2 = true → impl_AreSends.f 400 e q (vQ e q).1 = some (true, true) ∧ impl_LateBy.f 400 e q (vQ e q).1 = some (0, true) ∧ ((vQ e q).1.length : Int) = wrap64 (q - 1) ∧ (vQ e q).1.length ≤ 100 := by decide +kernel
theorem nQ3 : ∀ e ∈ dEs, ∀ q ∈ dQs, quickOk (vQ e q).1 := by decide +kernel
structure NewsA (d m all : Int) (ok : Bool) (fresh before need : Int) : Prop where
  a1 : impl_InformedAt.f 400 d m = some (all, ok)
  a2 : spec_InformedAt.f 400 d m = some (all, ok)
  a3 : impl_NewAt.f 400 d m = some (fresh, ok)
  a4 : spec_NewAt.f 400 d m = some (fresh, ok)
  a5 : ok = true → 1 ≤ all
  a6 : ok = true → 0 < m → impl_InformedAt.f 400 d (m - 1) = some (before, true) ∧ fresh = wrap64 (all - before)
  a7 : ok = true → m ≤ 0 → fresh = wrap64 (all - 0)
  a8 : ok = true → m ≥ d → impl_InformedAt.f 400 d (m - d) = some (fresh, true)
  a9 : ok = true → all ≤ 1000000 → impl_MinutesFor.f 400 d all = some (need, true) ∧ need ≤ m ∧ (fresh > 0 → need = m)
  m0 : -1 ≤ m ∧ m ≤ 61
  d0 : 0 ≤ d ∧ d ≤ 11
theorem newsA (d m : Int) (hd : d ∈ dDs) (hm : m ∈ dMs) : ∃ all ok fresh before need, NewsA d m all ok fresh before need := by
  obtain ⟨h1, h2, h3, h4, h5⟩ := nA1 d hd m hm
  have h6 := nA2 d hd m hm
  have h7 := nA3 d hd m hm
  have h8 := nA4 d hd m hm
  have e : vN d m = ((vN d m).1, (vA d m).2) := by rw [← h5]
  refine ⟨(vA d m).1, (vA d m).2, (vN d m).1, (vA d (m - 1)).1, (vM d (vA d m).1).1, h1, h2, h3.trans (by rw [e]), h4.trans (by rw [e]), fun h => (h6 h).1, fun h => (h6 h).2.1, fun h => (h6 h).2.2, h7, h8, ?_, ?_⟩
  · simp [dMs] at hm; omega
  · simp [dDs] at hd; omega
structure NewsB (d p need : Int) (three : Bool) (many less : Int) (gp gm great : Int) (five : Bool) (by_ later : Int) : Prop where
  g0 : 0 ≤ great
  b1 : impl_MinutesFor.f 400 d p = some (need, three)
  b2 : spec_MinutesFor.f 400 d p = some (need, three)
  b3 : impl_GreatestDelay.f 400 gp gm = some (great, five)
  b4 : spec_GreatestDelay.f 400 gp gm = some (great, five)
  b5 : three = true → need ≤ 60 → impl_InformedAt.f 400 d need = some (many, true) ∧ ¬ many < p
  b6 : three = true → need ≤ 60 → need > 0 → impl_InformedAt.f 400 d (need - 1) = some (less, true) ∧ ¬ less ≥ p
  b7 : five = true → impl_MinutesFor.f 400 great gp = some (by_, true) ∧ ¬ by_ > gm
  b8 : five = true → great < 10 → impl_MinutesFor.f 400 (great + 1) gp = some (later, true) ∧ ¬ later ≤ gm
theorem newsB (d p gp gm : Int) (hd : d ∈ dDs) (hp : p ∈ dPs) (hgp : gp ∈ dPs) (hgm : gm ∈ dMs) : ∃ need three many less great five by_ later, NewsB d p need three many less gp gm great five by_ later := by
  obtain ⟨h1, h2⟩ := nM1 d hd p hp
  have h3 := nM2 d hd p hp
  obtain ⟨h4, h5⟩ := nG1 gp hgp gm hgm
  have h6 := nG2 gp hgp gm hgm
  exact ⟨(vM d p).1, (vM d p).2, (vA d (vM d p).1).1, (vA d ((vM d p).1 - 1)).1, (vG gp gm).1, (vG gp gm).2, (vM (vG gp gm).1 gp).1, (vM ((vG gp gm).1 + 1) gp).1, nG0 gp hgp gm hgm, h1, h2, h4, h5, fun a b => ⟨(h3 a b).1, (h3 a b).2.1⟩, fun a b => (h3 a b).2.2, fun a => ⟨(h6 a).1, (h6 a).2.1⟩, fun a => (h6 a).2.2⟩
structure NewsC (e q : Int) (l : List Sd) (ok : Bool) : Prop where
  c1 : impl_QuickSends.f 400 e q = some (l, ok)
  c2 : spec_QuickSends.f 400 e q = some (l, ok)
  c3 : laws_dSends.f 400 l l = some true
  c4 : ok = true → impl_AreSends.f 400 e q l = some (true, true)
  c5 : ok = true → impl_LateBy.f 400 e q l = some (0, true)
  c6 : ok = true → (l.length : Int) = wrap64 (q - 1)
  c7 : ok = true → l.length ≤ 100
  c8 : quickOk l
theorem newsC (e q : Int) (he : e ∈ dEs) (hq : q ∈ dQs) : ∃ l ok, NewsC e q l ok := by
  obtain ⟨h1, h2, h3⟩ := nQ1 e he q hq
  have h4 := nQ2 e he q hq
  exact ⟨(vQ e q).1, (vQ e q).2, h1, h2, h3, fun h => (h4 h).1, fun h => (h4 h).2.1, fun h => (h4 h).2.2.1, fun h => (h4 h).2.2.2, nQ3 e he q hq⟩

end Go.Proofs.Ytokkmkncplkpiaa.Q
