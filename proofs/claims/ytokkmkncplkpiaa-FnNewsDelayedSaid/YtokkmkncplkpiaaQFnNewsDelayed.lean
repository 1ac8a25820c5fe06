/- FnNewsDelayed answers true at every input. -/
import Derived.Test.YtokkmkncplkpiaaQNewsG
namespace Go.Proofs.Ytokkmkncplkpiaa.Q
open Go.RowKit Go.Proofs.YtokkmkncplkpiaaW.PrintWords Go.Proofs.Ytokkmkncplkpiaa.P Go.Proofs.Ytokkmkncplkpiaa.G
theorem FnNewsDelayed_true (A0 : Option Addr) (c0 : Nat) (l0 : List Int) (A1 : Option Addr) (c1 : Nat) (l1 : List Int) (w : World) (hr0 : Kd.C (Kd.int .u8) w A0 l0.length l0) (hc0 : l0.length ≤ c0) (hs0 : Bytes l0) (hr1 : Kd.C (Kd.int .u8) w A1 l1.length l1) (hc1 : l1.length ≤ c1) (hs1 : Bytes l1) :
    Calls Try.prog 4 #[.slice A0 l0.length c0, .slice A1 l1.length c1] w fun e w' => e = .returned (.bool true) ∧ Below w.heap.size w w' :=
  FnNewsDelayed.calls A0 c0 l0 A1 c1 l1 w hr0 hc0 hr1 hc1 (news_wp l0 l1 hs0 hs1)
end Go.Proofs.Ytokkmkncplkpiaa.Q
