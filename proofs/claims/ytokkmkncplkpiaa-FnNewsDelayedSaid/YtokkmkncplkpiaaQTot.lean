/- With enough rounds there is an answer, and it has a property. -/
import Derived.Test.YtokkmkncplkpiaaQLib
namespace Go.Proofs.Ytokkmkncplkpiaa.Q
open Go.RowKit Go.Proofs.YtokkmkncplkpiaaW.PrintWords Go.Proofs.YtokkmkncplkpiaaW.PrintLast Go.Proofs.YtokkmkncplkpiaaW.PrintMore
def Tot {α : Type} (g : Nat → Option α) (P : α → Prop) : Prop := ∃ r, Ev g r ∧ P r
theorem Tot.const {α : Type} {P : α → Prop} {o : Option α} {r : α} (h : o = some r) (hp : P r) : Tot (fun _ => o) P := ⟨r, Ev.const h, hp⟩
theorem Tot.step {α : Type} {P : α → Prop} {g f : Nat → Option α} (h : Tot f P) (e : ∀ k, g (k + 1) = f k) : Tot g P := by
  obtain ⟨r, h, hp⟩ := h; exact ⟨r, Ev.step e h, hp⟩
theorem Tot.round {α : Type} {P : α → Prop} {g f : Nat → Option α} (e : ∀ k, g (k + 1) = f k) (h : Tot f P) : Tot g P := Tot.step h e
theorem Tot.pos {α : Type} {P : α → Prop} {c : Prop} [Decidable c] {g f : Nat → Option α} (hc : c) (h : Tot g P) : Tot (fun k => if c then g k else f k) P := by
  obtain ⟨r, h, hp⟩ := h; exact ⟨r, Ev.pos hc h, hp⟩
theorem Tot.neg {α : Type} {P : α → Prop} {c : Prop} [Decidable c] {g f : Nat → Option α} (hc : ¬ c) (h : Tot f P) : Tot (fun k => if c then g k else f k) P := by
  obtain ⟨r, h, hp⟩ := h; exact ⟨r, Ev.neg hc h, hp⟩
theorem Tot.both {α : Type} {P : α → Prop} {c : Prop} [Decidable c] {g f : Nat → Option α} (h : c → Tot g P) (k : ¬ c → Tot f P) : Tot (fun k => if c then g k else f k) P := by
  by_cases hc : c
  · exact Tot.pos hc (h hc)
  · exact Tot.neg hc (k hc)
theorem Tot.bind {α β : Type} {P : β → Prop} {g : Nat → Option α} {f : Nat → α → Option β} {a : α} (h : Ev g a) (k : Tot (fun n => f n a) P) : Tot (fun n => (g n).bind (f n)) P := by
  obtain ⟨r, k, hp⟩ := k; exact ⟨r, Ev.bind h k, hp⟩
theorem Tot.bindc {α β : Type} {P : β → Prop} {o : Option α} {f : Nat → α → Option β} {a : α} (h : o = some a) (k : Tot (fun n => f n a) P) : Tot (fun n => o.bind (f n)) P := Tot.bind (g := fun _ => o) (Ev.const h) k
theorem Tot.mono {α : Type} {P Q : α → Prop} {g : Nat → Option α} (h : Tot g P) (hq : ∀ r, P r → Q r) : Tot g Q := by
  obtain ⟨r, h, hp⟩ := h; exact ⟨r, h, hq r hp⟩
end Go.Proofs.Ytokkmkncplkpiaa.Q
