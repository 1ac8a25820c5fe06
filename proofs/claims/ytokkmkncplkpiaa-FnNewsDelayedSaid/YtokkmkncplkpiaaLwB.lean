/- The law walker's words, part B: operations. Plain; no program. -/
import Derived.Test.YtokkmkncplkpiaaLwA
import Derived.BigQuiet
import Derived.IntWalk
import Derived.Handy
set_option linter.unusedVariables false
set_option linter.unusedSimpArgs false
namespace Go.Proofs.Ytokkmkncplkpiaa.Lw
open Go.RowKit Go.Proofs.YtokkmkncplkpiaaW.PrintWords

/-- an operation that yields a value and leaves the world alone -/
def OpV (P : Program) (w0 : World) (N : Nat) (L : List (Nat × Value)) (M : List SP) (o : Oper) (v : Value) : Prop := ∀ a w, St w0 N L M a w → (execOp a.eval o).run P w = .ok (.value v) w

def wr : IntKind → Int → Int
  | .i64, x => wrap64 x
  | k, x => k.wrap x
theorem wr_eq (k : IntKind) (x : Int) : k.wrap x = wr k x := by
  cases k <;> first | rfl | exact IntWalk.i64_left x
def ibin (op : BinOp) (k : IntKind) (a b : Int) : Option Value :=
  match op with
  | .add => some (.int k (wr k (a + b)))
  | .sub => some (.int k (wr k (a - b)))
  | .mul => some (.int k (wr k (a * b)))
  | .eql => some (.bool (a == b))
  | .neq => some (.bool (a != b))
  | .lss => some (.bool (decide (a < b)))
  | .leq => some (.bool (decide (a ≤ b)))
  | .gtr => some (.bool (decide (a > b)))
  | .geq => some (.bool (decide (a ≥ b)))
  | _ => none
def sEq (a b : ByteArray) : Bool := a.toList == b.toList
def sbin (op : BinOp) (a b : ByteArray) : Option Value :=
  match op with
  | .eql => some (.bool (sEq a b))
  | .neq => some (.bool (!sEq a b))
  | _ => none
def bres (op : BinOp) : Value → Value → Option Value
  | .int k a, .int k' b => match decEq k k' with
    | isTrue _ => ibin op k a b
    | isFalse _ => none
  | .string a, .string b => sbin op a b
  | _, _ => none
theorem bres_run {op : BinOp} {x y v : Value} (t : TypeId) (ox oy : Operand) (h : bres op x y = some v) (P : Program) (w : World) : (do eqGuard op t ox oy x y; binOp op t x y : Sem Value).run P w = .ok v w := by
  cases x <;> cases y <;> try (simp [bres] at h; done)
  case int k a k' b =>
    unfold bres at h
    simp only at h
    split at h
    · rename_i e _
      subst e
      cases op <;> simp [ibin] at h <;> subst h <;> simp [go_sem, binOp, eqGuard, Op.intArith, Op.intCmp, wr_eq]
    · cases h
  case string a b =>
    simp only [bres] at h
    cases op <;> simp [sbin] at h <;> subst h <;> simp [go_sem, binOp, eqGuard, Op.stringOp, sEq]
def opv (L : List (Nat × Value)) : Op → Option Value
  | .move x => ev L x
  | .assign x => ev L x
  | .binOp op _ x y _ => match ev L x, ev L y with
    | some a, some b => bres op a b
    | _, _ => none
  | .unOp .not _ x => match ev L x with
    | some (.bool b) => some (.bool (!b))
    | _ => none
  | .pick c a b => match ev L c with
    | some (.bool true) => ev L a
    | some (.bool false) => ev L b
    | _ => none
  | .extract x i => match ev L x with
    | some (.tuple vs) => vs[i]?
    | _ => none
  | _ => none
variable {P : Program} {w0 : World} {N : Nat} {Q : Exit → Act → World → Prop} {L : List (Nat × Value)} {M : List SP}
theorem OpV_pure {o : Oper} {v : Value} (h : opv L o.op = some v) : OpV P w0 N L M o v := by
  intro a w s
  obtain ⟨dst, op, ty, pos, af, gd⟩ := o
  simp only at h
  cases op <;> try (simp [opv] at h; done)
  case move x => rw [← s.fr.eval h]; rfl
  case assign x => rw [← s.fr.eval h]; rfl
  case pick c x y =>
    unfold opv at h
    simp only at h
    split at h
    · rename_i e; have h1 := s.fr.eval e; have h2 := s.fr.eval h; generalize a.eval = ρ at h1 h2 ⊢; simp [go_sem, execOp, h1, h2]
    · rename_i e; have h1 := s.fr.eval e; have h2 := s.fr.eval h; generalize a.eval = ρ at h1 h2 ⊢; simp [go_sem, execOp, h1, h2]
    · cases h
  case binOp op t x y t' =>
    unfold opv at h
    simp only at h
    split at h
    · rename_i u v e1 e2
      have h1 := s.fr.eval e1
      have h2 := s.fr.eval e2
      have h3 := bres_run t x y h P w
      unfold execOp
      simp only [h1, h2]
      simp only [Sem.run_bind] at h3 ⊢
      rw [h3]; rfl
    · cases h
  case unOp op t x =>
    unfold opv at h
    cases op <;> simp only at h <;> try (cases h; done)
    split at h
    · rename_i b e; have h1 := s.fr.eval e; cases h; generalize a.eval = ρ at h1 ⊢; simp [go_sem, execOp, h1, Op.unary]
    · cases h
  case extract x i =>
    unfold opv at h
    simp only at h
    split at h
    · rename_i vs e; have h1 := s.fr.eval e; generalize a.eval = ρ at h1 ⊢; simp [go_sem, execOp, h1, Instr.extract, h]
    · cases h
theorem OpV_boolEq {d t ty pos af gd x y b c} (hu : P.underlying t = some .bool) (hx : ev L x = some (.bool b)) (hy : ev L y = some (.bool c)) : OpV P w0 N L M ⟨d, .binOp .eql t x y t, ty, pos, af, gd⟩ (.bool (b == c)) := by
  intro a w s
  have h1 := s.fr.eval hx
  have h2 := s.fr.eval hy
  generalize a.eval = ρ at h1 h2 ⊢
  simp [go_sem, h1, h2, hu, eqGuard]
theorem OpV_boolNe {d t ty pos af gd x y b c} (hu : P.underlying t = some .bool) (hx : ev L x = some (.bool b)) (hy : ev L y = some (.bool c)) : OpV P w0 N L M ⟨d, .binOp .neq t x y t, ty, pos, af, gd⟩ (.bool (b != c)) := by
  intro a w s
  have h1 := s.fr.eval hx
  have h2 := s.fr.eval hy
  generalize a.eval = ρ at h1 h2 ⊢
  simp [go_sem, h1, h2, hu, eqGuard, bne]
theorem OpV_lenL {d t e ty pos af gd x A n c} (hu : P.underlying t = some (.slice e)) (hx : ev L x = some (.slice A n c)) : OpV P w0 N L M ⟨d, .call ⟨.builtin .len, [x].toArray, [t].toArray⟩, ty, pos, af, gd⟩ (.int .i64 n) := by
  intro a w s
  have h1 := s.fr.eval hx
  generalize a.eval = ρ at h1 ⊢
  simp [go_sem, h1, hu]
theorem OpV_lenS {d t ty pos af gd x b} (hu : P.underlying t = some .string) (hx : ev L x = some (.string b)) : OpV P w0 N L M ⟨d, .call ⟨.builtin .len, [x].toArray, [t].toArray⟩, ty, pos, af, gd⟩ (.int .i64 b.size) := by
  intro a w s
  have h1 := s.fr.eval hx
  generalize a.eval = ρ at h1 ⊢
  simp [go_sem, h1, hu]

/-- one operation of a list -/
theorem wpl_cons {ops rest a w} {o : Oper} (hg : o.guard = none) (h : o.wp P a w (wpList P ops Q rest) Q) : wpList P ops Q (o :: rest) a w := by
  unfold wpList
  rw [if_pos (by simp [Region.wanted, hg])]
  exact .inl h
theorem WL_val {ops rest d op ty pos af v} (hd : Nat.blt d N = true) (hv : OpV P w0 N L M ⟨some d, op, ty, pos, af, none⟩ v) (k : WL P w0 N ops Q rest ((d, v) :: L) M) : WL P w0 N ops Q (⟨some d, op, ty, pos, af, none⟩ :: rest) L M := by
  intro a w s
  refine wpl_cons rfl ?_
  unfold Oper.wp
  rw [hv a w s]
  exact k _ _ (s.put v hd)
theorem V {ops rest d op ty pos af v} (hd : Nat.blt d N = true) (hv : opv L op = some v) (k : WL P w0 N ops Q rest ((d, v) :: L) M) : WL P w0 N ops Q (⟨some d, op, ty, pos, af, none⟩ :: rest) L M := WL_val hd (OpV_pure hv) k
theorem VE {ops rest d t ty pos af x y b c} (hd : Nat.blt d N = true) (hu : P.underlying t = some .bool) (hx : ev L x = some (.bool b)) (hy : ev L y = some (.bool c)) (k : WL P w0 N ops Q rest ((d, .bool (b == c)) :: L) M) : WL P w0 N ops Q (⟨some d, .binOp .eql t x y t, ty, pos, af, none⟩ :: rest) L M := WL_val hd (OpV_boolEq hu hx hy) k
theorem VN {ops rest d t ty pos af x y b c} (hd : Nat.blt d N = true) (hu : P.underlying t = some .bool) (hx : ev L x = some (.bool b)) (hy : ev L y = some (.bool c)) (k : WL P w0 N ops Q rest ((d, .bool (b != c)) :: L) M) : WL P w0 N ops Q (⟨some d, .binOp .neq t x y t, ty, pos, af, none⟩ :: rest) L M := WL_val hd (OpV_boolNe hu hx hy) k
theorem VL {ops rest d t e ty pos af x A n c} (hd : Nat.blt d N = true) (hu : P.underlying t = some (.slice e)) (hx : ev L x = some (.slice A n c)) (k : WL P w0 N ops Q rest ((d, .int .i64 n) :: L) M) : WL P w0 N ops Q (⟨some d, .call ⟨.builtin .len, [x].toArray, [t].toArray⟩, ty, pos, af, none⟩ :: rest) L M := WL_val hd (OpV_lenL hu hx) k
theorem VS {ops rest d t ty pos af x b} (hd : Nat.blt d N = true) (hu : P.underlying t = some .string) (hx : ev L x = some (.string b)) (k : WL P w0 N ops Q rest ((d, .int .i64 b.size) :: L) M) : WL P w0 N ops Q (⟨some d, .call ⟨.builtin .len, [x].toArray, [t].toArray⟩, ty, pos, af, none⟩ :: rest) L M := WL_val hd (OpV_lenS hu hx) k
theorem WL_nil {ops} (h : E w0 N (Q .normal) L M) : WL P w0 N ops Q [] L M := fun a w s => wpList_nil (h a w s)
def gs : List Oper → Nat → Option Nat
  | [], _ => none
  | o :: l, j => match j with | 0 => o.dst | j + 1 => gs l j
theorem gs_eq : ∀ (l : List Oper) (j : Nat), (l[j]?).bind (·.dst) = gs l j
  | [], _ => rfl
  | _ :: _, 0 => rfl
  | _ :: l, j + 1 => gs_eq l j
theorem yielded_of {l : List Oper} {j t : Nat} {b : Bool} {a : Act} {w : World} (s : St w0 N L M a w) (hj : gs l j = some t) (hv : look L t = some (.bool b)) : yielded l.toArray a.tmps j = some b := by
  have h1 := s.fr.get t _ hv
  unfold yielded
  rw [List.getElem?_toArray, gs_eq, hj, Option.bind_some]
  rw [Array.getD_eq_getD_getElem?] at h1
  cases h2 : a.tmps[t]? with
  | none => rw [h2] at h1; simp [undef] at h1
  | some u => rw [h2] at h1; simp only [Option.getD_some] at h1; subst h1; rfl
/-- a guard that says yes: as if there were none -/
theorem WL_gT {l rest dst op ty pos af j t b} (hj : gs l j = some t) (hv : look L t = some (.bool b)) (h : WL P w0 N l.toArray Q (⟨dst, op, ty, pos, af, none⟩ :: rest) L M) : WL P w0 N l.toArray Q (⟨dst, op, ty, pos, af, some (j, b)⟩ :: rest) L M := by
  intro a w s
  have := h a w s
  unfold wpList at this ⊢
  rw [if_pos (by simp [Region.wanted])] at this
  rw [if_pos (by simp [Region.wanted, yielded_of s hj hv])]
  exact this
theorem WL_gF {l rest d op ty pos af j t b c} (hd : Nat.blt d N = true) (hj : gs l j = some t) (hv : look L t = some (.bool b)) (hn : b = !c) (h : WL P w0 N l.toArray Q rest ((d, undef) :: L) M) : WL P w0 N l.toArray Q (⟨some d, op, ty, pos, af, some (j, c)⟩ :: rest) L M := by
  intro a w s
  unfold wpList
  rw [if_neg (by show ¬ ((yielded l.toArray a.tmps j == some c) = true); rw [yielded_of s hj hv, hn]; cases c <;> decide)]
  exact h _ _ (s.put undef hd)
theorem yielded_un {l : List Oper} {j t : Nat} {a : Act} (f : Fr N L a) (hj : gs l j = some t) (hv : look L t = some undef) : yielded l.toArray a.tmps j = none := by
  have h1 := f.get t _ hv
  unfold yielded
  rw [List.getElem?_toArray, gs_eq, hj, Option.bind_some]
  rw [Array.getD_eq_getD_getElem?] at h1
  cases h2 : a.tmps[t]? with
  | none => rfl
  | some u => rw [h2] at h1; simp only [Option.getD_some] at h1; subst h1; rfl
theorem WL_gU {l rest d op ty pos af j t c} (hd : Nat.blt d N = true) (hj : gs l j = some t) (hv : look L t = some undef) (h : WL P w0 N l.toArray Q rest ((d, undef) :: L) M) : WL P w0 N l.toArray Q (⟨some d, op, ty, pos, af, some (j, c)⟩ :: rest) L M := by
  intro a w s
  unfold wpList
  rw [if_neg (by show ¬ ((yielded l.toArray a.tmps j == some c) = true); rw [yielded_un s.fr hj hv]; cases c <;> decide)]
  exact h _ _ (s.put undef hd)
/-- a slot's Bool known -/
theorem St.know {t : Nat} {b c : Bool} {a w} (s : St w0 N L M a w) (hv : look L t = some (.bool b)) (e : b = c) : St w0 N ((t, .bool c) :: L) M a w := by
  refine ⟨⟨s.fr.size, s.fr.defers, fun i v hi => ?_⟩, s.below, s.sep⟩
  unfold look at hi
  by_cases h : t = i
  · subst h
    rw [Nat.beq_refl, cond_true] at hi
    cases hi
    subst e
    exact s.fr.get _ _ hv
  · rw [beqF h, cond_false] at hi
    exact s.fr.get _ _ hi
theorem WL_know {ops l} (t : Nat) {b : Bool} (c : Bool) (hv : look L t = some (.bool b)) (e : b = c) (h : WL P w0 N ops Q l ((t, .bool c) :: L) M) : WL P w0 N ops Q l L M := fun a w s => h a w (s.know hv e)
theorem WL_split {ops l} (t : Nat) {b : Bool} (hv : look L t = some (.bool b)) (hT : b = true → WL P w0 N ops Q l ((t, .bool true) :: L) M) (hF : b = false → WL P w0 N ops Q l ((t, .bool false) :: L) M) : WL P w0 N ops Q l L M := by
  intro a w s
  cases e : b with
  | true => exact hT e a w (s.know hv e)
  | false => exact hF e a w (s.know hv e)
/-- a slot's value spelled anew -/
theorem WL_spell {ops l} (t : Nat) {v v' : Value} (hv : look L t = some v) (e : v = v') (h : WL P w0 N ops Q l ((t, v') :: L) M) : WL P w0 N ops Q l L M := by
  intro a w s
  refine h a w ⟨⟨s.fr.size, s.fr.defers, fun i u hi => ?_⟩, s.below, s.sep⟩
  unfold look at hi
  by_cases h : t = i
  · subst h
    rw [Nat.beq_refl, cond_true] at hi
    cases hi
    subst e
    exact s.fr.get _ _ hv
  · rw [beqF h, cond_false] at hi
    exact s.fr.get _ _ hi

/-- a function that can be entered -/
def Ent (P : Program) (f : FuncId) : Prop := ∃ fn, P.funcs[f]? = some fn ∧ (fn.name == "runtime.NumGoroutine") = false ∧ fn.body.isNone = false
theorem WL_call {σ : Type} {ops rest d f args ats ty pos af vs} {H : σ → Prop} {v : σ → Value} {ms : σ → List SP} (hd : Nat.blt d N = true) (he : Ent P f) (ha : evs L args = some vs)
    (hc : ∀ w, Below w0.heap.size w0 w → Sep w0.heap.size M w (fun _ => True) → Calls P f vs.toArray w (fun e w' => ∃ x, H x ∧ e = .returned (v x) ∧ Below w.heap.size w w' ∧ Sep w.heap.size (ms x) w' (fun _ => True)))
    (k : ∀ x, H x → WL P w0 N ops Q rest ((d, v x) :: L) (ms x ++ M)) : WL P w0 N ops Q (⟨some d, .call ⟨.value (.func f), args.toArray, ats⟩, ty, pos, af, none⟩ :: rest) L M := by
  intro a w s
  obtain ⟨fn, h1, h2, h3⟩ := he
  refine wpl_cons rfl ?_
  unfold Oper.wp
  have e : (execOp a.eval ⟨some d, .call ⟨.value (.func f), args.toArray, ats⟩, ty, pos, af, none⟩).run P w = .ok (.enter f vs.toArray) w := by
    have h4 := s.fr.evals ha
    have h2' : ¬ fn.name = "runtime.NumGoroutine" := by simpa using h2
    have h3' : ¬ fn.body = none := by intro z; rw [z] at h3; cases h3
    have h5 : a.eval (.func f) = .func (.func f) #[] #[] := rfl
    generalize a.eval = ρ at h4 h5 ⊢
    simp [go_sem, execOp, resolve, invoke, Deferred.ofValue, callFunc, h1, h2', h3', h4, h5]
  rw [e]
  refine (hc w s.below s.sep).mono ?_
  rintro e w' ⟨x, hx, rfl, hb, hs⟩
  exact k x hx _ _ ((s.add hb hs).put (v x) hd)
/-- a call that hands back no rows -/
theorem C0 {ops rest d f args ats ty pos af vs v} (hd : Nat.blt d N = true) (he : Ent P f) (ha : evs L args = some vs)
    (hc : ∀ w, Below w0.heap.size w0 w → Sep w0.heap.size M w (fun _ => True) → Calls P f vs.toArray w (fun e w' => e = .returned v ∧ Below w.heap.size w w'))
    (k : WL P w0 N ops Q rest ((d, v) :: L) M) : WL P w0 N ops Q (⟨some d, .call ⟨.value (.func f), args.toArray, ats⟩, ty, pos, af, none⟩ :: rest) L M :=
  WL_call (σ := Unit) (H := fun _ => True) (v := fun _ => v) (ms := fun _ => []) hd he ha (fun w h1 h2 => (hc w h1 h2).mono fun _ _ ⟨h3, h4⟩ => ⟨(), trivial, h3, h4, trivial⟩) (fun _ _ => k)
/-- a call that hands back one row -/
theorem C1 {α : Type} {dk : Kd α} {e : Nat} {l : List α} {ops rest d f args ats ty pos af vs} (val : Value → Value) (hd : Nat.blt d N = true) (he : Ent P f) (ha : evs L args = some vs)
    (hc : ∀ w, Below w0.heap.size w0 w → Sep w0.heap.size M w (fun _ => True) → Calls P f vs.toArray w (fun en w' => ∃ u, en = .returned (val u) ∧ Kd.R dk e w' w.heap.size (fun _ => True) u l ∧ Below w.heap.size w w'))
    (k : ∀ A c, l.length ≤ c → WL P w0 N ops Q rest ((d, val (.slice A l.length c)) :: L) (own dk e (.slice A l.length c) l :: M)) : WL P w0 N ops Q (⟨some d, .call ⟨.value (.func f), args.toArray, ats⟩, ty, pos, af, none⟩ :: rest) L M :=
  WL_call (σ := Option Addr × Nat) (H := fun x => l.length ≤ x.2) (v := fun x => val (.slice x.1 l.length x.2)) (ms := fun x => [own dk e (.slice x.1 l.length x.2) l]) hd he ha
    (fun w h1 h2 => (hc w h1 h2).mono fun en w' ⟨u, h3, h4, h5⟩ => by
      obtain ⟨A, c, rfl, hl, _⟩ := Kd.R_reads h4
      exact ⟨(A, c), hl, h3, h5, fun _ => True, fun _ _ => trivial, h4, trivial⟩) (fun x hx => k x.1 x.2 hx)
/-- what a call of no rows comes to -/
theorem Calls.plain {f : FuncId} {vs : Array Value} {w : World} {e0 : Value} {R : Prop} (hR : R) (h : Calls P f vs w fun e w' => e = .returned e0 ∧ Below w.heap.size w w') :
    Calls P f vs w (fun e w' => ∃ _ : Unit, R ∧ e = .returned e0 ∧ Below w.heap.size w w' ∧ Sep w.heap.size ([] : List SP) w' (fun _ => True)) :=
  h.mono fun _ _ ⟨h1, h2⟩ => ⟨(), hR, h1, h2, trivial⟩
end Go.Proofs.Ytokkmkncplkpiaa.Lw
