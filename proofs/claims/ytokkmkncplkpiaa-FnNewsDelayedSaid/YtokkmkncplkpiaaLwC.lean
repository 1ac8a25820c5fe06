/- The law walker's words, part C: memory. Plain; no program. -/
import Derived.Test.YtokkmkncplkpiaaLwB
import Derived.Laws.Rows
import Derived.Laws.Cells
import Derived.Laws.CopyOwn
set_option linter.unusedVariables false
set_option linter.unusedSimpArgs false
namespace Go.Proofs.Ytokkmkncplkpiaa.Lw
open Go.RowKit Go.Proofs.YtokkmkncplkpiaaW.PrintWords

/-- a block of the call's own: these cells, of this type -/
def cel (g : Nat) (cells : List Value) (t : Nat) : SP where
  p w b ok := ok g ∧ b ≤ g ∧ w.heap[g]? = some (.cells cells.toArray t (0, 0))
  step h hm := ⟨h.1, h.2.1, (hm g h.1 (Array.getElem?_eq_some_iff.mp h.2.2).1).trans h.2.2⟩
  mono h hm := ⟨hm g h.1, h.2⟩
  bound h := ⟨⟨h.1, h.2.1, (Array.getElem?_eq_some_iff.mp h.2.2).1⟩, h.2⟩
  lower h hb := ⟨h.1, Nat.le_trans hb h.2.1, h.2.2⟩
/-- the worlds of a state -/
def Cw (w0 : World) (M : List SP) (w : World) : Prop := Below w0.heap.size w0 w ∧ Sep w0.heap.size M w (fun _ => True)
/-- a row that reads so in each of them -/
def CF {α : Type} (w0 : World) (M : List SP) (d : Kd α) (A : Option Addr) (n : Nat) (xs : List α) : Prop := ∀ w, Cw w0 M w → Kd.C d w A n xs
variable {P : Program} {w0 : World} {N : Nat} {Q : Exit → Act → World → Prop} {L : List (Nat × Value)} {M : List SP} {α : Type} {d : Kd α} {A : Option Addr} {n : Nat} {xs : List α}
theorem CF.arg (h : Kd.C d w0 A n xs) : CF w0 M d A n xs := fun _ hw => Kd.C_below h hw.1
theorem CF.own {e c i} (h : nth M i = some (own d e (.slice A n c) xs)) : CF w0 M d A n xs := fun w hw => by
  have h1 := hw.2.get h
  obtain ⟨A', c', he, _, hc⟩ := Kd.R_reads h1
  injection he with h2 h3 _
  subst h2; subst h3
  exact hc
theorem own_len {e c i w} (hw : Cw w0 M w) (h : nth M i = some (own d e (.slice A n c) xs)) : n = xs.length ∧ n ≤ c := by
  have h1 := hw.2.get h
  obtain ⟨A', c', he, hl, _⟩ := Kd.R_reads h1
  injection he with h2 h3 h4
  subst h4; exact ⟨h3, h3 ▸ hl⟩
/-- an element's cells, as a function of it -/
def Fun (d : Kd α) (f : α → List Value) : Prop := ∀ w x cs, d.K w x cs → cs = f x
def enc1 (k : IntKind) (x : Int) : List Value := [.int k x]
theorem Fun.int (k : IntKind) : Fun (Kd.int k) (fun x => [.int k x]) := fun _ _ _ h => h
theorem Fun.bool : Fun Kd.bool (fun x => [.bool x]) := fun _ _ _ h => h
theorem Fun.string : Fun Kd.string (fun x => [.string x]) := fun _ _ _ h => h
theorem add_add (a : Addr) (m j : Nat) : (a.add m).add j = a.add (m + j) := by
  unfold Addr.add
  by_cases h1 : m = 0
  · subst h1; simp
  · by_cases h2 : j = 0
    · subst h2; simp
    · simp [h1, h2, Nat.add_assoc]
theorem run_sizeOf {t n : Nat} {w : World} (h : (P.info? t).map (·.size) = some n) : (sizeOf t).run P w = .ok n w := by
  cases hq : P.info? t with
  | none => simp [hq] at h
  | some i =>
    have : i.size = n := by simpa [hq] using h
    simp [sizeOf, typeInfo, hq, this]
/-- where a row begins -/
def pt (A : Option Addr) : Addr := match A with
  | some a => a
  | none => ⟨0, 0, none⟩
theorem C_at {w : World} (h : Kd.C d w A n xs) (h0 : 0 < n) : A = some (pt A) := by
  obtain ⟨ad, e, _⟩ := h.2.2 h0
  subst e; rfl
/-- an index into a row -/
theorem OpV_idx {dst t e tT pos af gd x ix c k} {i : Int} (hu : P.underlying tT = some (.slice e)) (hs : (P.info? e).map (·.size) = some d.sz) (hx : ev L x = some (.slice A n c)) (hi : ev L ix = some (.int k i)) (hC : CF w0 M d A n xs) (h0 : 0 ≤ i ∧ i < n) :
    OpV P w0 N L M ⟨dst, .indexAddr tT x ix, t, pos, af, gd⟩ (.pointer (some ((pt A).add (i.toNat * d.sz)))) := by
  intro a w s
  have h1 := s.fr.eval hx
  have h2 := s.fr.eval hi
  have hel : P.elem tT = e := by simp [Program.elem, hu]
  have hA := C_at (hC w ⟨s.below, s.sep⟩) (by omega)
  have h3 : (Instr.indexAt tT (.slice (some (pt A)) n c) (.int k i)).run P w = .ok (.pointer (some ((pt A).add (i.toNat * d.sz)))) w := by
    rw [run_indexAt_slice (P := P) (w := w) tT (pt A) n c k i (by rw [hel]; exact hu), if_pos h0, hel, run_sizeOf hs]; rfl
  show (do pure (.value (← Instr.indexAt tT (a.eval x) (a.eval ix))) : Sem Next).run P w = _
  rw [h1, h2, hA, Sem.run_bind, h3]; rfl
theorem OpV_ptr {o : Oper} {v : Value} {X : Sem Value} (hx : ∀ a w, St w0 N L M a w → (execOp a.eval o).run P w = (do pure (.value (← X)) : Sem Next).run P w) (hv : ∀ w, Cw w0 M w → X.run P w = .ok v w) : OpV P w0 N L M o v := by
  intro a w s
  rw [hx a w s, Sem.run_bind, hv w ⟨s.below, s.sep⟩]; rfl
/-- the type of a variable that is no struct and no array -/
def oneB (P : Program) (t : TypeId) : Bool := match P.underlying t with
  | some (.struct _) => false
  | some (.array _ _) => false
  | some _ => true
  | none => false
theorem run_load1 {t : TypeId} {p : Addr} {v : Value} {w : World} (h : oneB P t = true) (hc : w.cell? p = some v) : (loadVar t p).run P w = .ok v w := by
  unfold oneB at h
  cases hu : P.underlying t with
  | none => rw [hu] at h; cases h
  | some td =>
    have hagg : (isAgg t).run P w = .ok false w := by
      unfold isAgg
      rw [Sem.run_bind, run_underlying hu w]
      rw [hu] at h
      cases td <;> simp_all
    simp [loadVar, Sem.run_bind, hagg, run_load, hc]
theorem run_loadA {t : TypeId} {p : Addr} {cs : List Value} {w : World} (h : ∃ fs, P.underlying t = some (.struct fs)) (hs : (P.info? t).map (·.size) = some cs.length) (hc : ∀ j v, cs[j]? = some v → w.cell? (p.add j) = some v) : (loadVar t p).run P w = .ok (.agg cs.toArray) w := by
  obtain ⟨fs, hu⟩ := h
  have hagg : (isAgg t).run P w = .ok true w := by
    unfold isAgg
    rw [Sem.run_bind, run_underlying hu w]
    rfl
  have h1 := run_sizeOf (w := w) hs
  have h2 := run_loadCells_list (P := P) w p cs hc
  simp [loadVar, Sem.run_bind, hagg, h1, h2]
theorem OpV_load {dst t x ty pos af gd p v} (hx : ev L x = some (.pointer (some p))) (hv : ∀ w, Cw w0 M w → (loadVar t p).run P w = .ok v w) : OpV P w0 N L M ⟨dst, .load t x, ty, pos, af, gd⟩ v :=
  OpV_ptr (X := loadVar t p) (fun a w s => by
    have h1 := s.fr.eval hx
    show (do pure (.value (← Instr.loadAt t (a.eval x))) : Sem Next).run P w = _
    rw [h1]; simp [Instr.loadAt, Instr.sureAddr]) hv
theorem getD_z {i : Int} (h : i.toNat < xs.length) (z z' : α) : xs.getD i.toNat z = xs.getD i.toNat z' := by
  simp [List.getD, List.getElem?_eq_getElem h]
/-- cell 'off' of an element -/
theorem OpV_loadF {dst t x ty pos af gd} {i : Int} {off v f} (z : α) (hx : ev L x = some (.pointer (some (((pt A).add (i.toNat * d.sz)).add off)))) (ht : oneB P t = true) (hC : CF w0 M d A n xs) (hf : Fun d f) (h0 : 0 ≤ i ∧ i < n) (hv : (f (xs.getD i.toNat z))[off]? = some v) :
    OpV P w0 N L M ⟨dst, .load t x, ty, pos, af, gd⟩ v := OpV_load hx fun w hw => by
  obtain ⟨ad', c, e, _, hK, hc⟩ := (hC w hw).get_ z i h0.1 h0.2
  have e2 := C_at (hC w hw) (by omega)
  rw [e2] at e; obtain rfl := Option.some.inj e
  rw [hf _ _ _ hK] at hc
  exact run_load1 ht (by rw [add_add]; exact hc off v hv)
/-- an element of one cell -/
theorem OpV_load1 {dst t x ty pos af gd} {i : Int} {v f} (z : α) (hx : ev L x = some (.pointer (some ((pt A).add (i.toNat * d.sz))))) (ht : oneB P t = true) (hC : CF w0 M d A n xs) (hf : Fun d f) (h0 : 0 ≤ i ∧ i < n) (hv : (f (xs.getD i.toNat z))[0]? = some v) :
    OpV P w0 N L M ⟨dst, .load t x, ty, pos, af, gd⟩ v := OpV_load hx fun w hw => by
  obtain ⟨ad', c, e, _, hK, hc⟩ := (hC w hw).get_ z i h0.1 h0.2
  have e2 := C_at (hC w hw) (by omega)
  rw [e2] at e; obtain rfl := Option.some.inj e
  rw [hf _ _ _ hK] at hc
  exact run_load1 ht (hc 0 v hv)
/-- a whole struct element -/
theorem OpV_loadS {dst t x ty pos af gd} {i : Int} {f} (z : α) (hx : ev L x = some (.pointer (some ((pt A).add (i.toNat * d.sz))))) (ht : ∃ fs, P.underlying t = some (.struct fs)) (hs : (P.info? t).map (·.size) = some d.sz) (hC : CF w0 M d A n xs) (hf : Fun d f) (h0 : 0 ≤ i ∧ i < n) :
    OpV P w0 N L M ⟨dst, .load t x, ty, pos, af, gd⟩ (.agg (f (xs.getD i.toNat z)).toArray) := OpV_load hx fun w hw => by
  obtain ⟨ad', c, e, hl, hK, hc⟩ := (hC w hw).get_ z i h0.1 h0.2
  have e2 := C_at (hC w hw) (by omega)
  rw [e2] at e; obtain rfl := Option.some.inj e
  rw [hf _ _ _ hK] at hc hl
  exact run_loadA ht (by rw [hs, hl]) (fun j v hv => by rw [add_add]; exact hc j v hv)
theorem OpV_loadC {dst t x ty pos af gd g off cells tt v i} (hx : ev L x = some (.pointer (some ((⟨g, 0, none⟩ : Addr).add off)))) (ht : oneB P t = true) (hM : nth M i = some (cel g cells tt)) (hv : cells[off]? = some v) :
    OpV P w0 N L M ⟨dst, .load t x, ty, pos, af, gd⟩ v := OpV_load hx fun w hw => by
  have h1 := (hw.2.get hM).2.2
  refine run_load1 ht ?_
  rw [add_plain, cell_of_row w g off _ _ _ h1]; simpa using hv
theorem OpV_loadC0 {dst t x ty pos af gd g cells tt i} (hx : ev L x = some (.pointer (some ⟨g, 0, none⟩))) (ht : ∃ fs, P.underlying t = some (.struct fs)) (hs : (P.info? t).map (·.size) = some cells.length) (hM : nth M i = some (cel g cells tt)) :
    OpV P w0 N L M ⟨dst, .load t x, ty, pos, af, gd⟩ (.agg cells.toArray) := OpV_load hx fun w hw => by
  have h1 := (hw.2.get hM).2.2
  refine run_loadA ht hs (fun j v hv => ?_)
  rw [add_plain, cell_of_row w g j _ _ _ h1]; simpa using hv
/-- a field's address -/
theorem OpV_field {dst t x ty pos af gd p fs i f} (hx : ev L x = some (.pointer (some p))) (hu : P.underlying t = some (.struct fs)) (hf : fs[i]? = some f) (hs : ∃ m, (P.info? f.type).map (·.size) = some (m + 1)) :
    OpV P w0 N L M ⟨dst, .fieldAddr t x i, ty, pos, af, gd⟩ (.pointer (some (p.add f.offset))) := by
  intro a w s
  have h1 := s.fr.eval hx
  obtain ⟨m, hs⟩ := hs
  show (do pure (.value (← Instr.fieldAt t (a.eval x) i)) : Sem Next).run P w = _
  rw [h1]
  simp [Instr.fieldAt, Instr.sureAddr, run_underlying hu, hf, fieldPlace, run_sizeOf (w := w) hs]
/-- a variable of a struct's type -/
theorem WL_alloc {ops rest dd t ty pos af zs} (hd : Nat.blt dd N = true) (hz : (P.info? t).map (·.zero) = some (some (.agg zs.toArray)))
    (h : ∀ g, WL P w0 N ops Q rest ((dd, .pointer (some ⟨g, 0, none⟩)) :: L) (cel g zs t :: M)) : WL P w0 N ops Q (⟨some dd, .alloc t, ty, pos, af, none⟩ :: rest) L M := by
  intro a w s
  refine wpl_cons rfl ?_
  unfold Oper.wp
  have e : (execOp a.eval ⟨some dd, .alloc t, ty, pos, af, none⟩).run P w = .ok (.value (.pointer (some ⟨w.heap.size, 0, none⟩))) (w.alloc (.cells zs.toArray t)) := by
    cases hq : P.info? t with
    | none => simp [hq] at hz
    | some i =>
      have h2 : i.zero = some (.agg zs.toArray) := by simpa [hq] using hz
      show (do pure (.value (← Instr.alloc t true (.tuple #[]))) : Sem Next).run P w = _
      simp [Instr.alloc, zeroValue, typeInfo, hq, h2, newVar, newRow, Value.cells]
  rw [e]
  have hb : Below w.heap.size w (w.alloc (.cells zs.toArray t)) := below_alloc (Below.refl _ _) _
  refine h w.heap.size _ _ ((s.add (M' := [cel w.heap.size zs t]) hb ⟨fun _ => True, fun _ _ => trivial, ⟨trivial, Nat.le_refl _, ?_⟩, trivial⟩).put _ hd)
  show (w.heap.push _)[w.heap.size]? = _
  simp
theorem Sep.setM {b : Nat} : ∀ {M : List SP} {i : Nat} {g : Nat} {cs cs' : List Value} {t : Nat} {w : World} {w1 : World} {ok : Nat → Prop}, Sep b M w ok → nth M i = some (cel g cs t) → (∀ k, k < w.heap.size → k ≠ g → w1.heap[k]? = w.heap[k]?) → w1.heap[g]? = some (.cells cs'.toArray t (0, 0)) →
    Sep b (M.set i (cel g cs' t)) w1 ok
  | φ :: M, 0, g, cs, cs', t, w, w1, ok, ⟨S, h1, h2, h3⟩, e, hm, hn => by
    cases e
    exact ⟨S, h1, ⟨h2.1, h2.2.1, hn⟩, h3.step (fun k hk hl => hm k hl (fun z => hk.2 (z ▸ h2.1)))⟩
  | φ :: M, i + 1, g, cs, cs', t, w, w1, ok, ⟨S, h1, h2, h3⟩, e, hm, hn => by
    have hg : ok g ∧ ¬ S g := (h3.get (i := i) e).1
    exact ⟨S, h1, φ.step h2 (fun k hk hl => hm k hl (fun z => hg.2 (z ▸ hk))), h3.setM e hm hn⟩
/-- a struct variable written whole -/
theorem WL_store {ops rest t p x ty pos af g cs cs' i} (hp : ev L p = some (.pointer (some ⟨g, 0, none⟩))) (hx : ev L x = some (.agg cs'.toArray)) (hi : (P.info? t).map (·.size) = some cs'.length) (hl : cs.length = cs'.length) (h1 : cs'.all (·.oneCell') = true) (hM : nth M i = some (cel g cs t))
    (h : WL P w0 N ops Q rest L (M.set i (cel g cs' t))) : WL P w0 N ops Q (⟨none, .store t p x, ty, pos, af, none⟩ :: rest) L M := by
  intro a w s
  refine wpl_cons rfl ?_
  unfold Oper.wp
  have hh := s.sep.get hM
  have e : (execOp a.eval ⟨none, .store t p x, ty, pos, af, none⟩).run P w = .ok .skip (w.setRow g cs'.toArray) := by
    have e1 := s.fr.eval hp
    have e2 := s.fr.eval hx
    show (do Instr.storeAt t (a.eval p) (a.eval x); pure .skip : Sem Next).run P w = _
    rw [e1, e2]
    have := run_storeVar_row (P := P) w g t t cs.toArray cs'.toArray hh.2.2 (by simpa using hi) (by simpa using hl) (by simpa using h1)
    simp [Instr.storeAt, Instr.sureAddr, this]
  rw [e]
  refine h _ _ ⟨s.fr, ?_, ?_⟩
  · exact below_setRow s.below hh.2.1 _
  · refine s.sep.setM hM (fun k _ hk => setRow_other w g k _ hk) ?_
    have := setRow_heap w g cs.toArray cs'.toArray t (0, 0) hh.2.2
    exact this

/-! a region that draws its order and leaves the world alone -/
def WQ (P : Program) (w0 : World) (N : Nat) (M : List SP) (ops : Array Oper) (X : Act → Prop) (l : List Oper) (L : List (Nat × Value)) : Prop := ∀ a, Fr N L a → wpQuiet P ops (Cw w0 M) X l a
variable {X : Act → Prop}
theorem W_regionQ {id : Nat} {l : List Oper} (hm : P.follows .mixedOrders = true) (hB : Region.lexB .any l.toArray = true) (h : WQ P w0 N M l.toArray (fun a' => ∀ w', Cw w0 M w' → Q .normal a' w') l L) : W P w0 N (.region id l.toArray true) Q L M :=
  fun a w s => wp_region_quiet (C := Cw w0 M) hm hB ⟨⟨s.below.os, s.below.tape, s.below.output, s.below.size, s.below.block⟩, s.sep.step (fun _ _ _ => rfl)⟩ (by simpa using h a s.fr)
theorem WQ_nil {ops} (h : E w0 N (Q .normal) L M) : WQ P w0 N M ops (fun a' => ∀ w', Cw w0 M w' → Q .normal a' w') [] L := fun a f => wpQuiet_nil (fun w hw => h a w ⟨f, hw.1, hw.2⟩)
theorem WQ_val {ops rest dd op ty pos af v} (hd : Nat.blt dd N = true) (hv : OpV P w0 N L M ⟨some dd, op, ty, pos, af, none⟩ v) (k : WQ P w0 N M ops X rest ((dd, v) :: L)) : WQ P w0 N M ops X (⟨some dd, op, ty, pos, af, none⟩ :: rest) L := by
  intro a f
  unfold wpQuiet
  rw [if_pos (by simp [Region.wanted])]
  refine ⟨v, fun w hw => ?_, k _ (f.put v hd)⟩
  unfold Oper.quietAt
  rw [hv a w ⟨f, hw.1, hw.2⟩]
  exact ⟨rfl, rfl⟩
theorem yielded_ofF {l : List Oper} {j t : Nat} {b : Bool} {a : Act} (f : Fr N L a) (hj : gs l j = some t) (hv : look L t = some (.bool b)) : yielded l.toArray a.tmps j = some b := by
  have h1 := f.get t _ hv
  unfold yielded
  rw [List.getElem?_toArray, gs_eq, hj, Option.bind_some]
  rw [Array.getD_eq_getD_getElem?] at h1
  cases h2 : a.tmps[t]? with
  | none => rw [h2] at h1; simp [undef] at h1
  | some u => rw [h2] at h1; simp only [Option.getD_some] at h1; subst h1; rfl
theorem WQ_gT {l rest dst op ty pos af j t b} (hj : gs l j = some t) (hv : look L t = some (.bool b)) (h : WQ P w0 N M l.toArray X (⟨dst, op, ty, pos, af, none⟩ :: rest) L) : WQ P w0 N M l.toArray X (⟨dst, op, ty, pos, af, some (j, b)⟩ :: rest) L := by
  intro a f
  have := h a f
  unfold wpQuiet at this ⊢
  rw [if_pos (by simp [Region.wanted])] at this
  rw [if_pos (by simp [Region.wanted, yielded_ofF f hj hv])]
  exact this
theorem WQ_gF {l rest dd op ty pos af j t b c} (hd : Nat.blt dd N = true) (hj : gs l j = some t) (hv : look L t = some (.bool b)) (hn : b = !c) (h : WQ P w0 N M l.toArray X rest ((dd, undef) :: L)) : WQ P w0 N M l.toArray X (⟨some dd, op, ty, pos, af, some (j, c)⟩ :: rest) L := by
  intro a f
  unfold wpQuiet
  rw [if_neg (by show ¬ ((yielded l.toArray a.tmps j == some c) = true); rw [yielded_ofF f hj hv, hn]; cases c <;> decide)]
  exact h _ (f.put undef hd)
theorem WQ_gU {l rest dd op ty pos af j t c} (hd : Nat.blt dd N = true) (hj : gs l j = some t) (hv : look L t = some undef) (h : WQ P w0 N M l.toArray X rest ((dd, undef) :: L)) : WQ P w0 N M l.toArray X (⟨some dd, op, ty, pos, af, some (j, c)⟩ :: rest) L := by
  intro a f
  unfold wpQuiet
  rw [if_neg (by show ¬ ((yielded l.toArray a.tmps j == some c) = true); rw [yielded_un f hj hv]; cases c <;> decide)]
  exact h _ (f.put undef hd)
theorem Fr.know {t : Nat} {b c : Bool} {a} (f : Fr N L a) (hv : look L t = some (.bool b)) (e : b = c) : Fr N ((t, .bool c) :: L) a := by
  refine ⟨f.size, f.defers, fun i v hi => ?_⟩
  unfold look at hi
  by_cases h : t = i
  · subst h
    rw [Nat.beq_refl, cond_true] at hi
    cases hi
    subst e
    exact f.get _ _ hv
  · rw [beqF h, cond_false] at hi
    exact f.get _ _ hi
theorem WQ_know {ops l} (t : Nat) {b : Bool} (c : Bool) (hv : look L t = some (.bool b)) (e : b = c) (h : WQ P w0 N M ops X l ((t, .bool c) :: L)) : WQ P w0 N M ops X l L := fun a f => h a (f.know hv e)
theorem WQ_split {ops l} (t : Nat) {b : Bool} (hv : look L t = some (.bool b)) (hT : b = true → WQ P w0 N M ops X l ((t, .bool true) :: L)) (hF : b = false → WQ P w0 N M ops X l ((t, .bool false) :: L)) : WQ P w0 N M ops X l L := by
  intro a f
  cases e : b with
  | true => exact hT e a (f.know hv e)
  | false => exact hF e a (f.know hv e)
theorem C_len {w : World} (h : Kd.C d w A n xs) : xs.length = n := h.1
/-- a call in it -/
theorem WQ_callB {ops rest dd f args ats ty pos af vs v} (hd : Nat.blt dd N = true) (he : Ent P f) (ha : evs L args = some vs)
    (hc : ∀ w, Cw w0 M w → Calls P f vs.toArray w (fun e w' => e = .returned v ∧ Below w.heap.size w w'))
    (k : WQ P w0 N M ops X rest ((dd, v) :: L)) : WQ P w0 N M ops X (⟨some dd, .call ⟨.value (.func f), args.toArray, ats⟩, ty, pos, af, none⟩ :: rest) L := by
  intro a fr
  obtain ⟨fn, h1, h2, h3⟩ := he
  unfold wpQuiet
  rw [if_pos (by simp [Region.wanted])]
  refine ⟨v, fun w hw => ?_, k _ (fr.put v hd)⟩
  unfold Oper.quietAt
  have e : (execOp a.eval ⟨some dd, .call ⟨.value (.func f), args.toArray, ats⟩, ty, pos, af, none⟩).run P w = .ok (.enter f vs.toArray) w := by
    have h4 := fr.evals ha
    have h2' : ¬ fn.name = "runtime.NumGoroutine" := by simpa using h2
    have h3' : ¬ fn.body = none := by intro z; rw [z] at h3; cases h3
    have h5 : a.eval (.func f) = .func (.func f) #[] #[] := rfl
    generalize a.eval = ρ at h4 h5 ⊢
    simp [go_sem, execOp, resolve, invoke, Deferred.ofValue, callFunc, h1, h2', h3', h4, h5]
  rw [e]
  exact ⟨rfl, (hc w hw).mono fun e w' ⟨h6, h7⟩ => ⟨h6, hw.1.trans (h7.mono hw.1.size), hw.2.step (fun k _ hk => h7.block k hk)⟩⟩
end Go.Proofs.Ytokkmkncplkpiaa.Lw
