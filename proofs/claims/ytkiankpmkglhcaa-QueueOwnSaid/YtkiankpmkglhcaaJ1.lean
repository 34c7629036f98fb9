/- The rules for quiet operations: loads, addresses, arithmetic, lengths, slicing, conversions. -/
import Derived.Test.YtkiankpmkglhcaaJ0
namespace Go.Proofs.Ytkiankpmkglhcaa.J
open Go Go.RowKit
set_option linter.unusedVariables false
set_option linter.unusedSimpArgs false

def isAggD : TypeDesc → Bool
  | .struct _ | .array _ _ => true
  | _ => false

/-- Of a type: is it made of cells, how many, how many bytes. -/
def tySz (P : Program) (t : TypeId) : Option (Bool × Nat × Nat) :=
  match P.info? t, P.underlying t with
  | some i, some d => some (isAggD d, i.size, i.bytes)
  | _, _ => none

def fieldOff (P : Program) (s : TypeId) (f : Nat) : Option Nat :=
  match P.underlying s with
  | some (.struct fs) => match fs[f]? with
    | some fd => if P.info? fd.type |>.any (·.size ≠ 0) then some fd.offset else none
    | none => none
  | _ => none

section
variable {P : Program} {E : Ent} {st : St} {t : TypeId} {g : Bool} {n B : Nat} {w : World}

theorem tySz_info (h : tySz P t = some (g, n, B)) : ∃ i d, P.info? t = some i ∧ P.underlying t = some d ∧ i.size = n ∧ i.bytes = B ∧ isAggD d = g := by
  unfold tySz at h
  split at h
  · rename_i i d h1 h2
    simp only [Option.some.injEq, Prod.mk.injEq] at h
    exact ⟨i, d, h1, h2, h.2.1, h.2.2, h.1⟩
  · cases h

theorem run_underlying (d : TypeDesc) (h : P.underlying t = some d) : (underlying t).run P w = .ok d w := by
  simp [underlying, h]

theorem run_typeInfo {i : TypeInfo} (h : P.info? t = some i) : (typeInfo t).run P w = .ok i w := by
  simp [typeInfo, h]

theorem run_isAgg (h : tySz P t = some (g, n, B)) : (isAgg t).run P w = .ok g w := by
  obtain ⟨i, d, _, h2, _, _, h5⟩ := tySz_info h
  simp only [isAgg, Sem.run_bind, run_underlying d h2, Result.andThen_ok]
  cases d <;> simp_all [isAggD]

theorem run_sizeOf (h : tySz P t = some (g, n, B)) : (sizeOf t).run P w = .ok n w := by
  obtain ⟨i, d, h1, _, h3, _, _⟩ := tySz_info h
  simp [sizeOf, run_typeInfo h1, h3]

theorem add_at (b off i : Nat) : Addr.add ⟨b, off, none⟩ i = ⟨b, off + i, none⟩ := by
  unfold Addr.add
  split
  · rename_i h; subst h; rfl
  · rfl

theorem cell_at {b off : Nat} {cs : Array Value} {ty : TypeId} {fz : Nat × Nat} (h : w.heap[b]? = some (.cells cs ty fz)) : w.cell? ⟨b, off, none⟩ = cs[off]? := by
  simp [World.cell?, h]

theorem run_load_at {b off : Nat} {cs : Array Value} {ty : TypeId} {fz : Nat × Nat} {v : Value} (h : w.heap[b]? = some (.cells cs ty fz)) (hv : cs[off]? = some v) :
    (load ⟨b, off, none⟩).run P w = .ok v w := by
  have : w.cell? ⟨b, off, none⟩ = some v := by rw [cell_at h]; exact hv
  simp [this]

theorem run_loadCells {b : Nat} {cs : Array Value} {ty : TypeId} {fz : Nat × Nat} (h : w.heap[b]? = some (.cells cs ty fz)) : ∀ (n off i : Nat) (acc : Array Value) (u : Nat → Value),
    (∀ k, k < n → cs[off + i + k]? = some (u k)) → (loadCellsFrom ⟨b, off, none⟩ i n acc).run P w = .ok (acc ++ (Array.range n).map u) w := by
  intro n
  induction n with
  | zero => intro off i acc u _; simp [loadCellsFrom]
  | succ n ih =>
    intro off i acc u hu
    have h0 : cs[off + i]? = some (u 0) := hu 0 (by omega)
    simp only [loadCellsFrom, Sem.run_bind, add_at, run_load_at h h0, Result.andThen_ok]
    rw [ih off (i + 1) (acc.push (u 0)) (fun k => u (k + 1)) (fun k hk => by have := hu (k + 1) (by omega); rw [show off + (i + 1) + k = off + i + (k + 1) by omega]; exact this)]
    congr 1
    apply Array.ext'
    simp [List.range_succ_eq_map, Function.comp_def]

/-- A load of a type's cells from a block. -/
theorem run_loadVar {b off : Nat} {cs : Array Value} {ty : TypeId} {fz : Nat × Nat} {A : Foot} {ys : List AV} (hT : tySz P t = some (true, n, B))
    (h : w.heap[b]? = some (.cells cs ty fz)) (hc : Cells w A cs off ys) (hl : ys.length = n) :
    ∃ v, (loadVar t ⟨b, off, none⟩).run P w = .ok v w ∧ Rd w A v (.agg ys) := by
  have hu : ∀ k, k < n → ∃ u, (cs[off + k]? = some u ∧ u.oneCell' = true) ∧ ∀ y, ys[k]? = some y → Rd w A u y := fun k hk => by
    obtain ⟨y, hy⟩ : ∃ y, ys[k]? = some y := ⟨ys[k]'(by omega), List.getElem?_eq_getElem _⟩
    obtain ⟨u, h1, h0, h2⟩ := hc k y hy
    exact ⟨u, ⟨h1, h0⟩, fun y' hy' => by rw [hy] at hy'; cases hy'; exact h2⟩
  let u : Nat → Value := fun k => if hk : k < n then Classical.choose (hu k hk) else undef
  have hus : ∀ k, k < n → (cs[off + k]? = some (u k) ∧ (u k).oneCell' = true) ∧ ∀ y, ys[k]? = some y → Rd w A (u k) y := fun k hk => by
    have := Classical.choose_spec (hu k hk)
    simp only [u, dif_pos hk]
    exact this
  refine ⟨.agg ((Array.range n).map u), ?_, .agg _ _ u (by simp [hl]) (fun k y hk => ?_) (fun k y hk => ?_)⟩
  · simp only [loadVar, Sem.run_bind, run_isAgg hT, Result.andThen_ok, if_true, run_sizeOf hT, loadCells]
    rw [run_loadCells h n off 0 #[] u (fun k hk => by simpa using (hus k hk).1.1)]
    simp
  · have hk' : k < n := by rw [← hl]; exact (List.getElem?_eq_some_iff.1 hk).1
    exact ⟨by simp [hk'], (hus k hk').1.2⟩
  · have hk' : k < n := by rw [← hl]; exact (List.getElem?_eq_some_iff.1 hk).1
    exact (hus k hk').2 y hk

theorem run_loadVar1 {b off : Nat} {cs : Array Value} {ty : TypeId} {fz : Nat × Nat} {A : Foot} {y : AV} (hT : tySz P t = some (false, n, B))
    (h : w.heap[b]? = some (.cells cs ty fz)) {u : Value} (hc : cs[off]? = some u) (hr : Rd w A u y) :
    ∃ v, (loadVar t ⟨b, off, none⟩).run P w = .ok v w ∧ Rd w A v y :=
  ⟨u, by simp only [loadVar, Sem.run_bind, run_isAgg hT, Result.andThen_ok, Bool.false_eq_true, if_false, run_load_at h hc], hr⟩

theorem Rd.of_ref {A : Foot} {v : Value} {fr : Bool} {ys : List AV} (h : Rd w A v (.ref fr ys)) :
    ∃ b off cs t fz, v = .pointer (some ⟨b, off, none⟩) ∧ A fr b ∧ w.heap[b]? = some (.cells cs t fz) ∧ Cells w A cs off ys := by
  cases h with
  | ref _ _ b off cs t fz u hA hb hu hr => exact ⟨b, off, cs, t, fz, rfl, hA, hb, fun k y hk => ⟨u k, (hu k y hk).1, (hu k y hk).2, hr k y hk⟩⟩

theorem Cells.drop {A : Foot} {us : Array Value} {off : Nat} {ys : List AV} (h : Cells w A us off ys) (k : Nat) : Cells w A us (off + k) (ys.drop k) := fun j y hj => by
  rw [List.getElem?_drop] at hj
  obtain ⟨u, h1, h0, h2⟩ := h _ _ hj
  exact ⟨u, by rw [Nat.add_assoc]; exact h1, h0, h2⟩
theorem Cells.take {A : Foot} {us : Array Value} {off : Nat} {ys : List AV} (h : Cells w A us off ys) (k : Nat) : Cells w A us off (ys.take k) := fun j y hj => by
  rw [List.getElem?_take] at hj
  split at hj
  · exact h _ _ hj
  · cases hj

theorem Rd.mk_ref {A : Foot} {fr : Bool} {ys : List AV} {b off : Nat} {cs : Array Value} {ty : TypeId} {fz : Nat × Nat} (hA : A fr b) (hb : w.heap[b]? = some (.cells cs ty fz)) (hc : Cells w A cs off ys) :
    Rd w A (.pointer (some ⟨b, off, none⟩)) (.ref fr ys) := by
  refine .ref fr ys b off cs ty fz (fun k => cs.getD (off + k) undef) hA hb (fun k y hk => ?_) (fun k y hk => ?_)
  · obtain ⟨u, h1, h0, _⟩ := hc k y hk
    simp [Array.getD_eq_getD_getElem?, h1, h0]
  · obtain ⟨u, h1, _, h2⟩ := hc k y hk
    simpa [Array.getD_eq_getD_getElem?, h1] using h2

/-! ### quiet operations -/
section
variable {d : Option Tmp} {ty : TypeId} {pos : String} {af : Array Edge} {gd : Option (Nat × Bool)} {x y z : Operand} {v u : AV}

theorem QW.move (h : Ev E st x v) : QW P E st ⟨d, .move x, ty, pos, af, gd⟩ v := .pure fun A a w hs => ⟨_, rfl, h A a w hs⟩
theorem QW.assign (h : Ev E st x v) : QW P E st ⟨d, .assign x, ty, pos, af, gd⟩ v := .pure fun A a w hs => ⟨_, rfl, h A a w hs⟩

theorem QW.load_ref {fr : Bool} {ys zs : List AV} (hT : tySz P t = some (true, n, B)) (h : Ev E st x (.ref fr ys)) (hz : ys.take n = zs) (hl : zs.length = n) :
    QW P E st ⟨d, .load t x, ty, pos, af, gd⟩ (.agg zs) := .pure fun A a w hs => by
  obtain ⟨b, off, cs, t', fz, hv, _, hb, hc⟩ := (h A a w hs).of_ref
  subst hz
  obtain ⟨v, h1, h2⟩ := run_loadVar hT hb (hc.take n) hl
  exact ⟨v, by simp only [execOp, Instr.loadAt, hv, Instr.sureAddr, Sem.run_bind, Sem.run_pure, Result.andThen_ok, h1], h2⟩

theorem QW.load_ref1 {fr : Bool} {ys : List AV} (hT : tySz P t = some (false, n, B)) (h : Ev E st x (.ref fr ys)) (hy : ys[0]? = some v) :
    QW P E st ⟨d, .load t x, ty, pos, af, gd⟩ v := .pure fun A a w hs => by
  obtain ⟨b, off, cs, t', fz, hv, _, hb, hc⟩ := (h A a w hs).of_ref
  obtain ⟨u, h3, _, h4⟩ := hc 0 _ hy
  obtain ⟨v, h1, h2⟩ := run_loadVar1 hT hb (by simpa using h3) h4
  exact ⟨v, by simp only [execOp, Instr.loadAt, hv, Instr.sureAddr, Sem.run_bind, Sem.run_pure, Result.andThen_ok, h1], h2⟩

theorem SatA.box {A : Foot} {a : Act} (hs : SatA E A st a w) {b : Nat} {ys : List AV} (i : Nat) (ho : st.own[i]? = some (.box b ys)) :
    ∃ us t, w.heap[b]? = some (.cells us t (0, 0)) ∧ us.size = ys.length ∧ Cells w A us 0 ys := hs.hp.own _ (List.mem_of_getElem? ho)

theorem QW.load_box (i : Nat) {b off : Nat} {ys zs : List AV} (hT : tySz P t = some (true, n, B)) (h : Ev E st x (.c (.pointer (some ⟨b, off, none⟩)))) (ho : st.own[i]? = some (.box b ys))
    (hz : (ys.drop off).take n = zs) (hl : zs.length = n) : QW P E st ⟨d, .load t x, ty, pos, af, gd⟩ (.agg zs) := .pure fun A a w hs => by
  obtain ⟨us, t', hb, _, hc⟩ := hs.box i ho
  subst hz
  obtain ⟨v, h1, h2⟩ := run_loadVar hT hb ((hc.drop off).take n) hl
  rw [Nat.zero_add] at h1
  exact ⟨v, by simp only [execOp, Instr.loadAt, h.eq hs, Instr.sureAddr, Sem.run_bind, Sem.run_pure, Result.andThen_ok, h1], h2⟩

theorem QW.load_box1 (i : Nat) {b off : Nat} {ys : List AV} (hT : tySz P t = some (false, n, B)) (h : Ev E st x (.c (.pointer (some ⟨b, off, none⟩)))) (ho : st.own[i]? = some (.box b ys))
    (hy : ys[off]? = some v) : QW P E st ⟨d, .load t x, ty, pos, af, gd⟩ v := .pure fun A a w hs => by
  obtain ⟨us, t', hb, _, hc⟩ := hs.box i ho
  obtain ⟨u, h3, _, h4⟩ := hc _ _ hy
  obtain ⟨v, h1, h2⟩ := run_loadVar1 hT hb (by simpa using h3) h4
  exact ⟨v, by simp only [execOp, Instr.loadAt, h.eq hs, Instr.sureAddr, Sem.run_bind, Sem.run_pure, Result.andThen_ok, h1], h2⟩

theorem fieldOff_run {f o : Nat} (h : fieldOff P t f = some o) (b off : Nat) : (Instr.fieldAt t (.pointer (some ⟨b, off, none⟩)) f).run P w = .ok (.pointer (some ⟨b, off + o, none⟩)) w := by
  unfold fieldOff at h
  split at h
  · rename_i fs hfs
    split at h
    · rename_i fd hfd
      split at h
      · rename_i hany
        cases h
        have : ∃ i, P.info? fd.type = some i ∧ i.size ≠ 0 := by
          cases hi : P.info? fd.type with
          | none => simp [hi] at hany
          | some i => exact ⟨i, rfl, by simpa [hi] using hany⟩
        obtain ⟨i, hi, hne⟩ := this
        simp only [Instr.fieldAt, Sem.run_bind, run_underlying _ hfs, Result.andThen_ok, hfd, Instr.sureAddr, Sem.run_pure, fieldPlace, sizeOf, run_typeInfo hi, if_neg hne, add_at]
      · cases h
    · cases h
  · cases h

theorem QW.field_ref {fr : Bool} {ys zs : List AV} {f o : Nat} (hF : fieldOff P t f = some o) (h : Ev E st x (.ref fr ys)) (hz : ys.drop o = zs) :
    QW P E st ⟨d, .fieldAddr t x f, ty, pos, af, gd⟩ (.ref fr zs) := .pure fun A a w hs => by
  obtain ⟨b, off, cs, t', fz, hv, hA, hb, hc⟩ := (h A a w hs).of_ref
  subst hz
  exact ⟨_, by simp only [execOp, hv, Sem.run_bind, fieldOff_run hF, Result.andThen_ok, Sem.run_pure], .mk_ref hA hb (hc.drop o)⟩

theorem QW.field_ptr {b off f o o' : Nat} (hF : fieldOff P t f = some o) (h : Ev E st x (.c (.pointer (some ⟨b, off, none⟩)))) (ho : off + o = o') :
    QW P E st ⟨d, .fieldAddr t x f, ty, pos, af, gd⟩ (.c (.pointer (some ⟨b, o', none⟩))) := .pure fun A a w hs => by
  subst ho
  exact ⟨_, by simp only [execOp, h.eq hs, Sem.run_bind, fieldOff_run hF, Result.andThen_ok, Sem.run_pure], .c _⟩

theorem QW.nil_ref {fr : Bool} {ys : List AV} (h : Ev E st x (.ref fr ys)) : QW P E st ⟨d, .nilCheck x, ty, pos, af, gd⟩ (.ref fr ys) := .pure fun A a w hs => by
  have hr := h A a w hs
  obtain ⟨b, off, cs, t', fz, hv, hA, hb, hc⟩ := hr.of_ref
  exact ⟨_, by simp [execOp, hv], hv ▸ hr⟩
theorem QW.nil_ptr {a : Addr} (h : Ev E st x (.c (.pointer (some a)))) : QW P E st ⟨d, .nilCheck x, ty, pos, af, gd⟩ (.c (.pointer (some a))) := .pure fun A a w hs =>
  ⟨_, by simp [execOp, h.eq hs], .c _⟩

theorem Rd.of_sl {A : Foot} {v : Value} {fr clip : Bool} {e : ETy} {xs : List (List AV)} (h : Rd w A v (.sl fr clip e xs)) :
    ∃ a cap, v = .slice a xs.length cap ∧ (clip = true → cap = xs.length) ∧ xs.length ≤ cap ∧ ((xs = []) ∨ ∃ b off cs t fz, a = some ⟨b, off, none⟩ ∧ A fr b ∧ w.heap[b]? = some (.cells cs t fz) ∧
      (∀ x ∈ xs, x.length = e.sz) ∧ xs.length * e.bytes ≤ reach ∧ Cells w A cs off xs.flatten) := by
  cases h with
  | emp _ _ _ a cap hc => exact ⟨a, cap, rfl, hc, by simp, .inl rfl⟩
  | sl _ _ _ _ b off cap cs t fz u hA hb hcap hclip hsz hreach hu hr =>
    exact ⟨_, cap, rfl, hclip, hcap, .inr ⟨b, off, cs, t, fz, rfl, hA, hb, hsz, hreach, fun k y hk => ⟨u k, (hu k y hk).1, (hu k y hk).2, hr k y hk⟩⟩⟩

theorem flatten_get {α : Type} {sz : Nat} : ∀ (xs : List (List α)), (∀ x ∈ xs, x.length = sz) → ∀ (i : Nat) (x : List α), xs[i]? = some x → ∀ j (y : α), x[j]? = some y → xs.flatten[i * sz + j]? = some y
  | [], _, i, x, h, _, _, _ => by simp at h
  | a :: xs, hs, 0, x, h, j, y, hj => by
    simp at h; subst h
    simp only [List.flatten_cons, Nat.zero_mul, Nat.zero_add]
    rw [List.getElem?_append_left (List.getElem?_eq_some_iff.1 hj).1]; exact hj
  | a :: xs, hs, i + 1, x, h, j, y, hj => by
    have ha : a.length = sz := hs a (by simp)
    have := flatten_get xs (fun x hx => hs x (by simp [hx])) i x (by simpa using h) j y hj
    simp only [List.flatten_cons]
    rw [List.getElem?_append_right (by rw [ha, Nat.succ_mul]; omega), ha, show (i + 1) * sz + j - sz = i * sz + j by rw [Nat.succ_mul]; omega]
    exact this

theorem QW.index_sl {fr clip : Bool} {e : ETy} {xs : List (List AV)} {ys : List AV} {et : TypeId} {k : IntKind} {i : Int} {m : Nat} (hU : P.underlying t = some (.slice et)) (hT : tySz P et = some (g, n, B)) (hn : e.sz = n)
    (h : Ev E st x (.sl fr clip e xs)) (hi : Ev E st y (.c (.int k i))) (him : i = (m : Int)) (hx : xs[m]? = some ys) :
    QW P E st ⟨d, .indexAddr t x y, ty, pos, af, gd⟩ (.ref fr ys) := .pure fun A a w hs => by
  obtain ⟨a', cap, hv, _, _, hc⟩ := (h A a w hs).of_sl
  rcases hc with rfl | ⟨b, off, cs, t', fz, rfl, hA, hb, hsz, _, hc⟩
  · simp at hx
  · subst him
    have hlt : m < xs.length := (List.getElem?_eq_some_iff.1 hx).1
    refine ⟨.pointer (some ⟨b, off + m * n, none⟩), ?_, .mk_ref hA hb ?_⟩
    · simp only [execOp, hv, hi.eq hs, Instr.indexAt, asIntOf, Sem.run_bind, Sem.run_pure, Result.andThen_ok, run_underlying _ hU]
      rw [if_pos (by omega)]
      simp [run_sizeOf hT, add_at]
    · subst hn
      intro j y hj
      obtain ⟨u, h1, h0, h2⟩ := hc _ _ (flatten_get xs hsz m ys hx j y hj)
      exact ⟨u, by rw [Nat.add_assoc]; exact h1, h0, h2⟩

theorem QW.len_sl {fr clip : Bool} {e : ETy} {xs : List (List AV)} {et : TypeId} (hU : P.underlying t = some (.slice et)) (h : Ev E st x (.sl fr clip e xs)) :
    QW P E st ⟨d, .call ⟨.builtin .len, #[x], #[t]⟩, ty, pos, af, gd⟩ (.c (.int .i64 (xs.length : Int))) := .pure fun A a w hs => by
  obtain ⟨a', cap, hv, _, _, _⟩ := (h A a w hs).of_sl
  exact ⟨_, by simp [execOp, resolve, invoke, builtin, Builtin.len_, run_underlying _ hU, hv, goInt], .c _⟩

theorem QW.len_str {s : ByteArray} (hU : P.underlying t = some .string) (h : Ev E st x (.c (.string s))) :
    QW P E st ⟨d, .call ⟨.builtin .len, #[x], #[t]⟩, ty, pos, af, gd⟩ (.c (.int .i64 (s.size : Int))) := .pure fun A a w hs =>
  ⟨_, by simp [execOp, resolve, invoke, builtin, Builtin.len_, run_underlying _ hU, h.eq hs, goInt], .c _⟩

theorem SatA.arr {A : Foot} {a : Act} (hs : SatA E A st a w) {v : Value} {e : ETy} {xs : List (List AV)} (i : Nat) (ho : st.own[i]? = some (.arr v e xs)) :
    (∃ a, v = .slice a 0 0 ∧ xs = []) ∨ ∃ b cap us t, v = .slice (some ⟨b, 0, none⟩) xs.length (cap + 1) ∧ w.heap[b]? = some (.cells us t (0, 0)) ∧ xs.length ≤ cap + 1 ∧ us.size = (cap + 1) * e.sz ∧
        (∀ x ∈ xs, x.length = e.sz) ∧ Cells w A us 0 xs.flatten := hs.hp.own _ (List.mem_of_getElem? ho)

theorem QW.len_arr (i : Nat) {v : Value} {e : ETy} {xs : List (List AV)} {et : TypeId} (hU : P.underlying t = some (.slice et)) (h : Ev E st x (.c v)) (ho : st.own[i]? = some (.arr v e xs)) :
    QW P E st ⟨d, .call ⟨.builtin .len, #[x], #[t]⟩, ty, pos, af, gd⟩ (.c (.int .i64 (xs.length : Int))) := .pure fun A a w hs => by
  rcases hs.arr i ho with ⟨a0, hv, hx⟩ | ⟨b, cap, us, t', hv, _⟩
  · subst hx
    exact ⟨.int .i64 0, by simp [execOp, resolve, invoke, builtin, Builtin.len_, run_underlying _ hU, h.eq hs, hv, goInt], .c _⟩
  · exact ⟨_, by simp [execOp, resolve, invoke, builtin, Builtin.len_, run_underlying _ hU, h.eq hs, hv, goInt], .c _⟩

/-! operations on plain values: the value is told by a run -/
theorem QW.bin {op : BinOp} {yt : TypeId} {a b r : Value} (hx : Ev E st x (.c a)) (hy : Ev E st y (.c b)) (h1 : ∀ w, (eqGuard op t x y a b).run P w = .ok () w) (h2 : ∀ w, (binOp op t a b).run P w = .ok r w) :
    QW P E st ⟨d, .binOp op t x y yt, ty, pos, af, gd⟩ (.c r) := .pure fun A a w hs =>
  ⟨_, by simp only [execOp, hx.eq hs, hy.eq hs, Sem.run_bind, h1, h2, Result.andThen_ok, Sem.run_pure], .c _⟩

theorem guard_int {op : BinOp} {k : IntKind} {a : Int} {b : Value} (w : World) : (eqGuard op t x y (.int k a) b).run P w = .ok () w := by
  cases op <;> simp [eqGuard]
theorem guard_str {op : BinOp} {a : ByteArray} {b : Value} (w : World) : (eqGuard op t x y (.string a) b).run P w = .ok () w := by
  cases op <;> simp [eqGuard]
theorem guard_bool {op : BinOp} {a : Bool} {b : Value} (w : World) : (eqGuard op t x y (.bool a) b).run P w = .ok () w := by
  cases op <;> simp [eqGuard]
theorem guard_float {op : BinOp} {k : FloatKind} {a : Nat} {b : Value} (w : World) : (eqGuard op t x y (.float k a) b).run P w = .ok () w := by
  cases op <;> simp [eqGuard]

section
variable {yt : TypeId} {k : IntKind} {a b : Int}
theorem QW.eql (hx : Ev E st x (.c (.int k a))) (hy : Ev E st y (.c (.int k b))) : QW P E st ⟨d, .binOp .eql t x y yt, ty, pos, af, gd⟩ (.c (.bool (a == b))) := .bin hx hy guard_int (fun w => by simp [binOp, Op.intCmp])
theorem QW.neq (hx : Ev E st x (.c (.int k a))) (hy : Ev E st y (.c (.int k b))) : QW P E st ⟨d, .binOp .neq t x y yt, ty, pos, af, gd⟩ (.c (.bool (a != b))) := .bin hx hy guard_int (fun w => by simp [binOp, Op.intCmp])
theorem QW.lss (hx : Ev E st x (.c (.int k a))) (hy : Ev E st y (.c (.int k b))) : QW P E st ⟨d, .binOp .lss t x y yt, ty, pos, af, gd⟩ (.c (.bool (decide (a < b)))) := .bin hx hy guard_int (fun w => by simp [binOp, Op.intCmp])
theorem QW.leq (hx : Ev E st x (.c (.int k a))) (hy : Ev E st y (.c (.int k b))) : QW P E st ⟨d, .binOp .leq t x y yt, ty, pos, af, gd⟩ (.c (.bool (decide (a ≤ b)))) := .bin hx hy guard_int (fun w => by simp [binOp, Op.intCmp])
theorem QW.gtr (hx : Ev E st x (.c (.int k a))) (hy : Ev E st y (.c (.int k b))) : QW P E st ⟨d, .binOp .gtr t x y yt, ty, pos, af, gd⟩ (.c (.bool (decide (b < a)))) := .bin hx hy guard_int (fun w => by simp [binOp, Op.intCmp])
theorem QW.geq (hx : Ev E st x (.c (.int k a))) (hy : Ev E st y (.c (.int k b))) : QW P E st ⟨d, .binOp .geq t x y yt, ty, pos, af, gd⟩ (.c (.bool (decide (b ≤ a)))) := .bin hx hy guard_int (fun w => by simp [binOp, Op.intCmp])
theorem QW.add (hx : Ev E st x (.c (.int k a))) (hy : Ev E st y (.c (.int k b))) {c : Int} (hc : k.wrap (a + b) = c) : QW P E st ⟨d, .binOp .add t x y yt, ty, pos, af, gd⟩ (.c (.int k c)) := hc ▸ .bin hx hy guard_int (fun w => by simp [binOp, Op.intArith])
theorem QW.sub (hx : Ev E st x (.c (.int k a))) (hy : Ev E st y (.c (.int k b))) {c : Int} (hc : k.wrap (a - b) = c) : QW P E st ⟨d, .binOp .sub t x y yt, ty, pos, af, gd⟩ (.c (.int k c)) := hc ▸ .bin hx hy guard_int (fun w => by simp [binOp, Op.intArith])
theorem QW.mul (hx : Ev E st x (.c (.int k a))) (hy : Ev E st y (.c (.int k b))) {c : Int} (hc : k.wrap (a * b) = c) : QW P E st ⟨d, .binOp .mul t x y yt, ty, pos, af, gd⟩ (.c (.int k c)) := hc ▸ .bin hx hy guard_int (fun w => by simp [binOp, Op.intArith])
theorem QW.quo (hx : Ev E st x (.c (.int k a))) (hy : Ev E st y (.c (.int k b))) {c : Int} (hb : b ≠ 0) (hc : k.wrap (a.tdiv b) = c) : QW P E st ⟨d, .binOp .quo t x y yt, ty, pos, af, gd⟩ (.c (.int k c)) := hc ▸ .bin hx hy guard_int (fun w => by simp [binOp, Op.intDiv, hb])
theorem QW.rem (hx : Ev E st x (.c (.int k a))) (hy : Ev E st y (.c (.int k b))) {c : Int} (hb : b ≠ 0) (hc : a.tmod b = c) : QW P E st ⟨d, .binOp .rem t x y yt, ty, pos, af, gd⟩ (.c (.int k c)) := hc ▸ .bin hx hy guard_int (fun w => by simp [binOp, Op.intDiv, hb])
def bitsOp (op : BinOp) (k : IntKind) (a b : Int) : Int :=
  match op with
  | .and => k.wrap (BitVec.ofInt k.bits a &&& BitVec.ofInt k.bits b).toNat
  | .or => k.wrap (BitVec.ofInt k.bits a ||| BitVec.ofInt k.bits b).toNat
  | .xor => k.wrap (BitVec.ofInt k.bits a ^^^ BitVec.ofInt k.bits b).toNat
  | _ => k.wrap (BitVec.ofInt k.bits a &&& ~~~ BitVec.ofInt k.bits b).toNat
theorem QW.and (hx : Ev E st x (.c (.int k a))) (hy : Ev E st y (.c (.int k b))) {c : Int} (hc : bitsOp .and k a b = c) : QW P E st ⟨d, .binOp .and t x y yt, ty, pos, af, gd⟩ (.c (.int k c)) := hc ▸ .bin hx hy guard_int (fun w => by simp [binOp, Op.intBits, bitsOp])
theorem QW.or (hx : Ev E st x (.c (.int k a))) (hy : Ev E st y (.c (.int k b))) {c : Int} (hc : bitsOp .or k a b = c) : QW P E st ⟨d, .binOp .or t x y yt, ty, pos, af, gd⟩ (.c (.int k c)) := hc ▸ .bin hx hy guard_int (fun w => by simp [binOp, Op.intBits, bitsOp])
theorem QW.xor (hx : Ev E st x (.c (.int k a))) (hy : Ev E st y (.c (.int k b))) {c : Int} (hc : bitsOp .xor k a b = c) : QW P E st ⟨d, .binOp .xor t x y yt, ty, pos, af, gd⟩ (.c (.int k c)) := hc ▸ .bin hx hy guard_int (fun w => by simp [binOp, Op.intBits, bitsOp])
theorem QW.andNot (hx : Ev E st x (.c (.int k a))) (hy : Ev E st y (.c (.int k b))) {c : Int} (hc : bitsOp .andNot k a b = c) : QW P E st ⟨d, .binOp .andNot t x y yt, ty, pos, af, gd⟩ (.c (.int k c)) := hc ▸ .bin hx hy guard_int (fun w => by simp [binOp, Op.intBits, bitsOp])
end
section
variable {yt : TypeId} {k k' : IntKind} {a b : Int}
theorem QW.shl (hx : Ev E st x (.c (.int k a))) (hy : Ev E st y (.c (.int k' b))) {c : Int} (hb : 0 ≤ b) (hc : k.wrap (a * 2 ^ (min b.toNat k.bits)) = c) : QW P E st ⟨d, .binOp .shl t x y yt, ty, pos, af, gd⟩ (.c (.int k c)) := hc ▸ .bin hx hy guard_int (fun w => by
  simp [binOp, Op.shift, show ¬ b < 0 by omega])
theorem QW.shr (hx : Ev E st x (.c (.int k a))) (hy : Ev E st y (.c (.int k' b))) {c : Int} (hb : 0 ≤ b) (hc : a.fdiv (2 ^ (min b.toNat k.bits)) = c) : QW P E st ⟨d, .binOp .shr t x y yt, ty, pos, af, gd⟩ (.c (.int k c)) := hc ▸ .bin hx hy guard_int (fun w => by
  simp [binOp, Op.shift, show ¬ b < 0 by omega])
end
section
variable {yt : TypeId} {a b : ByteArray}
theorem QW.seql (hx : Ev E st x (.c (.string a))) (hy : Ev E st y (.c (.string b))) : QW P E st ⟨d, .binOp .eql t x y yt, ty, pos, af, gd⟩ (.c (.bool (a.toList == b.toList))) := .bin hx hy guard_str (fun w => by simp [binOp, Op.stringOp])
theorem QW.sneq (hx : Ev E st x (.c (.string a))) (hy : Ev E st y (.c (.string b))) : QW P E st ⟨d, .binOp .neq t x y yt, ty, pos, af, gd⟩ (.c (.bool (a.toList != b.toList))) := .bin hx hy guard_str (fun w => by simp [binOp, Op.stringOp, bne])
theorem QW.slss (hx : Ev E st x (.c (.string a))) (hy : Ev E st y (.c (.string b))) : QW P E st ⟨d, .binOp .lss t x y yt, ty, pos, af, gd⟩ (.c (.bool (Op.bytesLess a.toList b.toList))) := .bin hx hy guard_str (fun w => by simp [binOp, Op.stringOp])
theorem QW.sleq (hx : Ev E st x (.c (.string a))) (hy : Ev E st y (.c (.string b))) : QW P E st ⟨d, .binOp .leq t x y yt, ty, pos, af, gd⟩ (.c (.bool (Op.bytesLess a.toList b.toList || a.toList == b.toList))) := .bin hx hy guard_str (fun w => by simp [binOp, Op.stringOp])
theorem QW.sgtr (hx : Ev E st x (.c (.string a))) (hy : Ev E st y (.c (.string b))) : QW P E st ⟨d, .binOp .gtr t x y yt, ty, pos, af, gd⟩ (.c (.bool (!(Op.bytesLess a.toList b.toList || a.toList == b.toList)))) := .bin hx hy guard_str (fun w => by simp [binOp, Op.stringOp])
theorem QW.sgeq (hx : Ev E st x (.c (.string a))) (hy : Ev E st y (.c (.string b))) : QW P E st ⟨d, .binOp .geq t x y yt, ty, pos, af, gd⟩ (.c (.bool (!Op.bytesLess a.toList b.toList))) := .bin hx hy guard_str (fun w => by simp [binOp, Op.stringOp])
end
theorem QW.not {b : Bool} (hx : Ev E st x (.c (.bool b))) : QW P E st ⟨d, .unOp .not t x, ty, pos, af, gd⟩ (.c (.bool (!b))) := .pure fun A a w hs =>
  ⟨_, by simp only [execOp, hx.eq hs, Op.unary, Sem.run_bind, Sem.run_pure, Result.andThen_ok], .c _⟩
theorem QW.neg {k : IntKind} {a c : Int} (hx : Ev E st x (.c (.int k a))) (hc : k.wrap (0 - a) = c) : QW P E st ⟨d, .unOp .neg t x, ty, pos, af, gd⟩ (.c (.int k c)) := .pure fun A a w hs =>
  ⟨_, by simp only [execOp, hx.eq hs, Op.unary, Op.intArith, Sem.run_bind, Sem.run_pure, Result.andThen_ok, hc], .c _⟩
theorem QW.inv {k : IntKind} {a c : Int} (hx : Ev E st x (.c (.int k a))) (hc : bitsOp .xor k (if k.signed then -1 else k.max) a = c) : QW P E st ⟨d, .unOp .xor t x, ty, pos, af, gd⟩ (.c (.int k c)) := .pure fun A a w hs =>
  ⟨_, by simp only [execOp, hx.eq hs, Op.unary, Op.intBits, Sem.run_bind, Sem.run_pure, Result.andThen_ok]; rw [← hc]; rfl, .c _⟩

theorem QW.pick_and {a b : Bool} (hx : Ev E st x (.c (.bool a))) (hy : Ev E st y (.wh (a == true) (.c (.bool b)))) : QW P E st ⟨d, .pick x y (.const (.bool false)), ty, pos, af, gd⟩ (.c (.bool (a && b))) := .pure fun A a' w hs => by
  refine ⟨_, by simp only [execOp, hx.eq hs, asBool, Sem.run_bind, Sem.run_pure, Result.andThen_ok]; rfl, ?_⟩
  cases a with
  | true => rw [if_pos rfl, ((hy A a' w hs).of_wh rfl).eq]; exact .c _
  | false => simp [Act.eval]; exact .c _
theorem QW.pick_or {a b : Bool} (hx : Ev E st x (.c (.bool a))) (hy : Ev E st y (.wh (a == false) (.c (.bool b)))) : QW P E st ⟨d, .pick x (.const (.bool true)) y, ty, pos, af, gd⟩ (.c (.bool (a || b))) := .pure fun A a' w hs => by
  refine ⟨_, by simp only [execOp, hx.eq hs, asBool, Sem.run_bind, Sem.run_pure, Result.andThen_ok]; rfl, ?_⟩
  cases a with
  | false => simp only [Bool.false_eq_true, if_false]; rw [((hy A a' w hs).of_wh rfl).eq]; exact .c _
  | true => simp [Act.eval]; exact .c _

theorem QW.pick_and2 {t1 a b : Bool} (ht : t1 = true) (hx : Ev E st x (.c (.bool a))) (hy : Ev E st y (.wh (t1 && (a == true)) (.c (.bool b)))) : QW P E st ⟨d, .pick x y (.const (.bool false)), ty, pos, af, gd⟩ (.c (.bool (a && b))) :=
  .pick_and hx (by subst ht; simpa using hy)
theorem QW.pick_or2 {t1 a b : Bool} (ht : t1 = true) (hx : Ev E st x (.c (.bool a))) (hy : Ev E st y (.wh (t1 && (a == false)) (.c (.bool b)))) : QW P E st ⟨d, .pick x (.const (.bool true)) y, ty, pos, af, gd⟩ (.c (.bool (a || b))) :=
  .pick_or hx (by subst ht; simpa using hy)

theorem QW.conv_int {k k' : IntKind} {a c : Int} {s : TypeId} (hs : (P.underlying s).isSome = true) (hU : P.underlying t = some (.int k')) (hx : Ev E st x (.c (.int k a))) (hc : k'.wrap a = c) :
    QW P E st ⟨d, .convert s t x, ty, pos, af, gd⟩ (.c (.int k' c)) := .pure fun A a w hs' => by
  obtain ⟨ds, hds⟩ := Option.isSome_iff_exists.1 hs
  exact ⟨_, by simp only [execOp, hx.eq hs', Go.convert, Sem.run_bind, run_underlying _ hds, run_underlying _ hU, Result.andThen_ok, Conv.intToInt, Sem.run_pure, hc], .c _⟩

theorem QW.mkIface (hU : ∃ dd, P.underlying t = some dd ∧ ∀ ms, dd ≠ .interface ms) {v : Value} (hx : Ev E st x (.c v)) : QW P E st ⟨d, .makeInterface t x, ty, pos, af, gd⟩ (.c (.iface t v)) := .pure fun A a w hs => by
  obtain ⟨dd, h1, h2⟩ := hU
  refine ⟨_, ?_, .c _⟩
  simp only [execOp, hx.eq hs, Instr.makeInterface, Sem.run_bind, run_underlying _ h1, Result.andThen_ok]
  cases dd <;> first | rfl | exact absurd rfl (h2 _)

theorem Rd.of_tup {A : Foot} {v : Value} {ys : List AV} (h : Rd w A v (.tup ys)) : ∃ vs : Array Value, v = .tuple vs ∧ vs.size = ys.length ∧ ∀ (k : Nat) (y : AV), ys[k]? = some y → ∃ u, vs[k]? = some u ∧ Rd w A u y := by
  cases h with
  | tup vs _ u hn hu hr => exact ⟨vs, rfl, hn, fun k y hk => ⟨u k, hu k y hk, hr k y hk⟩⟩
theorem Rd.of_agg {A : Foot} {v : Value} {ys : List AV} (h : Rd w A v (.agg ys)) : ∃ vs : Array Value, v = .agg vs ∧ vs.size = ys.length ∧ Cells w A vs 0 ys := by
  cases h with
  | agg vs _ u hn hu hr => exact ⟨vs, rfl, hn, fun k y hk => ⟨u k, by rw [Nat.zero_add]; exact (hu k y hk).1, (hu k y hk).2, hr k y hk⟩⟩
theorem Rd.mk_agg {A : Foot} {vs : Array Value} {ys : List AV} (hn : vs.size = ys.length) (h : Cells w A vs 0 ys) : Rd w A (.agg vs) (.agg ys) :=
  .agg vs ys (fun k => vs.getD k undef) hn (fun k y hk => by obtain ⟨u, h1, h0, _⟩ := h k y hk; rw [Nat.zero_add] at h1; simp [Array.getD_eq_getD_getElem?, h1, h0]) (fun k y hk => by obtain ⟨u, h1, _, h2⟩ := h k y hk; rw [Nat.zero_add] at h1; simpa [Array.getD_eq_getD_getElem?, h1] using h2)
theorem Rd.mk_tup {A : Foot} {vs : Array Value} {ys : List AV} (hn : vs.size = ys.length) (h : ∀ (k : Nat) (y : AV), ys[k]? = some y → ∃ u, vs[k]? = some u ∧ Rd w A u y) : Rd w A (.tuple vs) (.tup ys) :=
  .tup vs ys (fun k => vs.getD k undef) hn (fun k y hk => by obtain ⟨u, h1, _⟩ := h k y hk; simp [Array.getD_eq_getD_getElem?, h1]) (fun k y hk => by obtain ⟨u, h1, h2⟩ := h k y hk; simpa [Array.getD_eq_getD_getElem?, h1] using h2)

theorem QW.extract {ys : List AV} {i : Nat} (hx : Ev E st x (.tup ys)) (hi : ys[i]? = some v) : QW P E st ⟨d, .extract x i, ty, pos, af, gd⟩ v := .pure fun A a w hs => by
  obtain ⟨vs, hv, hn, hr⟩ := (hx A a w hs).of_tup
  obtain ⟨u, h1, h2⟩ := hr i v hi
  exact ⟨u, by simp [execOp, hv, Instr.extract, h1], h2⟩
end
end
end Go.Proofs.Ytkiankpmkglhcaa.J
