/- The rules for operations that make or write memory, for calls, and a function's contract out of its body. -/
import Derived.Test.YtkiankpmkglhcaaJ1
namespace Go.Proofs.Ytkiankpmkglhcaa.J
open Go Go.RowKit
set_option linter.unusedVariables false
set_option linter.unusedSimpArgs false

section
variable {P : Program} {E : Ent} {Q : Exit → St → Prop} {n : Nat} {env : List (Nat × AV)} {own : List Own} {F : List (Value × AV)} {D : List Deferred}
variable {A : Foot} {a : Act} {w w' : World}

/-- A step that writes into own blocks or makes new ones. -/
theorem SatA.step {A' : Foot} {own' : List Own} (h : SatA E A ⟨n, env, own, F, D⟩ a w) (hk : Keep (fps own) w w') (hA : ∀ fr b, A fr b → A' fr b)
    (hp : Hp E.w0.heap.size E.fp0 E.A0 own' w' A') : SatA E A' ⟨n, env, own', F, D⟩ a w' :=
  have hm : ∀ {v x}, Rd w A v x → Rd w' A' v x := fun hr => hr.move (fun fr b hb _ => hA fr b hb) fun fr b hb hlt => hk.block b hlt fun hm => (h.hp.fp b hm).2.2 fr hb
  ⟨h.size, h.defers, h.keep.trans hk fun x hx => (h.hp.fp x hx).2.1, hp, fun i x hl => hm (h.env i x hl), fun p hp => hm (h.facts p hp)⟩

def World.pushed (w : World) (o : Obj) : World := { w with heap := w.heap.push o }

theorem Keep.push (fp : List Nat) (w : World) (o : Obj) : Keep fp w (World.pushed w o) :=
  ⟨rfl, rfl, rfl, by show _ ≤ (w.heap.push o).size; rw [Array.size_push]; omega, fun k hk _ => by show (w.heap.push o)[k]? = _; rw [Array.getElem?_push, if_neg (by omega)]⟩
theorem heap_pushed (w : World) (o : Obj) : (World.pushed w o).heap[w.heap.size]? = some o := by show (w.heap.push o)[w.heap.size]? = _; rw [Array.getElem?_push, if_pos rfl]
theorem size_pushed (w : World) (o : Obj) : (World.pushed w o).heap.size = w.heap.size + 1 := by show (w.heap.push o).size = _; rw [Array.size_push]

theorem Cells.keep {us : Array Value} {off : Nat} {ys : List AV} (h : Cells w A us off ys) (hw : ∀ fr b, A fr b → b < w.heap.size → w'.heap[b]? = w.heap[b]?) : Cells w' A us off ys :=
  h.move (fun _ _ h _ => h) hw

theorem fps_mem {o : Own} {b : Nat} (ho : o ∈ own) (hb : b ∈ o.fp) : b ∈ fps own := List.mem_flatMap.2 ⟨o, ho, hb⟩

/-- A new own block. -/
theorem Hp.push {n0 : Nat} {fp0 : List Nat} {A0 : Foot} (h : Hp n0 fp0 A0 own w A) (hn : n0 ≤ w.heap.size) {o : Own} {ob : Obj} (hfp : o.fp = [w.heap.size]) (ho : o.ok (World.pushed w ob) A) :
    Hp n0 fp0 A0 (o :: own) (World.pushed w ob) A where
  mono := h.mono
  sup := h.sup
  sub := h.sub
  lt := fun fr b hb => by have := h.lt fr b hb; rw [size_pushed]; omega
  fp := fun b hb => by
    simp only [fps, List.flatMap_cons, hfp, List.mem_append, List.mem_singleton] at hb
    rcases hb with rfl | hb
    · exact ⟨by rw [size_pushed]; omega, .inr hn, fun fr hA => by have := h.lt fr _ hA; omega⟩
    · obtain ⟨h1, h2, h3⟩ := h.fp b hb
      exact ⟨by rw [size_pushed]; omega, h2, h3⟩
  nodup := by
    simp only [fps, List.flatMap_cons, hfp, List.singleton_append, List.nodup_cons]
    exact ⟨fun hm => by have := (h.fp _ hm).1; omega, h.nodup⟩
  own := fun x hx => by
    rcases List.mem_cons.1 hx with rfl | hx
    · exact ho
    · have hk := Keep.push (fps own) w ob
      exact (h.own x hx).move (fun _ _ h _ => h) (fun fr b hb hlt => hk.block b hlt fun hm => (h.fp b hm).2.2 fr hb)
        fun b hb => (Keep.push [] w ob).block b (h.fp b (fps_mem hx hb)).1 (by simp)

theorem Hp.push_box {n0 : Nat} {fp0 : List Nat} {A0 : Foot} (h : Hp n0 fp0 A0 own w A) (hn : n0 ≤ w.heap.size) {us : Array Value} {t : TypeId} {ys : List AV} (hl : us.size = ys.length) (hc : Cells w A us 0 ys) :
    Hp n0 fp0 A0 (.box w.heap.size ys :: own) (World.pushed w (.cells us t)) A :=
  h.push hn rfl ⟨us, t, heap_pushed _ _, hl, hc.keep fun fr b _ hlt => (Keep.push [] w _).block b hlt (by simp)⟩

/-- A draw. -/
def World.drawnBy (w : World) : World := { w with drawn := w.drawn + 1 }
theorem Keep.draw (fp : List Nat) (w : World) : Keep fp w (World.drawnBy w) := ⟨rfl, rfl, rfl, Nat.le_refl _, fun _ _ _ => rfl⟩
theorem Own.ok_draw {o : Own} (h : o.ok w A) : o.ok (World.drawnBy w) A := h.move (fun _ _ h _ => h) (fun _ _ _ _ => rfl) (fun _ _ => rfl)
theorem Hp.draw {n0 : Nat} {fp0 : List Nat} {A0 : Foot} (h : Hp n0 fp0 A0 own w A) : Hp n0 fp0 A0 own (World.drawnBy w) A :=
  ⟨h.mono, h.sup, h.sub, h.lt, h.fp, h.nodup, fun o ho => Own.ok_draw (h.own o ho)⟩
theorem SatA.draw (h : SatA E A ⟨n, env, own, F, D⟩ a w) : SatA E A ⟨n, env, own, F, D⟩ a (World.drawnBy w) := h.step (.draw _ _) (fun _ _ h => h) h.hp.draw

/-! ### boxes -/
def zeroCells (P : Program) (t : TypeId) : Option (List Value) := (P.info? t).bind fun i => i.zero.map fun v => v.cells.toList

theorem oneCell_of {v : Value} (h : (match v with | .agg _ => false | .tuple _ => false | _ => true) = true) : v.oneCell' = true := by cases v <;> first | rfl | simp at h

variable {d : Nat} {ty t : TypeId} {pos : String} {af : Array Edge} {x y : Operand} {ops : Array Oper} {rest : List Oper} {g : Bool} {m B : Nat}

theorem Cells.const {vs : List Value} (h : vs.all (·.oneCell') = true) : Cells w A vs.toArray 0 (vs.map AV.c) := fun k y hk => by
  rw [List.getElem?_map] at hk
  cases hv : vs[k]? with
  | none => rw [hv] at hk; cases hk
  | some v =>
    rw [hv] at hk; cases hk
    exact ⟨v, by simp [hv], (List.all_eq_true.1 h) v (List.mem_of_getElem? hv), .c v⟩

/-- A local variable of a type at its zero value. -/
theorem JL.alloc {vs : List Value} (hz : zeroCells P t = some vs) (h1 : vs.all (·.oneCell') = true) (hd : Nat.blt d n = true)
    (h : ∀ b, JL P E ops rest ⟨n, (d, .c (.pointer (some ⟨b, 0, none⟩))) :: env, .box b (vs.map AV.c) :: own, F, D⟩ Q) :
    JL P E ops (⟨some d, .alloc t, ty, pos, af, none⟩ :: rest) ⟨n, env, own, F, D⟩ Q := fun a w ⟨A, hA⟩ => by
  refine wpListIn_plain rfl fun K hK => ?_
  refine wpR (by intro c h; cases h) ?_
  unfold Oper.wp
  obtain ⟨i, zv, h2, h3, h4⟩ : ∃ i zv, P.info? t = some i ∧ i.zero = some zv ∧ zv.cells.toList = vs := by
    unfold zeroCells at hz
    cases hi : P.info? t with
    | none => rw [hi] at hz; cases hz
    | some i =>
      rw [hi] at hz
      cases hzz : i.zero with
      | none => simp [hzz] at hz
      | some zv => exact ⟨i, zv, rfl, hzz, by simpa [hzz] using hz⟩
  have hr : (execOp a.eval ⟨some d, .alloc t, ty, pos, af, none⟩).run P w = .ok (.value (.pointer (some ⟨w.heap.size, 0, none⟩))) (World.pushed w (.cells vs.toArray t)) := by
    subst h4
    simp [execOp, Instr.alloc, zeroValue, run_typeInfo h2, h3, newVar, newRow, World.pushed]
  rw [hr, Oper.upon_value]
  refine hK _ _ (h w.heap.size _ _ ⟨A, ?_⟩)
  have hs := hA.step (.push _ _ _) (fun _ _ h => h) (hA.hp.push_box (us := vs.toArray) (t := t) hA.keep.size (by simp) (.const h1))
  exact hs.put (blt_lt hd) (.c _)

def AV.one : AV → Bool
  | .agg _ | .tup _ | .wh .. => false
  | .c v => v.oneCell'
  | _ => true

theorem cells_one {v : Value} (h : v.oneCell' = true) : v.cells = #[v] := by cases v <;> first | rfl | simp [Value.oneCell'] at h

theorem Rd.one {v : Value} {y : AV} (h : Rd w A v y) (hy : y.one = true) : v.cells = #[v] ∧ v.oneCell' = true := by
  have : v.oneCell' = true := by
    cases h <;> first | rfl | exact hy | simp [AV.one] at hy
  exact ⟨cells_one this, this⟩

/-- A parameter or a local variable, given its value: a struct; anything of one cell. -/
theorem JL.box_agg {ys : List AV} (hx : Ev E ⟨n, env, own, F, D⟩ x (.agg ys)) (hd : Nat.blt d n = true)
    (h : ∀ b, JL P E ops rest ⟨n, (d, .c (.pointer (some ⟨b, 0, none⟩))) :: env, .box b ys :: own, F, D⟩ Q) :
    JL P E ops (⟨some d, .box t x, ty, pos, af, none⟩ :: rest) ⟨n, env, own, F, D⟩ Q := fun a w ⟨A, hA⟩ => by
  refine wpListIn_plain rfl fun K hK => ?_
  refine wpR (by intro c h; cases h) ?_
  unfold Oper.wp
  obtain ⟨vs, hv, hl, hc⟩ := (hx A a w hA).of_agg
  have hr : (execOp a.eval ⟨some d, .box t x, ty, pos, af, none⟩).run P w = .ok (.value (.pointer (some ⟨w.heap.size, 0, none⟩))) (World.pushed w (.cells vs t)) := by
    simp [execOp, Instr.box, newVar, newRow, World.pushed, hv, Value.cells]
  rw [hr, Oper.upon_value]
  refine hK _ _ (h w.heap.size _ _ ⟨A, ?_⟩)
  exact (hA.step (.push _ _ _) (fun _ _ h => h) (hA.hp.push_box (us := vs) (t := t) hA.keep.size hl hc)).put (blt_lt hd) (.c _)

theorem Cells.single {u : Value} {y : AV} (h0 : u.oneCell' = true) (h : Rd w A u y) : Cells w A #[u] 0 [y] := fun k z hk => by
  cases k with
  | zero => simp at hk; subst hk; exact ⟨u, rfl, h0, h⟩
  | succ k => simp at hk

theorem JL.box_one {z : AV} (hx : Ev E ⟨n, env, own, F, D⟩ x z) (hz : z.one = true) (hd : Nat.blt d n = true)
    (h : ∀ b, JL P E ops rest ⟨n, (d, .c (.pointer (some ⟨b, 0, none⟩))) :: env, .box b [z] :: own, F, D⟩ Q) :
    JL P E ops (⟨some d, .box t x, ty, pos, af, none⟩ :: rest) ⟨n, env, own, F, D⟩ Q := fun a w ⟨A, hA⟩ => by
  refine wpListIn_plain rfl fun K hK => ?_
  refine wpR (by intro c h; cases h) ?_
  unfold Oper.wp
  have hrd := hx A a w hA
  obtain ⟨hv, h0⟩ := hrd.one hz
  have hr : (execOp a.eval ⟨some d, .box t x, ty, pos, af, none⟩).run P w = .ok (.value (.pointer (some ⟨w.heap.size, 0, none⟩))) (World.pushed w (.cells #[a.eval x] t)) := by
    simp [execOp, Instr.box, newVar, newRow, World.pushed, hv]
  rw [hr, Oper.upon_value]
  refine hK _ _ (h w.heap.size _ _ ⟨A, ?_⟩)
  exact (hA.step (.push _ _ _) (fun _ _ h => h) (hA.hp.push_box (us := #[a.eval x]) (t := t) hA.keep.size rfl (.single h0 hrd))).put (blt_lt hd) (.c _)

/-! ### stores -/
def splice {α : Type} (ys : List α) (off : Nat) (zs : List α) : List α := ys.take off ++ zs ++ ys.drop (off + zs.length)

theorem run_store1 {b off : Nat} {us : Array Value} {v : Value} (hb : w.heap[b]? = some (.cells us t (0, 0))) (hlt : off < us.size) (h0 : v.oneCell' = true) :
    ∃ w', (store ⟨b, off, none⟩ v).run P w = .ok () w' ∧ Keep [b] w w' ∧ w'.heap.size = w.heap.size ∧ w'.heap[b]? = some (.cells (us.setIfInBounds off v) t (0, 0)) := by
  refine ⟨w.setCell ⟨b, off, none⟩ v, ?_, ⟨rfl, rfl, rfl, by simp [World.setCell], fun k _ hk => ?_⟩, by simp [World.setCell], ?_⟩
  · rw [run_store P w _ v _ h0]
    have : w.cell? ⟨b, off, none⟩ = some us[off] := by rw [cell_at hb]; simp [hlt]
    have hf : w.frozen? ⟨b, off, none⟩ = false := by simp [World.frozen?, hb]
    simp [this, hf]
  · exact Below.heap_setCell _ _ _ _ (by simpa using hk)
  · have hlt' := heap_lt hb
    simp only [World.setCell, Array.getElem?_modify, if_true, hb, Option.map_some]
    simp

theorem run_storeCells {b off : Nat} : ∀ (vs : List Value) (i : Nat) (us : Array Value) (w : World), w.heap[b]? = some (.cells us t (0, 0)) → off + i + vs.length ≤ us.size → vs.all (·.oneCell') = true →
    ∃ w' us', (storeCells ⟨b, off, none⟩ vs i).run P w = .ok () w' ∧ Keep [b] w w' ∧ w'.heap.size = w.heap.size ∧ w'.heap[b]? = some (.cells us' t (0, 0)) ∧ us'.size = us.size ∧
      ∀ k, us'[k]? = if off + i ≤ k ∧ k < off + i + vs.length then vs[k - (off + i)]? else us[k]?
  | [], i, us, w, hb, _, _ => ⟨w, us, rfl, .refl _ _, rfl, hb, rfl, fun k => by rw [if_neg (by simp)]⟩
  | v :: vs, i, us, w, hb, hl, h0 => by
    simp only [List.length_cons] at hl
    simp only [List.all_cons, Bool.and_eq_true] at h0
    obtain ⟨w1, hr1, hk1, hz1, hb1⟩ := run_store1 (P := P) (v := v) hb (show off + i < us.size by omega) h0.1
    obtain ⟨w2, us2, hr2, hk2, hz2, hb2, hs2, hc2⟩ := run_storeCells (b := b) (off := off) vs (i + 1) (us.setIfInBounds (off + i) v) w1 hb1 (by simp; omega) h0.2
    refine ⟨w2, us2, ?_, hk1.trans hk2 (fun x hx => .inl hx), by omega, hb2, by simpa using hs2, fun k => ?_⟩
    · simp only [storeCells, Sem.run_bind, add_at, hr1, Result.andThen_ok, hr2]
    · rw [hc2 k]
      simp only [List.length_cons]
      by_cases h1 : k = off + i
      · subst h1
        rw [if_neg (by omega), if_pos (by omega)]
        simp [show off + i < us.size by omega]
      · by_cases h2 : off + (i + 1) ≤ k ∧ k < off + (i + 1) + vs.length
        · rw [if_pos h2, if_pos (by omega), show k - (off + i) = (k - (off + (i + 1))) + 1 by omega]; simp
        · rw [if_neg h2, if_neg (by omega)]
          rw [Array.getElem?_setIfInBounds_ne (by omega)]

theorem splice_get {α : Type} {ys zs : List α} {off : Nat} (h : off + zs.length ≤ ys.length) (k : Nat) :
    (splice ys off zs)[k]? = if off ≤ k ∧ k < off + zs.length then zs[k - off]? else ys[k]? := by
  unfold splice
  by_cases h1 : k < off
  · rw [if_neg (by omega), List.append_assoc, List.getElem?_append_left (by simp; omega), List.getElem?_take, if_pos h1]
  · by_cases h2 : k < off + zs.length
    · rw [if_pos (by omega), List.append_assoc, List.getElem?_append_right (by simp; omega), List.getElem?_append_left (by simp; omega)]
      congr 1
      simp; omega
    · rw [if_neg (by omega), List.getElem?_append_right (by simp; omega), List.getElem?_drop]
      congr 1
      simp; omega

theorem splice_length {α : Type} {ys zs : List α} {off : Nat} (h : off + zs.length ≤ ys.length) : (splice ys off zs).length = ys.length := by
  simp [splice]; omega

/-- What a block reads as behind a store of cells. -/
theorem Cells.spliced {us us' : Array Value} {ys zs : List AV} {vs : List Value} {off : Nat} (h : Cells w A us 0 ys) (hz : Cells w A vs.toArray 0 zs) (hl : vs.length = zs.length) (ho : off + zs.length ≤ ys.length)
    (hu : ∀ k, us'[k]? = if off ≤ k ∧ k < off + vs.length then vs[k - off]? else us[k]?) : Cells w A us' 0 (splice ys off zs) := fun k y hk => by
  rw [splice_get ho] at hk
  rw [Nat.zero_add, hu k, hl]
  split at hk
  · rename_i hc
    rw [if_pos hc]
    obtain ⟨u, h1, h2⟩ := hz _ _ hk
    exact ⟨u, by simpa using h1, h2⟩
  · rename_i hc
    rw [if_neg hc]
    obtain ⟨u, h1, h2⟩ := h _ _ hk
    exact ⟨u, by simpa using h1, h2⟩

theorem fps_apart : ∀ (own : List Own), (fps own).Nodup → ∀ {i j : Nat} {o o' : Own} {b : Nat}, own[i]? = some o → own[j]? = some o' → b ∈ o.fp → b ∈ o'.fp → i = j
  | [], _, i, _, _, _, _, h, _, _, _ => by simp at h
  | x :: l, hn, i, j, o, o', b, hi, hj, hb, hb' => by
    simp only [fps, List.flatMap_cons, List.nodup_append] at hn
    obtain ⟨_, hn2, hn3⟩ := hn
    cases i with
    | zero =>
      cases j with
      | zero => rfl
      | succ j =>
        simp at hi hj; subst hi
        exact absurd rfl (hn3 b hb b (List.mem_flatMap.2 ⟨o', List.mem_of_getElem? hj, hb'⟩))
    | succ i =>
      cases j with
      | zero =>
        simp at hi hj; subst hj
        exact absurd rfl (hn3 b hb' b (List.mem_flatMap.2 ⟨o, List.mem_of_getElem? hi, hb⟩))
      | succ j =>
        simp at hi hj
        rw [fps_apart l hn2 hi hj hb hb']

/-- An own entry is replaced by one on the same blocks. -/
theorem Hp.upd {n0 : Nat} {fp0 : List Nat} {A0 : Foot} (h : Hp n0 fp0 A0 own w A) {i : Nat} {o o' : Own} (hi : own[i]? = some o) (hfp : o'.fp = o.fp) (hk : Keep o.fp w w') (hz : w'.heap.size = w.heap.size)
    (ho : o'.ok w' A) : Hp n0 fp0 A0 (own.set i o') w' A := by
  have hmem := List.mem_of_getElem? hi
  have hlt := (List.getElem?_eq_some_iff.1 hi).1
  have hf : fps (own.set i o') = fps own := by
    simp only [fps, List.flatMap, List.map_set, hfp]
    congr 1
    apply List.ext_getElem?
    intro k
    rw [List.getElem?_set]
    split
    · rename_i hik
      subst hik
      simp only [List.length_map, hlt, if_true, List.getElem?_map, hi, Option.map_some]
    · rfl
  refine ⟨h.mono, h.sup, h.sub, fun fr b hb => by rw [hz]; exact h.lt fr b hb, fun b hb => by rw [hf] at hb; rw [hz]; exact h.fp b hb, by rw [hf]; exact h.nodup, fun x hx => ?_⟩
  obtain ⟨j, hj⟩ := List.getElem?_of_mem hx
  rw [List.getElem?_set] at hj
  split at hj
  · rename_i hij
    subst hij
    cases hj; exact ho
  · rename_i hij
    have hxm := List.mem_of_getElem? hj
    refine (h.own x hxm).move (fun _ _ h _ => h) (fun fr b hb hl => hk.block b hl fun hm => (h.fp b (fps_mem hmem hm)).2.2 fr hb) fun b hb => hk.block b (h.fp b (fps_mem hxm hb)).1 fun hm => ?_
    exact hij (fps_apart own h.nodup hi hj hm hb)

theorem Keep.mono {fp fp' : List Nat} (h : Keep fp w w') (hf : ∀ x ∈ fp, x ∈ fp') : Keep fp' w w' := ⟨h.os, h.tape, h.output, h.size, fun k hk hn => h.block k hk fun hm => hn (hf k hm)⟩

theorem run_storeVar {b off : Nat} {us : Array Value} {v : Value} {vs : List Value} (hT : tySz P t = some (g, m, B)) (hv : v.cells.toList = vs) (hm : vs.length = m)
    {ty' : TypeId} (hb : w.heap[b]? = some (.cells us ty' (0, 0))) (hl : off + vs.length ≤ us.size) (h0 : vs.all (·.oneCell') = true) :
    ∃ w' us', (storeVar t ⟨b, off, none⟩ v).run P w = .ok () w' ∧ Keep [b] w w' ∧ w'.heap.size = w.heap.size ∧ w'.heap[b]? = some (.cells us' ty' (0, 0)) ∧ us'.size = us.size ∧
      ∀ k, us'[k]? = if off ≤ k ∧ k < off + vs.length then vs[k - off]? else us[k]? := by
  obtain ⟨w', us', h1, h2, h3, h4, h5, h6⟩ := run_storeCells (P := P) (b := b) (off := off) vs 0 us w hb (by omega) h0
  refine ⟨w', us', ?_, h2, h3, h4, h5, by simpa using h6⟩
  have hsz : v.cells.size = m := by rw [← hm, ← hv]; simp
  simp only [storeVar, Sem.run_bind, run_sizeOf hT, Result.andThen_ok, hsz, ne_eq, not_true_eq_false, if_false, hv]
  exact h1

/-- The cells of what a value reads as. -/
def AV.cellsOf : AV → List AV
  | .agg ys => ys
  | z => [z]

def AV.plain : AV → Bool
  | .agg _ => true
  | z => z.one

theorem Rd.cellsOf {v : Value} {z : AV} (h : Rd w A v z) (hz : z.plain = true) : v.cells.toList.length = z.cellsOf.length ∧ v.cells.toList.all (·.oneCell') = true ∧ Cells w A v.cells.toList.toArray 0 z.cellsOf := by
  by_cases hag : ∃ ys, z = .agg ys
  · obtain ⟨ys, rfl⟩ := hag
    obtain ⟨vs, rfl, hl, hc⟩ := h.of_agg
    refine ⟨by simpa [Value.cells, AV.cellsOf] using hl, List.all_eq_true.2 fun u hu => ?_, by simpa [Value.cells, AV.cellsOf] using hc⟩
    simp only [Value.cells] at hu
    obtain ⟨k, hk⟩ := List.getElem?_of_mem hu
    have hk' : vs[k]? = some u := by simpa using hk
    have hklt : k < ys.length := by rw [← hl]; exact (Array.getElem?_eq_some_iff.1 hk').1
    obtain ⟨u', h1, h0, _⟩ := hc k _ (List.getElem?_eq_getElem hklt)
    rw [Nat.zero_add, hk'] at h1
    cases h1; exact h0
  · have hone : z.one = true := by cases z <;> simp_all [AV.plain]
    have hcz : z.cellsOf = [z] := by cases z <;> simp_all [AV.cellsOf]
    obtain ⟨hv, h0⟩ := h.one hone
    rw [hv, hcz]
    exact ⟨rfl, by simp [h0], .single h0 h⟩

/-- A store into an own block. -/
theorem JL.store_box (i : Nat) {b off : Nat} {ys ys' : List AV} {z : AV} (hT : tySz P t = some (g, m, B)) (hx : Ev E ⟨n, env, own, F, D⟩ x (.c (.pointer (some ⟨b, off, none⟩))))
    (ho : own[i]? = some (.box b ys)) (hy : Ev E ⟨n, env, own, F, D⟩ y z) (hz : z.plain = true) (hm : z.cellsOf.length = m) (hl : Nat.ble (off + m) ys.length = true) (hs : splice ys off z.cellsOf = ys')
    {own' : List Own} (hown : own.set i (.box b ys') = own')
    (h : JL P E ops rest ⟨n, env, own', F, D⟩ Q) :
    JL P E ops (⟨none, .store t x y, ty, pos, af, none⟩ :: rest) ⟨n, env, own, F, D⟩ Q := fun a w ⟨A, hA⟩ => by
  refine wpListIn_plain rfl fun K hK => ?_
  refine wpR (by intro c h; cases h) ?_
  unfold Oper.wp
  subst hs hown
  obtain ⟨us, t', hb, hsz, hc⟩ := hA.box i ho
  obtain ⟨h1, h2, h3⟩ := (hy A a w hA).cellsOf hz
  have hle : off + z.cellsOf.length ≤ ys.length := by rw [hm]; exact Nat.le_of_ble_eq_true hl
  obtain ⟨w', us', hr, hk, hz', hb', hsz', hu'⟩ := run_storeVar (P := P) (off := off) hT rfl (h1.trans hm) hb (by omega) h2
  have hrun : (execOp a.eval ⟨none, .store t x y, ty, pos, af, none⟩).run P w = .ok .skip w' := by
    simp only [execOp, Instr.storeAt, hx.eq hA, Instr.sureAddr, Sem.run_bind, Sem.run_pure, Result.andThen_ok, hr]
  rw [hrun, Oper.upon_skip]
  refine hK _ _ (h _ _ ⟨A, ?_⟩)
  have hfp : ∀ fr c, A fr c → c < w.heap.size → w'.heap[c]? = w.heap[c]? := fun fr c hc hlt => hk.block c hlt fun hm' => by
    simp only [List.mem_singleton] at hm'
    subst hm'
    exact (hA.hp.fp c (fps_mem (List.mem_of_getElem? ho) (by simp [Own.fp]))).2.2 fr hc
  refine hA.step (hk.mono fun c hc => ?_) (fun _ _ h => h) (hA.hp.upd (o' := .box b _) ho rfl hk hz' ⟨us', t', hb', ?_, ?_⟩)
  · simp only [List.mem_singleton] at hc; subst hc; exact fps_mem (List.mem_of_getElem? ho) (by simp [Own.fp])
  · rw [hsz', hsz, splice_length hle]
  · exact (hc.spliced h3 h1 hle hu').keep hfp
end
end Go.Proofs.Ytkiankpmkglhcaa.J
