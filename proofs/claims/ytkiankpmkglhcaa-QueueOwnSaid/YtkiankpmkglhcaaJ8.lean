/- Slices: what is built and appended. -/
import Derived.Test.YtkiankpmkglhcaaJ7
import Derived.Deep.AppendSrc
namespace Go.Proofs.Ytkiankpmkglhcaa.J
open Go Go.RowKit
set_option linter.unusedVariables false
set_option linter.unusedSimpArgs false

/-- Of an element's type: its cells, its bytes, its zero. -/
def elemB (P : Program) (et : TypeId) (e : ETy) : Bool := match P.info? et with
  | some i => Nat.beq i.size e.sz && Nat.beq i.bytes e.bytes && (match i.zero with | some z => Nat.beq z.cells.size e.sz | none => false)
  | none => false
theorem elemB_get {P : Program} {et : TypeId} {e : ETy} (h : elemB P et e = true) : ∃ i z, P.info? et = some i ∧ i.size = e.sz ∧ i.bytes = e.bytes ∧ i.zero = some z ∧ z.cells.size = e.sz := by
  unfold elemB at h
  split at h
  · rename_i i hi
    simp only [Bool.and_eq_true] at h
    obtain ⟨⟨h1, h2⟩, h3⟩ := h
    split at h3
    · rename_i z hz
      exact ⟨i, z, hi, Nat.eq_of_beq_eq_true h1, Nat.eq_of_beq_eq_true h2, hz, Nat.eq_of_beq_eq_true h3⟩
    · cases h3
  · cases h

section
variable {P : Program} {E : Ent} {Q : Exit → St → Prop} {n : Nat} {env : List (Nat × AV)} {own : List Own} {F : List (Value × AV)} {D : List Deferred} {ops : Array Oper} {rest : List Oper}
variable {A : Foot} {a : Act} {w w' : World} {t tx et ty : TypeId} {pos : String} {af : Array Edge} {d : Nat} {s x y : Operand}

/-- What an append's second argument yields. -/
def SrcA (P : Program) (w : World) (A : Foot) (tx : TypeId) (x : Value) (e : ETy) (ys : List (List AV)) : Prop :=
  ∃ news, Src P e.sz tx x ys.length news w ∧ Cells w A news.toArray 0 ys.flatten ∧ ∀ y ∈ ys, y.length = e.sz

theorem flatten_length {α : Type} {sz : Nat} : ∀ (xs : List (List α)), (∀ x ∈ xs, x.length = sz) → xs.flatten.length = xs.length * sz
  | [], _ => by simp
  | a :: xs, h => by
    have ha : a.length = sz := h a (by simp)
    simp only [List.flatten_cons, List.length_append, List.length_cons, flatten_length xs (fun x hx => h x (by simp [hx])), ha, Nat.succ_mul]
    omega

theorem SrcA.sl {e' : TypeId} (hU : P.underlying tx = some (.slice e')) {v : Value} {fr clip : Bool} {e : ETy} {ys : List (List AV)} (h : Rd w A v (.sl fr clip e ys)) : SrcA P w A tx v e ys := by
  obtain ⟨a', cap, hv, _, hle, hc⟩ := h.of_sl
  rcases hc with rfl | ⟨b, off, cs, t', fz, rfl, hA, hb, hsz, _, hc⟩
  · subst hv
    refine ⟨[], ?_, fun k y hk => by simp at hk, fun y hy => by cases hy⟩
    cases a' with
    | none => exact Src.ofNil w hU cap
    | some a' => exact Src.ofSlice w hU a' 0 cap [] (by simp) (fun j u hj => by simp at hj) (fun u hu => by cases hu)
  · subst hv
    have hcell : ∀ k y, ys.flatten[k]? = some y → (cs[off + k]? = some (cs.getD (off + k) undef) ∧ (cs.getD (off + k) undef).oneCell' = true) ∧ Rd w A (cs.getD (off + k) undef) y := fun k y hk => by
      obtain ⟨u, h1, h0, h2⟩ := hc k y hk
      have : cs.getD (off + k) undef = u := by simp [Array.getD_eq_getD_getElem?, h1]
      rw [this]; exact ⟨⟨h1, h0⟩, h2⟩
    have hlen := flatten_length ys hsz
    have hget : ∀ k u, ((List.range (ys.length * e.sz)).map fun k => cs.getD (off + k) undef)[k]? = some u → k < ys.length * e.sz ∧ u = cs.getD (off + k) undef := fun k u hk => by
      rw [List.getElem?_map] at hk
      by_cases hlt : k < ys.length * e.sz
      · rw [List.getElem?_range hlt] at hk; cases hk; exact ⟨hlt, rfl⟩
      · rw [List.getElem?_eq_none (by simpa using hlt)] at hk; cases hk
    have hall : ∀ k, k < ys.length * e.sz → ∃ y, ys.flatten[k]? = some y := fun k hk => ⟨_, List.getElem?_eq_getElem (by omega)⟩
    refine ⟨(List.range (ys.length * e.sz)).map fun k => cs.getD (off + k) undef, Src.ofSlice w hU ⟨b, off, none⟩ ys.length cap _ (by simp) (fun j u hj => ?_) (fun u hu => ?_), fun k y hk => ?_, hsz⟩
    · obtain ⟨h1, rfl⟩ := hget j u hj
      obtain ⟨y, hy⟩ := hall j h1
      rw [add_at, cell_at hb]; exact (hcell j y hy).1.1
    · obtain ⟨j, hj⟩ := List.getElem?_of_mem hu
      obtain ⟨h1, rfl⟩ := hget j u hj
      obtain ⟨y, hy⟩ := hall j h1
      exact (hcell j y hy).1.2
    · have hlt : k < ys.length * e.sz := by rw [← hlen]; exact (List.getElem?_eq_some_iff.1 hk).1
      refine ⟨cs.getD (off + k) undef, ?_, (hcell k y hk).1.2, (hcell k y hk).2⟩
      rw [Nat.zero_add]
      simp [hlt]

theorem flatten_one {α β : Type} (f : α → β) : ∀ l : List α, (l.map fun b => [f b]).flatten = l.map f
  | [] => rfl
  | b :: l => by simp only [List.map_cons, List.flatten_cons, List.singleton_append, flatten_one f l]

theorem SrcA.str (hU : P.underlying tx = some .string) (l : List UInt8) : SrcA P w A tx (str l) ⟨1, 1⟩ (l.map fun b => [.c (.int .u8 (b.toNat : Int))]) := by
  refine ⟨byteCells ⟨l.toArray⟩, ?_, fun k y hk => ?_, fun y hy => by obtain ⟨b, _, rfl⟩ := List.mem_map.1 hy; rfl⟩
  · have := Src.ofString (P := P) w hU ⟨l.toArray⟩
    have hs : (⟨l.toArray⟩ : ByteArray).size = l.length := by simp [ByteArray.size]
    rw [hs] at this
    simpa using this
  · rw [flatten_one, List.getElem?_map] at hk
    cases hb : l[k]? with
    | none => rw [hb] at hk; cases hk
    | some b =>
      rw [hb] at hk; cases hk
      exact ⟨.int .u8 b.toNat, by simp [byteCells, hb], rfl, .c _⟩

/-- An own entry is replaced by one on a new block. -/
theorem Hp.moved {n0 : Nat} {fp0 : List Nat} {A0 : Foot} (h : Hp n0 fp0 A0 own w A) (hn : n0 ≤ w.heap.size) {i : Nat} {o o' : Own} {ob : Obj} (hi : own[i]? = some o) (hfp : o'.fp = [w.heap.size]) (ho : o'.ok (World.pushed w ob) A) :
    Hp n0 fp0 A0 (own.set i o') (World.pushed w ob) A := by
  have hp := h.perm (perm_pick hi)
  have h1 : Hp n0 fp0 A0 (own.eraseIdx i) w A := by
    have : Hp n0 fp0 A0 (own.eraseIdx i ++ [o]) w A := hp.perm (by simpa using (List.perm_append_singleton o (own.eraseIdx i)).symm)
    exact this.left
  have h2 := h1.push hn (o := o') (ob := ob) hfp ho
  refine h2.perm ?_
  have hlt := (List.getElem?_eq_some_iff.1 hi).1
  have hs : (own.set i o')[i]? = some o' := by simp [hlt]
  have := perm_pick hs
  rw [List.eraseIdx_set_eq] at this
  exact this.symm

theorem alloc_eq (w : World) (o : Obj) : w.drew.alloc o = World.pushed (World.drawnBy w) o := rfl

theorem run_builtin_append {v z : Value} {v' : Value} (hs : a.eval s = v) (hx : a.eval x = z) (h : (Builtin.append_ #[t, tx] ty #[v, z]).run P w = .ok v' w') (dd : Option Tmp) (gd : Option (Nat × Bool)) :
    (execOp a.eval ⟨dd, .call ⟨.builtin .append, #[s, x], #[t, tx]⟩, ty, pos, af, gd⟩).run P w = .ok (.value v') w' := by
  simp [execOp, resolve, invoke, builtin, hs, hx, h, Result.andThen]

/-- An append onto an own array. -/
theorem JL.append (i : Nat) {v : Value} {e : ETy} {xs ys : List (List AV)} (hU : P.underlying t = some (.slice et)) (hE : elemB P et e = true) (hb0 : Nat.blt 0 e.bytes = true) (hsv : Ev E ⟨n, env, own, F, D⟩ s (.c v))
    (ho : own[i]? = some (.arr v e xs)) (hx : ∀ A a w, SatA E A ⟨n, env, own, F, D⟩ a w → SrcA P w A tx (a.eval x) e ys) (hreach : (xs.length + ys.length) * e.bytes ≤ reach) (hd : Nat.blt d n = true)
    (h : ∀ v', JL P E ops rest ⟨n, (d, .c v') :: env, own.set i (.arr v' e (xs ++ ys)), F, D⟩ Q) :
    JL P E ops (⟨some d, .call ⟨.builtin .append, #[s, x], #[t, tx]⟩, ty, pos, af, none⟩ :: rest) ⟨n, env, own, F, D⟩ Q := fun a w ⟨A, hA⟩ => by
  refine wpListIn_plain rfl fun K hK => ?_
  refine wpR (by intro c h; cases h) ?_
  unfold Oper.wp
  obtain ⟨ti, tz, hi, hsz, hby, hz, hzs⟩ := elemB_get hE
  obtain ⟨news, hsrc, hnc, hyl⟩ := hx A a w hA
  rw [← hsz] at hsrc
  have hb1 : 1 ≤ e.bytes := blt_lt hb0
  have hneed : xs.length + ys.length ≤ reach := Nat.le_trans (Nat.le_mul_of_pos_right _ hb1) hreach
  unfold reach at hneed hreach
  have hnl : news.length = ys.flatten.length := by rw [hsrc.newsLen, hsz, flatten_length ys hyl]
  have h63 : ((xs.length + ys.length : Nat) : Int) ≤ 9223372036854775807 := by omega
  have hfit : ∀ sCap, sCap < xs.length + ys.length → Builtin.nextslicecap (xs.length + ys.length) sCap * ti.bytes ≤ 281474976710656 := fun sCap hlt => growslice_fits hlt (by rw [hby]; omega)
  have hgw : ∀ fr b, A fr b → b < w.heap.size → ∀ o, (World.pushed (World.drawnBy w) o).heap[b]? = w.heap[b]? := fun fr b _ hlt o => (Keep.push [] (World.drawnBy w) o).block b hlt (by simp)
  -- a new row
  have grow : ∀ (base : Option Addr) (sCap : Nat) (olds : List Value), v = .slice base xs.length sCap → (Builtin.firstCells ti.size xs.length (.slice base xs.length sCap)).run P w.drew = .ok olds.toArray w.drew →
      olds.length = xs.flatten.length → (∀ x ∈ xs, x.length = e.sz) → Cells w A olds.toArray 0 xs.flatten → sCap < xs.length + ys.length →
      Oper.wp P ⟨some d, .call ⟨.builtin .append, #[s, x], #[t, tx]⟩, ty, pos, af, none⟩ a w K (lift E Q) := by
    intro base sCap olds hv hold hol hxl hoc hlt
    have hr := run_append_grow_src (P := P) w t tx ty et ti tz hU hi hz base xs.length sCap olds hold (a.eval x) ys.length news hsrc hlt h63 (hfit _ hlt)
    have hge := grownCap_ge w (xs.length + ys.length) sCap et
    unfold Oper.wp
    rw [run_builtin_append (hsv.eq hA) rfl (by rw [hv]; exact hr), Oper.upon_value, alloc_eq]
    refine hK _ _ (h _ _ _ ⟨A, SatA.put ?_ (blt_lt hd) (.c _)⟩)
    have hd' := hA.draw
    obtain ⟨cap, hcap⟩ : ∃ cap, grownCap w (xs.length + ys.length) sCap et = cap + 1 := ⟨grownCap w (xs.length + ys.length) sCap et - 1, by omega⟩
    have hxy : (xs ++ ys).length = xs.length + ys.length := by simp
    refine hd'.step (.push _ _ _) (fun _ _ h => h) (hd'.hp.moved hd'.keep.size ho (o' := .arr _ e (xs ++ ys)) ?_ (.inr ⟨w.heap.size, cap, _, et, by rw [hxy, hcap], heap_pushed _ _, by omega, ?_, ?_, ?_⟩))
    · rw [hcap]; rfl
    · have hol' := flatten_length xs hxl
      have hyl' := flatten_length ys hyl
      simp only [Array.size_append, List.size_toArray, List.length_append, size_zeroCells, hzs, hol, hnl, hol', hyl', hcap]
      rw [← Nat.add_mul, ← Nat.add_mul]
      congr 1; omega
    · intro z hz'
      rcases List.mem_append.1 hz' with hz' | hz'
      · exact hxl z hz'
      · exact hyl z hz'
    · rw [List.flatten_append]
      intro k y hk
      rw [Nat.zero_add]
      by_cases hk1 : k < xs.flatten.length
      · rw [List.getElem?_append_left hk1] at hk
        obtain ⟨u, h1, h0, h2⟩ := hoc k y hk
        refine ⟨u, ?_, h0, h2.move (fun _ _ h _ => h) fun fr b hb hlt => hgw fr b hb hlt _⟩
        rw [Nat.zero_add] at h1
        rw [Array.getElem?_append_left (by simp; omega)]
        simp only [List.getElem?_toArray] at h1 ⊢
        rw [List.getElem?_append_left (by omega)]; exact h1
      · rw [List.getElem?_append_right (by omega)] at hk
        have hk2 := (List.getElem?_eq_some_iff.1 hk).1
        obtain ⟨u, h1, h0, h2⟩ := hnc _ y hk
        refine ⟨u, ?_, h0, h2.move (fun _ _ h _ => h) fun fr b hb hlt => hgw fr b hb hlt _⟩
        rw [Nat.zero_add] at h1
        rw [Array.getElem?_append_left (by simp; omega)]
        simp only [List.getElem?_toArray] at h1 ⊢
        rw [List.getElem?_append_right (by omega), hol]; exact h1
  rcases hA.arr i ho with ⟨a0, hv, hxs⟩ | ⟨b, cap, us, t', hv, hb, hle, hus, hxl, hc⟩
  · subst hxs
    by_cases hys : ys = []
    · subst hys
      have hn0 : news = [] := List.eq_nil_of_length_eq_zero (by simpa using hnl)
      subst hn0
      have hc0 : (Builtin.firstCells ti.size 0 (a.eval x)).run P w = .ok #[] w := by simpa using hsrc.cells
      have hr : (Builtin.append_ #[t, tx] ty #[v, a.eval x]).run P w = .ok v w := by
        rcases hsrc.kind with ⟨e', hk⟩ | hk <;> cases a0 <;> simp [hv, Builtin.append_, run_underlying _ hU, run_underlying _ hk, sizeOf, typeInfo, hi, hsrc.len, hc0, storeCells]
      rw [run_builtin_append (hsv.eq hA) rfl hr, Oper.upon_value]
      refine hK _ _ (h v _ _ ⟨A, SatA.put ?_ (blt_lt hd) (.c _)⟩)
      have : own.set i (.arr v e ([] ++ [])) = own := by
        have hlt := (List.getElem?_eq_some_iff.1 ho)
        apply List.ext_getElem?
        intro k
        rw [List.getElem?_set]
        split
        · rename_i hik; subst hik; rw [if_pos hlt.1, ho]; rfl
        · rfl
      rw [this]; exact hA
    · have : 0 < ys.length := List.length_pos_iff.2 hys
      refine grow a0 0 [] hv ?_ (by simp) (fun x hx => by cases hx) (fun k y hk => by simp at hk) (by simp; omega)
      cases a0 with
      | none => exact run_firstCells_none w.drew ti.size 0 0 0
      | some a' => exact run_firstCells_some w.drew ti.size 0 a' 0 0 [] (by simp) (by intro _ _ h'; simp at h')
  · have hfl := flatten_length xs hxl
    by_cases hroom : xs.length + ys.length ≤ cap + 1
    · -- in place
      have hml : xs.length * e.sz + news.length ≤ us.size := by rw [hsrc.newsLen, hsz, hus, ← Nat.add_mul]; exact Nat.mul_le_mul_right _ hroom
      obtain ⟨w1, us1, hr1, hk1, hz1, hb1, hs1, hu1⟩ := run_storeCells (P := P) (off := xs.length * e.sz) news 0 us w hb (by simpa using hml) (List.all_eq_true.2 hsrc.one)
      have hr : (Builtin.append_ #[t, tx] ty #[v, a.eval x]).run P w = .ok (.slice (some ⟨b, 0, none⟩) (xs.length + ys.length) (cap + 1)) w1 := by
        rw [← hsz] at hr1
        rcases hsrc.kind with ⟨e', hk⟩ | hk <;> simp [hv, Builtin.append_, run_underlying _ hU, run_underlying _ hk, sizeOf, typeInfo, hi, hsrc.len, hroom, hsrc.cells, add_at, hr1]
      rw [run_builtin_append (hsv.eq hA) rfl hr, Oper.upon_value]
      refine hK _ _ (h _ _ _ ⟨A, SatA.put ?_ (blt_lt hd) (.c _)⟩)
      have hmem := List.mem_of_getElem? ho
      have hof : (Own.arr v e xs).fp = [b] := by rw [hv]; rfl
      have hfp : ∀ fr c, A fr c → c < w.heap.size → w1.heap[c]? = w.heap[c]? := fun fr c hc hlt => hk1.block c hlt fun hm' => by
        exact (hA.hp.fp c (fps_mem hmem (by rw [hof]; exact hm'))).2.2 fr hc
      refine hA.step (hk1.mono fun c hc => fps_mem hmem (by rw [hof]; exact hc)) (fun _ _ h => h) (hA.hp.upd (o' := .arr (.slice (some ⟨b, 0, none⟩) (xs.length + ys.length) (cap + 1)) e (xs ++ ys)) ho (by rw [hof]; rfl) (by rw [hof]; exact hk1) hz1
        (.inr ⟨b, cap, us1, t', by simp, hb1, by simpa using hroom, by rw [hs1, hus], fun z hz' => ?_, ?_⟩))
      · rcases List.mem_append.1 hz' with hz' | hz'
        · exact hxl z hz'
        · exact hyl z hz'
      · rw [List.flatten_append]
        intro k y hk
        rw [Nat.zero_add, hu1 k]
        by_cases hk1' : k < xs.flatten.length
        · rw [List.getElem?_append_left hk1'] at hk
          obtain ⟨u, h1, h0, h2⟩ := hc k y hk
          rw [Nat.zero_add] at h1
          exact ⟨u, by rw [if_neg (by omega)]; exact h1, h0, h2.move (fun _ _ h _ => h) hfp⟩
        · rw [List.getElem?_append_right (by omega)] at hk
          have hk2 := (List.getElem?_eq_some_iff.1 hk).1
          obtain ⟨u, h1, h0, h2⟩ := hnc _ y hk
          rw [Nat.zero_add, List.getElem?_toArray] at h1
          refine ⟨u, ?_, h0, h2.move (fun _ _ h _ => h) hfp⟩
          rw [if_pos (by omega), ← h1, hfl, Nat.add_zero]
    · have hcu : ∀ k, k < xs.flatten.length → us[k]? = some (us.getD k undef) := fun k hk => by
        obtain ⟨u, h1, _, _⟩ := hc k _ (List.getElem?_eq_getElem hk)
        rw [Nat.zero_add] at h1
        simp [Array.getD_eq_getD_getElem?, h1]
      have hget : ∀ k u, ((List.range (xs.length * e.sz)).map fun k => us.getD k undef)[k]? = some u → k < xs.length * e.sz ∧ u = us.getD k undef := fun k u hk => by
        rw [List.getElem?_map] at hk
        by_cases hlt : k < xs.length * e.sz
        · rw [List.getElem?_range hlt] at hk; cases hk; exact ⟨hlt, rfl⟩
        · rw [List.getElem?_eq_none (by simpa using hlt)] at hk; cases hk
      refine grow (some ⟨b, 0, none⟩) (cap + 1) ((List.range (xs.length * e.sz)).map fun k => us.getD k undef) hv ?_ (by rw [hfl]; simp) hxl (fun k y hk => ?_) (by omega)
      · refine run_firstCells_some w.drew ti.size xs.length ⟨b, 0, none⟩ xs.length (cap + 1) _ (by rw [hsz]; simp) fun j u hj => ?_
        obtain ⟨h1, rfl⟩ := hget j u hj
        have : w.drew.heap[b]? = some (.cells us t' (0, 0)) := hb
        rw [add_at, cell_at this, Nat.zero_add]
        exact hcu j (by omega)
      · obtain ⟨u, h1, h0, h2⟩ := hc k y hk
        have hlt : k < xs.length * e.sz := by rw [← hfl]; exact (List.getElem?_eq_some_iff.1 hk).1
        rw [Nat.zero_add] at h1 ⊢
        exact ⟨u, by simp [hlt, Array.getD_eq_getD_getElem?, h1], h0, h2⟩
end
end Go.Proofs.Ytkiankpmkglhcaa.J
