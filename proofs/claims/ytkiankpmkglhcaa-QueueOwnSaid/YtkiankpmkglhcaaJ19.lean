/- Appends onto slices that are read alone and have no spare places: what comes of them is fresh. Lists of trees. -/
import Derived.Test.YtkiankpmkglhcaaV1
namespace Go.Proofs.Ytkiankpmkglhcaa.J
open Go Go.RowKit
set_option linter.unusedVariables false
set_option linter.unusedSimpArgs false

section
variable {P : Program} {E : Ent} {st : St} {Q : Exit → St → Prop} {n : Nat} {env : List (Nat × AV)} {own : List Own} {F : List (Value × AV)} {D : List Deferred} {ops : Array Oper} {rest : List Oper}
variable {A : Foot} {a : Act} {w w' : World} {t tx et ty : TypeId} {pos : String} {af : Array Edge} {d : Nat} {dd : Option Tmp} {gd : Option (Nat × Bool)} {s x y : Operand}

theorem SatA.drawn (h : SatA E A st a w) : SatA E A st a (World.drawnBy w) := by
  obtain ⟨n, env, own, F, D⟩ := st
  exact h.draw

/-- An append onto a slice without spare places, of something: a fresh slice. -/
theorem QW.appendQ {fr : Bool} {e : ETy} {xs ys : List (List AV)} (hU : P.underlying t = some (.slice et)) (hE : elemB P et e = true) (hb0 : Nat.blt 0 e.bytes = true) (hsv : Ev E st s (.sl fr true e xs))
    (hx : ∀ A a w, SatA E A st a w → SrcA P w A tx (a.eval x) e ys) (hne : 0 < ys.length) (hreach : (xs.length + ys.length) * e.bytes ≤ reach) :
    QW P E st ⟨dd, .call ⟨.builtin .append, #[s, x], #[t, tx]⟩, ty, pos, af, gd⟩ (.sl true false e (xs ++ ys)) := fun A a w hA K Qx hK => by
  refine wpR (by intro c h; cases h) ?_
  unfold Oper.wp
  obtain ⟨ti, tz, hi, hsz, hby, hz, hzs⟩ := elemB_get hE
  obtain ⟨news, hsrc, hnc, hyl⟩ := hx A a w hA
  rw [← hsz] at hsrc
  have hb1 : 1 ≤ e.bytes := blt_lt hb0
  have hneed : xs.length + ys.length ≤ reach := Nat.le_trans (Nat.le_mul_of_pos_right _ hb1) hreach
  have hreach' := hreach
  unfold reach at hneed hreach
  have hnl : news.length = ys.flatten.length := by rw [hsrc.newsLen, hsz, flatten_length ys hyl]
  have h63 : ((xs.length + ys.length : Nat) : Int) ≤ 9223372036854775807 := by omega
  have hfit : ∀ sCap, sCap < xs.length + ys.length → Builtin.nextslicecap (xs.length + ys.length) sCap * ti.bytes ≤ 281474976710656 := fun sCap hlt => growslice_fits hlt (by rw [hby]; omega)
  obtain ⟨ad, cap, hv, hcl, _, hc⟩ := (hsv A a w hA).of_sl
  have hcap := hcl rfl
  subst hcap
  -- the old cells
  have hold : ∃ olds : List Value, (Builtin.firstCells ti.size xs.length (.slice ad xs.length xs.length)).run P w.drew = .ok olds.toArray w.drew ∧ olds.length = xs.flatten.length ∧ (∀ x ∈ xs, x.length = e.sz) ∧ Cells w A olds.toArray 0 xs.flatten := by
    rcases hc with rfl | ⟨b, off, cs, t', fz, rfl, hAb, hb, hxl, _, hc⟩
    · refine ⟨[], ?_, by simp, (fun _ h => by cases h), fun k y hk => by simp at hk⟩
      cases ad with
      | none => exact run_firstCells_none w.drew ti.size 0 0 0
      | some a' => exact run_firstCells_some w.drew ti.size 0 a' 0 0 [] (by simp) (by intro _ _ h'; simp at h')
    · have hfl := flatten_length xs hxl
      have hcu : ∀ k, k < xs.flatten.length → cs[off + k]? = some (cs.getD (off + k) undef) := fun k hk => by
        obtain ⟨u, h1, _, _⟩ := hc k _ (List.getElem?_eq_getElem hk)
        simp [Array.getD_eq_getD_getElem?, h1]
      have hget : ∀ k u, ((List.range (xs.length * e.sz)).map fun k => cs.getD (off + k) undef)[k]? = some u → k < xs.length * e.sz ∧ u = cs.getD (off + k) undef := fun k u hk => by
        rw [List.getElem?_map] at hk
        by_cases hlt : k < xs.length * e.sz
        · rw [List.getElem?_range hlt] at hk; cases hk; exact ⟨hlt, rfl⟩
        · rw [List.getElem?_eq_none (by simpa using hlt)] at hk; cases hk
      refine ⟨(List.range (xs.length * e.sz)).map fun k => cs.getD (off + k) undef, ?_, by rw [hfl]; simp, hxl, fun k y hk => ?_⟩
      · refine run_firstCells_some w.drew ti.size xs.length ⟨b, off, none⟩ xs.length xs.length _ (by rw [hsz]; simp) fun j u hj => ?_
        obtain ⟨h1, rfl⟩ := hget j u hj
        have : w.drew.heap[b]? = some (.cells cs t' fz) := hb
        rw [add_at, cell_at this]
        exact hcu j (by omega)
      · obtain ⟨u, h1, h0, h2⟩ := hc k y hk
        have hlt : k < xs.length * e.sz := by rw [← hfl]; exact (List.getElem?_eq_some_iff.1 hk).1
        rw [Nat.zero_add]
        exact ⟨u, by simp [hlt, Array.getD_eq_getD_getElem?, h1], h0, h2⟩
  obtain ⟨olds, hold, hol, hxl, hoc⟩ := hold
  have hlt : xs.length < xs.length + ys.length := by omega
  have hr := run_append_grow_src (P := P) w t tx ty et ti tz hU hi hz ad xs.length xs.length olds hold (a.eval x) ys.length news hsrc hlt h63 (hfit _ hlt)
  have hge := grownCap_ge w (xs.length + ys.length) xs.length et
  rw [run_builtin_append hv rfl hr, Oper.upon_value, alloc_eq]
  have hd' := hA.drawn
  have hcells : Cells (World.drawnBy w) A (olds ++ news).toArray 0 (xs ++ ys).flatten := by
    rw [List.flatten_append]
    intro k y hk
    rw [Nat.zero_add]
    by_cases hk1 : k < xs.flatten.length
    · rw [List.getElem?_append_left hk1] at hk
      obtain ⟨u, h1, h0, h2⟩ := hoc k y hk
      refine ⟨u, ?_, h0, h2.move (fun _ _ h _ => h) fun _ _ _ _ => rfl⟩
      rw [Nat.zero_add] at h1
      simp only [List.getElem?_toArray] at h1 ⊢
      rw [List.getElem?_append_left (by omega)]; exact h1
    · rw [List.getElem?_append_right (by omega)] at hk
      obtain ⟨u, h1, h0, h2⟩ := hnc _ y hk
      refine ⟨u, ?_, h0, h2.move (fun _ _ h _ => h) fun _ _ _ _ => rfl⟩
      rw [Nat.zero_add] at h1
      simp only [List.getElem?_toArray] at h1 ⊢
      rw [List.getElem?_append_right (by omega), hol]; exact h1
  -- the new row, with its spare places, is read alone
  obtain ⟨n, env, own, F, D⟩ := st
  generalize hrow : ((olds ++ news).toArray ++ Builtin.zeroCells tz.cells (grownCap w (xs.length + ys.length) xs.length et - (xs.length + ys.length)) : Array Value) = row at *
  have hrowc : Cells (World.drawnBy w) A row 0 (xs ++ ys).flatten := fun k y hk => by
    obtain ⟨u, h1, h0, h2⟩ := hcells k y hk
    refine ⟨u, ?_, h0, h2⟩
    rw [← hrow]
    have hkl : 0 + k < (olds ++ news).length := by
      have := (Array.getElem?_eq_some_iff.1 h1).1
      simpa using this
    rw [Array.getElem?_append_left (by simpa using hkl)]
    simpa using h1
  let A' : Foot := fun fr b => A fr b ∨ b = (World.drawnBy w).heap.size
  have hup : ∀ fr b, A fr b → A' fr b := fun fr b hb => .inl hb
  have hkeep : ∀ fr b, A fr b → b < (World.drawnBy w).heap.size → (World.pushed (World.drawnBy w) (.cells row et)).heap[b]? = (World.drawnBy w).heap[b]? := fun fr b _ hlt => (Keep.push [] _ _).block b hlt (by simp)
  have hsat : SatA E A' ⟨n, env, own, F, D⟩ a (World.pushed (World.drawnBy w) (.cells row et)) := by
    refine hd'.step (.push _ _ _) hup ⟨fun b hb => hb.imp (hd'.hp.mono b) id, fun fr b hb => hup fr b (hd'.hp.sup fr b hb), fun fr b hb => ?_, fun fr b hb => ?_, fun b hb => ?_, hd'.hp.nodup, fun o ho => ?_⟩
    · rcases hb with hb | rfl
      · exact hd'.hp.sub fr b hb
      · exact .inr hd'.keep.size
    · rw [size_pushed]
      rcases hb with hb | rfl
      · have := hd'.hp.lt fr b hb; omega
      · omega
    · obtain ⟨h1, h2, h3⟩ := hd'.hp.fp b hb
      exact ⟨by rw [size_pushed]; omega, h2, fun fr h => h.elim (h3 fr) (fun he => by omega)⟩
    · exact (hd'.hp.own o ho).move (fun fr b hb _ => hup fr b hb) hkeep fun b hb => (Keep.push [] _ _).block b (hd'.hp.fp b (fps_mem ho hb)).1 (by simp)
  refine hK _ _ A' (fun u y h => (h.move (fun _ _ h _ => h) (fun _ _ _ _ => rfl) : Rd (World.drawnBy w) A u y).move (fun fr b hb _ => hup fr b hb) hkeep) hsat ?_
  have hc2 : Cells (World.pushed (World.drawnBy w) (.cells row et)) A' row 0 (xs ++ ys).flatten := hrowc.move (fun fr b hb _ => hup fr b hb) hkeep
  have hxy : xs.length + ys.length = (xs ++ ys).length := by simp
  rw [hxy] at hge ⊢
  refine .sl true false e (xs ++ ys) w.heap.size 0 _ row et (0, 0) (fun k => row.getD k undef) (.inr rfl) (heap_pushed _ _) hge (fun hh => by cases hh) (fun z hz' => ?_) (by rw [← hxy]; exact hreach') (fun k y hk => ?_) (fun k y hk => ?_)
  · rcases List.mem_append.1 hz' with hz' | hz'
    · exact hxl z hz'
    · exact hyl z hz'
  · obtain ⟨u, g1, g0, _⟩ := hc2 k y hk
    rw [Nat.zero_add] at g1 ⊢
    simp [Array.getD_eq_getD_getElem?, g1, g0]
  · obtain ⟨u, g1, _, g2⟩ := hc2 k y hk
    rw [Nat.zero_add] at g1
    simpa [Array.getD_eq_getD_getElem?, g1] using g2
end

theorem Reown.ofEq {a b : List Own} (h : a = b) : Reown a b := h ▸ .refl _

/-- Lists of trees in an own array. -/
structure ListTr (e : ETy) (xs cells : List (List AV)) (us : List Value) (o : Own) : Prop where
  h1 : cells.flatten = us.map AV.c
  h2 : cells.length = xs.length
  h3 : ∀ x ∈ cells, x.length = e.sz
  h4 : ∀ x ∈ xs, x.length = e.sz
  h5 : us.all (·.oneCell') = true
  h : TrL xs.flatten us o
theorem ListTr.nil (e : ETy) : ListTr e [] [] [] (.grp []) := ⟨rfl, rfl, (fun _ h => by cases h), (fun _ h => by cases h), rfl, .nil (.refl _)⟩
theorem ListTr.snoc {e : ETy} {xs cells : List (List AV)} {us us' : List Value} {o o' : Own} {ys : List AV} (h : ListTr e xs cells us o) (hl : ys.length = e.sz) (hv : TrL ys us' o') (h5 : us'.all (·.oneCell') = true) :
    ListTr e (xs ++ [ys]) (cells ++ [us'.map AV.c]) (us ++ us') (.grp [o, o']) := by
  refine ⟨by simp [h.h1], by simp [h.h2], fun x hx => ?_, fun x hx => ?_, by rw [List.all_append, h.h5, h5]; rfl, ?_⟩
  · rcases List.mem_append.1 hx with hx | hx
    · exact h.h3 x hx
    · simp only [List.mem_singleton] at hx; subst hx; rw [List.length_map, ← hv.length]; exact hl
  · rcases List.mem_append.1 hx with hx | hx
    · exact h.h4 x hx
    · simp only [List.mem_singleton] at hx; subst hx; exact hl
  · rw [List.flatten_append]
    refine h.h.append ?_ (.refl _)
    simpa using hv
theorem ListTr.tr {e : ETy} {xs cells : List (List AV)} {us : List Value} {o : Own} (h : ListTr e xs cells us o) {v : Value} (h6 : xs.length * e.bytes ≤ reach) : Tr (.sl true false e xs) v (.grp [.arr v e cells, o]) :=
  .sl h.h1 h.h2 h.h4 h.h3 h.h5 h6 h.h (.refl _)
end Go.Proofs.Ytkiankpmkglhcaa.J
