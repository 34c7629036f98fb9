/- Appends as operations of regions that draw their order; comparisons with nil; literals without items. -/
import Derived.Test.YtkiankpmkglhcaaJ16
import Derived.WalkSpells
import Derived.Lib.LazyBuf
namespace Go.Proofs.Ytkiankpmkglhcaa.J
open Go Go.RowKit
set_option linter.unusedVariables false
set_option linter.unusedSimpArgs false

section
variable {P : Program} {E : Ent} {Q : Exit → St → Prop} {n : Nat} {env : List (Nat × AV)} {own : List Own} {F : List (Value × AV)} {D : List Deferred} {ops : Array Oper} {rest : List Oper}
variable {A : Foot} {a : Act} {w w' : World} {t tx et ty s0 : TypeId} {pos : String} {af : Array Edge} {d : Nat} {s x y : Operand}

/-- An append onto an own array. -/
theorem LStepR.append (i : Nat) {v : Value} {e : ETy} {xs ys : List (List AV)} (hU : P.underlying t = some (.slice et)) (hE : elemB P et e = true) (hb0 : Nat.blt 0 e.bytes = true) (hsv : Ev E ⟨n, env, own, F, D⟩ s (.c v))
    (ho : own[i]? = some (.arr v e xs)) (hx : ∀ A a w, SatA E A ⟨n, env, own, F, D⟩ a w → SrcA P w A tx (a.eval x) e ys) (hreach : (xs.length + ys.length) * e.bytes ≤ reach) :
    LStepR P E Q ⟨n, env, own, F, D⟩ (fun ow x o' => ∃ v', x = .c v' ∧ o' = ow.set i (.arr v' e (xs ++ ys))) ⟨some d, .call ⟨.builtin .append, #[s, x], #[t, tx]⟩, ty, pos, af, none⟩ := fun A a w hA K hK => by
  refine wpR (by intro c h; cases h) ?_
  unfold Oper.wp
  obtain ⟨ti, tz, hi, hsz, hby, hz, hzs⟩ := elemB_get hE
  obtain ⟨news, hsrc, hnc, hyl⟩ := hx A a w hA
  rw [← hsz] at hsrc
  have hb1 : 1 ≤ e.bytes := blt_lt hb0
  have hneed : xs.length + ys.length ≤ reach := Nat.le_trans (Nat.le_mul_of_pos_right _ hb1) hreach
  unfold reach at hneed hreach
  have hnl : news.length = ys.flatten.length := by rw [hsrc.newsLen, hsz, flatten_length ys hyl]
  have h63 : ((xs.length + ys.length : Nat) : Int) ≤ 9223372036854775807 := by omega
  have hfit : ∀ sCap, sCap < xs.length + ys.length → Builtin.nextslicecap (xs.length + ys.length) sCap * ti.bytes ≤ 281474976710656 := fun sCap hlt => growslice_fits hlt (by rw [hby]; omega)
  have hgw : ∀ fr b, A fr b → b < w.heap.size → ∀ o, (World.pushed (World.drawnBy w) o).heap[b]? = w.heap[b]? := fun fr b _ hlt o => (Keep.push [] (World.drawnBy w) o).block b hlt (by simp)
  -- a new row
  have grow : ∀ (base : Option Addr) (sCap : Nat) (olds : List Value), v = .slice base xs.length sCap → (Builtin.firstCells ti.size xs.length (.slice base xs.length sCap)).run P w.drew = .ok olds.toArray w.drew →
      olds.length = xs.flatten.length → (∀ x ∈ xs, x.length = e.sz) → Cells w A olds.toArray 0 xs.flatten → sCap < xs.length + ys.length →
      Oper.wp P ⟨some d, .call ⟨.builtin .append, #[s, x], #[t, tx]⟩, ty, pos, af, none⟩ a w K (lift E Q) := by
    intro base sCap olds hv hold hol hxl hoc hlt
    have hr := run_append_grow_src (P := P) w t tx ty et ti tz hU hi hz base xs.length sCap olds hold (a.eval x) ys.length news hsrc hlt h63 (hfit _ hlt)
    have hge := grownCap_ge w (xs.length + ys.length) sCap et
    unfold Oper.wp
    rw [run_builtin_append (hsv.eq hA) rfl (by rw [hv]; exact hr), Oper.upon_value, alloc_eq]
    have hfrm0 : ∀ o, Frm w A (World.pushed (World.drawnBy w) o) A := fun o u y hr => hr.move (fun _ _ h _ => h) fun fr b hb hlt => hgw fr b hb hlt o
    refine hK _ (.c _) _ _ A ⟨_, rfl, rfl⟩ (hfrm0 _) ?_ (.c _)
    have hd' := hA.draw
    obtain ⟨cap, hcap⟩ : ∃ cap, grownCap w (xs.length + ys.length) sCap et = cap + 1 := ⟨grownCap w (xs.length + ys.length) sCap et - 1, by omega⟩
    have hxy : (xs ++ ys).length = xs.length + ys.length := by simp
    refine hd'.step (.push _ _ _) (fun _ _ h => h) (hd'.hp.moved hd'.keep.size ho (o' := .arr _ e (xs ++ ys)) ?_ (.inr ⟨w.heap.size, cap, _, et, by rw [hxy, hcap], heap_pushed _ _, by omega, ?_, ?_, ?_⟩))
    · rw [hcap]; rfl
    · have hol' := flatten_length xs hxl
      have hyl' := flatten_length ys hyl
      simp only [Array.size_append, List.size_toArray, List.length_append, size_zeroCells, hzs, hol, hnl, hol', hyl', hcap]
      rw [← Nat.add_mul, ← Nat.add_mul]
      congr 1; omega
    · intro z hz'
      rcases List.mem_append.1 hz' with hz' | hz'
      · exact hxl z hz'
      · exact hyl z hz'
    · rw [List.flatten_append]
      intro k y hk
      rw [Nat.zero_add]
      by_cases hk1 : k < xs.flatten.length
      · rw [List.getElem?_append_left hk1] at hk
        obtain ⟨u, h1, h0, h2⟩ := hoc k y hk
        refine ⟨u, ?_, h0, h2.move (fun _ _ h _ => h) fun fr b hb hlt => hgw fr b hb hlt _⟩
        rw [Nat.zero_add] at h1
        rw [Array.getElem?_append_left (by simp; omega)]
        simp only [List.getElem?_toArray] at h1 ⊢
        rw [List.getElem?_append_left (by omega)]; exact h1
      · rw [List.getElem?_append_right (by omega)] at hk
        have hk2 := (List.getElem?_eq_some_iff.1 hk).1
        obtain ⟨u, h1, h0, h2⟩ := hnc _ y hk
        refine ⟨u, ?_, h0, h2.move (fun _ _ h _ => h) fun fr b hb hlt => hgw fr b hb hlt _⟩
        rw [Nat.zero_add] at h1
        rw [Array.getElem?_append_left (by simp; omega)]
        simp only [List.getElem?_toArray] at h1 ⊢
        rw [List.getElem?_append_right (by omega), hol]; exact h1
  rcases hA.arr i ho with ⟨a0, hv, hxs⟩ | ⟨b, cap, us, t', hv, hb, hle, hus, hxl, hc⟩
  · subst hxs
    by_cases hys : ys = []
    · subst hys
      have hn0 : news = [] := List.eq_nil_of_length_eq_zero (by simpa using hnl)
      subst hn0
      have hc0 : (Builtin.firstCells ti.size 0 (a.eval x)).run P w = .ok #[] w := by simpa using hsrc.cells
      have hr : (Builtin.append_ #[t, tx] ty #[v, a.eval x]).run P w = .ok v w := by
        rcases hsrc.kind with ⟨e', hk⟩ | hk <;> cases a0 <;> simp [hv, Builtin.append_, run_underlying _ hU, run_underlying _ hk, sizeOf, typeInfo, hi, hsrc.len, hc0, storeCells]
      rw [run_builtin_append (hsv.eq hA) rfl hr, Oper.upon_value]
      refine hK v (.c v) _ w A ⟨v, rfl, rfl⟩ (.refl _ _) ?_ (.c _)
      have : own.set i (.arr v e ([] ++ [])) = own := by
        have hlt := (List.getElem?_eq_some_iff.1 ho)
        apply List.ext_getElem?
        intro k
        rw [List.getElem?_set]
        split
        · rename_i hik; subst hik; rw [if_pos hlt.1, ho]; rfl
        · rfl
      rw [this]; exact hA
    · have : 0 < ys.length := List.length_pos_iff.2 hys
      refine grow a0 0 [] hv ?_ (by simp) (fun x hx => by cases hx) (fun k y hk => by simp at hk) (by simp; omega)
      cases a0 with
      | none => exact run_firstCells_none w.drew ti.size 0 0 0
      | some a' => exact run_firstCells_some w.drew ti.size 0 a' 0 0 [] (by simp) (by intro _ _ h'; simp at h')
  · have hfl := flatten_length xs hxl
    by_cases hroom : xs.length + ys.length ≤ cap + 1
    · -- in place
      have hml : xs.length * e.sz + news.length ≤ us.size := by rw [hsrc.newsLen, hsz, hus, ← Nat.add_mul]; exact Nat.mul_le_mul_right _ hroom
      obtain ⟨w1, us1, hr1, hk1, hz1, hb1, hs1, hu1⟩ := run_storeCells (P := P) (off := xs.length * e.sz) news 0 us w hb (by simpa using hml) (List.all_eq_true.2 hsrc.one)
      have hr : (Builtin.append_ #[t, tx] ty #[v, a.eval x]).run P w = .ok (.slice (some ⟨b, 0, none⟩) (xs.length + ys.length) (cap + 1)) w1 := by
        rw [← hsz] at hr1
        rcases hsrc.kind with ⟨e', hk⟩ | hk <;> simp [hv, Builtin.append_, run_underlying _ hU, run_underlying _ hk, sizeOf, typeInfo, hi, hsrc.len, hroom, hsrc.cells, add_at, hr1]
      rw [run_builtin_append (hsv.eq hA) rfl hr, Oper.upon_value]
      have hmem := List.mem_of_getElem? ho
      have hof : (Own.arr v e xs).fp = [b] := by rw [hv]; rfl
      have hfp : ∀ fr c, A fr c → c < w.heap.size → w1.heap[c]? = w.heap[c]? := fun fr c hc hlt => hk1.block c hlt fun hm' => by
        exact (hA.hp.fp c (fps_mem hmem (by rw [hof]; exact hm'))).2.2 fr hc
      refine hK _ (.c _) _ w1 A ⟨_, rfl, rfl⟩ (fun u y hr => hr.move (fun _ _ h _ => h) hfp) ?_ (.c _)
      refine hA.step (hk1.mono fun c hc => fps_mem hmem (by rw [hof]; exact hc)) (fun _ _ h => h) (hA.hp.upd (o' := .arr (.slice (some ⟨b, 0, none⟩) (xs.length + ys.length) (cap + 1)) e (xs ++ ys)) ho (by rw [hof]; rfl) (by rw [hof]; exact hk1) hz1
        (.inr ⟨b, cap, us1, t', by simp, hb1, by simpa using hroom, by rw [hs1, hus], fun z hz' => ?_, ?_⟩))
      · rcases List.mem_append.1 hz' with hz' | hz'
        · exact hxl z hz'
        · exact hyl z hz'
      · rw [List.flatten_append]
        intro k y hk
        rw [Nat.zero_add, hu1 k]
        by_cases hk1' : k < xs.flatten.length
        · rw [List.getElem?_append_left hk1'] at hk
          obtain ⟨u, h1, h0, h2⟩ := hc k y hk
          rw [Nat.zero_add] at h1
          exact ⟨u, by rw [if_neg (by omega)]; exact h1, h0, h2.move (fun _ _ h _ => h) hfp⟩
        · rw [List.getElem?_append_right (by omega)] at hk
          have hk2 := (List.getElem?_eq_some_iff.1 hk).1
          obtain ⟨u, h1, h0, h2⟩ := hnc _ y hk
          rw [Nat.zero_add, List.getElem?_toArray] at h1
          refine ⟨u, ?_, h0, h2.move (fun _ _ h _ => h) hfp⟩
          rw [if_pos (by omega), ← h1, hfl, Nat.add_zero]
    · have hcu : ∀ k, k < xs.flatten.length → us[k]? = some (us.getD k undef) := fun k hk => by
        obtain ⟨u, h1, _, _⟩ := hc k _ (List.getElem?_eq_getElem hk)
        rw [Nat.zero_add] at h1
        simp [Array.getD_eq_getD_getElem?, h1]
      have hget : ∀ k u, ((List.range (xs.length * e.sz)).map fun k => us.getD k undef)[k]? = some u → k < xs.length * e.sz ∧ u = us.getD k undef := fun k u hk => by
        rw [List.getElem?_map] at hk
        by_cases hlt : k < xs.length * e.sz
        · rw [List.getElem?_range hlt] at hk; cases hk; exact ⟨hlt, rfl⟩
        · rw [List.getElem?_eq_none (by simpa using hlt)] at hk; cases hk
      refine grow (some ⟨b, 0, none⟩) (cap + 1) ((List.range (xs.length * e.sz)).map fun k => us.getD k undef) hv ?_ (by rw [hfl]; simp) hxl (fun k y hk => ?_) (by omega)
      · refine run_firstCells_some w.drew ti.size xs.length ⟨b, 0, none⟩ xs.length (cap + 1) _ (by rw [hsz]; simp) fun j u hj => ?_
        obtain ⟨h1, rfl⟩ := hget j u hj
        have : w.drew.heap[b]? = some (.cells us t' (0, 0)) := hb
        rw [add_at, cell_at this, Nat.zero_add]
        exact hcu j (by omega)
      · obtain ⟨u, h1, h0, h2⟩ := hc k y hk
        have hlt : k < xs.length * e.sz := by rw [← hfl]; exact (List.getElem?_eq_some_iff.1 hk).1
        rw [Nat.zero_add] at h1 ⊢
        exact ⟨u, by simp [hlt, Array.getD_eq_getD_getElem?, h1], h0, h2⟩

/-- s == nil, of a slice that is read: true only of one without items. -/
theorem JL.eqnil {fr clip : Bool} {e : ETy} {xs : List (List AV)} {yt : TypeId} (hU : P.underlying t = some (.slice et)) (hx : Ev E ⟨n, env, own, F, D⟩ x (.sl fr clip e xs)) (hy : Ev E ⟨n, env, own, F, D⟩ y (.c (.slice none 0 0))) (hd : Nat.blt d n = true)
    (h : ∀ b : Bool, (b = true → xs = []) → JL P E ops rest ⟨n, (d, .c (.bool b)) :: env, own, F, D⟩ Q) :
    JL P E ops (⟨some d, .binOp .eql t x y yt, ty, pos, af, none⟩ :: rest) ⟨n, env, own, F, D⟩ Q := fun a w ⟨A, hA⟩ => by
  refine wpListIn_plain rfl fun K hK => ?_
  refine wpR (by intro c h; cases h) ?_
  unfold Oper.wp
  have hr := hx A a w hA
  obtain ⟨ad, cap, hv, _, _, hc⟩ := hr.of_sl
  have hg : (eqGuard .eql t x y (.slice ad xs.length cap) (.slice none 0 0)).run P w = .ok () w := by simp [eqGuard]
  have hrun : (execOp a.eval ⟨some d, .binOp .eql t x y yt, ty, pos, af, none⟩).run P w = .ok (.value (.bool ad.isNone)) w := by
    simp only [execOp, hv, hy.eq hA, Sem.run_bind, hg, Result.andThen_ok, Lib.run_eql_slice_nil w t et ad xs.length cap 0 0 hU, Sem.run_pure]
  rw [hrun, Oper.upon_value]
  refine hK _ _ (h ad.isNone (fun hb => ?_) _ _ ⟨A, hA.put (blt_lt hd) (.c _)⟩)
  rcases hc with hc | ⟨b, off, cs, t, fz, h1, _⟩
  · exact hc
  · rw [h1] at hb; cases hb

/-- A slice literal without items: an own array. -/
theorem JL.buildSlice0 {e : ETy} {idx : Array (Nat × Operand)} (hU : P.underlying t = some (.slice et)) (hE : elemB P et e = true) (hi : idx = #[]) (hd : Nat.blt d n = true)
    (h : ∀ v, JL P E ops rest ⟨n, (d, .c v) :: env, .arr v e [] :: own, F, D⟩ Q) :
    JL P E ops (⟨some d, .buildSlice t 0 idx, ty, pos, af, none⟩ :: rest) ⟨n, env, own, F, D⟩ Q := fun a w ⟨A, hA⟩ => by
  refine wpListIn_plain rfl fun K hK => ?_
  refine wpR (by intro c h; cases h) ?_
  unfold Oper.wp
  subst hi
  obtain ⟨ti, tz, hi1, hsz, hby, hz2, hzs⟩ := elemB_get hE
  have hrun : (execOp a.eval ⟨some d, .buildSlice t 0 #[], ty, pos, af, none⟩).run P w = .ok (.value (.slice (some ⟨w.heap.size, 0, none⟩) 0 0)) (World.pushed w (.cells #[] et)) := by
    simp [execOp, Instr.buildSlice, run_underlying _ hU, sizeOf, run_typeInfo hi1, Instr.fill, newRow, World.pushed]
    congr 2
    apply Array.ext'; simp
  rw [hrun, Oper.upon_value]
  refine hK _ _ (h _ _ _ ⟨A, SatA.put ?_ (blt_lt hd) (.c _)⟩)
  refine hA.step (.push _ _ _) (fun _ _ h => h) ⟨hA.hp.mono, hA.hp.sup, hA.hp.sub, fun fr b hb => by have := hA.hp.lt fr b hb; rw [size_pushed]; omega, fun b hb => ?_, ?_, fun o ho => ?_⟩
  · have hb' : b ∈ fps own := by simpa [fps_cons, Own.fp, arrFp] using hb
    obtain ⟨h1, h2, h3⟩ := hA.hp.fp b hb'
    exact ⟨by rw [size_pushed]; omega, h2, h3⟩
  · have := hA.hp.nodup
    simpa [fps_cons, Own.fp, arrFp] using this
  · rcases List.mem_cons.1 ho with rfl | ho
    · exact .inl ⟨_, rfl, rfl⟩
    · exact (hA.hp.own o ho).move (fun _ _ h _ => h) (fun fr b hb hlt => (Keep.push [] w _).block b hlt (by simp)) fun b hb => (Keep.push [] w _).block b (hA.hp.fp b (fps_mem ho hb)).1 (by simp)

/-- The nil slice as an own array. -/
theorem Reown.nilArr (e : ETy) (own : List Own) : Reown own (.arr (.slice none 0 0) e [] :: own) := ⟨fun x => by simp [fps_cons, Own.fp, arrFp], fun w A g => by
  simp only [List.forall_mem_cons]
  exact ⟨.inl ⟨_, rfl, rfl⟩, g⟩⟩
theorem Reown.nilArrE (e : ETy) (own : List Own) : Reown own (own ++ [.arr (.slice none 0 0) e []]) := (Reown.nilArr e own).trans (.perm (List.perm_append_singleton _ _).symm)

theorem srcA_sl {e : ETy} {ys : List (List AV)} {fr clip : Bool} {e' : TypeId} {st : St} (hU : P.underlying tx = some (.slice e')) (h : Ev E st x (.sl fr clip e ys)) : ∀ A a w, SatA E A st a w → SrcA P w A tx (a.eval x) e ys :=
  fun A a w hs => .sl hU (h A a w hs)
theorem srcA_str {l : List UInt8} {st : St} (hU : P.underlying tx = some .string) (h : Ev E st x (.c (str l))) : ∀ A a w, SatA E A st a w → SrcA P w A tx (a.eval x) ⟨1, 1⟩ (bytesAV l) :=
  fun A a w hs => by rw [h.eq hs]; exact SrcA.str hU l

/-- string(b) -/
theorem run_bytes {b off : Nat} {cs : Array Value} {tt : TypeId} {fz : Nat × Nat} (hb : w.heap[b]? = some (.cells cs tt fz)) {l : List UInt8} (hc : Cells w A cs off (l.map fun b => .c (.int .u8 (b.toNat : Int)))) (cap : Nat) :
    (Conv.bytesToString (.slice (some ⟨b, off, none⟩) l.length cap)).run P w = .ok (str l) w := by
  have hu : ∀ k, k < l.length → cs[off + k]? = some (.int .u8 ((l.getD k 0).toNat : Int)) := fun k hk => by
    obtain ⟨u, h1, _, h2⟩ := hc k (.c (.int .u8 ((l.getD k 0).toNat : Int))) (by simp [hk])
    rw [h1, h2.eq]
  have hload := run_loadCells (P := P) hb l.length off 0 #[] (fun k => .int .u8 ((l.getD k 0).toNat : Int)) (fun k hk => by simpa using hu k hk)
  have harr : (Array.range l.length).map (fun k => Value.int .u8 ((l.getD k 0).toNat : Int)) = (l.map fun b => Value.int .u8 (b.toNat : Int)).toArray := by
    apply Array.ext'
    simp only [Array.toList_map, Array.toList_range]
    apply List.ext_getElem?
    intro k
    rw [List.getElem?_map, List.getElem?_map]
    by_cases hk : k < l.length
    · rw [List.getElem?_range hk, List.getElem?_eq_getElem hk]; simp [hk]
    · rw [List.getElem?_eq_none (by simpa using hk), List.getElem?_eq_none (by simpa using hk)]; rfl
  simp only [Array.empty_append] at hload
  rw [harr] at hload
  have hloop : ∀ (f : Value → ByteArray → Sem (ForInStep ByteArray)), (∀ (n : Int) r, f (.int .u8 n) r = pure (ForInStep.yield (r.push (UInt8.ofNat n.toNat)))) → ∀ (l : List UInt8) (r : ByteArray),
      (forIn (m := Sem) (l.map fun b => Value.int .u8 (b.toNat : Int)).toArray r f).run P w = .ok ⟨r.data ++ l.toArray⟩ w := by
    intro f hf l
    induction l with
    | nil => intro r; simp
    | cons b l ih =>
      intro r
      have := ih (r.push b)
      simp only [List.map_cons]
      simp only [List.forIn_toArray] at this ⊢
      simp only [List.forIn_cons, hf, Sem.run_bind, Sem.run_pure, Result.andThen_ok]
      have hb : UInt8.ofNat ((b.toNat : Int)).toNat = b := by simp
      rw [hb, this]
      simp [ByteArray.push]
  simp only [Conv.bytesToString, Sem.run_bind, loadCells, hload, Result.andThen_ok]
  rw [hloop _ (fun n r => rfl) l ByteArray.empty]
  simp [str, Result.andThen_ok]

theorem QW.bytes_str {st : St} {dd : Option Tmp} {gd : Option (Nat × Bool)} {fr clip : Bool} {l : List UInt8} {e8 : TypeId} (hS : P.underlying s0 = some (.slice e8)) (hT : P.underlying t = some .string) (hE : P.underlying e8 = some (.int .u8))
    (hx : Ev E st x (.sl fr clip ⟨1, 1⟩ (bytesAV l))) : QW P E st ⟨dd, .convert s0 t x, ty, pos, af, gd⟩ (.c (str l)) := .pure fun A a w hs => by
  have hr := hx A a w hs
  obtain ⟨ad, cap, hv, _, _, hc⟩ := hr.of_sl
  refine ⟨str l, ?_, .c _⟩
  have hrun : (Conv.bytesToString (.slice ad (bytesAV l).length cap)).run P w = .ok (str l) w := by
    rcases hc with hc | ⟨b, off, cs, t', fz, rfl, hA, hb, hsz, _, hc⟩
    · have hl : l = [] := by simpa [bytesAV] using hc
      subst hl
      cases ad with
      | none => simp [Conv.bytesToString, bytesAV, str]; rfl
      | some ad => simp [Conv.bytesToString, bytesAV, loadCells, loadCellsFrom, str]; rfl
    · rw [bytesAV_flat] at hc
      rw [bytesAV_length]
      exact run_bytes hb hc cap
  simp only [execOp, hv, Go.convert, Sem.run_bind, run_underlying _ hS, run_underlying _ hT, Result.andThen_ok]
  simp only [run_underlying _ hE, Result.andThen_ok, hrun, Sem.run_bind, Sem.run_pure]

theorem QW.conv_str {st : St} {dd : Option Tmp} {gd : Option (Nat × Bool)} {s1 : TypeId} {v : Value} (hS : P.underlying s1 = some .string) (hT : P.underlying t = some .string) (hx : Ev E st x (.c v)) (hv : ∃ b, v = .string b) :
    QW P E st ⟨dd, .convert s1 t x, ty, pos, af, gd⟩ (.c v) := .pure fun A a w hs => by
  obtain ⟨b, rfl⟩ := hv
  exact ⟨_, by simp only [execOp, hx.eq hs, Go.convert, Sem.run_bind, run_underlying _ hS, run_underlying _ hT, Result.andThen_ok, Sem.run_pure], .c _⟩
end
end Go.Proofs.Ytkiankpmkglhcaa.J
