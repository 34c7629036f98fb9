/- What is built of parts: structs, arrays, slices. -/
import Derived.Test.YtkiankpmkglhcaaJ8
import Derived.Great.BuildSlice
namespace Go.Proofs.Ytkiankpmkglhcaa.J
open Go Go.RowKit
set_option linter.unusedVariables false
set_option linter.unusedSimpArgs false

def fillA (place : Nat → Option (Nat × Nat)) (cs : List AV) : List (Nat × List AV) → Option (List AV)
  | [] => some cs
  | (i, z) :: rest => match place i with
    | none => none
    | some (off, sz) => match Nat.beq z.length sz && Nat.ble (off + z.length) cs.length with
      | true => fillA place (splice cs off z) rest
      | false => none

section
variable {P : Program} {E : Ent} {st : St} {Q : Exit → St → Prop} {n : Nat} {env : List (Nat × AV)} {own : List Own} {F : List (Value × AV)} {D : List Deferred} {ops : Array Oper} {rest : List Oper}
variable {A : Foot} {a : Act} {w w' : World} {t et ty : TypeId} {pos : String} {af : Array Edge} {d : Nat} {gd : Option (Nat × Bool)} {dd : Option Tmp}

inductive PartsR (w : World) (A : Foot) : List (Nat × Value) → List (Nat × List AV) → Prop
  | nil : PartsR w A [] []
  | cons {i : Nat} {v : Value} {z : List AV} {vs : List (Nat × Value)} {zs : List (Nat × List AV)} (hl : v.cells.toList.length = z.length) (h1 : v.cells.toList.all (·.oneCell') = true) (hc : Cells w A v.cells.toList.toArray 0 z) (h : PartsR w A vs zs) :
      PartsR w A ((i, v) :: vs) ((i, z) :: zs)

theorem foldl_set (off : Nat) : ∀ (l : List Value) (i : Nat) (cs : Array Value), off + i + l.length ≤ cs.size →
    ((l.zipIdx i).foldl (fun cs p => cs.setIfInBounds (off + p.2) p.1) cs).size = cs.size ∧
    ∀ k, ((l.zipIdx i).foldl (fun cs p => cs.setIfInBounds (off + p.2) p.1) cs)[k]? = if off + i ≤ k ∧ k < off + i + l.length then l[k - (off + i)]? else cs[k]?
  | [], i, cs, _ => ⟨rfl, fun k => by rw [if_neg (by simp)]; rfl⟩
  | v :: l, i, cs, hl => by
    simp only [List.length_cons] at hl
    obtain ⟨h1, h2⟩ := foldl_set off l (i + 1) (cs.setIfInBounds (off + i) v) (by simp; omega)
    simp only [List.zipIdx_cons, List.foldl_cons]
    refine ⟨by rw [h1]; simp, fun k => ?_⟩
    rw [h2 k]
    simp only [List.length_cons]
    by_cases hk : k = off + i
    · subst hk
      rw [if_neg (by omega), if_pos (by omega)]
      simp [show off + i < cs.size by omega]
    · by_cases h3 : off + (i + 1) ≤ k ∧ k < off + (i + 1) + l.length
      · rw [if_pos h3, if_pos (by omega), show k - (off + i) = (k - (off + (i + 1))) + 1 by omega]; simp
      · rw [if_neg h3, if_neg (by omega)]
        rw [Array.getElem?_setIfInBounds_ne (by omega)]

theorem run_fill (place : Nat → Option (Nat × Nat)) : ∀ {parts : List (Nat × Value)} {zs : List (Nat × List AV)}, PartsR w A parts zs → ∀ {cs : Array Value} {ys ys' : List AV}, cs.size = ys.length → Cells w A cs 0 ys → fillA place ys zs = some ys' →
    ∃ cs', Instr.fill place cs parts = some cs' ∧ cs'.size = ys'.length ∧ Cells w A cs' 0 ys'
  | _, _, .nil, cs, ys, ys', hs, hc, h => by
    simp only [fillA, Option.some.injEq] at h; subst h
    exact ⟨cs, rfl, hs, hc⟩
  | _, _, .cons (i := i) (v := v) (z := z) (vs := vs) (zs := zs) hl h1 hcz hrec, cs, ys, ys', hs, hc, h => by
    unfold fillA at h
    cases hp : place i with
    | none => simp [hp] at h
    | some p =>
      obtain ⟨off, sz⟩ := p
      simp only [hp] at h
      split at h
      · rename_i hb
        simp only [Bool.and_eq_true] at hb
        have hz := Nat.eq_of_beq_eq_true hb.1
        have ho := Nat.le_of_ble_eq_true hb.2
        have hvl : v.cells.size = z.length := by rw [← hl]; simp
        have hfold : v.cells.zipIdx.foldl (fun cs (c, j) => cs.setIfInBounds (off + j) c) cs = (v.cells.toList.zipIdx 0).foldl (fun cs p => cs.setIfInBounds (off + p.2) p.1) cs := by
          rw [← Array.foldl_toList, Array.toList_zipIdx]
        obtain ⟨f1, f2⟩ := foldl_set off v.cells.toList 0 cs (by rw [Nat.add_zero, hl]; omega)
        simp only [Nat.add_zero] at f2
        obtain ⟨cs', r1, r2, r3⟩ := run_fill place hrec (cs := (v.cells.toList.zipIdx 0).foldl (fun cs p => cs.setIfInBounds (off + p.2) p.1) cs) (by rw [f1, hs, splice_length ho]) (hc.spliced hcz hl ho f2) h
        refine ⟨cs', ?_, r2, r3⟩
        unfold Instr.fill
        simp only [hp]
        rw [if_neg (by simp; omega), hfold]
        exact r1
      · cases h

theorem PartsR.of {idx : List Nat} {l : List Operand} {zs : List AV} (hA : SatA E A st a w) (hl : EvL E st l zs) (hp : zs.all AV.plain = true) (hi : idx.length = l.length) :
    PartsR w A ((idx.zip l).map fun p => (p.1, a.eval p.2)) (idx.zip (zs.map AV.cellsOf)) := by
  induction hl generalizing idx with
  | nil => cases idx <;> first | exact .nil | simp at hi
  | cons h hs ih =>
    cases idx with
    | nil => simp at hi
    | cons i idx =>
      simp only [List.all_cons, Bool.and_eq_true] at hp
      obtain ⟨h1, h2, h3⟩ := (h A a w hA).cellsOf hp.1
      exact .cons h1 h2 h3 (ih hp.2 (by simpa using hi))

/-- The places of a type's parts. -/
def placesOf (P : Program) (t : TypeId) : Option (List (Nat × Nat)) := match P.underlying t with
  | some (.struct fields) => fields.toList.mapM (fun f => (P.info? f.type).map fun i => (f.offset, i.size))
  | _ => none
def arrOf (P : Program) (t : TypeId) : Option Nat := match P.underlying t with
  | some (.array _ e) => (P.info? e).map (·.size)
  | _ => none

theorem zero_get {vs : List Value} (hz : zeroCells P t = some vs) : ∃ i zv, P.info? t = some i ∧ i.zero = some zv ∧ zv.cells.toList = vs := by
  unfold zeroCells at hz
  cases hi : P.info? t with
  | none => rw [hi] at hz; cases hz
  | some i =>
    rw [hi] at hz
    cases hzz : i.zero with
    | none => simp [hzz] at hz
    | some zv => exact ⟨i, zv, rfl, hzz, by simpa [hzz] using hz⟩

theorem QW.build {pl : List (Nat × Nat)} {zc : List Value} {idx : List Nat} {l : List Operand} {zs ys : List AV} {parts : Array (Nat × Operand)} (hP : placesOf P t = some pl) (hz : zeroCells P t = some zc) (hz1 : zc.all (·.oneCell') = true)
    (hl : EvL E st l zs) (hparts : parts = (idx.zip l).toArray) (hp : zs.all AV.plain = true) (hi : idx.length = l.length) (hf : fillA (pl.toArray[·]?) (zc.map AV.c) (idx.zip (zs.map AV.cellsOf)) = some ys) :
    QW P E st ⟨dd, .build t parts, ty, pos, af, gd⟩ (.agg ys) := .pure fun A a w hs => by
  obtain ⟨ti, zv, h1, h2, h3⟩ := zero_get hz
  obtain ⟨cs', r1, r2, r3⟩ := run_fill (pl.toArray[·]?) (PartsR.of hs hl hp hi) (cs := zv.cells) (ys := zc.map AV.c) (by rw [← Array.length_toList, h3, List.length_map]) (by
    have := Cells.const (w := w) (A := A) hz1
    rw [← h3] at this ⊢
    rwa [Array.toArray_toList] at this) hf
  refine ⟨.agg cs', ?_, .mk_agg r2 r3⟩
  have hb : P.built t ((parts.map fun (i, x) => (i, a.eval x)).toList) = some cs' := by
    unfold Program.built
    unfold placesOf at hP
    cases hu : P.underlying t with
    | none => simp [hu] at hP
    | some td =>
      cases td <;> try (simp [hu] at hP; done)
      simp only [hu] at hP
      simp only [h1, h2, hP]
      rw [← r1, hparts]
      simp
  simp only [execOp, Sem.run_bind, run_build w t _ _ hb, Result.andThen_ok, Sem.run_pure]

/-- A new row that is read alone. -/
theorem SatA.fresh (hA : SatA E A st a w) {cs : Array Value} {ys : List AV} (hs : cs.size = ys.length) (hc : Cells w A cs 0 ys) :
    ∃ A', SatA E A' st a (World.pushed w (.cells cs t)) ∧ Frm w A (World.pushed w (.cells cs t)) A' ∧ (∀ fr, A' fr w.heap.size) ∧ Cells (World.pushed w (.cells cs t)) A' cs 0 ys := by
  obtain ⟨n, env, own, F, D⟩ := st
  let A' : Foot := fun fr b => A fr b ∨ b = w.heap.size
  have hup : ∀ fr b, A fr b → A' fr b := fun fr b hb => .inl hb
  have hkeep : ∀ fr b, A fr b → b < w.heap.size → (World.pushed w (.cells cs t)).heap[b]? = w.heap[b]? := fun fr b _ hlt => (Keep.push [] w _).block b hlt (by simp)
  refine ⟨A', hA.step (.push _ _ _) hup ⟨fun b hb => hb.imp (hA.hp.mono b) id, fun fr b hb => hup fr b (hA.hp.sup fr b hb), fun fr b hb => ?_, fun fr b hb => ?_, fun b hb => ?_, hA.hp.nodup, fun o ho => ?_⟩,
    fun u y h => h.move (fun fr b hb _ => hup fr b hb) hkeep, fun fr => .inr rfl, hc.move (fun fr b hb _ => hup fr b hb) hkeep⟩
  · rcases hb with hb | rfl
    · exact hA.hp.sub fr b hb
    · exact .inr hA.keep.size
  · rw [size_pushed]
    rcases hb with hb | rfl
    · have := hA.hp.lt fr b hb; omega
    · omega
  · obtain ⟨h1, h2, h3⟩ := hA.hp.fp b hb
    exact ⟨by rw [size_pushed]; omega, h2, fun fr h => h.elim (h3 fr) (fun he => by omega)⟩
  · exact (hA.hp.own o ho).move (fun fr b hb _ => hup fr b hb) hkeep fun b hb => (Keep.push [] w _).block b (hA.hp.fp b (fps_mem ho hb)).1 (by simp)

theorem run_buildSlice0 {pl : Nat → Option (Nat × Nat)} {e : ETy} {zc : List Value} {idx : List Nat} {l : List Operand} {zs : List AV} {xs : List (List AV)} {parts : Array (Nat × Operand)} {len : Nat} (hU : P.underlying t = some (.slice et)) (hE : elemB P et e = true)
    (hz : zeroCells P et = some zc) (hz1 : zc.all (·.oneCell') = true) (hA : SatA E A st a w)
    (hl : EvL E st l zs) (hparts : parts = (idx.zip l).toArray) (hp : zs.all AV.plain = true) (hi : idx.length = l.length) (hsmall : Nat.ble (len * e.sz) 16777216 = true) (hpos : Nat.blt 0 (len * e.sz) = true)
    (hf : fillA (fun i => some (i * e.sz, e.sz)) ((List.range (len * e.sz)).map fun k => AV.c (zc.getD (k % zc.length) undef)) (idx.zip (zs.map AV.cellsOf)) = some xs.flatten) :
    ∃ cs, (execOp a.eval ⟨dd, .buildSlice t len parts, ty, pos, af, gd⟩).run P w = .ok (.value (.slice (some ⟨w.heap.size, 0, none⟩) len len)) (World.pushed w (.cells cs et)) ∧ cs.size = xs.flatten.length ∧ Cells w A cs 0 xs.flatten := by
  obtain ⟨ti, tz, hi1, hsz, hby, hz2, hzs⟩ := elemB_get hE
  obtain ⟨ti', zv, h1, h2, h3⟩ := zero_get hz
  rw [hi1] at h1; cases h1
  rw [hz2] at h2; cases h2
  have hzl : zc.length = e.sz := by rw [← h3, Array.length_toList, hzs]
  have hps := blt_lt hpos
  have hbase : ∀ k, k < len * e.sz → tz.cells[k % tz.cells.size]! = zc.getD (k % zc.length) undef ∧ (zc.getD (k % zc.length) undef).oneCell' = true := fun k hk => by
    have he : 0 < e.sz := Nat.pos_of_ne_zero fun h => by rw [h, Nat.mul_zero] at hps; omega
    have hlt : k % e.sz < e.sz := Nat.mod_lt _ he
    rw [hzs, hzl]
    have hg : zc.getD (k % e.sz) undef = zc[k % e.sz]'(by omega) := by simp [List.getD_eq_getElem?_getD, show k % e.sz < zc.length by omega]
    rw [hg]
    refine ⟨?_, (List.all_eq_true.1 hz1) _ (List.getElem_mem _)⟩
    subst h3
    rw [getElem!_pos tz.cells (k % e.sz) (by omega)]
    simp
  obtain ⟨cs, r1, r2, r3⟩ := run_fill (fun i => some (i * e.sz, e.sz)) (PartsR.of hA hl hp hi) (cs := (Array.range (len * e.sz)).map (tz.cells[· % tz.cells.size]!)) (by simp) (fun k y hk => by
    rw [List.getElem?_map] at hk
    by_cases hlt : k < len * e.sz
    · rw [List.getElem?_range hlt] at hk; cases hk
      obtain ⟨b1, b2⟩ := hbase k hlt
      exact ⟨_, by simp [hlt, b1], b2, .c _⟩
    · rw [List.getElem?_eq_none (by simpa using hlt)] at hk; cases hk) hf
  refine ⟨cs, ?_, r2, r3⟩
  have hr := run_buildSlice (P := P) w t et len (parts.map fun (i, x) => (i, a.eval x)) cs ti tz hU hi1 hz2 (by rw [hsz]; have := Nat.le_of_ble_eq_true hsmall; omega) (by rw [hsz]; omega) (by rw [hsz, ← r1, hparts]; simp)
  simp only [execOp, Sem.run_bind, hr, Result.andThen_ok, Sem.run_pure]
  rfl

/-- A slice literal, read alone. -/
theorem QW.buildSlice {e : ETy} {zc : List Value} {idx : List Nat} {l : List Operand} {zs : List AV} {xs : List (List AV)} {parts : Array (Nat × Operand)} {len : Nat} (hU : P.underlying t = some (.slice et)) (hE : elemB P et e = true)
    (hz : zeroCells P et = some zc) (hz1 : zc.all (·.oneCell') = true) (hl : EvL E st l zs) (hparts : parts = (idx.zip l).toArray) (hp : zs.all AV.plain = true) (hi : idx.length = l.length) (hsmall : Nat.ble (len * e.sz) 16777216 = true) (hpos : Nat.blt 0 (len * e.sz) = true)
    (hf : fillA (fun i => some (i * e.sz, e.sz)) ((List.range (len * e.sz)).map fun k => AV.c (zc.getD (k % zc.length) undef)) (idx.zip (zs.map AV.cellsOf)) = some xs.flatten) (hlen : xs.length = len) (hxl : (xs.all fun x => Nat.beq x.length e.sz) = true)
    (hb : Nat.ble (len * e.bytes) reach = true) : QW P E st ⟨dd, .buildSlice t len parts, ty, pos, af, gd⟩ (.sl true true e xs) := fun A a w hA K Qx hK => by
  obtain ⟨cs, hr, hs, hc⟩ := run_buildSlice0 (pl := fun _ => none) (dd := dd) (ty := ty) (pos := pos) (af := af) (gd := gd) hU hE hz hz1 hA hl hparts hp hi hsmall hpos hf
  refine wpR (by intro c h; cases h) ?_
  unfold Oper.wp
  rw [hr, Oper.upon_value]
  obtain ⟨A', h1, h2, h3, h4⟩ := hA.fresh (t := et) hs hc
  refine hK _ _ A' h2 h1 ?_
  subst hlen
  refine .sl true true e xs w.heap.size 0 xs.length cs et (0, 0) (fun k => cs.getD k undef) (h3 true) (heap_pushed _ _) (Nat.le_refl _) (fun _ => rfl) (fun x hx => Nat.eq_of_beq_eq_true ((List.all_eq_true.1 hxl) x hx)) (Nat.le_of_ble_eq_true hb)
    (fun k y hk => ?_) (fun k y hk => ?_)
  · obtain ⟨u, g1, g0, _⟩ := h4 k y hk
    rw [Nat.zero_add] at g1 ⊢
    simp [Array.getD_eq_getD_getElem?, g1, g0]
  · obtain ⟨u, g1, _, g2⟩ := h4 k y hk
    rw [Nat.zero_add] at g1
    simpa [Array.getD_eq_getD_getElem?, g1] using g2
end
end Go.Proofs.Ytkiankpmkglhcaa.J
