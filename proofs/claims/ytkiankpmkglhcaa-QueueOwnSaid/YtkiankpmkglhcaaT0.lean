/- From the form's reading of an input to what the logic reads. -/
import Derived.Test.YtkiankpmkglhcaaJR
import Derived.Test.YtkiankpmkglhcaaJ11
import Derived.SizedLaws
import Derived.OpenShut
import Derived.WideKeyArgs
import Derived.ChangeArms
import Derived.ChangeSame
import Derived.Below
namespace Go.Proofs.Ytkiankpmkglhcaa.J
open Go Go.RowKit
set_option linter.unusedVariables false
set_option linter.unusedSimpArgs false

theorem RdL.consA {w : World} {A : Foot} {v : Value} {x : AV} {vs : List Value} {xs : List AV} (h : Rd w A v x) (hs : RdL w A vs.toArray xs) : RdL w A (v :: vs).toArray (x :: xs) := by
  refine ⟨by have := hs.1; simpa using this, fun i y hy => ?_⟩
  cases i with
  | zero => simp at hy; subst hy; simpa [Array.getD_eq_getD_getElem?] using h
  | succ i =>
    have := hs.2 i y (by simpa using hy)
    simpa [Array.getD_eq_getD_getElem?] using this

section
variable {H : Type} {enc : TypeId × Value → H} {P : Program} {w : World} {sp : Nat → Bool} {held : Bool}

/-- Cells, as they read. -/
structure RdC (w : World) (cs : List Value) (ys : List AV) : Prop where
  len : cs.length = ys.length
  get : ∀ (k : Nat) (y : AV), ys[k]? = some y → ∃ u, cs[k]? = some u ∧ u.oneCell' = true ∧ Rd w (allOf w) u y

theorem RdC.one {v : Value} {y : AV} (h1 : v.oneCell' = true) (h : Rd w (allOf w) v y) : RdC w [v] [y] :=
  ⟨rfl, fun k z hk => by
    cases k with
    | zero => simp at hk; subst hk; exact ⟨v, rfl, h1, h⟩
    | succ k => simp at hk⟩
theorem RdC.join {cs : List Value} {o a o' : Nat} {ys zs : List AV} (h : RdC w ((cs.drop o).take a) ys) (hl : ys.length = a) (ho : o + a = o') (h2 : RdC w (cs.drop o') zs) : RdC w (cs.drop o) (ys ++ zs) := by
  subst ho
  have h1 := h.len
  have h3 := h2.len
  rw [List.length_take, List.length_drop] at h1
  rw [List.length_drop] at h3
  refine ⟨by rw [List.length_drop, List.length_append]; omega, fun k y hk => ?_⟩
  by_cases hlt : k < ys.length
  · rw [List.getElem?_append_left hlt] at hk
    obtain ⟨u, g1, g2⟩ := h.get k y hk
    refine ⟨u, ?_, g2⟩
    rw [List.getElem?_take_of_lt (by omega)] at g1
    exact g1
  · rw [List.getElem?_append_right (by omega)] at hk
    obtain ⟨u, g1, g2⟩ := h2.get _ y hk
    refine ⟨u, ?_, g2⟩
    rw [List.getElem?_drop] at g1 ⊢
    rw [← g1]
    congr 1
    omega
theorem RdC.last {cs : List Value} {o a : Nat} {ys : List AV} (h : RdC w ((cs.drop o).take a) ys) (hl : cs.length = o + a) : RdC w (cs.drop o) ys := by
  rw [List.take_of_length_le (by rw [List.length_drop]; omega)] at h
  exact h
theorem RdC.agg {vs : Array Value} {ys : List AV} (h : RdC w vs.toList ys) : Rd w (allOf w) (.agg vs) (.agg ys) := by
  have hg : ∀ k y, ys[k]? = some y → vs[k]? = some (vs.toList.getD k undef) ∧ (vs.toList.getD k undef).oneCell' = true ∧ Rd w (allOf w) (vs.toList.getD k undef) y := fun k y hk => by
    obtain ⟨u, g1, g2, g3⟩ := h.get k y hk
    have : vs.toList.getD k undef = u := by simp only [List.getD, g1, Option.getD_some]
    rw [this]
    exact ⟨by simpa using g1, g2, g3⟩
  exact .agg vs ys _ (by simpa using h.len) (fun k y hk => ⟨(hg k y hk).1, (hg k y hk).2.1⟩) fun k y hk => (hg k y hk).2.2

/-- What the form's reach says of a datum. -/
def Fits (P : Program) (t : TypeId) (d : DataW H) : Prop := ∀ n ∈ d.weights P t, n ≤ reach
theorem Fits.of {ts : List TypeId} {ds : List (DataW H)} (h : (DataW.weightsEach P ts ds).all (· ≤ reachBytes) = true) {j : Nat} {t : TypeId} {d : DataW H} (ht : ts[j]? = some t) (hd : ds[j]? = some d) : Fits P t d := fun n hn => by
  have := List.all_eq_true.1 h _ (DataW.weights_mem_each ht hd n hn)
  have h2 : reachBytes = reach := rfl
  simpa [h2] using this
theorem Fits.field {t : TypeId} {fs : Array Field} {xs : List (DataW H × List MemPlace)} (hT : P.underlying t = some (.struct fs)) (h : Fits P t (.agg (xs.map (·.1)))) {i : Nat} {f : Field} (hf : fs[i]? = some f) {x : DataW H × List MemPlace} (hx : xs[i]? = some x) : Fits P f.type x.1 := fun n hn => by
  refine h n ?_
  simp only [DataW.weights, hT]
  exact DataW.weights_mem_each (j := i) (by simpa using ⟨f, by simpa using hf, rfl⟩) (by simp [hx]) n hn
theorem weightsAll_mem' {e : TypeId} : ∀ {l : List (DataW H)} {d : DataW H}, d ∈ l → ∀ n ∈ d.weights P e, n ∈ DataW.weightsAll P e l
  | d' :: r, d, hd, n, hn => by
    simp only [DataW.weightsAll, List.mem_append]
    rcases List.mem_cons.1 hd with rfl | h
    · exact Or.inl hn
    · exact Or.inr (weightsAll_mem' h n hn)

abbrev trd (enc : TypeId × Value → H) (P : Program) (w : World) (fuel : Nat) (t : TypeId) (cs : List Value) := DataW.trod enc P w 0 (fun _ => true) true fuel t cs

theorem rd_int {t : TypeId} {k : IntKind} {fuel : Nat} {cs : List Value} {x : DataW H × List MemPlace} (ht : P.underlying t = some (.int k)) (h : trd enc P w fuel t cs = some x) : ∃ n, (Lit.int k n).wf = true ∧ RdC w cs [.c (.int k n)] := by
  obtain ⟨n, rfl, _, hw⟩ := DataW.trod_int ht h
  exact ⟨n, hw, .one rfl (.c _)⟩
theorem rd_i64 {t : TypeId} {fuel : Nat} {cs : List Value} {x : DataW H × List MemPlace} (ht : P.underlying t = some (.int .i64)) (h : trd enc P w fuel t cs = some x) : ∃ n : Int, (-9223372036854775808 ≤ n ∧ n ≤ 9223372036854775807) ∧ RdC w cs [.c (.int .i64 n)] := by
  obtain ⟨n, hw, hr⟩ := rd_int ht h
  exact ⟨n, i64_bounds hw, hr⟩
theorem rd_u64 {t : TypeId} {fuel : Nat} {cs : List Value} {x : DataW H × List MemPlace} (ht : P.underlying t = some (.int .u64)) (h : trd enc P w fuel t cs = some x) : ∃ n : Nat, n < 2 ^ 64 ∧ RdC w cs [.c (.int .u64 (n : Int))] := by
  obtain ⟨n, hw, hr⟩ := rd_int ht h
  obtain ⟨b, rfl, hb⟩ := u64_nat hw
  exact ⟨b, hb, hr⟩
theorem rd_bool {t : TypeId} {fuel : Nat} {cs : List Value} {x : DataW H × List MemPlace} (ht : P.underlying t = some .bool) (h : trd enc P w fuel t cs = some x) : ∃ b : Bool, RdC w cs [.c (.bool b)] := by
  obtain ⟨b, rfl, _⟩ := DataW.trod_bool ht h
  exact ⟨b, .one rfl (.c _)⟩
theorem rd_str {t : TypeId} {fuel : Nat} {cs : List Value} {x : DataW H × List MemPlace} (ht : P.underlying t = some .string) (h : trd enc P w fuel t cs = some x) (hf : Fits P t x.1) : ∃ s : List UInt8, s.length ≤ reach ∧ RdC w cs [.c (str s)] := by
  obtain ⟨s, rfl, rfl, _⟩ := DataW.trod_string ht h
  exact ⟨s.data.toList, hf _ (by simp [DataW.weights]), .one rfl (.c _)⟩

theorem flat_place {α : Type} {sz : Nat} (h0 : 0 < sz) : ∀ (xs : List (List α)), (∀ x ∈ xs, x.length = sz) → ∀ (k : Nat) (y : α), xs.flatten[k]? = some y → ∃ i j x, xs[i]? = some x ∧ x[j]? = some y ∧ k = i * sz + j ∧ j < sz
  | [], _, k, y, h => by simp at h
  | a :: xs, hs, k, y, h => by
    have ha : a.length = sz := hs a (by simp)
    rw [List.flatten_cons] at h
    by_cases hlt : k < a.length
    · rw [List.getElem?_append_left hlt] at h
      exact ⟨0, k, a, rfl, h, by simp, by omega⟩
    · rw [List.getElem?_append_right (by omega)] at h
      obtain ⟨i, j, x, h1, h2, h3, h4⟩ := flat_place h0 xs (fun x hx => hs x (by simp [hx])) _ y h
      exact ⟨i + 1, j, x, by simpa using h1, h2, by rw [Nat.succ_mul]; omega, h4⟩

theorem cells_get {a : Addr} {n : Nat} {cs : List Value} (h : w.cells? 0 a n = some cs) : cs.length = n ∧ ∀ j, j < n → w.cell? (a.add j) = cs[j]? := by
  unfold World.cells? at h
  rw [if_pos (Nat.zero_le _)] at h
  exact ⟨by simpa using mapM_some_length h, fun j hj => mapM_some_get h j j (by simp [hj])⟩

theorem rd_slice {α : Type} {t e : TypeId} {ei : ETy} {f : α → List AV} {Wf : α → Prop} {fuel : Nat} {cs : List Value} {x : DataW H × List MemPlace} (ht : P.underlying t = some (.slice e)) (hc : P.cellsOf e = ei.sz) (hb : P.bytesOf e = ei.bytes) (h0 : 0 < ei.sz)
    (h : trd enc P w fuel t cs = some x) (hfit : Fits P t x.1) (hlen : ∀ a, (f a).length = ei.sz)
    (hx : ∀ m cs' y, m < fuel → trd enc P w m e cs' = some y → Fits P e y.1 → ∃ a, Wf a ∧ RdC w cs' (f a)) :
    ∃ l : List α, (∀ a ∈ l, Wf a) ∧ l.length * ei.bytes ≤ reach ∧ RdC w cs [.sl false false ei (l.map f)] := by
  rcases DataW.trod_slice ht h with ⟨rfl, rfl⟩ | ⟨a, len, cap, elems, rest, n, rfl, rfl, rfl, _, hle, hmax, hel, hget, _, _⟩
  · exact ⟨[], (fun _ h => by cases h), by simp, .one rfl (.emp _ _ _ _ _ (fun h => by cases h))⟩
  have hw1 : (elems.length + rest.length) * ei.bytes ≤ reach := hfit _ (by simp [DataW.weights, ht, hb])
  have hw2 : ∀ d ∈ elems, Fits P e d.1 := fun d hd k hk => hfit k (by
    simp only [DataW.weights, ht, List.mem_cons, List.mem_append]
    exact .inr (.inl (weightsAll_mem' (List.mem_map.2 ⟨d, hd, rfl⟩) k hk)))
  have key : ∀ i : Fin len, ∃ p : α × List Value, Wf p.1 ∧ RdC w p.2 (f p.1) ∧ w.cells? 0 (a.add (i * ei.sz)) ei.sz = some p.2 := fun i => by
    have := hget i i.2
    rw [hc, List.getElem?_eq_getElem (by rw [hel]; exact i.2)] at this
    obtain ⟨cs', h1, h2⟩ := Option.bind_eq_some_iff.1 this
    obtain ⟨y, g1, g2⟩ := hx n cs' _ (Nat.lt_succ_self n) h2 (hw2 _ (List.getElem_mem _))
    exact ⟨(y, cs'), g1, g2, h1⟩
  let pick : Fin len → α × List Value := fun i => Classical.choose (key i)
  have hpick : ∀ i, Wf (pick i).1 ∧ RdC w (pick i).2 (f (pick i).1) ∧ w.cells? 0 (a.add (i * ei.sz)) ei.sz = some (pick i).2 := fun i => Classical.choose_spec (key i)
  have hll : (List.ofFn fun i => (pick i).1).length = len := by simp
  refine ⟨List.ofFn fun i => (pick i).1, fun y hy => ?_, ?_, .one rfl ?_⟩
  · obtain ⟨i, rfl⟩ := List.mem_ofFn.1 hy
    exact (hpick i).1
  · rw [hll]
    refine Nat.le_trans (Nat.mul_le_mul_right _ ?_) hw1
    omega
  · by_cases hz : len = 0
    · subst hz
      exact .emp _ _ _ _ _ (fun h => by cases h)
    have hp : 0 < len := by omega
    -- the block
    obtain ⟨g1, g2⟩ := cells_get (hpick ⟨0, hp⟩).2.2
    have g3 := g2 0 h0
    rw [List.getElem?_eq_getElem (by omega)] at g3
    have ha0 : (a.add (0 * ei.sz)).add 0 = a := by simp [Addr.add]
    rw [show ((⟨0, hp⟩ : Fin len) : Nat) = 0 from rfl, ha0] at g3
    obtain ⟨b, off, spot⟩ := a
    unfold World.cell? at g3
    cases hblk : w.heap[b]? with
    | none => simp [hblk] at g3
    | some o =>
      cases o with
      | cells us t' fz =>
        simp only [hblk] at g3
        cases spot with
        | some s => simp at g3
        | none =>
          have hcell : ∀ (i : Fin len) (j : Nat), j < ei.sz → us[off + (i * ei.sz + j)]? = (pick i).2[j]? := fun i j hj => by
            have := (cells_get (hpick i).2.2).2 j hj
            rw [add_at, add_at, cell_at hblk] at this
            rw [← this]; congr 1; omega
          have hsz : ∀ z ∈ (List.ofFn fun i => (pick i).1).map f, z.length = ei.sz := fun z hz => by
            obtain ⟨y, _, rfl⟩ := List.mem_map.1 hz
            exact hlen y
          have hall : ∀ k y, ((List.ofFn fun i => (pick i).1).map f).flatten[k]? = some y → us[off + k]? = some (us.getD (off + k) undef) ∧ (us.getD (off + k) undef).oneCell' = true ∧ Rd w (allOf w) (us.getD (off + k) undef) y := fun k y hk => by
            obtain ⟨i, j, z, h1, h2, rfl, h4⟩ := flat_place h0 _ hsz k y hk
            have hi : i < len := by have := (List.getElem?_eq_some_iff.1 h1).1; simpa using this
            have hz : z = f (pick ⟨i, hi⟩).1 := by
              rw [List.getElem?_map, List.getElem?_ofFn, dif_pos hi] at h1
              simpa using h1.symm
            subst hz
            obtain ⟨u, k1, k2, k3⟩ := (hpick ⟨i, hi⟩).2.1.get j y h2
            have k4 := hcell ⟨i, hi⟩ j h4
            rw [k1] at k4
            have : us.getD (off + (i * ei.sz + j)) undef = u := by simp only [Array.getD_eq_getD_getElem?]; rw [show us[off + (i * ei.sz + j)]? = some u from k4]; rfl
            rw [this]
            exact ⟨k4, k2, k3⟩
          have hlm : ((List.ofFn fun i => (pick i).1).map f).length = len := by simp
          have hlt : b < w.heap.size := (Array.getElem?_eq_some_iff.1 hblk).1
          have := Rd.sl (w := w) (A := allOf w) false false ei ((List.ofFn fun i => (pick i).1).map f) b off cap us t' fz (fun k => us.getD (off + k) undef) ⟨rfl, hlt⟩ hblk (by rw [hlm]; exact hle) (fun h => by cases h) hsz
            (by rw [hlm]; exact Nat.le_trans (Nat.mul_le_mul_right _ (by omega)) hw1) (fun k y hk => ⟨(hall k y hk).1, (hall k y hk).2.1⟩) (fun k y hk => (hall k y hk).2.2)
          rw [hlm] at this
          exact this
      | _ => simp [hblk] at g3

theorem weights_fit {ts : List TypeId} {ds : List (DataW H)} (h : (DataW.weightsEach P ts ds).all (· ≤ reachBytes) = true) (j : Nat) {t : TypeId} {d : DataW H} (ht : ts[j]? = some t) (hd : ds[j]? = some d) : Fits P t d := Fits.of h ht hd

/-- A parameter of a struct's type. -/
theorem par_struct {α : Type} {f : α → List AV} {Wf : α → Prop} {t : TypeId} {fs : Array Field} {v : Value} {d : DataW H} {ps : List MemPlace} {r : Reach} {b0 : Nat} (hT : P.underlying t = some (.struct fs)) (hval : Value.okWide P w r b0 t v)
    (h : DataW.Trod enc P w 0 (fun _ => true) true t v d ps) (hfit : Fits P t d) (hx : ∀ m cs' y, trd enc P w m t cs' = some y → Fits P t y.1 → ∃ a, Wf a ∧ RdC w cs' (f a)) : ∃ a, Wf a ∧ Rd w (allOf w) v (.agg (f a)) := by
  obtain ⟨cs, rfl, _⟩ := Go.WideShapes.okWide_struct hT hval
  obtain ⟨fuel, hf⟩ := h
  obtain ⟨a, h1, h2⟩ := hx fuel _ _ hf hfit
  exact ⟨a, h1, h2.agg⟩
theorem par_slice {α : Type} {f : α → List AV} {Wf : α → Prop} {t e : TypeId} {ei : ETy} {v : Value} {d : DataW H} {ps : List MemPlace} {r : Reach} {b0 : Nat} (hT : P.underlying t = some (.slice e)) (hc : P.cellsOf e = ei.sz) (hb : P.bytesOf e = ei.bytes) (h0 : 0 < ei.sz) (hval : Value.okWide P w r b0 t v)
    (h : DataW.Trod enc P w 0 (fun _ => true) true t v d ps) (hfit : Fits P t d) (hlen : ∀ a, (f a).length = ei.sz) (hx : ∀ m cs' y, trd enc P w m e cs' = some y → Fits P e y.1 → ∃ a, Wf a ∧ RdC w cs' (f a)) :
    ∃ l : List α, (∀ a ∈ l, Wf a) ∧ l.length * ei.bytes ≤ reach ∧ Rd w (allOf w) v (.sl false false ei (l.map f)) := by
  obtain ⟨a, len, cap, rfl⟩ := Go.WideShapes.okWide_slice hT hval
  obtain ⟨fuel, hf⟩ := h
  obtain ⟨l, h1, h2, h3⟩ := rd_slice hT hc hb h0 hf hfit hlen (fun m cs' y _ => hx m cs' y)
  obtain ⟨u, k1, _, k3⟩ := h3.get 0 _ rfl
  simp [Value.cells] at k1
  subst k1
  exact ⟨l, h1, h2, k3⟩

/-- The input reads behind the call as it did. -/
theorem trod_same {t : TypeId} (hl : laidOutB P = true) (hr : P.readableRec t = true) (hrow : t < P.types.size) {W' : World} {v : Value} {d : DataW H} {ps : List MemPlace} (h : DataW.Trod enc P w 0 (fun _ => true) true t v d ps) (hlt : ∀ p ∈ ps, p.block < w.heap.size) (bel : Below w.heap.size w W') :
    DataW.Trod enc P W' 0 (fun b => decide (b < w.heap.size)) true t v d ps :=
  Go.WideElems.Trod_stays hl hr hrow h (fun p hp => bel.same (hlt p hp)) fun p hp => by simpa using hlt p hp
end
end Go.Proofs.Ytkiankpmkglhcaa.J
