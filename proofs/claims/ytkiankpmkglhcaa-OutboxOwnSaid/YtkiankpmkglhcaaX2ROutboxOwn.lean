/- Texts of this proof, laid together. -/
import Derived.Test.YtkiankpmkglhcaaX1ROutboxOwn
import Derived.SizedLaws
import Derived.OpenShut
import Derived.WideKeyArgs
import Derived.ChangeArms
import Derived.ChangeSame
import Derived.Below
import Derived.WalkSpells
import Derived.Lib.LazyBuf
/- Elements of own arrays: their places, loads and stores; slicing; texts of octets; a kept environment around a loop. -/
namespace Go.Proofs.Ytkiankpmkglhcaa.J
open Go Go.RowKit
set_option linter.unusedVariables false
set_option linter.unusedSimpArgs false

section
variable {P : Program} {E : Ent} {st : St} {Q : Exit → St → Prop} {n B : Nat} {env : List (Nat × AV)} {own : List Own} {F : List (Value × AV)} {D : List Deferred} {ops : Array Oper} {rest : List Oper}
variable {A : Foot} {a : Act} {w w' : World} {t et ty : TypeId} {pos : String} {af : Array Edge} {d : Nat} {dd : Option Tmp} {gd : Option (Nat × Bool)} {x y : Operand} {g : Bool} {m : Nat}

theorem Rd.of_gp {v u : Value} {off : Nat} (h : Rd w A u (.gp v off)) : ∃ b o n cap, v = .slice (some ⟨b, o, none⟩) n cap ∧ u = .pointer (some ⟨b, o + off, none⟩) := by
  cases h with
  | gp b o n cap off => exact ⟨b, o, n, cap, rfl, rfl⟩

theorem flatten_part {α : Type} {sz : Nat} {xs : List (List α)} (hs : ∀ x ∈ xs, x.length = sz) {m : Nat} {x : List α} (h : xs[m]? = some x) {k : Nat} {y : α} (hk : x[k]? = some y) : xs.flatten[m * sz + k]? = some y :=
  flatten_get xs hs m x h k y hk

theorem SatA.elem (hs : SatA E A st a w) (i : Nat) {v : Value} {e : ETy} {xs : List (List AV)} (ho : st.own[i]? = some (.arr v e xs)) {ys : List AV} (hm : xs[m]? = some ys) :
    ∃ b cap us t, v = .slice (some ⟨b, 0, none⟩) xs.length (cap + 1) ∧ w.heap[b]? = some (.cells us t (0, 0)) ∧ xs.length ≤ cap + 1 ∧ RowOf us ((cap + 1) * e.sz) ∧
        (∀ x ∈ xs, x.length = e.sz) ∧ Cells w A us 0 xs.flatten ∧ Cells w A us (m * e.sz) ys := by
  rcases hs.arr i ho with ⟨_, _, hx⟩ | ⟨b, cap, us, t, hv, h1, h2, h3, h4, h5⟩
  · subst hx; simp at hm
  · refine ⟨b, cap, us, t, hv, h1, h2, h3, h4, h5, fun k y hk => ?_⟩
    have := h5 _ _ (flatten_part h4 hm hk)
    simpa using this

theorem QW.index_arr (i : Nat) {v : Value} {e : ETy} {xs : List (List AV)} {k : IntKind} {j : Int} {off : Nat} (hU : P.underlying t = some (.slice et)) (hT : tySz P et = some (g, n, B)) (hn : e.sz = n)
    (h : Ev E st x (.c v)) (ho : st.own[i]? = some (.arr v e xs)) (hi : Ev E st y (.c (.int k j))) (hjm : j = (m : Int)) (hlt : m < xs.length) (hoff : m * n = off) :
    QW P E st ⟨dd, .indexAddr t x y, ty, pos, af, gd⟩ (.gp v off) := .pure fun A a w hs => by
  subst hjm hoff hn
  rcases hs.arr i ho with ⟨_, _, hx⟩ | ⟨b, cap, us, t', hv, h1, h2, h3, h4, h5⟩
  · subst hx; simp at hlt
  · subst hv
    refine ⟨.pointer (some ⟨b, 0 + m * e.sz, none⟩), ?_, .gp b 0 _ _ _⟩
    simp only [execOp, h.eq hs, hi.eq hs, Instr.indexAt, asIntOf, Sem.run_bind, Sem.run_pure, Result.andThen_ok, run_underlying _ hU]
    rw [if_pos (by omega)]
    simp [run_sizeOf hT, add_at]

theorem QW.field_gp {v : Value} {off f o off' : Nat} (hF : fieldOff P t f = some o) (h : Ev E st x (.gp v off)) (ho : off + o = off') :
    QW P E st ⟨dd, .fieldAddr t x f, ty, pos, af, gd⟩ (.gp v off') := .pure fun A a w hs => by
  subst ho
  obtain ⟨b, o0, n, cap, rfl, hu⟩ := (h A a w hs).of_gp
  refine ⟨.pointer (some ⟨b, o0 + (off + o), none⟩), ?_, .gp b o0 n cap _⟩
  simp only [execOp, hu, Sem.run_bind, fieldOff_run hF, Result.andThen_ok, Sem.run_pure, Nat.add_assoc]

theorem QW.nil_gp {v : Value} {off : Nat} (h : Ev E st x (.gp v off)) : QW P E st ⟨dd, .nilCheck x, ty, pos, af, gd⟩ (.gp v off) := .pure fun A a w hs => by
  have hr := h A a w hs
  obtain ⟨b, o0, n, cap, rfl, hu⟩ := hr.of_gp
  exact ⟨_, by simp [execOp, hu], hu ▸ hr⟩

theorem QW.load_gp (i : Nat) {v : Value} {e : ETy} {xs : List (List AV)} {ys zs : List AV} {off o : Nat} (hT : tySz P t = some (true, n, B)) (h : Ev E st x (.gp v off)) (ho : st.own[i]? = some (.arr v e xs))
    (hm : xs[m]? = some ys) (hoff : off = m * e.sz + o) (hz : (ys.drop o).take n = zs) (hl : zs.length = n) : QW P E st ⟨dd, .load t x, ty, pos, af, gd⟩ (.agg zs) := .pure fun A a w hs => by
  obtain ⟨b, cap, us, t', hv, h1, h2, h3, h4, h5, h6⟩ := hs.elem i ho hm
  obtain ⟨b', o0, n', cap', hv', hu⟩ := (h A a w hs).of_gp
  rw [hv'] at hv
  simp only [Value.slice.injEq, Option.some.injEq, Addr.mk.injEq] at hv
  obtain ⟨⟨rfl, rfl, _⟩, _, _⟩ := hv
  subst hz hoff
  obtain ⟨v, r1, r2⟩ := run_loadVar hT h1 ((h6.drop o).take n) hl
  exact ⟨v, by simp only [execOp, Instr.loadAt, hu, Instr.sureAddr, Sem.run_bind, Sem.run_pure, Result.andThen_ok, Nat.zero_add, r1], r2⟩

theorem QW.load_gp1 (i : Nat) {v : Value} {e : ETy} {xs : List (List AV)} {ys : List AV} {z : AV} {off o : Nat} (hT : tySz P t = some (false, n, B)) (h : Ev E st x (.gp v off)) (ho : st.own[i]? = some (.arr v e xs))
    (hm : xs[m]? = some ys) (hoff : off = m * e.sz + o) (hz : ys[o]? = some z) : QW P E st ⟨dd, .load t x, ty, pos, af, gd⟩ z := .pure fun A a w hs => by
  obtain ⟨b, cap, us, t', hv, h1, h2, h3, h4, h5, h6⟩ := hs.elem i ho hm
  obtain ⟨b', o0, n', cap', hv', hu⟩ := (h A a w hs).of_gp
  rw [hv'] at hv
  simp only [Value.slice.injEq, Option.some.injEq, Addr.mk.injEq] at hv
  obtain ⟨⟨rfl, rfl, _⟩, _, _⟩ := hv
  subst hoff
  obtain ⟨u, g1, _, g2⟩ := h6 _ _ hz
  obtain ⟨v, r1, r2⟩ := run_loadVar1 hT h1 g1 g2
  exact ⟨v, by simp only [execOp, Instr.loadAt, hu, Instr.sureAddr, Sem.run_bind, Sem.run_pure, Result.andThen_ok, Nat.zero_add, r1], r2⟩

theorem splice_left {α : Type} {l r zs : List α} {o : Nat} (h : o + zs.length ≤ l.length) : splice (l ++ r) o zs = splice l o zs ++ r := by
  unfold splice
  rw [List.take_append_of_le_length (by omega), List.drop_append_of_le_length (by omega)]
  simp
theorem splice_right {α : Type} {l r zs : List α} {o : Nat} : splice (l ++ r) (l.length + o) zs = l ++ splice r o zs := by
  unfold splice
  rw [List.take_length_add_append, show l.length + o + zs.length = l.length + (o + zs.length) by omega, List.drop_length_add_append]
  simp

theorem flatten_set {α : Type} {sz o : Nat} {zs : List α} : ∀ (xs : List (List α)) (m : Nat) (ys : List α), (∀ x ∈ xs, x.length = sz) → xs[m]? = some ys → o + zs.length ≤ sz →
    (xs.set m (splice ys o zs)).flatten = splice xs.flatten (m * sz + o) zs
  | [], m, ys, _, h, _ => by simp at h
  | x :: xs, 0, ys, hs, h, ho => by
    simp at h; subst h
    have hx := hs x (by simp)
    simp only [List.set_cons_zero, List.flatten_cons, Nat.zero_mul, Nat.zero_add]
    rw [splice_left (by omega)]
  | x :: xs, m + 1, ys, hs, h, ho => by
    have hx := hs x (by simp)
    have ih := flatten_set xs m ys (fun x hx => hs x (by simp [hx])) (by simpa using h) ho
    simp only [List.set_cons_succ, List.flatten_cons, ih]
    rw [show (m + 1) * sz + o = x.length + (m * sz + o) by rw [hx, Nat.succ_mul]; omega, splice_right]

/-- A store into an element of an own array. -/
theorem JL.store_gp (i : Nat) {v : Value} {e : ETy} {xs xs' : List (List AV)} {ys : List AV} {z : AV} {off o : Nat} (hT : tySz P t = some (g, n, B)) (hx : Ev E ⟨m, env, own, F, D⟩ x (.gp v off))
    (ho : own[i]? = some (.arr v e xs)) {k : Nat} (hk : xs[k]? = some ys) (hoff : off = k * e.sz + o) (hy : Ev E ⟨m, env, own, F, D⟩ y z) (hz : z.plain = true) (hm : z.cellsOf.length = n) (hl : Nat.ble (o + n) e.sz = true)
    (hs : xs.set k (splice ys o z.cellsOf) = xs') {own' : List Own} (hown : own.set i (.arr v e xs') = own')
    (h : JL P E ops rest ⟨m, env, own', F, D⟩ Q) :
    JL P E ops (⟨none, .store t x y, ty, pos, af, none⟩ :: rest) ⟨m, env, own, F, D⟩ Q := fun a w ⟨A, hA⟩ => by
  refine wpListIn_plain rfl fun K hK => ?_
  refine wpR (by intro c h; cases h) ?_
  unfold Oper.wp
  subst hs hown
  obtain ⟨b, cap, us, t', hv, h1, h2, h3, h4, h5, h6⟩ := hA.elem i ho hk
  obtain ⟨b', o0, n', cap', hv', hu⟩ := (hx A a w hA).of_gp
  have hvv := hv
  rw [hv'] at hvv
  simp only [Value.slice.injEq, Option.some.injEq, Addr.mk.injEq] at hvv
  obtain ⟨⟨rfl, rfl, _⟩, _, _⟩ := hvv
  obtain ⟨z1, z2, z3⟩ := (hy A a w hA).cellsOf hz
  have hle : o + z.cellsOf.length ≤ e.sz := by rw [hm]; exact Nat.le_of_ble_eq_true hl
  have hkl : k < xs.length := (List.getElem?_eq_some_iff.1 hk).1
  have hyl : ys.length = e.sz := h4 ys (List.mem_of_getElem? hk)
  have hfl := flatten_length xs h4
  have hin : off + z.cellsOf.length ≤ xs.flatten.length := by
    rw [hfl, hoff]
    have : (k + 1) * e.sz ≤ xs.length * e.sz := Nat.mul_le_mul_right _ hkl
    rw [Nat.succ_mul] at this; omega
  have hus : xs.flatten.length ≤ us.size := by rw [hfl, h3.size]; exact Nat.mul_le_mul_right _ h2
  obtain ⟨w', us', hr, hkp, hz', hb', hsz', hu'⟩ := run_storeVar (P := P) (off := off) hT rfl (z1.trans hm) h1 (by omega) z2
  have hrun : (execOp a.eval ⟨none, .store t x y, ty, pos, af, none⟩).run P w = .ok .skip w' := by
    simp only [execOp, Instr.storeAt, hu, Instr.sureAddr, Sem.run_bind, Sem.run_pure, Result.andThen_ok, Nat.zero_add, hr]
  rw [hrun, Oper.upon_skip]
  have hmem := List.mem_of_getElem? ho
  have hof : (Own.arr v e xs).fp = [b'] := by simp [Own.fp, arrFp, hv]
  have hfp : ∀ fr c, A fr c → c < w.heap.size → w'.heap[c]? = w.heap[c]? := fun fr c hc hlt => hkp.block c hlt fun hm' => by
    simp only [List.mem_singleton] at hm'
    subst hm'
    exact (hA.hp.fp c (fps_mem hmem (by rw [hof]; simp))).2.2 fr hc
  refine hK _ _ (h _ _ ⟨A, hA.step (hkp.mono fun c hc => ?_) (fun _ _ h => h) (hA.hp.upd (o' := .arr v e _) ho rfl (by rw [hof]; exact hkp) hz' (.inr ⟨b', cap, us', t', by simp [hv], hb', by simpa using h2, ⟨by rw [hsz', h3.size], fun q u hq => by
    rw [hu' q] at hq
    split at hq
    · exact (List.all_eq_true.1 z2) u (List.mem_of_getElem? hq)
    · exact h3.one q u hq⟩, fun x hx => ?_, ?_⟩))⟩)
  · exact fps_mem hmem (by rw [hof]; exact hc)
  · rcases List.mem_or_eq_of_mem_set hx with hx | rfl
    · exact h4 x hx
    · rw [splice_length (by omega), hyl]
  · rw [flatten_set xs k ys h4 hk hle, ← hoff]
    exact (h5.spliced z3 z1 hin hu').keep hfp

theorem QW.len_nil {v : Value} (hU : P.underlying t = some (.slice et)) (h : Ev E st x (.c (.slice none 0 0))) :
    QW P E st ⟨dd, .call ⟨.builtin .len, #[x], #[t]⟩, ty, pos, af, gd⟩ (.c (.int .i64 (0 : Nat))) := .pure fun A a w hs =>
  ⟨_, by simp [execOp, resolve, invoke, builtin, Builtin.len_, run_underlying _ hU, h.eq hs, goInt], .c _⟩

/-! ### slicing -/
theorem run_bound {k : IntKind} {y : Nat} {m : Nat} {c : BoundsCode} (h : m ≤ y) : (Instr.sliceBound (.int k (m : Int)) y c).run P w = .ok m w := by
  simp [Instr.sliceBound, asIntOf, h]

def bnd (k : IntKind) : Option Nat → Option Value
  | none => none
  | some m => some (.int k (m : Int))

theorem run_slice {ad : Option Addr} {len cap : Nat} {k k' : IntKind} (hU : P.underlying t = some (.slice et)) (hT : tySz P et = some (g, n, B)) (lo hi : Option Nat) (h1 : lo.getD 0 ≤ hi.getD len) (h2 : hi.getD len ≤ cap) :
    (Instr.sliceAt t (.slice ad len cap) (bnd k lo) (bnd k' hi) none).run P w = .ok (.slice (if cap = lo.getD 0 then ad else ad.map (·.add (lo.getD 0 * n))) (hi.getD len - lo.getD 0) (cap - lo.getD 0)) w := by
  cases lo <;> cases hi <;> simp only [bnd, Option.getD_some, Option.getD_none] at h1 h2 ⊢ <;>
    simp [Instr.sliceAt, Instr.slice, Instr.sliceBounds, run_underlying _ hU, run_sizeOf hT, run_bound h1, run_bound h2]

theorem run_slice3 {ad : Option Addr} {len cap : Nat} {k k' k'' : IntKind} (hU : P.underlying t = some (.slice et)) (hT : tySz P et = some (g, n, B)) (lo : Option Nat) (hi mx : Nat) (h1 : lo.getD 0 ≤ hi) (h2 : hi ≤ mx) (h3 : mx ≤ cap) :
    (Instr.sliceAt t (.slice ad len cap) (bnd k lo) (some (.int k' (hi : Int))) (some (.int k'' (mx : Int)))).run P w = .ok (.slice (if mx = lo.getD 0 then ad else ad.map (·.add (lo.getD 0 * n))) (hi - lo.getD 0) (mx - lo.getD 0)) w := by
  cases lo <;> simp only [bnd, Option.getD_some, Option.getD_none] at h1 h2 h3 ⊢ <;>
    simp [Instr.sliceAt, Instr.slice, Instr.sliceBounds, run_underlying _ hU, run_sizeOf hT, run_bound h1, run_bound h2, run_bound h3]

theorem flatten_drop {α : Type} {sz : Nat} : ∀ (xs : List (List α)), (∀ x ∈ xs, x.length = sz) → ∀ l, (xs.drop l).flatten = xs.flatten.drop (l * sz)
  | xs, _, 0 => by simp
  | [], _, l + 1 => by simp
  | x :: xs, hs, l + 1 => by
    have hx := hs x (by simp)
    rw [List.drop_succ_cons, flatten_drop xs (fun x hx => hs x (by simp [hx])) l, List.flatten_cons, show (l + 1) * sz = x.length + l * sz by rw [hx, Nat.succ_mul]; omega, List.drop_length_add_append]
theorem flatten_take {α : Type} {sz : Nat} : ∀ (xs : List (List α)), (∀ x ∈ xs, x.length = sz) → ∀ l, (xs.take l).flatten = xs.flatten.take (l * sz)
  | xs, _, 0 => by simp
  | [], _, l + 1 => by simp
  | x :: xs, hs, l + 1 => by
    have hx := hs x (by simp)
    rw [List.take_succ_cons, List.flatten_cons, flatten_take xs (fun x hx => hs x (by simp [hx])) l, List.flatten_cons, show (l + 1) * sz = x.length + l * sz by rw [hx, Nat.succ_mul]; omega, List.take_length_add_append]

theorem Rd.sub {fr clip c' : Bool} {e : ETy} {xs : List (List AV)} {ad : Option Addr} {len cap cap' l h : Nat} (hr : Rd w A (.slice ad len cap) (.sl fr clip e xs)) (hlh : l ≤ h) (hh : h ≤ xs.length) (hcap : h - l ≤ cap') (hc : c' = true → cap' = h - l)
    (ad' : Option Addr) (had : l < h → ad' = ad.map (·.add (l * e.sz))) : Rd w A (.slice ad' (h - l) cap') (.sl fr c' e ((xs.take h).drop l)) := by
  by_cases hz : l = h
  · subst hz
    have : (xs.take l).drop l = [] := by simp
    rw [this, Nat.sub_self]
    exact .emp _ _ _ _ _ fun hh => by have := hc hh; omega
  · have hlt : l < h := by omega
    cases hr with
    | emp => simp at hh; omega
    | sl _ _ _ _ b off cap cs t fz u hA hb hcap0 hclip hsz hreach hu hr =>
      rw [had hlt]
      have hlen : ((xs.take h).drop l).length = h - l := by simp; omega
      have hfl : ((xs.take h).drop l).flatten = (xs.flatten.take (h * e.sz)).drop (l * e.sz) := by
        rw [flatten_drop _ (fun x hx => hsz x (List.mem_of_mem_take hx)), flatten_take _ hsz]
      have hget : ∀ k y, ((xs.take h).drop l).flatten[k]? = some y → xs.flatten[l * e.sz + k]? = some y := fun k y hk => by
        rw [hfl, List.getElem?_drop, List.getElem?_take] at hk
        split at hk
        · exact hk
        · cases hk
      rw [← hlen, Option.map_some, add_at]
      refine .sl _ _ _ _ b (off + l * e.sz) cap' cs t fz (fun k => u (l * e.sz + k)) hA hb (by omega) (fun hh => by rw [hc hh, hlen]) (fun x hx => hsz x (List.mem_of_mem_take (List.mem_of_mem_drop hx))) ?_ (fun k y hk => ?_) (fun k y hk => hr _ _ (hget k y hk))
      · refine Nat.le_trans (Nat.mul_le_mul_right _ ?_) hreach; simp; omega
      · have := hu _ _ (hget k y hk)
        rw [Nat.add_assoc]; exact this

theorem Rd.sl_val {v : Value} {fr clip : Bool} {e : ETy} {xs : List (List AV)} (h : Rd w A v (.sl fr clip e xs)) : ∃ ad cap, v = .slice ad xs.length cap ∧ xs.length ≤ cap ∧ (clip = true → cap = xs.length) := by
  obtain ⟨ad, cap, hv, h1, h2, _⟩ := h.of_sl
  exact ⟨ad, cap, hv, h2, h1⟩

theorem EvBnd {k : IntKind} {i : Int} {l : Nat} {o : Operand} (h : Ev E st o (.c (.int k i))) (hi : i = (l : Int)) {A : Foot} {a : Act} {w : World} (hs : SatA E A st a w) : a.eval o = .int k (l : Int) := by rw [h.eq hs, hi]

section
variable {fr clip : Bool} {e : ETy} {xs : List (List AV)} {lo hi mx : Operand} {k k' k'' : IntKind} {i j j' : Int} {l h h' : Nat}
theorem QW.slice_L (hU : P.underlying t = some (.slice et)) (hT : tySz P et = some (g, n, B)) (hn : e.sz = n) (hx : Ev E st x (.sl fr clip e xs)) (hlo : Ev E st lo (.c (.int k i))) (hi : i = (l : Int)) (hl : l ≤ xs.length) :
    QW P E st ⟨dd, .slice t x (some lo) none none, ty, pos, af, gd⟩ (.sl fr clip e (xs.drop l)) := .pure fun A a w hs => by
  have hr := hx A a w hs
  obtain ⟨ad, cap, hv, h1, h2⟩ := hr.sl_val
  rw [hv] at hr
  refine ⟨.slice (if cap = l then ad else ad.map (·.add (l * n))) (xs.length - l) (cap - l), ?_, ?_⟩
  · have := run_slice (P := P) (w := w) (ad := ad) (k := k) (k' := .i64) hU hT (some l) none (len := xs.length) (cap := cap) (by simpa using hl) (by simpa using h1)
    simp only [bnd, Option.getD_some, Option.getD_none] at this
    simp only [execOp, hv, Option.map_some, Option.map_none, EvBnd hlo hi hs, Sem.run_bind, this, Result.andThen_ok, Sem.run_pure]
  · have := hr.sub (c' := clip) (cap' := cap - l) (l := l) (h := xs.length) hl (Nat.le_refl _) (by omega) (fun hc => by rw [h2 hc]) (if cap = l then ad else ad.map (·.add (l * n))) (fun hlt => by rw [if_neg (by omega), hn])
    simpa using this
theorem QW.slice_H (hU : P.underlying t = some (.slice et)) (hT : tySz P et = some (g, n, B)) (hn : e.sz = n) (hx : Ev E st x (.sl fr clip e xs)) (hhi : Ev E st hi (.c (.int k j))) (hj : j = (h : Int)) (hh : h ≤ xs.length) :
    QW P E st ⟨dd, .slice t x none (some hi) none, ty, pos, af, gd⟩ (.sl fr false e (xs.take h)) := .pure fun A a w hs => by
  have hr := hx A a w hs
  obtain ⟨ad, cap, hv, h1, h2⟩ := hr.sl_val
  rw [hv] at hr
  refine ⟨.slice (if cap = 0 then ad else ad.map (·.add (0 * n))) (h - 0) (cap - 0), ?_, ?_⟩
  · have := run_slice (P := P) (w := w) (ad := ad) (k := .i64) (k' := k) hU hT none (some h) (len := xs.length) (cap := cap) (by simp) (by simp; omega)
    simp only [bnd, Option.getD_some, Option.getD_none] at this
    simp only [execOp, hv, Option.map_some, Option.map_none, EvBnd hhi hj hs, Sem.run_bind, this, Result.andThen_ok, Sem.run_pure]
  · have := hr.sub (c' := false) (cap' := cap - 0) (l := 0) (h := h) (Nat.zero_le _) hh (by omega) (fun hc => by cases hc) (if cap = 0 then ad else ad.map (·.add (0 * n))) (fun hlt => by rw [if_neg (by omega), hn])
    simpa using this
theorem QW.slice_LH (hU : P.underlying t = some (.slice et)) (hT : tySz P et = some (g, n, B)) (hn : e.sz = n) (hx : Ev E st x (.sl fr clip e xs)) (hlo : Ev E st lo (.c (.int k i))) (hhi : Ev E st hi (.c (.int k' j))) (hi0 : i = (l : Int)) (hj : j = (h : Int))
    (hlh : l ≤ h) (hh : h ≤ xs.length) : QW P E st ⟨dd, .slice t x (some lo) (some hi) none, ty, pos, af, gd⟩ (.sl fr false e ((xs.take h).drop l)) := .pure fun A a w hs => by
  have hr := hx A a w hs
  obtain ⟨ad, cap, hv, h1, h2⟩ := hr.sl_val
  rw [hv] at hr
  refine ⟨.slice (if cap = l then ad else ad.map (·.add (l * n))) (h - l) (cap - l), ?_, ?_⟩
  · have := run_slice (P := P) (w := w) (ad := ad) (k := k) (k' := k') hU hT (some l) (some h) (len := xs.length) (cap := cap) (by simpa using hlh) (by simp; omega)
    simp only [bnd, Option.getD_some, Option.getD_none] at this
    simp only [execOp, hv, Option.map_some, Option.map_none, EvBnd hlo hi0 hs, EvBnd hhi hj hs, Sem.run_bind, this, Result.andThen_ok, Sem.run_pure]
  · exact hr.sub (c' := false) (cap' := cap - l) hlh hh (by omega) (fun hc => by cases hc) (if cap = l then ad else ad.map (·.add (l * n))) (fun hlt => by rw [if_neg (by omega), hn])
/-- x[:h:h] -/
theorem QW.slice3_H (hU : P.underlying t = some (.slice et)) (hT : tySz P et = some (g, n, B)) (hn : e.sz = n) (hx : Ev E st x (.sl fr clip e xs)) (hhi : Ev E st hi (.c (.int k' j))) (hmx : Ev E st mx (.c (.int k'' j'))) (hj : j = (h : Int)) (hj' : j' = (h : Int))
    (hh : h ≤ xs.length) : QW P E st ⟨dd, .slice t x none (some hi) (some mx), ty, pos, af, gd⟩ (.sl fr true e (xs.take h)) := .pure fun A a w hs => by
  have hr := hx A a w hs
  obtain ⟨ad, cap, hv, h1, h2⟩ := hr.sl_val
  rw [hv] at hr
  refine ⟨.slice (if h = 0 then ad else ad.map (·.add (0 * n))) (h - 0) (h - 0), ?_, ?_⟩
  · have := run_slice3 (P := P) (w := w) (ad := ad) (k := .i64) (k' := k') (k'' := k'') hU hT none h h (len := xs.length) (cap := cap) (by simp) (Nat.le_refl _) (by omega)
    simp only [bnd, Option.getD_some, Option.getD_none] at this
    simp only [execOp, hv, Option.map_some, Option.map_none, EvBnd hhi hj hs, EvBnd hmx hj' hs, Sem.run_bind, this, Result.andThen_ok, Sem.run_pure]
  · have := hr.sub (c' := true) (cap' := h - 0) (l := 0) (h := h) (Nat.zero_le _) hh (by omega) (fun hc => rfl) (if h = 0 then ad else ad.map (·.add (0 * n))) (fun hlt => by rw [if_neg (by omega), hn])
    simpa using this
end

theorem extract_mk (l : List UInt8) (a b : Nat) : (⟨l.toArray⟩ : ByteArray).extract a b = ⟨((l.take b).drop a).toArray⟩ := by
  apply ByteArray.ext
  simp [ByteArray.data_extract, List.extract_eq_take_drop]
  rw [List.drop_take]

section
variable {l : List UInt8} {lo hi : Operand} {k k' : IntKind} {i j : Int} {m h : Nat}
theorem QW.slice_sL (hU : P.underlying t = some .string) (hx : Ev E st x (.c (str l))) (hlo : Ev E st lo (.c (.int k i))) (hi : i = (m : Int)) (hl : m ≤ l.length) :
    QW P E st ⟨dd, .slice t x (some lo) none none, ty, pos, af, gd⟩ (.c (str (l.drop m))) := .pure fun A a w hs => by
  refine ⟨str (l.drop m), ?_, .c _⟩
  have hsz : (⟨l.toArray⟩ : ByteArray).size = l.length := by simp [ByteArray.size]
  simp only [execOp, hx.eq hs, Option.map_some, Option.map_none, EvBnd hlo hi hs, Instr.sliceAt, Instr.slice, Instr.sliceBounds, run_underlying _ hU, Sem.run_bind, Sem.run_pure, Result.andThen_ok, hsz, extract_mk]
  simp [run_bound hl]
theorem QW.slice_sH (hU : P.underlying t = some .string) (hx : Ev E st x (.c (str l))) (hhi : Ev E st hi (.c (.int k i))) (hi' : i = (m : Int)) (hl : m ≤ l.length) :
    QW P E st ⟨dd, .slice t x none (some hi) none, ty, pos, af, gd⟩ (.c (str (l.take m))) := .pure fun A a w hs => by
  refine ⟨str (l.take m), ?_, .c _⟩
  have hsz : (⟨l.toArray⟩ : ByteArray).size = l.length := by simp [ByteArray.size]
  simp only [execOp, hx.eq hs, Option.map_some, Option.map_none, EvBnd hhi hi' hs, Instr.sliceAt, Instr.slice, Instr.sliceBounds, run_underlying _ hU, Sem.run_bind, Sem.run_pure, Result.andThen_ok, hsz, extract_mk]
  simp [run_bound hl]
end

/-! ### texts of octets -/
def bytesAV (l : List UInt8) : List (List AV) := l.map fun b => [.c (.int .u8 (b.toNat : Int))]
theorem bytesAV_length (l : List UInt8) : (bytesAV l).length = l.length := by simp [bytesAV]
theorem bytesAV_get {l : List UInt8} {i : Nat} {b : UInt8} (h : l[i]? = some b) : (bytesAV l)[i]? = some [.c (.int .u8 (b.toNat : Int))] := by simp [bytesAV, h]
theorem bytesAV_append (l r : List UInt8) : bytesAV (l ++ r) = bytesAV l ++ bytesAV r := by simp [bytesAV]
theorem bytesAV_flat (l : List UInt8) : (bytesAV l).flatten = l.map fun b => .c (.int .u8 (b.toNat : Int)) := flatten_one _ l
theorem bytesAV_take (l : List UInt8) (k : Nat) : (bytesAV l).take k = bytesAV (l.take k) := by simp [bytesAV, List.map_take]
theorem bytesAV_drop (l : List UInt8) (k : Nat) : (bytesAV l).drop k = bytesAV (l.drop k) := by simp [bytesAV, List.map_drop]

end
end Go.Proofs.Ytkiankpmkglhcaa.J

/- From the form's reading of an input to what the logic reads. -/
namespace Go.Proofs.Ytkiankpmkglhcaa.J
open Go Go.RowKit
set_option linter.unusedVariables false
set_option linter.unusedSimpArgs false

theorem RdL.consA {w : World} {A : Foot} {v : Value} {x : AV} {vs : List Value} {xs : List AV} (h : Rd w A v x) (hs : RdL w A vs.toArray xs) : RdL w A (v :: vs).toArray (x :: xs) := by
  refine ⟨by have := hs.1; simpa using this, fun i y hy => ?_⟩
  cases i with
  | zero => simp at hy; subst hy; simpa [Array.getD_eq_getD_getElem?] using h
  | succ i =>
    have := hs.2 i y (by simpa using hy)
    simpa [Array.getD_eq_getD_getElem?] using this

section
variable {H : Type} {enc : TypeId × Value → H} {P : Program} {w : World} {sp : Nat → Bool} {held : Bool}

/-- Cells, as they read. -/
structure RdC (w : World) (cs : List Value) (ys : List AV) : Prop where
  len : cs.length = ys.length
  get : ∀ (k : Nat) (y : AV), ys[k]? = some y → ∃ u, cs[k]? = some u ∧ u.oneCell' = true ∧ Rd w (allOf w) u y

theorem RdC.one {v : Value} {y : AV} (h1 : v.oneCell' = true) (h : Rd w (allOf w) v y) : RdC w [v] [y] :=
  ⟨rfl, fun k z hk => by
    cases k with
    | zero => simp at hk; subst hk; exact ⟨v, rfl, h1, h⟩
    | succ k => simp at hk⟩
theorem RdC.join {cs : List Value} {o a o' : Nat} {ys zs : List AV} (h : RdC w ((cs.drop o).take a) ys) (hl : ys.length = a) (ho : o + a = o') (h2 : RdC w (cs.drop o') zs) : RdC w (cs.drop o) (ys ++ zs) := by
  subst ho
  have h1 := h.len
  have h3 := h2.len
  rw [List.length_take, List.length_drop] at h1
  rw [List.length_drop] at h3
  refine ⟨by rw [List.length_drop, List.length_append]; omega, fun k y hk => ?_⟩
  by_cases hlt : k < ys.length
  · rw [List.getElem?_append_left hlt] at hk
    obtain ⟨u, g1, g2⟩ := h.get k y hk
    refine ⟨u, ?_, g2⟩
    rw [List.getElem?_take_of_lt (by omega)] at g1
    exact g1
  · rw [List.getElem?_append_right (by omega)] at hk
    obtain ⟨u, g1, g2⟩ := h2.get _ y hk
    refine ⟨u, ?_, g2⟩
    rw [List.getElem?_drop] at g1 ⊢
    rw [← g1]
    congr 1
    omega
theorem RdC.last {cs : List Value} {o a : Nat} {ys : List AV} (h : RdC w ((cs.drop o).take a) ys) (hl : cs.length = o + a) : RdC w (cs.drop o) ys := by
  rw [List.take_of_length_le (by rw [List.length_drop]; omega)] at h
  exact h
theorem RdC.agg {vs : Array Value} {ys : List AV} (h : RdC w vs.toList ys) : Rd w (allOf w) (.agg vs) (.agg ys) := by
  have hg : ∀ k y, ys[k]? = some y → vs[k]? = some (vs.toList.getD k undef) ∧ (vs.toList.getD k undef).oneCell' = true ∧ Rd w (allOf w) (vs.toList.getD k undef) y := fun k y hk => by
    obtain ⟨u, g1, g2, g3⟩ := h.get k y hk
    have : vs.toList.getD k undef = u := by simp only [List.getD, g1, Option.getD_some]
    rw [this]
    exact ⟨by simpa using g1, g2, g3⟩
  exact .agg vs ys _ (by simpa using h.len) (fun k y hk => ⟨(hg k y hk).1, (hg k y hk).2.1⟩) fun k y hk => (hg k y hk).2.2

/-- What the form's reach says of a datum. -/
def Fits (P : Program) (t : TypeId) (d : DataW H) : Prop := ∀ n ∈ d.weights P t, n ≤ reach
theorem Fits.of {ts : List TypeId} {ds : List (DataW H)} (h : (DataW.weightsEach P ts ds).all (· ≤ reachBytes) = true) {j : Nat} {t : TypeId} {d : DataW H} (ht : ts[j]? = some t) (hd : ds[j]? = some d) : Fits P t d := fun n hn => by
  have := List.all_eq_true.1 h _ (DataW.weights_mem_each ht hd n hn)
  have h2 : reachBytes = reach := rfl
  simpa [h2] using this
theorem Fits.field {t : TypeId} {fs : Array Field} {xs : List (DataW H × List MemPlace)} (hT : P.underlying t = some (.struct fs)) (h : Fits P t (.agg (xs.map (·.1)))) {i : Nat} {f : Field} (hf : fs[i]? = some f) {x : DataW H × List MemPlace} (hx : xs[i]? = some x) : Fits P f.type x.1 := fun n hn => by
  refine h n ?_
  simp only [DataW.weights, hT]
  exact DataW.weights_mem_each (j := i) (by simpa using ⟨f, by simpa using hf, rfl⟩) (by simp [hx]) n hn
theorem weightsAll_mem' {e : TypeId} : ∀ {l : List (DataW H)} {d : DataW H}, d ∈ l → ∀ n ∈ d.weights P e, n ∈ DataW.weightsAll P e l
  | d' :: r, d, hd, n, hn => by
    simp only [DataW.weightsAll, List.mem_append]
    rcases List.mem_cons.1 hd with rfl | h
    · exact Or.inl hn
    · exact Or.inr (weightsAll_mem' h n hn)

abbrev trd (enc : TypeId × Value → H) (P : Program) (w : World) (fuel : Nat) (t : TypeId) (cs : List Value) := DataW.trod enc P w 0 (fun _ => true) true fuel t cs

theorem rd_int {t : TypeId} {k : IntKind} {fuel : Nat} {cs : List Value} {x : DataW H × List MemPlace} (ht : P.underlying t = some (.int k)) (h : trd enc P w fuel t cs = some x) : ∃ n, (Lit.int k n).wf = true ∧ RdC w cs [.c (.int k n)] := by
  obtain ⟨n, rfl, _, hw⟩ := DataW.trod_int ht h
  exact ⟨n, hw, .one rfl (.c _)⟩
theorem rd_i64 {t : TypeId} {fuel : Nat} {cs : List Value} {x : DataW H × List MemPlace} (ht : P.underlying t = some (.int .i64)) (h : trd enc P w fuel t cs = some x) : ∃ n : Int, (-9223372036854775808 ≤ n ∧ n ≤ 9223372036854775807) ∧ RdC w cs [.c (.int .i64 n)] := by
  obtain ⟨n, hw, hr⟩ := rd_int ht h
  exact ⟨n, i64_bounds hw, hr⟩
theorem rd_u64 {t : TypeId} {fuel : Nat} {cs : List Value} {x : DataW H × List MemPlace} (ht : P.underlying t = some (.int .u64)) (h : trd enc P w fuel t cs = some x) : ∃ n : Nat, n < 2 ^ 64 ∧ RdC w cs [.c (.int .u64 (n : Int))] := by
  obtain ⟨n, hw, hr⟩ := rd_int ht h
  obtain ⟨b, rfl, hb⟩ := u64_nat hw
  exact ⟨b, hb, hr⟩
theorem rd_bool {t : TypeId} {fuel : Nat} {cs : List Value} {x : DataW H × List MemPlace} (ht : P.underlying t = some .bool) (h : trd enc P w fuel t cs = some x) : ∃ b : Bool, RdC w cs [.c (.bool b)] := by
  obtain ⟨b, rfl, _⟩ := DataW.trod_bool ht h
  exact ⟨b, .one rfl (.c _)⟩
theorem rd_str {t : TypeId} {fuel : Nat} {cs : List Value} {x : DataW H × List MemPlace} (ht : P.underlying t = some .string) (h : trd enc P w fuel t cs = some x) (hf : Fits P t x.1) : ∃ s : List UInt8, s.length ≤ reach ∧ RdC w cs [.c (str s)] := by
  obtain ⟨s, rfl, rfl, _⟩ := DataW.trod_string ht h
  exact ⟨s.data.toList, hf _ (by simp [DataW.weights]), .one rfl (.c _)⟩

theorem flat_place {α : Type} {sz : Nat} (h0 : 0 < sz) : ∀ (xs : List (List α)), (∀ x ∈ xs, x.length = sz) → ∀ (k : Nat) (y : α), xs.flatten[k]? = some y → ∃ i j x, xs[i]? = some x ∧ x[j]? = some y ∧ k = i * sz + j ∧ j < sz
  | [], _, k, y, h => by simp at h
  | a :: xs, hs, k, y, h => by
    have ha : a.length = sz := hs a (by simp)
    rw [List.flatten_cons] at h
    by_cases hlt : k < a.length
    · rw [List.getElem?_append_left hlt] at h
      exact ⟨0, k, a, rfl, h, by simp, by omega⟩
    · rw [List.getElem?_append_right (by omega)] at h
      obtain ⟨i, j, x, h1, h2, h3, h4⟩ := flat_place h0 xs (fun x hx => hs x (by simp [hx])) _ y h
      exact ⟨i + 1, j, x, by simpa using h1, h2, by rw [Nat.succ_mul]; omega, h4⟩

theorem cells_get {a : Addr} {n : Nat} {cs : List Value} (h : w.cells? 0 a n = some cs) : cs.length = n ∧ ∀ j, j < n → w.cell? (a.add j) = cs[j]? := by
  unfold World.cells? at h
  rw [if_pos (Nat.zero_le _)] at h
  exact ⟨by simpa using mapM_some_length h, fun j hj => mapM_some_get h j j (by simp [hj])⟩

theorem rd_slice {α : Type} {t e : TypeId} {ei : ETy} {f : α → List AV} {Wf : α → Prop} {fuel : Nat} {cs : List Value} {x : DataW H × List MemPlace} (ht : P.underlying t = some (.slice e)) (hc : P.cellsOf e = ei.sz) (hb : P.bytesOf e = ei.bytes) (h0 : 0 < ei.sz)
    (h : trd enc P w fuel t cs = some x) (hfit : Fits P t x.1) (hlen : ∀ a, (f a).length = ei.sz)
    (hx : ∀ m cs' y, m < fuel → trd enc P w m e cs' = some y → Fits P e y.1 → ∃ a, Wf a ∧ RdC w cs' (f a)) :
    ∃ l : List α, (∀ a ∈ l, Wf a) ∧ l.length * ei.bytes ≤ reach ∧ RdC w cs [.sl false false ei (l.map f)] := by
  rcases DataW.trod_slice ht h with ⟨rfl, rfl⟩ | ⟨a, len, cap, elems, rest, n, rfl, rfl, rfl, _, hle, hmax, hel, hget, _, _⟩
  · exact ⟨[], (fun _ h => by cases h), by simp, .one rfl (.emp _ _ _ _ _ (fun h => by cases h))⟩
  have hw1 : (elems.length + rest.length) * ei.bytes ≤ reach := hfit _ (by simp [DataW.weights, ht, hb])
  have hw2 : ∀ d ∈ elems, Fits P e d.1 := fun d hd k hk => hfit k (by
    simp only [DataW.weights, ht, List.mem_cons, List.mem_append]
    exact .inr (.inl (weightsAll_mem' (List.mem_map.2 ⟨d, hd, rfl⟩) k hk)))
  have key : ∀ i : Fin len, ∃ p : α × List Value, Wf p.1 ∧ RdC w p.2 (f p.1) ∧ w.cells? 0 (a.add (i * ei.sz)) ei.sz = some p.2 := fun i => by
    have := hget i i.2
    rw [hc, List.getElem?_eq_getElem (by rw [hel]; exact i.2)] at this
    obtain ⟨cs', h1, h2⟩ := Option.bind_eq_some_iff.1 this
    obtain ⟨y, g1, g2⟩ := hx n cs' _ (Nat.lt_succ_self n) h2 (hw2 _ (List.getElem_mem _))
    exact ⟨(y, cs'), g1, g2, h1⟩
  let pick : Fin len → α × List Value := fun i => Classical.choose (key i)
  have hpick : ∀ i, Wf (pick i).1 ∧ RdC w (pick i).2 (f (pick i).1) ∧ w.cells? 0 (a.add (i * ei.sz)) ei.sz = some (pick i).2 := fun i => Classical.choose_spec (key i)
  have hll : (List.ofFn fun i => (pick i).1).length = len := by simp
  refine ⟨List.ofFn fun i => (pick i).1, fun y hy => ?_, ?_, .one rfl ?_⟩
  · obtain ⟨i, rfl⟩ := List.mem_ofFn.1 hy
    exact (hpick i).1
  · rw [hll]
    refine Nat.le_trans (Nat.mul_le_mul_right _ ?_) hw1
    omega
  · by_cases hz : len = 0
    · subst hz
      exact .emp _ _ _ _ _ (fun h => by cases h)
    have hp : 0 < len := by omega
    -- the block
    obtain ⟨g1, g2⟩ := cells_get (hpick ⟨0, hp⟩).2.2
    have g3 := g2 0 h0
    rw [List.getElem?_eq_getElem (by omega)] at g3
    have ha0 : (a.add (0 * ei.sz)).add 0 = a := by simp [Addr.add]
    rw [show ((⟨0, hp⟩ : Fin len) : Nat) = 0 from rfl, ha0] at g3
    obtain ⟨b, off, spot⟩ := a
    unfold World.cell? at g3
    cases hblk : w.heap[b]? with
    | none => simp [hblk] at g3
    | some o =>
      cases o with
      | cells us t' fz =>
        simp only [hblk] at g3
        cases spot with
        | some s => simp at g3
        | none =>
          have hcell : ∀ (i : Fin len) (j : Nat), j < ei.sz → us[off + (i * ei.sz + j)]? = (pick i).2[j]? := fun i j hj => by
            have := (cells_get (hpick i).2.2).2 j hj
            rw [add_at, add_at, cell_at hblk] at this
            rw [← this]; congr 1; omega
          have hsz : ∀ z ∈ (List.ofFn fun i => (pick i).1).map f, z.length = ei.sz := fun z hz => by
            obtain ⟨y, _, rfl⟩ := List.mem_map.1 hz
            exact hlen y
          have hall : ∀ k y, ((List.ofFn fun i => (pick i).1).map f).flatten[k]? = some y → us[off + k]? = some (us.getD (off + k) undef) ∧ (us.getD (off + k) undef).oneCell' = true ∧ Rd w (allOf w) (us.getD (off + k) undef) y := fun k y hk => by
            obtain ⟨i, j, z, h1, h2, rfl, h4⟩ := flat_place h0 _ hsz k y hk
            have hi : i < len := by have := (List.getElem?_eq_some_iff.1 h1).1; simpa using this
            have hz : z = f (pick ⟨i, hi⟩).1 := by
              rw [List.getElem?_map, List.getElem?_ofFn, dif_pos hi] at h1
              simpa using h1.symm
            subst hz
            obtain ⟨u, k1, k2, k3⟩ := (hpick ⟨i, hi⟩).2.1.get j y h2
            have k4 := hcell ⟨i, hi⟩ j h4
            rw [k1] at k4
            have : us.getD (off + (i * ei.sz + j)) undef = u := by simp only [Array.getD_eq_getD_getElem?]; rw [show us[off + (i * ei.sz + j)]? = some u from k4]; rfl
            rw [this]
            exact ⟨k4, k2, k3⟩
          have hlm : ((List.ofFn fun i => (pick i).1).map f).length = len := by simp
          have hlt : b < w.heap.size := (Array.getElem?_eq_some_iff.1 hblk).1
          have := Rd.sl (w := w) (A := allOf w) false false ei ((List.ofFn fun i => (pick i).1).map f) b off cap us t' fz (fun k => us.getD (off + k) undef) ⟨rfl, hlt⟩ hblk (by rw [hlm]; exact hle) (fun h => by cases h) hsz
            (by rw [hlm]; exact Nat.le_trans (Nat.mul_le_mul_right _ (by omega)) hw1) (fun k y hk => ⟨(hall k y hk).1, (hall k y hk).2.1⟩) (fun k y hk => (hall k y hk).2.2)
          rw [hlm] at this
          exact this
      | _ => simp [hblk] at g3

theorem weights_fit {ts : List TypeId} {ds : List (DataW H)} (h : (DataW.weightsEach P ts ds).all (· ≤ reachBytes) = true) (j : Nat) {t : TypeId} {d : DataW H} (ht : ts[j]? = some t) (hd : ds[j]? = some d) : Fits P t d := Fits.of h ht hd

/-- A parameter of a struct's type. -/
theorem par_struct {α : Type} {f : α → List AV} {Wf : α → Prop} {t : TypeId} {fs : Array Field} {v : Value} {d : DataW H} {ps : List MemPlace} {r : Reach} {b0 : Nat} (hT : P.underlying t = some (.struct fs)) (hval : Value.okWide P w r b0 t v)
    (h : DataW.Trod enc P w 0 (fun _ => true) true t v d ps) (hfit : Fits P t d) (hx : ∀ m cs' y, trd enc P w m t cs' = some y → Fits P t y.1 → ∃ a, Wf a ∧ RdC w cs' (f a)) : ∃ a, Wf a ∧ Rd w (allOf w) v (.agg (f a)) := by
  obtain ⟨cs, rfl, _⟩ := Go.WideShapes.okWide_struct hT hval
  obtain ⟨fuel, hf⟩ := h
  obtain ⟨a, h1, h2⟩ := hx fuel _ _ hf hfit
  exact ⟨a, h1, h2.agg⟩
theorem par_slice {α : Type} {f : α → List AV} {Wf : α → Prop} {t e : TypeId} {ei : ETy} {v : Value} {d : DataW H} {ps : List MemPlace} {r : Reach} {b0 : Nat} (hT : P.underlying t = some (.slice e)) (hc : P.cellsOf e = ei.sz) (hb : P.bytesOf e = ei.bytes) (h0 : 0 < ei.sz) (hval : Value.okWide P w r b0 t v)
    (h : DataW.Trod enc P w 0 (fun _ => true) true t v d ps) (hfit : Fits P t d) (hlen : ∀ a, (f a).length = ei.sz) (hx : ∀ m cs' y, trd enc P w m e cs' = some y → Fits P e y.1 → ∃ a, Wf a ∧ RdC w cs' (f a)) :
    ∃ l : List α, (∀ a ∈ l, Wf a) ∧ l.length * ei.bytes ≤ reach ∧ Rd w (allOf w) v (.sl false false ei (l.map f)) := by
  obtain ⟨a, len, cap, rfl⟩ := Go.WideShapes.okWide_slice hT hval
  obtain ⟨fuel, hf⟩ := h
  obtain ⟨l, h1, h2, h3⟩ := rd_slice hT hc hb h0 hf hfit hlen (fun m cs' y _ => hx m cs' y)
  obtain ⟨u, k1, _, k3⟩ := h3.get 0 _ rfl
  simp [Value.cells] at k1
  subst k1
  exact ⟨l, h1, h2, k3⟩

/-- The input reads behind the call as it did. -/
theorem trod_same {t : TypeId} (hl : laidOutB P = true) (hr : P.readableRec t = true) (hrow : t < P.types.size) {W' : World} {v : Value} {d : DataW H} {ps : List MemPlace} (h : DataW.Trod enc P w 0 (fun _ => true) true t v d ps) (hlt : ∀ p ∈ ps, p.block < w.heap.size) (bel : Below w.heap.size w W') :
    DataW.Trod enc P W' 0 (fun b => decide (b < w.heap.size)) true t v d ps :=
  Go.WideElems.Trod_stays hl hr hrow h (fun p hp => bel.same (hlt p hp)) fun p hp => by simpa using hlt p hp
end
end Go.Proofs.Ytkiankpmkglhcaa.J

/- Calls that pass own entries, or lend them to be read; what is read through blocks of one sort alone; loops that keep the slots around them. -/
namespace Go.Proofs.Ytkiankpmkglhcaa.J
open Go Go.RowKit
set_option linter.unusedVariables false
set_option linter.unusedSimpArgs false

/-- Each block that a value is read through is of a sort that p has. -/
inductive Fl (p : Bool → Prop) : AV → Prop
  | c (v : Value) : Fl p (.c v)
  | gp (v : Value) (o : Nat) : Fl p (.gp v o)
  | sl {fr clip : Bool} {e : ETy} {xs : List (List AV)} (hp : p fr) (h : ∀ (k : Nat) (y : AV), xs.flatten[k]? = some y → Fl p y) : Fl p (.sl fr clip e xs)
  | ref {fr : Bool} {ys : List AV} (hp : p fr) (h : ∀ (k : Nat) (y : AV), ys[k]? = some y → Fl p y) : Fl p (.ref fr ys)
  | agg {ys : List AV} (h : ∀ (k : Nat) (y : AV), ys[k]? = some y → Fl p y) : Fl p (.agg ys)
  | tup {ys : List AV} (h : ∀ (k : Nat) (y : AV), ys[k]? = some y → Fl p y) : Fl p (.tup ys)
  | wh {t : Bool} {x : AV} (h : Fl p x) : Fl p (.wh t x)

def FlL (p : Bool → Prop) (ys : List AV) : Prop := ∀ (k : Nat) (y : AV), ys[k]? = some y → Fl p y
theorem FlL.nil {p : Bool → Prop} : FlL p [] := fun k y h => by simp at h
theorem FlL.cons {p : Bool → Prop} {y : AV} {ys : List AV} (h : Fl p y) (hs : FlL p ys) : FlL p (y :: ys) := fun k z hk => by
  cases k with
  | zero => simp at hk; subst hk; exact h
  | succ k => exact hs k z (by simpa using hk)
theorem FlL.append {p : Bool → Prop} {ys zs : List AV} (h : FlL p ys) (hs : FlL p zs) : FlL p (ys ++ zs) := fun k z hk => by
  by_cases hlt : k < ys.length
  · rw [List.getElem?_append_left hlt] at hk; exact h k z hk
  · rw [List.getElem?_append_right (by omega)] at hk; exact hs _ z hk
theorem FlL.c {p : Bool → Prop} : ∀ (vs : List Value), FlL p (vs.map AV.c)
  | [] => .nil
  | v :: vs => .cons (.c v) (FlL.c vs)

abbrev Fresh : AV → Prop := Fl (· = true)
abbrev FreshL : List AV → Prop := FlL (· = true)

theorem Rd.flags {w w' : World} {A A' : Foot} {p : Bool → Prop} {v : Value} {x : AV} (h : Rd w A v x) (hx : Fl p x) (hA : ∀ fr b, p fr → A fr b → A' fr b) (hw : ∀ fr b, p fr → A fr b → w'.heap[b]? = w.heap[b]?) : Rd w' A' v x := by
  induction h with
  | c v => exact .c v
  | emp fr clip e a cap hc => exact .emp fr clip e a cap hc
  | sl fr clip e xs b off cap cs t fz u hA' hb hcap hclip hsz hreach hu _ ih =>
    cases hx with
    | sl hp h => exact .sl fr clip e xs b off cap cs t fz u (hA _ _ hp hA') (by rw [hw _ _ hp hA']; exact hb) hcap hclip hsz hreach hu fun k y hk => ih k y hk (h k y hk)
  | ref fr ys b off cs t fz u hA' hb hu _ ih =>
    cases hx with
    | ref hp h => exact .ref fr ys b off cs t fz u (hA _ _ hp hA') (by rw [hw _ _ hp hA']; exact hb) hu fun k y hk => ih k y hk (h k y hk)
  | agg vs ys u hn hu _ ih => cases hx with | agg h => exact .agg vs ys u hn hu fun k y hk => ih k y hk (h k y hk)
  | tup vs ys u hn hu _ ih => cases hx with | tup h => exact .tup vs ys u hn hu fun k y hk => ih k y hk (h k y hk)
  | wh t v x _ h0 ih => cases hx with | wh h => exact .wh t v x (fun ht => ih ht h) h0
  | gp b o n cap off => exact .gp b o n cap off

inductive OwnFl (p : Bool → Prop) : Own → Prop
  | box {b : Nat} {ys : List AV} (h : FlL p ys) : OwnFl p (.box b ys)
  | arr {v : Value} {e : ETy} {xs : List (List AV)} (h : FlL p xs.flatten) : OwnFl p (.arr v e xs)
  | grp {l : List Own} (h : ∀ o ∈ l, OwnFl p o) : OwnFl p (.grp l)

theorem Cells.flags {w w' : World} {A A' : Foot} {p : Bool → Prop} {us : Array Value} {off : Nat} {ys : List AV} (h : Cells w A us off ys) (hy : FlL p ys) (hA : ∀ fr b, p fr → A fr b → A' fr b) (hw : ∀ fr b, p fr → A fr b → w'.heap[b]? = w.heap[b]?) : Cells w' A' us off ys :=
  fun k y hk => let ⟨u, h1, h0, h2⟩ := h k y hk; ⟨u, h1, h0, h2.flags (hy k y hk) hA hw⟩

mutual
theorem Own.ok.flags {w : World} {A A' : Foot} {p : Bool → Prop} (hA : ∀ fr b, p fr → A fr b → A' fr b) : ∀ {o : Own}, o.ok w A → OwnFl p o → o.ok w A'
  | .box b ys, h, hx => by
    simp only [Own.ok] at h ⊢
    obtain ⟨us, t, h1, h2, h3⟩ := h
    cases hx with | box hy => exact ⟨us, t, h1, h2, h3.flags hy hA fun _ _ _ _ => rfl⟩
  | .arr v e xs, h, hx => by
    simp only [Own.ok] at h ⊢
    cases hx with
    | arr hy =>
      rcases h with h | ⟨b, cap, us, t, hv, h1, h2, h3, h4, h5⟩
      · exact .inl h
      · exact .inr ⟨b, cap, us, t, hv, h1, h2, h3, h4, h5.flags hy hA fun _ _ _ _ => rfl⟩
  | .grp l, h, hx => by
    simp only [Own.ok] at h ⊢
    cases hx with | grp hy => exact Own.okl.flags hA h hy
theorem Own.okl.flags {w : World} {A A' : Foot} {p : Bool → Prop} (hA : ∀ fr b, p fr → A fr b → A' fr b) : ∀ {l : List Own}, Own.okl w A l → (∀ o ∈ l, OwnFl p o) → Own.okl w A' l
  | [], _, _ => by simp [Own.okl]
  | o :: l, h, hx => by
    simp only [Own.okl] at h ⊢
    exact ⟨Own.ok.flags hA h.1 (hx o (by simp)), Own.okl.flags hA h.2 fun o ho => hx o (by simp [ho])⟩
end

theorem fpl_eq : ∀ l : List Own, Own.fpl l = fps l
  | [] => by simp [Own.fpl, fps]
  | o :: l => by simp [Own.fpl, fps, fpl_eq l]
theorem okl_iff {w : World} {A : Foot} : ∀ {l : List Own}, Own.okl w A l ↔ ∀ o ∈ l, o.ok w A
  | [] => by simp [Own.okl]
  | o :: l => by simp [Own.okl, okl_iff (l := l)]

/-! ### masks -/
inductive Cd where
  | k
  | p
  | l
  deriving DecidableEq

def selK : List Cd → List Own → List Own
  | [], own => own
  | _ :: _, [] => []
  | .k :: ms, o :: own => o :: selK ms own
  | .p :: ms, _ :: own => selK ms own
  | .l :: ms, _ :: own => selK ms own
def selP : List Cd → List Own → List Own
  | [], _ => []
  | _ :: _, [] => []
  | .p :: ms, o :: own => o :: selP ms own
  | .k :: ms, _ :: own => selP ms own
  | .l :: ms, _ :: own => selP ms own
def selL : List Cd → List Own → List Own
  | [], _ => []
  | _ :: _, [] => []
  | .l :: ms, o :: own => o :: selL ms own
  | .k :: ms, _ :: own => selL ms own
  | .p :: ms, _ :: own => selL ms own
/-- What is passed comes back in its place; what is more, at the end. -/
def mrg : List Cd → List Own → List Own → List Own
  | [], ps, own => own ++ ps
  | _ :: _, ps, [] => ps
  | .p :: ms, p :: ps, _ :: own => p :: mrg ms ps own
  | .p :: ms, [], _ :: own => mrg ms [] own
  | .k :: ms, ps, o :: own => o :: mrg ms ps own
  | .l :: ms, ps, o :: own => o :: mrg ms ps own

theorem sel_perm : ∀ (ms : List Cd) (own : List Own), own.Perm (selP ms own ++ (selL ms own ++ selK ms own))
  | [], own => by simp [selP, selL, selK]
  | _ :: _, [] => by simp [selP, selL, selK]
  | .p :: ms, o :: own => by simpa [selP, selL, selK] using sel_perm ms own
  | .l :: ms, o :: own => by
    simp only [selP, selL, selK, List.cons_append]
    exact (List.Perm.cons o (sel_perm ms own)).trans List.perm_middle.symm
  | .k :: ms, o :: own => by
    simp only [selP, selL, selK]
    refine (List.Perm.cons o (sel_perm ms own)).trans ?_
    rw [← List.append_assoc, ← List.append_assoc]
    exact List.perm_middle.symm
theorem mrg_perm : ∀ (ms : List Cd) (ps own : List Own), (ps ++ (selL ms own ++ selK ms own)).Perm (mrg ms ps own)
  | [], ps, own => by simpa [mrg, selL, selK] using List.perm_append_comm
  | _ :: _, ps, [] => by simp [mrg, selL, selK]
  | .p :: ms, p :: ps, _ :: own => by simpa [mrg, selL, selK] using mrg_perm ms ps own
  | .p :: ms, [], _ :: own => by simpa [mrg, selL, selK] using mrg_perm ms [] own
  | .k :: ms, ps, o :: own => by
    simp only [mrg, selL, selK]
    refine List.Perm.trans ?_ (List.Perm.cons o (mrg_perm ms ps own))
    rw [← List.append_assoc, ← List.append_assoc]
    exact List.perm_middle
  | .l :: ms, ps, o :: own => by
    simp only [mrg, selL, selK, List.cons_append]
    exact List.perm_middle.trans (List.Perm.cons o (mrg_perm ms ps own))

section
variable {P : Program} {E : Ent} {st : St} {Q : Exit → St → Prop} {n B : Nat} {env : List (Nat × AV)} {own : List Own} {F : List (Value × AV)} {D : List Deferred} {ops : Array Oper} {rest : List Oper}
variable {A : Foot} {a : Act} {w w' : World} {t et ty : TypeId} {pos : String} {af : Array Edge} {d : Nat} {dd : Option Tmp} {gd : Option (Nat × Bool)} {x y : Operand} {g : Bool} {m : Nat}

/-- What own entries that are lent read as. -/
def Lent (G : List (Value × AV)) (O : List Own) : Prop := ∀ (w : World) (A : Foot), Own.okl w A O → (∀ b ∈ fps O, A false b) → (∀ b, A true b → A false b) → ∀ p ∈ G, Rd w A p.1 p.2
theorem Lent.nil {O : List Own} : Lent [] O := fun w A _ _ _ p hp => by cases hp

def FreshR : Res → Prop
  | .ret x => Fresh x
  | .pan _ => True

/-- A call: entries are passed (p), lent to be read (l), kept (k). -/
theorem SatA.callG {E : Ent} (ms : List Cd) {f : FuncId} {l : List Operand} {xs : List AV} {fi ca : List Value} {R : Res → List Own → Prop} {G : List (Value × AV)} (hG : Lent G (selL ms own))
    (hfr : selL ms own = [] ∨ ∀ r o, R r o → FreshR r ∧ ∀ x ∈ o, OwnFl (· = true) x)
    (hA : SatA E A ⟨n, env, own, F, D⟩ a w) (hargs : ∀ E', EvL E' ⟨n, env, selP ms own ++ selK ms own, G ++ F, D⟩ l xs) (hAC : AC P f (selP ms own) (fi.map AV.c ++ xs ++ ca.map AV.c) R)
    {KK : Ending → World → Prop} (hK : ∀ r own' A' w', R r own' → Frm w A w' A' → SatA E A' ⟨n, env, mrg ms own' own, F, D⟩ a w' → ∀ e, RdE w' A' e r → KK e w') :
    Calls P f (fi.toArray ++ l.toArray.map a.eval ++ ca.toArray) w KK := by
  obtain ⟨O, hO⟩ : ∃ O, O = selL ms own := ⟨_, rfl⟩
  obtain ⟨op, hop⟩ : ∃ op, op = selP ms own := ⟨_, rfl⟩
  obtain ⟨ro, hro⟩ : ∃ ro, ro = selK ms own := ⟨_, rfl⟩
  have hperm : own.Perm (op ++ (O ++ ro)) := by rw [hO, hop, hro]; exact sel_perm ms own
  have hmrg : ∀ ps, (ps ++ (O ++ ro)).Perm (mrg ms ps own) := fun ps => by rw [hO, hro]; exact mrg_perm ms ps own
  rw [← hO] at hG hfr
  rw [← hop, ← hro] at hargs
  rw [← hop] at hAC
  have h := hA.perm hperm
  have hn0 := h.keep.size
  have hnd := h.hp.nodup
  simp only [fps_append, List.nodup_append] at hnd
  obtain ⟨hd1, ⟨hd2, hd3, hd4⟩, hd5⟩ := hnd
  let A1 : Foot := fun fr b => A fr b ∨ (fr = false ∧ b ∈ fps O)
  have hup : ∀ fr b, A fr b → A1 fr b := fun fr b hb => .inl hb
  have hfp : ∀ b, b ∈ fps op ∨ b ∈ fps O ∨ b ∈ fps ro → b < w.heap.size ∧ (b ∈ E.fp0 ∨ E.w0.heap.size ≤ b) ∧ ∀ fr, ¬ A fr b := fun b hb => h.hp.fp b (by simp only [fps_append, List.mem_append]; exact hb)
  have hmv : ∀ {v x}, Rd w A v x → Rd w A1 v x := fun hr => hr.move (fun fr b hb _ => hup fr b hb) fun _ _ _ _ => rfl
  have hokm : ∀ {o : Own}, o.ok w A → o.ok w A1 := fun ho => ho.move (fun fr b hb _ => hup fr b hb) (fun _ _ _ _ => rfl) fun _ _ => rfl
  have hA1lt : ∀ fr b, A1 fr b → b < w.heap.size := fun fr b hb => hb.elim (h.hp.lt fr b) fun hb => (hfp b (.inr (.inl hb.2))).1
  have hA1m : ∀ b, A1 true b → A1 false b := fun b hb => hb.elim (fun hb => .inl (h.hp.mono b hb)) fun hb => by cases hb.1
  have hnot : ∀ b, b ∈ fps op ∨ b ∈ fps ro → ∀ fr, ¬ A1 fr b := fun b hb fr hA => by
    rcases hA with hA | ⟨_, hA⟩
    · exact (hfp b (hb.elim .inl fun hb => .inr (.inr hb))).2.2 fr hA
    · rcases hb with hb | hb
      · exact hd5 b hb b (List.mem_append_left _ hA) rfl
      · exact hd4 b hA b hb rfl
  -- the callee's start
  have hstart : Hp w.heap.size (fps op) A1 op w A1 := ⟨hA1m, fun _ _ h => h, fun _ _ h => .inl h, hA1lt, fun b hb => ⟨(hfp b (.inl hb)).1, .inl hb, hnot b (.inl hb)⟩, hd1, fun o ho => hokm (h.hp.own o (List.mem_append_left _ ho))⟩
  -- the arguments
  have hargs' : SatA ⟨w, fps (op ++ ro), A1, none⟩ A1 ⟨n, env, op ++ ro, G ++ F, D⟩ a w := by
    refine ⟨h.size, h.defers, .refl _ _, ⟨hA1m, fun _ _ h => h, fun _ _ h => .inl h, hA1lt, fun b hb => ?_, ?_, fun o ho => ?_⟩, fun i x hl => hmv (h.env i x hl), fun p hp => ?_⟩
    · have hb' := hb
      rw [fps_append, List.mem_append] at hb
      exact ⟨(hfp b (hb.elim .inl fun hb => .inr (.inr hb))).1, .inl hb', hnot b hb⟩
    · rw [fps_append, List.nodup_append]
      exact ⟨hd1, hd3, fun b hb c hc => hd5 b hb c (List.mem_append_right _ hc)⟩
    · rcases List.mem_append.1 ho with ho | ho
      · exact hokm (h.hp.own o (List.mem_append_left _ ho))
      · exact hokm (h.hp.own o (List.mem_append_right _ (List.mem_append_right _ ho)))
    · rcases List.mem_append.1 hp with hp | hp
      · exact hG w A1 (okl_iff.2 fun o ho => hokm (h.hp.own o (List.mem_append_right _ (List.mem_append_left _ ho)))) (fun b hb => .inr ⟨rfl, hb⟩) hA1m p hp
      · exact hmv (h.facts p hp)
  refine (hAC w A1 _ hstart (((hargs _).rdL hargs').around fi ca)).mono ?_
  rintro e w' ⟨r, own', A', hR, hk, hp, hr⟩
  let A2 : Foot := fun fr b => A' fr b ∧ b ∉ fps O
  have hA2 : ∀ fr b, A fr b → A2 fr b := fun fr b hb => ⟨hp.sup fr b (hup fr b hb), fun hm => (hfp b (.inr (.inl hm))).2.2 fr hb⟩
  have hfix : ∀ b, b < w.heap.size → b ∉ fps op → w'.heap[b]? = w.heap[b]? := fun b hb hm => hk.block b hb hm
  have hop' : ∀ fr b, A fr b → b ∉ fps op := fun fr b hb hm => (hfp b (.inl hm)).2.2 fr hb
  have hmv2 : ∀ {v x}, Rd w A v x → Rd w' A2 v x := fun hr => hr.move (fun fr b hb _ => hA2 fr b hb) fun fr b hb hlt => hfix b hlt (hop' fr b hb)
  have hrest : ∀ b, b ∈ fps O ∨ b ∈ fps ro → b ∉ fps op := fun b hb hm => hd5 b hm b (List.mem_append.2 hb) rfl
  have hokr : ∀ o, o ∈ O ∨ o ∈ ro → o.ok w' A2 := fun o ho =>
    (h.hp.own o (List.mem_append_right _ (List.mem_append.2 ho))).move (fun fr b hb _ => hA2 fr b hb) (fun fr b hb hlt => hfix b hlt (hop' fr b hb))
      fun b hb => by
        have : b ∈ fps O ∨ b ∈ fps ro := ho.imp (fun ho => fps_mem ho hb) fun ho => fps_mem ho hb
        exact hfix b (hfp b (.inr this)).1 (hrest b this)
  have hA'O : ∀ b, A' true b → b ∉ fps O := fun b hb hm => by
    rcases hp.sub true b hb with h1 | h1
    · rcases h1 with h1 | h1
      · exact (hfp b (.inr (.inl hm))).2.2 _ h1
      · cases h1.1
    · have := (hfp b (.inr (.inl hm))).1; omega
  have hres : SatA E A2 ⟨n, env, own' ++ (O ++ ro), F, D⟩ a w' := by
    refine ⟨h.size, h.defers, h.keep.trans hk fun b hb => (hfp b (.inl hb)).2.1, ⟨fun b hb => ⟨hp.mono b hb.1, hb.2⟩, fun fr b hb => hA2 fr b (h.hp.sup fr b hb), fun fr b hb => ?_, fun fr b hb => hp.lt fr b hb.1, fun b hb => ?_, ?_, fun o ho => ?_⟩,
      fun i x hl => hmv2 (h.env i x hl), fun p hp => hmv2 (h.facts p hp)⟩
    · rcases hp.sub fr b hb.1 with h1 | h1
      · rcases h1 with h1 | h1
        · exact h.hp.sub fr b h1
        · exact absurd h1.2 hb.2
      · exact .inr (Nat.le_trans hn0 h1)
    · simp only [fps_append, List.mem_append] at hb
      rcases hb with hb | hb
      · obtain ⟨g1, g2, g3⟩ := hp.fp b hb
        refine ⟨g1, ?_, fun fr hA => g3 fr hA.1⟩
        rcases g2 with g2 | g2
        · exact (hfp b (.inl g2)).2.1
        · exact .inr (Nat.le_trans hn0 g2)
      · obtain ⟨g1, g2, g3⟩ := hfp b (.inr hb)
        refine ⟨Nat.lt_of_lt_of_le g1 hk.size, g2, fun fr hA => ?_⟩
        rcases hp.sub fr b hA.1 with h1 | h1
        · rcases h1 with h1 | h1
          · exact g3 fr h1
          · exact hA.2 h1.2
        · omega
    · simp only [fps_append]
      refine List.nodup_append.2 ⟨hp.nodup, List.nodup_append.2 ⟨hd2, hd3, hd4⟩, fun b hb c hc hbc => ?_⟩
      subst hbc
      have hc' := List.mem_append.1 hc
      rcases (hp.fp b hb).2.1 with g2 | g2
      · exact hrest b hc' g2
      · have := (hfp b (.inr hc')).1; omega
    · rcases List.mem_append.1 ho with ho | ho
      · rcases hfr with hfr | hfr
        · have : A2 = A' := by
            funext fr b
            simp [A2, hfr, fps]
          rw [this]; exact hp.own o ho
        · exact (hp.own o ho).flags (p := (· = true)) (fun fr b hf hb => by subst hf; exact ⟨hb, hA'O b hb⟩) ((hfr _ _ hR).2 o ho)
      · exact hokr o (List.mem_append.1 ho)
  refine hK r own' A2 w' hR (fun u y h => hmv2 h) (hres.perm (hmrg own')) e ?_
  cases r with
  | ret x =>
    obtain ⟨v, h1, h2⟩ := hr
    refine ⟨v, h1, ?_⟩
    rcases hfr with hfr | hfr
    · have : A2 = A' := by
        funext fr b
        simp [A2, hfr, fps]
      rw [this]; exact h2
    · exact h2.flags (p := (· = true)) (hfr _ _ hR).1 (fun fr b hf hb => by subst hf; exact ⟨hb, hA'O b hb⟩) fun _ _ _ _ => rfl
  | pan v => exact hr

theorem JL.callG (ms : List Cd) {f : FuncId} {fo : Operand} {fi ca : List Value} {l : List Operand} {tys : Array TypeId} {xs zs : List AV} {R : Res → List Own → Prop} {G : List (Value × AV)} (hf : goFn P f = true) (hd : Nat.blt d n = true)
    (hfo : Ev E ⟨n, env, own, F, D⟩ fo (.c (.func (.func f) fi.toArray ca.toArray))) (hG : Lent G (selL ms own)) (hargs : ∀ E', EvL E' ⟨n, env, selP ms own ++ selK ms own, G ++ F, D⟩ l xs) (hzs : fi.map AV.c ++ xs ++ ca.map AV.c = zs) (hAC : AC P f (selP ms own) zs R)
    (hfr : selL ms own = [] ∨ ∀ r o, R r o → FreshR r ∧ ∀ x ∈ o, OwnFl (· = true) x)
    (hret : ∀ x own', R (.ret x) own' → JL P E ops rest ⟨n, (d, x) :: env, mrg ms own' own, F, D⟩ Q)
    (hpan : ∀ v own', R (.pan v) own' → Q (.panic [{ v, recovered := false }]) ⟨n, env, mrg ms own' own, F, D⟩) :
    JL P E ops (⟨some d, .call ⟨.value fo, l.toArray, tys⟩, ty, pos, af, none⟩ :: rest) ⟨n, env, own, F, D⟩ Q := fun a w ⟨A, hA⟩ => by
  refine wpListIn_plain rfl fun K hK => ?_
  refine wpR (by intro c h; cases h) ?_
  unfold Oper.wp
  rw [run_call hf (hfo.eq hA), Oper.upon_enter]
  subst hzs
  refine SatA.callG ms hG hfr hA hargs hAC fun r own' A' w' hR _ hsat e hr => ?_
  cases r with
  | ret x =>
    obtain ⟨v, rfl, hv⟩ := hr
    exact hK _ _ (hret x own' hR _ _ ⟨A', hsat.put (blt_lt hd) hv⟩)
  | pan v =>
    obtain rfl := hr
    exact ⟨_, hpan v own' hR, A', hsat⟩

/-- The same of a function by its number. -/
theorem JL.callF (ms : List Cd) {f : FuncId} {l : List Operand} {tys : Array TypeId} {xs : List AV} {R : Res → List Own → Prop} {G : List (Value × AV)} (hf : goFn P f = true) (hd : Nat.blt d n = true)
    (hG : Lent G (selL ms own)) (hargs : ∀ E', EvL E' ⟨n, env, selP ms own ++ selK ms own, G ++ F, D⟩ l xs) (hAC : AC P f (selP ms own) xs R)
    (hfr : selL ms own = [] ∨ ∀ r o, R r o → FreshR r ∧ ∀ x ∈ o, OwnFl (· = true) x)
    (hret : ∀ x own', R (.ret x) own' → JL P E ops rest ⟨n, (d, x) :: env, mrg ms own' own, F, D⟩ Q)
    (hpan : ∀ v own', R (.pan v) own' → Q (.panic [{ v, recovered := false }]) ⟨n, env, mrg ms own' own, F, D⟩) :
    JL P E ops (⟨some d, .call ⟨.value (.func f), l.toArray, tys⟩, ty, pos, af, none⟩ :: rest) ⟨n, env, own, F, D⟩ Q :=
  JL.callG (fi := []) (ca := []) ms hf hd .func hG hargs (by simp) hAC hfr hret hpan

/-- A quiet call to which entries are lent. -/
theorem QW.callL (ms : List Cd) {f : FuncId} {fo : Operand} {fi ca : List Value} {l : List Operand} {tys : Array TypeId} {xs zs : List AV} {z : AV} {G : List (Value × AV)} (hf : goFn P f = true)
    (hfo : Ev E ⟨n, env, own, F, D⟩ fo (.c (.func (.func f) fi.toArray ca.toArray))) (hG : Lent G (selL ms own)) (hp : selP ms own = []) (hmo : mrg ms [] own = own) (hargs : ∀ E', EvL E' ⟨n, env, selP ms own ++ selK ms own, G ++ F, D⟩ l xs)
    (hzs : fi.map AV.c ++ xs ++ ca.map AV.c = zs) (h : Fn P f zs z) (hz : Fresh z) :
    QW P E ⟨n, env, own, F, D⟩ ⟨dd, .call ⟨.value fo, l.toArray, tys⟩, ty, pos, af, gd⟩ z := fun A a w hA K Qx hK => by
  refine wpR (by intro c h; cases h) ?_
  unfold Oper.wp
  rw [run_call hf (hfo.eq hA), Oper.upon_enter]
  subst hzs
  have h' : AC P f (selP ms own) (fi.map AV.c ++ xs ++ ca.map AV.c) fun r own' => r = .ret z ∧ own' = [] := by rw [hp]; exact h
  have hfr : ∀ (r : Res) (o : List Own), r = .ret z ∧ o = [] → FreshR r ∧ ∀ x ∈ o, OwnFl (· = true) x := fun r o ⟨h1, h2⟩ => by
    subst h1 h2; exact ⟨hz, fun x hx => by cases hx⟩
  refine SatA.callG ms hG (.inr hfr) hA hargs h' fun r own' A' w' ⟨h1, h2⟩ hfm hsat e hr => ?_
  subst h1 h2
  rw [hmo] at hsat
  obtain ⟨v, rfl, hv⟩ := hr
  exact hK v w' A' hfm hsat hv
theorem QW.callLF (ms : List Cd) {f : FuncId} {l : List Operand} {tys : Array TypeId} {xs : List AV} {z : AV} {G : List (Value × AV)} (hf : goFn P f = true)
    (hG : Lent G (selL ms own)) (hp : selP ms own = []) (hmo : mrg ms [] own = own) (hargs : ∀ E', EvL E' ⟨n, env, selP ms own ++ selK ms own, G ++ F, D⟩ l xs)
    (h : Fn P f xs z) (hz : Fresh z) :
    QW P E ⟨n, env, own, F, D⟩ ⟨dd, .call ⟨.value (.func f), l.toArray, tys⟩, ty, pos, af, gd⟩ z :=
  QW.callL (fi := []) (ca := []) ms hf .func hG hp hmo hargs (by simp) h hz

end
end Go.Proofs.Ytkiankpmkglhcaa.J

/- Trees that a call owns: entries in groups; what they read as when they are lent, or closed for good. -/
namespace Go.Proofs.Ytkiankpmkglhcaa.J
open Go Go.RowKit
set_option linter.unusedVariables false
set_option linter.unusedSimpArgs false

/-- The same blocks, and right in the same worlds. -/
def OwnEq (o o' : Own) : Prop := (∀ b, o.fp.count b = o'.fp.count b) ∧ ∀ w A, o.ok w A ↔ o'.ok w A
theorem OwnEq.refl (o : Own) : OwnEq o o := ⟨fun _ => rfl, fun _ _ => .rfl⟩
theorem OwnEq.symm {o o' : Own} (h : OwnEq o o') : OwnEq o' o := ⟨fun b => (h.1 b).symm, fun w A => (h.2 w A).symm⟩
theorem OwnEq.trans {o o' o'' : Own} (h : OwnEq o o') (k : OwnEq o' o'') : OwnEq o o'' := ⟨fun b => (h.1 b).trans (k.1 b), fun w A => (h.2 w A).trans (k.2 w A)⟩
theorem OwnEq.mem {o o' : Own} (h : OwnEq o o') (b : Nat) : b ∈ o.fp ↔ b ∈ o'.fp := by
  rw [← List.count_pos_iff, ← List.count_pos_iff, h.1 b]
theorem OwnEq.perm {o o' : Own} (h : OwnEq o o') : o.fp.Perm o'.fp := List.perm_iff_count.2 h.1

theorem OwnEq.grp {l l' : List Own} (h1 : ∀ b, (fps l).count b = (fps l').count b) (h2 : ∀ w A, (∀ o ∈ l, o.ok w A) ↔ ∀ o ∈ l', o.ok w A) : OwnEq (.grp l) (.grp l') :=
  ⟨fun b => by simpa [Own.fp, fpl_eq] using h1 b, fun w A => by simpa [Own.ok, okl_iff] using h2 w A⟩
theorem OwnEq.grp_perm {l l' : List Own} (h : l.Perm l') : OwnEq (.grp l) (.grp l') := .grp (fun b => (fps_perm h).count_eq b) fun w A => ⟨fun k o ho => k o (h.mem_iff.2 ho), fun k o ho => k o (h.mem_iff.1 ho)⟩
theorem fps_cons (o : Own) (l : List Own) : fps (o :: l) = o.fp ++ fps l := by simp [fps]
theorem fps_nil : fps [] = [] := rfl
theorem OwnEq.cons {o o' : Own} {l l' : List Own} (h : OwnEq o o') (k : OwnEq (.grp l) (.grp l')) : OwnEq (.grp (o :: l)) (.grp (o' :: l')) :=
  .grp (fun b => by
    have := k.1 b
    simp only [Own.fp, fpl_eq] at this
    simp only [fps_cons, List.count_append, h.1 b, this]) fun w A => by
    have := k.2 w A
    simp only [Own.ok, okl_iff] at this
    simp only [List.forall_mem_cons, h.2 w A, this]
theorem OwnEq.one (o : Own) : OwnEq (.grp [o]) o := ⟨fun b => by simp [Own.fp, Own.fpl], fun w A => by simp [Own.ok, Own.okl]⟩
theorem OwnEq.nest (l r : List Own) : OwnEq (.grp (.grp l :: r)) (.grp (l ++ r)) := .grp (fun b => by simp [fps_cons, fps_append, Own.fp, fpl_eq]) fun w A => by simp [Own.ok, okl_iff, or_imp, forall_and]
theorem OwnEq.nil_arr (v : Value) (e : ETy) (a : Option Addr) : OwnEq (.grp []) (.grp []) := .refl _

mutual
/-- A value reads as x, and all that it is read through is the entry's own. -/
inductive Tr : AV → Value → Own → Prop
  | c {v : Value} {o : Own} (ho : OwnEq (.grp []) o) : Tr (.c v) v o
  | sl {e : ETy} {xs cs : List (List AV)} {v : Value} {us : List Value} {o o' : Own} (h1 : cs.flatten = us.map AV.c) (h2 : cs.length = xs.length) (h3 : ∀ x ∈ xs, x.length = e.sz) (h4 : ∀ x ∈ cs, x.length = e.sz) (h5 : us.all (·.oneCell') = true)
      (h6 : xs.length * e.bytes ≤ reach) (h : TrL xs.flatten us o) (ho : OwnEq (.grp [.arr v e cs, o]) o') : Tr (.sl true false e xs) v o'
  | agg {ys : List AV} {us : List Value} {o : Own} (h5 : us.all (·.oneCell') = true) (h : TrL ys us o) : Tr (.agg ys) (.agg us.toArray) o
inductive TrL : List AV → List Value → Own → Prop
  | nil {o : Own} (ho : OwnEq (.grp []) o) : TrL [] [] o
  | cons {y : AV} {u : Value} {ys : List AV} {us : List Value} {o o' o'' : Own} (h : Tr y u o) (hs : TrL ys us o') (ho : OwnEq (.grp [o, o']) o'') : TrL (y :: ys) (u :: us) o''
end

theorem Tr.eqv {x : AV} {v : Value} {o o' : Own} (h : Tr x v o) (k : OwnEq o o') : Tr x v o' := by
  cases h with
  | c ho => exact .c (ho.trans k)
  | sl h1 h2 h3 h4 h5 h6 h ho => exact .sl h1 h2 h3 h4 h5 h6 h (ho.trans k)
  | agg h5 h =>
    refine .agg h5 ?_
    cases h with
    | nil ho => exact .nil (ho.trans k)
    | cons h hs ho => exact .cons h hs (ho.trans k)
theorem TrL.eqv {x : List AV} {v : List Value} {o o' : Own} (h : TrL x v o) (k : OwnEq o o') : TrL x v o' := by
  cases h with
  | nil ho => exact .nil (ho.trans k)
  | cons h hs ho => exact .cons h hs (ho.trans k)

theorem TrL.length {ys : List AV} {us : List Value} {o : Own} (h : TrL ys us o) : ys.length = us.length := by
  induction ys generalizing us o with
  | nil => cases h; rfl
  | cons y ys ih =>
    cases h with
    | cons h hs ho => simp [ih hs]

theorem TrL.append {ys zs : List AV} {us vs : List Value} {o o' o'' : Own} (h : TrL ys us o) (k : TrL zs vs o') (ho : OwnEq (.grp [o, o']) o'') : TrL (ys ++ zs) (us ++ vs) o'' := by
  induction ys generalizing us o o'' with
  | nil =>
    cases h with
    | nil hn =>
      refine k.eqv (OwnEq.trans ?_ ho)
      exact (OwnEq.one o').symm.trans ((OwnEq.nest [] [o']).symm.trans (.cons hn (.refl _)))
  | cons y ys ih =>
    cases h with
    | cons h1 hs h2 =>
      rename_i u us oa ob
      refine .cons h1 (ih hs (.refl _)) (OwnEq.trans ?_ ho)
      -- [oa, [ob, o']] ~ [[oa, ob], o']
      refine OwnEq.trans ?_ (.cons h2 (.refl _))
      refine OwnEq.trans ?_ (OwnEq.nest [oa, ob] [o']).symm
      refine OwnEq.trans (.grp_perm (List.Perm.swap _ _ _)) ?_
      refine OwnEq.trans (OwnEq.nest [ob, o'] [oa]) (.grp_perm ?_)
      exact (List.perm_append_comm (l₁ := [ob, o']) (l₂ := [oa]))

theorem TrL.split {ys zs : List AV} {us : List Value} {o : Own} (h : TrL (ys ++ zs) us o) : ∃ u1 u2 o1 o2, us = u1 ++ u2 ∧ TrL ys u1 o1 ∧ TrL zs u2 o2 ∧ OwnEq (.grp [o1, o2]) o := by
  induction ys generalizing us o with
  | nil => exact ⟨[], us, .grp [], o, rfl, .nil (.refl _), h, (OwnEq.nest [] [o]).trans (OwnEq.one o)⟩
  | cons y ys ih =>
    cases h with
    | cons h1 hs h2 =>
      rename_i u us oa ob
      obtain ⟨u1, u2, o1, o2, hu, g1, g2, g3⟩ := ih hs
      refine ⟨u :: u1, u2, .grp [oa, o1], o2, by simp [hu], .cons h1 g1 (.refl _), g2, ?_⟩
      refine OwnEq.trans (OwnEq.nest [oa, o1] [o2]) ?_
      refine OwnEq.trans ?_ h2
      exact .cons (.refl _) (OwnEq.trans (OwnEq.one _).symm (.cons g3 (.refl _)))

/-- Its blocks may be read: it reads. -/
theorem okl_two {w : World} {A : Foot} {o o' o'' : Own} (ho : OwnEq (.grp [o, o']) o'') (h : o''.ok w A) : o.ok w A ∧ o'.ok w A := by
  have := (ho.2 w A).2 h
  simpa [Own.ok, Own.okl] using this
theorem mem_two {o o' o'' : Own} (ho : OwnEq (.grp [o, o']) o'') {b : Nat} (h : b ∈ o.fp ∨ b ∈ o'.fp) : b ∈ o''.fp := by
  rw [← ho.mem]; simpa [Own.fp, Own.fpl] using h

theorem cells_of_flat {w : World} {A : Foot} {us : List Value} {ys : List AV} {cells : Array Value} (h : Cells w A cells 0 (us.map AV.c)) (hl : ys.length = us.length) (hr : ∀ (k : Nat) (y : AV) (u : Value), ys[k]? = some y → us[k]? = some u → Rd w A u y) : Cells w A cells 0 ys := fun k y hk => by
  obtain ⟨u, hu⟩ : ∃ u, us[k]? = some u := ⟨us[k]'(by rw [← hl]; exact (List.getElem?_eq_some_iff.1 hk).1), List.getElem?_eq_getElem _⟩
  obtain ⟨u', h1, h0, h2⟩ := h k (.c u) (by simp [hu])
  have := h2.eq
  subst this
  exact ⟨_, h1, h0, hr k y _ hk hu⟩

mutual
theorem Tr.rd {w : World} {A : Foot} : ∀ {x : AV} {v : Value} {o : Own}, Tr x v o → o.ok w A → (∀ b ∈ o.fp, A true b) → Rd w A v x
  | _, _, _, .c _, _, _ => .c _
  | _, _, _, .sl (e := e) (xs := xs) (cs := cs) (v := v) (us := us) (o := o) h1 h2 h3 h4 h5 h6 h ho, hok, hA => by
    obtain ⟨g1, g2⟩ := okl_two ho hok
    have hel := TrL.rd h g2 fun b hb => hA b (mem_two ho (.inr hb))
    have hlen := h.length
    simp only [Own.ok] at g1
    rcases g1 with ⟨a0, rfl, hcs⟩ | ⟨b, cap, cells, t, rfl, hb, hcap, hcu, hsz, hc⟩
    · subst hcs
      have : xs = [] := by cases xs with | nil => rfl | cons _ _ => simp at h2
      subst this
      exact .emp _ _ _ _ _ fun hh => by cases hh
    · rw [h1] at hc
      have hc' := cells_of_flat hc hlen hel
      rw [h2] at hcap ⊢
      exact .sl true false e xs b 0 (cap + 1) cells t (0, 0) (fun k => cells.getD k undef) (hA b (mem_two ho (.inl (by simp [Own.fp, arrFp])))) hb hcap (fun hh => by cases hh) h3 h6
        (fun k y hk => by
          obtain ⟨u, k1, k0, _⟩ := hc' k y hk
          rw [Nat.zero_add] at k1 ⊢
          simp [Array.getD_eq_getD_getElem?, k1, k0])
        fun k y hk => by
          obtain ⟨u, k1, _, k2⟩ := hc' k y hk
          rw [Nat.zero_add] at k1
          simpa [Array.getD_eq_getD_getElem?, k1] using k2
  | _, _, _, .agg (ys := ys) (us := us) h5 h, hok, hA => by
    have hel := TrL.rd h hok hA
    refine .mk_agg (by simp [h.length]) fun k y hk => ?_
    obtain ⟨u, hu⟩ : ∃ u, us[k]? = some u := ⟨us[k]'(by rw [← h.length]; exact (List.getElem?_eq_some_iff.1 hk).1), List.getElem?_eq_getElem _⟩
    exact ⟨u, by simpa using hu, (List.all_eq_true.1 h5) u (List.mem_of_getElem? hu), hel k y u hk hu⟩
theorem TrL.rd {w : World} {A : Foot} : ∀ {ys : List AV} {us : List Value} {o : Own}, TrL ys us o → o.ok w A → (∀ b ∈ o.fp, A true b) → ∀ (k : Nat) (y : AV) (u : Value), ys[k]? = some y → us[k]? = some u → Rd w A u y
  | _, _, _, .nil _, _, _ => fun k y u hk _ => by simp at hk
  | _, _, _, .cons h hs ho, hok, hA => fun k y u hk hu => by
    obtain ⟨g1, g2⟩ := okl_two ho hok
    cases k with
    | zero =>
      simp at hk hu
      subst hk hu
      exact Tr.rd h g1 fun b hb => hA b (mem_two ho (.inl hb))
    | succ k => exact TrL.rd hs g2 (fun b hb => hA b (mem_two ho (.inr hb))) k y u (by simpa using hk) (by simpa using hu)
end

abbrev LowFl : AV → Prop := Fl (· = false)

/-- An own tree, lent, reads as its low form. -/
theorem Tr.lent {x y : AV} {v : Value} {o : Own} (h : Tr x v o) (hl : Le [] x y) (hy : LowFl y) : Lent [(v, y)] [o] := fun w A hok hA hm p hp => by
  simp only [List.mem_singleton] at hp
  subst hp
  have hfp : ∀ b ∈ o.fp, A false b := fun b hb => hA b (by simpa [fps] using hb)
  let A1 : Foot := fun fr b => A fr b ∨ b ∈ o.fp
  have hok' : o.ok w A := by simpa [Own.okl] using hok
  have h1 : Rd w A1 v x := h.rd (hok'.move (fun fr b hb _ => .inl hb) (fun _ _ _ _ => rfl) fun _ _ => rfl) fun b hb => .inr hb
  have h2 : Rd w A1 v y := h1.le (F := []) (fun b hb => hb.imp (hm b) id) (fun p hp => by cases hp) hl
  exact h2.flags (p := (· = false)) hy (fun fr b hf hb => by subst hf; exact hb.elim id (hfp b)) fun _ _ _ _ => rfl
theorem Lent.cons {G G' : List (Value × AV)} {o : Own} {O : List Own} (h : Lent G [o]) (k : Lent G' O) : Lent (G ++ G') (o :: O) := fun w A hok hA hm p hp => by
  simp only [Own.okl] at hok
  simp only [fps_cons, List.mem_append] at hA
  rcases List.mem_append.1 hp with hp | hp
  · exact h w A (by simpa [Own.okl] using hok.1) (fun b hb => hA b (.inl (by simpa [fps] using hb))) hm p hp
  · exact k w A hok.2 (fun b hb => hA b (.inr hb)) hm p hp

/-- What an entry reads as when it is given up. -/
def Clos (G : List (Value × AV)) (o : Own) : Prop := ∀ (w : World) (A : Foot), o.ok w A → (∀ b ∈ o.fp, ∀ fr, A fr b) → ∀ p ∈ G, Rd w A p.1 p.2
theorem Tr.clos {x : AV} {v : Value} {o : Own} (h : Tr x v o) : Clos [(v, x)] o := fun w A hok hA p hp => by
  simp only [List.mem_singleton] at hp
  subst hp
  exact h.rd hok fun b hb => hA b hb true
theorem Clos.arr {v : Value} {e : ETy} {xs : List (List AV)} (hr : xs.length * e.bytes ≤ reach) : Clos [(v, .sl true false e xs)] (.arr v e xs) := fun w A hok hA p hp => by
  simp only [List.mem_singleton] at hp
  subst hp
  simp only [Own.ok] at hok
  rcases hok with ⟨a0, rfl, rfl⟩ | ⟨b, cap, us, t, rfl, hb, hcap, hus, hsz, hc⟩
  · exact .emp _ _ _ _ _ (fun _ => rfl)
  · refine .sl true false e xs b 0 (cap + 1) us t (0, 0) (fun k => us.getD k undef) (hA b (by simp [Own.fp, arrFp]) true) hb hcap (fun hh => by cases hh) hsz hr (fun k y hk => ?_) (fun k y hk => ?_)
    · obtain ⟨u, h1, h0, _⟩ := hc k y hk
      rw [Nat.zero_add] at h1 ⊢
      simp [Array.getD_eq_getD_getElem?, h1, h0]
    · obtain ⟨u, h1, _, h2⟩ := hc k y hk
      rw [Nat.zero_add] at h1
      simpa [Array.getD_eq_getD_getElem?, h1] using h2
/-- An own array lent. -/
theorem Lent.arr {v : Value} {e : ETy} {xs : List (List AV)} (hr : xs.length * e.bytes ≤ reach) : Lent [(v, .sl false false e xs)] [.arr v e xs] := fun w A hok hA hm p hp => by
  simp only [List.mem_singleton] at hp
  subst hp
  have hok' : (Own.arr v e xs).ok w A := by simpa [Own.okl] using hok
  have hfp : ∀ b ∈ (Own.arr v e xs).fp, A false b := fun b hb => hA b (by simpa [fps] using hb)
  simp only [Own.ok] at hok'
  rcases hok' with ⟨a0, rfl, rfl⟩ | ⟨b, cap, us, t, rfl, hb, hcap, hus, hsz, hc⟩
  · exact .emp _ _ _ _ _ (fun _ => rfl)
  · refine .sl false false e xs b 0 (cap + 1) us t (0, 0) (fun k => us.getD k undef) (hfp b (by simp [Own.fp, arrFp])) hb hcap (fun hh => by cases hh) hsz hr (fun k y hk => ?_) (fun k y hk => ?_)
    · obtain ⟨u, h1, h0, _⟩ := hc k y hk
      rw [Nat.zero_add] at h1 ⊢
      simp [Array.getD_eq_getD_getElem?, h1, h0]
    · obtain ⟨u, h1, _, h2⟩ := hc k y hk
      rw [Nat.zero_add] at h1
      simpa [Array.getD_eq_getD_getElem?, h1] using h2

section
variable {P : Program} {E : Ent} {st : St} {Q : Exit → St → Prop} {n B : Nat} {env : List (Nat × AV)} {own : List Own} {F : List (Value × AV)} {D : List Deferred} {ops : Array Oper} {rest : List Oper}
variable {A : Foot} {a : Act} {w w' : World}

theorem SatA.close {i : Nat} {o : Own} {G : List (Value × AV)} (h : SatA E A ⟨n, env, own, F, D⟩ a w) (hi : own[i]? = some o) (hG : Clos G o)
    (hfp : ∀ b ∈ E.fp0, b ∈ fps (own.eraseIdx i)) : ∃ A', SatA E A' ⟨n, env, own.eraseIdx i, G ++ F, D⟩ a w := by
  have h' := h.perm (perm_pick hi)
  have hnd := h'.hp.nodup
  rw [fps_cons] at hnd
  simp only [List.nodup_append] at hnd
  obtain ⟨hn1, hn2, hn3⟩ := hnd
  let A' : Foot := fun fr b => A fr b ∨ b ∈ o.fp
  have hup : ∀ fr b, A fr b → A' fr b := fun fr b hb => .inl hb
  have hfpx : ∀ b ∈ o.fp, b < w.heap.size ∧ (b ∈ E.fp0 ∨ E.w0.heap.size ≤ b) ∧ ∀ fr, ¬ A fr b := fun b hb => h'.hp.fp b (by rw [fps_cons]; exact List.mem_append_left _ hb)
  have hm : ∀ {u x}, Rd w A u x → Rd w A' u x := fun hr => hr.move (fun fr b hb _ => hup fr b hb) fun _ _ _ _ => rfl
  refine ⟨A', h'.size, h'.defers, h'.keep, ⟨fun b hb => hb.imp (h'.hp.mono b) id, fun fr b hb => hup fr b (h'.hp.sup fr b hb), fun fr b hb => ?_, fun fr b hb => hb.elim (h'.hp.lt fr b) fun hb => (hfpx b hb).1, fun b hb => ?_, hn2, fun o ho => ?_⟩,
    fun i x hl => hm (h'.env i x hl), fun p hp => ?_⟩
  · rcases hb with hb | hb
    · exact h'.hp.sub fr b hb
    · refine .inr ((hfpx b hb).2.1.elim (fun hmem => ?_) id)
      exact absurd rfl (hn3 b hb b (hfp b hmem))
  · obtain ⟨h1, h2, h3⟩ := h'.hp.fp b (by rw [fps_cons]; exact List.mem_append_right _ hb)
    exact ⟨h1, h2, fun fr hA => hA.elim (h3 fr) fun hb' => hn3 b hb' b hb rfl⟩
  · exact (h'.hp.own o (List.mem_cons_of_mem _ ho)).move (fun fr b hb _ => hup fr b hb) (fun _ _ _ _ => rfl) fun _ _ => rfl
  · rcases List.mem_append.1 hp with hp | hp
    · exact hG w A' ((h'.hp.own _ (List.mem_cons_self)).move (fun fr b hb _ => hup fr b hb) (fun _ _ _ _ => rfl) fun _ _ => rfl) (fun b hb fr => .inr hb) p hp
    · exact hm (h'.facts p hp)

theorem JL.close (i : Nat) {o : Own} {G : List (Value × AV)} {own' : List Own} {l : List Oper} (hi : own[i]? = some o) (hG : Clos G o) (ho : own.eraseIdx i = own') (hfp : ∀ b ∈ E.fp0, b ∈ fps own')
    (h : JL P E ops l ⟨n, env, own', G ++ F, D⟩ Q) : JL P E ops l ⟨n, env, own, F, D⟩ Q := fun a w ⟨A, hA⟩ => by
  subst ho
  obtain ⟨A', hA'⟩ := hA.close hi hG hfp
  exact h a w ⟨A', hA'⟩
theorem J.close (i : Nat) {o : Own} {G : List (Value × AV)} {own' : List Own} {c : Code} (hi : own[i]? = some o) (hG : Clos G o) (ho : own.eraseIdx i = own') (hfp : ∀ b ∈ E.fp0, b ∈ fps own')
    (h : J P E c ⟨n, env, own', G ++ F, D⟩ Q) : J P E c ⟨n, env, own, F, D⟩ Q := fun a w ⟨A, hA⟩ => by
  subst ho
  obtain ⟨A', hA'⟩ := hA.close hi hG hfp
  exact h a w ⟨A', hA'⟩

/-- Own entries said in another way. -/
def Reown (own own' : List Own) : Prop := (∀ b, (fps own').count b ≤ (fps own).count b) ∧ ∀ w A, (∀ o ∈ own, o.ok w A) → ∀ o ∈ own', o.ok w A
theorem Hp.reown {n0 : Nat} {fp0 : List Nat} {A0 : Foot} {own' : List Own} (h : Hp n0 fp0 A0 own w A) (hr : Reown own own') : Hp n0 fp0 A0 own' w A :=
  ⟨h.mono, h.sup, h.sub, h.lt, fun b hb => h.fp b (by rw [← List.count_pos_iff] at hb ⊢; exact Nat.lt_of_lt_of_le hb (hr.1 b)), by
    rw [List.nodup_iff_count]
    intro b
    exact Nat.le_trans (hr.1 b) ((List.nodup_iff_count.1 h.nodup) b), hr.2 w A h.own⟩
theorem Reown.refl (own : List Own) : Reown own own := ⟨fun _ => Nat.le_refl _, fun _ _ h => h⟩
theorem Reown.trans {a b c : List Own} (h : Reown a b) (k : Reown b c) : Reown a c := ⟨fun x => Nat.le_trans (k.1 x) (h.1 x), fun w A g => k.2 w A (h.2 w A g)⟩
theorem Reown.perm {a b : List Own} (h : a.Perm b) : Reown a b := ⟨fun x => Nat.le_of_eq ((fps_perm h).count_eq x).symm, fun w A g o ho => g o (h.mem_iff.2 ho)⟩
theorem Reown.drop (a b : List Own) : Reown (a ++ b) b := ⟨fun x => by simp [fps_append], fun w A g o ho => g o (List.mem_append_right _ ho)⟩
theorem Reown.left {a b c : List Own} (h : Reown a b) : Reown (c ++ a) (c ++ b) := ⟨fun x => by simp only [fps_append, List.count_append]; exact Nat.add_le_add_left (h.1 x) _, fun w A g o ho => by
  rcases List.mem_append.1 ho with ho | ho
  · exact g o (List.mem_append_left _ ho)
  · exact h.2 w A (fun o ho => g o (List.mem_append_right _ ho)) o ho⟩
theorem Reown.cons {o : Own} {a b : List Own} (h : Reown a b) : Reown (o :: a) (o :: b) := Reown.left (c := [o]) h
theorem Reown.eq {o o' : Own} {a : List Own} (h : OwnEq o o') : Reown (o :: a) (o' :: a) := ⟨fun x => by simp only [fps_cons, List.count_append, h.1 x]; exact Nat.le_refl _, fun w A g => by
  simp only [List.forall_mem_cons] at g ⊢
  exact ⟨(h.2 w A).1 g.1, g.2⟩⟩
theorem Reown.open (l a : List Own) : Reown (.grp l :: a) (l ++ a) := ⟨fun x => by simp [fps_cons, fps_append, Own.fp, fpl_eq], fun w A g => by
  simp only [List.forall_mem_cons, Own.ok, okl_iff] at g
  intro o ho
  rcases List.mem_append.1 ho with ho | ho
  · exact g.1 o ho
  · exact g.2 o ho⟩
theorem Reown.shut (l a : List Own) : Reown (l ++ a) (.grp l :: a) := ⟨fun x => by simp [fps_cons, fps_append, Own.fp, fpl_eq], fun w A g => by
  simp only [List.forall_mem_cons, Own.ok, okl_iff]
  exact ⟨fun o ho => g o (List.mem_append_left _ ho), fun o ho => g o (List.mem_append_right _ ho)⟩⟩
/-- One entry is replaced, in its place, by a group's two: the second goes to the end. -/
theorem Reown.split2 {own : List Own} {i : Nat} {o o1 o2 : Own} (hi : own[i]? = some o) (h : OwnEq (.grp [o1, o2]) o) : Reown own (own.set i o1 ++ [o2]) := by
  have hlt := (List.getElem?_eq_some_iff.1 hi).1
  refine (Reown.perm (perm_pick hi)).trans ((Reown.eq h.symm).trans ((Reown.open [o1, o2] _).trans (Reown.perm ?_)))
  have hs : (own.set i o1)[i]? = some o1 := by simp [hlt]
  have h2 := perm_pick hs
  rw [List.eraseIdx_set_eq] at h2
  exact ((List.Perm.cons o1 (List.perm_append_singleton o2 _).symm)).trans (by
    rw [← List.cons_append]; exact List.Perm.append_right [o2] h2.symm)

theorem SatA.reown {own' : List Own} (h : SatA E A ⟨n, env, own, F, D⟩ a w) (hr : Reown own own') : SatA E A ⟨n, env, own', F, D⟩ a w := ⟨h.size, h.defers, h.keep, h.hp.reown hr, h.env, h.facts⟩
theorem JL.reown {own' : List Own} {l : List Oper} (hr : Reown own own') (h : JL P E ops l ⟨n, env, own', F, D⟩ Q) : JL P E ops l ⟨n, env, own, F, D⟩ Q := fun a w ⟨A, hA⟩ => h a w ⟨A, hA.reown hr⟩
theorem J.reown {own' : List Own} {c : Code} (hr : Reown own own') (h : J P E c ⟨n, env, own', F, D⟩ Q) : J P E c ⟨n, env, own, F, D⟩ Q := fun a w ⟨A, hA⟩ => h a w ⟨A, hA.reown hr⟩
theorem Wk.re {own' : List Own} {env' : List (Nat × AV)} {F' : List (Value × AV)} (henv : EnvLe F env env') (hr : Reown own own') (hF : ∀ p ∈ F', p ∈ F) : Wk ⟨n, env, own, F, D⟩ ⟨n, env', own', F', D⟩ := fun E a w ⟨A, h⟩ =>
  ⟨A, h.size, h.defers, h.keep, h.hp.reown hr, fun i x hl => by
    obtain ⟨y, hy, hle⟩ := henv.get i x hl
    exact (h.env i y hy).le h.hp.mono h.facts hle, fun p hp => h.facts p (hF p hp)⟩

/-! ### loops that keep what is around them -/
def pickEnv : List Nat → List (Nat × AV) → List (Nat × AV)
  | [], _ => []
  | k :: ks, env => match lk env k with | some x => (k, x) :: pickEnv ks env | none => pickEnv ks env

/-- A loop: the slots ks are as they were; ch says of the others; ow of the own entries. -/
theorem J.loopK {ι : Type} {c : Code} (ks : List Nat) (ch : ι → List (Nat × AV)) (ow : ι → List Own → List Own) (p : ι → Prop) (μ : ι → Nat) (i0 : ι) (h0 : p i0)
    (hw : Wk ⟨n, env, own, F, D⟩ ⟨n, ch i0 ++ pickEnv ks env, ow i0 own, F, D⟩)
    (round : ∀ i, p i → J P E c ⟨n, ch i ++ pickEnv ks env, ow i own, F, D⟩ (thenQ (fun s => ∃ j, p j ∧ μ j < μ i ∧ Wk s ⟨n, ch j ++ pickEnv ks env, ow j own, F, D⟩) Q)) : J P E (.loop c) ⟨n, env, own, F, D⟩ Q :=
  J.loop (fun i => ⟨n, ch i ++ pickEnv ks env, ow i own, F, D⟩) p μ i0 h0 hw round

theorem Reown.dropN (k : Nat) (own : List Own) {own' : List Own} (h : own.drop k = own') : Reown own own' := by
  subst h
  have := Reown.drop (own.take k) (own.drop k)
  rwa [List.take_append_drop] at this
end
end Go.Proofs.Ytkiankpmkglhcaa.J

/- Deferred calls that recover: their contracts, and contracts of the functions that defer them. Assertions on an interface's value. -/
namespace Go.Proofs.Ytkiankpmkglhcaa.J
open Go Go.RowKit
set_option linter.unusedVariables false
set_option linter.unusedSimpArgs false

/-- A deferred call's contract: how it ends, and the mode in which it leaves who deferred it. -/
def DC (P : Program) (f : FuncId) (own : List Own) (xs : List AV) (u : FrameMode) (R : Res → FrameMode → List Own → Prop) : Prop :=
  ∀ (w : World) (A0 : Foot) (vs : Array Value), Hp w.heap.size (fps own) A0 own w A0 → RdL w A0 vs xs →
    CallsD P f vs u w fun e u' w' => ∃ r own' A, R r u' own' ∧ Keep (fps own) w w' ∧ Hp w.heap.size (fps own) A0 own' w' A ∧ RdE w' A e r

/-- Code of a deferred call. -/
def JD (P : Program) (E : Ent) (c : Code) (u : FrameMode) (st : St) (Q : Exit → St → FrameMode → Prop) : Prop :=
  ∀ a w (c0 : Frame) (cs : List Frame), c0.mode = u → Sat E st a w → c.wpS P (fun e a' cs' w' => ∃ s' u', Q e s' u' ∧ Sat E s' a' w' ∧ cs' = { c0 with mode := u' } :: cs) a (c0 :: cs) w

section
variable {P : Program} {E : Ent} {st : St} {n : Nat} {env : List (Nat × AV)} {own : List Own} {F : List (Value × AV)} {D : List Deferred} {ops : Array Oper} {rest : List Oper}
variable {A : Foot} {a : Act} {w w' : World} {u u' : FrameMode} {QD : Exit → St → FrameMode → Prop}

theorem JD.of_J {c : Code} (hE : E.rd = none) (h : J P E c st fun e s => QD e s u) : JD P E c u st QD := fun a w c0 cs hu hs => by
  have hin := h a w hs
  rw [hE] at hin
  have hw : c.wp P _ a w := wpIn_wide.1 hin
  refine wpS_of_wp (wp_mono hw fun e a' w' ⟨s, q, hsat⟩ => ⟨s, u, q, hsat, ?_⟩)
  subst hu; rfl

def thenD (K : St → FrameMode → Prop) (Q : Exit → St → FrameMode → Prop) : Exit → St → FrameMode → Prop
  | .normal, s, u => K s u
  | e, s, u => Q e s u

theorem wpS_mono {c : Code} {Q Q' : Exit → Act → List Frame → World → Prop} {cs : List Frame} (h : c.wpS P Q a cs w) (hq : ∀ e a cs w, Q e a cs w → Q' e a cs w) : c.wpS P Q' a cs w :=
  fun b k hb hr => let ⟨e, a', cs', w', q, r⟩ := h b k hb hr; ⟨e, a', cs', w', hq _ _ _ _ q, r⟩

theorem JD.seq {x y : Code} (h : JD P E x u st (thenD (fun s u => JD P E y u s QD) QD)) : JD P E (.seq x y) u st QD := fun a w c0 cs hu hs => by
  refine wpS_seq (wpS_mono (h a w c0 cs hu hs) fun e a' cs' w' ⟨s', u', q, hsat, hcs⟩ => ?_)
  cases e with
  | normal =>
    subst hcs
    exact wpS_mono (q a' w' { c0 with mode := u' } cs rfl hsat) fun e a cs w h => h
  | _ => exact ⟨s', u', q, hsat, hcs⟩

/-- The first operation recovers. -/
theorem JD.region_recover {id : Nat} {l : List Oper} {d : Nat} {v : Value} {tys : Array TypeId} {ty : TypeId} {pos : String} {af : Array Edge} (hE : E.rd = none) (hd : Nat.blt d n = true)
    (hv : (u = .returning ∧ v = .nilIface ∧ u' = .returning) ∨ ∃ older, u = .panicking ({ v, recovered := false } :: older) ∧ u' = .panicking ({ v, recovered := true } :: older))
    (hl : l = ⟨some d, .call ⟨.builtin .recover, #[], tys⟩, ty, pos, af, none⟩ :: rest)
    (h : JL P E l.toArray rest ⟨n, (d, .c v) :: env, own, F, D⟩ fun e s => QD e s u') :
    JD P E (.region id l.toArray false) u ⟨n, env, own, F, D⟩ QD := fun a w c0 cs hu ⟨A, hA⟩ b k hb hr => by
  subst hl
  have hsat : Sat E ⟨n, (d, .c v) :: env, own, F, D⟩ (a.put (some d) v) w := ⟨A, hA.put (blt_lt hd) (.c v)⟩
  have hlist := h _ w hsat
  rw [hE] at hlist
  have hops := wpOpsIn_eq_wpListIn (F := fen none) (n := 0) (P := P) (ops := (⟨some d, .call ⟨.builtin .recover, #[], tys⟩, ty, pos, af, none⟩ :: rest : List Oper).toArray) (Q := lift E fun e s => QD e s u') rest 1 (fun j => by simp [Nat.add_comm])
  rw [← hops] at hlist
  obtain ⟨e, a', w', ⟨s', hq, hs'⟩, harr⟩ := wp_opsIn (List.range' 1 rest.length) _ w hlist { b with roundOf := none } k ({ c0 with mode := u' } :: cs) rfl trivial (room_wide _)
  have harr' := (arrivesIn_iff (b := { b with roundOf := none }) (fun _ _ => stepsIn_wide) rfl).1 harr
  refine ⟨e, a', { c0 with mode := u' } :: cs, w', ⟨s', u', hq, hs', rfl⟩, ?_⟩
  have harr2 : Arrives P (lone (b.at (a.put (some d) v) (.inRegion (⟨some d, .call ⟨.builtin .recover, #[], tys⟩, ty, pos, af, none⟩ :: rest : List Oper).toArray (List.range' 1 rest.length) :: k)) ({ c0 with mode := u' } :: cs) w) b k ({ c0 with mode := u' } :: cs) e a' w' := harr'
  refine Arrives.of_steps (.one step_region) (Arrives.of_steps (.one ?_) harr2)
  have hrange : List.range ((⟨some d, .call ⟨.builtin .recover, #[], tys⟩, ty, pos, af, none⟩ :: rest : List Oper).toArray).size = 0 :: List.range' 1 rest.length := by
    rw [List.range_eq_range']; simp [List.range'_succ]
  rw [hrange]
  have hk : (b.at a (.inRegion (⟨some d, .call ⟨.builtin .recover, #[], tys⟩, ty, pos, af, none⟩ :: rest : List Oper).toArray (0 :: List.range' 1 rest.length) :: k)).kind = .deferred := hb
  have htr := tryRecover_deferred hk (c0 :: cs)
  have hg := stepG_op (P := P) (b := b) (a := a) (k := k) (cs := c0 :: cs) (w := w) (rest := List.range' 1 rest.length) (ops := (⟨some d, .call ⟨.builtin .recover, #[], tys⟩, ty, pos, af, none⟩ :: rest : List Oper).toArray) (i := 0)
    (o := ⟨some d, .call ⟨.builtin .recover, #[], tys⟩, ty, pos, af, none⟩) (by simp) (by simp [Region.wanted])
  have hrun : (execOp a.eval ⟨some d, .call ⟨.builtin .recover, #[], tys⟩, ty, pos, af, none⟩).run P w = .ok .recover w := by
    simp [execOp, resolve, invoke, builtin]
  have hfin : ∀ v, (b.at a (.inRegion (⟨some d, .call ⟨.builtin .recover, #[], tys⟩, ty, pos, af, none⟩ :: rest : List Oper).toArray (0 :: List.range' 1 rest.length) :: k)).finish v = b.at (a.put (some d) v) (.inRegion (⟨some d, .call ⟨.builtin .recover, #[], tys⟩, ty, pos, af, none⟩ :: rest : List Oper).toArray (List.range' 1 rest.length) :: k) := by
    intro v; rw [Frame.finish_at]; simp
  refine step_lone_go ?_
  rw [hg, ← hfin]
  rcases hv with ⟨h1, h2, h3⟩ | ⟨older, h1, h2⟩
  · subst h2 h3
    have hrec : recoverD (c0 :: cs) = none := by simp [recoverD, hu, h1]
    have hc0 : ({ c0 with mode := .returning } : Frame) = c0 := by rw [← h1, ← hu]
    simp only [Frame.at] at htr ⊢
    simp [stepG.apply, hrun, htr, hrec, hc0]
  · subst h2
    have hrec : recoverD (c0 :: cs) = some (v, { c0 with mode := .panicking ({ v, recovered := true } :: older) } :: cs) := by simp [recoverD, hu, h1]
    simp only [Frame.at] at htr ⊢
    simp [stepG.apply, hrun, htr, hrec]

def retDC (P : Program) (fn : Func) (R : Res → FrameMode → List Own → Prop) : Exit → St → FrameMode → Prop
  | .normal, s, u | .ret, s, u => ∃ x own' dr, RetEv P fn s x ∧ s.dfs = [] ∧ s.own.Perm (own' ++ dr) ∧ R (.ret x) u own'
  | _, _, _ => False

theorem DC.of_JD {f : FuncId} {fn : Func} {c : Code} {N : Nat} {xs : List AV} {R : Res → FrameMode → List Own → Prop} (hf : P.funcs[f]? = some fn) (hb : fn.body = some c) (hN : fn.ntmps = N) (hlen : Nat.ble xs.length N = true)
    (h : ∀ w0 A0, JD P ⟨w0, fps own, A0, none⟩ c u ⟨N, initEnv 0 xs, own, [], []⟩ (retDC P fn R)) : DC P f own xs u R := fun w A0 vs hp hargs => by
  refine callsD_of_wpS hf hb fun c0 cs hu => ?_
  subst hN
  refine wpS_mono (h w A0 _ w c0 cs hu ⟨A0, init_sat hp hargs (Nat.le_of_ble_eq_true hlen)⟩) fun e a' cs' w' ⟨s, u', hq, ⟨A, hs⟩, hcs⟩ => ?_
  have hret : (∃ x own' dr, RetEv P fn s x ∧ s.dfs = [] ∧ s.own.Perm (own' ++ dr) ∧ R (.ret x) u' own') → a'.defers = [] ∧ ∃ u', cs' = { c0 with mode := u' } :: cs ∧ ∃ v, (results fn a'.tmps).run P w' = .ok v w' ∧
      ∃ r own' A, R r u' own' ∧ Keep (fps own) w w' ∧ Hp w.heap.size (fps own) A0 own' w' A ∧ RdE w' A (.returned v) r := by
    rintro ⟨x, own', dr, hx, hd, hp', hR⟩
    obtain ⟨v, h1, h2⟩ := hx _ A a' w' hs
    exact ⟨hs.defers.trans hd, u', hcs, v, h1, .ret x, own', A, hR, hs.keep, (hs.hp.perm hp').left, v, rfl, h2⟩
  cases e with
  | normal => exact hret hq
  | ret => exact hret hq
  | panic chain => exact hq.elim
  | exit id => exact hq.elim
  | goto l => exact hq.elim
  | outgrown => exact hq.elim

/-! ### who defers -/
def modeOf : Exit → Option FrameMode
  | .normal | .ret => some .returning
  | .panic chain => some (.panicking chain)
  | _ => none

/-- One call is deferred, and it leads to a return. -/
def retD (P : Program) (fn : Func) (R : Res → List Own → Prop) (e : Exit) (s : St) : Prop :=
  ∃ u g fi ca op ro, modeOf e = some u ∧ s.dfs = [⟨.fn (.func g) (List.toArray ca), List.toArray fi⟩] ∧ goFn P g = true ∧ s.own.Perm (op ++ ro) ∧
    DC P g op ((fi ++ ca).map AV.c) u fun r u' own' => (∃ x, r = .ret x) ∧ settle u' = .returning ∧ ∃ y own'' dr, RetEv P fn ⟨s.n, s.env, own' ++ ro, s.facts, s.dfs⟩ y ∧ (own' ++ ro).Perm (own'' ++ dr) ∧ R (.ret y) own''

theorem AC.of_JD {f : FuncId} {fn : Func} {c : Code} {N : Nat} {xs : List AV} {R : Res → List Own → Prop} (hf : P.funcs[f]? = some fn) (hb : fn.body = some c) (hN : fn.ntmps = N) (hlen : Nat.ble xs.length N = true)
    (h : ∀ w0 A0, J P ⟨w0, fps own, A0, none⟩ c ⟨N, initEnv 0 xs, own, [], []⟩ (retD P fn R)) : AC P f own xs R := fun w A0 vs hp hargs => by
  refine calls_of_wp_defers hf hb ?_
  subst hN
  have hin : c.wpIn Fence.wide 0 P _ _ w := h w A0 _ w ⟨A0, init_sat hp hargs (Nat.le_of_ble_eq_true hlen)⟩
  refine wp_mono (wpIn_wide.1 hin) fun e a' w' ⟨s, ⟨u, g, fi, ca, op, ro, hu, hdf, hg, hperm, hD⟩, A, hs⟩ => ?_
  obtain ⟨n, env, own1, F, D⟩ := s
  simp only at hdf hperm
  have hs' := hs.perm hperm
  have hleave : u ≠ .run → Leaves P fn a'.tmps (fun e w' => ∃ r own' A, R r own' ∧ Keep (fps own) w w' ∧ Hp w.heap.size (fps own) A0 own' w' A ∧ RdE w' A e r) a'.defers u w' := by
    intro hne
    rw [hs.defers]
    simp only
    rw [hdf]
    refine leaves_cons (args := fi.toArray ++ ca.toArray) (f := g) hne (by simp only [invoke, goFn_run hg]) ?_
    have hrl : RdL w' A (fi.toArray ++ ca.toArray) ((fi ++ ca).map AV.c) := by
      refine ⟨by simp, fun i z hz => ?_⟩
      rw [List.getElem?_map] at hz
      cases hv : (fi ++ ca)[i]? with
      | none => rw [hv] at hz; cases hz
      | some v =>
        rw [hv] at hz; cases hz
        have : (fi.toArray ++ ca.toArray).getD i undef = v := by
          rw [List.append_toArray, Array.getD_eq_getD_getElem?, List.getElem?_toArray, hv]; rfl
        rw [this]; exact .c v
    refine (hD w' A _ hs'.callee hrl).mono ?_
    rintro e u' w'' ⟨r, own', A', ⟨⟨x, rfl⟩, hst, y, own'', dr, hev, hp2, hR⟩, hk, hp', v, rfl, hv⟩
    have hcalled := hs'.called hk hp'
    simp only
    rw [hst]
    obtain ⟨v', g1, g2⟩ := hev _ A' a' w'' hcalled
    exact ⟨v', g1, .ret y, own'', A', hR, hcalled.keep, (hcalled.hp.perm hp2).left, v', rfl, g2⟩
  cases e with
  | normal => simp only [modeOf, Option.some.injEq] at hu; subst hu; exact hleave (by simp)
  | ret => simp only [modeOf, Option.some.injEq] at hu; subst hu; exact hleave (by simp)
  | panic chain => simp only [modeOf, Option.some.injEq] at hu; subst hu; exact hleave (by simp)
  | exit id => simp [modeOf] at hu
  | goto l => simp [modeOf] at hu
  | outgrown => simp [modeOf] at hu

/-- A deferred call is laid. -/
theorem JL.defer {w0 : World} {fp0 : List Nat} {A0 : Foot} {Q : Exit → St → Prop} {dd : Option Tmp} {fo : Operand} {g : FuncId} {fi ca : List Value} {tys : Array TypeId} {ty : TypeId} {pos : String} {af : Array Edge} (hdd : dd = none)
    (hfo : Ev ⟨w0, fp0, A0, none⟩ ⟨n, env, own, F, D⟩ fo (.c (.func (.func g) fi.toArray ca.toArray)))
    (h : JL P ⟨w0, fp0, A0, none⟩ ops rest ⟨n, env, own, F, ⟨.fn (.func g) ca.toArray, fi.toArray⟩ :: D⟩ Q) :
    JL P ⟨w0, fp0, A0, none⟩ ops (⟨dd, .defer ⟨.value fo, #[], tys⟩, ty, pos, af, none⟩ :: rest) ⟨n, env, own, F, D⟩ Q := fun a w ⟨A, hA⟩ => by
  subst hdd
  refine wpListIn_plain rfl fun K hK => ?_
  refine ⟨fun _ _ => trivial, ?_⟩
  have hrun : ((⟨none, .defer ⟨.value fo, #[], tys⟩, ty, pos, af, none⟩ : Oper).semAt (fen none).round a.eval).run P w = .ok (.defer ⟨.fn (.func g) ca.toArray, fi.toArray⟩) w := by
    show (execOp a.eval ⟨none, .defer ⟨.value fo, #[], tys⟩, ty, pos, af, none⟩).run P w = _
    simp [execOp, resolve, hfo.eq hA, Deferred.ofValue]
  rw [show (fen (Ent.rd ⟨w0, fp0, A0, none⟩)) = fen none from rfl, hrun, Oper.uponIn_defer]
  refine hK _ _ (h _ _ ⟨A, ?_⟩)
  exact ⟨hA.size, by show _ :: a.defers = _; rw [hA.defers], hA.keep, hA.hp, hA.env, hA.facts⟩

/-! ### what an interface's value is -/
theorem QW.assert_hit {st : St} {dd : Option Tmp} {x : Operand} {xt t ty : TypeId} {pos : String} {af : Array Edge} {gd : Option (Nat × Bool)} {v : Value} (hU : ∃ d, P.underlying t = some d ∧ ∀ ms, d ≠ .interface ms) (hx : Ev E st x (.c (.iface t v))) :
    QW P E st ⟨dd, .typeAssert x xt t true, ty, pos, af, gd⟩ (.tup [.c v, .c (.bool true)]) := .pure fun A a w hs => by
  obtain ⟨d, h1, h2⟩ := hU
  refine ⟨.tuple #[v, .bool true], ?_, .mk_tup rfl fun k y hk => ?_⟩
  · simp only [execOp, hx.eq hs, Instr.typeAssert, Sem.run_bind, run_underlying _ h1, Result.andThen_ok]
    cases d <;> first | exact absurd rfl (h2 _) | simp
  · match k, hk with
    | 0, hk => simp at hk; subst hk; exact ⟨v, rfl, .c v⟩
    | 1, hk => simp at hk; subst hk; exact ⟨.bool true, rfl, .c _⟩
theorem QW.assert_nil {st : St} {dd : Option Tmp} {x : Operand} {xt t ty : TypeId} {pos : String} {af : Array Edge} {gd : Option (Nat × Bool)} {z : Value} (hU : ∃ d, P.underlying t = some d ∧ ∀ ms, d ≠ .interface ms) (hz : ∀ w, (zeroValue t).run P w = .ok z w) (hx : Ev E st x (.c .nilIface)) :
    QW P E st ⟨dd, .typeAssert x xt t true, ty, pos, af, gd⟩ (.tup [.c z, .c (.bool false)]) := .pure fun A a w hs => by
  obtain ⟨d, h1, h2⟩ := hU
  refine ⟨.tuple #[z, .bool false], ?_, .mk_tup rfl fun k y hk => ?_⟩
  · simp only [execOp, hx.eq hs, Instr.typeAssert, Sem.run_bind, run_underlying _ h1, Result.andThen_ok]
    cases d <;> first | exact absurd rfl (h2 _) | simp [hz]
  · match k, hk with
    | 0, hk => simp at hk; subst hk; exact ⟨z, rfl, .c z⟩
    | 1, hk => simp at hk; subst hk; exact ⟨.bool false, rfl, .c _⟩
end
end Go.Proofs.Ytkiankpmkglhcaa.J

/- A region that draws its order, with calls and stores that turn what is owned among its operations: whatever the order, all reads as in the order of the text. -/
namespace Go.Proofs.Ytkiankpmkglhcaa.J
open Go Go.RowKit
set_option linter.unusedVariables false
set_option linter.unusedSimpArgs false

/-- What the loud operations have come to, the latest first: their values, and what was owned behind each. -/
abbrev Outs := List (AV × List Own)
def curO (own : List Own) : Outs → List Own
  | [] => own
  | (_, o) :: _ => o
/-- Right so far: R of each. -/
def vdO (own : List Own) (R : Outs → List Own → AV → List Own → Prop) : Outs → Prop
  | [] => True
  | (x, o) :: os => R os (curO own os) x o ∧ vdO own R os
def nthO (os : Outs) (j : Nat) : AV := ((os.reverse)[j]?.map (·.1)).getD (.c undef)
/-- A slot's value: told, or the j-th loud operation's. -/
abbrev Slot := Nat × (AV ⊕ Nat)
def valO (os : Outs) : AV ⊕ Nat → AV
  | .inl x => x
  | .inr j => nthO os j
def stepsO (os : Outs) (l : List Slot) : List (Nat × AV) := l.map fun p => (p.1, valO os p.2)

theorem nthO_cons {os : Outs} {p : AV × List Own} {j : Nat} (h : j < os.length) : nthO (p :: os) j = nthO os j := by
  unfold nthO
  rw [List.reverse_cons, List.getElem?_append_left (by simpa using h)]
theorem nthO_last {os : Outs} {p : AV × List Own} : nthO (p :: os) os.length = p.1 := by
  unfold nthO
  rw [List.reverse_cons, List.getElem?_append_right (by simp)]
  simp

/-- An operation that turns what the call owns, or panics. -/
def LStepR (P : Program) (E : Ent) (Q : Exit → St → Prop) (st : St) (R : List Own → AV → List Own → Prop) (o : Oper) : Prop :=
  ∀ A a w, SatA E A st a w → ∀ (K : Act → World → Prop),
    (∀ v x own' w' A', R st.own x own' → Frm w A w' A' → SatA E A' ⟨st.n, st.env, own', st.facts, st.dfs⟩ a w' → Rd w' A' v x → K (a.put o.dst v) w') → o.wpIn (fen E.rd) 0 P a w K (lift E Q)

def EnvOkR (o : Oper) (don : List Slot) (env env' : List (Nat × AV)) : Prop := ∀ s x, lk env' s = some x → (∃ j, depsOk o [j] = true ∧ don[j]? = some (s, .inl x)) ∨ lk env s = some x

/-- With what the loud ones have come to. -/
def EnvOkO (o : Oper) (don : List Slot) (env env' : List (Nat × AV)) (os : Outs) : Prop := ∀ s x, lk env' s = some x → (∃ j z, depsOk o [j] = true ∧ don[j]? = some (s, z) ∧ x = valO os z) ∨ lk env s = some x

inductive AnyR (P : Program) (E : Ent) (Q : Exit → St → Prop) (ops : Array Oper) (n : Nat) (env : List (Nat × AV)) (own : List Own) (R : Outs → List Own → AV → List Own → Prop) (M : Nat) (F : List (Value × AV)) (D : List Deferred) : Nat → Nat → Nat → List Oper → List Slot → List Slot → List (Option Nat) → Prop
  | nil (i p : Nat) (don : List Slot) : AnyR P E Q ops n env own R M F D i M p [] don don []
  | quiet {i j p : Nat} {o : Oper} {os : List Oper} {don all : List Slot} {lv : List (Option Nat)} {d : Nat} {x : AV} {env' : List (Nat × AV)} (hd : o.dst = some d) (hn : Nat.blt d n = true) (he : EnvOkR o don env env')
      (hs : ∀ os', vdO own R os' → os'.length ≤ M → Step P E ops ⟨n, env', curO own os', F, D⟩ o x) (h : AnyR P E Q ops n env own R M F D (i + 1) j p os (don ++ [(d, .inl x)]) all lv) : AnyR P E Q ops n env own R M F D i j p (o :: os) don all (none :: lv)
  | loud {i j p : Nat} {o : Oper} {os : List Oper} {don all : List Slot} {lv : List (Option Nat)} {env' : Outs → List (Nat × AV)} {s : Nat} (hd : (o.dst = none ∧ s = n + i ∧ ∀ os ow x o', R os ow x o' → os.length = j → x = .c undef) ∨ (o.dst = some s ∧ s < n)) (hg : o.guard = none) (he : ∀ os', os'.length = j → EnvOkO o don env (env' os') os') (hp : (Nat.beq j 0 || depsOk o [p]) = true)
      (hs : ∀ os', vdO own R os' → os'.length = j → LStepR P E Q ⟨n, env' os', curO own os', F, D⟩ (R os') o) (h : AnyR P E Q ops n env own R M F D (i + 1) (j + 1) i os (don ++ [(s, .inr j)]) all lv) : AnyR P E Q ops n env own R M F D i j p (o :: os) don all (some j :: lv)

section
variable {P : Program} {E : Ent} {Q : Exit → St → Prop} {n : Nat} {env : List (Nat × AV)} {own : List Own} {R : Outs → List Own → AV → List Own → Prop} {M : Nat} {F : List (Value × AV)} {D : List Deferred} {ops : Array Oper}

theorem AnyR.get {i j p : Nat} {os : List Oper} {don all : List Slot} {lv : List (Option Nat)} (h : AnyR P E Q ops n env own R M F D i j p os don all lv) (hi : don.length = i) :
    (∃ r, all = don ++ r) ∧ all.length = don.length + os.length ∧ lv.length = os.length ∧ j ≤ M ∧
    (∀ (k q : Nat), lv[k]? = some (some q) → j ≤ q ∧ q < M) ∧
    (∀ (k k' q : Nat), lv[k]? = some (some q) → lv[k']? = some (some q) → k = k') ∧
    (∀ q, j ≤ q → q < M → ∃ k : Nat, lv[k]? = some (some q)) ∧
    ∀ k o, os[k]? = some o →
      (lv[k]? = some none ∧ ∃ d x env', all[i + k]? = some (d, .inl x) ∧ o.dst = some d ∧ d < n ∧ EnvOkR o (all.take (i + k)) env env' ∧ ∀ os', vdO own R os' → os'.length ≤ M → Step P E ops ⟨n, env', curO own os', F, D⟩ o x) ∨
      (∃ (q : Nat) (env' : Outs → List (Nat × AV)) (s : Nat), lv[k]? = some (some q) ∧ all[i + k]? = some (s, .inr q) ∧ ((o.dst = none ∧ s = n + (i + k) ∧ ∀ os ow x o', R os ow x o' → os.length = q → x = .c undef) ∨ (o.dst = some s ∧ s < n)) ∧ o.guard = none ∧ (∀ os', os'.length = q → EnvOkO o (all.take (i + k)) env (env' os') os') ∧ (∀ os', vdO own R os' → os'.length = q → LStepR P E Q ⟨n, env' os', curO own os', F, D⟩ (R os') o) ∧
        (q = j → j = 0 ∨ depsOk o [p] = true) ∧ (j < q → ∃ k', lv[k']? = some (some (q - 1)) ∧ depsOk o [i + k'] = true)) := by
  induction h with
  | nil i p don => exact ⟨⟨[], by simp⟩, by simp, rfl, Nat.le_refl _, fun k q h => by simp at h, fun k k' q h => by simp at h, fun q h1 h2 => by omega, fun k o h => by simp at h⟩
  | quiet hd hn hds hs _ ih =>
    rename_i i j p o os don all lv d x env' _
    obtain ⟨⟨r, hr⟩, hl, hlv, hjM, hq, hinj, hsur, hk⟩ := ih (by simp [hi])
    refine ⟨⟨(d, .inl x) :: r, by rw [hr]; simp⟩, by simp at hl ⊢; omega, by simp [hlv], hjM, fun k q hkq => ?_, fun k k' q h1 h2 => ?_, fun q h1 h2 => (by obtain ⟨k, hk'⟩ := hsur q h1 h2; exact ⟨k + 1, by simpa using hk'⟩), fun k o' ho' => ?_⟩
    · cases k with
      | zero => simp at hkq
      | succ k => exact hq k q (by simpa using hkq)
    · cases k with
      | zero => simp at h1
      | succ k =>
        cases k' with
        | zero => simp at h2
        | succ k' => rw [hinj k k' q (by simpa using h1) (by simpa using h2)]
    · cases k with
      | zero =>
        simp at ho'; subst ho'
        have : all.take (i + 0) = don := by rw [hr, ← hi]; simp
        exact .inl ⟨by simp, d, x, env', by rw [hr, ← hi]; simp, hd, blt_lt hn, by rw [this]; exact hds, hs⟩
      | succ k =>
        have := hk k o' (by simpa using ho')
        rw [show i + (k + 1) = i + 1 + k by omega]
        rcases this with ⟨h1, h2⟩ | ⟨q, ds', s', h1, h2, h3, h4, h5, h6, h7, h8⟩
        · exact .inl ⟨by simpa using h1, h2⟩
        · refine .inr ⟨q, ds', s', by simpa using h1, h2, h3, h4, h5, h6, h7, fun hlt => ?_⟩
          obtain ⟨k', hk', hd'⟩ := h8 hlt
          exact ⟨k' + 1, by simpa using hk', by rw [show i + (k' + 1) = i + 1 + k' by omega]; exact hd'⟩
  | loud hd hg hds hp hs _ ih =>
    rename_i i j p o os don all lv env' s _
    obtain ⟨⟨r, hr⟩, hl, hlv, hjM, hq, hinj, hsur, hk⟩ := ih (by simp [hi])
    refine ⟨⟨(s, .inr j) :: r, by rw [hr]; simp⟩, by simp at hl ⊢; omega, by simp [hlv], by omega, fun k q hkq => ?_, fun k k' q h1 h2 => ?_, fun q h1 h2 => (by
      by_cases he : q = j
      · exact ⟨0, by simp [he]⟩
      · obtain ⟨k, hk'⟩ := hsur q (by omega) h2; exact ⟨k + 1, by simpa using hk'⟩), fun k o' ho' => ?_⟩
    · cases k with
      | zero => simp at hkq; omega
      | succ k => have := hq k q (by simpa using hkq); omega
    · cases k with
      | zero =>
        cases k' with
        | zero => rfl
        | succ k' => simp at h1 h2; have := hq k' q h2; omega
      | succ k =>
        cases k' with
        | zero => simp at h1 h2; have := hq k q h1; omega
        | succ k' => rw [hinj k k' q (by simpa using h1) (by simpa using h2)]
    · cases k with
      | zero =>
        simp at ho'; subst ho'
        have : all.take (i + 0) = don := by rw [hr, ← hi]; simp
        refine .inr ⟨j, env', s, by simp, by rw [hr, ← hi]; simp, by simpa using hd, hg, by rw [this]; exact hds, hs, fun _ => ?_, fun h => by omega⟩
        · simp only [Bool.or_eq_true] at hp
          exact hp.imp Nat.eq_of_beq_eq_true id
      | succ k =>
        have := hk k o' (by simpa using ho')
        rw [show i + (k + 1) = i + 1 + k by omega]
        rcases this with ⟨h1, h2⟩ | ⟨q, ds', s', h1, h2, h3, h4, h5, h6, h7, h8⟩
        · exact .inl ⟨by simpa using h1, h2⟩
        · have hjq := (hq k q h1).1
          refine .inr ⟨q, ds', s', by simpa using h1, h2, h3, h4, h5, h6, fun h => by omega, fun hlt => ?_⟩
          by_cases he : q = j + 1
          · refine ⟨0, by simp [he], ?_⟩
            rcases h7 he with h7 | h7
            · omega
            · simpa using h7
          · obtain ⟨k', hk', hd'⟩ := h8 (by omega)
            exact ⟨k' + 1, by simpa using hk', by rw [show i + (k' + 1) = i + 1 + k' by omega]; exact hd'⟩

theorem J.region_out {id : Nat} {l pre tail : List Oper} {steps : List Slot} {lv : List (Option Nat)} (hm : P.follows .mixedOrders = true) (hl : l = pre ++ tail) (hnd : nodupB (dsts pre) = true) (hbk : backB 0 l = true) (ht : tailOk pre.length l = true)
    (hany : AnyR P E Q l.toArray n (dropEnv (dsts pre) env) own R M F D 0 0 0 pre [] steps lv)
    (h : ∀ os', vdO own R os' → os'.length = M → JL P E l.toArray tail ⟨n, stepsO os' steps ++ dropEnv (dsts pre) env, curO own os', F, D⟩ Q) :
    J P E (.region id l.toArray true) ⟨n, env, own, F, D⟩ Q := fun a₀ w₀ ⟨A₀, hA₀⟩ => by
  obtain ⟨_, hlen, hlvl, _, hlq, hinj, hsur, hst⟩ := hany.get rfl
  simp only [List.length_nil, Nat.zero_add] at hlen hst
  have hsize : l.toArray.size = pre.length + tail.length := by simp [hl]
  have hpre : ∀ i o, i < pre.length → (l.toArray[i]? = some o ↔ pre[i]? = some o) := fun i o hi => by simp [hl, List.getElem?_append_left hi]
  let k := pre.length
  let Inv : Array Bool → Foot → Act → World → Prop := fun L A a w => ∃ os', vdO own R os' ∧ os'.length ≤ M ∧ SatA E A ⟨n, dropEnv (dsts pre) env, curO own os', F, D⟩ a w ∧
    (∀ i d x, steps[i]? = some (d, x) → L.getD i false = true → Rd w A (a.tmps.getD d undef) (valO os' x)) ∧
    (∀ i o, l.toArray[i]? = some o → L.getD i false = true → ∀ e ∈ o.after, Region.binds .any e = true → L.getD e.on false = true) ∧
    (∀ i, pre.length ≤ i → L.getD i false = false) ∧ (∀ i q : Nat, lv[i]? = some (some q) → (L.getD i false = true ↔ q < os'.length))
  have hdone : ∀ fuel L A a w, L.size = l.toArray.size → tail.length ≤ fuel → (∀ i, i < pre.length → L.getD i true = true) → Inv L A a w → wpAnyIn (fen E.rd) 0 P .any l.toArray (lift E Q) fuel L a w := by
    intro fuel L A a w hsz hf hall ⟨os', hvd, hmM, h1, h2, h3, h4, h5⟩
    obtain ⟨m, hmm⟩ : ∃ m, m = os'.length := ⟨_, rfl⟩
    rw [← hmm] at hmM h5
    have hall' : ∀ i, i < pre.length → L.getD i false = true := fun i hi => by rw [← getD_same (by omega)]; exact hall i hi
    have hm' : m = M := by
      apply Nat.le_antisymm hmM
      apply Nat.le_of_not_lt
      intro hlt
      obtain ⟨i, hi⟩ := hsur m (Nat.zero_le _) hlt
      have hil : i < pre.length := by have := (List.getElem?_eq_some_iff.1 hi).1; omega
      have := (h5 i m hi).1 (hall' i hil)
      omega
    rw [hm'] at hmm
    refine wp_tail (k := pre.length) (by simpa using ht) (by simpa using hbk) fuel pre.length L a w (Nat.le_refl _) (by omega) (by omega) hsz hall' h4 ?_
    have htl : l.toArray.toList.drop pre.length = tail := by simp [hl]
    rw [htl]
    refine h os' hvd hmm.symm a w ⟨A, h1.size, h1.defers, h1.keep, h1.hp, fun s x hl' => ?_, h1.facts⟩
    have hget : ∀ (l' : List (Nat × AV)) (env' : List (Nat × AV)), lk (l' ++ env') s = some x → (∃ i : Nat, l'[i]? = some (s, x)) ∨ lk env' s = some x := by
      intro l' env'
      induction l' with
      | nil => intro h; exact .inr h
      | cons p l' ih =>
        intro h
        obtain ⟨j, y⟩ := p
        rcases lk_cons h with ⟨rfl, rfl⟩ | ⟨_, h⟩
        · exact .inl ⟨0, rfl⟩
        · rcases ih h with ⟨i, hi⟩ | h
          · exact .inl ⟨i + 1, by simpa using hi⟩
          · exact .inr h
    rcases hget _ _ hl' with ⟨i, hi⟩ | hl'
    · simp only [stepsO, List.getElem?_map] at hi
      cases hsi : steps[i]? with
      | none => rw [hsi] at hi; cases hi
      | some p =>
        obtain ⟨s', z⟩ := p
        rw [hsi] at hi
        simp only [Option.map_some, Option.some.injEq, Prod.mk.injEq] at hi
        obtain ⟨rfl, rfl⟩ := hi
        exact h2 i s' z hsi (hall' i (by have := (List.getElem?_eq_some_iff.1 hsi).1; omega))
    · exact h1.env s x hl'
  have key : ∀ fuel L A a w, L.size = l.toArray.size → cnt pre.length (fun i => !L.getD i true) + tail.length ≤ fuel → Inv L A a w → wpAnyIn (fen E.rd) 0 P .any l.toArray (lift E Q) fuel L a w := by
    intro fuel
    induction fuel with
    | zero =>
      intro L A a w hsz hc hinv
      refine hdone 0 L A a w hsz (by omega) (fun i hi => ?_) hinv
      have h0 : cnt pre.length (fun i => !L.getD i true) = 0 := by omega
      have := List.countP_eq_zero.1 h0 i (by simpa using hi)
      simpa using this
    | succ fuel ih =>
      intro L A a w hsz hc hinv
      by_cases hall : ∀ i, i < pre.length → L.getD i true = true
      · exact hdone _ L A a w hsz (by omega) hall hinv
      have hinv' := hinv
      obtain ⟨os', hvd, hmM, h1, h2, h3, h4, h5⟩ := hinv
      refine ⟨fun hr => ?_, fun i hi => ?_⟩
      · exfalso
        apply hall
        intro i
        induction i using Nat.strongRecOn with
        | _ i ihi =>
          intro hlt
          cases hL : L.getD i true with
          | true => rfl
          | false =>
            exfalso
            obtain ⟨o, ho⟩ : ∃ o, l.toArray[i]? = some o := ⟨_, Array.getElem?_eq_getElem (by omega)⟩
            have : i ∈ Region.ready .any l.toArray L := ready_mem hsz ho hL fun e he hb => by
              have hon := backB_lt hbk (i := i) (o := o) (by simpa using ho) e he hb
              rw [← getD_same (by omega)]
              exact ihi e.on (by omega) (by omega)
            rw [hr] at this
            cases this
      · obtain ⟨hlt, o, ho, hunl, hdeps⟩ := mem_ready hi
        have hik : i < pre.length := by
          apply Nat.lt_of_not_le
          intro hge
          apply hall
          intro j hj
          rw [getD_same (by omega)]
          exact (tail_closed (k := pre.length) (by simpa using ht) (by simpa using hbk) h3 ho hdeps hge).1 j hj
        have ho' : pre[i]? = some o := (hpre i o hik).1 ho
        have hunl' : L.getD i false = false := by rw [← getD_same (by omega)]; exact hunl
        have hcnt : cnt pre.length (fun j => !(L.setIfInBounds i true).getD j true) + tail.length ≤ fuel := by
          have := cnt_set (fun i => !L.getD i true) (fun j => !(L.setIfInBounds i true).getD j true) i (fun j hj => by rw [getD_set _ _ _ (by omega), if_neg hj]) (by simp [hunl]) (by rw [getD_set _ _ _ (by omega), if_pos rfl]; rfl) pre.length
          rw [if_pos hik] at this
          omega
        have hclo : ∀ j o', l.toArray[j]? = some o' → (L.setIfInBounds i true).getD j false = true → ∀ e ∈ o'.after, Region.binds .any e = true → (L.setIfInBounds i true).getD e.on false = true := by
          intro j o' ho2 hLj e he hb
          rw [getD_set _ _ _ (by omega)] at hLj ⊢
          split
          · rfl
          · by_cases hji : j = i
            · subst hji; rw [ho] at ho2; cases ho2; exact hdeps e he hb
            · rw [if_neg hji] at hLj; exact h3 j o' ho2 hLj e he hb
        have h4' : ∀ j, pre.length ≤ j → (L.setIfInBounds i true).getD j false = false := fun j hj => by rw [getD_set _ _ _ (by omega), if_neg (by omega)]; exact h4 j hj
        have hsat : ∀ (env' : List (Nat × AV)), EnvOkR o (steps.take i) (dropEnv (dsts pre) env) env' → SatA E A ⟨n, env', curO own os', F, D⟩ a w := by
          intro env' he
          refine ⟨h1.size, h1.defers, h1.keep, h1.hp, fun s y hl => ?_, h1.facts⟩
          rcases he s y hl with ⟨j, hj, hp⟩ | h
          · obtain ⟨e, he, hb, hon⟩ := depsOk_get hj (List.mem_singleton.2 rfl)
            have hLj := hdeps e he hb
            rw [hon] at hLj
            refine h2 j s (.inl y) ?_ hLj
            rw [List.getElem?_take] at hp
            split at hp
            · exact hp
            · cases hp
          · exact h1.env s y h
        have hsatO : ∀ (env' : List (Nat × AV)), EnvOkO o (steps.take i) (dropEnv (dsts pre) env) env' os' → SatA E A ⟨n, env', curO own os', F, D⟩ a w := by
          intro env' he
          refine ⟨h1.size, h1.defers, h1.keep, h1.hp, fun s y hl => ?_, h1.facts⟩
          rcases he s y hl with ⟨j, z, hj, hp, hz⟩ | h
          · obtain ⟨e, he, hb, hon⟩ := depsOk_get hj (List.mem_singleton.2 rfl)
            have hLj := hdeps e he hb
            rw [hon] at hLj
            rw [hz]
            refine h2 j s z ?_ hLj
            rw [List.getElem?_take] at hp
            split at hp
            · exact hp
            · cases hp
          · exact h1.env s y h
        -- a slot of another operation
        have hother : ∀ j d' x', steps[j]? = some (d', x') → j ≠ i → ∀ d, o.dst = some d → d < n → d ≠ d' := by
          intro j d' x' hj hji d hd hdn hdd
          subst hdd
          have hjlt : j < pre.length := by have := (List.getElem?_eq_some_iff.1 hj).1; omega
          obtain ⟨oj, hoj⟩ : ∃ oj, pre[j]? = some oj := ⟨_, List.getElem?_eq_getElem hjlt⟩
          rcases hst j oj hoj with ⟨_, dj, xj, _, hsj, hdj, _⟩ | ⟨_, _, sj, _, hsj, hdj, _⟩
          · rw [hsj] at hj; cases hj
            exact hji (nodupB_ne hnd hoj ho' hdj hd)
          · rw [hsj] at hj
            have h7 := (Prod.mk.inj (Option.some.inj hj)).1
            rcases hdj with ⟨_, hdj, _⟩ | ⟨hdj, _⟩
            · exact absurd hdn (by rw [← h7, hdj]; exact Nat.not_lt.2 (Nat.le_add_right _ _))
            · rw [h7] at hdj
              exact hji (nodupB_ne hnd hoj ho' hdj hd)
        rcases hst i o ho' with ⟨hlv, d, x, env', hsx, hd, hdn, hds, hstep⟩ | ⟨q, env', sl, hlv, hsx, hd, hg, hds, hstep, hq0, hqp⟩
        · have hput : ∀ (v : Value) (w' : World) (A' : Foot), Frm w A w' A' → SatA E A' ⟨n, env', curO own os', F, D⟩ a w' → Rd w' A' v x →
              wpAnyIn (fen E.rd) 0 P .any l.toArray (lift E Q) fuel (L.setIfInBounds i true) (a.put o.dst v) w' := by
            intro v w' A' hf hs' hv
            refine ih _ A' _ w' (by simpa using hsz) hcnt ⟨os', hvd, hmM, ⟨?_, by rw [hd]; exact hs'.defers, hs'.keep, hs'.hp, fun s y hl => ?_, hs'.facts⟩, fun j d' x' hj hLj => ?_, hclo, h4', fun j q hjq => ?_⟩
            · have := hs'.size; simp only [Act.put, hd, Array.size_setIfInBounds]; exact this
            · rw [hd]
              have hne : d ≠ s := by
                intro hds'
                subst hds'
                have := (lk_filter (fun k => !((dsts pre).any (Nat.beq k))) env d y hl).2
                simp only [Bool.not_eq_true'] at this
                have hm := List.any_eq_false.1 this d (dsts_mem ho' hd)
                simp at hm
              rw [put_getD_ne hne]
              exact hf _ _ (h1.env s y hl)
            · rw [getD_set _ _ _ (by omega)] at hLj
              by_cases hji : j = i
              · subst hji
                rw [hsx] at hj; cases hj
                rw [hd, put_getD_same (by have := hs'.size; simp only at this; rw [this]; exact hdn)]
                exact hv
              · rw [if_neg hji] at hLj
                rw [hd, put_getD_ne (hother j d' x' hj hji d hd hdn)]
                exact hf _ _ (h2 j d' x' hj hLj)
            · rw [getD_set _ _ _ (by omega)]
              by_cases hji : j = i
              · subst hji; rw [hlv] at hjq; cases hjq
              · rw [if_neg hji]; exact h5 j q hjq
          have hs := hstep os' hvd hmM A a w (hsat env' hds) (wpAnyIn (fen E.rd) 0 P .any l.toArray (lift E Q) fuel (L.setIfInBounds i true)) (lift E Q) hput
          unfold wpOpIn
          simp only [ho]
          split
          · rename_i hw; rw [if_pos hw] at hs; exact hs
          · rename_i hw; rw [if_neg hw] at hs; exact ⟨fun _ _ => trivial, hs⟩
        · -- one that turns what is owned: it is its turn
          have hqM := (hlq i q hlv).2
          have hmq : os'.length = q := by
            have h6 : ¬ q < os'.length := fun h => by have := (h5 i q hlv).2 h; rw [hunl'] at this; cases this
            by_cases hq : 0 < q
            · obtain ⟨k', hk', hd'⟩ := hqp hq
              obtain ⟨e, he, hb, hon⟩ := depsOk_get hd' (List.mem_singleton.2 rfl)
              have := hdeps e he hb
              rw [hon] at this
              have := (h5 k' (q - 1) hk').1 this
              omega
            · omega
          have hs := hstep os' hvd hmq A a w (hsatO _ (hds os' hmq)) (wpAnyIn (fen E.rd) 0 P .any l.toArray (lift E Q) fuel (L.setIfInBounds i true)) (by
            intro v x own' w' A' hR hf hs' hv
            have hvd' : vdO own R ((x, own') :: os') := ⟨hR, hvd⟩
            have hold : ∀ z : AV ⊕ Nat, (∀ j, z = .inr j → j < os'.length) → valO ((x, own') :: os') z = valO os' z := fun z hz => by
              cases z with
              | inl z => rfl
              | inr j => exact nthO_cons (hz j rfl)
            have hsl : ∀ j d' x', steps[j]? = some (d', x') → L.getD j false = true → ∀ jj, x' = .inr jj → jj < os'.length := fun j d' x' hj hLj jj hx' => by
              subst hx'
              have hjlt : j < pre.length := by have := (List.getElem?_eq_some_iff.1 hj).1; omega
              obtain ⟨oj, hoj⟩ : ∃ oj, pre[j]? = some oj := ⟨_, List.getElem?_eq_getElem hjlt⟩
              rcases hst j oj hoj with ⟨_, dj, xj, _, hsj, _⟩ | ⟨qj, _, sj, hlvj, hsj, _⟩
              · rw [hsj] at hj; cases hj
              · rw [hsj] at hj; cases hj
                exact (h5 j _ hlvj).1 hLj
            have hputslot : ∀ d', (∀ d, o.dst = some d → d < n → d ≠ d') → (a.put o.dst v).tmps.getD d' undef = a.tmps.getD d' undef := fun d' hne => by
              rcases hd with ⟨hd, _⟩ | ⟨hd, hdn⟩
              · rw [hd]; rfl
              · rw [hd]; exact put_getD_ne (hne _ hd hdn)
            refine ih _ A' _ w' (by simpa using hsz) hcnt ⟨(x, own') :: os', hvd', by simp only [List.length_cons]; omega, ⟨?_, by
                have := hs'.defers
                rcases hd with ⟨hd, _⟩ | ⟨hd, _⟩ <;> (rw [hd]; exact this), hs'.keep, hs'.hp, fun s y hl => ?_, hs'.facts⟩, fun j d' x' hj hLj => ?_, hclo, h4', fun j q' hjq => ?_⟩
            · have := hs'.size
              rcases hd with ⟨hd, _⟩ | ⟨hd, _⟩
              · rw [hd]; exact this
              · simp only [Act.put, hd, Array.size_setIfInBounds]; exact this
            · rw [hputslot s (fun d hd' hdn hds' => by
                subst hds'
                have := (lk_filter (fun k => !((dsts pre).any (Nat.beq k))) env d y hl).2
                simp only [Bool.not_eq_true'] at this
                have hm := List.any_eq_false.1 this d (dsts_mem ho' hd')
                simp at hm)]
              exact hf _ _ (h1.env s y hl)
            · rw [getD_set _ _ _ (by omega)] at hLj
              by_cases hji : j = i
              · subst hji
                rw [hsx] at hj; cases hj
                show Rd w' A' _ (nthO ((x, own') :: os') q)
                rw [← hmq, nthO_last]
                rcases hd with ⟨hd, hsl', hru⟩ | ⟨hd, hdn⟩
                · have hu : (a.put o.dst v).tmps.getD sl undef = undef := by
                    have := h1.size
                    simp only at this
                    rw [hd, hsl']
                    simp [Act.put, Array.getD_eq_getD_getElem?, Array.getElem?_eq_none, this]
                  rw [hu, hru _ _ _ _ hR hmq]
                  exact .c _
                · rw [hd, put_getD_same (by have := hs'.size; simp only at this; rw [this]; exact hdn)]
                  exact hv
              · rw [if_neg hji] at hLj
                rw [hputslot d' (fun d hd' hdn => hother j d' x' hj hji d hd' hdn), hold x' (hsl j d' x' hj hLj)]
                exact hf _ _ (h2 j d' x' hj hLj)
            · rw [getD_set _ _ _ (by omega)]
              by_cases hji : j = i
              · subst hji; rw [hlv] at hjq; cases hjq; simp [hmq]
              · rw [if_neg hji, h5 j q' hjq]
                have : q' ≠ q := fun he => hji (hinj j i q (he ▸ hjq) hlv)
                simp only [List.length_cons]; omega)
          unfold wpOpIn
          simp only [ho]
          rw [if_pos (by simp [Region.wanted, hg])]
          exact hs
  refine wpIn_region_any hm (key l.toArray.size _ A₀ a₀ _ (by simp) ?_ ⟨[], trivial, Nat.zero_le _, ⟨hA₀.size, hA₀.defers, hA₀.draw.keep, hA₀.hp.draw, fun s y hl => ?_, fun p hp => ?_⟩, fun i d x hi hL => ?_, fun i o ho hL => ?_, fun i _ => ?_, fun i q hq => ?_⟩)
  · have : cnt pre.length (fun i => !(Array.replicate l.toArray.size false).getD i true) ≤ pre.length := Nat.le_trans List.countP_le_length (by simp)
    omega
  · exact (hA₀.draw.env s y (lk_filter (fun k => !((dsts pre).any (Nat.beq k))) env s y hl).1)
  · exact hA₀.draw.facts p hp
  · simp only [Array.getD_eq_getD_getElem?, Array.getElem?_replicate] at hL; split at hL <;> simp at hL
  · simp only [Array.getD_eq_getD_getElem?, Array.getElem?_replicate] at hL; split at hL <;> simp at hL
  · simp only [Array.getD_eq_getD_getElem?, Array.getElem?_replicate]; split <;> simp
  · simp only [Array.getD_eq_getD_getElem?, Array.getElem?_replicate]; split <;> simp
end
end Go.Proofs.Ytkiankpmkglhcaa.J

/- Regions that draw their order with calls among their operations, in the form in which the walks use them. -/
namespace Go.Proofs.Ytkiankpmkglhcaa.J
open Go Go.RowKit
set_option linter.unusedVariables false
set_option linter.unusedSimpArgs false

section
variable {P : Program} {E : Ent} {Q : Exit → St → Prop} {n : Nat} {env : List (Nat × AV)} {own : List Own} {R : Outs → List Own → AV → List Own → Prop} {M : Nat} {F : List (Value × AV)} {D : List Deferred} {ops : Array Oper}

def selR (sl : List Nat) : List Slot → List (Nat × AV)
  | [] => []
  | (s, .inl x) :: don => match sl.any (Nat.beq s) with | true => (s, x) :: selR sl don | false => selR sl don
  | (_, .inr _) :: don => selR sl don
def chkR (o : Oper) (sl : List Nat) : List Slot → Nat → Bool
  | [], _ => true
  | (s, .inl _) :: don, i => match sl.any (Nat.beq s) with | true => depsOk o [i - 1] && chkR o sl don (i - 1) | false => chkR o sl don (i - 1)
  | (_, .inr _) :: don, i => chkR o sl don (i - 1)

theorem selR_get {o : Oper} {sl : List Nat} {env : List (Nat × AV)} : ∀ {don : List Slot} {i : Nat}, i = don.length → chkR o sl don i = true → EnvOkR o don.reverse env (selR sl don ++ env)
  | [], i, _, _ => fun s x h => .inr (by simpa [selR] using h)
  | (s0, .inr q) :: don, i, hi, h => fun s x hl => by
    have hi' : i - 1 = don.length := by simp at hi; omega
    rcases selR_get (don := don) (i := i - 1) hi' h s x hl with ⟨j, h1, h2⟩ | h
    · exact .inl ⟨j, h1, by rw [List.reverse_cons, List.getElem?_append_left (List.getElem?_eq_some_iff.1 h2).1]; exact h2⟩
    · exact .inr h
  | (s0, .inl x0) :: don, i, hi, h => fun s x hl => by
    have hi' : i - 1 = don.length := by simp at hi; omega
    have hrec : chkR o sl don (i - 1) = true → lk (selR sl don ++ env) s = some x → (∃ j, depsOk o [j] = true ∧ ((s0, Sum.inl x0) :: don).reverse[j]? = some (s, Sum.inl x)) ∨ lk env s = some x := fun hc hl => by
      rcases selR_get (don := don) (i := i - 1) hi' hc s x hl with ⟨j, h1, h2⟩ | h
      · exact .inl ⟨j, h1, by rw [List.reverse_cons, List.getElem?_append_left (List.getElem?_eq_some_iff.1 h2).1]; exact h2⟩
      · exact .inr h
    unfold selR at hl
    unfold chkR at h
    split at hl
    · rename_i hb
      rw [hb] at h
      simp only [Bool.and_eq_true] at h
      rcases lk_cons hl with ⟨rfl, rfl⟩ | ⟨_, hl⟩
      · exact .inl ⟨i - 1, h.1, by rw [hi', List.reverse_cons, List.getElem?_append_right (by simp)]; simp⟩
      · exact hrec h.2 hl
    · rename_i hb
      rw [hb] at h
      exact hrec h hl

/-- The same with what the loud ones have come to. -/
def selO (sl : List Nat) (os : Outs) : List Slot → List (Nat × AV)
  | [] => []
  | (s, z) :: don => match sl.any (Nat.beq s) with | true => (s, valO os z) :: selO sl os don | false => selO sl os don
def chkO (o : Oper) (sl : List Nat) : List Slot → Nat → Bool
  | [], _ => true
  | (s, _) :: don, i => match sl.any (Nat.beq s) with | true => depsOk o [i - 1] && chkO o sl don (i - 1) | false => chkO o sl don (i - 1)
theorem selO_get {o : Oper} {sl : List Nat} {env : List (Nat × AV)} {os : Outs} : ∀ {don : List Slot} {i : Nat}, i = don.length → chkO o sl don i = true → EnvOkO o don.reverse env (selO sl os don ++ env) os
  | [], i, _, _ => fun s x h => .inr (by simpa [selO] using h)
  | (s0, z0) :: don, i, hi, h => fun s x hl => by
    have hi' : i - 1 = don.length := by simp at hi; omega
    have hrec : chkO o sl don (i - 1) = true → lk (selO sl os don ++ env) s = some x → (∃ j z, depsOk o [j] = true ∧ ((s0, z0) :: don).reverse[j]? = some (s, z) ∧ x = valO os z) ∨ lk env s = some x := fun hc hl => by
      rcases selO_get (don := don) (i := i - 1) hi' hc s x hl with ⟨j, z, h1, h2, h3⟩ | h
      · exact .inl ⟨j, z, h1, by rw [List.reverse_cons, List.getElem?_append_left (List.getElem?_eq_some_iff.1 h2).1]; exact h2, h3⟩
      · exact .inr h
    unfold selO at hl
    unfold chkO at h
    split at hl
    · rename_i hb
      rw [hb] at h
      simp only [Bool.and_eq_true] at h
      rcases lk_cons hl with ⟨rfl, rfl⟩ | ⟨_, hl⟩
      · exact .inl ⟨i - 1, z0, h.1, by rw [hi', List.reverse_cons, List.getElem?_append_right (by simp)]; simp, rfl⟩
      · exact hrec h.2 hl
    · rename_i hb
      rw [hb] at h
      exact hrec h hl

def OutK (P : Program) (E : Ent) (Q : Exit → St → Prop) (ops : Array Oper) (n : Nat) (env : List (Nat × AV)) (own : List Own) (R : Outs → List Own → AV → List Own → Prop) (M : Nat) (F : List (Value × AV)) (D : List Deferred) (i j p : Nat) (os : List Oper) (don : List Slot) (K : List Slot → Prop) : Prop :=
  i = don.length → ∃ all lv, AnyR P E Q ops n env own R M F D i j p os don.reverse all lv ∧ K all.reverse
variable {i j p : Nat} {K : List Slot → Prop}
theorem OutK.nil {don : List Slot} (h : K don) : OutK P E Q ops n env own R M F D i M p [] don K := fun _ => ⟨don.reverse, _, .nil i p don.reverse, by rw [List.reverse_reverse]; exact h⟩
theorem OutK.quiet {o : Oper} {os : List Oper} {don : List Slot} {d : Nat} {x : AV} (sl : List Nat) (hd : o.dst = some d) (hn : Nat.blt d n = true) (hc : chkR o sl don i = true)
    (hs : ∀ os', vdO own R os' → os'.length ≤ M → Step P E ops ⟨n, selR sl don ++ env, curO own os', F, D⟩ o x) (h : OutK P E Q ops n env own R M F D (i + 1) j p os ((d, .inl x) :: don) K) : OutK P E Q ops n env own R M F D i j p (o :: os) don K := fun hi => by
  obtain ⟨all, lv, h1, h2⟩ := h (by simp [hi])
  rw [List.reverse_cons] at h1
  exact ⟨all, _, .quiet hd hn (selR_get hi hc) hs h1, h2⟩
theorem OutK.loud {o : Oper} {os : List Oper} {don : List Slot} {d : Nat} (sl : List Nat) (hd : o.dst = some d) (hn : Nat.blt d n = true) (hg : o.guard = none) (hc : chkO o sl don i = true) (hp : (Nat.beq j 0 || depsOk o [p]) = true)
    (hs : ∀ os', vdO own R os' → os'.length = j → LStepR P E Q ⟨n, selO sl os' don ++ env, curO own os', F, D⟩ (R os') o) (h : OutK P E Q ops n env own R M F D (i + 1) (j + 1) i os ((d, .inr j) :: don) K) : OutK P E Q ops n env own R M F D i j p (o :: os) don K := fun hi => by
  obtain ⟨all, lv, h1, h2⟩ := h (by simp [hi])
  rw [List.reverse_cons] at h1
  exact ⟨all, _, .loud (.inr ⟨hd, blt_lt hn⟩) hg (fun os' _ => selO_get (os := os') hi hc) hp hs h1, h2⟩
theorem OutK.store {o : Oper} {os : List Oper} {don : List Slot} (sl : List Nat) (hd : o.dst = none) (hu : ∀ os ow x o', R os ow x o' → os.length = j → x = .c undef) (hg : o.guard = none) (hc : chkO o sl don i = true) (hp : (Nat.beq j 0 || depsOk o [p]) = true)
    (hs : ∀ os', vdO own R os' → os'.length = j → LStepR P E Q ⟨n, selO sl os' don ++ env, curO own os', F, D⟩ (R os') o) (h : OutK P E Q ops n env own R M F D (i + 1) (j + 1) i os ((n + i, .inr j) :: don) K) : OutK P E Q ops n env own R M F D i j p (o :: os) don K := fun hi => by
  obtain ⟨all, lv, h1, h2⟩ := h (by simp [hi])
  rw [List.reverse_cons] at h1
  exact ⟨all, _, .loud (.inl ⟨hd, rfl, hu⟩) hg (fun os' _ => selO_get (os := os') hi hc) hp hs h1, h2⟩

theorem J.region_outK {id : Nat} {l : List Oper} (k M : Nat) (R : Outs → List Own → AV → List Own → Prop) (hm : P.follows .mixedOrders = true) (hnd : nodupB (dsts (l.take k)) = true) (hbk : backB 0 l = true) (ht : tailOk k l = true) (hk : Nat.ble k l.length = true)
    (h : OutK P E Q l.toArray n (dropEnv (dsts (l.take k)) env) own R M F D 0 0 0 (l.take k) [] fun steps => ∀ os', vdO own R os' → os'.length = M → JL P E l.toArray (l.drop k) ⟨n, stepsO os' steps ++ dropEnv (dsts (l.take k)) env, curO own os', F, D⟩ Q) :
    J P E (.region id l.toArray true) ⟨n, env, own, F, D⟩ Q := by
  obtain ⟨steps, lv, h1, h2⟩ := h rfl
  have hlen : (l.take k).length = k := by have := Nat.le_of_ble_eq_true hk; simp; omega
  obtain ⟨_, hl1, _, _, _, _, _, hst⟩ := h1.get rfl
  simp only [List.reverse_nil, List.length_nil, Nat.zero_add] at hst hl1
  have hslot : ∀ (a b : Nat) (x y : AV ⊕ Nat) (s : Nat), steps[a]? = some (s, x) → steps[b]? = some (s, y) → a = b := by
    intro a b x y s ha hb
    have ha' : a < (l.take k).length := by have := (List.getElem?_eq_some_iff.1 ha).1; omega
    have hb' : b < (l.take k).length := by have := (List.getElem?_eq_some_iff.1 hb).1; omega
    have hA : ∀ a x, a < (l.take k).length → steps[a]? = some (s, x) → (∃ o, (l.take k)[a]? = some o ∧ o.dst = some s ∧ s < n) ∨ s = n + a := fun a x ha' ha => by
      rcases hst a _ (List.getElem?_eq_getElem ha') with ⟨_, d, x', _, h3, h4, h5, _⟩ | ⟨_, _, s', _, h3, h4, _⟩
      · rw [h3] at ha; cases ha
        exact .inl ⟨_, List.getElem?_eq_getElem ha', h4, h5⟩
      · rw [h3] at ha; cases ha
        rcases h4 with ⟨_, h4, _⟩ | ⟨h4, h5⟩
        · exact .inr h4
        · exact .inl ⟨_, List.getElem?_eq_getElem ha', h4, h5⟩
    rcases hA a x ha' ha with ⟨o, g1, g2, g3⟩ | g1 <;> rcases hA b y hb' hb with ⟨o', k1, k2, k3⟩ | k1
    · exact nodupB_ne hnd g1 k1 g2 k2
    · omega
    · omega
    · omega
  refine J.region_out hm (List.take_append_drop k l).symm hnd hbk (by rw [hlen]; exact ht) h1 fun os' hv hl a w ⟨A, hA⟩ => h2 os' hv hl a w ⟨A, hA.size, hA.defers, hA.keep, hA.hp, fun s x hl => hA.env s x ?_, hA.facts⟩
  rw [lk_append] at hl ⊢
  have hmem : ∀ (ll : List Slot) (s : Nat) (x : AV), (s, x) ∈ stepsO os' ll ↔ ∃ z, (s, z) ∈ ll ∧ valO os' z = x := fun ll s x => by
    simp only [stepsO, List.mem_map, Prod.mk.injEq, Prod.exists]
    constructor
    · rintro ⟨s', z, h, rfl, h'⟩; exact ⟨z, h, h'⟩
    · rintro ⟨z, h, h'⟩; exact ⟨s, z, h, rfl, h'⟩
  rcases hl with hl | ⟨hl1', hl2⟩
  · left
    obtain ⟨z, hz1, hz2⟩ := (hmem _ _ _).1 (lk_mem _ _ _ hl)
    have h3 : (s, z) ∈ steps := by simpa using hz1
    cases h4 : lk (stepsO os' steps) s with
    | none => exact absurd ((hmem _ _ _).2 ⟨z, h3, hz2⟩) (lk_none _ _ h4 x)
    | some y =>
      obtain ⟨z', h5, h6⟩ := (hmem _ _ _).1 (lk_mem _ _ _ h4)
      obtain ⟨a, ha⟩ := List.getElem?_of_mem h3
      obtain ⟨b, hb⟩ := List.getElem?_of_mem h5
      have := hslot a b z z' s ha hb
      subst this
      rw [ha] at hb; cases hb
      rw [← h6, hz2]
  · right
    refine ⟨?_, hl2⟩
    cases h4 : lk (stepsO os' steps) s with
    | none => rfl
    | some y =>
      obtain ⟨z', h5, h6⟩ := (hmem _ _ _).1 (lk_mem _ _ _ h4)
      exact absurd ((hmem _ _ _).2 ⟨z', by simpa using h5, h6⟩) (lk_none _ _ hl1' y)

variable {ty : TypeId} {pos : String} {af : Array Edge}
/-- A call, as such an operation. -/
theorem LStepR.callG (ms : List Cd) {d : Nat} {f : FuncId} {fo : Operand} {fi ca : List Value} {l : List Operand} {tys : Array TypeId} {xs zs : List AV} {R : Res → List Own → Prop} {G : List (Value × AV)} (hf : goFn P f = true)
    (hfo : Ev E ⟨n, env, own, F, D⟩ fo (.c (.func (.func f) fi.toArray ca.toArray))) (hG : Lent G (selL ms own)) (hargs : ∀ E', EvL E' ⟨n, env, selP ms own ++ selK ms own, G ++ F, D⟩ l xs) (hzs : fi.map AV.c ++ xs ++ ca.map AV.c = zs) (hAC : AC P f (selP ms own) zs R)
    (hfr : selL ms own = [] ∨ ∀ r o, R r o → FreshR r ∧ ∀ x ∈ o, OwnFl (· = true) x)
    (hpan : ∀ v own', R (.pan v) own' → Q (.panic [{ v, recovered := false }]) ⟨n, env, mrg ms own' own, F, D⟩) :
    LStepR P E Q ⟨n, env, own, F, D⟩ (fun ow x o' => ∃ o2, R (.ret x) o2 ∧ o' = mrg ms o2 ow) ⟨some d, .call ⟨.value fo, l.toArray, tys⟩, ty, pos, af, none⟩ := fun A a w hA K hK => by
  refine wpR (by intro c h; cases h) ?_
  unfold Oper.wp
  rw [run_call hf (hfo.eq hA), Oper.upon_enter]
  subst hzs
  refine SatA.callG ms hG hfr hA hargs hAC fun r own' A' w' hR hfm hsat e hr => ?_
  cases r with
  | ret x =>
    obtain ⟨v, rfl, hv⟩ := hr
    exact hK v x _ w' A' ⟨own', hR, rfl⟩ hfm hsat hv
  | pan v =>
    obtain rfl := hr
    exact ⟨_, hpan v own' hR, A', hsat⟩
theorem LStepR.callF (ms : List Cd) {d : Nat} {f : FuncId} {l : List Operand} {tys : Array TypeId} {xs : List AV} {R : Res → List Own → Prop} {G : List (Value × AV)} (hf : goFn P f = true)
    (hG : Lent G (selL ms own)) (hargs : ∀ E', EvL E' ⟨n, env, selP ms own ++ selK ms own, G ++ F, D⟩ l xs) (hAC : AC P f (selP ms own) xs R)
    (hfr : selL ms own = [] ∨ ∀ r o, R r o → FreshR r ∧ ∀ x ∈ o, OwnFl (· = true) x)
    (hpan : ∀ v own', R (.pan v) own' → Q (.panic [{ v, recovered := false }]) ⟨n, env, mrg ms own' own, F, D⟩) :
    LStepR P E Q ⟨n, env, own, F, D⟩ (fun ow x o' => ∃ o2, R (.ret x) o2 ∧ o' = mrg ms o2 ow) ⟨some d, .call ⟨.value (.func f), l.toArray, tys⟩, ty, pos, af, none⟩ :=
  LStepR.callG (fi := []) (ca := []) ms hf .func hG hargs (by simp) hAC hfr hpan
/-- A quiet operation, as a loud one. -/
theorem LStepR.ofQ {st : St} {o : Oper} {x : AV} {R : List Own → AV → List Own → Prop} (hq : QW P E st o x) (hR : R st.own x st.own) : LStepR P E Q st R o := fun A a w hA K hK =>
  hq A a w hA K (lift E Q) fun v w' A' hf hs hv => hK v x st.own w' A' hR hf hs hv
end
end Go.Proofs.Ytkiankpmkglhcaa.J

/- Appends as operations of regions that draw their order; comparisons with nil; literals without items. -/
namespace Go.Proofs.Ytkiankpmkglhcaa.J
open Go Go.RowKit
set_option linter.unusedVariables false
set_option linter.unusedSimpArgs false

section
variable {P : Program} {E : Ent} {Q : Exit → St → Prop} {n : Nat} {env : List (Nat × AV)} {own : List Own} {F : List (Value × AV)} {D : List Deferred} {ops : Array Oper} {rest : List Oper}
variable {A : Foot} {a : Act} {w w' : World} {t tx et ty s0 : TypeId} {pos : String} {af : Array Edge} {d : Nat} {s x y : Operand}

/-- An append onto an own array. -/
theorem LStepR.append (i : Nat) {v : Value} {e : ETy} {xs ys : List (List AV)} (hU : P.underlying t = some (.slice et)) (hE : elemB P et e = true) (hb0 : Nat.blt 0 e.bytes = true) (hsv : Ev E ⟨n, env, own, F, D⟩ s (.c v))
    (ho : own[i]? = some (.arr v e xs)) (hx : ∀ A a w, SatA E A ⟨n, env, own, F, D⟩ a w → SrcA P w A tx (a.eval x) e ys) (hreach : (xs.length + ys.length) * e.bytes ≤ reach) :
    LStepR P E Q ⟨n, env, own, F, D⟩ (fun ow x o' => ∃ v', x = .c v' ∧ o' = ow.set i (.arr v' e (xs ++ ys))) ⟨some d, .call ⟨.builtin .append, #[s, x], #[t, tx]⟩, ty, pos, af, none⟩ := fun A a w hA K hK => by
  refine wpR (by intro c h; cases h) ?_
  unfold Oper.wp
  obtain ⟨ti, tz, hi, hsz, hby, hz, hzs, hz1⟩ := elemB_get hE
  obtain ⟨news, hsrc, hnc, hyl⟩ := hx A a w hA
  rw [← hsz] at hsrc
  have hb1 : 1 ≤ e.bytes := blt_lt hb0
  have hneed : xs.length + ys.length ≤ reach := Nat.le_trans (Nat.le_mul_of_pos_right _ hb1) hreach
  unfold reach at hneed hreach
  have hnl : news.length = ys.flatten.length := by rw [hsrc.newsLen, hsz, flatten_length ys hyl]
  have h63 : ((xs.length + ys.length : Nat) : Int) ≤ 9223372036854775807 := by omega
  have hfit : ∀ sCap, sCap < xs.length + ys.length → Builtin.nextslicecap (xs.length + ys.length) sCap * ti.bytes ≤ 281474976710656 := fun sCap hlt => growslice_fits hlt (by rw [hby]; omega)
  have hgw : ∀ fr b, A fr b → b < w.heap.size → ∀ o, (World.pushed (World.drawnBy w) o).heap[b]? = w.heap[b]? := fun fr b _ hlt o => (Keep.push [] (World.drawnBy w) o).block b hlt (by simp)
  -- a new row
  have grow : ∀ (base : Option Addr) (sCap : Nat) (olds : List Value), v = .slice base xs.length sCap → (Builtin.firstCells ti.size xs.length (.slice base xs.length sCap)).run P w.drew = .ok olds.toArray w.drew →
      olds.length = xs.flatten.length → (∀ x ∈ xs, x.length = e.sz) → Cells w A olds.toArray 0 xs.flatten → sCap < xs.length + ys.length →
      Oper.wp P ⟨some d, .call ⟨.builtin .append, #[s, x], #[t, tx]⟩, ty, pos, af, none⟩ a w K (lift E Q) := by
    intro base sCap olds hv hold hol hxl hoc hlt
    have hr := run_append_grow_src (P := P) w t tx ty et ti tz hU hi hz base xs.length sCap olds hold (a.eval x) ys.length news hsrc hlt h63 (hfit _ hlt)
    have hge := grownCap_ge w (xs.length + ys.length) sCap et
    unfold Oper.wp
    rw [run_builtin_append (hsv.eq hA) rfl (by rw [hv]; exact hr), Oper.upon_value, alloc_eq]
    have hfrm0 : ∀ o, Frm w A (World.pushed (World.drawnBy w) o) A := fun o u y hr => hr.move (fun _ _ h _ => h) fun fr b hb hlt => hgw fr b hb hlt o
    refine hK _ (.c _) _ _ A ⟨_, rfl, rfl⟩ (hfrm0 _) ?_ (.c _)
    have hd' := hA.draw
    obtain ⟨cap, hcap⟩ : ∃ cap, grownCap w (xs.length + ys.length) sCap et = cap + 1 := ⟨grownCap w (xs.length + ys.length) sCap et - 1, by omega⟩
    have hxy : (xs ++ ys).length = xs.length + ys.length := by simp
    refine hd'.step (.push _ _ _) (fun _ _ h => h) (hd'.hp.moved hd'.keep.size ho (o' := .arr _ e (xs ++ ys)) ?_ (.inr ⟨w.heap.size, cap, _, et, by rw [hxy, hcap], heap_pushed _ _, by omega, ?_, ?_, ?_⟩))
    · rw [hcap]; rfl
    · refine RowOf.grown ?_ (hoc.ones hol) hsrc.one hz1
      have hol' := flatten_length xs hxl
      have hyl' := flatten_length ys hyl
      simp only [Array.size_append, List.size_toArray, List.length_append, size_zeroCells, hzs, hol, hnl, hol', hyl', hcap]
      rw [← Nat.add_mul, ← Nat.add_mul]
      congr 1; omega
    · intro z hz'
      rcases List.mem_append.1 hz' with hz' | hz'
      · exact hxl z hz'
      · exact hyl z hz'
    · rw [List.flatten_append]
      intro k y hk
      rw [Nat.zero_add]
      by_cases hk1 : k < xs.flatten.length
      · rw [List.getElem?_append_left hk1] at hk
        obtain ⟨u, h1, h0, h2⟩ := hoc k y hk
        refine ⟨u, ?_, h0, h2.move (fun _ _ h _ => h) fun fr b hb hlt => hgw fr b hb hlt _⟩
        rw [Nat.zero_add] at h1
        rw [Array.getElem?_append_left (by simp; omega)]
        simp only [List.getElem?_toArray] at h1 ⊢
        rw [List.getElem?_append_left (by omega)]; exact h1
      · rw [List.getElem?_append_right (by omega)] at hk
        have hk2 := (List.getElem?_eq_some_iff.1 hk).1
        obtain ⟨u, h1, h0, h2⟩ := hnc _ y hk
        refine ⟨u, ?_, h0, h2.move (fun _ _ h _ => h) fun fr b hb hlt => hgw fr b hb hlt _⟩
        rw [Nat.zero_add] at h1
        rw [Array.getElem?_append_left (by simp; omega)]
        simp only [List.getElem?_toArray] at h1 ⊢
        rw [List.getElem?_append_right (by omega), hol]; exact h1
  rcases hA.arr i ho with ⟨a0, hv, hxs⟩ | ⟨b, cap, us, t', hv, hb, hle, hus, hxl, hc⟩
  · subst hxs
    by_cases hys : ys = []
    · subst hys
      have hn0 : news = [] := List.eq_nil_of_length_eq_zero (by simpa using hnl)
      subst hn0
      have hc0 : (Builtin.firstCells ti.size 0 (a.eval x)).run P w = .ok #[] w := by simpa using hsrc.cells
      have hr : (Builtin.append_ #[t, tx] ty #[v, a.eval x]).run P w = .ok v w := by
        rcases hsrc.kind with ⟨e', hk⟩ | hk <;> cases a0 <;> simp [hv, Builtin.append_, run_underlying _ hU, run_underlying _ hk, sizeOf, typeInfo, hi, hsrc.len, hc0, storeCells]
      rw [run_builtin_append (hsv.eq hA) rfl hr, Oper.upon_value]
      refine hK v (.c v) _ w A ⟨v, rfl, rfl⟩ (.refl _ _) ?_ (.c _)
      have : own.set i (.arr v e ([] ++ [])) = own := by
        have hlt := (List.getElem?_eq_some_iff.1 ho)
        apply List.ext_getElem?
        intro k
        rw [List.getElem?_set]
        split
        · rename_i hik; subst hik; rw [if_pos hlt.1, ho]; rfl
        · rfl
      rw [this]; exact hA
    · have : 0 < ys.length := List.length_pos_iff.2 hys
      refine grow a0 0 [] hv ?_ (by simp) (fun x hx => by cases hx) (fun k y hk => by simp at hk) (by simp; omega)
      cases a0 with
      | none => exact run_firstCells_none w.drew ti.size 0 0 0
      | some a' => exact run_firstCells_some w.drew ti.size 0 a' 0 0 [] (by simp) (by intro _ _ h'; simp at h')
  · have hfl := flatten_length xs hxl
    by_cases hroom : xs.length + ys.length ≤ cap + 1
    · -- in place
      have hml : xs.length * e.sz + news.length ≤ us.size := by rw [hsrc.newsLen, hsz, hus.size, ← Nat.add_mul]; exact Nat.mul_le_mul_right _ hroom
      obtain ⟨w1, us1, hr1, hk1, hz1, hb1, hs1, hu1⟩ := run_storeCells (P := P) (off := xs.length * e.sz) news 0 us w hb (by simpa using hml) (List.all_eq_true.2 hsrc.one)
      have hr : (Builtin.append_ #[t, tx] ty #[v, a.eval x]).run P w = .ok (.slice (some ⟨b, 0, none⟩) (xs.length + ys.length) (cap + 1)) w1 := by
        rw [← hsz] at hr1
        rcases hsrc.kind with ⟨e', hk⟩ | hk <;> simp [hv, Builtin.append_, run_underlying _ hU, run_underlying _ hk, sizeOf, typeInfo, hi, hsrc.len, hroom, hsrc.cells, add_at, hr1]
      rw [run_builtin_append (hsv.eq hA) rfl hr, Oper.upon_value]
      have hmem := List.mem_of_getElem? ho
      have hof : (Own.arr v e xs).fp = [b] := by rw [hv]; rfl
      have hfp : ∀ fr c, A fr c → c < w.heap.size → w1.heap[c]? = w.heap[c]? := fun fr c hc hlt => hk1.block c hlt fun hm' => by
        exact (hA.hp.fp c (fps_mem hmem (by rw [hof]; exact hm'))).2.2 fr hc
      refine hK _ (.c _) _ w1 A ⟨_, rfl, rfl⟩ (fun u y hr => hr.move (fun _ _ h _ => h) hfp) ?_ (.c _)
      refine hA.step (hk1.mono fun c hc => fps_mem hmem (by rw [hof]; exact hc)) (fun _ _ h => h) (hA.hp.upd (o' := .arr (.slice (some ⟨b, 0, none⟩) (xs.length + ys.length) (cap + 1)) e (xs ++ ys)) ho (by rw [hof]; rfl) (by rw [hof]; exact hk1) hz1
        (.inr ⟨b, cap, us1, t', by simp, hb1, by simpa using hroom, ⟨by rw [hs1, hus.size], fun k u hk => by
          rw [hu1 k] at hk
          split at hk
          · exact hsrc.one u (List.mem_of_getElem? hk)
          · exact hus.one k u hk⟩, fun z hz' => ?_, ?_⟩))
      · rcases List.mem_append.1 hz' with hz' | hz'
        · exact hxl z hz'
        · exact hyl z hz'
      · rw [List.flatten_append]
        intro k y hk
        rw [Nat.zero_add, hu1 k]
        by_cases hk1' : k < xs.flatten.length
        · rw [List.getElem?_append_left hk1'] at hk
          obtain ⟨u, h1, h0, h2⟩ := hc k y hk
          rw [Nat.zero_add] at h1
          exact ⟨u, by rw [if_neg (by omega)]; exact h1, h0, h2.move (fun _ _ h _ => h) hfp⟩
        · rw [List.getElem?_append_right (by omega)] at hk
          have hk2 := (List.getElem?_eq_some_iff.1 hk).1
          obtain ⟨u, h1, h0, h2⟩ := hnc _ y hk
          rw [Nat.zero_add, List.getElem?_toArray] at h1
          refine ⟨u, ?_, h0, h2.move (fun _ _ h _ => h) hfp⟩
          rw [if_pos (by omega), ← h1, hfl, Nat.add_zero]
    · have hcu : ∀ k, k < xs.flatten.length → us[k]? = some (us.getD k undef) := fun k hk => by
        obtain ⟨u, h1, _, _⟩ := hc k _ (List.getElem?_eq_getElem hk)
        rw [Nat.zero_add] at h1
        simp [Array.getD_eq_getD_getElem?, h1]
      have hget : ∀ k u, ((List.range (xs.length * e.sz)).map fun k => us.getD k undef)[k]? = some u → k < xs.length * e.sz ∧ u = us.getD k undef := fun k u hk => by
        rw [List.getElem?_map] at hk
        by_cases hlt : k < xs.length * e.sz
        · rw [List.getElem?_range hlt] at hk; cases hk; exact ⟨hlt, rfl⟩
        · rw [List.getElem?_eq_none (by simpa using hlt)] at hk; cases hk
      refine grow (some ⟨b, 0, none⟩) (cap + 1) ((List.range (xs.length * e.sz)).map fun k => us.getD k undef) hv ?_ (by rw [hfl]; simp) hxl (fun k y hk => ?_) (by omega)
      · refine run_firstCells_some w.drew ti.size xs.length ⟨b, 0, none⟩ xs.length (cap + 1) _ (by rw [hsz]; simp) fun j u hj => ?_
        obtain ⟨h1, rfl⟩ := hget j u hj
        have : w.drew.heap[b]? = some (.cells us t' (0, 0)) := hb
        rw [add_at, cell_at this, Nat.zero_add]
        exact hcu j (by omega)
      · obtain ⟨u, h1, h0, h2⟩ := hc k y hk
        have hlt : k < xs.length * e.sz := by rw [← hfl]; exact (List.getElem?_eq_some_iff.1 hk).1
        rw [Nat.zero_add] at h1 ⊢
        exact ⟨u, by simp [hlt, Array.getD_eq_getD_getElem?, h1], h0, h2⟩

/-- s == nil, of a slice that is read: true only of one without items. -/
theorem JL.eqnil {fr clip : Bool} {e : ETy} {xs : List (List AV)} {yt : TypeId} (hU : P.underlying t = some (.slice et)) (hx : Ev E ⟨n, env, own, F, D⟩ x (.sl fr clip e xs)) (hy : Ev E ⟨n, env, own, F, D⟩ y (.c (.slice none 0 0))) (hd : Nat.blt d n = true)
    (h : ∀ b : Bool, (b = true → xs = []) → JL P E ops rest ⟨n, (d, .c (.bool b)) :: env, own, F, D⟩ Q) :
    JL P E ops (⟨some d, .binOp .eql t x y yt, ty, pos, af, none⟩ :: rest) ⟨n, env, own, F, D⟩ Q := fun a w ⟨A, hA⟩ => by
  refine wpListIn_plain rfl fun K hK => ?_
  refine wpR (by intro c h; cases h) ?_
  unfold Oper.wp
  have hr := hx A a w hA
  obtain ⟨ad, cap, hv, _, _, hc⟩ := hr.of_sl
  have hg : (eqGuard .eql t x y (.slice ad xs.length cap) (.slice none 0 0)).run P w = .ok () w := by simp [eqGuard]
  have hrun : (execOp a.eval ⟨some d, .binOp .eql t x y yt, ty, pos, af, none⟩).run P w = .ok (.value (.bool ad.isNone)) w := by
    simp only [execOp, hv, hy.eq hA, Sem.run_bind, hg, Result.andThen_ok, Lib.run_eql_slice_nil w t et ad xs.length cap 0 0 hU, Sem.run_pure]
  rw [hrun, Oper.upon_value]
  refine hK _ _ (h ad.isNone (fun hb => ?_) _ _ ⟨A, hA.put (blt_lt hd) (.c _)⟩)
  rcases hc with hc | ⟨b, off, cs, t, fz, h1, _⟩
  · exact hc
  · rw [h1] at hb; cases hb

/-- A slice literal without items: an own array. -/
theorem JL.buildSlice0 {e : ETy} {idx : Array (Nat × Operand)} (hU : P.underlying t = some (.slice et)) (hE : elemB P et e = true) (hi : idx = #[]) (hd : Nat.blt d n = true)
    (h : ∀ v, JL P E ops rest ⟨n, (d, .c v) :: env, .arr v e [] :: own, F, D⟩ Q) :
    JL P E ops (⟨some d, .buildSlice t 0 idx, ty, pos, af, none⟩ :: rest) ⟨n, env, own, F, D⟩ Q := fun a w ⟨A, hA⟩ => by
  refine wpListIn_plain rfl fun K hK => ?_
  refine wpR (by intro c h; cases h) ?_
  unfold Oper.wp
  subst hi
  obtain ⟨ti, tz, hi1, hsz, hby, hz2, hzs, hz1⟩ := elemB_get hE
  have hrun : (execOp a.eval ⟨some d, .buildSlice t 0 #[], ty, pos, af, none⟩).run P w = .ok (.value (.slice (some ⟨w.heap.size, 0, none⟩) 0 0)) (World.pushed w (.cells #[] et)) := by
    simp [execOp, Instr.buildSlice, run_underlying _ hU, sizeOf, run_typeInfo hi1, Instr.fill, newRow, World.pushed]
    congr 2
    apply Array.ext'; simp
  rw [hrun, Oper.upon_value]
  refine hK _ _ (h _ _ _ ⟨A, SatA.put ?_ (blt_lt hd) (.c _)⟩)
  refine hA.step (.push _ _ _) (fun _ _ h => h) ⟨hA.hp.mono, hA.hp.sup, hA.hp.sub, fun fr b hb => by have := hA.hp.lt fr b hb; rw [size_pushed]; omega, fun b hb => ?_, ?_, fun o ho => ?_⟩
  · have hb' : b ∈ fps own := by simpa [fps_cons, Own.fp, arrFp] using hb
    obtain ⟨h1, h2, h3⟩ := hA.hp.fp b hb'
    exact ⟨by rw [size_pushed]; omega, h2, h3⟩
  · have := hA.hp.nodup
    simpa [fps_cons, Own.fp, arrFp] using this
  · rcases List.mem_cons.1 ho with rfl | ho
    · exact .inl ⟨_, rfl, rfl⟩
    · exact (hA.hp.own o ho).move (fun _ _ h _ => h) (fun fr b hb hlt => (Keep.push [] w _).block b hlt (by simp)) fun b hb => (Keep.push [] w _).block b (hA.hp.fp b (fps_mem ho hb)).1 (by simp)

/-- The nil slice as an own array. -/
theorem Reown.nilArr (e : ETy) (own : List Own) : Reown own (.arr (.slice none 0 0) e [] :: own) := ⟨fun x => by simp [fps_cons, Own.fp, arrFp], fun w A g => by
  simp only [List.forall_mem_cons]
  exact ⟨.inl ⟨_, rfl, rfl⟩, g⟩⟩
theorem Reown.nilArrE (e : ETy) (own : List Own) : Reown own (own ++ [.arr (.slice none 0 0) e []]) := (Reown.nilArr e own).trans (.perm (List.perm_append_singleton _ _).symm)

theorem srcA_sl {e : ETy} {ys : List (List AV)} {fr clip : Bool} {e' : TypeId} {st : St} (hU : P.underlying tx = some (.slice e')) (h : Ev E st x (.sl fr clip e ys)) : ∀ A a w, SatA E A st a w → SrcA P w A tx (a.eval x) e ys :=
  fun A a w hs => .sl hU (h A a w hs)
theorem srcA_str {l : List UInt8} {st : St} (hU : P.underlying tx = some .string) (h : Ev E st x (.c (str l))) : ∀ A a w, SatA E A st a w → SrcA P w A tx (a.eval x) ⟨1, 1⟩ (bytesAV l) :=
  fun A a w hs => by rw [h.eq hs]; exact SrcA.str hU l

/-- string(b) -/
theorem run_bytes {b off : Nat} {cs : Array Value} {tt : TypeId} {fz : Nat × Nat} (hb : w.heap[b]? = some (.cells cs tt fz)) {l : List UInt8} (hc : Cells w A cs off (l.map fun b => .c (.int .u8 (b.toNat : Int)))) (cap : Nat) :
    (Conv.bytesToString (.slice (some ⟨b, off, none⟩) l.length cap)).run P w = .ok (str l) w := by
  have hu : ∀ k, k < l.length → cs[off + k]? = some (.int .u8 ((l.getD k 0).toNat : Int)) := fun k hk => by
    obtain ⟨u, h1, _, h2⟩ := hc k (.c (.int .u8 ((l.getD k 0).toNat : Int))) (by simp [hk])
    rw [h1, h2.eq]
  have hload := run_loadCells (P := P) hb l.length off 0 #[] (fun k => .int .u8 ((l.getD k 0).toNat : Int)) (fun k hk => by simpa using hu k hk)
  have harr : (Array.range l.length).map (fun k => Value.int .u8 ((l.getD k 0).toNat : Int)) = (l.map fun b => Value.int .u8 (b.toNat : Int)).toArray := by
    apply Array.ext'
    simp only [Array.toList_map, Array.toList_range]
    apply List.ext_getElem?
    intro k
    rw [List.getElem?_map, List.getElem?_map]
    by_cases hk : k < l.length
    · rw [List.getElem?_range hk, List.getElem?_eq_getElem hk]; simp [hk]
    · rw [List.getElem?_eq_none (by simpa using hk), List.getElem?_eq_none (by simpa using hk)]; rfl
  simp only [Array.empty_append] at hload
  rw [harr] at hload
  have hloop : ∀ (f : Value → ByteArray → Sem (ForInStep ByteArray)), (∀ (n : Int) r, f (.int .u8 n) r = pure (ForInStep.yield (r.push (UInt8.ofNat n.toNat)))) → ∀ (l : List UInt8) (r : ByteArray),
      (forIn (m := Sem) (l.map fun b => Value.int .u8 (b.toNat : Int)).toArray r f).run P w = .ok ⟨r.data ++ l.toArray⟩ w := by
    intro f hf l
    induction l with
    | nil => intro r; simp
    | cons b l ih =>
      intro r
      have := ih (r.push b)
      simp only [List.map_cons]
      simp only [List.forIn_toArray] at this ⊢
      simp only [List.forIn_cons, hf, Sem.run_bind, Sem.run_pure, Result.andThen_ok]
      have hb : UInt8.ofNat ((b.toNat : Int)).toNat = b := by simp
      rw [hb, this]
      simp [ByteArray.push]
  simp only [Conv.bytesToString, Sem.run_bind, loadCells, hload, Result.andThen_ok]
  rw [hloop _ (fun n r => rfl) l ByteArray.empty]
  simp [str, Result.andThen_ok]

theorem QW.bytes_str {st : St} {dd : Option Tmp} {gd : Option (Nat × Bool)} {fr clip : Bool} {l : List UInt8} {e8 : TypeId} (hS : P.underlying s0 = some (.slice e8)) (hT : P.underlying t = some .string) (hE : P.underlying e8 = some (.int .u8))
    (hx : Ev E st x (.sl fr clip ⟨1, 1⟩ (bytesAV l))) : QW P E st ⟨dd, .convert s0 t x, ty, pos, af, gd⟩ (.c (str l)) := .pure fun A a w hs => by
  have hr := hx A a w hs
  obtain ⟨ad, cap, hv, _, _, hc⟩ := hr.of_sl
  refine ⟨str l, ?_, .c _⟩
  have hrun : (Conv.bytesToString (.slice ad (bytesAV l).length cap)).run P w = .ok (str l) w := by
    rcases hc with hc | ⟨b, off, cs, t', fz, rfl, hA, hb, hsz, _, hc⟩
    · have hl : l = [] := by simpa [bytesAV] using hc
      subst hl
      cases ad with
      | none => simp [Conv.bytesToString, bytesAV, str]; rfl
      | some ad => simp [Conv.bytesToString, bytesAV, loadCells, loadCellsFrom, str]; rfl
    · rw [bytesAV_flat] at hc
      rw [bytesAV_length]
      exact run_bytes hb hc cap
  simp only [execOp, hv, Go.convert, Sem.run_bind, run_underlying _ hS, run_underlying _ hT, Result.andThen_ok]
  simp only [run_underlying _ hE, Result.andThen_ok, hrun, Sem.run_bind, Sem.run_pure]

theorem QW.conv_str {st : St} {dd : Option Tmp} {gd : Option (Nat × Bool)} {s1 : TypeId} {v : Value} (hS : P.underlying s1 = some .string) (hT : P.underlying t = some .string) (hx : Ev E st x (.c v)) (hv : ∃ b, v = .string b) :
    QW P E st ⟨dd, .convert s1 t x, ty, pos, af, gd⟩ (.c v) := .pure fun A a w hs => by
  obtain ⟨b, rfl⟩ := hv
  exact ⟨_, by simp only [execOp, hx.eq hs, Go.convert, Sem.run_bind, run_underlying _ hS, run_underlying _ hT, Result.andThen_ok, Sem.run_pure], .c _⟩
end
end Go.Proofs.Ytkiankpmkglhcaa.J

/- Contracts that return, contracts that may panic, in the form in which the walks use them; stores over a whole variable. -/
namespace Go.Proofs.Ytkiankpmkglhcaa.J
open Go Go.RowKit
set_option linter.unusedVariables false
set_option linter.unusedSimpArgs false

/-- It returns, and Rx of the value and of what is owned then. -/
def RetR (Rx : AV → List Own → Prop) : Res → List Own → Prop := fun r o => ∃ x, r = .ret x ∧ Rx x o
/-- It returns if ok, else it panics with e. -/
def PanR (ok : Prop) (e : Value) (Rx : AV → List Own → Prop) : Res → List Own → Prop := fun r o => (ok ∧ ∃ x, r = .ret x ∧ Rx x o) ∨ (¬ ok ∧ r = .pan e ∧ o = [])

theorem RetR.mk {Rx : AV → List Own → Prop} {x : AV} {o : List Own} (h : Rx x o) : RetR Rx (.ret x) o := ⟨x, rfl, h⟩
theorem PanR.ret {ok : Prop} {e : Value} {Rx : AV → List Own → Prop} {x : AV} {o : List Own} (hk : ok) (h : Rx x o) : PanR ok e Rx (.ret x) o := .inl ⟨hk, x, rfl, h⟩
theorem PanR.pan {ok : Prop} {e : Value} {Rx : AV → List Own → Prop} (hk : ¬ ok) : PanR ok e Rx (.pan e) [] := .inr ⟨hk, rfl, rfl⟩
theorem Fn.ofR {P : Program} {f : FuncId} {xs : List AV} {z : AV} (h : AC P f [] xs (RetR fun x o => x = z ∧ o = [])) : Fn P f xs z := h.mono fun r o ⟨x, h1, h2, h3⟩ => ⟨by rw [h1, h2], h3⟩

/-- All that comes back is fresh. -/
def FreshX (Rx : AV → List Own → Prop) : Prop := ∀ x o, Rx x o → Fresh x ∧ ∀ y ∈ o, OwnFl (· = true) y

section
variable {P : Program} {E : Ent} {Q : Exit → St → Prop} {n : Nat} {env : List (Nat × AV)} {own : List Own} {F : List (Value × AV)} {D : List Deferred} {ops : Array Oper} {rest : List Oper}
variable {A : Foot} {a : Act} {w w' : World} {t ty : TypeId} {pos : String} {af : Array Edge} {d : Nat} {x y : Operand} {g : Bool} {m B : Nat}

theorem JL.callR (ms : List Cd) {f : FuncId} {fo : Operand} {fi ca : List Value} {l : List Operand} {tys : Array TypeId} {xs zs : List AV} {Rx : AV → List Own → Prop} {G : List (Value × AV)} (hf : goFn P f = true) (hd : Nat.blt d n = true)
    (hfo : Ev E ⟨n, env, own, F, D⟩ fo (.c (.func (.func f) fi.toArray ca.toArray))) (hG : Lent G (selL ms own)) (hargs : ∀ E', EvL E' ⟨n, env, selP ms own ++ selK ms own, G ++ F, D⟩ l xs) (hzs : fi.map AV.c ++ xs ++ ca.map AV.c = zs) (hAC : AC P f (selP ms own) zs (RetR Rx))
    (hfr : selL ms own = [] ∨ FreshX Rx)
    (hret : ∀ x own', Rx x own' → JL P E ops rest ⟨n, (d, x) :: env, mrg ms own' own, F, D⟩ Q) :
    JL P E ops (⟨some d, .call ⟨.value fo, l.toArray, tys⟩, ty, pos, af, none⟩ :: rest) ⟨n, env, own, F, D⟩ Q :=
  JL.callG ms hf hd hfo hG hargs hzs hAC (hfr.imp id fun h r o ⟨x, h1, h2⟩ => by subst h1; exact h x o h2) (fun x own' ⟨x', h1, h2⟩ => by cases h1; exact hret x own' h2) (fun v own' ⟨x', h1, _⟩ => by cases h1)
theorem JL.callRF (ms : List Cd) {f : FuncId} {l : List Operand} {tys : Array TypeId} {xs : List AV} {Rx : AV → List Own → Prop} {G : List (Value × AV)} (hf : goFn P f = true) (hd : Nat.blt d n = true)
    (hG : Lent G (selL ms own)) (hargs : ∀ E', EvL E' ⟨n, env, selP ms own ++ selK ms own, G ++ F, D⟩ l xs) (hAC : AC P f (selP ms own) xs (RetR Rx))
    (hfr : selL ms own = [] ∨ FreshX Rx)
    (hret : ∀ x own', Rx x own' → JL P E ops rest ⟨n, (d, x) :: env, mrg ms own' own, F, D⟩ Q) :
    JL P E ops (⟨some d, .call ⟨.value (.func f), l.toArray, tys⟩, ty, pos, af, none⟩ :: rest) ⟨n, env, own, F, D⟩ Q :=
  JL.callR (fi := []) (ca := []) ms hf hd .func hG hargs (by simp) hAC hfr hret
theorem JL.callPF (ms : List Cd) {f : FuncId} {l : List Operand} {tys : Array TypeId} {xs : List AV} {ok : Prop} {e : Value} {Rx : AV → List Own → Prop} {G : List (Value × AV)} (hf : goFn P f = true) (hd : Nat.blt d n = true)
    (hG : Lent G (selL ms own)) (hargs : ∀ E', EvL E' ⟨n, env, selP ms own ++ selK ms own, G ++ F, D⟩ l xs) (hAC : AC P f (selP ms own) xs (PanR ok e Rx))
    (hfr : selL ms own = [] ∨ FreshX Rx)
    (hret : ok → ∀ x own', Rx x own' → JL P E ops rest ⟨n, (d, x) :: env, mrg ms own' own, F, D⟩ Q)
    (hpan : ¬ ok → Q (.panic [{ v := e, recovered := false }]) ⟨n, env, mrg ms [] own, F, D⟩) :
    JL P E ops (⟨some d, .call ⟨.value (.func f), l.toArray, tys⟩, ty, pos, af, none⟩ :: rest) ⟨n, env, own, F, D⟩ Q :=
  JL.callF ms hf hd hG hargs hAC (hfr.imp id fun h r o hR => by
      rcases hR with ⟨_, x, h1, h2⟩ | ⟨_, h1, h2⟩
      · subst h1; exact h x o h2
      · subst h1 h2; exact ⟨trivial, fun y hy => by cases hy⟩)
    (fun x own' hR => by
      rcases hR with ⟨hk, x', h1, h2⟩ | ⟨_, h1, _⟩
      · cases h1; exact hret hk x own' h2
      · cases h1)
    (fun v own' hR => by
      rcases hR with ⟨_, x', h1, _⟩ | ⟨hk, h1, h2⟩
      · cases h1
      · cases h1; subst h2; exact hpan hk)
theorem JL.conv {st st' : St} {l : List Oper} (h : st = st') (k : JL P E ops l st' Q) : JL P E ops l st Q := h ▸ k
theorem J.conv {st st' : St} {c : Code} (h : st = st') (k : J P E c st' Q) : J P E c st Q := h ▸ k
theorem splice_zero {z : AV} {ys : List AV} {x : AV} : splice (x :: ys) 0 [z] = z :: ys := by simp [splice]
theorem splice_succ {ys zs : List AV} {x : AV} {k : Nat} : splice (x :: ys) (k + 1) zs = x :: splice ys k zs := by simp [splice, Nat.succ_add]
/-- In a region that draws its order. -/
theorem LStepR.callRF (ms : List Cd) {f : FuncId} {l : List Operand} {tys : Array TypeId} {xs : List AV} {Rx : AV → List Own → Prop} {G : List (Value × AV)} (hf : goFn P f = true)
    (hG : Lent G (selL ms own)) (hargs : ∀ E', EvL E' ⟨n, env, selP ms own ++ selK ms own, G ++ F, D⟩ l xs) (hAC : AC P f (selP ms own) xs (RetR Rx))
    (hfr : selL ms own = [] ∨ FreshX Rx) :
    LStepR P E Q ⟨n, env, own, F, D⟩ (fun ow x o' => ∃ o2, Rx x o2 ∧ o' = mrg ms o2 ow) ⟨some d, .call ⟨.value (.func f), l.toArray, tys⟩, ty, pos, af, none⟩ := fun A a w hA K hK =>
  LStepR.callF (d := d) ms hf hG hargs hAC (hfr.imp id fun h r o ⟨x, h1, h2⟩ => by subst h1; exact h x o h2) (fun v own' ⟨x', h1, _⟩ => by cases h1) A a w hA K
    fun v x own' w' A' ⟨o2, ⟨x', h1, h2⟩, h3⟩ => hK v x own' w' A' ⟨o2, by cases h1; exact h2, h3⟩

/-- A store over a whole variable. -/
theorem JL.store_boxF (i : Nat) {b : Nat} {ys : List AV} {z : AV} (hT : tySz P t = some (g, m, B)) (hx : Ev E ⟨n, env, own, F, D⟩ x (.c (.pointer (some ⟨b, 0, none⟩))))
    (ho : own[i]? = some (.box b ys)) (hy : Ev E ⟨n, env, own, F, D⟩ y z) (hz : z.plain = true) (hm : z.cellsOf.length = m) (hl : ys.length = m)
    {own' : List Own} (hown : own.set i (.box b z.cellsOf) = own')
    (h : JL P E ops rest ⟨n, env, own', F, D⟩ Q) :
    JL P E ops (⟨none, .store t x y, ty, pos, af, none⟩ :: rest) ⟨n, env, own, F, D⟩ Q :=
  JL.store_box i hT hx ho hy hz hm (by rw [Nat.zero_add, hl]; exact Nat.ble_eq_true_of_le (Nat.le_refl m)) (by
    unfold splice
    rw [Nat.zero_add, hm, ← hl]
    simp) hown h
theorem LStep.store_boxF (i : Nat) {b : Nat} {ys : List AV} {z : AV} (hT : tySz P t = some (g, m, B)) (hx : Ev E ⟨n, env, own, F, D⟩ x (.c (.pointer (some ⟨b, 0, none⟩))))
    (ho : own[i]? = some (.box b ys)) (hy : Ev E ⟨n, env, own, F, D⟩ y z) (hz : z.plain = true) (hm : z.cellsOf.length = m) (hl : ys.length = m)
    {own' : List Own} (hown : own.set i (.box b z.cellsOf) = own') : LStep P E ⟨n, env, own, F, D⟩ own' ⟨none, .store t x y, ty, pos, af, none⟩ :=
  LStep.store_box i hT hx ho hy hz hm (by rw [Nat.zero_add, hl]; exact Nat.ble_eq_true_of_le (Nat.le_refl m)) (by
    unfold splice
    rw [Nat.zero_add, hm, ← hl]
    simp) hown
theorem LStep.toR {st : St} {own' : List Own} {o : Oper} {R : List Own → AV → List Own → Prop} (hd : o.dst = none) (h : LStep P E st own' o) (hR : R st.own (.c undef) own') : LStepR P E Q st R o := fun A a w hA K hK =>
  h A a w hA K (lift E Q) fun w' A' hf hs => by
    have := hK undef (.c undef) own' w' A' hR hf hs (.c _)
    rw [hd] at this
    exact this

theorem ret_b {a b : Bool} (h : a = true ↔ b = true) : Res.ret (.c (.bool a)) = Res.ret (.c (.bool b)) := by rw [Bool.eq_iff_iff.2 h]
theorem DC.mono {P : Program} {f : FuncId} {own : List Own} {xs : List AV} {u : FrameMode} {R R' : Res → FrameMode → List Own → Prop} (h : DC P f own xs u R) (hR : ∀ r u' o, R r u' o → R' r u' o) : DC P f own xs u R' :=
  fun w A0 vs h1 h2 => (h w A0 vs h1 h2).mono fun _ _ _ ⟨r, o, A, hr, rest⟩ => ⟨r, o, A, hR _ _ _ hr, rest⟩
theorem thenD.nn {K : St → FrameMode → Prop} {QD : Exit → St → FrameMode → Prop} {s : St} {u : FrameMode} (h : K s u) : thenD K QD .normal s u := h
theorem Le.eqv {F : List (Value × AV)} {x y : AV} (h : x = y) : Le F x y := h ▸ .refl _
theorem Le.boolE {F : List (Value × AV)} {a b : Bool} (h : a = b) : Le F (.c (.bool a)) (.c (.bool b)) := h ▸ .refl _
theorem Le.intE {F : List (Value × AV)} {k : IntKind} {a b : Int} (h : a = b) : Le F (.c (.int k a)) (.c (.int k b)) := h ▸ .refl _
theorem QW.len_slE {st : St} {dd : Option Tmp} {gd : Option (Nat × Bool)} {fr clip : Bool} {e : ETy} {xs : List (List AV)} {et : TypeId} {k : Nat} {P : Program} {E : Ent} {x : Operand} {t ty : TypeId} {pos : String} {af : Array Edge} (hU : P.underlying t = some (.slice et)) (h : Ev E st x (.sl fr clip e xs)) (hk : xs.length = k) :
    QW P E st ⟨dd, .call ⟨.builtin .len, #[x], #[t]⟩, ty, pos, af, gd⟩ (.c (.int .i64 (k : Int))) := (QW.len_sl hU h).conv (by rw [hk])
theorem take_full {ys : List AV} {k : Nat} (h : ys.length = k) : (ys.drop 0).take k = ys := by subst h; simp
theorem take_at {ys zs : List AV} {off k : Nat} (hl : zs.length = k) (h : ys.drop off = zs) : (ys.drop off).take k = zs := by rw [h, ← hl]; simp
theorem take_at0 {ys zs : List AV} {k : Nat} (hl : zs.length = k) (h : ys = zs) : ys.take k = zs := by subst h hl; simp
theorem take_fullL {ys : List AV} {k : Nat} (h : ys.length = k) : ys.take k = ys := by subst h; simp

/-- A JD that is a J behind: conditions. -/
theorem JD.cond {c : Operand} {x y : Code} {u : FrameMode} {t : Bool} {st : St} {QD : Exit → St → FrameMode → Prop} (hc : Ev E st c (.c (.bool t))) (h1 : t = true → JD P E x u st QD) (h2 : t = false → JD P E y u st QD) :
    JD P E (.cond c x y) u st QD := fun a w c0 cs hu hs => by
  have hs' := hs
  obtain ⟨A, hA⟩ := hs'
  refine wpS_cond (hc.eq hA) ?_
  cases t with
  | true => exact h1 rfl a w c0 cs hu hs
  | false => exact h2 rfl a w c0 cs hu hs
end
end Go.Proofs.Ytkiankpmkglhcaa.J

/- Rules for floats, for functions without a Go body, for function values, max and min; contracts that tell of their result. -/
namespace Go.Proofs.Ytkiankpmkglhcaa.J
open Go Go.RowKit
set_option linter.unusedVariables false
set_option linter.unusedSimpArgs false

abbrev flt (b : Nat) : Value := .float .f64 b
abbrev ford (a b : Nat) : Option Ordering := FloatKind.f64.format.order a b

/-- A contract that tells something of the one result. -/
abbrev FnR (P : Program) (f : FuncId) (xs : List AV) (R : AV → Prop) : Prop := AC P f [] xs fun r own' => own' = [] ∧ ∃ x, r = .ret x ∧ R x

section
variable {P : Program} {E : Ent} {st : St} {t : TypeId} {g : Bool} {m B : Nat} {w : World} {dd : Option Tmp} {ty : TypeId} {pos : String} {af : Array Edge} {gd : Option (Nat × Bool)} {x y z : Operand} {yt : TypeId}
variable {Q : Exit → St → Prop} {n : Nat} {env : List (Nat × AV)} {own : List Own} {F : List (Value × AV)} {D : List Deferred} {d : Nat} {ops : Array Oper} {rest : List Oper}

theorem Fn.toR {f : FuncId} {xs : List AV} {z : AV} {R : AV → Prop} (h : Fn P f xs z) (hR : R z) : FnR P f xs R := h.mono fun r o ⟨h1, h2⟩ => ⟨h2, z, h1, hR⟩

theorem JL.call0 {f : FuncId} {l : List Operand} {tys : Array TypeId} {xs : List AV} {R : AV → Prop} (hf : goFn P f = true) (hd : Nat.blt d n = true) (hargs : EvL E ⟨n, env, own, F, D⟩ l xs) (hAC : FnR P f xs R)
    (hret : ∀ z, R z → JL P E ops rest ⟨n, (d, z) :: env, own, F, D⟩ Q) :
    JL P E ops (⟨some d, .call ⟨.value (.func f), l.toArray, tys⟩, ty, pos, af, none⟩ :: rest) ⟨n, env, own, F, D⟩ Q :=
  JL.call (op := []) (ro := own) hf hd hargs (.refl _) hAC (fun z own' ⟨h1, z', h2, h3⟩ => by subst h1; cases h2; exact hret z h3) (fun v own' ⟨_, z', h2, _⟩ => by cases h2)

theorem JL.callV0 {f : FuncId} {fo : Operand} {fi ca : List Value} {l : List Operand} {tys : Array TypeId} {xs zs : List AV} {R : AV → Prop} (hf : goFn P f = true) (hd : Nat.blt d n = true)
    (hfo : Ev E ⟨n, env, own, F, D⟩ fo (.c (.func (.func f) fi.toArray ca.toArray))) (hargs : EvL E ⟨n, env, own, F, D⟩ l xs) (hzs : fi.map AV.c ++ xs ++ ca.map AV.c = zs) (hAC : FnR P f zs R)
    (hret : ∀ z, R z → JL P E ops rest ⟨n, (d, z) :: env, own, F, D⟩ Q) :
    JL P E ops (⟨some d, .call ⟨.value fo, l.toArray, tys⟩, ty, pos, af, none⟩ :: rest) ⟨n, env, own, F, D⟩ Q :=
  JL.callV (op := []) (ro := own) hf hd hfo hargs hzs (.refl _) hAC (fun z own' ⟨h1, z', h2, h3⟩ => by subst h1; cases h2; exact hret z h3) (fun v own' ⟨_, z', h2, _⟩ => by cases h2)

/-- A function without a Go body. -/
theorem QW.ext {f : FuncId} {tys : Array TypeId} {v r : Value} (hext : ∀ w, (callFunc f #[v]).run P w = .ok (.value r) w) (hx : Ev E st x (.c v)) :
    QW P E st ⟨dd, .call ⟨.value (.func f), #[x], tys⟩, ty, pos, af, gd⟩ (.c r) := .pure fun A a w hs => by
  refine ⟨r, ?_, .c r⟩
  have := hext w
  simp only [execOp, resolve, Act.eval, Deferred.ofValue, Sem.run_bind, Sem.run_pure, Result.andThen_ok, invoke]
  simpa [hx.eq hs] using this

section
variable {a b : Nat}
theorem QW.eql_f (hx : Ev E st x (.c (flt a))) (hy : Ev E st y (.c (flt b))) : QW P E st ⟨dd, .binOp .eql t x y yt, ty, pos, af, gd⟩ (.c (.bool (ford a b == some .eq))) := .bin hx hy guard_float (fun w => by simp [binOp, Op.floatCmp])
theorem QW.neq_f (hx : Ev E st x (.c (flt a))) (hy : Ev E st y (.c (flt b))) : QW P E st ⟨dd, .binOp .neq t x y yt, ty, pos, af, gd⟩ (.c (.bool (ford a b != some .eq))) := .bin hx hy guard_float (fun w => by simp [binOp, Op.floatCmp])
theorem QW.lss_f (hx : Ev E st x (.c (flt a))) (hy : Ev E st y (.c (flt b))) : QW P E st ⟨dd, .binOp .lss t x y yt, ty, pos, af, gd⟩ (.c (.bool (ford a b == some .lt))) := .bin hx hy guard_float (fun w => by simp [binOp, Op.floatCmp])
theorem QW.leq_f (hx : Ev E st x (.c (flt a))) (hy : Ev E st y (.c (flt b))) : QW P E st ⟨dd, .binOp .leq t x y yt, ty, pos, af, gd⟩ (.c (.bool (ford a b == some .lt || ford a b == some .eq))) := .bin hx hy guard_float (fun w => by simp [binOp, Op.floatCmp])
theorem QW.gtr_f (hx : Ev E st x (.c (flt a))) (hy : Ev E st y (.c (flt b))) : QW P E st ⟨dd, .binOp .gtr t x y yt, ty, pos, af, gd⟩ (.c (.bool (ford a b == some .gt))) := .bin hx hy guard_float (fun w => by simp [binOp, Op.floatCmp])
theorem QW.geq_f (hx : Ev E st x (.c (flt a))) (hy : Ev E st y (.c (flt b))) : QW P E st ⟨dd, .binOp .geq t x y yt, ty, pos, af, gd⟩ (.c (.bool (ford a b == some .gt || ford a b == some .eq))) := .bin hx hy guard_float (fun w => by simp [binOp, Op.floatCmp])
end

/-- The four operations on floats, by name. -/
def farithN (op : BinOp) (a b : Nat) : Option Nat :=
  match op with
  | .add => FloatKind.f64.format.add a b
  | .sub => FloatKind.f64.format.sub a b
  | .mul => FloatKind.f64.format.mul a b
  | _ => FloatKind.f64.format.div a b

/-- What a NaN that the machine chooses may be. -/
def nanAny (c : Nat) : Prop := ∃ t : Nat, c = (t % 2) * 2 ^ 63 + 0x7ff0000000000000 + 1 + (t / 2) % (2 ^ 52 - 1)

theorem JL.farith {op : BinOp} {a b : Nat} (hop : op = .add ∨ op = .sub ∨ op = .mul ∨ op = .quo) (hx : Ev E ⟨n, env, own, F, D⟩ x (.c (flt a))) (hy : Ev E ⟨n, env, own, F, D⟩ y (.c (flt b))) (hd : Nat.blt d n = true)
    (h : ∀ c, (farithN op a b = some c ∨ (farithN op a b = none ∧ nanAny c)) → JL P E ops rest ⟨n, (d, .c (flt c)) :: env, own, F, D⟩ Q) :
    JL P E ops (⟨some d, .binOp op t x y yt, ty, pos, af, none⟩ :: rest) ⟨n, env, own, F, D⟩ Q := fun act w ⟨A, hA⟩ => by
  refine wpListIn_plain rfl fun K hK => ?_
  refine wpR (by intro c h; cases h) ?_
  unfold Oper.wp
  have hb : binOp op t (flt a) (flt b) = Op.floatArith op .f64 a b := by rcases hop with rfl | rfl | rfl | rfl <;> simp [binOp]
  have hg : (eqGuard op t x y (flt a) (flt b)).run P w = .ok () w := guard_float w
  cases hc : farithN op a b with
  | some c =>
    have hr : (execOp act.eval ⟨some d, .binOp op t x y yt, ty, pos, af, none⟩).run P w = .ok (.value (flt c)) w := by
      simp only [execOp, hx.eq hA, hy.eq hA, Sem.run_bind, hg, Result.andThen_ok, hb, Op.floatArith]
      rcases hop with rfl | rfl | rfl | rfl <;> simp [farithN] at hc <;> simp [hc]
    rw [hr, Oper.upon_value]
    exact hK _ _ (h c (.inl hc) _ _ ⟨A, hA.put (blt_lt hd) (.c _)⟩)
  | none =>
    have hr : (execOp act.eval ⟨some d, .binOp op t x y yt, ty, pos, af, none⟩).run P w = .ok (.value (flt (Question.cut (.nanBits .f64 a b) (w.tape w.drawn (.nanBits .f64 a b))))) (World.drawnBy w) := by
      simp only [execOp, hx.eq hA, hy.eq hA, Sem.run_bind, hg, Result.andThen_ok, hb, Op.floatArith]
      rcases hop with rfl | rfl | rfl | rfl <;> simp [farithN] at hc <;> simp [hc, Question.forced] <;> rfl
    rw [hr, Oper.upon_value]
    refine hK _ _ (h _ (.inr ⟨hc, ⟨_, rfl⟩⟩) _ _ ⟨A, hA.draw.put (blt_lt hd) (.c _)⟩)

theorem QW.neg_f {a : Nat} (hx : Ev E st x (.c (flt a))) : QW P E st ⟨dd, .unOp .neg t x, ty, pos, af, gd⟩ (.c (flt (Op.negFloat .f64 a))) := .pure fun A act w hs =>
  ⟨_, by simp only [execOp, hx.eq hs, Op.unary, Sem.run_bind, Sem.run_pure, Result.andThen_ok], .c _⟩

theorem QW.conv_if {k : IntKind} {a : Int} {s : TypeId} (hs : (P.underlying s).isSome = true) (hU : P.underlying t = some (.float .f64)) (hx : Ev E st x (.c (.int k a))) :
    QW P E st ⟨dd, .convert s t x, ty, pos, af, gd⟩ (.c (flt (FloatKind.f64.nearest a))) := .pure fun A act w hs' => by
  obtain ⟨ds, hds⟩ := Option.isSome_iff_exists.1 hs
  exact ⟨_, by simp only [execOp, hx.eq hs', Go.convert, Sem.run_bind, run_underlying _ hds, run_underlying _ hU, Result.andThen_ok, Conv.intToFloat, Sem.run_pure], .c _⟩

theorem QW.conv_fi {a : Nat} {s : TypeId} {i : Int} (hs : (P.underlying s).isSome = true) (hU : P.underlying t = some (.int .i64)) (hx : Ev E st x (.c (flt a)))
    (hi : (FloatKind.f64.decode a).toInt .zero = some i) (hb : -9223372036854775808 ≤ i ∧ i ≤ 9223372036854775807) :
    QW P E st ⟨dd, .convert s t x, ty, pos, af, gd⟩ (.c (.int .i64 i)) := .pure fun A act w hs' => by
  obtain ⟨ds, hds⟩ := Option.isSome_iff_exists.1 hs
  have hb' : IntKind.i64.min ≤ i ∧ i ≤ IntKind.i64.max := hb
  exact ⟨_, by simp only [execOp, hx.eq hs', Go.convert, Sem.run_bind, run_underlying _ hds, run_underlying _ hU, Result.andThen_ok, Conv.floatToInt, hi, if_pos hb', Sem.run_pure], .c _⟩

theorem QW.max2 {k : IntKind} {a b : Int} {tys : Array TypeId} (hx : Ev E st x (.c (.int k a))) (hy : Ev E st y (.c (.int k b))) :
    QW P E st ⟨dd, .call ⟨.builtin .max, #[x, y], tys⟩, ty, pos, af, gd⟩ (.c (.int k (if b > a then b else a))) := .pure fun A act w hs =>
  ⟨_, by simp [execOp, resolve, invoke, builtin, Builtin.max_, hx.eq hs, hy.eq hs, Builtin.max2], .c _⟩
theorem QW.min2 {k : IntKind} {a b : Int} {tys : Array TypeId} (hx : Ev E st x (.c (.int k a))) (hy : Ev E st y (.c (.int k b))) :
    QW P E st ⟨dd, .call ⟨.builtin .min, #[x, y], tys⟩, ty, pos, af, gd⟩ (.c (.int k (if b < a then b else a))) := .pure fun A act w hs =>
  ⟨_, by simp [execOp, resolve, invoke, builtin, Builtin.min_, hx.eq hs, hy.eq hs, Builtin.min2], .c _⟩

/-- Operands of exact values. -/
inductive EvC (E : Ent) (st : St) : List Operand → List Value → Prop
  | nil : EvC E st [] []
  | cons {x : Operand} {v : Value} {l : List Operand} {vs : List Value} (h : Ev E st x (.c v)) (hs : EvC E st l vs) : EvC E st (x :: l) (v :: vs)
theorem EvC.eq {l : List Operand} {vs : List Value} (h : EvC E st l vs) {A : Foot} {act : Act} {w : World} (hs : SatA E A st act w) : l.map act.eval = vs := by
  induction h with
  | nil => rfl
  | cons h _ ih => simp [h.eq hs, ih]
theorem QW.mkFunc {fn : Go.Fn} {l l' : List Operand} {vs vs' : List Value} (h : EvC E st l vs) (h' : EvC E st l' vs') :
    QW P E st ⟨dd, .makeFunc fn l.toArray l'.toArray, ty, pos, af, gd⟩ (.c (.func fn vs.toArray vs'.toArray)) := .pure fun A act w hs =>
  ⟨_, by
    have h1 := h.eq hs
    have h2 := h'.eq hs
    simp only [execOp, Instr.makeFunc, Sem.run_bind, Sem.run_pure, Result.andThen_ok, List.map_toArray, h1, h2], .c _⟩

theorem run_eql_bool (hU : P.underlying t = some .bool) (a b : Bool) : (Op.equal t (.bool a) (.bool b)).run P w = .ok (a == b) w := by
  unfold Op.equal Op.maxDepth Op.equalIn
  simp only [Sem.run_bind, run_underlying _ hU, Result.andThen_ok, Sem.run_pure]

theorem QW.eql_b {a b : Bool} (hU : P.underlying t = some .bool) (hx : Ev E st x (.c (.bool a))) (hy : Ev E st y (.c (.bool b))) : QW P E st ⟨dd, .binOp .eql t x y yt, ty, pos, af, gd⟩ (.c (.bool (a == b))) := .bin hx hy guard_bool (fun w => by
  simp only [binOp, Sem.run_bind, run_eql_bool hU, Result.andThen_ok, Sem.run_pure])
theorem QW.neq_b {a b : Bool} (hU : P.underlying t = some .bool) (hx : Ev E st x (.c (.bool a))) (hy : Ev E st y (.c (.bool b))) : QW P E st ⟨dd, .binOp .neq t x y yt, ty, pos, af, gd⟩ (.c (.bool (!(a == b)))) := .bin hx hy guard_bool (fun w => by
  simp only [binOp, Sem.run_bind, run_eql_bool hU, Result.andThen_ok, Sem.run_pure])
end
end Go.Proofs.Ytkiankpmkglhcaa.J

/- Numbers as words: what a word is, and how two words stand to each other, by whole numbers alone. -/
namespace Go.Proofs.Ytkiankpmkglhcaa.J
open Go Go.RowKit
set_option linter.unusedVariables false
set_option linter.unusedSimpArgs false

abbrev rdw (b : Nat) : Ieee.Datum := Ieee.double.read b
def isNan (b : Nat) : Bool := (rdw b).isNaN
def oneNan : Nat := 0x7ff8000000000000
def canonN (b : Nat) : Nat := if isNan b then oneNan else b

theorem compare_self (n : Int) : compare n n = .eq := by simp [compare, compareOfLessAndEq]

theorem ford_self (b : Nat) : ford b b = if isNan b then none else some .eq := by
  show (rdw b).order (rdw b) = if (rdw b).isNaN then none else some .eq
  cases h : rdw b with
  | nan s t => simp [Ieee.Datum.order, Ieee.Datum.isNaN]
  | infinity s => cases s <;> simp [Ieee.Datum.order, Ieee.Datum.isNaN, compare, compareOfLessAndEq]
  | number s m i => simp [Ieee.Datum.order, Ieee.Datum.isNaN, compare_self]

theorem fneq_self (b : Nat) : (ford b b != some .eq) = isNan b := by
  rw [ford_self]; cases isNan b <;> rfl

theorem nanAny_nan {c : Nat} (h : nanAny c) : isNan c = true := by
  obtain ⟨t, rfl⟩ := h
  unfold isNan rdw Ieee.Format.read Ieee.Format.signWeight Ieee.Format.infRung Ieee.Format.binade Ieee.double
  have h1 : (t / 2) % (2 ^ 52 - 1) < 2 ^ 52 - 1 := Nat.mod_lt _ (by decide)
  have h2 : ((t % 2) * 2 ^ 63 + 0x7ff0000000000000 + 1 + (t / 2) % (2 ^ 52 - 1)) % 2 ^ (11 + 52) = 0x7ff0000000000000 + 1 + (t / 2) % (2 ^ 52 - 1) := by omega
  simp only [h2]
  rw [if_neg (by omega), if_neg (by omega), if_neg (by omega)]
  rfl

/-! ### how two words stand to each other -/
def rung (b : Nat) : Nat := b % 2 ^ 63
def sgn (b : Nat) : Bool := b / 2 ^ 63 % 2 == 1
def infR : Nat := 2047 * 2 ^ 52
def sr (b : Nat) : Int := if sgn b then -(rung b : Int) else rung b
def magn (r : Nat) : Nat := if r < 2 ^ 52 then r else (2 ^ 52 + r % 2 ^ 52) * 2 ^ (r / 2 ^ 52 - 1)
def leastP : Int := -1074

theorem rdw_eq (b : Nat) : rdw b =
    if rung b < 2 ^ 52 then .number (sgn b) (rung b) leastP
    else if rung b < infR then .number (sgn b) (2 ^ 52 + rung b % 2 ^ 52) (leastP + ((rung b / 2 ^ 52 - 1 : Nat) : Int))
    else if rung b = infR then .infinity (sgn b) else .nan (sgn b) (rung b - infR) := rfl

theorem isNan_eq (b : Nat) : isNan b = decide (infR < rung b) := by
  unfold isNan
  rw [rdw_eq]
  unfold infR
  split
  · simp [Ieee.Datum.isNaN]; omega
  · split
    · simp [Ieee.Datum.isNaN]; omega
    · split
      · simp [Ieee.Datum.isNaN]; omega
      · simp [Ieee.Datum.isNaN]; omega

theorem magn_lt {r r' : Nat} (h : r < r') : magn r < magn r' := by
  unfold magn
  by_cases h1 : r' < 2 ^ 52
  · rw [if_pos (by omega), if_pos h1]; exact h
  · rw [if_neg h1]
    have hp : 0 < 2 ^ (r' / 2 ^ 52 - 1) := Nat.two_pow_pos _
    by_cases h2 : r < 2 ^ 52
    · rw [if_pos h2]
      calc r < 2 ^ 52 := h2
        _ ≤ (2 ^ 52 + r' % 2 ^ 52) * 1 := by omega
        _ ≤ _ := Nat.mul_le_mul_left _ hp
    · rw [if_neg h2]
      have hf : r % 2 ^ 52 < 2 ^ 52 := Nat.mod_lt _ (by decide)
      by_cases he : r / 2 ^ 52 = r' / 2 ^ 52
      · rw [he]
        refine Nat.mul_lt_mul_of_pos_right ?_ hp
        omega
      · have hlt : r / 2 ^ 52 < r' / 2 ^ 52 := by omega
        have h1' : 1 ≤ r / 2 ^ 52 := by omega
        calc (2 ^ 52 + r % 2 ^ 52) * 2 ^ (r / 2 ^ 52 - 1) < (2 ^ 52 * 2) * 2 ^ (r / 2 ^ 52 - 1) := Nat.mul_lt_mul_of_pos_right (by omega) (Nat.two_pow_pos _)
          _ = 2 ^ 52 * 2 ^ (r / 2 ^ 52 - 1 + 1) := by rw [show 2 ^ (r / 2 ^ 52 - 1 + 1) = 2 ^ (r / 2 ^ 52 - 1) * 2 from Nat.pow_succ _ _, Nat.mul_assoc, Nat.mul_comm 2]
          _ ≤ 2 ^ 52 * 2 ^ (r' / 2 ^ 52 - 1) := Nat.mul_le_mul_left _ (Nat.pow_le_pow_right (by decide) (by omega))
          _ ≤ _ := Nat.mul_le_mul_right _ (by omega)

theorem magn_inj {r r' : Nat} : (magn r < magn r' ↔ r < r') ∧ (magn r = magn r' ↔ r = r') := by
  rcases Nat.lt_trichotomy r r' with h | h | h
  · have := magn_lt h; exact ⟨by omega, by omega⟩
  · subst h; exact ⟨by omega, by simp⟩
  · have := magn_lt h; exact ⟨by omega, by omega⟩

theorem compare_int (a b : Int) : compare a b = if a < b then .lt else if a = b then .eq else .gt := by
  simp only [compare, compareOfLessAndEq]

theorem compare_scale (a b : Int) (k : Nat) : compare (a * 2 ^ k) (b * 2 ^ k) = compare a b := by
  have hp : (0 : Int) < 2 ^ k := Int.pow_pos (by decide)
  rw [compare_int, compare_int]
  by_cases h1 : a < b
  · rw [if_pos h1, if_pos (Int.mul_lt_mul_of_pos_right h1 hp)]
  · rw [if_neg h1, if_neg (by intro h; exact h1 (Int.lt_of_mul_lt_mul_right h (Int.le_of_lt hp)))]
    by_cases h2 : a = b
    · rw [if_pos h2, if_pos (by rw [h2])]
    · rw [if_neg h2, if_neg (by intro h; exact h2 (Int.eq_of_mul_eq_mul_right (Int.ne_of_gt hp) h))]

theorem signed_eq (s : Bool) (m k : Nat) : Ieee.signed s m k = (if s then -(m : Int) else m) * 2 ^ k := by
  unfold Ieee.signed
  rw [Nat.shiftLeft_eq]
  cases s <;> simp [Int.neg_mul]

theorem signed_scale (s : Bool) (m a c : Nat) (h : c ≤ a) : Ieee.signed s m a = Ieee.signed s m (a - c) * 2 ^ c := by
  rw [signed_eq, signed_eq, Int.mul_assoc, ← Int.pow_add, Nat.sub_add_cancel h]

theorem order_numbers (s t : Bool) (m k a b : Nat) : (Ieee.Datum.number s m (leastP + a)).order (.number t k (leastP + b)) = some (compare (Ieee.signed s m a) (Ieee.signed t k b)) := by
  have hb : min (leastP + (a : Int)) (leastP + b) = leastP + ((min a b : Nat) : Int) := by
    rcases Nat.le_total a b with h | h
    · rw [Nat.min_eq_left h, Int.min_eq_left (by omega)]
    · rw [Nat.min_eq_right h, Int.min_eq_right (by omega)]
  simp only [Ieee.Datum.order, hb]
  rw [show (leastP + (a : Int) - (leastP + ((min a b : Nat) : Int))).toNat = a - min a b by omega, show (leastP + (b : Int) - (leastP + ((min a b : Nat) : Int))).toNat = b - min a b by omega]
  rw [signed_scale s m a (min a b) (Nat.min_le_left _ _), signed_scale t k b (min a b) (Nat.min_le_right _ _), compare_scale]

theorem rdw_finite {b : Nat} (h : rung b < infR) : ∃ m a : Nat, rdw b = .number (sgn b) m (leastP + a) ∧ m * 2 ^ a = magn (rung b) := by
  rw [rdw_eq]
  by_cases h1 : rung b < 2 ^ 52
  · exact ⟨rung b, 0, by rw [if_pos h1]; simp, by simp [magn, h1]⟩
  · exact ⟨_, _, by rw [if_neg h1, if_pos h], by simp [magn, h1]⟩

theorem signed_magn {s : Bool} {m a r : Nat} (h : m * 2 ^ a = magn r) : Ieee.signed s m a = if s then -(magn r : Int) else magn r := by
  rw [signed_eq, ← h]
  cases s <;> simp [Int.neg_mul]

/-- How two words stand to each other: by their signs and rungs. -/
theorem ford_eq (x y : Nat) : ford x y = if isNan x || isNan y then none else some (compare (sr x) (sr y)) := by
  show (rdw x).order (rdw y) = _
  rw [isNan_eq, isNan_eq]
  by_cases hx : infR < rung x
  · have : rdw x = .nan (sgn x) (rung x - infR) := by rw [rdw_eq, if_neg (by unfold infR at hx; omega), if_neg (by omega), if_neg (by omega)]
    rw [this]; simp [Ieee.Datum.order, hx]
  · by_cases hy : infR < rung y
    · have : rdw y = .nan (sgn y) (rung y - infR) := by rw [rdw_eq, if_neg (by unfold infR at hy; omega), if_neg (by omega), if_neg (by omega)]
      rw [this]
      simp only [hy, hx, decide_true, decide_false, Bool.or_true, if_true]
      cases rdw x <;> rfl
    · simp only [hy, hx, decide_false, Bool.or_false, Bool.false_eq_true, if_false]
      have hinf : ∀ b, rung b = infR → rdw b = .infinity (sgn b) := fun b hb => by rw [rdw_eq, if_neg (by unfold infR at hb; omega), if_neg (by omega), if_pos hb]
      have hr0 : 0 < infR := by decide
      by_cases hxi : rung x = infR
      · by_cases hyi : rung y = infR
        · rw [hinf x hxi, hinf y hyi]
          simp only [Ieee.Datum.order, sr, hxi, hyi]
          cases sgn x <;> cases sgn y <;> rfl
        · obtain ⟨m, a, hm, _⟩ := rdw_finite (b := y) (by omega)
          rw [hinf x hxi, hm]
          simp only [Ieee.Datum.order, sr, hxi, compare_int]
          cases sgn x <;> cases sgn y <;> simp <;> (try rw [if_neg (by omega), if_neg (by omega)]) <;> (try omega)
      · obtain ⟨m, a, hm, hma⟩ := rdw_finite (b := x) (by omega)
        by_cases hyi : rung y = infR
        · rw [hinf y hyi, hm]
          simp only [Ieee.Datum.order, sr, hyi, compare_int]
          cases sgn x <;> cases sgn y <;> simp <;> (try rw [if_neg (by omega), if_neg (by omega)]) <;> (try omega)
        · obtain ⟨k, b, hk, hkb⟩ := rdw_finite (b := y) (by omega)
          rw [hm, hk, order_numbers, signed_magn hma, signed_magn hkb]
          have h1 := magn_inj (r := rung x) (r' := rung y)
          have h2 := magn_inj (r := rung y) (r' := rung x)
          have h0 : magn 0 = 0 := by decide
          have h3 := magn_inj (r := 0) (r' := rung x)
          have h4 := magn_inj (r := 0) (r' := rung y)
          rw [h0] at h3 h4
          simp only [sr, compare_int]
          congr 1
          cases sgn x <;> cases sgn y <;> simp only [if_true, if_false, Bool.false_eq_true]
          · by_cases hl : rung x < rung y
            · rw [if_pos (by have := h1.1.2 hl; omega), if_pos (by omega)]
            · by_cases he : rung x = rung y
              · rw [he]; simp
              · rw [if_neg (by have := h1.1; omega), if_neg (by have := h1.2; omega), if_neg (by omega), if_neg (by omega)]
          · by_cases he : rung x = 0 ∧ rung y = 0
            · rw [he.1, he.2]; simp [h0]
            · rw [if_neg (by omega), if_neg (by have := h3.2; have := h4.2; omega), if_neg (by omega), if_neg (by omega)]
          · by_cases he : rung x = 0 ∧ rung y = 0
            · rw [he.1, he.2]; simp [h0]
            · rw [if_pos (by have := h3.1; have := h4.1; omega), if_pos (by omega)]
          · by_cases hl : rung y < rung x
            · rw [if_pos (by have := h2.1.2 hl; omega), if_pos (by omega)]
            · by_cases he : rung x = rung y
              · rw [he]; simp
              · rw [if_neg (by have := h2.1; omega), if_neg (by have := h1.2; omega), if_neg (by omega), if_neg (by omega)]

/-! ### comparisons as Bools -/
section
variable {x y : Nat}
theorem ford_cmp (hx : isNan x = false) (hy : isNan y = false) : ford x y = some (compare (sr x) (sr y)) := by rw [ford_eq, hx, hy]; rfl
theorem ford_gt (hx : isNan x = false) (hy : isNan y = false) : (ford x y == some .gt) = decide (sr y < sr x) := by
  rw [ford_cmp hx hy, compare_int]
  by_cases h1 : sr x < sr y
  · rw [if_pos h1]; simp; omega
  · rw [if_neg h1]
    by_cases h2 : sr x = sr y
    · rw [if_pos h2]; simp; omega
    · rw [if_neg h2]; simp; omega
theorem ford_lt (hx : isNan x = false) (hy : isNan y = false) : (ford x y == some .lt) = decide (sr x < sr y) := by
  rw [ford_cmp hx hy, compare_int]
  by_cases h1 : sr x < sr y
  · rw [if_pos h1]; simp; omega
  · rw [if_neg h1]
    by_cases h2 : sr x = sr y
    · rw [if_pos h2]; simp; omega
    · rw [if_neg h2]; simp; omega
theorem ford_eql (hx : isNan x = false) (hy : isNan y = false) : (ford x y == some .eq) = decide (sr x = sr y) := by
  rw [ford_cmp hx hy, compare_int]
  by_cases h1 : sr x < sr y
  · rw [if_pos h1]; simp; omega
  · rw [if_neg h1]
    by_cases h2 : sr x = sr y
    · rw [if_pos h2]; simp; omega
    · rw [if_neg h2]; simp; omega
end
theorem ford_nanL {x y : Nat} (h : isNan x = true) : ford x y = none := by rw [ford_eq, h]; rfl
theorem ford_nanR {x y : Nat} (h : isNan y = true) : ford x y = none := by rw [ford_eq, h, Bool.or_true]; rfl

/-! ### bits -/
theorem wrap_u64 (n : Nat) (h : n < 2 ^ 64) : IntKind.u64.wrap (n : Int) = n := wu64 (by omega)
theorem bits_and (a b : Nat) (ha : a < 2 ^ 64) (hb : b < 2 ^ 64) : bitsOp .and .u64 (a : Int) (b : Int) = ((a &&& b : Nat) : Int) := by
  show IntKind.u64.wrap (((BitVec.ofInt 64 (a : Int)) &&& (BitVec.ofInt 64 (b : Int))).toNat : Int) = _
  rw [BitVec.ofInt_natCast, BitVec.ofInt_natCast, BitVec.toNat_and, BitVec.toNat_ofNat, BitVec.toNat_ofNat, Nat.mod_eq_of_lt ha, Nat.mod_eq_of_lt hb]
  exact wrap_u64 _ (Nat.lt_of_le_of_lt Nat.and_le_left ha)
theorem bits_or (a b : Nat) (ha : a < 2 ^ 64) (hb : b < 2 ^ 64) : bitsOp .or .u64 (a : Int) (b : Int) = ((a ||| b : Nat) : Int) := by
  show IntKind.u64.wrap (((BitVec.ofInt 64 (a : Int)) ||| (BitVec.ofInt 64 (b : Int))).toNat : Int) = _
  rw [BitVec.ofInt_natCast, BitVec.ofInt_natCast, BitVec.toNat_or, BitVec.toNat_ofNat, BitVec.toNat_ofNat, Nat.mod_eq_of_lt ha, Nat.mod_eq_of_lt hb]
  exact wrap_u64 _ (Nat.or_lt_two_pow ha hb)
theorem bits_xor (a b : Nat) (ha : a < 2 ^ 64) (hb : b < 2 ^ 64) : bitsOp .xor .u64 (a : Int) (b : Int) = ((a ^^^ b : Nat) : Int) := by
  show IntKind.u64.wrap (((BitVec.ofInt 64 (a : Int)) ^^^ (BitVec.ofInt 64 (b : Int))).toNat : Int) = _
  rw [BitVec.ofInt_natCast, BitVec.ofInt_natCast, BitVec.toNat_xor, BitVec.toNat_ofNat, BitVec.toNat_ofNat, Nat.mod_eq_of_lt ha, Nat.mod_eq_of_lt hb]
  exact wrap_u64 _ (Nat.xor_lt_two_pow ha hb)
theorem and_mask (a k : Nat) : a &&& (2 ^ k - 1) = a % 2 ^ k := Nat.and_two_pow_sub_one_eq_mod a k
theorem bits_andNot (a b : Nat) (ha : a < 2 ^ 64) (hb : b < 2 ^ 64) : bitsOp .andNot .u64 (a : Int) (b : Int) = ((a &&& (2 ^ 64 - 1 - b) : Nat) : Int) := by
  show IntKind.u64.wrap (((BitVec.ofInt 64 (a : Int)) &&& ~~~(BitVec.ofInt 64 (b : Int))).toNat : Int) = _
  rw [BitVec.ofInt_natCast, BitVec.ofInt_natCast, BitVec.toNat_and, BitVec.toNat_not, BitVec.toNat_ofNat, BitVec.toNat_ofNat, Nat.mod_eq_of_lt ha, Nat.mod_eq_of_lt hb]
  exact wrap_u64 _ (Nat.lt_of_le_of_lt Nat.and_le_left ha)
theorem absbits (b : Nat) (hb : b < 2 ^ 64) : bitsOp .andNot .u64 (b : Int) 9223372036854775808 = ((b % 2 ^ 63 : Nat) : Int) := by
  have := bits_andNot b 9223372036854775808 hb (by decide)
  rw [show ((9223372036854775808 : Nat) : Int) = 9223372036854775808 from rfl] at this
  rw [this, show 2 ^ 64 - 1 - 9223372036854775808 = 2 ^ 63 - 1 from rfl, and_mask]
theorem shr_nat (b k : Nat) : (b : Int).fdiv (2 ^ k) = ((b / 2 ^ k : Nat) : Int) := by
  rw [Int.fdiv_eq_ediv_of_nonneg _ (Int.le_of_lt (Int.pow_pos (by decide)))]
  rw [show ((2 : Int) ^ k) = ((2 ^ k : Nat) : Int) by simp]
  rfl
theorem wrap_i64_hi {b : Nat} (h : 2 ^ 63 ≤ b) (h2 : b < 2 ^ 64) : IntKind.i64.wrap (b : Int) = (b : Int) - 2 ^ 64 := by
  rw [IntKind.wrap_i64]; omega

/-! ### the page's numbers -/
def classN (b : Nat) : Int := if isNan b then 5 else if rung b = infR then 4 else if 2 ^ 52 ≤ rung b then 3 else if 0 < rung b then 2 else if 2 ^ 63 ≤ b then 1 else 0
def orderN (b : Nat) : Nat := if isNan b then 2 ^ 64 - 1 else if 2 ^ 63 ≤ b then 2 ^ 64 - 1 - b else b + 2 ^ 63

theorem rung_abs (b : Nat) : rung (b % 2 ^ 63) = rung b := by unfold rung; omega
theorem sgn_abs (b : Nat) : sgn (b % 2 ^ 63) = false := by
  unfold sgn
  rw [Nat.div_eq_of_lt (Nat.mod_lt _ (by decide))]; rfl
theorem isNan_abs (b : Nat) : isNan (b % 2 ^ 63) = isNan b := by rw [isNan_eq, isNan_eq, rung_abs]
theorem sr_abs (b : Nat) : sr (b % 2 ^ 63) = rung b := by unfold sr; rw [sgn_abs, rung_abs]; rfl

theorem order_bits {b : Nat} (hb : b < 2 ^ 64) (hn : isNan b = false) :
    bitsOp .xor .u64 (b : Int) (bitsOp .or .u64 (IntKind.u64.wrap ((IntKind.i64.wrap (b : Int)).fdiv (2 ^ 63))) 9223372036854775808) = (orderN b : Int) := by
  unfold orderN
  rw [hn, if_neg (by decide)]
  by_cases h : 2 ^ 63 ≤ b
  · rw [wrap_i64_hi h hb, if_pos h]
    have h1 : ((b : Int) - 2 ^ 64).fdiv (2 ^ 63) = -1 := by
      rw [Int.fdiv_eq_ediv_of_nonneg _ (by decide)]; omega
    rw [h1, show IntKind.u64.wrap (-1) = ((2 ^ 64 - 1 : Nat) : Int) from rfl]
    have h2 := bits_or (2 ^ 64 - 1) 9223372036854775808 (by decide) (by decide)
    rw [show ((9223372036854775808 : Nat) : Int) = 9223372036854775808 from rfl] at h2
    rw [h2, bits_xor _ _ hb (by decide), show (2 ^ 64 - 1 ||| 9223372036854775808) = 2 ^ 64 - 1 from rfl]
    congr 1
    have : b ^^^ (2 ^ 64 - 1) = 2 ^ 64 - 1 - b := by
      have h3 := BitVec.toNat_not (x := BitVec.ofNat 64 b)
      rw [← BitVec.xor_allOnes, BitVec.toNat_xor, BitVec.toNat_allOnes, BitVec.toNat_ofNat, Nat.mod_eq_of_lt hb] at h3
      exact h3
    exact this
  · rw [w64 (by omega), if_neg h]
    have h1 : (b : Int).fdiv (2 ^ 63) = 0 := by
      rw [Int.fdiv_eq_ediv_of_nonneg _ (by decide)]; omega
    rw [h1, show IntKind.u64.wrap 0 = ((0 : Nat) : Int) from rfl]
    have h2 := bits_or 0 9223372036854775808 (by decide) (by decide)
    rw [show ((9223372036854775808 : Nat) : Int) = 9223372036854775808 from rfl] at h2
    rw [h2, bits_xor _ _ hb (by decide)]
    congr 1
    show b ^^^ 2 ^ 63 = b + 2 ^ 63
    have h3 : b < 2 ^ 63 := by omega
    have h4 : (b ^^^ 2 ^ 63) % 2 ^ 63 = b := by rw [Nat.xor_mod_two_pow, Nat.mod_eq_of_lt h3]; simp
    have h5 : (b ^^^ 2 ^ 63) / 2 ^ 63 = 1 := by rw [Nat.xor_div_two_pow, Nat.div_eq_of_lt h3]; rfl
    omega

end Go.Proofs.Ytkiankpmkglhcaa.J
