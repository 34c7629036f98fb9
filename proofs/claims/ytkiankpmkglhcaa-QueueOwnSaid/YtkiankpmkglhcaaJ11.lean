/- Elements of own arrays: their places, loads and stores; slicing; texts of octets; a kept environment around a loop. -/
import Derived.Test.YtkiankpmkglhcaaJ10
namespace Go.Proofs.Ytkiankpmkglhcaa.J
open Go Go.RowKit
set_option linter.unusedVariables false
set_option linter.unusedSimpArgs false

section
variable {P : Program} {E : Ent} {st : St} {Q : Exit → St → Prop} {n B : Nat} {env : List (Nat × AV)} {own : List Own} {F : List (Value × AV)} {D : List Deferred} {ops : Array Oper} {rest : List Oper}
variable {A : Foot} {a : Act} {w w' : World} {t et ty : TypeId} {pos : String} {af : Array Edge} {d : Nat} {dd : Option Tmp} {gd : Option (Nat × Bool)} {x y : Operand} {g : Bool} {m : Nat}

theorem Rd.of_gp {v u : Value} {off : Nat} (h : Rd w A u (.gp v off)) : ∃ b o n cap, v = .slice (some ⟨b, o, none⟩) n cap ∧ u = .pointer (some ⟨b, o + off, none⟩) := by
  cases h with
  | gp b o n cap off => exact ⟨b, o, n, cap, rfl, rfl⟩

theorem flatten_part {α : Type} {sz : Nat} {xs : List (List α)} (hs : ∀ x ∈ xs, x.length = sz) {m : Nat} {x : List α} (h : xs[m]? = some x) {k : Nat} {y : α} (hk : x[k]? = some y) : xs.flatten[m * sz + k]? = some y :=
  flatten_get xs hs m x h k y hk

theorem SatA.elem (hs : SatA E A st a w) (i : Nat) {v : Value} {e : ETy} {xs : List (List AV)} (ho : st.own[i]? = some (.arr v e xs)) {ys : List AV} (hm : xs[m]? = some ys) :
    ∃ b cap us t, v = .slice (some ⟨b, 0, none⟩) xs.length (cap + 1) ∧ w.heap[b]? = some (.cells us t (0, 0)) ∧ xs.length ≤ cap + 1 ∧ us.size = (cap + 1) * e.sz ∧
        (∀ x ∈ xs, x.length = e.sz) ∧ Cells w A us 0 xs.flatten ∧ Cells w A us (m * e.sz) ys := by
  rcases hs.arr i ho with ⟨_, _, hx⟩ | ⟨b, cap, us, t, hv, h1, h2, h3, h4, h5⟩
  · subst hx; simp at hm
  · refine ⟨b, cap, us, t, hv, h1, h2, h3, h4, h5, fun k y hk => ?_⟩
    have := h5 _ _ (flatten_part h4 hm hk)
    simpa using this

theorem QW.index_arr (i : Nat) {v : Value} {e : ETy} {xs : List (List AV)} {k : IntKind} {j : Int} {off : Nat} (hU : P.underlying t = some (.slice et)) (hT : tySz P et = some (g, n, B)) (hn : e.sz = n)
    (h : Ev E st x (.c v)) (ho : st.own[i]? = some (.arr v e xs)) (hi : Ev E st y (.c (.int k j))) (hjm : j = (m : Int)) (hlt : m < xs.length) (hoff : m * n = off) :
    QW P E st ⟨dd, .indexAddr t x y, ty, pos, af, gd⟩ (.gp v off) := .pure fun A a w hs => by
  subst hjm hoff hn
  rcases hs.arr i ho with ⟨_, _, hx⟩ | ⟨b, cap, us, t', hv, h1, h2, h3, h4, h5⟩
  · subst hx; simp at hlt
  · subst hv
    refine ⟨.pointer (some ⟨b, 0 + m * e.sz, none⟩), ?_, .gp b 0 _ _ _⟩
    simp only [execOp, h.eq hs, hi.eq hs, Instr.indexAt, asIntOf, Sem.run_bind, Sem.run_pure, Result.andThen_ok, run_underlying _ hU]
    rw [if_pos (by omega)]
    simp [run_sizeOf hT, add_at]

theorem QW.field_gp {v : Value} {off f o off' : Nat} (hF : fieldOff P t f = some o) (h : Ev E st x (.gp v off)) (ho : off + o = off') :
    QW P E st ⟨dd, .fieldAddr t x f, ty, pos, af, gd⟩ (.gp v off') := .pure fun A a w hs => by
  subst ho
  obtain ⟨b, o0, n, cap, rfl, hu⟩ := (h A a w hs).of_gp
  refine ⟨.pointer (some ⟨b, o0 + (off + o), none⟩), ?_, .gp b o0 n cap _⟩
  simp only [execOp, hu, Sem.run_bind, fieldOff_run hF, Result.andThen_ok, Sem.run_pure, Nat.add_assoc]

theorem QW.nil_gp {v : Value} {off : Nat} (h : Ev E st x (.gp v off)) : QW P E st ⟨dd, .nilCheck x, ty, pos, af, gd⟩ (.gp v off) := .pure fun A a w hs => by
  have hr := h A a w hs
  obtain ⟨b, o0, n, cap, rfl, hu⟩ := hr.of_gp
  exact ⟨_, by simp [execOp, hu], hu ▸ hr⟩

theorem QW.load_gp (i : Nat) {v : Value} {e : ETy} {xs : List (List AV)} {ys zs : List AV} {off o : Nat} (hT : tySz P t = some (true, n, B)) (h : Ev E st x (.gp v off)) (ho : st.own[i]? = some (.arr v e xs))
    (hm : xs[m]? = some ys) (hoff : off = m * e.sz + o) (hz : (ys.drop o).take n = zs) (hl : zs.length = n) : QW P E st ⟨dd, .load t x, ty, pos, af, gd⟩ (.agg zs) := .pure fun A a w hs => by
  obtain ⟨b, cap, us, t', hv, h1, h2, h3, h4, h5, h6⟩ := hs.elem i ho hm
  obtain ⟨b', o0, n', cap', hv', hu⟩ := (h A a w hs).of_gp
  rw [hv'] at hv
  simp only [Value.slice.injEq, Option.some.injEq, Addr.mk.injEq] at hv
  obtain ⟨⟨rfl, rfl, _⟩, _, _⟩ := hv
  subst hz hoff
  obtain ⟨v, r1, r2⟩ := run_loadVar hT h1 ((h6.drop o).take n) hl
  exact ⟨v, by simp only [execOp, Instr.loadAt, hu, Instr.sureAddr, Sem.run_bind, Sem.run_pure, Result.andThen_ok, Nat.zero_add, r1], r2⟩

theorem QW.load_gp1 (i : Nat) {v : Value} {e : ETy} {xs : List (List AV)} {ys : List AV} {z : AV} {off o : Nat} (hT : tySz P t = some (false, n, B)) (h : Ev E st x (.gp v off)) (ho : st.own[i]? = some (.arr v e xs))
    (hm : xs[m]? = some ys) (hoff : off = m * e.sz + o) (hz : ys[o]? = some z) : QW P E st ⟨dd, .load t x, ty, pos, af, gd⟩ z := .pure fun A a w hs => by
  obtain ⟨b, cap, us, t', hv, h1, h2, h3, h4, h5, h6⟩ := hs.elem i ho hm
  obtain ⟨b', o0, n', cap', hv', hu⟩ := (h A a w hs).of_gp
  rw [hv'] at hv
  simp only [Value.slice.injEq, Option.some.injEq, Addr.mk.injEq] at hv
  obtain ⟨⟨rfl, rfl, _⟩, _, _⟩ := hv
  subst hoff
  obtain ⟨u, g1, _, g2⟩ := h6 _ _ hz
  obtain ⟨v, r1, r2⟩ := run_loadVar1 hT h1 g1 g2
  exact ⟨v, by simp only [execOp, Instr.loadAt, hu, Instr.sureAddr, Sem.run_bind, Sem.run_pure, Result.andThen_ok, Nat.zero_add, r1], r2⟩

theorem splice_left {α : Type} {l r zs : List α} {o : Nat} (h : o + zs.length ≤ l.length) : splice (l ++ r) o zs = splice l o zs ++ r := by
  unfold splice
  rw [List.take_append_of_le_length (by omega), List.drop_append_of_le_length (by omega)]
  simp
theorem splice_right {α : Type} {l r zs : List α} {o : Nat} : splice (l ++ r) (l.length + o) zs = l ++ splice r o zs := by
  unfold splice
  rw [List.take_length_add_append, show l.length + o + zs.length = l.length + (o + zs.length) by omega, List.drop_length_add_append]
  simp

theorem flatten_set {α : Type} {sz o : Nat} {zs : List α} : ∀ (xs : List (List α)) (m : Nat) (ys : List α), (∀ x ∈ xs, x.length = sz) → xs[m]? = some ys → o + zs.length ≤ sz →
    (xs.set m (splice ys o zs)).flatten = splice xs.flatten (m * sz + o) zs
  | [], m, ys, _, h, _ => by simp at h
  | x :: xs, 0, ys, hs, h, ho => by
    simp at h; subst h
    have hx := hs x (by simp)
    simp only [List.set_cons_zero, List.flatten_cons, Nat.zero_mul, Nat.zero_add]
    rw [splice_left (by omega)]
  | x :: xs, m + 1, ys, hs, h, ho => by
    have hx := hs x (by simp)
    have ih := flatten_set xs m ys (fun x hx => hs x (by simp [hx])) (by simpa using h) ho
    simp only [List.set_cons_succ, List.flatten_cons, ih]
    rw [show (m + 1) * sz + o = x.length + (m * sz + o) by rw [hx, Nat.succ_mul]; omega, splice_right]

/-- A store into an element of an own array. -/
theorem JL.store_gp (i : Nat) {v : Value} {e : ETy} {xs xs' : List (List AV)} {ys : List AV} {z : AV} {off o : Nat} (hT : tySz P t = some (g, n, B)) (hx : Ev E ⟨m, env, own, F, D⟩ x (.gp v off))
    (ho : own[i]? = some (.arr v e xs)) {k : Nat} (hk : xs[k]? = some ys) (hoff : off = k * e.sz + o) (hy : Ev E ⟨m, env, own, F, D⟩ y z) (hz : z.plain = true) (hm : z.cellsOf.length = n) (hl : Nat.ble (o + n) e.sz = true)
    (hs : xs.set k (splice ys o z.cellsOf) = xs') {own' : List Own} (hown : own.set i (.arr v e xs') = own')
    (h : JL P E ops rest ⟨m, env, own', F, D⟩ Q) :
    JL P E ops (⟨none, .store t x y, ty, pos, af, none⟩ :: rest) ⟨m, env, own, F, D⟩ Q := fun a w ⟨A, hA⟩ => by
  refine wpListIn_plain rfl fun K hK => ?_
  refine wpR (by intro c h; cases h) ?_
  unfold Oper.wp
  subst hs hown
  obtain ⟨b, cap, us, t', hv, h1, h2, h3, h4, h5, h6⟩ := hA.elem i ho hk
  obtain ⟨b', o0, n', cap', hv', hu⟩ := (hx A a w hA).of_gp
  have hvv := hv
  rw [hv'] at hvv
  simp only [Value.slice.injEq, Option.some.injEq, Addr.mk.injEq] at hvv
  obtain ⟨⟨rfl, rfl, _⟩, _, _⟩ := hvv
  obtain ⟨z1, z2, z3⟩ := (hy A a w hA).cellsOf hz
  have hle : o + z.cellsOf.length ≤ e.sz := by rw [hm]; exact Nat.le_of_ble_eq_true hl
  have hkl : k < xs.length := (List.getElem?_eq_some_iff.1 hk).1
  have hyl : ys.length = e.sz := h4 ys (List.mem_of_getElem? hk)
  have hfl := flatten_length xs h4
  have hin : off + z.cellsOf.length ≤ xs.flatten.length := by
    rw [hfl, hoff]
    have : (k + 1) * e.sz ≤ xs.length * e.sz := Nat.mul_le_mul_right _ hkl
    rw [Nat.succ_mul] at this; omega
  have hus : xs.flatten.length ≤ us.size := by rw [hfl, h3]; exact Nat.mul_le_mul_right _ h2
  obtain ⟨w', us', hr, hkp, hz', hb', hsz', hu'⟩ := run_storeVar (P := P) (off := off) hT rfl (z1.trans hm) h1 (by omega) z2
  have hrun : (execOp a.eval ⟨none, .store t x y, ty, pos, af, none⟩).run P w = .ok .skip w' := by
    simp only [execOp, Instr.storeAt, hu, Instr.sureAddr, Sem.run_bind, Sem.run_pure, Result.andThen_ok, Nat.zero_add, hr]
  rw [hrun, Oper.upon_skip]
  have hmem := List.mem_of_getElem? ho
  have hof : (Own.arr v e xs).fp = [b'] := by simp [Own.fp, arrFp, hv]
  have hfp : ∀ fr c, A fr c → c < w.heap.size → w'.heap[c]? = w.heap[c]? := fun fr c hc hlt => hkp.block c hlt fun hm' => by
    simp only [List.mem_singleton] at hm'
    subst hm'
    exact (hA.hp.fp c (fps_mem hmem (by rw [hof]; simp))).2.2 fr hc
  refine hK _ _ (h _ _ ⟨A, hA.step (hkp.mono fun c hc => ?_) (fun _ _ h => h) (hA.hp.upd (o' := .arr v e _) ho rfl (by rw [hof]; exact hkp) hz' (.inr ⟨b', cap, us', t', by simp [hv], hb', by simpa using h2, by rw [hsz', h3], fun x hx => ?_, ?_⟩))⟩)
  · exact fps_mem hmem (by rw [hof]; exact hc)
  · rcases List.mem_or_eq_of_mem_set hx with hx | rfl
    · exact h4 x hx
    · rw [splice_length (by omega), hyl]
  · rw [flatten_set xs k ys h4 hk hle, ← hoff]
    exact (h5.spliced z3 z1 hin hu').keep hfp

theorem QW.len_nil {v : Value} (hU : P.underlying t = some (.slice et)) (h : Ev E st x (.c (.slice none 0 0))) :
    QW P E st ⟨dd, .call ⟨.builtin .len, #[x], #[t]⟩, ty, pos, af, gd⟩ (.c (.int .i64 (0 : Nat))) := .pure fun A a w hs =>
  ⟨_, by simp [execOp, resolve, invoke, builtin, Builtin.len_, run_underlying _ hU, h.eq hs, goInt], .c _⟩

/-! ### slicing -/
theorem run_bound {k : IntKind} {y : Nat} {m : Nat} {c : BoundsCode} (h : m ≤ y) : (Instr.sliceBound (.int k (m : Int)) y c).run P w = .ok m w := by
  simp [Instr.sliceBound, asIntOf, h]

def bnd (k : IntKind) : Option Nat → Option Value
  | none => none
  | some m => some (.int k (m : Int))

theorem run_slice {ad : Option Addr} {len cap : Nat} {k k' : IntKind} (hU : P.underlying t = some (.slice et)) (hT : tySz P et = some (g, n, B)) (lo hi : Option Nat) (h1 : lo.getD 0 ≤ hi.getD len) (h2 : hi.getD len ≤ cap) :
    (Instr.sliceAt t (.slice ad len cap) (bnd k lo) (bnd k' hi) none).run P w = .ok (.slice (if cap = lo.getD 0 then ad else ad.map (·.add (lo.getD 0 * n))) (hi.getD len - lo.getD 0) (cap - lo.getD 0)) w := by
  cases lo <;> cases hi <;> simp only [bnd, Option.getD_some, Option.getD_none] at h1 h2 ⊢ <;>
    simp [Instr.sliceAt, Instr.slice, Instr.sliceBounds, run_underlying _ hU, run_sizeOf hT, run_bound h1, run_bound h2]

theorem run_slice3 {ad : Option Addr} {len cap : Nat} {k k' k'' : IntKind} (hU : P.underlying t = some (.slice et)) (hT : tySz P et = some (g, n, B)) (lo : Option Nat) (hi mx : Nat) (h1 : lo.getD 0 ≤ hi) (h2 : hi ≤ mx) (h3 : mx ≤ cap) :
    (Instr.sliceAt t (.slice ad len cap) (bnd k lo) (some (.int k' (hi : Int))) (some (.int k'' (mx : Int)))).run P w = .ok (.slice (if mx = lo.getD 0 then ad else ad.map (·.add (lo.getD 0 * n))) (hi - lo.getD 0) (mx - lo.getD 0)) w := by
  cases lo <;> simp only [bnd, Option.getD_some, Option.getD_none] at h1 h2 h3 ⊢ <;>
    simp [Instr.sliceAt, Instr.slice, Instr.sliceBounds, run_underlying _ hU, run_sizeOf hT, run_bound h1, run_bound h2, run_bound h3]

theorem flatten_drop {α : Type} {sz : Nat} : ∀ (xs : List (List α)), (∀ x ∈ xs, x.length = sz) → ∀ l, (xs.drop l).flatten = xs.flatten.drop (l * sz)
  | xs, _, 0 => by simp
  | [], _, l + 1 => by simp
  | x :: xs, hs, l + 1 => by
    have hx := hs x (by simp)
    rw [List.drop_succ_cons, flatten_drop xs (fun x hx => hs x (by simp [hx])) l, List.flatten_cons, show (l + 1) * sz = x.length + l * sz by rw [hx, Nat.succ_mul]; omega, List.drop_length_add_append]
theorem flatten_take {α : Type} {sz : Nat} : ∀ (xs : List (List α)), (∀ x ∈ xs, x.length = sz) → ∀ l, (xs.take l).flatten = xs.flatten.take (l * sz)
  | xs, _, 0 => by simp
  | [], _, l + 1 => by simp
  | x :: xs, hs, l + 1 => by
    have hx := hs x (by simp)
    rw [List.take_succ_cons, List.flatten_cons, flatten_take xs (fun x hx => hs x (by simp [hx])) l, List.flatten_cons, show (l + 1) * sz = x.length + l * sz by rw [hx, Nat.succ_mul]; omega, List.take_length_add_append]

theorem Rd.sub {fr clip c' : Bool} {e : ETy} {xs : List (List AV)} {ad : Option Addr} {len cap cap' l h : Nat} (hr : Rd w A (.slice ad len cap) (.sl fr clip e xs)) (hlh : l ≤ h) (hh : h ≤ xs.length) (hcap : h - l ≤ cap') (hc : c' = true → cap' = h - l)
    (ad' : Option Addr) (had : l < h → ad' = ad.map (·.add (l * e.sz))) : Rd w A (.slice ad' (h - l) cap') (.sl fr c' e ((xs.take h).drop l)) := by
  by_cases hz : l = h
  · subst hz
    have : (xs.take l).drop l = [] := by simp
    rw [this, Nat.sub_self]
    exact .emp _ _ _ _ _ fun hh => by have := hc hh; omega
  · have hlt : l < h := by omega
    cases hr with
    | emp => simp at hh; omega
    | sl _ _ _ _ b off cap cs t fz u hA hb hcap0 hclip hsz hreach hu hr =>
      rw [had hlt]
      have hlen : ((xs.take h).drop l).length = h - l := by simp; omega
      have hfl : ((xs.take h).drop l).flatten = (xs.flatten.take (h * e.sz)).drop (l * e.sz) := by
        rw [flatten_drop _ (fun x hx => hsz x (List.mem_of_mem_take hx)), flatten_take _ hsz]
      have hget : ∀ k y, ((xs.take h).drop l).flatten[k]? = some y → xs.flatten[l * e.sz + k]? = some y := fun k y hk => by
        rw [hfl, List.getElem?_drop, List.getElem?_take] at hk
        split at hk
        · exact hk
        · cases hk
      rw [← hlen, Option.map_some, add_at]
      refine .sl _ _ _ _ b (off + l * e.sz) cap' cs t fz (fun k => u (l * e.sz + k)) hA hb (by omega) (fun hh => by rw [hc hh, hlen]) (fun x hx => hsz x (List.mem_of_mem_take (List.mem_of_mem_drop hx))) ?_ (fun k y hk => ?_) (fun k y hk => hr _ _ (hget k y hk))
      · refine Nat.le_trans (Nat.mul_le_mul_right _ ?_) hreach; simp; omega
      · have := hu _ _ (hget k y hk)
        rw [Nat.add_assoc]; exact this

theorem Rd.sl_val {v : Value} {fr clip : Bool} {e : ETy} {xs : List (List AV)} (h : Rd w A v (.sl fr clip e xs)) : ∃ ad cap, v = .slice ad xs.length cap ∧ xs.length ≤ cap ∧ (clip = true → cap = xs.length) := by
  obtain ⟨ad, cap, hv, h1, h2, _⟩ := h.of_sl
  exact ⟨ad, cap, hv, h2, h1⟩

theorem EvBnd {k : IntKind} {i : Int} {l : Nat} {o : Operand} (h : Ev E st o (.c (.int k i))) (hi : i = (l : Int)) {A : Foot} {a : Act} {w : World} (hs : SatA E A st a w) : a.eval o = .int k (l : Int) := by rw [h.eq hs, hi]

section
variable {fr clip : Bool} {e : ETy} {xs : List (List AV)} {lo hi mx : Operand} {k k' k'' : IntKind} {i j j' : Int} {l h h' : Nat}
theorem QW.slice_L (hU : P.underlying t = some (.slice et)) (hT : tySz P et = some (g, n, B)) (hn : e.sz = n) (hx : Ev E st x (.sl fr clip e xs)) (hlo : Ev E st lo (.c (.int k i))) (hi : i = (l : Int)) (hl : l ≤ xs.length) :
    QW P E st ⟨dd, .slice t x (some lo) none none, ty, pos, af, gd⟩ (.sl fr clip e (xs.drop l)) := .pure fun A a w hs => by
  have hr := hx A a w hs
  obtain ⟨ad, cap, hv, h1, h2⟩ := hr.sl_val
  rw [hv] at hr
  refine ⟨.slice (if cap = l then ad else ad.map (·.add (l * n))) (xs.length - l) (cap - l), ?_, ?_⟩
  · have := run_slice (P := P) (w := w) (ad := ad) (k := k) (k' := .i64) hU hT (some l) none (len := xs.length) (cap := cap) (by simpa using hl) (by simpa using h1)
    simp only [bnd, Option.getD_some, Option.getD_none] at this
    simp only [execOp, hv, Option.map_some, Option.map_none, EvBnd hlo hi hs, Sem.run_bind, this, Result.andThen_ok, Sem.run_pure]
  · have := hr.sub (c' := clip) (cap' := cap - l) (l := l) (h := xs.length) hl (Nat.le_refl _) (by omega) (fun hc => by rw [h2 hc]) (if cap = l then ad else ad.map (·.add (l * n))) (fun hlt => by rw [if_neg (by omega), hn])
    simpa using this
theorem QW.slice_H (hU : P.underlying t = some (.slice et)) (hT : tySz P et = some (g, n, B)) (hn : e.sz = n) (hx : Ev E st x (.sl fr clip e xs)) (hhi : Ev E st hi (.c (.int k j))) (hj : j = (h : Int)) (hh : h ≤ xs.length) :
    QW P E st ⟨dd, .slice t x none (some hi) none, ty, pos, af, gd⟩ (.sl fr false e (xs.take h)) := .pure fun A a w hs => by
  have hr := hx A a w hs
  obtain ⟨ad, cap, hv, h1, h2⟩ := hr.sl_val
  rw [hv] at hr
  refine ⟨.slice (if cap = 0 then ad else ad.map (·.add (0 * n))) (h - 0) (cap - 0), ?_, ?_⟩
  · have := run_slice (P := P) (w := w) (ad := ad) (k := .i64) (k' := k) hU hT none (some h) (len := xs.length) (cap := cap) (by simp) (by simp; omega)
    simp only [bnd, Option.getD_some, Option.getD_none] at this
    simp only [execOp, hv, Option.map_some, Option.map_none, EvBnd hhi hj hs, Sem.run_bind, this, Result.andThen_ok, Sem.run_pure]
  · have := hr.sub (c' := false) (cap' := cap - 0) (l := 0) (h := h) (Nat.zero_le _) hh (by omega) (fun hc => by cases hc) (if cap = 0 then ad else ad.map (·.add (0 * n))) (fun hlt => by rw [if_neg (by omega), hn])
    simpa using this
theorem QW.slice_LH (hU : P.underlying t = some (.slice et)) (hT : tySz P et = some (g, n, B)) (hn : e.sz = n) (hx : Ev E st x (.sl fr clip e xs)) (hlo : Ev E st lo (.c (.int k i))) (hhi : Ev E st hi (.c (.int k' j))) (hi0 : i = (l : Int)) (hj : j = (h : Int))
    (hlh : l ≤ h) (hh : h ≤ xs.length) : QW P E st ⟨dd, .slice t x (some lo) (some hi) none, ty, pos, af, gd⟩ (.sl fr false e ((xs.take h).drop l)) := .pure fun A a w hs => by
  have hr := hx A a w hs
  obtain ⟨ad, cap, hv, h1, h2⟩ := hr.sl_val
  rw [hv] at hr
  refine ⟨.slice (if cap = l then ad else ad.map (·.add (l * n))) (h - l) (cap - l), ?_, ?_⟩
  · have := run_slice (P := P) (w := w) (ad := ad) (k := k) (k' := k') hU hT (some l) (some h) (len := xs.length) (cap := cap) (by simpa using hlh) (by simp; omega)
    simp only [bnd, Option.getD_some, Option.getD_none] at this
    simp only [execOp, hv, Option.map_some, Option.map_none, EvBnd hlo hi0 hs, EvBnd hhi hj hs, Sem.run_bind, this, Result.andThen_ok, Sem.run_pure]
  · exact hr.sub (c' := false) (cap' := cap - l) hlh hh (by omega) (fun hc => by cases hc) (if cap = l then ad else ad.map (·.add (l * n))) (fun hlt => by rw [if_neg (by omega), hn])
/-- x[:h:h] -/
theorem QW.slice3_H (hU : P.underlying t = some (.slice et)) (hT : tySz P et = some (g, n, B)) (hn : e.sz = n) (hx : Ev E st x (.sl fr clip e xs)) (hhi : Ev E st hi (.c (.int k' j))) (hmx : Ev E st mx (.c (.int k'' j'))) (hj : j = (h : Int)) (hj' : j' = (h : Int))
    (hh : h ≤ xs.length) : QW P E st ⟨dd, .slice t x none (some hi) (some mx), ty, pos, af, gd⟩ (.sl fr true e (xs.take h)) := .pure fun A a w hs => by
  have hr := hx A a w hs
  obtain ⟨ad, cap, hv, h1, h2⟩ := hr.sl_val
  rw [hv] at hr
  refine ⟨.slice (if h = 0 then ad else ad.map (·.add (0 * n))) (h - 0) (h - 0), ?_, ?_⟩
  · have := run_slice3 (P := P) (w := w) (ad := ad) (k := .i64) (k' := k') (k'' := k'') hU hT none h h (len := xs.length) (cap := cap) (by simp) (Nat.le_refl _) (by omega)
    simp only [bnd, Option.getD_some, Option.getD_none] at this
    simp only [execOp, hv, Option.map_some, Option.map_none, EvBnd hhi hj hs, EvBnd hmx hj' hs, Sem.run_bind, this, Result.andThen_ok, Sem.run_pure]
  · have := hr.sub (c' := true) (cap' := h - 0) (l := 0) (h := h) (Nat.zero_le _) hh (by omega) (fun hc => rfl) (if h = 0 then ad else ad.map (·.add (0 * n))) (fun hlt => by rw [if_neg (by omega), hn])
    simpa using this
end

theorem extract_mk (l : List UInt8) (a b : Nat) : (⟨l.toArray⟩ : ByteArray).extract a b = ⟨((l.take b).drop a).toArray⟩ := by
  apply ByteArray.ext
  simp [ByteArray.data_extract, List.extract_eq_take_drop]
  rw [List.drop_take]

section
variable {l : List UInt8} {lo hi : Operand} {k k' : IntKind} {i j : Int} {m h : Nat}
theorem QW.slice_sL (hU : P.underlying t = some .string) (hx : Ev E st x (.c (str l))) (hlo : Ev E st lo (.c (.int k i))) (hi : i = (m : Int)) (hl : m ≤ l.length) :
    QW P E st ⟨dd, .slice t x (some lo) none none, ty, pos, af, gd⟩ (.c (str (l.drop m))) := .pure fun A a w hs => by
  refine ⟨str (l.drop m), ?_, .c _⟩
  have hsz : (⟨l.toArray⟩ : ByteArray).size = l.length := by simp [ByteArray.size]
  simp only [execOp, hx.eq hs, Option.map_some, Option.map_none, EvBnd hlo hi hs, Instr.sliceAt, Instr.slice, Instr.sliceBounds, run_underlying _ hU, Sem.run_bind, Sem.run_pure, Result.andThen_ok, hsz, extract_mk]
  simp [run_bound hl]
theorem QW.slice_sH (hU : P.underlying t = some .string) (hx : Ev E st x (.c (str l))) (hhi : Ev E st hi (.c (.int k i))) (hi' : i = (m : Int)) (hl : m ≤ l.length) :
    QW P E st ⟨dd, .slice t x none (some hi) none, ty, pos, af, gd⟩ (.c (str (l.take m))) := .pure fun A a w hs => by
  refine ⟨str (l.take m), ?_, .c _⟩
  have hsz : (⟨l.toArray⟩ : ByteArray).size = l.length := by simp [ByteArray.size]
  simp only [execOp, hx.eq hs, Option.map_some, Option.map_none, EvBnd hhi hi' hs, Instr.sliceAt, Instr.slice, Instr.sliceBounds, run_underlying _ hU, Sem.run_bind, Sem.run_pure, Result.andThen_ok, hsz, extract_mk]
  simp [run_bound hl]
end

/-! ### texts of octets -/
def bytesAV (l : List UInt8) : List (List AV) := l.map fun b => [.c (.int .u8 (b.toNat : Int))]
theorem bytesAV_length (l : List UInt8) : (bytesAV l).length = l.length := by simp [bytesAV]
theorem bytesAV_get {l : List UInt8} {i : Nat} {b : UInt8} (h : l[i]? = some b) : (bytesAV l)[i]? = some [.c (.int .u8 (b.toNat : Int))] := by simp [bytesAV, h]
theorem bytesAV_append (l r : List UInt8) : bytesAV (l ++ r) = bytesAV l ++ bytesAV r := by simp [bytesAV]
theorem bytesAV_flat (l : List UInt8) : (bytesAV l).flatten = l.map fun b => .c (.int .u8 (b.toNat : Int)) := flatten_one _ l
theorem bytesAV_take (l : List UInt8) (k : Nat) : (bytesAV l).take k = bytesAV (l.take k) := by simp [bytesAV, List.map_take]
theorem bytesAV_drop (l : List UInt8) (k : Nat) : (bytesAV l).drop k = bytesAV (l.drop k) := by simp [bytesAV, List.map_drop]

end
end Go.Proofs.Ytkiankpmkglhcaa.J
