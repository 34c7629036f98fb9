/- The states of a call, read as plain values: what a concrete value reads as (Rd), what a call owns (Own), and what holds of a frame and a world (Sat). -/
import Derived.WalkKit
import Derived.Orders
import Derived.Defers
import Derived.Recover
import Derived.Below
import Derived.RangeFuncIn
import Derived.OrdersIn
namespace Go.Proofs.Ytkiankpmkglhcaa.J
open Go Go.RowKit
set_option linter.unusedVariables false
set_option linter.unusedSimpArgs false

structure ETy where
  sz : Nat
  bytes : Nat

/-- What a value reads as. -/
inductive AV where
  | c (v : Value)
  | sl (fr clip : Bool) (e : ETy) (xs : List (List AV))
  | ref (fr : Bool) (ys : List AV)
  | agg (ys : List AV)
  | tup (ys : List AV)
  | wh (t : Bool) (x : AV)
  | gp (v : Value) (off : Nat)

abbrev Foot := Bool → Nat → Prop

def reach : Nat := 140737488351232

inductive Rd (w : World) (A : Foot) : Value → AV → Prop
  | c (v : Value) : Rd w A v (.c v)
  | emp (fr clip : Bool) (e : ETy) (a : Option Addr) (cap : Nat) (hc : clip = true → cap = 0) : Rd w A (.slice a 0 cap) (.sl fr clip e [])
  | sl (fr clip : Bool) (e : ETy) (xs : List (List AV)) (b off cap : Nat) (cs : Array Value) (t : TypeId) (fz : Nat × Nat) (u : Nat → Value)
      (hA : A fr b) (hb : w.heap[b]? = some (.cells cs t fz)) (hcap : xs.length ≤ cap) (hclip : clip = true → cap = xs.length)
      (hsz : ∀ x ∈ xs, x.length = e.sz) (hreach : xs.length * e.bytes ≤ reach)
      (hu : ∀ k y, xs.flatten[k]? = some y → cs[off + k]? = some (u k) ∧ (u k).oneCell' = true) (hr : ∀ k y, xs.flatten[k]? = some y → Rd w A (u k) y) :
      Rd w A (.slice (some ⟨b, off, none⟩) xs.length cap) (.sl fr clip e xs)
  | ref (fr : Bool) (ys : List AV) (b off : Nat) (cs : Array Value) (t : TypeId) (fz : Nat × Nat) (u : Nat → Value)
      (hA : A fr b) (hb : w.heap[b]? = some (.cells cs t fz))
      (hu : ∀ k y, ys[k]? = some y → cs[off + k]? = some (u k) ∧ (u k).oneCell' = true) (hr : ∀ k y, ys[k]? = some y → Rd w A (u k) y) :
      Rd w A (.pointer (some ⟨b, off, none⟩)) (.ref fr ys)
  | agg (vs : Array Value) (ys : List AV) (u : Nat → Value) (hn : vs.size = ys.length)
      (hu : ∀ k y, ys[k]? = some y → vs[k]? = some (u k) ∧ (u k).oneCell' = true) (hr : ∀ k y, ys[k]? = some y → Rd w A (u k) y) : Rd w A (.agg vs) (.agg ys)
  | tup (vs : Array Value) (ys : List AV) (u : Nat → Value) (hn : vs.size = ys.length)
      (hu : ∀ k y, ys[k]? = some y → vs[k]? = some (u k)) (hr : ∀ k y, ys[k]? = some y → Rd w A (u k) y) : Rd w A (.tuple vs) (.tup ys)
  | wh (t : Bool) (v : Value) (x : AV) (h : t = true → Rd w A v x) (h0 : t = false → v = undef) : Rd w A v (.wh t x)
  | gp (b o n cap off : Nat) : Rd w A (.pointer (some ⟨b, o + off, none⟩)) (.gp (.slice (some ⟨b, o, none⟩) n cap) off)

theorem Rd.of_wh {w : World} {A : Foot} {v : Value} {t : Bool} {x : AV} (h : Rd w A v (.wh t x)) (ht : t = true) : Rd w A v x := by
  generalize hy : AV.wh t x = y at h
  cases h <;> cases hy
  rename_i h h0
  first | exact h ht | exact h0 ht

theorem Rd.of_wh0 {w : World} {A : Foot} {v : Value} {t : Bool} {x : AV} (h : Rd w A v (.wh t x)) (ht : t = false) : v = undef := by
  generalize hy : AV.wh t x = y at h
  cases h <;> cases hy
  rename_i h h0
  first | exact h ht | exact h0 ht

theorem Rd.eq {w : World} {A : Foot} {v u : Value} (h : Rd w A v (.c u)) : v = u := by cases h; rfl

theorem heap_lt {w : World} {b : Nat} {o : Obj} (h : w.heap[b]? = some o) : b < w.heap.size := (Array.getElem?_eq_some_iff.1 h).1

theorem Rd.move {w w' : World} {A A' : Foot} {v : Value} {x : AV} (h : Rd w A v x)
    (hA : ∀ fr b, A fr b → b < w.heap.size → A' fr b) (hw : ∀ fr b, A fr b → b < w.heap.size → w'.heap[b]? = w.heap[b]?) : Rd w' A' v x := by
  induction h with
  | c v => exact .c v
  | emp fr clip e a cap hc => exact .emp fr clip e a cap hc
  | sl fr clip e xs b off cap cs t fz u hA' hb hcap hclip hsz hreach hu _ ih =>
    exact .sl fr clip e xs b off cap cs t fz u (hA _ _ hA' (heap_lt hb)) (by rw [hw _ _ hA' (heap_lt hb)]; exact hb) hcap hclip hsz hreach hu ih
  | ref fr ys b off cs t fz u hA' hb hu _ ih =>
    exact .ref fr ys b off cs t fz u (hA _ _ hA' (heap_lt hb)) (by rw [hw _ _ hA' (heap_lt hb)]; exact hb) hu ih
  | agg vs ys u hn hu _ ih => exact .agg vs ys u hn hu ih
  | tup vs ys u hn hu _ ih => exact .tup vs ys u hn hu ih
  | wh t v x _ h0 ih => exact .wh t v x ih h0
  | gp b o n cap off => exact .gp b o n cap off

/-- What a call owns and may write. -/
inductive Own where
  | box (b : Nat) (ys : List AV)
  | arr (v : Value) (e : ETy) (xs : List (List AV))
  | grp (l : List Own)

def arrFp : Value → List Nat
  | .slice (some a) _ (_ + 1) => [a.block]
  | _ => []

mutual
def Own.fp : Own → List Nat
  | .box b _ => [b]
  | .arr v _ _ => arrFp v
  | .grp l => Own.fpl l
def Own.fpl : List Own → List Nat
  | [] => []
  | o :: l => o.fp ++ Own.fpl l
end

def fps (l : List Own) : List Nat := l.flatMap Own.fp

/-- Cells from an offset on read as a list. -/
def Cells (w : World) (A : Foot) (us : Array Value) (off : Nat) (ys : List AV) : Prop := ∀ k y, ys[k]? = some y → ∃ u, us[off + k]? = some u ∧ u.oneCell' = true ∧ Rd w A u y

theorem Cells.move {w w' : World} {A A' : Foot} {us : Array Value} {off : Nat} {ys : List AV} (h : Cells w A us off ys)
    (hA : ∀ fr b, A fr b → b < w.heap.size → A' fr b) (hw : ∀ fr b, A fr b → b < w.heap.size → w'.heap[b]? = w.heap[b]?) : Cells w' A' us off ys :=
  fun k y hk => let ⟨u, h1, h0, h2⟩ := h k y hk; ⟨u, h1, h0, h2.move hA hw⟩

mutual
def Own.ok (w : World) (A : Foot) : Own → Prop
  | .box b ys => ∃ us t, w.heap[b]? = some (.cells us t (0, 0)) ∧ us.size = ys.length ∧ Cells w A us 0 ys
  | .arr v e xs => (∃ a, v = .slice a 0 0 ∧ xs = []) ∨
      ∃ b cap us t, v = .slice (some ⟨b, 0, none⟩) xs.length (cap + 1) ∧ w.heap[b]? = some (.cells us t (0, 0)) ∧ xs.length ≤ cap + 1 ∧ us.size = (cap + 1) * e.sz ∧
        (∀ x ∈ xs, x.length = e.sz) ∧ Cells w A us 0 xs.flatten
  | .grp l => Own.okl w A l
def Own.okl (w : World) (A : Foot) : List Own → Prop
  | [] => True
  | o :: l => o.ok w A ∧ Own.okl w A l
end

mutual
theorem Own.ok.move {w w' : World} {A A' : Foot} : ∀ {o : Own}, o.ok w A →
    (∀ fr b, A fr b → b < w.heap.size → A' fr b) → (∀ fr b, A fr b → b < w.heap.size → w'.heap[b]? = w.heap[b]?) →
    (∀ b ∈ o.fp, w'.heap[b]? = w.heap[b]?) → o.ok w' A'
  | .box b ys, h, hA, hw, ho => by
    simp only [Own.ok] at h ⊢
    obtain ⟨us, t, h1, h2, h3⟩ := h
    exact ⟨us, t, by rw [ho b (by simp [Own.fp])]; exact h1, h2, h3.move hA hw⟩
  | .arr v e xs, h, hA, hw, ho => by
    simp only [Own.ok] at h ⊢
    rcases h with h | ⟨b, cap, us, t, hv, h1, h2, h3, h4, h5⟩
    · exact .inl h
    · exact .inr ⟨b, cap, us, t, hv, by rw [ho b (by simp [Own.fp, hv, arrFp])]; exact h1, h2, h3, h4, h5.move hA hw⟩
  | .grp l, h, hA, hw, ho => by
    simp only [Own.ok] at h ⊢
    exact Own.okl.move h hA hw (by simpa [Own.fp] using ho)
theorem Own.okl.move {w w' : World} {A A' : Foot} : ∀ {l : List Own}, Own.okl w A l →
    (∀ fr b, A fr b → b < w.heap.size → A' fr b) → (∀ fr b, A fr b → b < w.heap.size → w'.heap[b]? = w.heap[b]?) →
    (∀ b ∈ Own.fpl l, w'.heap[b]? = w.heap[b]?) → Own.okl w' A' l
  | [], _, _, _, _ => by simp [Own.okl]
  | o :: l, h, hA, hw, ho => by
    simp only [Own.okl] at h ⊢
    exact ⟨Own.ok.move h.1 hA hw (fun b hb => ho b (by simp [Own.fpl, hb])), Own.okl.move h.2 hA hw (fun b hb => ho b (by simp [Own.fpl, hb]))⟩
end

/-- Outside the blocks fp the world w' is as w was. -/
structure Keep (fp : List Nat) (w w' : World) : Prop where
  os : w'.os = w.os
  tape : w'.tape = w.tape
  output : w'.output = w.output
  size : w.heap.size ≤ w'.heap.size
  block : ∀ k, k < w.heap.size → k ∉ fp → w'.heap[k]? = w.heap[k]?

theorem Keep.refl (fp : List Nat) (w : World) : Keep fp w w := ⟨rfl, rfl, rfl, Nat.le_refl _, fun _ _ _ => rfl⟩
theorem Keep.below {w w' : World} (h : Keep [] w w') : Below w.heap.size w w' := ⟨h.os, h.tape, h.output, h.size, fun k hk => h.block k hk (by simp)⟩
theorem Keep.of_below {fp : List Nat} {w w' : World} (h : Below w.heap.size w w') : Keep fp w w' := ⟨h.os, h.tape, h.output, h.size, fun k hk _ => h.block k hk⟩

/-- Two steps; what the second may write the first may, or it is new. -/
theorem Keep.trans {fp fp' : List Nat} {a b c : World} (h : Keep fp a b) (k : Keep fp' b c) (hf : ∀ x ∈ fp', x ∈ fp ∨ a.heap.size ≤ x) : Keep fp a c :=
  ⟨k.os.trans h.os, k.tape.trans h.tape, k.output.trans h.output, Nat.le_trans h.size k.size, fun i hi hn => by
    rw [k.block i (Nat.lt_of_lt_of_le hi h.size) (fun hm => (hf i hm).elim hn (fun hle => by omega)), h.block i hi hn]⟩

/-- The heap's side of a state. n0, fp0, A0: the heap's size, the own blocks and the readable blocks when the call began. -/
structure Hp (n0 : Nat) (fp0 : List Nat) (A0 : Foot) (own : List Own) (w : World) (A : Foot) : Prop where
  mono : ∀ b, A true b → A false b
  sup : ∀ fr b, A0 fr b → A fr b
  sub : ∀ fr b, A fr b → A0 fr b ∨ n0 ≤ b
  lt : ∀ fr b, A fr b → b < w.heap.size
  fp : ∀ b ∈ fps own, b < w.heap.size ∧ (b ∈ fp0 ∨ n0 ≤ b) ∧ ∀ fr, ¬ A fr b
  nodup : (fps own).Nodup
  own : ∀ o ∈ own, o.ok w A

inductive Res where
  | ret (x : AV)
  | pan (v : Value)

def RdE (w : World) (A : Foot) (e : Ending) : Res → Prop
  | .ret x => ∃ v, e = .returned v ∧ Rd w A v x
  | .pan v => e = .panicked [{ v, recovered := false }]

/-- The arguments read as a list. -/
def RdL (w : World) (A : Foot) (vs : Array Value) (xs : List AV) : Prop := vs.size = xs.length ∧ ∀ i x, xs[i]? = some x → Rd w A (vs.getD i undef) x

/-- A CONTRACT: called with arguments that read as xs, owning own, the function comes to R. -/
def AC (P : Program) (f : FuncId) (own : List Own) (xs : List AV) (R : Res → List Own → Prop) : Prop :=
  ∀ (w : World) (A0 : Foot) (vs : Array Value), Hp w.heap.size (fps own) A0 own w A0 → RdL w A0 vs xs →
    Calls P f vs w fun e w' => ∃ r own' A, R r own' ∧ Keep (fps own) w w' ∧ Hp w.heap.size (fps own) A0 own' w' A ∧ RdE w' A e r

theorem AC.mono {P : Program} {f : FuncId} {own : List Own} {xs : List AV} {R R' : Res → List Own → Prop} (h : AC P f own xs R) (hR : ∀ r o, R r o → R' r o) : AC P f own xs R' :=
  fun w A0 vs h1 h2 => (h w A0 vs h1 h2).mono fun _ _ ⟨r, o, A, hr, rest⟩ => ⟨r, o, A, hR _ _ hr, rest⟩

/-- A function of plain values. -/
abbrev Fn (P : Program) (f : FuncId) (xs : List AV) (x : AV) : Prop := AC P f [] xs fun r own' => r = .ret x ∧ own' = []

/-! ### States -/
def lk : List (Nat × AV) → Nat → Option AV
  | [], _ => none
  | (j, x) :: l, i => match Nat.beq j i with | true => some x | false => lk l i

structure St where
  n : Nat
  env : List (Nat × AV)
  own : List Own
  facts : List (Value × AV)
  dfs : List Deferred

structure Ent where
  w0 : World
  fp0 : List Nat
  A0 : Foot
  rd : Option Nat

/-- No fence; the round in which the code stands. -/
def fen (r : Option Nat) : Fence := { Fence.wide with round := r }
theorem callsIn_fen {n : Nat} {P : Program} {r : Option Nat} {f : FuncId} {args : Array Value} {w : World} {R : Ending → World → Prop} : CallsIn (fen r) n P f args w R ↔ Calls P f args w R :=
  (callsIn_wide (n := n) : CallsIn Fence.wide n P f args w R ↔ _)
theorem wpR {P : Program} {r : Option Nat} {o : Oper} {a : Act} {w : World} {K : Act → World → Prop} {Q : Exit → Act → World → Prop} (hnd : ∀ c, o.op ≠ .defer c) (h : o.wp P a w K Q) : o.wpIn (fen r) 0 P a w K Q := by
  refine ⟨fun _ _ => trivial, ?_⟩
  rw [Oper.semAt_eq _ _ _ hnd]
  unfold Oper.wp at h
  generalize (execOp a.eval o).run P w = res at *
  cases res with
  | ok n w' =>
    cases n <;> simp only [Oper.upon, Oper.uponIn] at h ⊢ <;> first | exact h | skip
    · exact ⟨fun h => (by cases h), callsIn_fen.2 h⟩
    · refine ⟨fun h => (by cases h), fun c cs _ => ?_⟩
      obtain ⟨v, w'', hr, hs⟩ := h c cs
      exact ⟨v, w'', hr, stepsIn_wide.2 hs⟩
  | halt x w' => cases x <;> simp only [Oper.upon, Oper.uponIn] at h ⊢ <;> first | exact h | skip

structure SatA (E : Ent) (A : Foot) (st : St) (a : Act) (w : World) : Prop where
  size : a.tmps.size = st.n
  defers : a.defers = st.dfs
  keep : Keep E.fp0 E.w0 w
  hp : Hp E.w0.heap.size E.fp0 E.A0 st.own w A
  env : ∀ i x, lk st.env i = some x → Rd w A (a.tmps.getD i undef) x
  facts : ∀ p ∈ st.facts, Rd w A p.1 p.2

def Sat (E : Ent) (st : St) (a : Act) (w : World) : Prop := ∃ A, SatA E A st a w

/-- The post of code, in states. -/
def lift (E : Ent) (Q : Exit → St → Prop) : Exit → Act → World → Prop := fun e a w => ∃ st, Q e st ∧ Sat E st a w

def J (P : Program) (E : Ent) (c : Code) (st : St) (Q : Exit → St → Prop) : Prop := ∀ a w, Sat E st a w → c.wpIn (fen E.rd) 0 P (lift E Q) a w

def JL (P : Program) (E : Ent) (ops : Array Oper) (l : List Oper) (st : St) (Q : Exit → St → Prop) : Prop := ∀ a w, Sat E st a w → wpListIn (fen E.rd) 0 P ops (lift E Q) l a w

def Wk (s s' : St) : Prop := ∀ E a w, Sat E s a w → Sat E s' a w

theorem Wk.refl (s : St) : Wk s s := fun _ _ _ h => h
theorem Wk.trans {a b c : St} (h : Wk a b) (k : Wk b c) : Wk a c := fun E x w hs => k E x w (h E x w hs)

theorem J.weak {P : Program} {E : Ent} {c : Code} {s s' : St} {Q : Exit → St → Prop} (hw : Wk s s') (h : J P E c s' Q) : J P E c s Q := fun a w hs => h a w (hw E a w hs)
theorem JL.weak {P : Program} {E : Ent} {ops : Array Oper} {l : List Oper} {s s' : St} {Q : Exit → St → Prop} (hw : Wk s s') (h : JL P E ops l s' Q) : JL P E ops l s Q := fun a w hs => h a w (hw E a w hs)

/-! ### Rules for code -/
section
variable {P : Program} {E : Ent} {st : St} {Q : Exit → St → Prop}

def thenQ (K : St → Prop) (Q : Exit → St → Prop) : Exit → St → Prop
  | .normal, s => K s
  | e, s => Q e s

theorem J.mono {c : Code} {Q' : Exit → St → Prop} (h : J P E c st Q) (hq : ∀ e s, Q e s → Q' e s) : J P E c st Q' :=
  fun a w hs => wpIn_mono (h a w hs) fun _ _ _ ⟨s, q, r⟩ => ⟨s, hq _ _ q, r⟩

theorem J.seq {x y : Code} (h : J P E x st (thenQ (fun s => J P E y s Q) Q)) : J P E (.seq x y) st Q := fun a w hs =>
  wpIn_seq (wpIn_mono (h a w hs) fun e a' w' ⟨s, q, r⟩ => by
    cases e <;> first | exact q _ _ r | exact ⟨s, q, r⟩)

theorem J.skip (h : Q .normal st) : J P E .skip st Q := fun _ _ hs => wpIn_skip ⟨st, h, hs⟩
theorem J.label {l : Nat} (h : Q .normal st) : J P E (.label l) st Q := fun _ _ hs => wpIn_label ⟨st, h, hs⟩
theorem J.exit {id : Nat} (h : Q (.exit id) st) : J P E (.exit id) st Q := fun _ _ hs => wpIn_exit ⟨st, h, hs⟩
theorem J.ret (h : Q .ret st) : J P E .ret st Q := fun _ _ hs => wpIn_ret ⟨st, h, hs⟩

def blkQ (id : Nat) (Q : Exit → St → Prop) : Exit → St → Prop
  | .exit id', s => match Nat.beq id' id with | true => Q .normal s | false => Q (.exit id') s
  | e, s => Q e s

theorem J.block {id : Nat} {c : Code} (h : J P E c st (blkQ id Q)) : J P E (.block id c) st Q := fun a w hs =>
  wpIn_block (wpIn_mono (h a w hs) fun e a' w' ⟨s, q, r⟩ => by
    cases e with
    | exit id' =>
      simp only [Exit.inBlock]
      simp only [blkQ] at q
      split at q
      · rename_i hb
        rw [if_pos (Nat.eq_of_beq_eq_true hb)]
        exact ⟨s, q, r⟩
      · rename_i hb
        rw [if_neg (fun hh => by subst hh; simp at hb)]
        exact ⟨s, q, r⟩
    | _ => exact ⟨s, q, r⟩)

theorem J.loop {ι : Type} {c : Code} (I : ι → St) (p : ι → Prop) (μ : ι → Nat) (i0 : ι) (h0 : p i0) (hw : Wk st (I i0))
    (round : ∀ i, p i → J P E c (I i) (thenQ (fun s => ∃ j, p j ∧ μ j < μ i ∧ Wk s (I j)) Q)) : J P E (.loop c) st Q := by
  intro a w hs b k cs hro hb hr
  have key : ∀ n i a w, μ i = n → p i → Sat E (I i) a w →
      ∃ e a' w', lift E Q e a' w' ∧ ArrivesIn (Machine.fenced P (fen E.rd)) P (lone (b.atR a (.code c :: .inLoop c :: k)) cs w) b k cs e a' w' := by
    intro n
    induction n using Nat.strongRecOn with
    | _ n ih =>
      intro i a w hn hp hsat
      obtain ⟨e, a₁, w₁, ⟨s, hq, hss⟩, harr⟩ := round i hp a w hsat b (.inLoop c :: k) cs hro hb hr
      cases e with
      | normal =>
        obtain ⟨j, hpj, hlt, hwk⟩ := hq
        obtain ⟨e₂, a₂, w₂, hq₂, harr₂⟩ := ih (μ j) (hn ▸ hlt) j a₁ w₁ rfl hpj (hwk E _ _ hss)
        exact ⟨e₂, a₂, w₂, hq₂, .of_steps (StepsIn.trans harr (.one (fenced_calm hb hr rfl) stepR_inLoop)) harr₂⟩
      | exit id => exact ⟨_, a₁, w₁, ⟨s, hq, hss⟩, .pass (x := .inLoop c) rfl (fun _ _ => .inl (by simp)) harr⟩
      | goto l => exact ⟨_, a₁, w₁, ⟨s, hq, hss⟩, .pass (x := .inLoop c) rfl (fun _ _ => .inl (by simp)) harr⟩
      | ret => exact ⟨_, a₁, w₁, ⟨s, hq, hss⟩, .pass (x := .inLoop c) rfl (fun _ _ => .inl (by simp)) harr⟩
      | panic ch => exact ⟨_, a₁, w₁, ⟨s, hq, hss⟩, .pass (x := .inLoop c) rfl (fun _ _ => .inl (by simp)) harr⟩
      | outgrown => exact ⟨_, a₁, w₁, ⟨s, hq, hss⟩, .pass (x := .inLoop c) rfl (fun _ _ => .inl (by simp)) harr⟩
  obtain ⟨e, a', w', hq, harr⟩ := key _ i0 a w rfl h0 (hw E a w hs)
  exact ⟨e, a', w', hq, .of_steps (.one (fenced_calm hb hr rfl) stepR_loop) harr⟩

/-! ### Operands -/
def Ev (E : Ent) (st : St) (x : Operand) (y : AV) : Prop := ∀ A a w, SatA E A st a w → Rd w A (a.eval x) y

theorem Ev.tmp {i : Nat} {y : AV} (h : lk st.env i = some y) : Ev E st (.tmp i) y := fun _ _ _ hs => hs.env i y h
theorem Ev.const {v : Value} : Ev E st (.const v) (.c v) := fun _ _ _ _ => .c v
theorem Ev.func {f : FuncId} : Ev E st (.func f) (.c (.func (.func f) #[] #[])) := fun _ _ _ _ => .c _
theorem Ev.global {g : Nat} : Ev E st (.global g) (.c (.pointer (some ⟨g, 0, none⟩))) := fun _ _ _ _ => .c _
theorem Ev.when {i : Nat} {t : Bool} {y : AV} (h : lk st.env i = some (.wh t y)) (ht : t = true) : Ev E st (.tmp i) y := fun _ _ _ hs => (hs.env i _ h).of_wh ht
theorem Ev.eq {x : Operand} {v : Value} (h : Ev E st x (.c v)) {A : Foot} {a : Act} {w : World} (hs : SatA E A st a w) : a.eval x = v := (h A a w hs).eq

theorem J.cond {c : Operand} {x y : Code} {t : Bool} (hc : Ev E st c (.c (.bool t))) (h1 : t = true → J P E x st Q) (h2 : t = false → J P E y st Q) :
    J P E (.cond c x y) st Q := fun a w hs => by
  obtain ⟨A, hA⟩ := hs
  exact wpIn_cond_split (hc.eq hA) (fun ht => h1 ht a w ⟨A, hA⟩) (fun ht => h2 ht a w ⟨A, hA⟩)

/-! ### Lists of operations -/
theorem J.region {id : Nat} {ops : Array Oper} (h : JL P E ops ops.toList st Q) : J P E (.region id ops false) st Q := fun a w hs => wpIn_region_list (h a w hs)
theorem J.region_lit {id : Nat} {l : List Oper} (h : JL P E l.toArray l st Q) : J P E (.region id l.toArray false) st Q := fun a w hs => wpIn_region_lit (h a w hs)

theorem JL.nil {ops : Array Oper} (h : Q .normal st) : JL P E ops [] st Q := fun _ _ hs => wpListIn_nil ⟨st, h, hs⟩

/-- What read before reads now. -/
def Frm (w : World) (A : Foot) (w' : World) (A' : Foot) : Prop := ∀ u y, Rd w A u y → Rd w' A' u y
theorem Frm.refl (w : World) (A : Foot) : Frm w A w A := fun _ _ h => h

/-- A quiet operation: it comes to a value that reads as x, and turns nothing of the state. -/
def QW (P : Program) (E : Ent) (st : St) (o : Oper) (x : AV) : Prop :=
  ∀ A a w, SatA E A st a w → ∀ (K : Act → World → Prop) (Qx : Exit → Act → World → Prop),
    (∀ v w' A', Frm w A w' A' → SatA E A' st a w' → Rd w' A' v x → K (a.put o.dst v) w') → o.wpIn (fen E.rd) 0 P a w K Qx

/-- An operation, guarded or not. -/
def Step (P : Program) (E : Ent) (ops : Array Oper) (st : St) (o : Oper) (x : AV) : Prop :=
  ∀ A a w, SatA E A st a w → ∀ (K : Act → World → Prop) (Qx : Exit → Act → World → Prop),
    (∀ v w' A', Frm w A w' A' → SatA E A' st a w' → Rd w' A' v x → K (a.put o.dst v) w') →
    if Region.wanted o (yielded ops a.tmps) then o.wpIn (fen E.rd) 0 P a w K Qx else K (a.put o.dst undef) w

theorem blt_lt {a b : Nat} (h : Nat.blt a b = true) : a < b := by simp [Nat.blt] at h; omega

theorem put_getD_same {a : Act} {d : Nat} {v : Value} (h : d < a.tmps.size) : (a.put (some d) v).tmps.getD d undef = v := by
  simp [Act.put, Array.getD_eq_getD_getElem?, h]
theorem put_getD_ne {a : Act} {d i : Nat} {v : Value} (h : d ≠ i) : (a.put (some d) v).tmps.getD i undef = a.tmps.getD i undef := by
  simp [Act.put, Array.getD_eq_getD_getElem?, Array.getElem?_setIfInBounds_ne h]

theorem lk_cons {j : Nat} {x : AV} {l : List (Nat × AV)} {i : Nat} {y : AV} (h : lk ((j, x) :: l) i = some y) : (j = i ∧ y = x) ∨ (j ≠ i ∧ lk l i = some y) := by
  unfold lk at h
  split at h
  · rename_i hb; exact .inl ⟨Nat.eq_of_beq_eq_true hb, by simpa using h.symm⟩
  · rename_i hb; exact .inr ⟨fun e => by subst e; simp at hb, h⟩

/-- What a state is behind a slot is written. -/
theorem SatA.put {A : Foot} {a : Act} {w : World} {n : Nat} {env : List (Nat × AV)} {own : List Own} {F : List (Value × AV)} {D : List Deferred}
    (h : SatA E A ⟨n, env, own, F, D⟩ a w) {d : Nat} {v : Value} {x : AV} (hd : d < n) (hr : Rd w A v x) :
    SatA E A ⟨n, (d, x) :: env, own, F, D⟩ (a.put (some d) v) w :=
  ⟨by have := h.size; simp [Act.put, this], h.defers, h.keep, h.hp, fun i y hl => by
    rcases lk_cons hl with ⟨rfl, rfl⟩ | ⟨hne, hl⟩
    · rw [put_getD_same (by have := h.size; simp only at this; rw [this]; exact hd)]; exact hr
    · rw [put_getD_ne hne]; exact h.env i y hl, h.facts⟩

section
variable {n : Nat} {env : List (Nat × AV)} {own : List Own} {F : List (Value × AV)} {D : List Deferred}

theorem JL.step {ops : Array Oper} {o : Oper} {rest : List Oper} {d : Nat} {x : AV} (hd : o.dst = some d) (hn : Nat.blt d n = true) (hq : Step P E ops ⟨n, env, own, F, D⟩ o x)
    (h : JL P E ops rest ⟨n, (d, x) :: env, own, F, D⟩ Q) : JL P E ops (o :: rest) ⟨n, env, own, F, D⟩ Q := fun a w ⟨A, hA⟩ =>
  wpListIn_step fun K hK => by
    have h1 := hq A a w hA K (lift E Q) fun v w' A' _ hA' hr => hK _ _ (by
      rw [hd]
      exact h _ _ ⟨A', hA'.put (blt_lt hn) hr⟩)
    split
    · rename_i hw; rw [if_pos hw] at h1; exact h1
    · rename_i hw; rw [if_neg hw] at h1; exact ⟨fun _ _ => trivial, h1⟩

end

theorem Step.q {ops : Array Oper} {o : Oper} {x : AV} (hg : o.guard = none) (hq : QW P E st o x) : Step P E ops st o x := fun A a w hA K Qx hK => by
  rw [if_pos (by simp [Region.wanted, hg])]
  exact hq A a w hA K Qx hK

theorem Step.g {ops : Array Oper} {o : Oper} {j s : Nat} {want g : Bool} {x : AV} (hg : o.guard = some (j, want))
    (hs : (ops[j]?).bind (·.dst) = some s) (hl : lk st.env s = some (.c (.bool g))) (hq : (g == want) = true → QW P E st o x) : Step P E ops st o (.wh (g == want) x) := fun A a w hA K Qx hK => by
  have hy : yielded ops a.tmps j = some g := by
    have h1 := (hA.env s _ hl).eq
    unfold yielded
    rw [hs]
    simp only [Option.bind_some]
    rw [Array.getD_eq_getD_getElem?] at h1
    cases h2 : a.tmps[s]? with
    | none => rw [h2] at h1; simp [undef] at h1
    | some v => rw [h2] at h1; simp at h1; subst h1; rfl
  cases hb : (g == want) with
  | true =>
    rw [if_pos (by simp only [Region.wanted, hg, hy]; simpa using hb)]
    refine hq hb A a w hA K _ fun v w' A' hf hA' hr => hK v w' A' hf hA' ?_
    rw [hb]
    exact .wh _ _ _ (fun _ => hr) fun ht => by cases ht
  | false =>
    rw [if_neg (by simp only [Region.wanted, hg, hy]; simpa using hb)]
    refine hK undef w A (.refl _ _) hA ?_
    rw [hb]
    exact .wh _ _ _ (fun ht => by cases ht) fun _ => rfl

theorem andL {a b : Bool} (h : (a && b) = true) : a = true := by cases a <;> simp at h ⊢
theorem andR {a b : Bool} (h : (a && b) = true) : b = true := by cases a <;> simp at h ⊢; exact h

theorem Step.gg {ops : Array Oper} {o : Oper} {j s : Nat} {want g t : Bool} {x : AV} (hg : o.guard = some (j, want))
    (hs : (ops[j]?).bind (·.dst) = some s) (hl : lk st.env s = some (.wh t (.c (.bool g)))) (hq : (t && (g == want)) = true → QW P E st o x) : Step P E ops st o (.wh (t && (g == want)) x) := fun A a w hA K Qx hK => by
  have hy : yielded ops a.tmps j = if t then some g else none := by
    have h0 := hA.env s _ hl
    unfold yielded
    rw [hs]
    simp only [Option.bind_some]
    rw [Array.getD_eq_getD_getElem?] at h0
    cases t with
    | true =>
      have h1 := (h0.of_wh rfl).eq
      cases h2 : a.tmps[s]? with
      | none => rw [h2] at h1; simp [undef] at h1
      | some v => rw [h2] at h1; simp at h1; subst h1; rfl
    | false =>
      have h1 := h0.of_wh0 rfl
      cases h2 : a.tmps[s]? with
      | none => rfl
      | some v => rw [h2] at h1; simp at h1; subst h1; rfl
  cases hb : (t && (g == want)) with
  | true =>
    rw [if_pos (by simp only [Region.wanted, hg, hy]; rw [andL hb]; simpa using andR hb)]
    refine hq hb A a w hA K _ fun v w' A' hf hA' hr => hK v w' A' hf hA' ?_
    rw [hb]
    exact .wh _ _ _ (fun _ => hr) fun ht => by cases ht
  | false =>
    have hw : ¬ Region.wanted o (yielded ops a.tmps) = true := by
      simp only [Region.wanted, hg, hy]
      cases t with
      | true => simpa using hb
      | false => simp
    rw [if_neg hw]
    refine hK undef w A (.refl _ _) hA ?_
    rw [hb]
    exact .wh _ _ _ (fun ht => by cases ht) fun _ => rfl

section
variable {n : Nat} {env : List (Nat × AV)} {own : List Own} {F : List (Value × AV)} {D : List Deferred}
theorem JL.q {ops : Array Oper} {o : Oper} {rest : List Oper} {d : Nat} {x : AV} (hg : o.guard = none) (hd : o.dst = some d) (hn : Nat.blt d n = true) (hq : QW P E ⟨n, env, own, F, D⟩ o x)
    (h : JL P E ops rest ⟨n, (d, x) :: env, own, F, D⟩ Q) : JL P E ops (o :: rest) ⟨n, env, own, F, D⟩ Q := .step hd hn (.q hg hq) h
theorem JL.g {ops : Array Oper} {o : Oper} {rest : List Oper} {d j s : Nat} {want g : Bool} {x : AV} (hg : o.guard = some (j, want)) (hd : o.dst = some d) (hn : Nat.blt d n = true)
    (hs : (ops[j]?).bind (·.dst) = some s) (hl : lk env s = some (.c (.bool g))) (hq : (g == want) = true → QW P E ⟨n, env, own, F, D⟩ o x)
    (h : JL P E ops rest ⟨n, (d, .wh (g == want) x) :: env, own, F, D⟩ Q) : JL P E ops (o :: rest) ⟨n, env, own, F, D⟩ Q := .step hd hn (.g hg hs hl hq) h
theorem JL.gg {ops : Array Oper} {o : Oper} {rest : List Oper} {d j s : Nat} {want g t : Bool} {x : AV} (hg : o.guard = some (j, want)) (hd : o.dst = some d) (hn : Nat.blt d n = true)
    (hs : (ops[j]?).bind (·.dst) = some s) (hl : lk env s = some (.wh t (.c (.bool g)))) (hq : (t && (g == want)) = true → QW P E ⟨n, env, own, F, D⟩ o x)
    (h : JL P E ops rest ⟨n, (d, .wh (t && (g == want)) x) :: env, own, F, D⟩ Q) : JL P E ops (o :: rest) ⟨n, env, own, F, D⟩ Q := .step hd hn (.gg hg hs hl hq) h
end

theorem QW.pure {o : Oper} {x : AV} (h : ∀ A a w, SatA E A st a w → ∃ v, (execOp a.eval o).run P w = .ok (.value v) w ∧ Rd w A v x) (hnd : ∀ c, o.op ≠ .defer c := by (intro c h; cases h)) : QW P E st o x := fun A a w hA K Qx hK => by
  obtain ⟨v, hr, hx⟩ := h A a w hA
  refine wpR (by first | assumption | (intro c h; cases h)) ?_
  unfold Oper.wp
  rw [hr, Oper.upon_value]
  exact hK v w A (.refl _ _) hA hx

theorem QW.conv {o : Oper} {x y : AV} (h : QW P E st o x) (he : x = y) : QW P E st o y := he ▸ h

end
end Go.Proofs.Ytkiankpmkglhcaa.J
