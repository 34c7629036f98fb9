/- Calls; weakenings; an own array that is closinged; a function's contract out of its body. -/
import Derived.Test.YtkiankpmkglhcaaJ2
namespace Go.Proofs.Ytkiankpmkglhcaa.J
open Go Go.RowKit
set_option linter.unusedVariables false
set_option linter.unusedSimpArgs false

/-- y may stand for x. -/
inductive Le (F : List (Value × AV)) : AV → AV → Prop
  | refl (x : AV) : Le F x x
  | fact {v : Value} {x y : AV} (h : (v, x) ∈ F) (hl : Le F x y) : Le F (.c v) y
  | nil (fr clip : Bool) (e : ETy) : Le F (.c (.slice none 0 0)) (.sl fr clip e [])
  | sl {fr clip fr' clip' : Bool} {e : ETy} {xs ys : List (List AV)} (hf : fr' = true → fr = true) (hc : clip' = true → clip = true) (hl : xs.length = ys.length) (hs : ∀ y ∈ ys, y.length = e.sz)
      (h : ∀ (k : Nat) (x y : AV), xs.flatten[k]? = some x → ys.flatten[k]? = some y → Le F x y) (hz : xs.flatten.length = ys.flatten.length) : Le F (.sl fr clip e xs) (.sl fr' clip' e ys)
  | agg {xs ys : List AV} (hl : xs.length = ys.length) (h : ∀ (k : Nat) (x y : AV), xs[k]? = some x → ys[k]? = some y → Le F x y) : Le F (.agg xs) (.agg ys)
  | tup {xs ys : List AV} (hl : xs.length = ys.length) (h : ∀ (k : Nat) (x y : AV), xs[k]? = some x → ys[k]? = some y → Le F x y) : Le F (.tup xs) (.tup ys)
  | ref {fr fr' : Bool} {xs ys : List AV} (hf : fr' = true → fr = true) (hl : xs.length = ys.length) (h : ∀ (k : Nat) (x y : AV), xs[k]? = some x → ys[k]? = some y → Le F x y) : Le F (.ref fr xs) (.ref fr' ys)

theorem get_of_length {α β : Type} {xs : List α} {ys : List β} (hl : xs.length = ys.length) {k : Nat} {y : β} (h : ys[k]? = some y) : ∃ x, xs[k]? = some x :=
  ⟨_, List.getElem?_eq_getElem (by rw [hl]; exact (List.getElem?_eq_some_iff.1 h).1)⟩

theorem Rd.le {w : World} {A : Foot} {F : List (Value × AV)} (hm : ∀ b, A true b → A false b) (hF : ∀ p ∈ F, Rd w A p.1 p.2) {x y : AV} (h : Le F x y) : ∀ {v : Value}, Rd w A v x → Rd w A v y := by
  have ht : ∀ {fr fr' : Bool} {b : Nat}, (fr' = true → fr = true) → A fr b → A fr' b := by
    intro fr fr' b hf hA
    cases fr with
    | true => cases fr' with
      | true => exact hA
      | false => exact hm b hA
    | false => cases fr' with
      | true => exact absurd (hf rfl) (by simp)
      | false => exact hA
  induction h with
  | refl x => exact id
  | fact hmem _ ih => intro v hv; have := hv.eq; subst this; exact ih (hF _ hmem)
  | nil fr clip e => intro v hv; have := hv.eq; subst this; exact .emp _ _ _ _ _ (fun _ => rfl)
  | sl hf hc hl hs _ hz ih =>
    intro v hv
    rename_i e xs ys _
    cases hv with
    | emp _ _ _ a cap hcc =>
      have hy : ys = [] := by cases ys with | nil => rfl | cons _ _ => simp at hl
      subst hy
      exact .emp _ _ _ _ _ (fun h => hcc (hc h))
    | sl _ _ _ _ b off cap cs t fz u hA hb hcap hclip hsz hreach hu hr =>
      rw [hl]
      refine .sl _ _ _ _ b off cap cs t fz u (ht hf hA) hb (hl ▸ hcap) (fun h => hl ▸ hclip (hc h)) hs (hl ▸ hreach) (fun k y hk => ?_) (fun k y hk => ?_)
      · obtain ⟨x, hx⟩ := get_of_length hz hk; exact hu k x hx
      · obtain ⟨x, hx⟩ := get_of_length hz hk; exact ih k x y hx hk (hr k x hx)
  | agg hl _ ih =>
    intro v hv
    cases hv with
    | agg vs _ u hn hu hr =>
      refine .agg _ _ u (hn.trans hl) (fun k y hk => ?_) (fun k y hk => ?_)
      · obtain ⟨x, hx⟩ := get_of_length hl hk; exact hu k x hx
      · obtain ⟨x, hx⟩ := get_of_length hl hk; exact ih k x y hx hk (hr k x hx)
  | tup hl _ ih =>
    intro v hv
    cases hv with
    | tup vs _ u hn hu hr =>
      refine .tup _ _ u (hn.trans hl) (fun k y hk => ?_) (fun k y hk => ?_)
      · obtain ⟨x, hx⟩ := get_of_length hl hk; exact hu k x hx
      · obtain ⟨x, hx⟩ := get_of_length hl hk; exact ih k x y hx hk (hr k x hx)
  | ref hf hl _ ih =>
    intro v hv
    cases hv with
    | ref _ _ b off cs t fz u hA hb hu hr =>
      refine .ref _ _ b off cs t fz u (ht hf hA) hb (fun k y hk => ?_) (fun k y hk => ?_)
      · obtain ⟨x, hx⟩ := get_of_length hl hk; exact hu k x hx
      · obtain ⟨x, hx⟩ := get_of_length hl hk; exact ih k x y hx hk (hr k x hx)

theorem Le.cons {F : List (Value × AV)} {x y : AV} {xs ys : List AV} (h : Le F x y) (hl : xs.length = ys.length) (hs : ∀ (k : Nat) (x y : AV), xs[k]? = some x → ys[k]? = some y → Le F x y) :
    (x :: xs).length = (y :: ys).length ∧ ∀ (k : Nat) (a b : AV), (x :: xs)[k]? = some a → (y :: ys)[k]? = some b → Le F a b :=
  ⟨by simp [hl], fun k a b ha hb => by cases k with
    | zero => simp at ha hb; subst ha hb; exact h
    | succ k => exact hs k a b (by simpa using ha) (by simpa using hb)⟩

/-- Pointwise. -/
inductive LeL (F : List (Value × AV)) : List AV → List AV → Prop
  | nil : LeL F [] []
  | cons {x y : AV} {xs ys : List AV} (h : Le F x y) (hs : LeL F xs ys) : LeL F (x :: xs) (y :: ys)

theorem LeL.get {F : List (Value × AV)} {xs ys : List AV} (h : LeL F xs ys) : xs.length = ys.length ∧ ∀ (k : Nat) (x y : AV), xs[k]? = some x → ys[k]? = some y → Le F x y := by
  induction h with
  | nil => exact ⟨rfl, fun k x y h => by simp at h⟩
  | cons h _ ih => exact Le.cons h ih.1 ih.2
theorem Le.aggL {F : List (Value × AV)} {xs ys : List AV} (h : LeL F xs ys) : Le F (.agg xs) (.agg ys) := .agg h.get.1 h.get.2
theorem Le.tupL {F : List (Value × AV)} {xs ys : List AV} (h : LeL F xs ys) : Le F (.tup xs) (.tup ys) := .tup h.get.1 h.get.2
theorem LeL.refl {F : List (Value × AV)} : ∀ xs : List AV, LeL F xs xs
  | [] => .nil
  | x :: xs => .cons (.refl x) (.refl xs)

def goFn (P : Program) (f : FuncId) : Bool :=
  match P.funcs[f]? with
  | some fn => !(fn.name == "runtime.NumGoroutine") && fn.body.isSome
  | none => false

section
variable {P : Program} {E : Ent} {Q : Exit → St → Prop} {n : Nat} {env : List (Nat × AV)} {own : List Own} {F : List (Value × AV)} {D : List Deferred} {st : St}
variable {A : Foot} {a : Act} {w w' : World} {d : Nat} {ty t : TypeId} {pos : String} {af : Array Edge} {gd : Option (Nat × Bool)} {x y : Operand} {ops : Array Oper} {rest : List Oper}

theorem Ev.le {y z : AV} (h : Ev E st x y) (hl : Le st.facts y z) : Ev E st x z := fun A a w hs => (h A a w hs).le hs.hp.mono hs.facts hl

theorem goFn_run {f : FuncId} (h : goFn P f = true) (args : Array Value) (w : World) : (callFunc f args).run P w = .ok (.enter f args) w := by
  unfold goFn at h
  split at h
  · rename_i fn hfn
    simp only [Bool.and_eq_true, Bool.not_eq_true'] at h
    obtain ⟨h1, h2⟩ := h
    have h3 : fn.body.isNone = false := by cases hb : fn.body <;> simp_all
    simp only [callFunc, Sem.run_bind, run_program, Result.andThen_ok, hfn, h1, h3, Bool.false_eq_true, if_false, Sem.run_pure]
  · cases h

inductive EvL (E : Ent) (st : St) : List Operand → List AV → Prop
  | nil : EvL E st [] []
  | cons {x : Operand} {y : AV} {l : List Operand} {ys : List AV} (h : Ev E st x y) (hs : EvL E st l ys) : EvL E st (x :: l) (y :: ys)

theorem EvL.length {l : List Operand} {ys : List AV} (h : EvL E st l ys) : l.length = ys.length := by
  induction h with
  | nil => rfl
  | cons _ _ ih => simp [ih]

theorem EvL.get {l : List Operand} {ys : List AV} (h : EvL E st l ys) (hs : SatA E A st a w) : ∀ (i : Nat) (z : AV), ys[i]? = some z → Rd w A ((l.map a.eval)[i]?.getD undef) z := by
  induction h with
  | nil => intro i z h; simp at h
  | cons h _ ih =>
    intro i z hz
    cases i with
    | zero => simp at hz; subst hz; simpa using h A a w hs
    | succ i => simpa using ih i z (by simpa using hz)

theorem EvL.rdL {l : List Operand} {ys : List AV} (h : EvL E st l ys) (hs : SatA E A st a w) : RdL w A (l.toArray.map a.eval) ys :=
  ⟨by simp [h.length], fun i z hz => by have := h.get hs i z hz; simpa [Array.getD_eq_getD_getElem?] using this⟩

theorem RdL.around {vs : Array Value} {ys : List AV} (h : RdL w A vs ys) (fi ca : List Value) : RdL w A (fi.toArray ++ vs ++ ca.toArray) (fi.map AV.c ++ ys ++ ca.map AV.c) := by
  obtain ⟨h1, h2⟩ := h
  refine ⟨by simp [h1], fun i z hz => ?_⟩
  simp only [Array.getD_eq_getD_getElem?] at h2 ⊢
  by_cases ha : i < fi.length
  · rw [List.append_assoc, List.getElem?_append_left (by simpa using ha), List.getElem?_map] at hz
    obtain ⟨u, hu⟩ : ∃ u, fi[i]? = some u := ⟨_, List.getElem?_eq_getElem ha⟩
    rw [hu] at hz; cases hz
    rw [Array.append_assoc, Array.getElem?_append_left (by simpa using ha)]
    simp [hu]; exact .c _
  · by_cases hb : i < fi.length + ys.length
    · rw [List.append_assoc, List.getElem?_append_right (by simp; omega), List.getElem?_append_left (by simp; omega)] at hz
      have := h2 _ z hz
      rw [Array.append_assoc, Array.getElem?_append_right (by simp; omega), Array.getElem?_append_left (by simp; omega)]
      simpa using this
    · rw [List.getElem?_append_right (by simp; omega), List.getElem?_map] at hz
      cases hu : ca[i - (fi.map AV.c ++ ys).length]? with
      | none => rw [hu] at hz; cases hz
      | some u =>
        rw [hu] at hz; cases hz
        rw [Array.getElem?_append_right (by simp; omega)]
        simp only [Array.size_append, List.size_toArray, List.getElem?_toArray]
        simp only [List.length_append, List.length_map] at hu
        rw [h1, hu]
        exact .c _

/-! ### heaps of permuted and of fewer own entries -/
theorem fps_perm {o o' : List Own} (h : o.Perm o') : (fps o).Perm (fps o') := List.Perm.flatMap_right _ h
theorem fps_append (o o' : List Own) : fps (o ++ o') = fps o ++ fps o' := by simp [fps]

theorem Hp.perm {n0 : Nat} {fp0 : List Nat} {A0 : Foot} {own' : List Own} (h : Hp n0 fp0 A0 own w A) (hp : own.Perm own') : Hp n0 fp0 A0 own' w A :=
  ⟨h.mono, h.sup, h.sub, h.lt, fun b hb => h.fp b ((fps_perm hp).mem_iff.2 hb), (fps_perm hp).nodup_iff.1 h.nodup, fun o ho => h.own o (hp.mem_iff.2 ho)⟩
theorem Hp.left {n0 : Nat} {fp0 : List Nat} {A0 : Foot} {o1 o2 : List Own} (h : Hp n0 fp0 A0 (o1 ++ o2) w A) : Hp n0 fp0 A0 o1 w A :=
  ⟨h.mono, h.sup, h.sub, h.lt, fun b hb => h.fp b (by rw [fps_append]; exact List.mem_append_left _ hb), by have := h.nodup; rw [fps_append, List.nodup_append] at this; exact this.1, fun o ho => h.own o (List.mem_append_left _ ho)⟩

theorem SatA.perm {own' : List Own} (h : SatA E A ⟨n, env, own, F, D⟩ a w) (hp : own.Perm own') : SatA E A ⟨n, env, own', F, D⟩ a w :=
  ⟨h.size, h.defers, h.keep, h.hp.perm hp, h.env, h.facts⟩

/-- What a callee begins with. -/
theorem SatA.callee {op ro : List Own} (h : SatA E A ⟨n, env, op ++ ro, F, D⟩ a w) : Hp w.heap.size (fps op) A op w A :=
  ⟨h.hp.mono, fun _ _ h => h, fun _ _ h => .inl h, h.hp.lt, fun b hb => ⟨(h.hp.fp b (by simp only [fps_append]; exact List.mem_append_left _ hb)).1, .inl hb, (h.hp.fp b (by simp only [fps_append]; exact List.mem_append_left _ hb)).2.2⟩,
    h.hp.left.nodup, h.hp.left.own⟩

/-- What the caller has behind the call. -/
theorem SatA.called {op ro own' : List Own} {A' : Foot} (h : SatA E A ⟨n, env, op ++ ro, F, D⟩ a w) (hk : Keep (fps op) w w') (hp : Hp w.heap.size (fps op) A own' w' A') :
    SatA E A' ⟨n, env, own' ++ ro, F, D⟩ a w' := by
  have hsz := hk.size
  have hn0 := h.keep.size
  have hapart : ∀ b ∈ fps ro, b ∉ fps op := fun b hb hb' => by
    have := h.hp.nodup
    simp only [fps_append, List.nodup_append] at this
    exact this.2.2 b hb' b hb rfl
  have hro : ∀ b ∈ fps ro, b < w.heap.size ∧ (b ∈ E.fp0 ∨ E.w0.heap.size ≤ b) ∧ ∀ fr, ¬ A fr b := fun b hb => h.hp.fp b (by simp only [fps_append]; exact List.mem_append_right _ hb)
  refine h.step (hk.mono fun b hb => by simp only [fps_append]; exact List.mem_append_left _ hb) hp.sup ⟨hp.mono, fun fr b hb => hp.sup fr b (h.hp.sup fr b hb), fun fr b hb => ?_, hp.lt, fun b hb => ?_, ?_, fun o ho => ?_⟩
  · rcases hp.sub fr b hb with h1 | h1
    · exact h.hp.sub fr b h1
    · exact .inr (Nat.le_trans hn0 h1)
  · rw [fps_append] at hb
    rcases List.mem_append.1 hb with hb | hb
    · obtain ⟨h1, h2, h3⟩ := hp.fp b hb
      refine ⟨h1, ?_, h3⟩
      rcases h2 with h2 | h2
      · exact (h.hp.fp b (by simp only [fps_append]; exact List.mem_append_left _ h2)).2.1
      · exact .inr (Nat.le_trans hn0 h2)
    · obtain ⟨h1, h2, h3⟩ := hro b hb
      exact ⟨Nat.lt_of_lt_of_le h1 hsz, h2, fun fr hA => (hp.sub fr b hA).elim (h3 fr) (fun hle => by omega)⟩
  · rw [fps_append, List.nodup_append]
    refine ⟨hp.nodup, ?_, fun b hb c hc hbc => ?_⟩
    · have := h.hp.nodup
      simp only [fps_append, List.nodup_append] at this
      exact this.2.1
    · subst hbc
      rcases (hp.fp b hb).2.1 with h2 | h2
      · exact hapart b hc h2
      · have := (hro b hc).1; omega
  · rcases List.mem_append.1 ho with ho | ho
    · exact hp.own o ho
    · exact (h.hp.own o (List.mem_append_right _ ho)).move (fun fr b hb _ => hp.sup fr b hb) (fun fr b hb hlt => hk.block b hlt fun hm => (h.hp.fp b (by simp only [fps_append]; exact List.mem_append_left _ hm)).2.2 fr hb)
        fun b hb => hk.block b (hro b (fps_mem ho hb)).1 (hapart b (fps_mem ho hb))

theorem SatA.called_frame {op ro own' : List Own} {A' : Foot} (h : SatA E A ⟨n, env, op ++ ro, F, D⟩ a w) (hk : Keep (fps op) w w') (hp : Hp w.heap.size (fps op) A own' w' A') : Frm w A w' A' :=
  fun u y hr => hr.move (fun fr b hb _ => hp.sup fr b hb) fun fr b hb hlt => hk.block b hlt fun hm => (h.hp.fp b (by simp only [fps_append]; exact List.mem_append_left _ hm)).2.2 fr hb

/-! ### calls -/
theorem run_call {f : FuncId} (hf : goFn P f = true) {fo : Operand} {fi ca : List Value} (hfo : a.eval fo = .func (.func f) fi.toArray ca.toArray) (l : List Operand) (tys : Array TypeId) (dd : Option Tmp) (w : World) :
    (execOp a.eval ⟨dd, .call ⟨.value fo, l.toArray, tys⟩, ty, pos, af, gd⟩).run P w = .ok (.enter f (fi.toArray ++ l.toArray.map a.eval ++ ca.toArray)) w := by
  simp only [execOp, resolve, hfo, Deferred.ofValue, Sem.run_bind, Sem.run_pure, Result.andThen_ok, invoke, goFn_run hf]

/-- A call of a function value. -/
theorem JL.callV {f : FuncId} {op ro : List Own} {fo : Operand} {fi ca : List Value} {l : List Operand} {tys : Array TypeId} {xs zs : List AV} {R : Res → List Own → Prop} (hf : goFn P f = true) (hd : Nat.blt d n = true)
    (hfo : Ev E ⟨n, env, own, F, D⟩ fo (.c (.func (.func f) fi.toArray ca.toArray))) (hargs : EvL E ⟨n, env, own, F, D⟩ l xs) (hzs : fi.map AV.c ++ xs ++ ca.map AV.c = zs) (hperm : own.Perm (op ++ ro)) (hAC : AC P f op zs R)
    (hret : ∀ x own', R (.ret x) own' → JL P E ops rest ⟨n, (d, x) :: env, own' ++ ro, F, D⟩ Q)
    (hpan : ∀ v own', R (.pan v) own' → Q (.panic [{ v, recovered := false }]) ⟨n, env, own' ++ ro, F, D⟩) :
    JL P E ops (⟨some d, .call ⟨.value fo, l.toArray, tys⟩, ty, pos, af, none⟩ :: rest) ⟨n, env, own, F, D⟩ Q := fun a w ⟨A, hA⟩ => by
  refine wpListIn_plain rfl fun K hK => ?_
  refine wpR (by intro c h; cases h) ?_
  unfold Oper.wp
  rw [run_call hf (hfo.eq hA), Oper.upon_enter]
  have hA' := hA.perm hperm
  subst hzs
  refine (hAC w A _ hA'.callee ((hargs.rdL hA).around fi ca)).mono ?_
  rintro e w' ⟨r, own', A', hR, hk, hp, hr⟩
  have hsat := hA'.called hk hp
  cases r with
  | ret x =>
    obtain ⟨v, rfl, hv⟩ := hr
    exact hK _ _ (hret x own' hR _ _ ⟨A', hsat.put (blt_lt hd) hv⟩)
  | pan v =>
    obtain rfl := hr
    exact ⟨_, hpan v own' hR, A', hsat⟩

/-- A call of a function. -/
theorem JL.call {f : FuncId} {op ro : List Own} {l : List Operand} {tys : Array TypeId} {xs : List AV} {R : Res → List Own → Prop} (hf : goFn P f = true) (hd : Nat.blt d n = true)
    (hargs : EvL E ⟨n, env, own, F, D⟩ l xs) (hperm : own.Perm (op ++ ro)) (hAC : AC P f op xs R)
    (hret : ∀ x own', R (.ret x) own' → JL P E ops rest ⟨n, (d, x) :: env, own' ++ ro, F, D⟩ Q)
    (hpan : ∀ v own', R (.pan v) own' → Q (.panic [{ v, recovered := false }]) ⟨n, env, own' ++ ro, F, D⟩) :
    JL P E ops (⟨some d, .call ⟨.value (.func f), l.toArray, tys⟩, ty, pos, af, none⟩ :: rest) ⟨n, env, own, F, D⟩ Q :=
  JL.callV (fi := []) (ca := []) hf hd .func hargs (by simp) hperm hAC hret hpan

theorem SatA.upOwn {A' : Foot} {a : Act} (h : SatA E A st a w) (h' : SatA E A' ⟨st.n, st.env, st.own, st.facts, st.dfs⟩ a w') : SatA E A' st a w' := h'

/-- A quiet call. -/
theorem QW.callV {dd : Option Tmp} {f : FuncId} {fo : Operand} {fi ca : List Value} {l : List Operand} {tys : Array TypeId} {xs zs : List AV} {z : AV} (hf : goFn P f = true)
    (hfo : Ev E st fo (.c (.func (.func f) fi.toArray ca.toArray))) (hargs : EvL E st l xs) (hzs : fi.map AV.c ++ xs ++ ca.map AV.c = zs) (h : Fn P f zs z) :
    QW P E st ⟨dd, .call ⟨.value fo, l.toArray, tys⟩, ty, pos, af, gd⟩ z := fun A a w hA K Qx hK => by
  refine wpR (by intro c h; cases h) ?_
  unfold Oper.wp
  rw [run_call hf (hfo.eq hA), Oper.upon_enter]
  subst hzs
  have hA' : SatA E A ⟨st.n, st.env, [] ++ st.own, st.facts, st.dfs⟩ a w := hA
  refine (h w A _ hA'.callee ((hargs.rdL hA).around fi ca)).mono ?_
  rintro e w' ⟨r, own', A', ⟨rfl, rfl⟩, hk, hp, v, rfl, hv⟩
  exact hK v w' A' (hA'.called_frame hk hp) (hA'.called hk hp) hv

theorem QW.call {dd : Option Tmp} {f : FuncId} {l : List Operand} {tys : Array TypeId} {xs : List AV} {z : AV} (hf : goFn P f = true) (hargs : EvL E st l xs) (h : Fn P f xs z) :
    QW P E st ⟨dd, .call ⟨.value (.func f), l.toArray, tys⟩, ty, pos, af, gd⟩ z :=
  QW.callV (fi := []) (ca := []) hf .func hargs (by simp) h

/-- A panic. -/
theorem JL.panic {dd : Option Tmp} {v : Value} {tt : TypeId} (hx : Ev E ⟨n, env, own, F, D⟩ x (.c (.iface tt v))) (h : Q (.panic [{ v := .iface tt v, recovered := false }]) ⟨n, env, own, F, D⟩) :
    JL P E ops (⟨dd, .panic x, ty, pos, af, none⟩ :: rest) ⟨n, env, own, F, D⟩ Q := fun a w ⟨A, hA⟩ => by
  refine wpListIn_plain rfl fun K hK => ?_
  refine wpR (by intro c h; cases h) ?_
  unfold Oper.wp
  have : (execOp a.eval ⟨dd, .panic x, ty, pos, af, none⟩).run P w = .halt (.panic (.iface tt v)) w := by
    simp [execOp, hx.eq hA, Instr.panic]
  rw [this, Oper.upon_panic]
  exact ⟨_, h, A, hA⟩

/-! ### closinging -/
theorem perm_pick : ∀ {l : List Own} {i : Nat} {o : Own}, l[i]? = some o → l.Perm (o :: l.eraseIdx i)
  | [], _, _, h => by simp at h
  | x :: l, 0, o, h => by simp at h; subst h; exact .refl _
  | x :: l, i + 1, o, h => by
    have := perm_pick (l := l) (i := i) (o := o) (by simpa using h)
    exact (List.Perm.cons x this).trans (.swap _ _ _)

theorem SatA.closeArr {i : Nat} {v : Value} {e : ETy} {xs : List (List AV)} (h : SatA E A ⟨n, env, own, F, D⟩ a w) (hi : own[i]? = some (.arr v e xs)) (hr : xs.length * e.bytes ≤ reach)
    (hfp : ∀ b ∈ E.fp0, b ∈ fps (own.eraseIdx i)) : ∃ A', SatA E A' ⟨n, env, own.eraseIdx i, (v, .sl true false e xs) :: F, D⟩ a w := by
  have hperm : own.Perm (.arr v e xs :: own.eraseIdx i) := by
    exact perm_pick hi
  have h' := h.perm hperm
  have hnd := h'.hp.nodup
  simp only [fps, List.flatMap_cons, List.nodup_append] at hnd
  obtain ⟨hn1, hn2, hn3⟩ := hnd
  let A' : Foot := fun fr b => A fr b ∨ b ∈ (Own.arr v e xs).fp
  have hup : ∀ fr b, A fr b → A' fr b := fun fr b hb => .inl hb
  have hfpx : ∀ b ∈ (Own.arr v e xs).fp, b < w.heap.size ∧ (b ∈ E.fp0 ∨ E.w0.heap.size ≤ b) ∧ ∀ fr, ¬ A fr b := fun b hb => h'.hp.fp b (by simp only [fps, List.flatMap_cons]; exact List.mem_append_left _ hb)
  have hm : ∀ {u x}, Rd w A u x → Rd w A' u x := fun hr => hr.move (fun fr b hb _ => hup fr b hb) fun _ _ _ _ => rfl
  refine ⟨A', h'.size, h'.defers, h'.keep, ⟨fun b hb => hb.imp (h'.hp.mono b) id, fun fr b hb => hup fr b (h'.hp.sup fr b hb), fun fr b hb => ?_, fun fr b hb => hb.elim (h'.hp.lt fr b) fun hb => (hfpx b hb).1, fun b hb => ?_, hn2, fun o ho => ?_⟩,
    fun i x hl => hm (h'.env i x hl), fun p hp => ?_⟩
  · rcases hb with hb | hb
    · exact h'.hp.sub fr b hb
    · refine .inr ((hfpx b hb).2.1.elim (fun hmem => ?_) id)
      exact absurd rfl (hn3 b hb b (hfp b hmem))
  · obtain ⟨h1, h2, h3⟩ := h'.hp.fp b (by simp only [fps, List.flatMap_cons]; exact List.mem_append_right _ hb)
    exact ⟨h1, h2, fun fr hA => hA.elim (h3 fr) fun hb' => hn3 b hb' b hb rfl⟩
  · exact (h'.hp.own o (List.mem_cons_of_mem _ ho)).move (fun fr b hb _ => hup fr b hb) (fun _ _ _ _ => rfl) fun _ _ => rfl
  · rcases List.mem_cons.1 hp with rfl | hp
    · rcases h'.hp.own _ (List.mem_cons_self) with ⟨a0, rfl, rfl⟩ | ⟨b, cap, us, t, rfl, hb, hcap, hus, hsz, hc⟩
      · exact .emp _ _ _ _ _ (fun _ => rfl)
      · refine .sl true false e xs b 0 (cap + 1) us t (0, 0) (fun k => us.getD k undef) (.inr (by simp [Own.fp, arrFp])) hb hcap (fun hh => by cases hh) hsz hr (fun k y hk => ?_) (fun k y hk => ?_)
        · obtain ⟨u, h1, h0, _⟩ := hc k y hk
          rw [Nat.zero_add] at h1 ⊢
          simp [Array.getD_eq_getD_getElem?, h1, h0]
        · obtain ⟨u, h1, _, h2⟩ := hc k y hk
          rw [Nat.zero_add] at h1
          simpa [Array.getD_eq_getD_getElem?, h1] using hm h2
    · exact hm (h'.facts p hp)

theorem JL.closeArr (i : Nat) {v : Value} {e : ETy} {xs : List (List AV)} {own' : List Own} {l : List Oper} (hi : own[i]? = some (.arr v e xs)) (hr : xs.length * e.bytes ≤ reach) (ho : own.eraseIdx i = own') (hfp : ∀ b ∈ E.fp0, b ∈ fps own')
    (h : JL P E ops l ⟨n, env, own', (v, .sl true false e xs) :: F, D⟩ Q) : JL P E ops l ⟨n, env, own, F, D⟩ Q := fun a w ⟨A, hA⟩ => by
  subst ho
  obtain ⟨A', hA'⟩ := hA.closeArr hi hr hfp
  exact h a w ⟨A', hA'⟩
theorem J.closeArr (i : Nat) {v : Value} {e : ETy} {xs : List (List AV)} {own' : List Own} {c : Code} (hi : own[i]? = some (.arr v e xs)) (hr : xs.length * e.bytes ≤ reach) (ho : own.eraseIdx i = own') (hfp : ∀ b ∈ E.fp0, b ∈ fps own')
    (h : J P E c ⟨n, env, own', (v, .sl true false e xs) :: F, D⟩ Q) : J P E c ⟨n, env, own, F, D⟩ Q := fun a w ⟨A, hA⟩ => by
  subst ho
  obtain ⟨A', hA'⟩ := hA.closeArr hi hr hfp
  exact h a w ⟨A', hA'⟩

/-! ### a function's contract -/
def initEnv : Nat → List AV → List (Nat × AV)
  | _, [] => []
  | i, x :: xs => (i, x) :: initEnv (i + 1) xs

theorem lk_init : ∀ (xs : List AV) (k i : Nat) (x : AV), lk (initEnv k xs) i = some x → k ≤ i ∧ xs[i - k]? = some x
  | [], _, _, _, h => by simp [initEnv, lk] at h
  | y :: ys, k, i, x, h => by
    rcases lk_cons h with ⟨rfl, rfl⟩ | ⟨hne, h⟩
    · exact ⟨Nat.le_refl _, by simp⟩
    · obtain ⟨h1, h2⟩ := lk_init ys (k + 1) i x h
      exact ⟨by omega, by rw [show i - k = (i - (k + 1)) + 1 by omega]; simpa using h2⟩

def rv (tmps : Array Value) : ResultVar → Sem Value
  | .tmp t => pure (tmps.getD t undef)
  | .cell b t => do loadVar t (← asAddr (tmps.getD b undef))

theorem results_eq (fn : Func) (tmps : Array Value) : results fn tmps = (do
    let vs ← fn.results.mapM (rv tmps)
    pure (if h : vs.size = 1 then vs[0] else .tuple vs)) := by
  unfold results
  congr 2

def REv (P : Program) (s : St) (r : ResultVar) (x : AV) : Prop := ∀ E A a w, SatA E A s a w → ∃ v, (rv a.tmps r).run P w = .ok v w ∧ Rd w A v x

theorem REv.tmp {s : St} {t : Nat} {y x : AV} (h : lk s.env t = some y) (hl : Le s.facts y x) : REv P s (.tmp t) x := fun E A a w hs =>
  ⟨_, rfl, (hs.env t y h).le hs.hp.mono hs.facts hl⟩

theorem REv.cell (i : Nat) {s : St} {b r off m B : Nat} {ys zs : List AV} {x : AV} (hT : tySz P t = some (true, m, B)) (h : lk s.env r = some (.c (.pointer (some ⟨b, off, none⟩)))) (ho : s.own[i]? = some (.box b ys))
    (hz : (ys.drop off).take m = zs) (hm : zs.length = m) (hl : Le s.facts (.agg zs) x) : REv P s (.cell r t) x := fun E A a w hs => by
  obtain ⟨us, t', hb, _, hc⟩ := hs.box i ho
  subst hz
  obtain ⟨v, h1, h2⟩ := run_loadVar hT hb ((hc.drop off).take m) hm
  rw [Nat.zero_add] at h1
  exact ⟨v, by simp only [rv, (hs.env r _ h).eq, asAddr, Sem.run_bind, Sem.run_pure, Result.andThen_ok, h1], h2.le hs.hp.mono hs.facts hl⟩
theorem REv.cell1 (i : Nat) {s : St} {b r off m B : Nat} {ys : List AV} {y x : AV} (hT : tySz P t = some (false, m, B)) (h : lk s.env r = some (.c (.pointer (some ⟨b, off, none⟩)))) (ho : s.own[i]? = some (.box b ys))
    (hz : ys[off]? = some y) (hl : Le s.facts y x) : REv P s (.cell r t) x := fun E A a w hs => by
  obtain ⟨us, t', hb, _, hc⟩ := hs.box i ho
  obtain ⟨u, h3, _, h4⟩ := hc _ _ hz
  obtain ⟨v, h1, h2⟩ := run_loadVar1 hT hb (by simpa using h3) h4
  exact ⟨v, by simp only [rv, (hs.env r _ h).eq, asAddr, Sem.run_bind, Sem.run_pure, Result.andThen_ok, h1], h2.le hs.hp.mono hs.facts hl⟩

def RetEv (P : Program) (fn : Func) (s : St) (x : AV) : Prop := ∀ E A a w, SatA E A s a w → ∃ v, (results fn a.tmps).run P w = .ok v w ∧ Rd w A v x

theorem RetEv.none {fn : Func} {s : St} (h : fn.results = #[]) : RetEv P fn s (.tup []) := fun E A a w hs =>
  ⟨.tuple #[], by simp [results, h], .mk_tup rfl fun k y hk => by simp at hk⟩
theorem RetEv.one {fn : Func} {s : St} {r : ResultVar} {x : AV} (h : fn.results = #[r]) (h1 : REv P s r x) : RetEv P fn s x := fun E A a w hs => by
  obtain ⟨v, hv, hx⟩ := h1 E A a w hs
  refine ⟨v, ?_, hx⟩
  rw [results_eq, h]
  simp [hv]
theorem RetEv.two {fn : Func} {s : St} {r r' : ResultVar} {x x' : AV} (h : fn.results = #[r, r']) (h1 : REv P s r x) (h2 : REv P s r' x') : RetEv P fn s (.tup [x, x']) := fun E A a w hs => by
  obtain ⟨v, hv, hx⟩ := h1 E A a w hs
  obtain ⟨v', hv', hx'⟩ := h2 E A a w hs
  refine ⟨.tuple #[v, v'], ?_, .mk_tup rfl fun k y hk => ?_⟩
  · rw [results_eq, h]
    simp [hv, hv']
  · match k, hk with
    | 0, hk => simp at hk; subst hk; exact ⟨v, rfl, hx⟩
    | 1, hk => simp at hk; subst hk; exact ⟨v', rfl, hx'⟩
theorem RetEv.three {fn : Func} {s : St} {r r' r'' : ResultVar} {x x' x'' : AV} (h : fn.results = #[r, r', r'']) (h1 : REv P s r x) (h2 : REv P s r' x') (h3 : REv P s r'' x'') : RetEv P fn s (.tup [x, x', x'']) := fun E A a w hs => by
  obtain ⟨v, hv, hx⟩ := h1 E A a w hs
  obtain ⟨v', hv', hx'⟩ := h2 E A a w hs
  obtain ⟨v'', hv'', hx''⟩ := h3 E A a w hs
  refine ⟨.tuple #[v, v', v''], ?_, .mk_tup rfl fun k y hk => ?_⟩
  · rw [results_eq, h]
    simp [hv, hv', hv'']
  · match k, hk with
    | 0, hk => simp at hk; subst hk; exact ⟨v, rfl, hx⟩
    | 1, hk => simp at hk; subst hk; exact ⟨v', rfl, hx'⟩
    | 2, hk => simp at hk; subst hk; exact ⟨v'', rfl, hx''⟩
theorem RetEv.four {fn : Func} {s : St} {r r' r'' r3 : ResultVar} {x x' x'' x3 : AV} (h : fn.results = #[r, r', r'', r3]) (h1 : REv P s r x) (h2 : REv P s r' x') (h3 : REv P s r'' x'') (h4 : REv P s r3 x3) : RetEv P fn s (.tup [x, x', x'', x3]) := fun E A a w hs => by
  obtain ⟨v, hv, hx⟩ := h1 E A a w hs
  obtain ⟨v', hv', hx'⟩ := h2 E A a w hs
  obtain ⟨v'', hv'', hx''⟩ := h3 E A a w hs
  obtain ⟨v3, hv3, hx3⟩ := h4 E A a w hs
  refine ⟨.tuple #[v, v', v'', v3], ?_, .mk_tup rfl fun k y hk => ?_⟩
  · rw [results_eq, h]
    simp [hv, hv', hv'', hv3]
  · match k, hk with
    | 0, hk => simp at hk; subst hk; exact ⟨v, rfl, hx⟩
    | 1, hk => simp at hk; subst hk; exact ⟨v', rfl, hx'⟩
    | 2, hk => simp at hk; subst hk; exact ⟨v'', rfl, hx''⟩
    | 3, hk => simp at hk; subst hk; exact ⟨v3, rfl, hx3⟩

def retQ (P : Program) (fn : Func) (R : Res → List Own → Prop) : Exit → St → Prop
  | .normal, s | .ret, s => ∃ x own' dr, RetEv P fn s x ∧ s.dfs = [] ∧ s.own.Perm (own' ++ dr) ∧ R (.ret x) own'
  | .panic chain, s => ∃ v own' dr, chain = [{ v, recovered := false }] ∧ s.dfs = [] ∧ s.own.Perm (own' ++ dr) ∧ R (.pan v) own'
  | _, _ => False

theorem init_sat {rd : Option Nat} {N : Nat} {w : World} {A0 : Foot} {vs : Array Value} {xs : List AV} (hp : Hp w.heap.size (fps own) A0 own w A0) (hargs : RdL w A0 vs xs) (hlen : xs.length ≤ N) :
    SatA ⟨w, fps own, A0, rd⟩ A0 ⟨N, initEnv 0 xs, own, [], []⟩ { tmps := vs ++ Array.replicate (N - vs.size) undef, defers := [] } w := by
  obtain ⟨h1, h2⟩ := hargs
  refine ⟨by simp; omega, rfl, .refl _ _, hp, fun i x hl => ?_, fun p hp => by cases hp⟩
  obtain ⟨_, hx⟩ := lk_init xs 0 i x hl
  have hlt : i < vs.size := by rw [h1]; exact (List.getElem?_eq_some_iff.1 hx).1
  have := h2 i x hx
  simp only [Array.getD_eq_getD_getElem?] at this ⊢
  rw [Array.getElem?_append_left hlt]
  exact this

theorem AC.of_J {f : FuncId} {fn : Func} {c : Code} {N : Nat} {xs : List AV} {R : Res → List Own → Prop} (hf : P.funcs[f]? = some fn) (hb : fn.body = some c) (hN : fn.ntmps = N) (hlen : Nat.ble xs.length N = true)
    (h : ∀ w0 A0, J P ⟨w0, fps own, A0, none⟩ c ⟨N, initEnv 0 xs, own, [], []⟩ (retQ P fn R)) : AC P f own xs R := fun w A0 vs hp hargs => by
  refine calls_of_wp hf hb ?_
  subst hN
  have hin : c.wpIn Fence.wide 0 P _ _ w := h w A0 _ w ⟨A0, init_sat hp hargs (Nat.le_of_ble_eq_true hlen)⟩
  refine wp_mono (wpIn_wide.1 hin) fun e a' w' ⟨s, hq, A, hs⟩ => ?_
  have hret : (∃ x own' dr, RetEv P fn s x ∧ s.dfs = [] ∧ s.own.Perm (own' ++ dr) ∧ R (.ret x) own') → a'.defers = [] ∧ ∃ v, (results fn a'.tmps).run P w' = .ok v w' ∧
      ∃ r own' A, R r own' ∧ Keep (fps own) w w' ∧ Hp w.heap.size (fps own) A0 own' w' A ∧ RdE w' A (.returned v) r := by
    rintro ⟨x, own', dr, hx, hd, hp', hR⟩
    obtain ⟨v, h1, h2⟩ := hx _ A a' w' hs
    exact ⟨hs.defers.trans hd, v, h1, .ret x, own', A, hR, hs.keep, (hs.hp.perm hp').left, v, rfl, h2⟩
  cases e with
  | normal => exact hret hq
  | ret => exact hret hq
  | panic chain =>
    obtain ⟨v, own', dr, rfl, hd, hp', hR⟩ := hq
    exact ⟨hs.defers.trans hd, .pan v, own', A, hR, hs.keep, (hs.hp.perm hp').left, rfl⟩
  | exit id => exact hq.elim
  | goto l => exact hq.elim
  | outgrown => exact hq.elim
end
end Go.Proofs.Ytkiankpmkglhcaa.J
