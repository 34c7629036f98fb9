/- Deferred calls that recover: their contracts, and contracts of the functions that defer them. Assertions on an interface's value. -/
import Derived.Test.YtkiankpmkglhcaaJ13
namespace Go.Proofs.Ytkiankpmkglhcaa.J
open Go Go.RowKit
set_option linter.unusedVariables false
set_option linter.unusedSimpArgs false

/-- A deferred call's contract: how it ends, and the mode in which it leaves who deferred it. -/
def DC (P : Program) (f : FuncId) (own : List Own) (xs : List AV) (u : FrameMode) (R : Res → FrameMode → List Own → Prop) : Prop :=
  ∀ (w : World) (A0 : Foot) (vs : Array Value), Hp w.heap.size (fps own) A0 own w A0 → RdL w A0 vs xs →
    CallsD P f vs u w fun e u' w' => ∃ r own' A, R r u' own' ∧ Keep (fps own) w w' ∧ Hp w.heap.size (fps own) A0 own' w' A ∧ RdE w' A e r

/-- Code of a deferred call. -/
def JD (P : Program) (E : Ent) (c : Code) (u : FrameMode) (st : St) (Q : Exit → St → FrameMode → Prop) : Prop :=
  ∀ a w (c0 : Frame) (cs : List Frame), c0.mode = u → Sat E st a w → c.wpS P (fun e a' cs' w' => ∃ s' u', Q e s' u' ∧ Sat E s' a' w' ∧ cs' = { c0 with mode := u' } :: cs) a (c0 :: cs) w

section
variable {P : Program} {E : Ent} {st : St} {n : Nat} {env : List (Nat × AV)} {own : List Own} {F : List (Value × AV)} {D : List Deferred} {ops : Array Oper} {rest : List Oper}
variable {A : Foot} {a : Act} {w w' : World} {u u' : FrameMode} {QD : Exit → St → FrameMode → Prop}

theorem JD.of_J {c : Code} (hE : E.rd = none) (h : J P E c st fun e s => QD e s u) : JD P E c u st QD := fun a w c0 cs hu hs => by
  have hin := h a w hs
  rw [hE] at hin
  have hw : c.wp P _ a w := wpIn_wide.1 hin
  refine wpS_of_wp (wp_mono hw fun e a' w' ⟨s, q, hsat⟩ => ⟨s, u, q, hsat, ?_⟩)
  subst hu; rfl

def thenD (K : St → FrameMode → Prop) (Q : Exit → St → FrameMode → Prop) : Exit → St → FrameMode → Prop
  | .normal, s, u => K s u
  | e, s, u => Q e s u

theorem wpS_mono {c : Code} {Q Q' : Exit → Act → List Frame → World → Prop} {cs : List Frame} (h : c.wpS P Q a cs w) (hq : ∀ e a cs w, Q e a cs w → Q' e a cs w) : c.wpS P Q' a cs w :=
  fun b k hb hr => let ⟨e, a', cs', w', q, r⟩ := h b k hb hr; ⟨e, a', cs', w', hq _ _ _ _ q, r⟩

theorem JD.seq {x y : Code} (h : JD P E x u st (thenD (fun s u => JD P E y u s QD) QD)) : JD P E (.seq x y) u st QD := fun a w c0 cs hu hs => by
  refine wpS_seq (wpS_mono (h a w c0 cs hu hs) fun e a' cs' w' ⟨s', u', q, hsat, hcs⟩ => ?_)
  cases e with
  | normal =>
    subst hcs
    exact wpS_mono (q a' w' { c0 with mode := u' } cs rfl hsat) fun e a cs w h => h
  | _ => exact ⟨s', u', q, hsat, hcs⟩

/-- The first operation recovers. -/
theorem JD.region_recover {id : Nat} {l : List Oper} {d : Nat} {v : Value} {tys : Array TypeId} {ty : TypeId} {pos : String} {af : Array Edge} (hE : E.rd = none) (hd : Nat.blt d n = true)
    (hv : (u = .returning ∧ v = .nilIface ∧ u' = .returning) ∨ ∃ older, u = .panicking ({ v, recovered := false } :: older) ∧ u' = .panicking ({ v, recovered := true } :: older))
    (hl : l = ⟨some d, .call ⟨.builtin .recover, #[], tys⟩, ty, pos, af, none⟩ :: rest)
    (h : JL P E l.toArray rest ⟨n, (d, .c v) :: env, own, F, D⟩ fun e s => QD e s u') :
    JD P E (.region id l.toArray false) u ⟨n, env, own, F, D⟩ QD := fun a w c0 cs hu ⟨A, hA⟩ b k hb hr => by
  subst hl
  have hsat : Sat E ⟨n, (d, .c v) :: env, own, F, D⟩ (a.put (some d) v) w := ⟨A, hA.put (blt_lt hd) (.c v)⟩
  have hlist := h _ w hsat
  rw [hE] at hlist
  have hops := wpOpsIn_eq_wpListIn (F := fen none) (n := 0) (P := P) (ops := (⟨some d, .call ⟨.builtin .recover, #[], tys⟩, ty, pos, af, none⟩ :: rest : List Oper).toArray) (Q := lift E fun e s => QD e s u') rest 1 (fun j => by simp [Nat.add_comm])
  rw [← hops] at hlist
  obtain ⟨e, a', w', ⟨s', hq, hs'⟩, harr⟩ := wp_opsIn (List.range' 1 rest.length) _ w hlist { b with roundOf := none } k ({ c0 with mode := u' } :: cs) rfl trivial (room_wide _)
  have harr' := (arrivesIn_iff (b := { b with roundOf := none }) (fun _ _ => stepsIn_wide) rfl).1 harr
  refine ⟨e, a', { c0 with mode := u' } :: cs, w', ⟨s', u', hq, hs', rfl⟩, ?_⟩
  have harr2 : Arrives P (lone (b.at (a.put (some d) v) (.inRegion (⟨some d, .call ⟨.builtin .recover, #[], tys⟩, ty, pos, af, none⟩ :: rest : List Oper).toArray (List.range' 1 rest.length) :: k)) ({ c0 with mode := u' } :: cs) w) b k ({ c0 with mode := u' } :: cs) e a' w' := harr'
  refine Arrives.of_steps (.one step_region) (Arrives.of_steps (.one ?_) harr2)
  have hrange : List.range ((⟨some d, .call ⟨.builtin .recover, #[], tys⟩, ty, pos, af, none⟩ :: rest : List Oper).toArray).size = 0 :: List.range' 1 rest.length := by
    rw [List.range_eq_range']; simp [List.range'_succ]
  rw [hrange]
  have hk : (b.at a (.inRegion (⟨some d, .call ⟨.builtin .recover, #[], tys⟩, ty, pos, af, none⟩ :: rest : List Oper).toArray (0 :: List.range' 1 rest.length) :: k)).kind = .deferred := hb
  have htr := tryRecover_deferred hk (c0 :: cs)
  have hg := stepG_op (P := P) (b := b) (a := a) (k := k) (cs := c0 :: cs) (w := w) (rest := List.range' 1 rest.length) (ops := (⟨some d, .call ⟨.builtin .recover, #[], tys⟩, ty, pos, af, none⟩ :: rest : List Oper).toArray) (i := 0)
    (o := ⟨some d, .call ⟨.builtin .recover, #[], tys⟩, ty, pos, af, none⟩) (by simp) (by simp [Region.wanted])
  have hrun : (execOp a.eval ⟨some d, .call ⟨.builtin .recover, #[], tys⟩, ty, pos, af, none⟩).run P w = .ok .recover w := by
    simp [execOp, resolve, invoke, builtin]
  have hfin : ∀ v, (b.at a (.inRegion (⟨some d, .call ⟨.builtin .recover, #[], tys⟩, ty, pos, af, none⟩ :: rest : List Oper).toArray (0 :: List.range' 1 rest.length) :: k)).finish v = b.at (a.put (some d) v) (.inRegion (⟨some d, .call ⟨.builtin .recover, #[], tys⟩, ty, pos, af, none⟩ :: rest : List Oper).toArray (List.range' 1 rest.length) :: k) := by
    intro v; rw [Frame.finish_at]; simp
  refine step_lone_go ?_
  rw [hg, ← hfin]
  rcases hv with ⟨h1, h2, h3⟩ | ⟨older, h1, h2⟩
  · subst h2 h3
    have hrec : recoverD (c0 :: cs) = none := by simp [recoverD, hu, h1]
    have hc0 : ({ c0 with mode := .returning } : Frame) = c0 := by rw [← h1, ← hu]
    simp only [Frame.at] at htr ⊢
    simp [stepG.apply, hrun, htr, hrec, hc0]
  · subst h2
    have hrec : recoverD (c0 :: cs) = some (v, { c0 with mode := .panicking ({ v, recovered := true } :: older) } :: cs) := by simp [recoverD, hu, h1]
    simp only [Frame.at] at htr ⊢
    simp [stepG.apply, hrun, htr, hrec]

def retDC (P : Program) (fn : Func) (R : Res → FrameMode → List Own → Prop) : Exit → St → FrameMode → Prop
  | .normal, s, u | .ret, s, u => ∃ x own' dr, RetEv P fn s x ∧ s.dfs = [] ∧ s.own.Perm (own' ++ dr) ∧ R (.ret x) u own'
  | _, _, _ => False

theorem DC.of_JD {f : FuncId} {fn : Func} {c : Code} {N : Nat} {xs : List AV} {R : Res → FrameMode → List Own → Prop} (hf : P.funcs[f]? = some fn) (hb : fn.body = some c) (hN : fn.ntmps = N) (hlen : Nat.ble xs.length N = true)
    (h : ∀ w0 A0, JD P ⟨w0, fps own, A0, none⟩ c u ⟨N, initEnv 0 xs, own, [], []⟩ (retDC P fn R)) : DC P f own xs u R := fun w A0 vs hp hargs => by
  refine callsD_of_wpS hf hb fun c0 cs hu => ?_
  subst hN
  refine wpS_mono (h w A0 _ w c0 cs hu ⟨A0, init_sat hp hargs (Nat.le_of_ble_eq_true hlen)⟩) fun e a' cs' w' ⟨s, u', hq, ⟨A, hs⟩, hcs⟩ => ?_
  have hret : (∃ x own' dr, RetEv P fn s x ∧ s.dfs = [] ∧ s.own.Perm (own' ++ dr) ∧ R (.ret x) u' own') → a'.defers = [] ∧ ∃ u', cs' = { c0 with mode := u' } :: cs ∧ ∃ v, (results fn a'.tmps).run P w' = .ok v w' ∧
      ∃ r own' A, R r u' own' ∧ Keep (fps own) w w' ∧ Hp w.heap.size (fps own) A0 own' w' A ∧ RdE w' A (.returned v) r := by
    rintro ⟨x, own', dr, hx, hd, hp', hR⟩
    obtain ⟨v, h1, h2⟩ := hx _ A a' w' hs
    exact ⟨hs.defers.trans hd, u', hcs, v, h1, .ret x, own', A, hR, hs.keep, (hs.hp.perm hp').left, v, rfl, h2⟩
  cases e with
  | normal => exact hret hq
  | ret => exact hret hq
  | panic chain => exact hq.elim
  | exit id => exact hq.elim
  | goto l => exact hq.elim
  | outgrown => exact hq.elim

/-! ### who defers -/
def modeOf : Exit → Option FrameMode
  | .normal | .ret => some .returning
  | .panic chain => some (.panicking chain)
  | _ => none

/-- One call is deferred, and it leads to a return. -/
def retD (P : Program) (fn : Func) (R : Res → List Own → Prop) (e : Exit) (s : St) : Prop :=
  ∃ u g fi ca op ro, modeOf e = some u ∧ s.dfs = [⟨.fn (.func g) (List.toArray ca), List.toArray fi⟩] ∧ goFn P g = true ∧ s.own.Perm (op ++ ro) ∧
    DC P g op ((fi ++ ca).map AV.c) u fun r u' own' => (∃ x, r = .ret x) ∧ settle u' = .returning ∧ ∃ y own'' dr, RetEv P fn ⟨s.n, s.env, own' ++ ro, s.facts, s.dfs⟩ y ∧ (own' ++ ro).Perm (own'' ++ dr) ∧ R (.ret y) own''

theorem AC.of_JD {f : FuncId} {fn : Func} {c : Code} {N : Nat} {xs : List AV} {R : Res → List Own → Prop} (hf : P.funcs[f]? = some fn) (hb : fn.body = some c) (hN : fn.ntmps = N) (hlen : Nat.ble xs.length N = true)
    (h : ∀ w0 A0, J P ⟨w0, fps own, A0, none⟩ c ⟨N, initEnv 0 xs, own, [], []⟩ (retD P fn R)) : AC P f own xs R := fun w A0 vs hp hargs => by
  refine calls_of_wp_defers hf hb ?_
  subst hN
  have hin : c.wpIn Fence.wide 0 P _ _ w := h w A0 _ w ⟨A0, init_sat hp hargs (Nat.le_of_ble_eq_true hlen)⟩
  refine wp_mono (wpIn_wide.1 hin) fun e a' w' ⟨s, ⟨u, g, fi, ca, op, ro, hu, hdf, hg, hperm, hD⟩, A, hs⟩ => ?_
  obtain ⟨n, env, own1, F, D⟩ := s
  simp only at hdf hperm
  have hs' := hs.perm hperm
  have hleave : u ≠ .run → Leaves P fn a'.tmps (fun e w' => ∃ r own' A, R r own' ∧ Keep (fps own) w w' ∧ Hp w.heap.size (fps own) A0 own' w' A ∧ RdE w' A e r) a'.defers u w' := by
    intro hne
    rw [hs.defers]
    simp only
    rw [hdf]
    refine leaves_cons (args := fi.toArray ++ ca.toArray) (f := g) hne (by simp only [invoke, goFn_run hg]) ?_
    have hrl : RdL w' A (fi.toArray ++ ca.toArray) ((fi ++ ca).map AV.c) := by
      refine ⟨by simp, fun i z hz => ?_⟩
      rw [List.getElem?_map] at hz
      cases hv : (fi ++ ca)[i]? with
      | none => rw [hv] at hz; cases hz
      | some v =>
        rw [hv] at hz; cases hz
        have : (fi.toArray ++ ca.toArray).getD i undef = v := by
          rw [List.append_toArray, Array.getD_eq_getD_getElem?, List.getElem?_toArray, hv]; rfl
        rw [this]; exact .c v
    refine (hD w' A _ hs'.callee hrl).mono ?_
    rintro e u' w'' ⟨r, own', A', ⟨⟨x, rfl⟩, hst, y, own'', dr, hev, hp2, hR⟩, hk, hp', v, rfl, hv⟩
    have hcalled := hs'.called hk hp'
    simp only
    rw [hst]
    obtain ⟨v', g1, g2⟩ := hev _ A' a' w'' hcalled
    exact ⟨v', g1, .ret y, own'', A', hR, hcalled.keep, (hcalled.hp.perm hp2).left, v', rfl, g2⟩
  cases e with
  | normal => simp only [modeOf, Option.some.injEq] at hu; subst hu; exact hleave (by simp)
  | ret => simp only [modeOf, Option.some.injEq] at hu; subst hu; exact hleave (by simp)
  | panic chain => simp only [modeOf, Option.some.injEq] at hu; subst hu; exact hleave (by simp)
  | exit id => simp [modeOf] at hu
  | goto l => simp [modeOf] at hu
  | outgrown => simp [modeOf] at hu

/-- A deferred call is laid. -/
theorem JL.defer {w0 : World} {fp0 : List Nat} {A0 : Foot} {Q : Exit → St → Prop} {dd : Option Tmp} {fo : Operand} {g : FuncId} {fi ca : List Value} {tys : Array TypeId} {ty : TypeId} {pos : String} {af : Array Edge} (hdd : dd = none)
    (hfo : Ev ⟨w0, fp0, A0, none⟩ ⟨n, env, own, F, D⟩ fo (.c (.func (.func g) fi.toArray ca.toArray)))
    (h : JL P ⟨w0, fp0, A0, none⟩ ops rest ⟨n, env, own, F, ⟨.fn (.func g) ca.toArray, fi.toArray⟩ :: D⟩ Q) :
    JL P ⟨w0, fp0, A0, none⟩ ops (⟨dd, .defer ⟨.value fo, #[], tys⟩, ty, pos, af, none⟩ :: rest) ⟨n, env, own, F, D⟩ Q := fun a w ⟨A, hA⟩ => by
  subst hdd
  refine wpListIn_plain rfl fun K hK => ?_
  refine ⟨fun _ _ => trivial, ?_⟩
  have hrun : ((⟨none, .defer ⟨.value fo, #[], tys⟩, ty, pos, af, none⟩ : Oper).semAt (fen none).round a.eval).run P w = .ok (.defer ⟨.fn (.func g) ca.toArray, fi.toArray⟩) w := by
    show (execOp a.eval ⟨none, .defer ⟨.value fo, #[], tys⟩, ty, pos, af, none⟩).run P w = _
    simp [execOp, resolve, hfo.eq hA, Deferred.ofValue]
  rw [show (fen (Ent.rd ⟨w0, fp0, A0, none⟩)) = fen none from rfl, hrun, Oper.uponIn_defer]
  refine hK _ _ (h _ _ ⟨A, ?_⟩)
  exact ⟨hA.size, by show _ :: a.defers = _; rw [hA.defers], hA.keep, hA.hp, hA.env, hA.facts⟩

/-! ### what an interface's value is -/
theorem QW.assert_hit {st : St} {dd : Option Tmp} {x : Operand} {xt t ty : TypeId} {pos : String} {af : Array Edge} {gd : Option (Nat × Bool)} {v : Value} (hU : ∃ d, P.underlying t = some d ∧ ∀ ms, d ≠ .interface ms) (hx : Ev E st x (.c (.iface t v))) :
    QW P E st ⟨dd, .typeAssert x xt t true, ty, pos, af, gd⟩ (.tup [.c v, .c (.bool true)]) := .pure fun A a w hs => by
  obtain ⟨d, h1, h2⟩ := hU
  refine ⟨.tuple #[v, .bool true], ?_, .mk_tup rfl fun k y hk => ?_⟩
  · simp only [execOp, hx.eq hs, Instr.typeAssert, Sem.run_bind, run_underlying _ h1, Result.andThen_ok]
    cases d <;> first | exact absurd rfl (h2 _) | simp
  · match k, hk with
    | 0, hk => simp at hk; subst hk; exact ⟨v, rfl, .c v⟩
    | 1, hk => simp at hk; subst hk; exact ⟨.bool true, rfl, .c _⟩
theorem QW.assert_nil {st : St} {dd : Option Tmp} {x : Operand} {xt t ty : TypeId} {pos : String} {af : Array Edge} {gd : Option (Nat × Bool)} {z : Value} (hU : ∃ d, P.underlying t = some d ∧ ∀ ms, d ≠ .interface ms) (hz : ∀ w, (zeroValue t).run P w = .ok z w) (hx : Ev E st x (.c .nilIface)) :
    QW P E st ⟨dd, .typeAssert x xt t true, ty, pos, af, gd⟩ (.tup [.c z, .c (.bool false)]) := .pure fun A a w hs => by
  obtain ⟨d, h1, h2⟩ := hU
  refine ⟨.tuple #[z, .bool false], ?_, .mk_tup rfl fun k y hk => ?_⟩
  · simp only [execOp, hx.eq hs, Instr.typeAssert, Sem.run_bind, run_underlying _ h1, Result.andThen_ok]
    cases d <;> first | exact absurd rfl (h2 _) | simp [hz]
  · match k, hk with
    | 0, hk => simp at hk; subst hk; exact ⟨z, rfl, .c z⟩
    | 1, hk => simp at hk; subst hk; exact ⟨.bool false, rfl, .c _⟩
end
end Go.Proofs.Ytkiankpmkglhcaa.J
