/- Contracts that return, contracts that may panic, in the form in which the walks use them; stores over a whole variable. -/
import Derived.Test.YtkiankpmkglhcaaJ17
namespace Go.Proofs.Ytkiankpmkglhcaa.J
open Go Go.RowKit
set_option linter.unusedVariables false
set_option linter.unusedSimpArgs false

/-- It returns, and Rx of the value and of what is owned then. -/
def RetR (Rx : AV → List Own → Prop) : Res → List Own → Prop := fun r o => ∃ x, r = .ret x ∧ Rx x o
/-- It returns if ok, else it panics with e. -/
def PanR (ok : Prop) (e : Value) (Rx : AV → List Own → Prop) : Res → List Own → Prop := fun r o => (ok ∧ ∃ x, r = .ret x ∧ Rx x o) ∨ (¬ ok ∧ r = .pan e ∧ o = [])

theorem RetR.mk {Rx : AV → List Own → Prop} {x : AV} {o : List Own} (h : Rx x o) : RetR Rx (.ret x) o := ⟨x, rfl, h⟩
theorem PanR.ret {ok : Prop} {e : Value} {Rx : AV → List Own → Prop} {x : AV} {o : List Own} (hk : ok) (h : Rx x o) : PanR ok e Rx (.ret x) o := .inl ⟨hk, x, rfl, h⟩
theorem PanR.pan {ok : Prop} {e : Value} {Rx : AV → List Own → Prop} (hk : ¬ ok) : PanR ok e Rx (.pan e) [] := .inr ⟨hk, rfl, rfl⟩
theorem Fn.ofR {P : Program} {f : FuncId} {xs : List AV} {z : AV} (h : AC P f [] xs (RetR fun x o => x = z ∧ o = [])) : Fn P f xs z := h.mono fun r o ⟨x, h1, h2, h3⟩ => ⟨by rw [h1, h2], h3⟩

/-- All that comes back is fresh. -/
def FreshX (Rx : AV → List Own → Prop) : Prop := ∀ x o, Rx x o → Fresh x ∧ ∀ y ∈ o, OwnFl (· = true) y

section
variable {P : Program} {E : Ent} {Q : Exit → St → Prop} {n : Nat} {env : List (Nat × AV)} {own : List Own} {F : List (Value × AV)} {D : List Deferred} {ops : Array Oper} {rest : List Oper}
variable {A : Foot} {a : Act} {w w' : World} {t ty : TypeId} {pos : String} {af : Array Edge} {d : Nat} {x y : Operand} {g : Bool} {m B : Nat}

theorem JL.callR (ms : List Cd) {f : FuncId} {fo : Operand} {fi ca : List Value} {l : List Operand} {tys : Array TypeId} {xs zs : List AV} {Rx : AV → List Own → Prop} {G : List (Value × AV)} (hf : goFn P f = true) (hd : Nat.blt d n = true)
    (hfo : Ev E ⟨n, env, own, F, D⟩ fo (.c (.func (.func f) fi.toArray ca.toArray))) (hG : Lent G (selL ms own)) (hargs : ∀ E', EvL E' ⟨n, env, selP ms own ++ selK ms own, G ++ F, D⟩ l xs) (hzs : fi.map AV.c ++ xs ++ ca.map AV.c = zs) (hAC : AC P f (selP ms own) zs (RetR Rx))
    (hfr : selL ms own = [] ∨ FreshX Rx)
    (hret : ∀ x own', Rx x own' → JL P E ops rest ⟨n, (d, x) :: env, mrg ms own' own, F, D⟩ Q) :
    JL P E ops (⟨some d, .call ⟨.value fo, l.toArray, tys⟩, ty, pos, af, none⟩ :: rest) ⟨n, env, own, F, D⟩ Q :=
  JL.callG ms hf hd hfo hG hargs hzs hAC (hfr.imp id fun h r o ⟨x, h1, h2⟩ => by subst h1; exact h x o h2) (fun x own' ⟨x', h1, h2⟩ => by cases h1; exact hret x own' h2) (fun v own' ⟨x', h1, _⟩ => by cases h1)
theorem JL.callRF (ms : List Cd) {f : FuncId} {l : List Operand} {tys : Array TypeId} {xs : List AV} {Rx : AV → List Own → Prop} {G : List (Value × AV)} (hf : goFn P f = true) (hd : Nat.blt d n = true)
    (hG : Lent G (selL ms own)) (hargs : ∀ E', EvL E' ⟨n, env, selP ms own ++ selK ms own, G ++ F, D⟩ l xs) (hAC : AC P f (selP ms own) xs (RetR Rx))
    (hfr : selL ms own = [] ∨ FreshX Rx)
    (hret : ∀ x own', Rx x own' → JL P E ops rest ⟨n, (d, x) :: env, mrg ms own' own, F, D⟩ Q) :
    JL P E ops (⟨some d, .call ⟨.value (.func f), l.toArray, tys⟩, ty, pos, af, none⟩ :: rest) ⟨n, env, own, F, D⟩ Q :=
  JL.callR (fi := []) (ca := []) ms hf hd .func hG hargs (by simp) hAC hfr hret
theorem JL.callPF (ms : List Cd) {f : FuncId} {l : List Operand} {tys : Array TypeId} {xs : List AV} {ok : Prop} {e : Value} {Rx : AV → List Own → Prop} {G : List (Value × AV)} (hf : goFn P f = true) (hd : Nat.blt d n = true)
    (hG : Lent G (selL ms own)) (hargs : ∀ E', EvL E' ⟨n, env, selP ms own ++ selK ms own, G ++ F, D⟩ l xs) (hAC : AC P f (selP ms own) xs (PanR ok e Rx))
    (hfr : selL ms own = [] ∨ FreshX Rx)
    (hret : ok → ∀ x own', Rx x own' → JL P E ops rest ⟨n, (d, x) :: env, mrg ms own' own, F, D⟩ Q)
    (hpan : ¬ ok → Q (.panic [{ v := e, recovered := false }]) ⟨n, env, mrg ms [] own, F, D⟩) :
    JL P E ops (⟨some d, .call ⟨.value (.func f), l.toArray, tys⟩, ty, pos, af, none⟩ :: rest) ⟨n, env, own, F, D⟩ Q :=
  JL.callF ms hf hd hG hargs hAC (hfr.imp id fun h r o hR => by
      rcases hR with ⟨_, x, h1, h2⟩ | ⟨_, h1, h2⟩
      · subst h1; exact h x o h2
      · subst h1 h2; exact ⟨trivial, fun y hy => by cases hy⟩)
    (fun x own' hR => by
      rcases hR with ⟨hk, x', h1, h2⟩ | ⟨_, h1, _⟩
      · cases h1; exact hret hk x own' h2
      · cases h1)
    (fun v own' hR => by
      rcases hR with ⟨_, x', h1, _⟩ | ⟨hk, h1, h2⟩
      · cases h1
      · cases h1; subst h2; exact hpan hk)
theorem JL.conv {st st' : St} {l : List Oper} (h : st = st') (k : JL P E ops l st' Q) : JL P E ops l st Q := h ▸ k
theorem J.conv {st st' : St} {c : Code} (h : st = st') (k : J P E c st' Q) : J P E c st Q := h ▸ k
theorem splice_zero {z : AV} {ys : List AV} {x : AV} : splice (x :: ys) 0 [z] = z :: ys := by simp [splice]
theorem splice_succ {ys zs : List AV} {x : AV} {k : Nat} : splice (x :: ys) (k + 1) zs = x :: splice ys k zs := by simp [splice, Nat.succ_add]
/-- In a region that draws its order. -/
theorem LStepR.callRF (ms : List Cd) {f : FuncId} {l : List Operand} {tys : Array TypeId} {xs : List AV} {Rx : AV → List Own → Prop} {G : List (Value × AV)} (hf : goFn P f = true)
    (hG : Lent G (selL ms own)) (hargs : ∀ E', EvL E' ⟨n, env, selP ms own ++ selK ms own, G ++ F, D⟩ l xs) (hAC : AC P f (selP ms own) xs (RetR Rx))
    (hfr : selL ms own = [] ∨ FreshX Rx) :
    LStepR P E Q ⟨n, env, own, F, D⟩ (fun ow x o' => ∃ o2, Rx x o2 ∧ o' = mrg ms o2 ow) ⟨some d, .call ⟨.value (.func f), l.toArray, tys⟩, ty, pos, af, none⟩ := fun A a w hA K hK =>
  LStepR.callF (d := d) ms hf hG hargs hAC (hfr.imp id fun h r o ⟨x, h1, h2⟩ => by subst h1; exact h x o h2) (fun v own' ⟨x', h1, _⟩ => by cases h1) A a w hA K
    fun v x own' w' A' ⟨o2, ⟨x', h1, h2⟩, h3⟩ => hK v x own' w' A' ⟨o2, by cases h1; exact h2, h3⟩

/-- A store over a whole variable. -/
theorem JL.store_boxF (i : Nat) {b : Nat} {ys : List AV} {z : AV} (hT : tySz P t = some (g, m, B)) (hx : Ev E ⟨n, env, own, F, D⟩ x (.c (.pointer (some ⟨b, 0, none⟩))))
    (ho : own[i]? = some (.box b ys)) (hy : Ev E ⟨n, env, own, F, D⟩ y z) (hz : z.plain = true) (hm : z.cellsOf.length = m) (hl : ys.length = m)
    {own' : List Own} (hown : own.set i (.box b z.cellsOf) = own')
    (h : JL P E ops rest ⟨n, env, own', F, D⟩ Q) :
    JL P E ops (⟨none, .store t x y, ty, pos, af, none⟩ :: rest) ⟨n, env, own, F, D⟩ Q :=
  JL.store_box i hT hx ho hy hz hm (by rw [Nat.zero_add, hl]; exact Nat.ble_eq_true_of_le (Nat.le_refl m)) (by
    unfold splice
    rw [Nat.zero_add, hm, ← hl]
    simp) hown h
theorem LStep.store_boxF (i : Nat) {b : Nat} {ys : List AV} {z : AV} (hT : tySz P t = some (g, m, B)) (hx : Ev E ⟨n, env, own, F, D⟩ x (.c (.pointer (some ⟨b, 0, none⟩))))
    (ho : own[i]? = some (.box b ys)) (hy : Ev E ⟨n, env, own, F, D⟩ y z) (hz : z.plain = true) (hm : z.cellsOf.length = m) (hl : ys.length = m)
    {own' : List Own} (hown : own.set i (.box b z.cellsOf) = own') : LStep P E ⟨n, env, own, F, D⟩ own' ⟨none, .store t x y, ty, pos, af, none⟩ :=
  LStep.store_box i hT hx ho hy hz hm (by rw [Nat.zero_add, hl]; exact Nat.ble_eq_true_of_le (Nat.le_refl m)) (by
    unfold splice
    rw [Nat.zero_add, hm, ← hl]
    simp) hown
theorem LStep.toR {st : St} {own' : List Own} {o : Oper} {R : List Own → AV → List Own → Prop} (hd : o.dst = none) (h : LStep P E st own' o) (hR : R st.own (.c undef) own') : LStepR P E Q st R o := fun A a w hA K hK =>
  h A a w hA K (lift E Q) fun w' A' hf hs => by
    have := hK undef (.c undef) own' w' A' hR hf hs (.c _)
    rw [hd] at this
    exact this

theorem ret_b {a b : Bool} (h : a = true ↔ b = true) : Res.ret (.c (.bool a)) = Res.ret (.c (.bool b)) := by rw [Bool.eq_iff_iff.2 h]
theorem DC.mono {P : Program} {f : FuncId} {own : List Own} {xs : List AV} {u : FrameMode} {R R' : Res → FrameMode → List Own → Prop} (h : DC P f own xs u R) (hR : ∀ r u' o, R r u' o → R' r u' o) : DC P f own xs u R' :=
  fun w A0 vs h1 h2 => (h w A0 vs h1 h2).mono fun _ _ _ ⟨r, o, A, hr, rest⟩ => ⟨r, o, A, hR _ _ _ hr, rest⟩
theorem thenD.nn {K : St → FrameMode → Prop} {QD : Exit → St → FrameMode → Prop} {s : St} {u : FrameMode} (h : K s u) : thenD K QD .normal s u := h
theorem Le.eqv {F : List (Value × AV)} {x y : AV} (h : x = y) : Le F x y := h ▸ .refl _
theorem Le.boolE {F : List (Value × AV)} {a b : Bool} (h : a = b) : Le F (.c (.bool a)) (.c (.bool b)) := h ▸ .refl _
theorem Le.intE {F : List (Value × AV)} {k : IntKind} {a b : Int} (h : a = b) : Le F (.c (.int k a)) (.c (.int k b)) := h ▸ .refl _
theorem QW.len_slE {st : St} {dd : Option Tmp} {gd : Option (Nat × Bool)} {fr clip : Bool} {e : ETy} {xs : List (List AV)} {et : TypeId} {k : Nat} {P : Program} {E : Ent} {x : Operand} {t ty : TypeId} {pos : String} {af : Array Edge} (hU : P.underlying t = some (.slice et)) (h : Ev E st x (.sl fr clip e xs)) (hk : xs.length = k) :
    QW P E st ⟨dd, .call ⟨.builtin .len, #[x], #[t]⟩, ty, pos, af, gd⟩ (.c (.int .i64 (k : Int))) := (QW.len_sl hU h).conv (by rw [hk])
theorem take_full {ys : List AV} {k : Nat} (h : ys.length = k) : (ys.drop 0).take k = ys := by subst h; simp
theorem take_at {ys zs : List AV} {off k : Nat} (hl : zs.length = k) (h : ys.drop off = zs) : (ys.drop off).take k = zs := by rw [h, ← hl]; simp
theorem take_at0 {ys zs : List AV} {k : Nat} (hl : zs.length = k) (h : ys = zs) : ys.take k = zs := by subst h hl; simp
theorem take_fullL {ys : List AV} {k : Nat} (h : ys.length = k) : ys.take k = ys := by subst h; simp

/-- A JD that is a J behind: conditions. -/
theorem JD.cond {c : Operand} {x y : Code} {u : FrameMode} {t : Bool} {st : St} {QD : Exit → St → FrameMode → Prop} (hc : Ev E st c (.c (.bool t))) (h1 : t = true → JD P E x u st QD) (h2 : t = false → JD P E y u st QD) :
    JD P E (.cond c x y) u st QD := fun a w c0 cs hu hs => by
  have hs' := hs
  obtain ⟨A, hA⟩ := hs'
  refine wpS_cond (hc.eq hA) ?_
  cases t with
  | true => exact h1 rfl a w c0 cs hu hs
  | false => exact h2 rfl a w c0 cs hu hs
end
end Go.Proofs.Ytkiankpmkglhcaa.J
