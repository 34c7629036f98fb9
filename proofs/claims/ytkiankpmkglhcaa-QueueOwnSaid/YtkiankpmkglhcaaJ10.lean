/- Regions that draw their order, in the form in which the walks use them. -/
import Derived.Test.YtkiankpmkglhcaaJ9
namespace Go.Proofs.Ytkiankpmkglhcaa.J
open Go Go.RowKit
set_option linter.unusedVariables false
set_option linter.unusedSimpArgs false

section
variable {P : Program} {E : Ent} {Q : Exit → St → Prop} {n : Nat} {env : List (Nat × AV)} {own : List Own} {F : List (Value × AV)} {D : List Deferred} {ops : Array Oper} {K : List (Nat × AV) → Prop}

/-- What has been made, the latest first: of that the slots of a list. -/
def sel (sl : List Nat) : List (Nat × AV) → List (Nat × AV)
  | [] => []
  | (s, x) :: don => match sl.any (Nat.beq s) with | true => (s, x) :: sel sl don | false => sel sl don
def chk (o : Oper) (sl : List Nat) : List (Nat × AV) → Nat → Bool
  | [], _ => true
  | (s, _) :: don, i => match sl.any (Nat.beq s) with | true => depsOk o [i - 1] && chk o sl don (i - 1) | false => chk o sl don (i - 1)

theorem sel_get {o : Oper} {sl : List Nat} {env : List (Nat × AV)} : ∀ {don : List (Nat × AV)} {i : Nat}, i = don.length → chk o sl don i = true → EnvOk o don.reverse env (sel sl don ++ env)
  | [], i, _, _ => fun s x h => .inr (by simpa [sel] using h)
  | (s0, x0) :: don, i, hi, h => fun s x hl => by
    have hi' : i - 1 = don.length := by simp at hi; omega
    have hrec : chk o sl don (i - 1) = true → lk (sel sl don ++ env) s = some x → (∃ j, depsOk o [j] = true ∧ ((s0, x0) :: don).reverse[j]? = some (s, x)) ∨ lk env s = some x := fun hc hl => by
      rcases sel_get (don := don) (i := i - 1) hi' hc s x hl with ⟨j, h1, h2⟩ | h
      · exact .inl ⟨j, h1, by rw [List.reverse_cons, List.getElem?_append_left (List.getElem?_eq_some_iff.1 h2).1]; exact h2⟩
      · exact .inr h
    unfold sel at hl
    unfold chk at h
    split at hl
    · rename_i hb
      rw [hb] at h
      simp only [Bool.and_eq_true] at h
      rcases lk_cons hl with ⟨rfl, rfl⟩ | ⟨_, hl⟩
      · exact .inl ⟨i - 1, h.1, by rw [hi', List.reverse_cons, List.getElem?_append_right (by simp)]; simp⟩
      · exact hrec h.2 hl
    · rename_i hb
      rw [hb] at h
      exact hrec h hl

def MixK (P : Program) (E : Ent) (ops : Array Oper) (n : Nat) (env : List (Nat × AV)) (own : Nat → List Own) (M : Nat) (F : List (Value × AV)) (D : List Deferred) (i j p : Nat) (os : List Oper) (don : List (Nat × AV)) (K : List (Nat × AV) → Prop) : Prop :=
  i = don.length → ∃ all lv, AnyM P E ops n env own M F D i j p os don.reverse all lv ∧ K all.reverse
variable {ow : Nat → List Own} {M i j p : Nat}
theorem MixK.nil {don : List (Nat × AV)} (h : K don) : MixK P E ops n env ow M F D i M p [] don K := fun _ => ⟨don.reverse, _, .nil i p don.reverse, by rw [List.reverse_reverse]; exact h⟩
theorem MixK.quiet {o : Oper} {os : List Oper} {don : List (Nat × AV)} {d : Nat} {x : AV} (sl : List Nat) (hd : o.dst = some d) (hn : Nat.blt d n = true) (hc : chk o sl don i = true)
    (hs : ∀ q, q ≤ M → Step P E ops ⟨n, sel sl don ++ env, ow q, F, D⟩ o x) (h : MixK P E ops n env ow M F D (i + 1) j p os ((d, x) :: don) K) : MixK P E ops n env ow M F D i j p (o :: os) don K := fun hi => by
  obtain ⟨all, lv, h1, h2⟩ := h (by simp [hi])
  rw [List.reverse_cons] at h1
  exact ⟨all, _, .quiet hd hn (sel_get hi hc) hs h1, h2⟩
theorem MixK.loud {o : Oper} {os : List Oper} {don : List (Nat × AV)} (sl : List Nat) (hd : o.dst = none) (hg : o.guard = none) (hc : chk o sl don i = true) (hp : (Nat.beq j 0 || depsOk o [p]) = true)
    (hs : LStep P E ⟨n, sel sl don ++ env, ow j, F, D⟩ (ow (j + 1)) o) (h : MixK P E ops n env ow M F D (i + 1) (j + 1) i os ((n + i, .c undef) :: don) K) : MixK P E ops n env ow M F D i j p (o :: os) don K := fun hi => by
  obtain ⟨all, lv, h1, h2⟩ := h (by simp [hi])
  rw [List.reverse_cons] at h1
  exact ⟨all, _, .loud hd hg (sel_get hi hc) hp hs h1, h2⟩

theorem lk_hd (j : Nat) (y : AV) (l : List (Nat × AV)) (s : Nat) : lk ((j, y) :: l) s = match Nat.beq j s with | true => some y | false => lk l s := rfl
theorem lk_append (l env : List (Nat × AV)) (s : Nat) (x : AV) : lk (l ++ env) s = some x ↔ lk l s = some x ∨ (lk l s = none ∧ lk env s = some x) := by
  induction l with
  | nil => simp [lk]
  | cons p l ih =>
    obtain ⟨j, y⟩ := p
    rw [List.cons_append, lk_hd, lk_hd]
    cases Nat.beq j s with
    | true => simp
    | false => exact ih

theorem lk_mem : ∀ (l : List (Nat × AV)) (s : Nat) (x : AV), lk l s = some x → (s, x) ∈ l
  | [], _, _, h => by simp [lk] at h
  | (j, y) :: l, s, x, h => by
    rcases lk_cons h with ⟨rfl, rfl⟩ | ⟨_, h⟩
    · simp
    · exact List.mem_cons_of_mem _ (lk_mem l s x h)
theorem lk_none : ∀ (l : List (Nat × AV)) (s : Nat), lk l s = none → ∀ x, (s, x) ∉ l
  | [], _, _, x, h => by cases h
  | (j, y) :: l, s, h, x, hm => by
    unfold lk at h
    split at h
    · cases h
    · rename_i hb
      rcases List.mem_cons.1 hm with hm | hm
      · cases hm; simp at hb
      · exact lk_none l s h x hm

theorem J.region_mixK {id : Nat} {l : List Oper} (k M : Nat) (ow : Nat → List Own) (how : ow 0 = own) (hm : P.follows .mixedOrders = true) (hnd : nodupB (dsts (l.take k)) = true) (hbk : backB 0 l = true) (ht : tailOk k l = true) (hk : Nat.ble k l.length = true)
    (h : MixK P E l.toArray n (dropEnv (dsts (l.take k)) env) ow M F D 0 0 0 (l.take k) [] fun steps => JL P E l.toArray (l.drop k) ⟨n, steps ++ dropEnv (dsts (l.take k)) env, ow M, F, D⟩ Q) :
    J P E (.region id l.toArray true) ⟨n, env, own, F, D⟩ Q := by
  obtain ⟨steps, lv, h1, h2⟩ := h rfl
  have hlen : (l.take k).length = k := by have := Nat.le_of_ble_eq_true hk; simp; omega
  subst how
  obtain ⟨_, hl1, _, _, _, _, _, hst⟩ := h1.get rfl
  simp only [List.reverse_nil, List.length_nil, Nat.zero_add] at hst hl1
  -- the slots are apart: the order of the list says nothing
  have hslot : ∀ (a b : Nat) (x y : AV) (s : Nat), steps[a]? = some (s, x) → steps[b]? = some (s, y) → a = b := by
    intro a b x y s ha hb
    have ha' : a < (l.take k).length := by have := (List.getElem?_eq_some_iff.1 ha).1; omega
    have hb' : b < (l.take k).length := by have := (List.getElem?_eq_some_iff.1 hb).1; omega
    rcases hst a _ (List.getElem?_eq_getElem ha') with ⟨_, d, x', _, h3, h4, h5, _⟩ | ⟨_, _, _, h3, h4, _⟩ <;> rcases hst b _ (List.getElem?_eq_getElem hb') with ⟨_, d', y', _, h6, h7, h8, _⟩ | ⟨_, _, _, h6, h7, _⟩ <;>
      rw [h3] at ha <;> rw [h6] at hb <;> simp only [Option.some.injEq, Prod.mk.injEq] at ha hb
    · obtain ⟨rfl, _⟩ := ha
      obtain ⟨rfl, _⟩ := hb
      exact nodupB_ne hnd (List.getElem?_eq_getElem ha') (List.getElem?_eq_getElem hb') h4 h7
    · omega
    · omega
    · omega
  refine J.region_mix hm (List.take_append_drop k l).symm hnd hbk (by rw [hlen]; exact ht) h1 fun a w ⟨A, hA⟩ => h2 a w ⟨A, hA.size, hA.defers, hA.keep, hA.hp, fun s x hl => hA.env s x ?_, hA.facts⟩
  rw [lk_append] at hl ⊢
  rcases hl with hl | ⟨hl1', hl2⟩
  · left
    have h3 : (s, x) ∈ steps := by simpa using lk_mem _ _ _ hl
    cases h4 : lk steps s with
    | none => exact absurd h3 (lk_none _ _ h4 x)
    | some y =>
      have h5 := lk_mem _ _ _ h4
      obtain ⟨a, ha⟩ := List.getElem?_of_mem h3
      obtain ⟨b, hb⟩ := List.getElem?_of_mem h5
      have := hslot a b x y s ha hb
      subst this
      rw [ha] at hb; cases hb; rfl
  · right
    refine ⟨?_, hl2⟩
    cases h4 : lk steps s with
    | none => rfl
    | some y => exact absurd (by simpa using lk_mem _ _ _ h4) (lk_none _ _ hl1' y)

def AnyK (P : Program) (E : Ent) (ops : Array Oper) (n : Nat) (env : List (Nat × AV)) (own : List Own) (F : List (Value × AV)) (D : List Deferred) (i : Nat) (os : List Oper) (don : List (Nat × AV)) (K : List (Nat × AV) → Prop) : Prop :=
  MixK P E ops n env (fun _ => own) 0 F D i 0 0 os don K
theorem AnyK.nil {don : List (Nat × AV)} (h : K don) : AnyK P E ops n env own F D i [] don K := MixK.nil h
theorem AnyK.cons {o : Oper} {os : List Oper} {don : List (Nat × AV)} {d : Nat} {x : AV} (sl : List Nat) (hd : o.dst = some d) (hn : Nat.blt d n = true) (hc : chk o sl don i = true)
    (hs : Step P E ops ⟨n, sel sl don ++ env, own, F, D⟩ o x) (h : AnyK P E ops n env own F D (i + 1) os ((d, x) :: don) K) : AnyK P E ops n env own F D i (o :: os) don K :=
  MixK.quiet sl hd hn hc (fun _ _ => hs) h

theorem J.region_tailK {id : Nat} {l : List Oper} (k : Nat) (hm : P.follows .mixedOrders = true) (hnd : nodupB (dsts (l.take k)) = true) (hbk : backB 0 l = true) (ht : tailOk k l = true) (hk : Nat.ble k l.length = true)
    (h : AnyK P E l.toArray n (dropEnv (dsts (l.take k)) env) own F D 0 (l.take k) [] fun steps => JL P E l.toArray (l.drop k) ⟨n, steps ++ dropEnv (dsts (l.take k)) env, own, F, D⟩ Q) :
    J P E (.region id l.toArray true) ⟨n, env, own, F, D⟩ Q := .region_mixK k 0 (fun _ => own) rfl hm hnd hbk ht hk h

theorem J.region_anyK {id : Nat} {l : List Oper} (hm : P.follows .mixedOrders = true) (hnd : nodupB (dsts l) = true) (hbk : backB 0 l = true)
    (h : AnyK P E l.toArray n (dropEnv (dsts l) env) own F D 0 l [] fun steps => Q .normal ⟨n, steps ++ dropEnv (dsts l) env, own, F, D⟩) :
    J P E (.region id l.toArray true) ⟨n, env, own, F, D⟩ Q := by
  have ht : l.take l.length = l := List.take_length
  have hd : l.drop l.length = [] := List.drop_length
  refine .region_tailK l.length hm (by rw [ht]; exact hnd) hbk (by simp [tailOk]) (by simp) ?_
  rw [ht, hd]
  intro hi
  obtain ⟨all, lv, h1, h2⟩ := h hi
  exact ⟨all, lv, h1, JL.nil h2⟩

/-- A store into an own block, as a step. -/
theorem LStep.store_box (i : Nat) {b off : Nat} {ys ys' : List AV} {z : AV} {t : TypeId} {g : Bool} {m B : Nat} {x y : Operand} {ty : TypeId} {pos : String} {af : Array Edge} (hT : tySz P t = some (g, m, B)) (hx : Ev E ⟨n, env, own, F, D⟩ x (.c (.pointer (some ⟨b, off, none⟩))))
    (ho : own[i]? = some (.box b ys)) (hy : Ev E ⟨n, env, own, F, D⟩ y z) (hz : z.plain = true) (hm : z.cellsOf.length = m) (hl : Nat.ble (off + m) ys.length = true) (hs : splice ys off z.cellsOf = ys')
    {own' : List Own} (hown : own.set i (.box b ys') = own') : LStep P E ⟨n, env, own, F, D⟩ own' ⟨none, .store t x y, ty, pos, af, none⟩ := fun A a w hA K Qx hK => by
  refine wpR (by intro c h; cases h) ?_
  unfold Oper.wp
  subst hs hown
  obtain ⟨us, t', hb, hsz, hc⟩ := hA.box i ho
  obtain ⟨h1, h2, h3⟩ := (hy A a w hA).cellsOf hz
  have hle : off + z.cellsOf.length ≤ ys.length := by rw [hm]; exact Nat.le_of_ble_eq_true hl
  obtain ⟨w', us', hr, hk, hz', hb', hsz', hu'⟩ := run_storeVar (P := P) (off := off) hT rfl (h1.trans hm) hb (by omega) h2
  have hrun : (execOp a.eval ⟨none, .store t x y, ty, pos, af, none⟩).run P w = .ok .skip w' := by
    simp only [execOp, Instr.storeAt, hx.eq hA, Instr.sureAddr, Sem.run_bind, Sem.run_pure, Result.andThen_ok, hr]
  rw [hrun, Oper.upon_skip]
  have hfp : ∀ fr c, A fr c → c < w.heap.size → w'.heap[c]? = w.heap[c]? := fun fr c hc hlt => hk.block c hlt fun hm' => by
    simp only [List.mem_singleton] at hm'
    subst hm'
    exact (hA.hp.fp c (fps_mem (List.mem_of_getElem? ho) (by simp [Own.fp]))).2.2 fr hc
  refine hK w' A (fun u y h => h.move (fun _ _ h _ => h) hfp) (hA.step (hk.mono fun c hc => ?_) (fun _ _ h => h) (hA.hp.upd (o' := .box b _) ho rfl hk hz' ⟨us', t', hb', ?_, ?_⟩))
  · simp only [List.mem_singleton] at hc; subst hc; exact fps_mem (List.mem_of_getElem? ho) (by simp [Own.fp])
  · rw [hsz', hsz, splice_length hle]
  · exact (hc.spliced h3 h1 hle hu').keep hfp
end
end Go.Proofs.Ytkiankpmkglhcaa.J
