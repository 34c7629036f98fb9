/- Regions that draw their order with calls among their operations, in the form in which the walks use them. -/
import Derived.Test.YtkiankpmkglhcaaJ15
namespace Go.Proofs.Ytkiankpmkglhcaa.J
open Go Go.RowKit
set_option linter.unusedVariables false
set_option linter.unusedSimpArgs false

section
variable {P : Program} {E : Ent} {Q : Exit → St → Prop} {n : Nat} {env : List (Nat × AV)} {own : List Own} {R : Outs → List Own → AV → List Own → Prop} {M : Nat} {F : List (Value × AV)} {D : List Deferred} {ops : Array Oper}

def selR (sl : List Nat) : List Slot → List (Nat × AV)
  | [] => []
  | (s, .inl x) :: don => match sl.any (Nat.beq s) with | true => (s, x) :: selR sl don | false => selR sl don
  | (_, .inr _) :: don => selR sl don
def chkR (o : Oper) (sl : List Nat) : List Slot → Nat → Bool
  | [], _ => true
  | (s, .inl _) :: don, i => match sl.any (Nat.beq s) with | true => depsOk o [i - 1] && chkR o sl don (i - 1) | false => chkR o sl don (i - 1)
  | (_, .inr _) :: don, i => chkR o sl don (i - 1)

theorem selR_get {o : Oper} {sl : List Nat} {env : List (Nat × AV)} : ∀ {don : List Slot} {i : Nat}, i = don.length → chkR o sl don i = true → EnvOkR o don.reverse env (selR sl don ++ env)
  | [], i, _, _ => fun s x h => .inr (by simpa [selR] using h)
  | (s0, .inr q) :: don, i, hi, h => fun s x hl => by
    have hi' : i - 1 = don.length := by simp at hi; omega
    rcases selR_get (don := don) (i := i - 1) hi' h s x hl with ⟨j, h1, h2⟩ | h
    · exact .inl ⟨j, h1, by rw [List.reverse_cons, List.getElem?_append_left (List.getElem?_eq_some_iff.1 h2).1]; exact h2⟩
    · exact .inr h
  | (s0, .inl x0) :: don, i, hi, h => fun s x hl => by
    have hi' : i - 1 = don.length := by simp at hi; omega
    have hrec : chkR o sl don (i - 1) = true → lk (selR sl don ++ env) s = some x → (∃ j, depsOk o [j] = true ∧ ((s0, Sum.inl x0) :: don).reverse[j]? = some (s, Sum.inl x)) ∨ lk env s = some x := fun hc hl => by
      rcases selR_get (don := don) (i := i - 1) hi' hc s x hl with ⟨j, h1, h2⟩ | h
      · exact .inl ⟨j, h1, by rw [List.reverse_cons, List.getElem?_append_left (List.getElem?_eq_some_iff.1 h2).1]; exact h2⟩
      · exact .inr h
    unfold selR at hl
    unfold chkR at h
    split at hl
    · rename_i hb
      rw [hb] at h
      simp only [Bool.and_eq_true] at h
      rcases lk_cons hl with ⟨rfl, rfl⟩ | ⟨_, hl⟩
      · exact .inl ⟨i - 1, h.1, by rw [hi', List.reverse_cons, List.getElem?_append_right (by simp)]; simp⟩
      · exact hrec h.2 hl
    · rename_i hb
      rw [hb] at h
      exact hrec h hl

/-- The same with what the loud ones have come to. -/
def selO (sl : List Nat) (os : Outs) : List Slot → List (Nat × AV)
  | [] => []
  | (s, z) :: don => match sl.any (Nat.beq s) with | true => (s, valO os z) :: selO sl os don | false => selO sl os don
def chkO (o : Oper) (sl : List Nat) : List Slot → Nat → Bool
  | [], _ => true
  | (s, _) :: don, i => match sl.any (Nat.beq s) with | true => depsOk o [i - 1] && chkO o sl don (i - 1) | false => chkO o sl don (i - 1)
theorem selO_get {o : Oper} {sl : List Nat} {env : List (Nat × AV)} {os : Outs} : ∀ {don : List Slot} {i : Nat}, i = don.length → chkO o sl don i = true → EnvOkO o don.reverse env (selO sl os don ++ env) os
  | [], i, _, _ => fun s x h => .inr (by simpa [selO] using h)
  | (s0, z0) :: don, i, hi, h => fun s x hl => by
    have hi' : i - 1 = don.length := by simp at hi; omega
    have hrec : chkO o sl don (i - 1) = true → lk (selO sl os don ++ env) s = some x → (∃ j z, depsOk o [j] = true ∧ ((s0, z0) :: don).reverse[j]? = some (s, z) ∧ x = valO os z) ∨ lk env s = some x := fun hc hl => by
      rcases selO_get (don := don) (i := i - 1) hi' hc s x hl with ⟨j, z, h1, h2, h3⟩ | h
      · exact .inl ⟨j, z, h1, by rw [List.reverse_cons, List.getElem?_append_left (List.getElem?_eq_some_iff.1 h2).1]; exact h2, h3⟩
      · exact .inr h
    unfold selO at hl
    unfold chkO at h
    split at hl
    · rename_i hb
      rw [hb] at h
      simp only [Bool.and_eq_true] at h
      rcases lk_cons hl with ⟨rfl, rfl⟩ | ⟨_, hl⟩
      · exact .inl ⟨i - 1, z0, h.1, by rw [hi', List.reverse_cons, List.getElem?_append_right (by simp)]; simp, rfl⟩
      · exact hrec h.2 hl
    · rename_i hb
      rw [hb] at h
      exact hrec h hl

def OutK (P : Program) (E : Ent) (Q : Exit → St → Prop) (ops : Array Oper) (n : Nat) (env : List (Nat × AV)) (own : List Own) (R : Outs → List Own → AV → List Own → Prop) (M : Nat) (F : List (Value × AV)) (D : List Deferred) (i j p : Nat) (os : List Oper) (don : List Slot) (K : List Slot → Prop) : Prop :=
  i = don.length → ∃ all lv, AnyR P E Q ops n env own R M F D i j p os don.reverse all lv ∧ K all.reverse
variable {i j p : Nat} {K : List Slot → Prop}
theorem OutK.nil {don : List Slot} (h : K don) : OutK P E Q ops n env own R M F D i M p [] don K := fun _ => ⟨don.reverse, _, .nil i p don.reverse, by rw [List.reverse_reverse]; exact h⟩
theorem OutK.quiet {o : Oper} {os : List Oper} {don : List Slot} {d : Nat} {x : AV} (sl : List Nat) (hd : o.dst = some d) (hn : Nat.blt d n = true) (hc : chkR o sl don i = true)
    (hs : ∀ os', vdO own R os' → os'.length ≤ M → Step P E ops ⟨n, selR sl don ++ env, curO own os', F, D⟩ o x) (h : OutK P E Q ops n env own R M F D (i + 1) j p os ((d, .inl x) :: don) K) : OutK P E Q ops n env own R M F D i j p (o :: os) don K := fun hi => by
  obtain ⟨all, lv, h1, h2⟩ := h (by simp [hi])
  rw [List.reverse_cons] at h1
  exact ⟨all, _, .quiet hd hn (selR_get hi hc) hs h1, h2⟩
theorem OutK.loud {o : Oper} {os : List Oper} {don : List Slot} {d : Nat} (sl : List Nat) (hd : o.dst = some d) (hn : Nat.blt d n = true) (hg : o.guard = none) (hc : chkO o sl don i = true) (hp : (Nat.beq j 0 || depsOk o [p]) = true)
    (hs : ∀ os', vdO own R os' → os'.length = j → LStepR P E Q ⟨n, selO sl os' don ++ env, curO own os', F, D⟩ (R os') o) (h : OutK P E Q ops n env own R M F D (i + 1) (j + 1) i os ((d, .inr j) :: don) K) : OutK P E Q ops n env own R M F D i j p (o :: os) don K := fun hi => by
  obtain ⟨all, lv, h1, h2⟩ := h (by simp [hi])
  rw [List.reverse_cons] at h1
  exact ⟨all, _, .loud (.inr ⟨hd, blt_lt hn⟩) hg (fun os' _ => selO_get (os := os') hi hc) hp hs h1, h2⟩
theorem OutK.store {o : Oper} {os : List Oper} {don : List Slot} (sl : List Nat) (hd : o.dst = none) (hu : ∀ os ow x o', R os ow x o' → os.length = j → x = .c undef) (hg : o.guard = none) (hc : chkO o sl don i = true) (hp : (Nat.beq j 0 || depsOk o [p]) = true)
    (hs : ∀ os', vdO own R os' → os'.length = j → LStepR P E Q ⟨n, selO sl os' don ++ env, curO own os', F, D⟩ (R os') o) (h : OutK P E Q ops n env own R M F D (i + 1) (j + 1) i os ((n + i, .inr j) :: don) K) : OutK P E Q ops n env own R M F D i j p (o :: os) don K := fun hi => by
  obtain ⟨all, lv, h1, h2⟩ := h (by simp [hi])
  rw [List.reverse_cons] at h1
  exact ⟨all, _, .loud (.inl ⟨hd, rfl, hu⟩) hg (fun os' _ => selO_get (os := os') hi hc) hp hs h1, h2⟩

theorem J.region_outK {id : Nat} {l : List Oper} (k M : Nat) (R : Outs → List Own → AV → List Own → Prop) (hm : P.follows .mixedOrders = true) (hnd : nodupB (dsts (l.take k)) = true) (hbk : backB 0 l = true) (ht : tailOk k l = true) (hk : Nat.ble k l.length = true)
    (h : OutK P E Q l.toArray n (dropEnv (dsts (l.take k)) env) own R M F D 0 0 0 (l.take k) [] fun steps => ∀ os', vdO own R os' → os'.length = M → JL P E l.toArray (l.drop k) ⟨n, stepsO os' steps ++ dropEnv (dsts (l.take k)) env, curO own os', F, D⟩ Q) :
    J P E (.region id l.toArray true) ⟨n, env, own, F, D⟩ Q := by
  obtain ⟨steps, lv, h1, h2⟩ := h rfl
  have hlen : (l.take k).length = k := by have := Nat.le_of_ble_eq_true hk; simp; omega
  obtain ⟨_, hl1, _, _, _, _, _, hst⟩ := h1.get rfl
  simp only [List.reverse_nil, List.length_nil, Nat.zero_add] at hst hl1
  have hslot : ∀ (a b : Nat) (x y : AV ⊕ Nat) (s : Nat), steps[a]? = some (s, x) → steps[b]? = some (s, y) → a = b := by
    intro a b x y s ha hb
    have ha' : a < (l.take k).length := by have := (List.getElem?_eq_some_iff.1 ha).1; omega
    have hb' : b < (l.take k).length := by have := (List.getElem?_eq_some_iff.1 hb).1; omega
    have hA : ∀ a x, a < (l.take k).length → steps[a]? = some (s, x) → (∃ o, (l.take k)[a]? = some o ∧ o.dst = some s ∧ s < n) ∨ s = n + a := fun a x ha' ha => by
      rcases hst a _ (List.getElem?_eq_getElem ha') with ⟨_, d, x', _, h3, h4, h5, _⟩ | ⟨_, _, s', _, h3, h4, _⟩
      · rw [h3] at ha; cases ha
        exact .inl ⟨_, List.getElem?_eq_getElem ha', h4, h5⟩
      · rw [h3] at ha; cases ha
        rcases h4 with ⟨_, h4, _⟩ | ⟨h4, h5⟩
        · exact .inr h4
        · exact .inl ⟨_, List.getElem?_eq_getElem ha', h4, h5⟩
    rcases hA a x ha' ha with ⟨o, g1, g2, g3⟩ | g1 <;> rcases hA b y hb' hb with ⟨o', k1, k2, k3⟩ | k1
    · exact nodupB_ne hnd g1 k1 g2 k2
    · omega
    · omega
    · omega
  refine J.region_out hm (List.take_append_drop k l).symm hnd hbk (by rw [hlen]; exact ht) h1 fun os' hv hl a w ⟨A, hA⟩ => h2 os' hv hl a w ⟨A, hA.size, hA.defers, hA.keep, hA.hp, fun s x hl => hA.env s x ?_, hA.facts⟩
  rw [lk_append] at hl ⊢
  have hmem : ∀ (ll : List Slot) (s : Nat) (x : AV), (s, x) ∈ stepsO os' ll ↔ ∃ z, (s, z) ∈ ll ∧ valO os' z = x := fun ll s x => by
    simp only [stepsO, List.mem_map, Prod.mk.injEq, Prod.exists]
    constructor
    · rintro ⟨s', z, h, rfl, h'⟩; exact ⟨z, h, h'⟩
    · rintro ⟨z, h, h'⟩; exact ⟨s, z, h, rfl, h'⟩
  rcases hl with hl | ⟨hl1', hl2⟩
  · left
    obtain ⟨z, hz1, hz2⟩ := (hmem _ _ _).1 (lk_mem _ _ _ hl)
    have h3 : (s, z) ∈ steps := by simpa using hz1
    cases h4 : lk (stepsO os' steps) s with
    | none => exact absurd ((hmem _ _ _).2 ⟨z, h3, hz2⟩) (lk_none _ _ h4 x)
    | some y =>
      obtain ⟨z', h5, h6⟩ := (hmem _ _ _).1 (lk_mem _ _ _ h4)
      obtain ⟨a, ha⟩ := List.getElem?_of_mem h3
      obtain ⟨b, hb⟩ := List.getElem?_of_mem h5
      have := hslot a b z z' s ha hb
      subst this
      rw [ha] at hb; cases hb
      rw [← h6, hz2]
  · right
    refine ⟨?_, hl2⟩
    cases h4 : lk (stepsO os' steps) s with
    | none => rfl
    | some y =>
      obtain ⟨z', h5, h6⟩ := (hmem _ _ _).1 (lk_mem _ _ _ h4)
      exact absurd ((hmem _ _ _).2 ⟨z', by simpa using h5, h6⟩) (lk_none _ _ hl1' y)

variable {ty : TypeId} {pos : String} {af : Array Edge}
/-- A call, as such an operation. -/
theorem LStepR.callG (ms : List Cd) {d : Nat} {f : FuncId} {fo : Operand} {fi ca : List Value} {l : List Operand} {tys : Array TypeId} {xs zs : List AV} {R : Res → List Own → Prop} {G : List (Value × AV)} (hf : goFn P f = true)
    (hfo : Ev E ⟨n, env, own, F, D⟩ fo (.c (.func (.func f) fi.toArray ca.toArray))) (hG : Lent G (selL ms own)) (hargs : ∀ E', EvL E' ⟨n, env, selP ms own ++ selK ms own, G ++ F, D⟩ l xs) (hzs : fi.map AV.c ++ xs ++ ca.map AV.c = zs) (hAC : AC P f (selP ms own) zs R)
    (hfr : selL ms own = [] ∨ ∀ r o, R r o → FreshR r ∧ ∀ x ∈ o, OwnFl (· = true) x)
    (hpan : ∀ v own', R (.pan v) own' → Q (.panic [{ v, recovered := false }]) ⟨n, env, mrg ms own' own, F, D⟩) :
    LStepR P E Q ⟨n, env, own, F, D⟩ (fun ow x o' => ∃ o2, R (.ret x) o2 ∧ o' = mrg ms o2 ow) ⟨some d, .call ⟨.value fo, l.toArray, tys⟩, ty, pos, af, none⟩ := fun A a w hA K hK => by
  refine wpR (by intro c h; cases h) ?_
  unfold Oper.wp
  rw [run_call hf (hfo.eq hA), Oper.upon_enter]
  subst hzs
  refine SatA.callG ms hG hfr hA hargs hAC fun r own' A' w' hR hfm hsat e hr => ?_
  cases r with
  | ret x =>
    obtain ⟨v, rfl, hv⟩ := hr
    exact hK v x _ w' A' ⟨own', hR, rfl⟩ hfm hsat hv
  | pan v =>
    obtain rfl := hr
    exact ⟨_, hpan v own' hR, A', hsat⟩
theorem LStepR.callF (ms : List Cd) {d : Nat} {f : FuncId} {l : List Operand} {tys : Array TypeId} {xs : List AV} {R : Res → List Own → Prop} {G : List (Value × AV)} (hf : goFn P f = true)
    (hG : Lent G (selL ms own)) (hargs : ∀ E', EvL E' ⟨n, env, selP ms own ++ selK ms own, G ++ F, D⟩ l xs) (hAC : AC P f (selP ms own) xs R)
    (hfr : selL ms own = [] ∨ ∀ r o, R r o → FreshR r ∧ ∀ x ∈ o, OwnFl (· = true) x)
    (hpan : ∀ v own', R (.pan v) own' → Q (.panic [{ v, recovered := false }]) ⟨n, env, mrg ms own' own, F, D⟩) :
    LStepR P E Q ⟨n, env, own, F, D⟩ (fun ow x o' => ∃ o2, R (.ret x) o2 ∧ o' = mrg ms o2 ow) ⟨some d, .call ⟨.value (.func f), l.toArray, tys⟩, ty, pos, af, none⟩ :=
  LStepR.callG (fi := []) (ca := []) ms hf .func hG hargs (by simp) hAC hfr hpan
/-- A quiet operation, as a loud one. -/
theorem LStepR.ofQ {st : St} {o : Oper} {x : AV} {R : List Own → AV → List Own → Prop} (hq : QW P E st o x) (hR : R st.own x st.own) : LStepR P E Q st R o := fun A a w hA K hK =>
  hq A a w hA K (lift E Q) fun v w' A' hf hs hv => hK v x st.own w' A' hR hf hs hv
end
end Go.Proofs.Ytkiankpmkglhcaa.J
