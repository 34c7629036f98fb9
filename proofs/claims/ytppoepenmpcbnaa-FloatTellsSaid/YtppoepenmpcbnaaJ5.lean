/- A region that draws its order, whose operations are all quiet: whatever the order, each slot reads as in the order of the text. -/
import Derived.Test.YtppoepenmpcbnaaJ4
namespace Go.Proofs.Ytppoepenmpcbnaa.J
open Go Go.RowKit
set_option linter.unusedVariables false
set_option linter.unusedSimpArgs false

def cnt (n : Nat) (f : Nat → Bool) : Nat := (List.range n).countP f
theorem cnt_succ (n : Nat) (f : Nat → Bool) : cnt (n + 1) f = cnt n f + if f n then 1 else 0 := by
  simp [cnt, List.range_succ, List.countP_append]
theorem cnt_set (f f' : Nat → Bool) (i : Nat) (h : ∀ j, j ≠ i → f' j = f j) (h1 : f i = true) (h0 : f' i = false) : ∀ n, cnt n f' + (if i < n then 1 else 0) = cnt n f
  | 0 => by simp [cnt]
  | n + 1 => by
    have ih := cnt_set f f' i h h1 h0 n
    rw [cnt_succ, cnt_succ]
    by_cases hn : n = i
    · subst hn
      rw [h1, h0]
      simp at ih ⊢
      omega
    · rw [h n hn]
      have h2 : (if i < n + 1 then 1 else 0) = (if i < n then 1 else 0 : Nat) := by
        by_cases hlt : i < n
        · rw [if_pos hlt, if_pos (by omega)]
        · rw [if_neg hlt, if_neg (by omega)]
      rw [h2]; omega

def dropEnv (ds : List Nat) (env : List (Nat × AV)) : List (Nat × AV) := env.filter fun p => !(ds.any (Nat.beq p.1))

theorem lk_filter (p : Nat → Bool) : ∀ (env : List (Nat × AV)) (i : Nat) (x : AV), lk (env.filter fun q => p q.1) i = some x → lk env i = some x ∧ p i = true
  | [], _, _, h => by simp [lk] at h
  | (j, y) :: l, i, x, h => by
    simp only [List.filter_cons] at h
    split at h
    · rename_i hp
      rcases lk_cons h with ⟨rfl, rfl⟩ | ⟨hne, h⟩
      · exact ⟨by simp [lk], hp⟩
      · obtain ⟨h1, h2⟩ := lk_filter p l i x h
        refine ⟨?_, h2⟩
        unfold lk
        split
        · rename_i hb; exact absurd (Nat.eq_of_beq_eq_true hb) hne
        · exact h1
    · rename_i hp
      obtain ⟨h1, h2⟩ := lk_filter p l i x h
      refine ⟨?_, h2⟩
      unfold lk
      split
      · rename_i hb
        have := Nat.eq_of_beq_eq_true hb
        subst this
        exact absurd h2 hp
      · exact h1

def dsts (ops : List Oper) : List Nat := ops.filterMap (·.dst)
def depsOk (o : Oper) (ds : List Nat) : Bool := ds.all fun j => o.after.any fun e => Nat.beq e.on j && Region.binds .any e
def nodupB : List Nat → Bool
  | [] => true
  | x :: l => !(l.any (Nat.beq x)) && nodupB l
def backB : Nat → List Oper → Bool
  | _, [] => true
  | i, o :: l => (o.after.all fun e => !Region.binds .any e || Nat.blt e.on i) && backB (i + 1) l

/-- The operations one by one, each with its value. -/
inductive AnyL (P : Program) (E : Ent) (ops : Array Oper) (n : Nat) (env : List (Nat × AV)) (own : List Own) (F : List (Value × AV)) (D : List Deferred) : List Oper → List (Nat × AV) → List (Nat × AV) → Prop
  | nil (don : List (Nat × AV)) : AnyL P E ops n env own F D [] don don
  | cons {o : Oper} {os : List Oper} {don all : List (Nat × AV)} {d : Nat} {x : AV} (ds : List Nat) (hd : o.dst = some d) (hn : Nat.blt d n = true) (hds : depsOk o ds = true)
      (hs : Step P E ops ⟨n, ds.filterMap (don[·]?) ++ env, own, F, D⟩ o x) (h : AnyL P E ops n env own F D os (don ++ [(d, x)]) all) : AnyL P E ops n env own F D (o :: os) don all

section
variable {P : Program} {E : Ent} {Q : Exit → St → Prop} {n : Nat} {env : List (Nat × AV)} {own : List Own} {F : List (Value × AV)} {D : List Deferred} {ops : Array Oper}

theorem AnyL.get {os : List Oper} {don all : List (Nat × AV)} (h : AnyL P E ops n env own F D os don all) :
    (∃ r, all = don ++ r) ∧ all.length = don.length + os.length ∧ ∀ k o, os[k]? = some o → ∃ d x ds, all[don.length + k]? = some (d, x) ∧ o.dst = some d ∧ d < n ∧ depsOk o ds = true ∧
      Step P E ops ⟨n, ds.filterMap ((all.take (don.length + k))[·]?) ++ env, own, F, D⟩ o x := by
  induction h with
  | nil don => exact ⟨⟨[], by simp⟩, by simp, fun k o h => by simp at h⟩
  | cons ds hd hn hds hs _ ih =>
    rename_i o os don all d x _
    obtain ⟨⟨r, hr⟩, hl, hk⟩ := ih
    refine ⟨⟨(d, x) :: r, by rw [hr]; simp⟩, by simp at hl ⊢; omega, fun k o' ho' => ?_⟩
    cases k with
    | zero =>
      simp at ho'; subst ho'
      refine ⟨d, x, ds, by rw [hr]; simp, hd, blt_lt hn, hds, ?_⟩
      have : all.take (don.length + 0) = don := by rw [hr]; simp
      rw [this]; exact hs
    | succ k =>
      have := hk k o' (by simpa using ho')
      rw [show don.length + (k + 1) = (don ++ [(d, x)]).length + k by simp; omega]
      exact this

theorem dsts_mem {l : List Oper} {o : Oper} {d : Nat} {i : Nat} (h : l[i]? = some o) (hd : o.dst = some d) : d ∈ dsts l := List.mem_filterMap.2 ⟨o, List.mem_of_getElem? h, hd⟩

theorem nodupB_ne : ∀ {l : List Oper}, nodupB (dsts l) = true → ∀ {i j : Nat} {o o' : Oper} {d : Nat}, l[i]? = some o → l[j]? = some o' → o.dst = some d → o'.dst = some d → i = j
  | [], _, i, _, _, _, _, h, _, _, _ => by simp at h
  | x :: l, hn, i, j, o, o', d, hi, hj, hd, hd' => by
    have hrec : nodupB (dsts l) = true := by
      unfold dsts at hn ⊢
      rw [List.filterMap_cons] at hn
      split at hn
      · exact hn
      · simp only [nodupB, Bool.and_eq_true] at hn; exact hn.2
    have hhead : ∀ {k : Nat} {o'' : Oper}, l[k]? = some o'' → x.dst = some d → o''.dst = some d → False := by
      intro k o'' hk hx ho
      unfold dsts at hn
      rw [List.filterMap_cons, hx] at hn
      simp only [nodupB, Bool.and_eq_true, Bool.not_eq_true'] at hn
      have := List.any_eq_false.1 hn.1 d (dsts_mem hk ho)
      simp at this
    cases i with
    | zero =>
      cases j with
      | zero => rfl
      | succ j => simp at hi hj; subst hi; exact (hhead hj hd hd').elim
    | succ i =>
      cases j with
      | zero => simp at hi hj; subst hj; exact (hhead hi hd' hd).elim
      | succ j => simp at hi hj; rw [nodupB_ne hrec hi hj hd hd']

theorem backB_lt : ∀ {l : List Oper} {k : Nat}, backB k l = true → ∀ {i : Nat} {o : Oper}, l[i]? = some o → ∀ e ∈ o.after, Region.binds .any e = true → e.on < k + i
  | [], _, _, i, _, h, _, _, _ => by simp at h
  | x :: l, k, hb, i, o, hi, e, he, hbe => by
    simp only [backB, Bool.and_eq_true] at hb
    cases i with
    | zero =>
      simp at hi; subst hi
      have := Array.all_eq_true.1 hb.1
      obtain ⟨j, hj, hje⟩ := Array.getElem_of_mem he
      have h1 := this j hj
      rw [hje, hbe] at h1
      simp at h1
      omega
    | succ i =>
      have := backB_lt hb.2 (i := i) (o := o) (by simpa using hi) e he hbe
      omega

theorem J.region_any {id : Nat} {steps : List (Nat × AV)} (hm : P.follows .mixedOrders = true) (hnd : nodupB (dsts ops.toList) = true) (hbk : backB 0 ops.toList = true)
    (hany : AnyL P E ops n (dropEnv (dsts ops.toList) env) own F D ops.toList [] steps) (h : Q .normal ⟨n, steps ++ dropEnv (dsts ops.toList) env, own, F, D⟩) :
    J P E (.region id ops true) ⟨n, env, own, F, D⟩ Q := fun a₀ w₀ ⟨A₀, hA₀⟩ => by
  obtain ⟨_, hlen, hst⟩ := hany.get
  simp only [List.length_nil, Nat.zero_add] at hlen hst
  -- the invariant
  let Inv : Array Bool → Foot → Act → World → Prop := fun L A a w => SatA E A ⟨n, dropEnv (dsts ops.toList) env, own, F, D⟩ a w ∧
    (∀ i d x, steps[i]? = some (d, x) → L.getD i false = true → Rd w A (a.tmps.getD d undef) x) ∧
    (∀ i o, ops[i]? = some o → L.getD i false = true → ∀ e ∈ o.after, Region.binds .any e = true → L.getD e.on false = true)
  have hdone : ∀ L A a w, L.size = ops.size → (∀ i, i < ops.size → L.getD i true = true) → Inv L A a w → lift E Q .normal a w := by
    intro L A a w hsz hall hinv
    refine ⟨_, h, A, ?_⟩
    obtain ⟨h1, h2, _⟩ := hinv
    refine ⟨h1.size, h1.defers, h1.keep, h1.hp, fun s x hl => ?_, h1.facts⟩
    have hget : ∀ (l : List (Nat × AV)) (env' : List (Nat × AV)), lk (l ++ env') s = some x → (∃ i : Nat, l[i]? = some (s, x)) ∨ lk env' s = some x := by
      intro l env'
      induction l with
      | nil => intro h; exact .inr h
      | cons p l ih =>
        intro h
        obtain ⟨j, y⟩ := p
        rcases lk_cons h with ⟨rfl, rfl⟩ | ⟨_, h⟩
        · exact .inl ⟨0, rfl⟩
        · rcases ih h with ⟨i, hi⟩ | h
          · exact .inl ⟨i + 1, by simpa using hi⟩
          · exact .inr h
    rcases hget _ _ hl with ⟨i, hi⟩ | hl
    · have hi' : i < ops.size := by have := (List.getElem?_eq_some_iff.1 hi).1; simp at hlen; omega
      have := hall i hi'
      refine h2 i s x hi ?_
      simp only [Array.getD_eq_getD_getElem?] at this ⊢
      rw [Array.getElem?_eq_getElem (by omega)] at this ⊢
      exact this
    · exact h1.env s x hl
  have key : ∀ fuel L A a w, L.size = ops.size → cnt ops.size (fun i => !L.getD i true) ≤ fuel → Inv L A a w → wpAny P .any ops (lift E Q) fuel L a w := by
    intro fuel
    induction fuel with
    | zero =>
      intro L A a w hsz hc hinv
      have hall : ∀ i, i < ops.size → L.getD i true = true := by
        intro i hi
        have h0 : cnt ops.size (fun i => !L.getD i true) = 0 := by omega
        have := List.countP_eq_zero.1 h0 i (by simpa using hi)
        simpa using this
      have hr : Region.ready .any ops L = [] := by
        unfold Region.ready
        rw [List.filter_eq_nil_iff]
        intro i hi
        have := hall i (by simpa using hi)
        simp [this]
      exact ⟨hr, hdone L A a w hsz hall hinv⟩
    | succ fuel ih =>
      intro L A a w hsz hc hinv
      have hinv' := hinv
      obtain ⟨h1, h2, h3⟩ := hinv
      refine ⟨fun hr => ?_, fun i hi => ?_⟩
      · -- nothing is ready: all are listed
        have hall : ∀ i, i < ops.size → L.getD i true = true := by
          intro i
          induction i using Nat.strongRecOn with
          | _ i ihi =>
            intro hlt
            cases hL : L.getD i true with
            | true => rfl
            | false =>
              exfalso
              have : i ∈ Region.ready .any ops L := by
                unfold Region.ready
                rw [List.mem_filter]
                refine ⟨by simpa using hlt, ?_⟩
                obtain ⟨o, ho⟩ : ∃ o, ops[i]? = some o := ⟨_, Array.getElem?_eq_getElem hlt⟩
                simp only [hL, ho, Option.map_some, Option.getD_some, Bool.not_false, Bool.true_and]
                rw [Array.all_eq_true]
                intro k hk
                cases hb : Region.binds .any o.after[k] with
                | false => simp
                | true =>
                  have hon := backB_lt hbk (i := i) (o := o) (by simpa using ho) o.after[k] (Array.getElem_mem hk) hb
                  have := ihi o.after[k].on (by omega) (by omega)
                  simp only [Array.getD_eq_getD_getElem?] at this ⊢
                  rw [Array.getElem?_eq_getElem (by omega)] at this ⊢
                  simpa using this
              rw [hr] at this
              cases this
        exact hdone L A a w hsz hall hinv'
      · -- a ready operation
        unfold Region.ready at hi
        rw [List.mem_filter] at hi
        obtain ⟨hi1, hi2⟩ := hi
        have hlt : i < ops.size := by simpa using hi1
        obtain ⟨o, ho⟩ : ∃ o, ops[i]? = some o := ⟨_, Array.getElem?_eq_getElem hlt⟩
        simp only [ho, Option.map_some, Option.getD_some, Bool.and_eq_true, Bool.not_eq_true'] at hi2
        obtain ⟨hunl, hafter⟩ := hi2
        obtain ⟨d, x, ds, hsx, hd, hdn, hds, hstep⟩ := hst i o (by simpa using ho)
        have hdeps : ∀ e ∈ o.after, Region.binds .any e = true → L.getD e.on false = true := by
          intro e he hb
          obtain ⟨k, hk, hke⟩ := Array.getElem_of_mem he
          have := Array.all_eq_true.1 hafter k hk
          rw [hke, hb] at this
          simpa using this
        have hsat : SatA E A ⟨n, ds.filterMap ((steps.take i)[·]?) ++ dropEnv (dsts ops.toList) env, own, F, D⟩ a w := by
          refine ⟨h1.size, h1.defers, h1.keep, h1.hp, fun s y hl => ?_, h1.facts⟩
          have hget : ∀ (l : List Nat), (∀ j ∈ l, j ∈ ds) → lk (l.filterMap ((steps.take i)[·]?) ++ dropEnv (dsts ops.toList) env) s = some y → Rd w A (a.tmps.getD s undef) y := by
            intro l
            induction l with
            | nil => intro _ h; exact h1.env s y h
            | cons j l ihl =>
              intro hsub h
              rw [List.filterMap_cons] at h
              split at h
              · exact ihl (fun k hk => hsub k (by simp [hk])) h
              · rename_i p hp
                obtain ⟨s', y'⟩ := p
                rcases lk_cons h with ⟨rfl, rfl⟩ | ⟨_, h⟩
                · have hj := List.all_eq_true.1 hds j (hsub j (by simp))
                  obtain ⟨k, hk, hke⟩ := Array.any_eq_true.1 hj
                  simp only [Bool.and_eq_true] at hke
                  have hon := Nat.eq_of_beq_eq_true hke.1
                  have hLj := hdeps o.after[k] (Array.getElem_mem hk) hke.2
                  rw [hon] at hLj
                  refine h2 j s' y ?_ hLj
                  rw [List.getElem?_take] at hp
                  split at hp
                  · exact hp
                  · cases hp
                · exact ihl (fun k hk => hsub k (by simp [hk])) h
          exact hget ds (fun _ h => h) hl
        have hput : ∀ (v : Value) (w' : World) (A' : Foot), Frm w A w' A' → SatA E A' ⟨n, ds.filterMap ((steps.take i)[·]?) ++ dropEnv (dsts ops.toList) env, own, F, D⟩ a w' → Rd w' A' v x →
            wpAny P .any ops (lift E Q) fuel (L.setIfInBounds i true) (a.put o.dst v) w' := by
          intro v w' A' hf hs' hv
          have hget : ∀ j, (L.setIfInBounds i true).getD j false = if j = i then true else L.getD j false := by
            intro j
            simp only [Array.getD_eq_getD_getElem?]
            by_cases hji : j = i
            · subst hji; simp [show j < L.size by omega]
            · rw [Array.getElem?_setIfInBounds_ne (fun h => hji h.symm), if_neg hji]
          have hgetT : ∀ j, (L.setIfInBounds i true).getD j true = if j = i then true else L.getD j true := by
            intro j
            simp only [Array.getD_eq_getD_getElem?]
            by_cases hji : j = i
            · subst hji; simp [show j < L.size by omega]
            · rw [Array.getElem?_setIfInBounds_ne (fun h => hji h.symm), if_neg hji]
          refine ih _ A' _ w' (by simpa using hsz) ?_ ⟨⟨?_, by rw [hd]; exact hs'.defers, hs'.keep, hs'.hp, fun s y hl => ?_, hs'.facts⟩, fun j d' x' hj hLj => ?_, fun j o' ho' hLj e he hb => ?_⟩
          · have := cnt_set (fun i => !L.getD i true) (fun j => !(L.setIfInBounds i true).getD j true) i (fun j hj => by simp only [hgetT j, if_neg hj]) (by simp [hunl]) (by simp [hgetT i]) ops.size
            rw [if_pos hlt] at this
            omega
          · have := hs'.size; simp only [Act.put, hd, Array.size_setIfInBounds]; exact this
          · rw [hd]
            have hne : d ≠ s := by
              intro hds'
              subst hds'
              have := (lk_filter (fun k => !((dsts ops.toList).any (Nat.beq k))) env d y hl).2
              simp only [Bool.not_eq_true'] at this
              have hm := List.any_eq_false.1 this d (dsts_mem (by simpa using ho) hd)
              simp at hm
            rw [put_getD_ne hne]
            exact hf _ _ (h1.env s y hl)
          · rw [hget j] at hLj
            by_cases hji : j = i
            · subst hji
              rw [hsx] at hj; cases hj
              rw [hd, put_getD_same (by have := hs'.size; simp only at this; rw [this]; exact hdn)]
              exact hv
            · rw [if_neg hji] at hLj
              have hjlt : j < ops.size := by have := (List.getElem?_eq_some_iff.1 hj).1; simp at hlen; omega
              obtain ⟨oj, hoj⟩ : ∃ oj, ops[j]? = some oj := ⟨_, Array.getElem?_eq_getElem hjlt⟩
              obtain ⟨dj, xj, _, hsj, hdj, _⟩ := hst j oj (by simpa using hoj)
              rw [hsj] at hj; cases hj
              have hne : d ≠ d' := by
                intro hdd
                subst hdd
                exact hji (nodupB_ne hnd (by simpa using hoj) (by simpa using ho) hdj hd)
              rw [hd, put_getD_ne hne]
              exact hf _ _ (h2 j d' x' hsj hLj)
          · rw [hget] at hLj
            rw [hget]
            by_cases hje : e.on = i
            · rw [if_pos hje]
            · rw [if_neg hje]
              by_cases hji : j = i
              · subst hji
                rw [ho] at ho'; cases ho'
                exact hdeps e he hb
              · rw [if_neg hji] at hLj
                exact h3 j o' ho' hLj e he hb
        have hs := hstep A a w hsat (wpAny P .any ops (lift E Q) fuel (L.setIfInBounds i true)) (lift E Q) hput
        unfold wpOp
        simp only [ho]
        split
        · rename_i hw; rw [if_pos hw] at hs; exact .inl hs
        · rename_i hw; rw [if_neg hw] at hs; exact hs
  refine wp_region_any hm (key ops.size _ A₀ a₀ _ (by simp) ?_ ⟨⟨hA₀.size, hA₀.defers, ?_, hA₀.hp.draw, fun s y hl => ?_, fun p hp => ?_⟩, fun i d x hi hL => ?_, fun i o ho hL => ?_⟩)
  · exact Nat.le_trans List.countP_le_length (by simp)
  · exact hA₀.draw.keep
  · exact (hA₀.draw.env s y (lk_filter (fun k => !((dsts ops.toList).any (Nat.beq k))) env s y hl).1)
  · exact hA₀.draw.facts p hp
  · simp only [Array.getD_eq_getD_getElem?, Array.getElem?_replicate] at hL; split at hL <;> simp at hL
  · simp only [Array.getD_eq_getD_getElem?, Array.getElem?_replicate] at hL; split at hL <;> simp at hL

theorem J.region_any_lit {id : Nat} {l : List Oper} {steps : List (Nat × AV)} (hm : P.follows .mixedOrders = true) (hnd : nodupB (dsts l) = true) (hbk : backB 0 l = true)
    (hany : AnyL P E l.toArray n (dropEnv (dsts l) env) own F D l [] steps) (h : Q .normal ⟨n, steps ++ dropEnv (dsts l) env, own, F, D⟩) :
    J P E (.region id l.toArray true) ⟨n, env, own, F, D⟩ Q := .region_any hm hnd hbk hany h
end
end Go.Proofs.Ytppoepenmpcbnaa.J
