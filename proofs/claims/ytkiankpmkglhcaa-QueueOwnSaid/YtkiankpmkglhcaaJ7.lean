/- A region that draws its order, with stores among its operations and a tail in fixed order: whatever the order, all reads as in the order of the text. -/
import Derived.Test.YtkiankpmkglhcaaJ5
namespace Go.Proofs.Ytkiankpmkglhcaa.J
open Go Go.RowKit
set_option linter.unusedVariables false
set_option linter.unusedSimpArgs false

def hasDep (l : List Oper) (i j : Nat) : Bool := match l[i]? with
  | some o => o.after.toList.any fun e => Nat.beq e.on j && Region.binds .any e
  | none => false
def tailOk (k : Nat) (l : List Oper) : Bool := Nat.beq k l.length ||
  ((List.range k).all (fun j => (List.range' (j + 1) (k - j)).any fun i => hasDep l i j) && (List.range' (k + 1) (l.length - (k + 1))).all fun j => hasDep l j (j - 1))

theorem hasDep_iff {l : List Oper} {i j : Nat} (h : hasDep l i j = true) : ∃ o, l[i]? = some o ∧ ∃ e ∈ o.after, Region.binds .any e = true ∧ e.on = j := by
  unfold hasDep at h
  split at h
  · rename_i o ho
    obtain ⟨e, he, hke⟩ := List.any_eq_true.1 h
    simp only [Bool.and_eq_true] at hke
    exact ⟨o, ho, e, by simpa using he, hke.2, Nat.eq_of_beq_eq_true hke.1⟩
  · cases h

/-- An operation that turns what the call owns and has no slot. -/
def LStep (P : Program) (E : Ent) (st : St) (own' : List Own) (o : Oper) : Prop :=
  ∀ A a w, SatA E A st a w → ∀ (K : Act → World → Prop) (Qx : Exit → Act → World → Prop),
    (∀ w' A', Frm w A w' A' → SatA E A' ⟨st.n, st.env, own', st.facts, st.dfs⟩ a w' → K a w') → o.wpIn (fen E.rd) 0 P a w K Qx

theorem depsOk_get {o : Oper} {ds : List Nat} (h : depsOk o ds = true) {j : Nat} (hj : j ∈ ds) : ∃ e ∈ o.after, Region.binds .any e = true ∧ e.on = j := by
  obtain ⟨e, he, hke⟩ := List.any_eq_true.1 ((List.all_eq_true.1 h) j hj)
  simp only [Bool.and_eq_true] at hke
  exact ⟨e, by simpa using he, hke.2, Nat.eq_of_beq_eq_true hke.1⟩

/-- What an operation may know: what the operations that it waits for have made, and what was there. -/
def EnvOk (o : Oper) (don env env' : List (Nat × AV)) : Prop := ∀ s x, lk env' s = some x → (∃ j, depsOk o [j] = true ∧ don[j]? = some (s, x)) ∨ lk env s = some x

/-- The operations ahead of the tail, one by one, each with its value; j: how many have turned what is owned. -/
inductive AnyM (P : Program) (E : Ent) (ops : Array Oper) (n : Nat) (env : List (Nat × AV)) (own : Nat → List Own) (M : Nat) (F : List (Value × AV)) (D : List Deferred) : Nat → Nat → Nat → List Oper → List (Nat × AV) → List (Nat × AV) → List (Option Nat) → Prop
  | nil (i p : Nat) (don : List (Nat × AV)) : AnyM P E ops n env own M F D i M p [] don don []
  | quiet {i j p : Nat} {o : Oper} {os : List Oper} {don all : List (Nat × AV)} {lv : List (Option Nat)} {d : Nat} {x : AV} {env' : List (Nat × AV)} (hd : o.dst = some d) (hn : Nat.blt d n = true) (he : EnvOk o don env env')
      (hs : ∀ q, q ≤ M → Step P E ops ⟨n, env', own q, F, D⟩ o x) (h : AnyM P E ops n env own M F D (i + 1) j p os (don ++ [(d, x)]) all lv) : AnyM P E ops n env own M F D i j p (o :: os) don all (none :: lv)
  | loud {i j p : Nat} {o : Oper} {os : List Oper} {don all : List (Nat × AV)} {lv : List (Option Nat)} {env' : List (Nat × AV)} (hd : o.dst = none) (hg : o.guard = none) (he : EnvOk o don env env') (hp : (Nat.beq j 0 || depsOk o [p]) = true)
      (hs : LStep P E ⟨n, env', own j, F, D⟩ (own (j + 1)) o) (h : AnyM P E ops n env own M F D (i + 1) (j + 1) i os (don ++ [(n + i, .c undef)]) all lv) : AnyM P E ops n env own M F D i j p (o :: os) don all (some j :: lv)

section
variable {P : Program} {E : Ent} {Q : Exit → St → Prop} {n : Nat} {env : List (Nat × AV)} {own : Nat → List Own} {M : Nat} {F : List (Value × AV)} {D : List Deferred} {ops : Array Oper}

theorem AnyM.get {i j p : Nat} {os : List Oper} {don all : List (Nat × AV)} {lv : List (Option Nat)} (h : AnyM P E ops n env own M F D i j p os don all lv) (hi : don.length = i) :
    (∃ r, all = don ++ r) ∧ all.length = don.length + os.length ∧ lv.length = os.length ∧ j ≤ M ∧
    (∀ (k q : Nat), lv[k]? = some (some q) → j ≤ q ∧ q < M) ∧
    (∀ (k k' q : Nat), lv[k]? = some (some q) → lv[k']? = some (some q) → k = k') ∧
    (∀ q, j ≤ q → q < M → ∃ k : Nat, lv[k]? = some (some q)) ∧
    ∀ k o, os[k]? = some o →
      (lv[k]? = some none ∧ ∃ d x env', all[i + k]? = some (d, x) ∧ o.dst = some d ∧ d < n ∧ EnvOk o (all.take (i + k)) env env' ∧ ∀ q, q ≤ M → Step P E ops ⟨n, env', own q, F, D⟩ o x) ∨
      (∃ q env', lv[k]? = some (some q) ∧ all[i + k]? = some (n + (i + k), .c undef) ∧ o.dst = none ∧ o.guard = none ∧ EnvOk o (all.take (i + k)) env env' ∧ LStep P E ⟨n, env', own q, F, D⟩ (own (q + 1)) o ∧
        (q = j → j = 0 ∨ depsOk o [p] = true) ∧ (j < q → ∃ k', lv[k']? = some (some (q - 1)) ∧ depsOk o [i + k'] = true)) := by
  induction h with
  | nil i p don => exact ⟨⟨[], by simp⟩, by simp, rfl, Nat.le_refl _, fun k q h => by simp at h, fun k k' q h => by simp at h, fun q h1 h2 => by omega, fun k o h => by simp at h⟩
  | quiet hd hn hds hs _ ih =>
    rename_i i j p o os don all lv d x env' _
    obtain ⟨⟨r, hr⟩, hl, hlv, hjM, hq, hinj, hsur, hk⟩ := ih (by simp [hi])
    refine ⟨⟨(d, x) :: r, by rw [hr]; simp⟩, by simp at hl ⊢; omega, by simp [hlv], hjM, fun k q hkq => ?_, fun k k' q h1 h2 => ?_, fun q h1 h2 => (by obtain ⟨k, hk'⟩ := hsur q h1 h2; exact ⟨k + 1, by simpa using hk'⟩), fun k o' ho' => ?_⟩
    · cases k with
      | zero => simp at hkq
      | succ k => exact hq k q (by simpa using hkq)
    · cases k with
      | zero => simp at h1
      | succ k =>
        cases k' with
        | zero => simp at h2
        | succ k' => rw [hinj k k' q (by simpa using h1) (by simpa using h2)]
    · cases k with
      | zero =>
        simp at ho'; subst ho'
        have : all.take (i + 0) = don := by rw [hr, ← hi]; simp
        exact .inl ⟨by simp, d, x, env', by rw [hr, ← hi]; simp, hd, blt_lt hn, by rw [this]; exact hds, hs⟩
      | succ k =>
        have := hk k o' (by simpa using ho')
        rw [show i + (k + 1) = i + 1 + k by omega]
        rcases this with ⟨h1, h2⟩ | ⟨q, ds', h1, h2, h3, h4, h5, h6, h7, h8⟩
        · exact .inl ⟨by simpa using h1, h2⟩
        · refine .inr ⟨q, ds', by simpa using h1, h2, h3, h4, h5, h6, h7, fun hlt => ?_⟩
          obtain ⟨k', hk', hd'⟩ := h8 hlt
          exact ⟨k' + 1, by simpa using hk', by rw [show i + (k' + 1) = i + 1 + k' by omega]; exact hd'⟩
  | loud hd hg hds hp hs _ ih =>
    rename_i i j p o os don all lv env' _
    obtain ⟨⟨r, hr⟩, hl, hlv, hjM, hq, hinj, hsur, hk⟩ := ih (by simp [hi])
    refine ⟨⟨(n + i, .c undef) :: r, by rw [hr]; simp⟩, by simp at hl ⊢; omega, by simp [hlv], by omega, fun k q hkq => ?_, fun k k' q h1 h2 => ?_, fun q h1 h2 => (by
      by_cases he : q = j
      · exact ⟨0, by simp [he]⟩
      · obtain ⟨k, hk'⟩ := hsur q (by omega) h2; exact ⟨k + 1, by simpa using hk'⟩), fun k o' ho' => ?_⟩
    · cases k with
      | zero => simp at hkq; omega
      | succ k => have := hq k q (by simpa using hkq); omega
    · cases k with
      | zero =>
        cases k' with
        | zero => rfl
        | succ k' => simp at h1 h2; have := hq k' q h2; omega
      | succ k =>
        cases k' with
        | zero => simp at h1 h2; have := hq k q h1; omega
        | succ k' => rw [hinj k k' q (by simpa using h1) (by simpa using h2)]
    · cases k with
      | zero =>
        simp at ho'; subst ho'
        have : all.take (i + 0) = don := by rw [hr, ← hi]; simp
        refine .inr ⟨j, env', by simp, by rw [hr, ← hi]; simp, hd, hg, by rw [this]; exact hds, hs, fun _ => ?_, fun h => by omega⟩
        · simp only [Bool.or_eq_true] at hp
          exact hp.imp Nat.eq_of_beq_eq_true id
      | succ k =>
        have := hk k o' (by simpa using ho')
        rw [show i + (k + 1) = i + 1 + k by omega]
        rcases this with ⟨h1, h2⟩ | ⟨q, ds', h1, h2, h3, h4, h5, h6, h7, h8⟩
        · exact .inl ⟨by simpa using h1, h2⟩
        · have hjq := (hq k q h1).1
          refine .inr ⟨q, ds', by simpa using h1, h2, h3, h4, h5, h6, fun h => by omega, fun hlt => ?_⟩
          by_cases he : q = j + 1
          · refine ⟨0, by simp [he], ?_⟩
            rcases h7 he with h7 | h7
            · omega
            · simpa using h7
          · obtain ⟨k', hk', hd'⟩ := h8 (by omega)
            exact ⟨k' + 1, by simpa using hk', by rw [show i + (k' + 1) = i + 1 + k' by omega]; exact hd'⟩

/-- Which operations may come up behind the first k: one by one. -/
theorem tail_closed {k : Nat} (ht : tailOk k ops.toList = true) (hbk : backB 0 ops.toList = true) {L : Array Bool}
    (h3 : ∀ i o, ops[i]? = some o → L.getD i false = true → ∀ e ∈ o.after, Region.binds .any e = true → L.getD e.on false = true)
    {i : Nat} {o : Oper} (ho : ops[i]? = some o) (hdeps : ∀ e ∈ o.after, Region.binds .any e = true → L.getD e.on false = true) (hik : k ≤ i) :
    (∀ j, j < k → L.getD j false = true) ∧ (∀ j, k ≤ j → j < i → L.getD j false = true) := by
  have hlt : i < ops.size := (Array.getElem?_eq_some_iff.1 ho).1
  have hk : k < ops.size := by omega
  unfold tailOk at ht
  have hne : Nat.beq k ops.toList.length = false := by
    cases hb : Nat.beq k ops.toList.length with
    | false => rfl
    | true => have := Nat.eq_of_beq_eq_true hb; simp at this; omega
  rw [hne, Bool.false_or, Bool.and_eq_true, List.all_eq_true, List.all_eq_true] at ht
  obtain ⟨t1, t2⟩ := ht
  -- the tail, downwards
  have down : ∀ d j, i - j = d → k ≤ j → j ≤ i → (j = i ∨ L.getD j false = true) := by
    intro d
    induction d with
    | zero => intro j h1 h2 h4; exact .inl (by omega)
    | succ d ih =>
      intro j h1 h2 h4
      right
      have hj1 := ih (j + 1) (by omega) (by omega) (by omega)
      have := t2 (j + 1) (by simp [List.mem_range']; exact ⟨j - k, by omega, by omega⟩)
      obtain ⟨o', ho', e, he, hb, hon⟩ := hasDep_iff this
      rw [Nat.add_sub_cancel] at hon
      rcases hj1 with hj1 | hj1
      · rw [hj1] at ho'
        have : o' = o := Option.some.inj ((by simpa using ho' : ops[i]? = some o').symm.trans ho)
        subst this
        rw [← hon]; exact hdeps e he hb
      · rw [← hon]; exact h3 (j + 1) o' (by simpa using ho') hj1 e he hb
  have dk : ∀ o', ops[k]? = some o' → ∀ e ∈ o'.after, Region.binds .any e = true → L.getD e.on false = true := by
    intro o' ho' e he hb
    rcases down _ k rfl (Nat.le_refl _) hik with h | h
    · subst h
      rw [ho] at ho'; cases ho'
      exact hdeps e he hb
    · exact h3 k o' ho' h e he hb
  refine ⟨?_, fun j h1 h2 => (down _ j rfl h1 (by omega)).resolve_left (by omega)⟩
  have pre : ∀ d j, k - j = d → j < k → L.getD j false = true := by
    intro d
    induction d using Nat.strongRecOn with
    | _ d ih =>
      intro j h1 h2
      have := t1 j (by simpa using h2)
      obtain ⟨i', hi', hd⟩ := List.any_eq_true.1 this
      simp [List.mem_range'] at hi'
      obtain ⟨z, hz, rfl⟩ := hi'
      obtain ⟨o', ho', e, he, hb, hon⟩ := hasDep_iff hd
      rw [← hon]
      have ho'' : ops[j + 1 + z]? = some o' := by simpa using ho'
      by_cases he' : j + 1 + z = k
      · exact dk o' (he' ▸ ho'') e he hb
      · exact h3 _ o' ho'' (ih (k - (j + 1 + z)) (by omega) _ rfl (by omega)) e he hb
  exact fun j hj => pre _ j rfl hj

theorem mem_ready {L : Array Bool} {i : Nat} (hi : i ∈ Region.ready .any ops L) :
    i < ops.size ∧ ∃ o, ops[i]? = some o ∧ L.getD i true = false ∧ ∀ e ∈ o.after, Region.binds .any e = true → L.getD e.on false = true := by
  unfold Region.ready at hi
  rw [List.mem_filter] at hi
  obtain ⟨hi1, hi2⟩ := hi
  have hlt : i < ops.size := by simpa using hi1
  obtain ⟨o, ho⟩ : ∃ o, ops[i]? = some o := ⟨_, Array.getElem?_eq_getElem hlt⟩
  simp only [ho, Option.map_some, Option.getD_some, Bool.and_eq_true, Bool.not_eq_true'] at hi2
  obtain ⟨hunl, hafter⟩ := hi2
  refine ⟨hlt, o, ho, hunl, fun e he hb => ?_⟩
  obtain ⟨k, hk, hke⟩ := Array.getElem_of_mem he
  have := Array.all_eq_true.1 hafter k hk
  rw [hke, hb] at this
  simpa using this

theorem ready_mem {L : Array Bool} (hsz : L.size = ops.size) {i : Nat} {o : Oper} (ho : ops[i]? = some o) (hL : L.getD i true = false) (hd : ∀ e ∈ o.after, Region.binds .any e = true → L.getD e.on false = true) :
    i ∈ Region.ready .any ops L := by
  have hlt : i < ops.size := (Array.getElem?_eq_some_iff.1 ho).1
  unfold Region.ready
  rw [List.mem_filter]
  refine ⟨by simpa using hlt, ?_⟩
  simp only [hL, ho, Option.map_some, Option.getD_some, Bool.not_false, Bool.true_and]
  rw [Array.all_eq_true]
  intro k hk
  cases hb : Region.binds .any o.after[k] with
  | false => simp
  | true => simpa using hd _ (Array.getElem_mem hk) hb

theorem getD_set (L : Array Bool) (i j : Nat) (h : i < L.size) (b : Bool) : (L.setIfInBounds i true).getD j b = if j = i then true else L.getD j b := by
  simp only [Array.getD_eq_getD_getElem?]
  by_cases hji : j = i
  · subst hji; simp [h]
  · rw [Array.getElem?_setIfInBounds_ne (fun h => hji h.symm), if_neg hji]

theorem getD_same {L : Array Bool} {i : Nat} (h : i < L.size) : L.getD i true = L.getD i false := by
  simp only [Array.getD_eq_getD_getElem?]
  rw [Array.getElem?_eq_getElem h]; rfl

/-- The tail: one by one. -/
theorem wp_tail {r : Option Nat} {k : Nat} (ht : tailOk k ops.toList = true) (hbk : backB 0 ops.toList = true) {Qx : Exit → Act → World → Prop} : ∀ (fuel m : Nat) (L : Array Bool) (a : Act) (w : World), k ≤ m → m ≤ ops.size → ops.size - m ≤ fuel →
    L.size = ops.size → (∀ j, j < m → L.getD j false = true) → (∀ j, m ≤ j → L.getD j false = false) → wpListIn (fen r) 0 P ops Qx (ops.toList.drop m) a w → wpAnyIn (fen r) 0 P .any ops Qx fuel L a w := by
  have hready : ∀ (L : Array Bool) (m i : Nat), k ≤ m → L.size = ops.size → (∀ j, j < m → L.getD j false = true) → (∀ j, m ≤ j → L.getD j false = false) → i ∈ Region.ready .any ops L → i = m := by
    intro L m i hkm hsz h1 h2 hi
    obtain ⟨hlt, o, ho, hL, hd⟩ := mem_ready hi
    have hge : m ≤ i := by
      apply Nat.le_of_not_lt
      intro h
      have := h1 i h
      rw [getD_same (by omega)] at hL
      rw [this] at hL; cases hL
    apply Nat.le_antisymm _ hge
    apply Nat.le_of_not_lt
    intro hlt'
    have h3 : ∀ i o, ops[i]? = some o → L.getD i false = true → ∀ e ∈ o.after, Region.binds .any e = true → L.getD e.on false = true := by
      intro i o ho hL e he hb
      have hil : i < m := by
        apply Nat.lt_of_not_le
        intro h
        rw [h2 i h] at hL; cases hL
      have := backB_lt hbk (i := i) (o := o) (by simpa using ho) e he hb
      exact h1 _ (by omega)
    have := (tail_closed ht hbk h3 ho hd (by omega)).2 m hkm hlt'
    rw [h2 m (Nat.le_refl _)] at this
    cases this
  intro fuel
  induction fuel with
  | zero =>
    intro m L a w hkm hm hf hsz h1 h2 h
    have hm' : m = ops.size := by omega
    refine ⟨?_, ?_⟩
    · rw [List.eq_nil_iff_forall_not_mem]
      intro i hi
      have h4 := hready L m i hkm hsz h1 h2 hi
      have := (mem_ready hi).1
      omega
    · rw [hm', List.drop_of_length_le (by simp)] at h
      exact h
  | succ fuel ih =>
    intro m L a w hkm hm hf hsz h1 h2 h
    by_cases hm' : m = ops.size
    · have hnil : Region.ready .any ops L = [] := by
        rw [List.eq_nil_iff_forall_not_mem]
        intro i hi
        have h4 := hready L m i hkm hsz h1 h2 hi
        have := (mem_ready hi).1
        omega
      rw [hm', List.drop_of_length_le (by simp)] at h
      exact ⟨fun _ => h, fun i hi => by rw [hnil] at hi; cases hi⟩
    · have hlt : m < ops.size := by omega
      obtain ⟨o, ho⟩ : ∃ o, ops[m]? = some o := ⟨_, Array.getElem?_eq_getElem hlt⟩
      have hmem : m ∈ Region.ready .any ops L := ready_mem hsz ho (by rw [getD_same (by omega)]; exact h2 m (Nat.le_refl _)) fun e he hb => h1 _ (by
        have := backB_lt hbk (i := m) (o := o) (by simpa using ho) e he hb
        omega)
      refine ⟨fun hr => (by rw [hr] at hmem; cases hmem), fun i hi => ?_⟩
      have := hready L m i hkm hsz h1 h2 hi
      subst this
      have hdrop : ops.toList.drop i = o :: ops.toList.drop (i + 1) := by
        rw [List.drop_eq_getElem_cons (by simpa using hlt)]
        congr 1
        have := Array.getElem?_eq_some_iff.1 ho
        simpa using this.2
      rw [hdrop] at h
      have hK : ∀ a' w', wpListIn (fen r) 0 P ops Qx (ops.toList.drop (i + 1)) a' w' → wpAnyIn (fen r) 0 P .any ops Qx fuel (L.setIfInBounds i true) a' w' := fun a' w' hw =>
        ih (i + 1) _ a' w' (by omega) (by omega) (by omega) (by simpa using hsz)
          (fun j hj => by rw [getD_set _ _ _ (by omega)]; split; rfl; exact h1 j (by omega))
          (fun j hj => by rw [getD_set _ _ _ (by omega), if_neg (by omega)]; exact h2 j (by omega)) hw
      unfold wpOpIn
      simp only [ho]
      unfold wpListIn at h
      split
      · rename_i hw
        rw [if_pos hw] at h
        exact Oper.wpIn_mono hK h
      · rename_i hw
        rw [if_neg hw] at h
        exact ⟨h.1, hK _ _ h.2⟩

theorem J.region_mix {id : Nat} {l pre tail : List Oper} {steps : List (Nat × AV)} {lv : List (Option Nat)} (hm : P.follows .mixedOrders = true) (hl : l = pre ++ tail) (hnd : nodupB (dsts pre) = true) (hbk : backB 0 l = true) (ht : tailOk pre.length l = true)
    (hany : AnyM P E l.toArray n (dropEnv (dsts pre) env) own M F D 0 0 0 pre [] steps lv)
    (h : JL P E l.toArray tail ⟨n, steps ++ dropEnv (dsts pre) env, own M, F, D⟩ Q) :
    J P E (.region id l.toArray true) ⟨n, env, own 0, F, D⟩ Q := fun a₀ w₀ ⟨A₀, hA₀⟩ => by
  obtain ⟨_, hlen, hlvl, _, hlq, hinj, hsur, hst⟩ := hany.get rfl
  simp only [List.length_nil, Nat.zero_add] at hlen hst
  have hsize : l.toArray.size = pre.length + tail.length := by simp [hl]
  have hpre : ∀ i o, i < pre.length → (l.toArray[i]? = some o ↔ pre[i]? = some o) := fun i o hi => by simp [hl, List.getElem?_append_left hi]
  let k := pre.length
  let Inv : Array Bool → Foot → Act → World → Prop := fun L A a w => ∃ m, m ≤ M ∧ SatA E A ⟨n, dropEnv (dsts pre) env, own m, F, D⟩ a w ∧
    (∀ i d x, steps[i]? = some (d, x) → L.getD i false = true → Rd w A (a.tmps.getD d undef) x) ∧
    (∀ i o, l.toArray[i]? = some o → L.getD i false = true → ∀ e ∈ o.after, Region.binds .any e = true → L.getD e.on false = true) ∧
    (∀ i, pre.length ≤ i → L.getD i false = false) ∧ (∀ i q : Nat, lv[i]? = some (some q) → (L.getD i false = true ↔ q < m))
  have hdone : ∀ fuel L A a w, L.size = l.toArray.size → tail.length ≤ fuel → (∀ i, i < pre.length → L.getD i true = true) → Inv L A a w → wpAnyIn (fen E.rd) 0 P .any l.toArray (lift E Q) fuel L a w := by
    intro fuel L A a w hsz hf hall ⟨m, hmM, h1, h2, h3, h4, h5⟩
    have hall' : ∀ i, i < pre.length → L.getD i false = true := fun i hi => by rw [← getD_same (by omega)]; exact hall i hi
    have hm' : m = M := by
      apply Nat.le_antisymm hmM
      apply Nat.le_of_not_lt
      intro hlt
      obtain ⟨i, hi⟩ := hsur m (Nat.zero_le _) hlt
      have hil : i < pre.length := by have := (List.getElem?_eq_some_iff.1 hi).1; omega
      have := (h5 i m hi).1 (hall' i hil)
      omega
    subst hm'
    refine wp_tail (k := pre.length) (by simpa using ht) (by simpa using hbk) fuel pre.length L a w (Nat.le_refl _) (by omega) (by omega) hsz hall' h4 ?_
    have htl : l.toArray.toList.drop pre.length = tail := by simp [hl]
    rw [htl]
    refine h a w ⟨A, h1.size, h1.defers, h1.keep, h1.hp, fun s x hl' => ?_, h1.facts⟩
    have hget : ∀ (l' : List (Nat × AV)) (env' : List (Nat × AV)), lk (l' ++ env') s = some x → (∃ i : Nat, l'[i]? = some (s, x)) ∨ lk env' s = some x := by
      intro l' env'
      induction l' with
      | nil => intro h; exact .inr h
      | cons p l' ih =>
        intro h
        obtain ⟨j, y⟩ := p
        rcases lk_cons h with ⟨rfl, rfl⟩ | ⟨_, h⟩
        · exact .inl ⟨0, rfl⟩
        · rcases ih h with ⟨i, hi⟩ | h
          · exact .inl ⟨i + 1, by simpa using hi⟩
          · exact .inr h
    rcases hget _ _ hl' with ⟨i, hi⟩ | hl'
    · exact h2 i s x hi (hall' i (by have := (List.getElem?_eq_some_iff.1 hi).1; omega))
    · exact h1.env s x hl'
  have key : ∀ fuel L A a w, L.size = l.toArray.size → cnt pre.length (fun i => !L.getD i true) + tail.length ≤ fuel → Inv L A a w → wpAnyIn (fen E.rd) 0 P .any l.toArray (lift E Q) fuel L a w := by
    intro fuel
    induction fuel with
    | zero =>
      intro L A a w hsz hc hinv
      refine hdone 0 L A a w hsz (by omega) (fun i hi => ?_) hinv
      have h0 : cnt pre.length (fun i => !L.getD i true) = 0 := by omega
      have := List.countP_eq_zero.1 h0 i (by simpa using hi)
      simpa using this
    | succ fuel ih =>
      intro L A a w hsz hc hinv
      by_cases hall : ∀ i, i < pre.length → L.getD i true = true
      · exact hdone _ L A a w hsz (by omega) hall hinv
      have hinv' := hinv
      obtain ⟨m, hmM, h1, h2, h3, h4, h5⟩ := hinv
      refine ⟨fun hr => ?_, fun i hi => ?_⟩
      · exfalso
        apply hall
        intro i
        induction i using Nat.strongRecOn with
        | _ i ihi =>
          intro hlt
          cases hL : L.getD i true with
          | true => rfl
          | false =>
            exfalso
            obtain ⟨o, ho⟩ : ∃ o, l.toArray[i]? = some o := ⟨_, Array.getElem?_eq_getElem (by omega)⟩
            have : i ∈ Region.ready .any l.toArray L := ready_mem hsz ho hL fun e he hb => by
              have hon := backB_lt hbk (i := i) (o := o) (by simpa using ho) e he hb
              rw [← getD_same (by omega)]
              exact ihi e.on (by omega) (by omega)
            rw [hr] at this
            cases this
      · obtain ⟨hlt, o, ho, hunl, hdeps⟩ := mem_ready hi
        have hik : i < pre.length := by
          apply Nat.lt_of_not_le
          intro hge
          apply hall
          intro j hj
          rw [getD_same (by omega)]
          exact (tail_closed (k := pre.length) (by simpa using ht) (by simpa using hbk) h3 ho hdeps hge).1 j hj
        have ho' : pre[i]? = some o := (hpre i o hik).1 ho
        have hunl' : L.getD i false = false := by rw [← getD_same (by omega)]; exact hunl
        have hcnt : cnt pre.length (fun j => !(L.setIfInBounds i true).getD j true) + tail.length ≤ fuel := by
          have := cnt_set (fun i => !L.getD i true) (fun j => !(L.setIfInBounds i true).getD j true) i (fun j hj => by rw [getD_set _ _ _ (by omega), if_neg hj]) (by simp [hunl]) (by rw [getD_set _ _ _ (by omega), if_pos rfl]; rfl) pre.length
          rw [if_pos hik] at this
          omega
        have hclo : ∀ j o', l.toArray[j]? = some o' → (L.setIfInBounds i true).getD j false = true → ∀ e ∈ o'.after, Region.binds .any e = true → (L.setIfInBounds i true).getD e.on false = true := by
          intro j o' ho2 hLj e he hb
          rw [getD_set _ _ _ (by omega)] at hLj ⊢
          split
          · rfl
          · by_cases hji : j = i
            · subst hji; rw [ho] at ho2; cases ho2; exact hdeps e he hb
            · rw [if_neg hji] at hLj; exact h3 j o' ho2 hLj e he hb
        have h4' : ∀ j, pre.length ≤ j → (L.setIfInBounds i true).getD j false = false := fun j hj => by rw [getD_set _ _ _ (by omega), if_neg (by omega)]; exact h4 j hj
        have hsat : ∀ (env' : List (Nat × AV)), EnvOk o (steps.take i) (dropEnv (dsts pre) env) env' → SatA E A ⟨n, env', own m, F, D⟩ a w := by
          intro env' he
          refine ⟨h1.size, h1.defers, h1.keep, h1.hp, fun s y hl => ?_, h1.facts⟩
          rcases he s y hl with ⟨j, hj, hp⟩ | h
          · obtain ⟨e, he, hb, hon⟩ := depsOk_get hj (List.mem_singleton.2 rfl)
            have hLj := hdeps e he hb
            rw [hon] at hLj
            refine h2 j s y ?_ hLj
            rw [List.getElem?_take] at hp
            split at hp
            · exact hp
            · cases hp
          · exact h1.env s y h
        -- a slot of another operation
        have hother : ∀ j d' x', steps[j]? = some (d', x') → j ≠ i → ∀ d, o.dst = some d → d < n → d ≠ d' := by
          intro j d' x' hj hji d hd hdn hdd
          subst hdd
          have hjlt : j < pre.length := by have := (List.getElem?_eq_some_iff.1 hj).1; omega
          obtain ⟨oj, hoj⟩ : ∃ oj, pre[j]? = some oj := ⟨_, List.getElem?_eq_getElem hjlt⟩
          rcases hst j oj hoj with ⟨_, dj, xj, _, hsj, hdj, _⟩ | ⟨_, _, _, hsj, _⟩
          · rw [hsj] at hj; cases hj
            exact hji (nodupB_ne hnd hoj ho' hdj hd)
          · rw [hsj] at hj
            have h7 := (Prod.mk.inj (Option.some.inj hj)).1
            exact absurd hdn (by rw [← h7]; exact Nat.not_lt.2 (Nat.le_add_right _ _))
        rcases hst i o ho' with ⟨hlv, d, x, env', hsx, hd, hdn, hds, hstep⟩ | ⟨q, env', hlv, hsx, hd, hg, hds, hstep, hq0, hqp⟩
        · have hput : ∀ (v : Value) (w' : World) (A' : Foot), Frm w A w' A' → SatA E A' ⟨n, env', own m, F, D⟩ a w' → Rd w' A' v x →
              wpAnyIn (fen E.rd) 0 P .any l.toArray (lift E Q) fuel (L.setIfInBounds i true) (a.put o.dst v) w' := by
            intro v w' A' hf hs' hv
            refine ih _ A' _ w' (by simpa using hsz) hcnt ⟨m, hmM, ⟨?_, by rw [hd]; exact hs'.defers, hs'.keep, hs'.hp, fun s y hl => ?_, hs'.facts⟩, fun j d' x' hj hLj => ?_, hclo, h4', fun j q hjq => ?_⟩
            · have := hs'.size; simp only [Act.put, hd, Array.size_setIfInBounds]; exact this
            · rw [hd]
              have hne : d ≠ s := by
                intro hds'
                subst hds'
                have := (lk_filter (fun k => !((dsts pre).any (Nat.beq k))) env d y hl).2
                simp only [Bool.not_eq_true'] at this
                have hm := List.any_eq_false.1 this d (dsts_mem ho' hd)
                simp at hm
              rw [put_getD_ne hne]
              exact hf _ _ (h1.env s y hl)
            · rw [getD_set _ _ _ (by omega)] at hLj
              by_cases hji : j = i
              · subst hji
                rw [hsx] at hj; cases hj
                rw [hd, put_getD_same (by have := hs'.size; simp only at this; rw [this]; exact hdn)]
                exact hv
              · rw [if_neg hji] at hLj
                rw [hd, put_getD_ne (hother j d' x' hj hji d hd hdn)]
                exact hf _ _ (h2 j d' x' hj hLj)
            · rw [getD_set _ _ _ (by omega)]
              by_cases hji : j = i
              · subst hji; rw [hlv] at hjq; cases hjq
              · rw [if_neg hji]; exact h5 j q hjq
          have hs := hstep m hmM A a w (hsat env' hds) (wpAnyIn (fen E.rd) 0 P .any l.toArray (lift E Q) fuel (L.setIfInBounds i true)) (lift E Q) hput
          unfold wpOpIn
          simp only [ho]
          split
          · rename_i hw; rw [if_pos hw] at hs; exact hs
          · rename_i hw; rw [if_neg hw] at hs; exact ⟨fun _ _ => trivial, hs⟩
        · -- one that turns what is owned: it is its turn
          have hqM := (hlq i q hlv).2
          have hmq : m = q := by
            have h6 : ¬ q < m := fun h => by have := (h5 i q hlv).2 h; rw [hunl'] at this; cases this
            by_cases hq : 0 < q
            · obtain ⟨k', hk', hd'⟩ := hqp hq
              obtain ⟨e, he, hb, hon⟩ := depsOk_get hd' (List.mem_singleton.2 rfl)
              have := hdeps e he hb
              rw [hon] at this
              have := (h5 k' (q - 1) hk').1 this
              omega
            · omega
          subst hmq
          have hs := hstep A a w (hsat env' hds) (wpAnyIn (fen E.rd) 0 P .any l.toArray (lift E Q) fuel (L.setIfInBounds i true)) (lift E Q) (by
            intro w' A' hf hs'
            refine ih _ A' _ w' (by simpa using hsz) hcnt ⟨m + 1, hqM, ⟨hs'.size, hs'.defers, hs'.keep, hs'.hp, fun s y hl => hf _ _ (h1.env s y hl), hs'.facts⟩, fun j d' x' hj hLj => ?_, hclo, h4', fun j q hjq => ?_⟩
            · rw [getD_set _ _ _ (by omega)] at hLj
              by_cases hji : j = i
              · subst hji
                rw [hsx] at hj; cases hj
                have : a.tmps.getD (n + j) undef = undef := by
                  have := h1.size
                  simp only at this
                  simp [Array.getD_eq_getD_getElem?, Array.getElem?_eq_none, this]
                rw [this]
                exact .c _
              · rw [if_neg hji] at hLj
                exact hf _ _ (h2 j d' x' hj hLj)
            · rw [getD_set _ _ _ (by omega)]
              by_cases hji : j = i
              · subst hji; rw [hlv] at hjq; cases hjq; simp
              · rw [if_neg hji, h5 j q hjq]
                have : q ≠ m := fun he => hji (hinj j i m (he ▸ hjq) hlv)
                omega)
          unfold wpOpIn
          simp only [ho]
          rw [if_pos (by simp [Region.wanted, hg])]
          exact hs
  refine wpIn_region_any hm (key l.toArray.size _ A₀ a₀ _ (by simp) ?_ ⟨0, Nat.zero_le _, ⟨hA₀.size, hA₀.defers, hA₀.draw.keep, hA₀.hp.draw, fun s y hl => ?_, fun p hp => ?_⟩, fun i d x hi hL => ?_, fun i o ho hL => ?_, fun i _ => ?_, fun i q hq => ?_⟩)
  · have : cnt pre.length (fun i => !(Array.replicate l.toArray.size false).getD i true) ≤ pre.length := Nat.le_trans List.countP_le_length (by simp)
    omega
  · exact (hA₀.draw.env s y (lk_filter (fun k => !((dsts pre).any (Nat.beq k))) env s y hl).1)
  · exact hA₀.draw.facts p hp
  · simp only [Array.getD_eq_getD_getElem?, Array.getElem?_replicate] at hL; split at hL <;> simp at hL
  · simp only [Array.getD_eq_getD_getElem?, Array.getElem?_replicate] at hL; split at hL <;> simp at hL
  · simp only [Array.getD_eq_getD_getElem?, Array.getElem?_replicate]; split <;> simp
  · simp only [Array.getD_eq_getD_getElem?, Array.getElem?_replicate]; split <;> simp
end
end Go.Proofs.Ytkiankpmkglhcaa.J
