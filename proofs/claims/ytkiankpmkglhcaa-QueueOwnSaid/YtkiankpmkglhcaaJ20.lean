/- Regions that draw their order, with allocations that hang on nothing among their operations. -/
import Derived.Test.YtkiankpmkglhcaaJ19
namespace Go.Proofs.Ytkiankpmkglhcaa.J
open Go Go.RowKit
set_option linter.unusedVariables false
set_option linter.unusedSimpArgs false

/-- Allocations: their places in the region, their slots, the cells of a new one. -/
abbrev Al := List (Nat × Nat × List AV)
def exA (L : Array Bool) (bs : Nat → Nat) (ds : Al) : List Own := ds.filterMap fun p => if L.getD p.1 false = true then some (.box (bs p.1) p.2.2) else none
def alO (bs : Nat → Nat) (ds : Al) : List Own := ds.map fun p => .box (bs p.1) p.2.2
def alE (bs : Nat → Nat) (ds : Al) : List (Nat × AV) := ds.map fun p => (p.2.1, .c (.pointer (some ⟨bs p.1, 0, none⟩)))
def ExR (ex : List Own) (R : List Own → AV → List Own → Prop) (ow : List Own) : List Own → AV → List Own → Prop := fun _ x o' => ∃ o1, o'.Perm (o1 ++ ex) ∧ R ow x o1
theorem getD_set' {L : Array Bool} {i j : Nat} (hi : i < L.size) : (L.setIfInBounds i true).getD j false = if j = i then true else L.getD j false := by
  by_cases h : j = i
  · subst h; simp [Array.getD_eq_getD_getElem?, hi]
  · rw [if_neg h]; simp [Array.getD_eq_getD_getElem?, Array.getElem?_setIfInBounds_ne (Ne.symm h)]
theorem exA_all {L : Array Bool} {bs : Nat → Nat} {ds : Al} (h : ∀ p ∈ ds, L.getD p.1 false = true) : exA L bs ds = alO bs ds := by
  induction ds with
  | nil => rfl
  | cons p ds ih =>
    unfold exA alO
    rw [List.filterMap_cons, if_pos (h p (by simp)), List.map_cons]
    exact congrArg _ (ih fun q hq => h q (by simp [hq]))
theorem exA_none {L : Array Bool} {bs : Nat → Nat} {ds : Al} (h : ∀ p ∈ ds, L.getD p.1 false = false) : exA L bs ds = [] := by
  induction ds with
  | nil => rfl
  | cons p ds ih =>
    unfold exA
    rw [List.filterMap_cons, if_neg (by rw [h p (by simp)]; simp)]
    exact ih fun q hq => h q (by simp [hq])
theorem exA_congr {L L' : Array Bool} {bs bs' : Nat → Nat} {ds : Al} (h : ∀ p ∈ ds, L'.getD p.1 false = L.getD p.1 false ∧ bs' p.1 = bs p.1) : exA L' bs' ds = exA L bs ds := by
  induction ds with
  | nil => rfl
  | cons p ds ih =>
    have h1 := h p (by simp)
    have h2 := ih fun q hq => h q (by simp [hq])
    unfold exA at h2 ⊢
    rw [List.filterMap_cons, List.filterMap_cons, h1.1, h1.2, h2]
theorem exA_other {L : Array Bool} {bs : Nat → Nat} {ds : Al} {i : Nat} (hi : i < L.size) (h : ∀ p ∈ ds, p.1 ≠ i) : exA (L.setIfInBounds i true) bs ds = exA L bs ds :=
  exA_congr fun p hp => ⟨by rw [getD_set' hi, if_neg (h p hp)], rfl⟩
theorem exA_set {L : Array Bool} {bs : Nat → Nat} {ds : Al} {i d b : Nat} {z : List AV} (hi : i < L.size) (hn : (ds.map (·.1)).Nodup) (hm : (i, d, z) ∈ ds) (hL : L.getD i false = false) :
    (exA (L.setIfInBounds i true) (fun j => if j = i then b else bs j) ds).Perm (.box b z :: exA L bs ds) := by
  induction ds with
  | nil => cases hm
  | cons p ds ih =>
    rw [List.map_cons, List.nodup_cons] at hn
    by_cases hp : p.1 = i
    · have hpe : p = (i, d, z) := by
        rcases List.mem_cons.1 hm with h | h
        · exact h.symm
        · exact absurd (List.mem_map.2 ⟨_, h, hp.symm⟩) hn.1
      subst hpe
      have h2 : exA (L.setIfInBounds i true) (fun j => if j = i then b else bs j) ds = exA L bs ds := exA_congr fun q hq => by
        have hne : q.1 ≠ i := fun he => hn.1 (List.mem_map.2 ⟨q, hq, he⟩)
        exact ⟨by rw [getD_set' hi, if_neg hne], by simp [hne]⟩
      unfold exA at h2 ⊢
      rw [List.filterMap_cons, List.filterMap_cons, h2]
      simp only [getD_set' hi, if_true, hL]
      exact .refl _
    · have hm' : (i, d, z) ∈ ds := by
        rcases List.mem_cons.1 hm with h | h
        · exact absurd (by rw [← h]) hp
        · exact h
      have h2 := ih hn.2 hm'
      have h3 : (L.setIfInBounds i true).getD p.1 false = L.getD p.1 false := by rw [getD_set' hi, if_neg hp]
      unfold exA at h2 ⊢
      rw [List.filterMap_cons, List.filterMap_cons, h3]
      simp only [if_neg hp]
      cases hb : L.getD p.1 false with
      | true =>
        simp only [if_true]
        exact (List.Perm.cons _ h2).trans (List.Perm.swap _ _ _)
      | false => simpa using h2
theorem nodup_fst {ds : Al} (hn : (ds.map (·.1)).Nodup) {p q : Nat × Nat × List AV} (hp : p ∈ ds) (hq : q ∈ ds) (h : p.1 = q.1) : p = q := by
  induction ds with
  | nil => cases hp
  | cons r ds ih =>
    rw [List.map_cons, List.nodup_cons] at hn
    rcases List.mem_cons.1 hp with h1 | h1 <;> rcases List.mem_cons.1 hq with h2 | h2
    · rw [h1, h2]
    · exact absurd (List.mem_map.2 ⟨q, h2, by rw [← h, h1]⟩) hn.1
    · exact absurd (List.mem_map.2 ⟨p, h1, by rw [h, h2]⟩) hn.1
    · exact ih hn.2 h1 h2

/-- An allocation, unguarded. -/
def AllocOp (P : Program) (o : Oper) (d : Nat) (z : List AV) : Prop :=
  ∃ t ty pos af vs, o = ⟨some d, .alloc t, ty, pos, af, none⟩ ∧ zeroCells P t = some vs ∧ vs.all (·.oneCell') = true ∧ z = vs.map AV.c
theorem AllocOp.dst {P : Program} {o : Oper} {d : Nat} {z : List AV} (h : AllocOp P o d z) : o.dst = some d := by
  obtain ⟨t, ty, pos, af, vs, rfl, _⟩ := h; rfl
theorem AllocOp.guard {P : Program} {o : Oper} {d : Nat} {z : List AV} (h : AllocOp P o d z) : o.guard = none := by
  obtain ⟨t, ty, pos, af, vs, rfl, _⟩ := h; rfl
theorem AllocOp.mk {P : Program} {t : TypeId} {ty : TypeId} {pos : String} {af : Array Edge} {d : Nat} {vs : List Value} (hz : zeroCells P t = some vs) (h1 : vs.all (·.oneCell') = true) : AllocOp P ⟨some d, .alloc t, ty, pos, af, none⟩ d (vs.map AV.c) := ⟨t, ty, pos, af, vs, rfl, hz, h1, rfl⟩
theorem AllocOp.run {P : Program} {E : Ent} {o : Oper} {d : Nat} {z : List AV} (h : AllocOp P o d z) {n : Nat} {env : List (Nat × AV)} {own ex : List Own} {F : List (Value × AV)} {D : List Deferred} {A : Foot} {a : Act} {w : World} {Qx : Exit → Act → World → Prop}
    (hA : SatA E A ⟨n, env, own ++ ex, F, D⟩ a w) (K : Act → World → Prop)
    (hK : ∀ b w', Frm w A w' A → SatA E A ⟨n, env, .box b z :: (own ++ ex), F, D⟩ a w' → K (a.put o.dst (.pointer (some ⟨b, 0, none⟩))) w') : o.wpIn (fen E.rd) 0 P a w K Qx := by
  obtain ⟨t, ty, pos, af, vs, rfl, hz, h1, rfl⟩ := h
  refine wpR (by intro c h; cases h) ?_
  unfold Oper.wp
  obtain ⟨i, zv, h2, h3, h4⟩ : ∃ i zv, P.info? t = some i ∧ i.zero = some zv ∧ zv.cells.toList = vs := by
    unfold zeroCells at hz
    cases hi : P.info? t with
    | none => rw [hi] at hz; cases hz
    | some i =>
      rw [hi] at hz
      cases hzz : i.zero with
      | none => simp [hzz] at hz
      | some zv => exact ⟨i, zv, rfl, hzz, by simpa [hzz] using hz⟩
  have hr : (execOp a.eval ⟨some d, .alloc t, ty, pos, af, none⟩).run P w = .ok (.value (.pointer (some ⟨w.heap.size, 0, none⟩))) (World.pushed w (.cells vs.toArray t)) := by
    subst h4
    simp [execOp, Instr.alloc, zeroValue, run_typeInfo h2, h3, newVar, newRow, World.pushed]
  rw [hr, Oper.upon_value]
  have hs := hA.step (.push _ _ _) (fun _ _ h => h) (hA.hp.push_box (us := vs.toArray) (t := t) hA.keep.size (by simp) (.const h1))
  refine hK w.heap.size _ (fun v x hx => hx.move (fun _ _ h _ => h) (fun fr b hb _ => (Keep.push [] _ _).block b (hA.hp.lt fr b hb) (by simp))) hs

inductive AnyA (P : Program) (E : Ent) (Q : Exit → St → Prop) (ops : Array Oper) (n : Nat) (env : List (Nat × AV)) (own : List Own) (R : Outs → List Own → AV → List Own → Prop) (M : Nat) (F : List (Value × AV)) (D : List Deferred) : Nat → Nat → Nat → List Oper → List Slot → List Slot → List (Option Nat) → Al → Prop
  | nil (i p : Nat) (don : List Slot) : AnyA P E Q ops n env own R M F D i M p [] don don [] []
  | quiet {i j p : Nat} {o : Oper} {os : List Oper} {don all : List Slot} {lv : List (Option Nat)} {ds : Al} {d : Nat} {x : AV} {env' : List (Nat × AV)} (hd : o.dst = some d) (hn : Nat.blt d n = true) (he : EnvOkR o don env env')
      (hs : ∀ os' ex, vdO own R os' → os'.length ≤ M → Step P E ops ⟨n, env', curO own os' ++ ex, F, D⟩ o x) (h : AnyA P E Q ops n env own R M F D (i + 1) j p os (don ++ [(d, .inl x)]) all lv ds) : AnyA P E Q ops n env own R M F D i j p (o :: os) don all (none :: lv) ds
  | alloc {i j p : Nat} {o : Oper} {os : List Oper} {don all : List Slot} {lv : List (Option Nat)} {ds : Al} {d : Nat} {z : List AV} (ha : AllocOp P o d z) (hn : Nat.blt d n = true)
      (h : AnyA P E Q ops n env own R M F D (i + 1) j p os (don ++ [(n + i, .inl (.c undef))]) all lv ds) : AnyA P E Q ops n env own R M F D i j p (o :: os) don all (none :: lv) ((i, d, z) :: ds)
  | loud {i j p : Nat} {o : Oper} {os : List Oper} {don all : List Slot} {lv : List (Option Nat)} {ds : Al} {env' : Outs → List (Nat × AV)} {s : Nat} (hd : (o.dst = none ∧ s = n + i ∧ ∀ os ow x o', R os ow x o' → os.length = j → x = .c undef) ∨ (o.dst = some s ∧ s < n)) (hg : o.guard = none) (he : ∀ os', os'.length = j → EnvOkO o don env (env' os') os') (hp : (Nat.beq j 0 || depsOk o [p]) = true)
      (hs : ∀ os' ex, vdO own R os' → os'.length = j → LStepR P E Q ⟨n, env' os', curO own os' ++ ex, F, D⟩ (ExR ex (R os') (curO own os')) o) (h : AnyA P E Q ops n env own R M F D (i + 1) (j + 1) i os (don ++ [(s, .inr j)]) all lv ds) : AnyA P E Q ops n env own R M F D i j p (o :: os) don all (some j :: lv) ds

section
variable {P : Program} {E : Ent} {Q : Exit → St → Prop} {n : Nat} {env : List (Nat × AV)} {own : List Own} {R : Outs → List Own → AV → List Own → Prop} {M : Nat} {F : List (Value × AV)} {D : List Deferred} {ops : Array Oper}

theorem AnyA.get {i j p : Nat} {os : List Oper} {don all : List Slot} {lv : List (Option Nat)} {ds : Al} (h : AnyA P E Q ops n env own R M F D i j p os don all lv ds) (hi : don.length = i) :
    (∃ r, all = don ++ r) ∧ all.length = don.length + os.length ∧ lv.length = os.length ∧ j ≤ M ∧
    (∀ (k q : Nat), lv[k]? = some (some q) → j ≤ q ∧ q < M) ∧
    (∀ (k k' q : Nat), lv[k]? = some (some q) → lv[k']? = some (some q) → k = k') ∧
    (∀ q, j ≤ q → q < M → ∃ k : Nat, lv[k]? = some (some q)) ∧
    (∀ p ∈ ds, i ≤ p.1 ∧ p.1 < i + os.length) ∧ (ds.map (·.1)).Nodup ∧
    ∀ k o, os[k]? = some o →
      (lv[k]? = some none ∧ ∃ d x env', all[i + k]? = some (d, .inl x) ∧ o.dst = some d ∧ d < n ∧ EnvOkR o (all.take (i + k)) env env' ∧ (∀ p ∈ ds, p.1 ≠ i + k) ∧ ∀ os' ex, vdO own R os' → os'.length ≤ M → Step P E ops ⟨n, env', curO own os' ++ ex, F, D⟩ o x) ∨
      (lv[k]? = some none ∧ all[i + k]? = some (n + (i + k), .inl (.c undef)) ∧ ∃ d z, (i + k, d, z) ∈ ds ∧ d < n ∧ AllocOp P o d z) ∨
      (∃ (q : Nat) (env' : Outs → List (Nat × AV)) (s : Nat), lv[k]? = some (some q) ∧ all[i + k]? = some (s, .inr q) ∧ ((o.dst = none ∧ s = n + (i + k) ∧ ∀ os ow x o', R os ow x o' → os.length = q → x = .c undef) ∨ (o.dst = some s ∧ s < n)) ∧ o.guard = none ∧ (∀ os', os'.length = q → EnvOkO o (all.take (i + k)) env (env' os') os') ∧ (∀ p ∈ ds, p.1 ≠ i + k) ∧ (∀ os' ex, vdO own R os' → os'.length = q → LStepR P E Q ⟨n, env' os', curO own os' ++ ex, F, D⟩ (ExR ex (R os') (curO own os')) o) ∧
        (q = j → j = 0 ∨ depsOk o [p] = true) ∧ (j < q → ∃ k', lv[k']? = some (some (q - 1)) ∧ depsOk o [i + k'] = true)) := by
  induction h with
  | nil i p don => exact ⟨⟨[], by simp⟩, by simp, rfl, Nat.le_refl _, fun k q h => by simp at h, fun k k' q h => by simp at h, fun q h1 h2 => by omega, (fun p h => by cases h), List.nodup_nil, fun k o h => by simp at h⟩
  | quiet hd hn hds hs _ ih =>
    rename_i i j p o os don all lv ds d x env' _
    obtain ⟨⟨r, hr⟩, hl, hlv, hjM, hq, hinj, hsur, hdb, hdn', hk⟩ := ih (by simp [hi])
    refine ⟨⟨(d, .inl x) :: r, by rw [hr]; simp⟩, by simp at hl ⊢; omega, by simp [hlv], hjM, fun k q hkq => ?_, fun k k' q h1 h2 => ?_, fun q h1 h2 => (by obtain ⟨k, hk'⟩ := hsur q h1 h2; exact ⟨k + 1, by simpa using hk'⟩), (fun p hp => by have := hdb p hp; simp only [List.length_cons]; omega), hdn', fun k o' ho' => ?_⟩
    · cases k with
      | zero => simp at hkq
      | succ k => exact hq k q (by simpa using hkq)
    · cases k with
      | zero => simp at h1
      | succ k =>
        cases k' with
        | zero => simp at h2
        | succ k' => rw [hinj k k' q (by simpa using h1) (by simpa using h2)]
    · cases k with
      | zero =>
        simp at ho'; subst ho'
        have : all.take (i + 0) = don := by rw [hr, ← hi]; simp
        exact .inl ⟨by simp, d, x, env', by rw [hr, ← hi]; simp, hd, blt_lt hn, by rw [this]; exact hds, (fun p hp => by have := hdb p hp; omega), hs⟩
      | succ k =>
        have := hk k o' (by simpa using ho')
        rw [show i + (k + 1) = i + 1 + k by omega]
        rcases this with ⟨h1, h2⟩ | ⟨h1, h2⟩ | ⟨q, ds', s', h1, h2, h3, h4, h5, h6, h6', h7, h8⟩
        · exact .inl ⟨by simpa using h1, h2⟩
        · exact .inr (.inl ⟨by simpa using h1, h2⟩)
        · refine .inr (.inr ⟨q, ds', s', by simpa using h1, h2, h3, h4, h5, h6, h6', h7, fun hlt => ?_⟩)
          obtain ⟨k', hk', hd'⟩ := h8 hlt
          exact ⟨k' + 1, by simpa using hk', by rw [show i + (k' + 1) = i + 1 + k' by omega]; exact hd'⟩
  | alloc ha hn _ ih =>
    rename_i i j p o os don all lv ds d z _
    obtain ⟨⟨r, hr⟩, hl, hlv, hjM, hq, hinj, hsur, hdb, hdn', hk⟩ := ih (by simp [hi])
    refine ⟨⟨(n + i, .inl (.c undef)) :: r, by rw [hr]; simp⟩, by simp at hl ⊢; omega, by simp [hlv], hjM, fun k q hkq => ?_, fun k k' q h1 h2 => ?_, fun q h1 h2 => (by obtain ⟨k, hk'⟩ := hsur q h1 h2; exact ⟨k + 1, by simpa using hk'⟩), (fun p hp => by
      rcases List.mem_cons.1 hp with rfl | hp
      · simp
      · have := hdb p hp; simp only [List.length_cons]; omega), (by
      rw [List.map_cons, List.nodup_cons]
      refine ⟨fun hm => ?_, hdn'⟩
      obtain ⟨p, hp, he⟩ := List.mem_map.1 hm
      have := hdb p hp
      simp only at he; omega), fun k o' ho' => ?_⟩
    · cases k with
      | zero => simp at hkq
      | succ k => exact hq k q (by simpa using hkq)
    · cases k with
      | zero => simp at h1
      | succ k =>
        cases k' with
        | zero => simp at h2
        | succ k' => rw [hinj k k' q (by simpa using h1) (by simpa using h2)]
    · cases k with
      | zero =>
        simp at ho'; subst ho'
        exact .inr (.inl ⟨by simp, by rw [hr, ← hi]; simp, d, z, by simp, blt_lt hn, ha⟩)
      | succ k =>
        have := hk k o' (by simpa using ho')
        rw [show i + (k + 1) = i + 1 + k by omega]
        rcases this with ⟨h1, h2⟩ | ⟨h1, h2⟩ | ⟨q, ds', s', h1, h2, h3, h4, h5, h6, h6', h7, h8⟩
        · obtain ⟨d', x', env', g1, g2, g3, g4, g5, g6⟩ := h2
          refine .inl ⟨by simpa using h1, d', x', env', g1, g2, g3, g4, (fun p hp => ?_), g6⟩
          rcases List.mem_cons.1 hp with rfl | hp
          · simp only; omega
          · exact g5 p hp
        · obtain ⟨g1, d', z', g2, g3⟩ := h2
          exact .inr (.inl ⟨by simpa using h1, g1, d', z', List.mem_cons_of_mem _ g2, g3⟩)
        · refine .inr (.inr ⟨q, ds', s', by simpa using h1, h2, h3, h4, h5, (fun p hp => (by
            rcases List.mem_cons.1 hp with rfl | hp
            · simp only; omega
            · exact h6 p hp)), h6', h7, fun hlt => ?_⟩)
          obtain ⟨k', hk', hd'⟩ := h8 hlt
          exact ⟨k' + 1, by simpa using hk', by rw [show i + (k' + 1) = i + 1 + k' by omega]; exact hd'⟩
  | loud hd hg hds hp hs _ ih =>
    rename_i i j p o os don all lv ds env' s _
    obtain ⟨⟨r, hr⟩, hl, hlv, hjM, hq, hinj, hsur, hdb, hdn', hk⟩ := ih (by simp [hi])
    refine ⟨⟨(s, .inr j) :: r, by rw [hr]; simp⟩, by simp at hl ⊢; omega, by simp [hlv], by omega, fun k q hkq => ?_, fun k k' q h1 h2 => ?_, fun q h1 h2 => (by
      by_cases he : q = j
      · exact ⟨0, by simp [he]⟩
      · obtain ⟨k, hk'⟩ := hsur q (by omega) h2; exact ⟨k + 1, by simpa using hk'⟩), (fun p hp => by have := hdb p hp; simp only [List.length_cons]; omega), hdn', fun k o' ho' => ?_⟩
    · cases k with
      | zero => simp at hkq; omega
      | succ k => have := hq k q (by simpa using hkq); omega
    · cases k with
      | zero =>
        cases k' with
        | zero => rfl
        | succ k' => simp at h1 h2; have := hq k' q h2; omega
      | succ k =>
        cases k' with
        | zero => simp at h1 h2; have := hq k q h1; omega
        | succ k' => rw [hinj k k' q (by simpa using h1) (by simpa using h2)]
    · cases k with
      | zero =>
        simp at ho'; subst ho'
        have : all.take (i + 0) = don := by rw [hr, ← hi]; simp
        refine .inr (.inr ⟨j, env', s, by simp, by rw [hr, ← hi]; simp, by simpa using hd, hg, by rw [this]; exact hds, (fun p hp => by have := hdb p hp; omega), hs, fun _ => ?_, fun h => by omega⟩)
        · simp only [Bool.or_eq_true] at hp
          exact hp.imp Nat.eq_of_beq_eq_true id
      | succ k =>
        have := hk k o' (by simpa using ho')
        rw [show i + (k + 1) = i + 1 + k by omega]
        rcases this with ⟨h1, h2⟩ | ⟨h1, h2⟩ | ⟨q, ds', s', h1, h2, h3, h4, h5, h6, h6', h7, h8⟩
        · exact .inl ⟨by simpa using h1, h2⟩
        · exact .inr (.inl ⟨by simpa using h1, h2⟩)
        · have hjq := (hq k q h1).1
          refine .inr (.inr ⟨q, ds', s', by simpa using h1, h2, h3, h4, h5, h6, h6', fun h => by omega, fun hlt => ?_⟩)
          by_cases he : q = j + 1
          · refine ⟨0, by simp [he], ?_⟩
            rcases h7 he with h7 | h7
            · omega
            · simpa using h7
          · obtain ⟨k', hk', hd'⟩ := h8 (by omega)
            exact ⟨k' + 1, by simpa using hk', by rw [show i + (k' + 1) = i + 1 + k' by omega]; exact hd'⟩

theorem J.region_outA {id : Nat} {l pre tail : List Oper} {steps : List Slot} {lv : List (Option Nat)} {ds : Al} (hm : P.follows .mixedOrders = true) (hl : l = pre ++ tail) (hnd : nodupB (dsts pre) = true) (hbk : backB 0 l = true) (ht : tailOk pre.length l = true)
    (hany : AnyA P E Q l.toArray n (dropEnv (dsts pre) env) own R M F D 0 0 0 pre [] steps lv ds)
    (h : ∀ os' bs, vdO own R os' → os'.length = M → JL P E l.toArray tail ⟨n, alE bs ds ++ (stepsO os' steps ++ dropEnv (dsts pre) env), curO own os' ++ alO bs ds, F, D⟩ Q) :
    J P E (.region id l.toArray true) ⟨n, env, own, F, D⟩ Q := fun a₀ w₀ ⟨A₀, hA₀⟩ => by
  obtain ⟨_, hlen, hlvl, _, hlq, hinj, hsur, hdb, hdnd, hst⟩ := hany.get rfl
  simp only [List.length_nil, Nat.zero_add, Nat.zero_le, true_and] at hlen hst hdb
  have hsize : l.toArray.size = pre.length + tail.length := by simp [hl]
  have hpre : ∀ i o, i < pre.length → (l.toArray[i]? = some o ↔ pre[i]? = some o) := fun i o hi => by simp [hl, List.getElem?_append_left hi]
  let k := pre.length
  let Inv : Array Bool → Foot → Act → World → Prop := fun L A a w => ∃ os' bs, vdO own R os' ∧ os'.length ≤ M ∧ SatA E A ⟨n, dropEnv (dsts pre) env, curO own os' ++ exA L bs ds, F, D⟩ a w ∧
    (∀ p ∈ ds, L.getD p.1 false = true → a.tmps.getD p.2.1 undef = .pointer (some ⟨bs p.1, 0, none⟩)) ∧
    (∀ i d x, steps[i]? = some (d, x) → L.getD i false = true → Rd w A (a.tmps.getD d undef) (valO os' x)) ∧
    (∀ i o, l.toArray[i]? = some o → L.getD i false = true → ∀ e ∈ o.after, Region.binds .any e = true → L.getD e.on false = true) ∧
    (∀ i, pre.length ≤ i → L.getD i false = false) ∧ (∀ i q : Nat, lv[i]? = some (some q) → (L.getD i false = true ↔ q < os'.length))
  have hdone : ∀ fuel L A a w, L.size = l.toArray.size → tail.length ≤ fuel → (∀ i, i < pre.length → L.getD i true = true) → Inv L A a w → wpAnyIn (fen E.rd) 0 P .any l.toArray (lift E Q) fuel L a w := by
    intro fuel L A a w hsz hf hall ⟨os', bs, hvd, hmM, h1, h1', h2, h3, h4, h5⟩
    obtain ⟨m, hmm⟩ : ∃ m, m = os'.length := ⟨_, rfl⟩
    rw [← hmm] at hmM h5
    have hall' : ∀ i, i < pre.length → L.getD i false = true := fun i hi => by rw [← getD_same (by omega)]; exact hall i hi
    have hm' : m = M := by
      apply Nat.le_antisymm hmM
      apply Nat.le_of_not_lt
      intro hlt
      obtain ⟨i, hi⟩ := hsur m (Nat.zero_le _) hlt
      have hil : i < pre.length := by have := (List.getElem?_eq_some_iff.1 hi).1; omega
      have := (h5 i m hi).1 (hall' i hil)
      omega
    rw [hm'] at hmm
    refine wp_tail (k := pre.length) (by simpa using ht) (by simpa using hbk) fuel pre.length L a w (Nat.le_refl _) (by omega) (by omega) hsz hall' h4 ?_
    have htl : l.toArray.toList.drop pre.length = tail := by simp [hl]
    rw [htl]
    have hexd : exA L bs ds = alO bs ds := exA_all fun p hp => hall' p.1 (hdb p hp)
    rw [hexd] at h1
    refine h os' bs hvd hmm.symm a w ⟨A, h1.size, h1.defers, h1.keep, h1.hp, fun s x hl' => ?_, h1.facts⟩
    have hget : ∀ (l' : List (Nat × AV)) (env' : List (Nat × AV)), lk (l' ++ env') s = some x → (∃ i : Nat, l'[i]? = some (s, x)) ∨ lk env' s = some x := by
      intro l' env'
      induction l' with
      | nil => intro h; exact .inr h
      | cons p l' ih =>
        intro h
        obtain ⟨j, y⟩ := p
        rcases lk_cons h with ⟨rfl, rfl⟩ | ⟨_, h⟩
        · exact .inl ⟨0, rfl⟩
        · rcases ih h with ⟨i, hi⟩ | h
          · exact .inl ⟨i + 1, by simpa using hi⟩
          · exact .inr h
    rcases hget _ _ hl' with ⟨i, hi⟩ | hl'
    · simp only [alE, List.getElem?_map] at hi
      cases hsi : ds[i]? with
      | none => rw [hsi] at hi; cases hi
      | some p =>
        rw [hsi] at hi
        simp only [Option.map_some, Option.some.injEq, Prod.mk.injEq] at hi
        obtain ⟨rfl, rfl⟩ := hi
        have hp := List.mem_of_getElem? hsi
        rw [h1' p hp (hall' p.1 (hdb p hp))]
        exact .c _
    rcases hget _ _ hl' with ⟨i, hi⟩ | hl'
    · simp only [stepsO, List.getElem?_map] at hi
      cases hsi : steps[i]? with
      | none => rw [hsi] at hi; cases hi
      | some p =>
        obtain ⟨s', z⟩ := p
        rw [hsi] at hi
        simp only [Option.map_some, Option.some.injEq, Prod.mk.injEq] at hi
        obtain ⟨rfl, rfl⟩ := hi
        exact h2 i s' z hsi (hall' i (by have := (List.getElem?_eq_some_iff.1 hsi).1; omega))
    · exact h1.env s x hl'
  have key : ∀ fuel L A a w, L.size = l.toArray.size → cnt pre.length (fun i => !L.getD i true) + tail.length ≤ fuel → Inv L A a w → wpAnyIn (fen E.rd) 0 P .any l.toArray (lift E Q) fuel L a w := by
    intro fuel
    induction fuel with
    | zero =>
      intro L A a w hsz hc hinv
      refine hdone 0 L A a w hsz (by omega) (fun i hi => ?_) hinv
      have h0 : cnt pre.length (fun i => !L.getD i true) = 0 := by omega
      have := List.countP_eq_zero.1 h0 i (by simpa using hi)
      simpa using this
    | succ fuel ih =>
      intro L A a w hsz hc hinv
      by_cases hall : ∀ i, i < pre.length → L.getD i true = true
      · exact hdone _ L A a w hsz (by omega) hall hinv
      have hinv' := hinv
      obtain ⟨os', bs, hvd, hmM, h1, h1', h2, h3, h4, h5⟩ := hinv
      refine ⟨fun hr => ?_, fun i hi => ?_⟩
      · exfalso
        apply hall
        intro i
        induction i using Nat.strongRecOn with
        | _ i ihi =>
          intro hlt
          cases hL : L.getD i true with
          | true => rfl
          | false =>
            exfalso
            obtain ⟨o, ho⟩ : ∃ o, l.toArray[i]? = some o := ⟨_, Array.getElem?_eq_getElem (by omega)⟩
            have : i ∈ Region.ready .any l.toArray L := ready_mem hsz ho hL fun e he hb => by
              have hon := backB_lt hbk (i := i) (o := o) (by simpa using ho) e he hb
              rw [← getD_same (by omega)]
              exact ihi e.on (by omega) (by omega)
            rw [hr] at this
            cases this
      · obtain ⟨hlt, o, ho, hunl, hdeps⟩ := mem_ready hi
        have hik : i < pre.length := by
          apply Nat.lt_of_not_le
          intro hge
          apply hall
          intro j hj
          rw [getD_same (by omega)]
          exact (tail_closed (k := pre.length) (by simpa using ht) (by simpa using hbk) h3 ho hdeps hge).1 j hj
        have ho' : pre[i]? = some o := (hpre i o hik).1 ho
        have hunl' : L.getD i false = false := by rw [← getD_same (by omega)]; exact hunl
        have hcnt : cnt pre.length (fun j => !(L.setIfInBounds i true).getD j true) + tail.length ≤ fuel := by
          have := cnt_set (fun i => !L.getD i true) (fun j => !(L.setIfInBounds i true).getD j true) i (fun j hj => by rw [getD_set _ _ _ (by omega), if_neg hj]) (by simp [hunl]) (by rw [getD_set _ _ _ (by omega), if_pos rfl]; rfl) pre.length
          rw [if_pos hik] at this
          omega
        have hclo : ∀ j o', l.toArray[j]? = some o' → (L.setIfInBounds i true).getD j false = true → ∀ e ∈ o'.after, Region.binds .any e = true → (L.setIfInBounds i true).getD e.on false = true := by
          intro j o' ho2 hLj e he hb
          rw [getD_set _ _ _ (by omega)] at hLj ⊢
          split
          · rfl
          · by_cases hji : j = i
            · subst hji; rw [ho] at ho2; cases ho2; exact hdeps e he hb
            · rw [if_neg hji] at hLj; exact h3 j o' ho2 hLj e he hb
        have h4' : ∀ j, pre.length ≤ j → (L.setIfInBounds i true).getD j false = false := fun j hj => by rw [getD_set _ _ _ (by omega), if_neg (by omega)]; exact h4 j hj
        have hsat : ∀ (env' : List (Nat × AV)), EnvOkR o (steps.take i) (dropEnv (dsts pre) env) env' → SatA E A ⟨n, env', curO own os' ++ exA L bs ds, F, D⟩ a w := by
          intro env' he
          refine ⟨h1.size, h1.defers, h1.keep, h1.hp, fun s y hl => ?_, h1.facts⟩
          rcases he s y hl with ⟨j, hj, hp⟩ | h
          · obtain ⟨e, he, hb, hon⟩ := depsOk_get hj (List.mem_singleton.2 rfl)
            have hLj := hdeps e he hb
            rw [hon] at hLj
            refine h2 j s (.inl y) ?_ hLj
            rw [List.getElem?_take] at hp
            split at hp
            · exact hp
            · cases hp
          · exact h1.env s y h
        have hsatO : ∀ (env' : List (Nat × AV)), EnvOkO o (steps.take i) (dropEnv (dsts pre) env) env' os' → SatA E A ⟨n, env', curO own os' ++ exA L bs ds, F, D⟩ a w := by
          intro env' he
          refine ⟨h1.size, h1.defers, h1.keep, h1.hp, fun s y hl => ?_, h1.facts⟩
          rcases he s y hl with ⟨j, z, hj, hp, hz⟩ | h
          · obtain ⟨e, he, hb, hon⟩ := depsOk_get hj (List.mem_singleton.2 rfl)
            have hLj := hdeps e he hb
            rw [hon] at hLj
            rw [hz]
            refine h2 j s z ?_ hLj
            rw [List.getElem?_take] at hp
            split at hp
            · exact hp
            · cases hp
          · exact h1.env s y h
        -- a slot of another operation
        have hother : ∀ j d' x', steps[j]? = some (d', x') → j ≠ i → ∀ d, o.dst = some d → d < n → d ≠ d' := by
          intro j d' x' hj hji d hd hdn hdd
          subst hdd
          have hjlt : j < pre.length := by have := (List.getElem?_eq_some_iff.1 hj).1; omega
          obtain ⟨oj, hoj⟩ : ∃ oj, pre[j]? = some oj := ⟨_, List.getElem?_eq_getElem hjlt⟩
          rcases hst j oj hoj with ⟨_, dj, xj, _, hsj, hdj, _⟩ | ⟨_, hsj, _⟩ | ⟨_, _, sj, _, hsj, hdj, _⟩
          · rw [hsj] at hj; cases hj
            exact hji (nodupB_ne hnd hoj ho' hdj hd)
          · rw [hsj] at hj; cases hj
            exact absurd hdn (Nat.not_lt.2 (Nat.le_add_right _ _))
          · rw [hsj] at hj
            have h7 := (Prod.mk.inj (Option.some.inj hj)).1
            rcases hdj with ⟨_, hdj, _⟩ | ⟨hdj, _⟩
            · exact absurd hdn (by rw [← h7, hdj]; exact Nat.not_lt.2 (Nat.le_add_right _ _))
            · rw [h7] at hdj
              exact hji (nodupB_ne hnd hoj ho' hdj hd)
        -- the pointer of another allocation
        have hotherA : ∀ p ∈ ds, p.1 ≠ i → ∀ d, o.dst = some d → d < n → d ≠ p.2.1 := by
          intro p hp hpi d hd hdn hdd
          have hjlt := hdb p hp
          obtain ⟨oj, hoj⟩ : ∃ oj, pre[p.1]? = some oj := ⟨_, List.getElem?_eq_getElem hjlt⟩
          rcases hst p.1 oj hoj with ⟨_, dj, xj, _, hsj, _, _, _, hne, _⟩ | ⟨_, hsj, dj, zj, hmj, _, haj⟩ | ⟨_, _, sj, _, hsj, _, _, _, hne, _⟩
          · exact hne p hp rfl
          · have : p = (p.1, dj, zj) := nodup_fst hdnd hp hmj rfl
            rw [this] at hdd
            exact hpi (nodupB_ne hnd hoj ho' haj.dst (by rw [hd, hdd]))
          · exact hne p hp rfl
        have hexo : (∀ p ∈ ds, p.1 ≠ i) → exA (L.setIfInBounds i true) bs ds = exA L bs ds := fun hne => exA_other (by omega) hne
        rcases hst i o ho' with ⟨hlv, d, x, env', hsx, hd, hdn, hds, hdne, hstep⟩ | ⟨hlv, hsx, d, z, hmem, hdn, hal⟩ | ⟨q, env', sl, hlv, hsx, hd, hg, hds, hdne, hstep, hq0, hqp⟩
        · have hput : ∀ (v : Value) (w' : World) (A' : Foot), Frm w A w' A' → SatA E A' ⟨n, env', curO own os' ++ exA L bs ds, F, D⟩ a w' → Rd w' A' v x →
              wpAnyIn (fen E.rd) 0 P .any l.toArray (lift E Q) fuel (L.setIfInBounds i true) (a.put o.dst v) w' := by
            intro v w' A' hf hs' hv
            refine ih _ A' _ w' (by simpa using hsz) hcnt ⟨os', bs, hvd, hmM, ⟨?_, by rw [hd]; exact hs'.defers, hs'.keep, by rw [hexo hdne]; exact hs'.hp, fun s y hl => ?_, hs'.facts⟩, (fun p hp hLp => by
              rw [getD_set _ _ _ (by omega), if_neg (hdne p hp)] at hLp
              rw [hd, put_getD_ne (hotherA p hp (hdne p hp) d hd hdn)]
              exact h1' p hp hLp), fun j d' x' hj hLj => ?_, hclo, h4', fun j q hjq => ?_⟩
            · have := hs'.size; simp only [Act.put, hd, Array.size_setIfInBounds]; exact this
            · rw [hd]
              have hne : d ≠ s := by
                intro hds'
                subst hds'
                have := (lk_filter (fun k => !((dsts pre).any (Nat.beq k))) env d y hl).2
                simp only [Bool.not_eq_true'] at this
                have hm := List.any_eq_false.1 this d (dsts_mem ho' hd)
                simp at hm
              rw [put_getD_ne hne]
              exact hf _ _ (h1.env s y hl)
            · rw [getD_set _ _ _ (by omega)] at hLj
              by_cases hji : j = i
              · subst hji
                rw [hsx] at hj; cases hj
                rw [hd, put_getD_same (by have := hs'.size; simp only at this; rw [this]; exact hdn)]
                exact hv
              · rw [if_neg hji] at hLj
                rw [hd, put_getD_ne (hother j d' x' hj hji d hd hdn)]
                exact hf _ _ (h2 j d' x' hj hLj)
            · rw [getD_set _ _ _ (by omega)]
              by_cases hji : j = i
              · subst hji; rw [hlv] at hjq; cases hjq
              · rw [if_neg hji]; exact h5 j q hjq
          have hs := hstep os' (exA L bs ds) hvd hmM A a w (hsat env' hds) (wpAnyIn (fen E.rd) 0 P .any l.toArray (lift E Q) fuel (L.setIfInBounds i true)) (lift E Q) hput
          unfold wpOpIn
          simp only [ho]
          split
          · rename_i hw; rw [if_pos hw] at hs; exact hs
          · rename_i hw; rw [if_neg hw] at hs; exact ⟨fun _ _ => trivial, hs⟩
        · -- an allocation
          have hoa := hal.dst
          have hga := hal.guard
          unfold wpOpIn
          simp only [ho]
          rw [if_pos (by simp [Region.wanted, hga])]
          refine hal.run (E := E) h1 ((wpAnyIn (fen E.rd) 0 P .any l.toArray (lift E Q) fuel (L.setIfInBounds i true))) fun b w' hf hs' => ?_
          have hperm := exA_set (L := L) (bs := bs) (b := b) (by omega) hdnd hmem hunl'
          have hs' : SatA E A ⟨n, dropEnv (dsts pre) env, curO own os' ++ exA (L.setIfInBounds i true) (fun j => if j = i then b else bs j) ds, F, D⟩ a w' := hs'.perm (List.perm_middle.symm.trans (List.Perm.append_left _ hperm.symm))
          refine ih _ A _ w' (by simpa using hsz) hcnt ⟨os', fun j => if j = i then b else bs j, hvd, hmM, ⟨?_, by rw [hoa]; exact hs'.defers, hs'.keep, hs'.hp, fun s y hl => ?_, hs'.facts⟩, (fun p hp hLp => ?_), fun j d' x' hj hLj => ?_, hclo, h4', fun j q hjq => ?_⟩
          · have := hs'.size; simp only [Act.put, hoa, Array.size_setIfInBounds]; exact this
          · rw [hoa]
            have hne : d ≠ s := by
              intro hds'
              subst hds'
              have := (lk_filter (fun k => !((dsts pre).any (Nat.beq k))) env d y hl).2
              simp only [Bool.not_eq_true'] at this
              have hm := List.any_eq_false.1 this d (dsts_mem ho' hoa)
              simp at hm
            rw [put_getD_ne hne]
            exact hf _ _ (h1.env s y hl)
          · by_cases hpi : p.1 = i
            · have : p = (i, d, z) := nodup_fst hdnd hp hmem hpi
              subst this
              simp only [if_true]
              rw [hoa, put_getD_same (by have := hs'.size; simp only at this; rw [this]; exact hdn)]
            · rw [getD_set _ _ _ (by omega), if_neg hpi] at hLp
              simp only [if_neg hpi]
              rw [hoa, put_getD_ne (hotherA p hp hpi d hoa hdn)]
              exact h1' p hp hLp
          · rw [getD_set _ _ _ (by omega)] at hLj
            by_cases hji : j = i
            · subst hji
              rw [hsx] at hj; cases hj
              have hsz' := hs'.size
              simp only at hsz'
              have hu : (a.put o.dst (.pointer (some ⟨b, 0, none⟩))).tmps.getD (n + j) undef = undef := by
                simp [Act.put, hoa, Array.getD_eq_getD_getElem?, Array.getElem?_eq_none, hsz']
              rw [hu]
              exact .c _
            · rw [if_neg hji] at hLj
              rw [hoa, put_getD_ne (hother j d' x' hj hji d hoa hdn)]
              exact hf _ _ (h2 j d' x' hj hLj)
          · rw [getD_set _ _ _ (by omega)]
            by_cases hji : j = i
            · subst hji; rw [hlv] at hjq; cases hjq
            · rw [if_neg hji]; exact h5 j q hjq
        · -- one that turns what is owned: it is its turn
          have hqM := (hlq i q hlv).2
          have hmq : os'.length = q := by
            have h6 : ¬ q < os'.length := fun h => by have := (h5 i q hlv).2 h; rw [hunl'] at this; cases this
            by_cases hq : 0 < q
            · obtain ⟨k', hk', hd'⟩ := hqp hq
              obtain ⟨e, he, hb, hon⟩ := depsOk_get hd' (List.mem_singleton.2 rfl)
              have := hdeps e he hb
              rw [hon] at this
              have := (h5 k' (q - 1) hk').1 this
              omega
            · omega
          have hs := hstep os' (exA L bs ds) hvd hmq A a w (hsatO _ (hds os' hmq)) (wpAnyIn (fen E.rd) 0 P .any l.toArray (lift E Q) fuel (L.setIfInBounds i true)) (by
            intro v x own2 w' A' hR hf hs' hv
            obtain ⟨own', hpm, hR⟩ := hR
            replace hs' := hs'.perm hpm
            have hvd' : vdO own R ((x, own') :: os') := ⟨hR, hvd⟩
            have hold : ∀ z : AV ⊕ Nat, (∀ j, z = .inr j → j < os'.length) → valO ((x, own') :: os') z = valO os' z := fun z hz => by
              cases z with
              | inl z => rfl
              | inr j => exact nthO_cons (hz j rfl)
            have hsl : ∀ j d' x', steps[j]? = some (d', x') → L.getD j false = true → ∀ jj, x' = .inr jj → jj < os'.length := fun j d' x' hj hLj jj hx' => by
              subst hx'
              have hjlt : j < pre.length := by have := (List.getElem?_eq_some_iff.1 hj).1; omega
              obtain ⟨oj, hoj⟩ : ∃ oj, pre[j]? = some oj := ⟨_, List.getElem?_eq_getElem hjlt⟩
              rcases hst j oj hoj with ⟨_, dj, xj, _, hsj, _⟩ | ⟨_, hsj, _⟩ | ⟨qj, _, sj, hlvj, hsj, _⟩
              · rw [hsj] at hj; cases hj
              · rw [hsj] at hj; cases hj
              · rw [hsj] at hj; cases hj
                exact (h5 j _ hlvj).1 hLj
            have hputslot : ∀ d', (∀ d, o.dst = some d → d < n → d ≠ d') → (a.put o.dst v).tmps.getD d' undef = a.tmps.getD d' undef := fun d' hne => by
              rcases hd with ⟨hd, _⟩ | ⟨hd, hdn⟩
              · rw [hd]; rfl
              · rw [hd]; exact put_getD_ne (hne _ hd hdn)
            refine ih _ A' _ w' (by simpa using hsz) hcnt ⟨(x, own') :: os', bs, hvd', by simp only [List.length_cons]; omega, ⟨?_, by
                have := hs'.defers
                rcases hd with ⟨hd, _⟩ | ⟨hd, _⟩ <;> (rw [hd]; exact this), hs'.keep, by rw [hexo hdne]; exact hs'.hp, fun s y hl => ?_, hs'.facts⟩, (fun p hp hLp => by
              rw [getD_set _ _ _ (by omega), if_neg (hdne p hp)] at hLp
              rw [hputslot _ (hotherA p hp (hdne p hp))]
              exact h1' p hp hLp), fun j d' x' hj hLj => ?_, hclo, h4', fun j q' hjq => ?_⟩
            · have := hs'.size
              rcases hd with ⟨hd, _⟩ | ⟨hd, _⟩
              · rw [hd]; exact this
              · simp only [Act.put, hd, Array.size_setIfInBounds]; exact this
            · rw [hputslot s (fun d hd' hdn hds' => by
                subst hds'
                have := (lk_filter (fun k => !((dsts pre).any (Nat.beq k))) env d y hl).2
                simp only [Bool.not_eq_true'] at this
                have hm := List.any_eq_false.1 this d (dsts_mem ho' hd')
                simp at hm)]
              exact hf _ _ (h1.env s y hl)
            · rw [getD_set _ _ _ (by omega)] at hLj
              by_cases hji : j = i
              · subst hji
                rw [hsx] at hj; cases hj
                show Rd w' A' _ (nthO ((x, own') :: os') q)
                rw [← hmq, nthO_last]
                rcases hd with ⟨hd, hsl', hru⟩ | ⟨hd, hdn⟩
                · have hu : (a.put o.dst v).tmps.getD sl undef = undef := by
                    have := h1.size
                    simp only at this
                    rw [hd, hsl']
                    simp [Act.put, Array.getD_eq_getD_getElem?, Array.getElem?_eq_none, this]
                  rw [hu, hru _ _ _ _ hR hmq]
                  exact .c _
                · rw [hd, put_getD_same (by have := hs'.size; simp only at this; rw [this]; exact hdn)]
                  exact hv
              · rw [if_neg hji] at hLj
                rw [hputslot d' (fun d hd' hdn => hother j d' x' hj hji d hd' hdn), hold x' (hsl j d' x' hj hLj)]
                exact hf _ _ (h2 j d' x' hj hLj)
            · rw [getD_set _ _ _ (by omega)]
              by_cases hji : j = i
              · subst hji; rw [hlv] at hjq; cases hjq; simp [hmq]
              · rw [if_neg hji, h5 j q' hjq]
                have : q' ≠ q := fun he => hji (hinj j i q (he ▸ hjq) hlv)
                simp only [List.length_cons]; omega)
          unfold wpOpIn
          simp only [ho]
          rw [if_pos (by simp [Region.wanted, hg])]
          exact hs
  refine wpIn_region_any hm (key l.toArray.size _ A₀ a₀ _ (by simp) ?_ ⟨[], fun _ => 0, trivial, Nat.zero_le _, ⟨hA₀.size, hA₀.defers, hA₀.draw.keep, by rw [exA_none (fun p _ => by simp only [Array.getD_eq_getD_getElem?, Array.getElem?_replicate]; split <;> simp)]; rw [List.append_nil]; exact hA₀.hp.draw, fun s y hl => ?_, fun p hp => ?_⟩, (fun p hp hL => by simp only [Array.getD_eq_getD_getElem?, Array.getElem?_replicate] at hL; split at hL <;> simp at hL), fun i d x hi hL => ?_, fun i o ho hL => ?_, fun i _ => ?_, fun i q hq => ?_⟩)
  · have : cnt pre.length (fun i => !(Array.replicate l.toArray.size false).getD i true) ≤ pre.length := Nat.le_trans List.countP_le_length (by simp)
    omega
  · exact (hA₀.draw.env s y (lk_filter (fun k => !((dsts pre).any (Nat.beq k))) env s y hl).1)
  · exact hA₀.draw.facts p hp
  · simp only [Array.getD_eq_getD_getElem?, Array.getElem?_replicate] at hL; split at hL <;> simp at hL
  · simp only [Array.getD_eq_getD_getElem?, Array.getElem?_replicate] at hL; split at hL <;> simp at hL
  · simp only [Array.getD_eq_getD_getElem?, Array.getElem?_replicate]; split <;> simp
  · simp only [Array.getD_eq_getD_getElem?, Array.getElem?_replicate]; split <;> simp
end

section
variable {P : Program} {E : Ent} {Q : Exit → St → Prop} {n : Nat} {env : List (Nat × AV)} {own : List Own} {R : Outs → List Own → AV → List Own → Prop} {M : Nat} {F : List (Value × AV)} {D : List Deferred} {ops : Array Oper}

def OutA (P : Program) (E : Ent) (Q : Exit → St → Prop) (ops : Array Oper) (n : Nat) (env : List (Nat × AV)) (own : List Own) (R : Outs → List Own → AV → List Own → Prop) (M : Nat) (F : List (Value × AV)) (D : List Deferred) (i j p : Nat) (os : List Oper) (don : List Slot) (da : Al) (K : List Slot → Al → Prop) : Prop :=
  i = don.length → ∃ all lv ds, AnyA P E Q ops n env own R M F D i j p os don.reverse all lv ds ∧ K all.reverse (da ++ ds)
variable {i j p : Nat} {da : Al} {K : List Slot → Al → Prop}
theorem OutA.nil {don : List Slot} (h : K don da) : OutA P E Q ops n env own R M F D i M p [] don da K := fun _ => ⟨don.reverse, _, _, .nil i p don.reverse, by rw [List.reverse_reverse, List.append_nil]; exact h⟩
theorem OutA.alloc {o : Oper} {os : List Oper} {don : List Slot} {d : Nat} {z : List AV} (ha : AllocOp P o d z) (hn : Nat.blt d n = true) (h : OutA P E Q ops n env own R M F D (i + 1) j p os ((n + i, .inl (.c undef)) :: don) (da ++ [(i, d, z)]) K) : OutA P E Q ops n env own R M F D i j p (o :: os) don da K := fun hi => by
  obtain ⟨all, lv, ds, h1, h2⟩ := h (by simp [hi])
  rw [List.reverse_cons] at h1
  exact ⟨all, _, _, .alloc ha hn h1, by simpa using h2⟩
theorem OutA.quiet {o : Oper} {os : List Oper} {don : List Slot} {d : Nat} {x : AV} (sl : List Nat) (hd : o.dst = some d) (hn : Nat.blt d n = true) (hc : chkR o sl don i = true)
    (hs : ∀ os' ex, vdO own R os' → os'.length ≤ M → Step P E ops ⟨n, selR sl don ++ env, curO own os' ++ ex, F, D⟩ o x) (h : OutA P E Q ops n env own R M F D (i + 1) j p os ((d, .inl x) :: don) da K) : OutA P E Q ops n env own R M F D i j p (o :: os) don da K := fun hi => by
  obtain ⟨all, lv, ds, h1, h2⟩ := h (by simp [hi])
  rw [List.reverse_cons] at h1
  exact ⟨all, _, _, .quiet hd hn (selR_get hi hc) hs h1, h2⟩
theorem OutA.loud {o : Oper} {os : List Oper} {don : List Slot} {d : Nat} (sl : List Nat) (hd : o.dst = some d) (hn : Nat.blt d n = true) (hg : o.guard = none) (hc : chkO o sl don i = true) (hp : (Nat.beq j 0 || depsOk o [p]) = true)
    (hs : ∀ os' ex, vdO own R os' → os'.length = j → LStepR P E Q ⟨n, selO sl os' don ++ env, curO own os' ++ ex, F, D⟩ (ExR ex (R os') (curO own os')) o) (h : OutA P E Q ops n env own R M F D (i + 1) (j + 1) i os ((d, .inr j) :: don) da K) : OutA P E Q ops n env own R M F D i j p (o :: os) don da K := fun hi => by
  obtain ⟨all, lv, ds, h1, h2⟩ := h (by simp [hi])
  rw [List.reverse_cons] at h1
  exact ⟨all, _, _, .loud (.inr ⟨hd, blt_lt hn⟩) hg (fun os' _ => selO_get (os := os') hi hc) hp hs h1, h2⟩
theorem OutA.store {o : Oper} {os : List Oper} {don : List Slot} (sl : List Nat) (hd : o.dst = none) (hu : ∀ os ow x o', R os ow x o' → os.length = j → x = .c undef) (hg : o.guard = none) (hc : chkO o sl don i = true) (hp : (Nat.beq j 0 || depsOk o [p]) = true)
    (hs : ∀ os' ex, vdO own R os' → os'.length = j → LStepR P E Q ⟨n, selO sl os' don ++ env, curO own os' ++ ex, F, D⟩ (ExR ex (R os') (curO own os')) o) (h : OutA P E Q ops n env own R M F D (i + 1) (j + 1) i os ((n + i, .inr j) :: don) da K) : OutA P E Q ops n env own R M F D i j p (o :: os) don da K := fun hi => by
  obtain ⟨all, lv, ds, h1, h2⟩ := h (by simp [hi])
  rw [List.reverse_cons] at h1
  exact ⟨all, _, _, .loud (.inl ⟨hd, rfl, hu⟩) hg (fun os' _ => selO_get (os := os') hi hc) hp hs h1, h2⟩

theorem J.region_outAK {id : Nat} {l : List Oper} (k M : Nat) (R : Outs → List Own → AV → List Own → Prop) (hm : P.follows .mixedOrders = true) (hnd : nodupB (dsts (l.take k)) = true) (hbk : backB 0 l = true) (ht : tailOk k l = true) (hk : Nat.ble k l.length = true)
    (h : OutA P E Q l.toArray n (dropEnv (dsts (l.take k)) env) own R M F D 0 0 0 (l.take k) [] [] fun steps ds => ∀ os' bs, vdO own R os' → os'.length = M → JL P E l.toArray (l.drop k) ⟨n, alE bs ds ++ (stepsO os' steps ++ dropEnv (dsts (l.take k)) env), curO own os' ++ alO bs ds, F, D⟩ Q) :
    J P E (.region id l.toArray true) ⟨n, env, own, F, D⟩ Q := by
  obtain ⟨steps, lv, ds, h1, h2⟩ := h rfl
  simp only [List.nil_append] at h2
  have hlen : (l.take k).length = k := by have := Nat.le_of_ble_eq_true hk; simp; omega
  obtain ⟨_, hl1, _, _, _, _, _, _, _, hst⟩ := h1.get rfl
  simp only [List.reverse_nil, List.length_nil, Nat.zero_add] at hst hl1
  have hslot : ∀ (a b : Nat) (x y : AV ⊕ Nat) (s : Nat), steps[a]? = some (s, x) → steps[b]? = some (s, y) → a = b := by
    intro a b x y s ha hb
    have ha' : a < (l.take k).length := by have := (List.getElem?_eq_some_iff.1 ha).1; omega
    have hb' : b < (l.take k).length := by have := (List.getElem?_eq_some_iff.1 hb).1; omega
    have hA : ∀ a x, a < (l.take k).length → steps[a]? = some (s, x) → (∃ o, (l.take k)[a]? = some o ∧ o.dst = some s ∧ s < n) ∨ s = n + a := fun a x ha' ha => by
      rcases hst a _ (List.getElem?_eq_getElem ha') with ⟨_, d, x', _, h3, h4, h5, _⟩ | ⟨_, h3, _⟩ | ⟨_, _, s', _, h3, h4, _⟩
      · rw [h3] at ha; cases ha
        exact .inl ⟨_, List.getElem?_eq_getElem ha', h4, h5⟩
      · rw [h3] at ha; cases ha
        exact .inr rfl
      · rw [h3] at ha; cases ha
        rcases h4 with ⟨_, h4, _⟩ | ⟨h4, h5⟩
        · exact .inr h4
        · exact .inl ⟨_, List.getElem?_eq_getElem ha', h4, h5⟩
    rcases hA a x ha' ha with ⟨o, g1, g2, g3⟩ | g1 <;> rcases hA b y hb' hb with ⟨o', k1, k2, k3⟩ | k1
    · exact nodupB_ne hnd g1 k1 g2 k2
    · omega
    · omega
    · omega
  refine J.region_outA hm (List.take_append_drop k l).symm hnd hbk (by rw [hlen]; exact ht) h1 fun os' bs hv hl a w ⟨A, hA⟩ => h2 os' bs hv hl a w ⟨A, hA.size, hA.defers, hA.keep, hA.hp, fun s x hl => hA.env s x ?_, hA.facts⟩
  rw [lk_append] at hl ⊢
  refine hl.imp (fun h => h) fun ⟨hl0, hl⟩ => ⟨hl0, ?_⟩
  rw [lk_append] at hl ⊢
  have hmem : ∀ (ll : List Slot) (s : Nat) (x : AV), (s, x) ∈ stepsO os' ll ↔ ∃ z, (s, z) ∈ ll ∧ valO os' z = x := fun ll s x => by
    simp only [stepsO, List.mem_map, Prod.mk.injEq, Prod.exists]
    constructor
    · rintro ⟨s', z, h, rfl, h'⟩; exact ⟨z, h, h'⟩
    · rintro ⟨z, h, h'⟩; exact ⟨s, z, h, rfl, h'⟩
  rcases hl with hl | ⟨hl1', hl2⟩
  · left
    obtain ⟨z, hz1, hz2⟩ := (hmem _ _ _).1 (lk_mem _ _ _ hl)
    have h3 : (s, z) ∈ steps := by simpa using hz1
    cases h4 : lk (stepsO os' steps) s with
    | none => exact absurd ((hmem _ _ _).2 ⟨z, h3, hz2⟩) (lk_none _ _ h4 x)
    | some y =>
      obtain ⟨z', h5, h6⟩ := (hmem _ _ _).1 (lk_mem _ _ _ h4)
      obtain ⟨a, ha⟩ := List.getElem?_of_mem h3
      obtain ⟨b, hb⟩ := List.getElem?_of_mem h5
      have := hslot a b z z' s ha hb
      subst this
      rw [ha] at hb; cases hb
      rw [← h6, hz2]
  · right
    refine ⟨?_, hl2⟩
    cases h4 : lk (stepsO os' steps) s with
    | none => rfl
    | some y =>
      obtain ⟨z', h5, h6⟩ := (hmem _ _ _).1 (lk_mem _ _ _ h4)
      exact absurd ((hmem _ _ _).2 ⟨z', by simpa using h5, h6⟩) (lk_none _ _ hl1' y)

/-- The frame of what was allocated. -/
theorem mrg_frame : ∀ (ms : List Cd) (ps own ex : List Own), ms.length ≤ own.length → (mrg ms ps (own ++ ex)).Perm (mrg ms ps own ++ ex)
  | [], ps, own, ex, _ => by
    simp only [mrg, List.append_assoc]
    exact List.Perm.append_left _ List.perm_append_comm
  | _ :: _, _, [], _, h => by simp at h
  | .p :: ms, p :: ps, _ :: own, ex, h => by simpa [mrg] using mrg_frame ms ps own ex (by simpa using h)
  | .p :: ms, [], _ :: own, ex, h => by simpa [mrg] using mrg_frame ms [] own ex (by simpa using h)
  | .k :: ms, ps, o :: own, ex, h => by simpa [mrg] using mrg_frame ms ps own ex (by simpa using h)
  | .l :: ms, ps, o :: own, ex, h => by simpa [mrg] using mrg_frame ms ps own ex (by simpa using h)
theorem LStepR.frame {st : St} {ex own1 : List Own} {R R' : List Own → AV → List Own → Prop} {o : Oper} (h : LStepR P E Q st R o) (hR : ∀ x o', R st.own x o' → ∃ o1, o'.Perm (o1 ++ ex) ∧ R' own1 x o1) : LStepR P E Q st (ExR ex R' own1) o := fun A a w hA K hK =>
  h A a w hA K fun v x own' w' A' hR1 hf hs hv => hK v x own' w' A' (hR x own' hR1) hf hs hv
/-- A call's. -/
theorem LStepR.frameM {st : St} (ms : List Cd) {ex own1 : List Own} {Rx : AV → List Own → Prop} {R' : List Own → AV → List Own → Prop} {o : Oper} (h : LStepR P E Q st (fun ow x o' => ∃ o2, Rx x o2 ∧ o' = mrg ms o2 ow) o) (hst : st.own = own1 ++ ex) (hl : Nat.ble ms.length own1.length = true)
    (hR : ∀ x o2, Rx x o2 → R' own1 x (mrg ms o2 own1)) : LStepR P E Q st (ExR ex R' own1) o :=
  h.frame fun x o' ⟨o2, h1, h2⟩ => ⟨_, by rw [h2, hst]; exact mrg_frame ms o2 own1 ex (Nat.le_of_ble_eq_true hl), hR x o2 h1⟩
/-- An allocation: the new box comes last. -/
theorem LStepR.alloc {t ty : TypeId} {pos : String} {af : Array Edge} {d : Nat} {vs : List Value} (hz : zeroCells P t = some vs) (h1 : vs.all (·.oneCell') = true) :
    LStepR P E Q ⟨n, env, own, F, D⟩ (fun ow x o' => ∃ b, x = .c (.pointer (some ⟨b, 0, none⟩)) ∧ o' = ow ++ [.box b (vs.map AV.c)]) ⟨some d, .alloc t, ty, pos, af, none⟩ := fun A a w hA K hK =>
  (AllocOp.mk (ty := ty) (pos := pos) (af := af) (d := d) hz h1).run (E := E) (own := own) (ex := []) (by rw [List.append_nil]; exact hA) K fun b w' hf hs =>
    hK _ _ _ w' A ⟨b, rfl, rfl⟩ hf (hs.perm (by rw [List.append_nil]; exact (List.perm_append_singleton _ _).symm)) (.c _)
/-- One that is quiet. -/
theorem LStepR.frameQ {st : St} {ex own1 : List Own} {o : Oper} {x : AV} {R' : List Own → AV → List Own → Prop} (hq : QW P E st o x) (hst : st.own = own1 ++ ex) (hR : R' own1 x own1) : LStepR P E Q st (ExR ex R' own1) o :=
  LStepR.ofQ hq ⟨own1, by rw [hst], hR⟩
end
end Go.Proofs.Ytkiankpmkglhcaa.J
