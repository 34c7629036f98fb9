/- Texts of this proof, laid together. -/
import Derived.Test.YtkiankpmkglhcaaX4ROutboxOwn
import Derived.Lib.AppendZerosOnto
import Derived.Laws.Externs
/- Regions that draw their order, with allocations that hang on nothing among their operations. -/
namespace Go.Proofs.Ytkiankpmkglhcaa.J
open Go Go.RowKit
set_option linter.unusedVariables false
set_option linter.unusedSimpArgs false

/-- Allocations: their places in the region, their slots, the cells of a new one. -/
abbrev Al := List (Nat × Nat × List AV)
def exA (L : Array Bool) (bs : Nat → Nat) (ds : Al) : List Own := ds.filterMap fun p => if L.getD p.1 false = true then some (.box (bs p.1) p.2.2) else none
def alO (bs : Nat → Nat) (ds : Al) : List Own := ds.map fun p => .box (bs p.1) p.2.2
def alE (bs : Nat → Nat) (ds : Al) : List (Nat × AV) := ds.map fun p => (p.2.1, .c (.pointer (some ⟨bs p.1, 0, none⟩)))
def ExR (ex : List Own) (R : List Own → AV → List Own → Prop) (ow : List Own) : List Own → AV → List Own → Prop := fun _ x o' => ∃ o1, o'.Perm (o1 ++ ex) ∧ R ow x o1
theorem getD_set' {L : Array Bool} {i j : Nat} (hi : i < L.size) : (L.setIfInBounds i true).getD j false = if j = i then true else L.getD j false := by
  by_cases h : j = i
  · subst h; simp [Array.getD_eq_getD_getElem?, hi]
  · rw [if_neg h]; simp [Array.getD_eq_getD_getElem?, Array.getElem?_setIfInBounds_ne (Ne.symm h)]
theorem exA_all {L : Array Bool} {bs : Nat → Nat} {ds : Al} (h : ∀ p ∈ ds, L.getD p.1 false = true) : exA L bs ds = alO bs ds := by
  induction ds with
  | nil => rfl
  | cons p ds ih =>
    unfold exA alO
    rw [List.filterMap_cons, if_pos (h p (by simp)), List.map_cons]
    exact congrArg _ (ih fun q hq => h q (by simp [hq]))
theorem exA_none {L : Array Bool} {bs : Nat → Nat} {ds : Al} (h : ∀ p ∈ ds, L.getD p.1 false = false) : exA L bs ds = [] := by
  induction ds with
  | nil => rfl
  | cons p ds ih =>
    unfold exA
    rw [List.filterMap_cons, if_neg (by rw [h p (by simp)]; simp)]
    exact ih fun q hq => h q (by simp [hq])
theorem exA_congr {L L' : Array Bool} {bs bs' : Nat → Nat} {ds : Al} (h : ∀ p ∈ ds, L'.getD p.1 false = L.getD p.1 false ∧ bs' p.1 = bs p.1) : exA L' bs' ds = exA L bs ds := by
  induction ds with
  | nil => rfl
  | cons p ds ih =>
    have h1 := h p (by simp)
    have h2 := ih fun q hq => h q (by simp [hq])
    unfold exA at h2 ⊢
    rw [List.filterMap_cons, List.filterMap_cons, h1.1, h1.2, h2]
theorem exA_other {L : Array Bool} {bs : Nat → Nat} {ds : Al} {i : Nat} (hi : i < L.size) (h : ∀ p ∈ ds, p.1 ≠ i) : exA (L.setIfInBounds i true) bs ds = exA L bs ds :=
  exA_congr fun p hp => ⟨by rw [getD_set' hi, if_neg (h p hp)], rfl⟩
theorem exA_set {L : Array Bool} {bs : Nat → Nat} {ds : Al} {i d b : Nat} {z : List AV} (hi : i < L.size) (hn : (ds.map (·.1)).Nodup) (hm : (i, d, z) ∈ ds) (hL : L.getD i false = false) :
    (exA (L.setIfInBounds i true) (fun j => if j = i then b else bs j) ds).Perm (.box b z :: exA L bs ds) := by
  induction ds with
  | nil => cases hm
  | cons p ds ih =>
    rw [List.map_cons, List.nodup_cons] at hn
    by_cases hp : p.1 = i
    · have hpe : p = (i, d, z) := by
        rcases List.mem_cons.1 hm with h | h
        · exact h.symm
        · exact absurd (List.mem_map.2 ⟨_, h, hp.symm⟩) hn.1
      subst hpe
      have h2 : exA (L.setIfInBounds i true) (fun j => if j = i then b else bs j) ds = exA L bs ds := exA_congr fun q hq => by
        have hne : q.1 ≠ i := fun he => hn.1 (List.mem_map.2 ⟨q, hq, he⟩)
        exact ⟨by rw [getD_set' hi, if_neg hne], by simp [hne]⟩
      unfold exA at h2 ⊢
      rw [List.filterMap_cons, List.filterMap_cons, h2]
      simp only [getD_set' hi, if_true, hL]
      exact .refl _
    · have hm' : (i, d, z) ∈ ds := by
        rcases List.mem_cons.1 hm with h | h
        · exact absurd (by rw [← h]) hp
        · exact h
      have h2 := ih hn.2 hm'
      have h3 : (L.setIfInBounds i true).getD p.1 false = L.getD p.1 false := by rw [getD_set' hi, if_neg hp]
      unfold exA at h2 ⊢
      rw [List.filterMap_cons, List.filterMap_cons, h3]
      simp only [if_neg hp]
      cases hb : L.getD p.1 false with
      | true =>
        simp only [if_true]
        exact (List.Perm.cons _ h2).trans (List.Perm.swap _ _ _)
      | false => simpa using h2
theorem nodup_fst {ds : Al} (hn : (ds.map (·.1)).Nodup) {p q : Nat × Nat × List AV} (hp : p ∈ ds) (hq : q ∈ ds) (h : p.1 = q.1) : p = q := by
  induction ds with
  | nil => cases hp
  | cons r ds ih =>
    rw [List.map_cons, List.nodup_cons] at hn
    rcases List.mem_cons.1 hp with h1 | h1 <;> rcases List.mem_cons.1 hq with h2 | h2
    · rw [h1, h2]
    · exact absurd (List.mem_map.2 ⟨q, h2, by rw [← h, h1]⟩) hn.1
    · exact absurd (List.mem_map.2 ⟨p, h1, by rw [h, h2]⟩) hn.1
    · exact ih hn.2 h1 h2

/-- An allocation, unguarded. -/
def AllocOp (P : Program) (o : Oper) (d : Nat) (z : List AV) : Prop :=
  ∃ t ty pos af vs, o = ⟨some d, .alloc t, ty, pos, af, none⟩ ∧ zeroCells P t = some vs ∧ vs.all (·.oneCell') = true ∧ z = vs.map AV.c
theorem AllocOp.dst {P : Program} {o : Oper} {d : Nat} {z : List AV} (h : AllocOp P o d z) : o.dst = some d := by
  obtain ⟨t, ty, pos, af, vs, rfl, _⟩ := h; rfl
theorem AllocOp.guard {P : Program} {o : Oper} {d : Nat} {z : List AV} (h : AllocOp P o d z) : o.guard = none := by
  obtain ⟨t, ty, pos, af, vs, rfl, _⟩ := h; rfl
theorem AllocOp.mk {P : Program} {t : TypeId} {ty : TypeId} {pos : String} {af : Array Edge} {d : Nat} {vs : List Value} (hz : zeroCells P t = some vs) (h1 : vs.all (·.oneCell') = true) : AllocOp P ⟨some d, .alloc t, ty, pos, af, none⟩ d (vs.map AV.c) := ⟨t, ty, pos, af, vs, rfl, hz, h1, rfl⟩
theorem AllocOp.run {P : Program} {E : Ent} {o : Oper} {d : Nat} {z : List AV} (h : AllocOp P o d z) {n : Nat} {env : List (Nat × AV)} {own ex : List Own} {F : List (Value × AV)} {D : List Deferred} {A : Foot} {a : Act} {w : World} {Qx : Exit → Act → World → Prop}
    (hA : SatA E A ⟨n, env, own ++ ex, F, D⟩ a w) (K : Act → World → Prop)
    (hK : ∀ b w', Frm w A w' A → SatA E A ⟨n, env, .box b z :: (own ++ ex), F, D⟩ a w' → K (a.put o.dst (.pointer (some ⟨b, 0, none⟩))) w') : o.wpIn (fen E.rd) 0 P a w K Qx := by
  obtain ⟨t, ty, pos, af, vs, rfl, hz, h1, rfl⟩ := h
  refine wpR (by intro c h; cases h) ?_
  unfold Oper.wp
  obtain ⟨i, zv, h2, h3, h4⟩ : ∃ i zv, P.info? t = some i ∧ i.zero = some zv ∧ zv.cells.toList = vs := by
    unfold zeroCells at hz
    cases hi : P.info? t with
    | none => rw [hi] at hz; cases hz
    | some i =>
      rw [hi] at hz
      cases hzz : i.zero with
      | none => simp [hzz] at hz
      | some zv => exact ⟨i, zv, rfl, hzz, by simpa [hzz] using hz⟩
  have hr : (execOp a.eval ⟨some d, .alloc t, ty, pos, af, none⟩).run P w = .ok (.value (.pointer (some ⟨w.heap.size, 0, none⟩))) (World.pushed w (.cells vs.toArray t)) := by
    subst h4
    simp [execOp, Instr.alloc, zeroValue, run_typeInfo h2, h3, newVar, newRow, World.pushed]
  rw [hr, Oper.upon_value]
  have hs := hA.step (.push _ _ _) (fun _ _ h => h) (hA.hp.push_box (us := vs.toArray) (t := t) hA.keep.size (by simp) (.const h1))
  refine hK w.heap.size _ (fun v x hx => hx.move (fun _ _ h _ => h) (fun fr b hb _ => (Keep.push [] _ _).block b (hA.hp.lt fr b hb) (by simp))) hs

inductive AnyA (P : Program) (E : Ent) (Q : Exit → St → Prop) (ops : Array Oper) (n : Nat) (env : List (Nat × AV)) (own : List Own) (R : Outs → List Own → AV → List Own → Prop) (M : Nat) (F : List (Value × AV)) (D : List Deferred) : Nat → Nat → Nat → List Oper → List Slot → List Slot → List (Option Nat) → Al → Prop
  | nil (i p : Nat) (don : List Slot) : AnyA P E Q ops n env own R M F D i M p [] don don [] []
  | quiet {i j p : Nat} {o : Oper} {os : List Oper} {don all : List Slot} {lv : List (Option Nat)} {ds : Al} {d : Nat} {x : AV} {env' : List (Nat × AV)} (hd : o.dst = some d) (hn : Nat.blt d n = true) (he : EnvOkR o don env env')
      (hs : ∀ os' ex, vdO own R os' → os'.length ≤ M → Step P E ops ⟨n, env', curO own os' ++ ex, F, D⟩ o x) (h : AnyA P E Q ops n env own R M F D (i + 1) j p os (don ++ [(d, .inl x)]) all lv ds) : AnyA P E Q ops n env own R M F D i j p (o :: os) don all (none :: lv) ds
  | alloc {i j p : Nat} {o : Oper} {os : List Oper} {don all : List Slot} {lv : List (Option Nat)} {ds : Al} {d : Nat} {z : List AV} (ha : AllocOp P o d z) (hn : Nat.blt d n = true)
      (h : AnyA P E Q ops n env own R M F D (i + 1) j p os (don ++ [(n + i, .inl (.c undef))]) all lv ds) : AnyA P E Q ops n env own R M F D i j p (o :: os) don all (none :: lv) ((i, d, z) :: ds)
  | loud {i j p : Nat} {o : Oper} {os : List Oper} {don all : List Slot} {lv : List (Option Nat)} {ds : Al} {env' : Outs → List (Nat × AV)} {s : Nat} (hd : (o.dst = none ∧ s = n + i ∧ ∀ os ow x o', R os ow x o' → os.length = j → x = .c undef) ∨ (o.dst = some s ∧ s < n)) (hg : o.guard = none) (he : ∀ os', os'.length = j → EnvOkO o don env (env' os') os') (hp : (Nat.beq j 0 || depsOk o [p]) = true)
      (hs : ∀ os' ex, vdO own R os' → os'.length = j → LStepR P E Q ⟨n, env' os', curO own os' ++ ex, F, D⟩ (ExR ex (R os') (curO own os')) o) (h : AnyA P E Q ops n env own R M F D (i + 1) (j + 1) i os (don ++ [(s, .inr j)]) all lv ds) : AnyA P E Q ops n env own R M F D i j p (o :: os) don all (some j :: lv) ds

section
variable {P : Program} {E : Ent} {Q : Exit → St → Prop} {n : Nat} {env : List (Nat × AV)} {own : List Own} {R : Outs → List Own → AV → List Own → Prop} {M : Nat} {F : List (Value × AV)} {D : List Deferred} {ops : Array Oper}

theorem AnyA.get {i j p : Nat} {os : List Oper} {don all : List Slot} {lv : List (Option Nat)} {ds : Al} (h : AnyA P E Q ops n env own R M F D i j p os don all lv ds) (hi : don.length = i) :
    (∃ r, all = don ++ r) ∧ all.length = don.length + os.length ∧ lv.length = os.length ∧ j ≤ M ∧
    (∀ (k q : Nat), lv[k]? = some (some q) → j ≤ q ∧ q < M) ∧
    (∀ (k k' q : Nat), lv[k]? = some (some q) → lv[k']? = some (some q) → k = k') ∧
    (∀ q, j ≤ q → q < M → ∃ k : Nat, lv[k]? = some (some q)) ∧
    (∀ p ∈ ds, i ≤ p.1 ∧ p.1 < i + os.length) ∧ (ds.map (·.1)).Nodup ∧
    ∀ k o, os[k]? = some o →
      (lv[k]? = some none ∧ ∃ d x env', all[i + k]? = some (d, .inl x) ∧ o.dst = some d ∧ d < n ∧ EnvOkR o (all.take (i + k)) env env' ∧ (∀ p ∈ ds, p.1 ≠ i + k) ∧ ∀ os' ex, vdO own R os' → os'.length ≤ M → Step P E ops ⟨n, env', curO own os' ++ ex, F, D⟩ o x) ∨
      (lv[k]? = some none ∧ all[i + k]? = some (n + (i + k), .inl (.c undef)) ∧ ∃ d z, (i + k, d, z) ∈ ds ∧ d < n ∧ AllocOp P o d z) ∨
      (∃ (q : Nat) (env' : Outs → List (Nat × AV)) (s : Nat), lv[k]? = some (some q) ∧ all[i + k]? = some (s, .inr q) ∧ ((o.dst = none ∧ s = n + (i + k) ∧ ∀ os ow x o', R os ow x o' → os.length = q → x = .c undef) ∨ (o.dst = some s ∧ s < n)) ∧ o.guard = none ∧ (∀ os', os'.length = q → EnvOkO o (all.take (i + k)) env (env' os') os') ∧ (∀ p ∈ ds, p.1 ≠ i + k) ∧ (∀ os' ex, vdO own R os' → os'.length = q → LStepR P E Q ⟨n, env' os', curO own os' ++ ex, F, D⟩ (ExR ex (R os') (curO own os')) o) ∧
        (q = j → j = 0 ∨ depsOk o [p] = true) ∧ (j < q → ∃ k', lv[k']? = some (some (q - 1)) ∧ depsOk o [i + k'] = true)) := by
  induction h with
  | nil i p don => exact ⟨⟨[], by simp⟩, by simp, rfl, Nat.le_refl _, fun k q h => by simp at h, fun k k' q h => by simp at h, fun q h1 h2 => by omega, (fun p h => by cases h), List.nodup_nil, fun k o h => by simp at h⟩
  | quiet hd hn hds hs _ ih =>
    rename_i i j p o os don all lv ds d x env' _
    obtain ⟨⟨r, hr⟩, hl, hlv, hjM, hq, hinj, hsur, hdb, hdn', hk⟩ := ih (by simp [hi])
    refine ⟨⟨(d, .inl x) :: r, by rw [hr]; simp⟩, by simp at hl ⊢; omega, by simp [hlv], hjM, fun k q hkq => ?_, fun k k' q h1 h2 => ?_, fun q h1 h2 => (by obtain ⟨k, hk'⟩ := hsur q h1 h2; exact ⟨k + 1, by simpa using hk'⟩), (fun p hp => by have := hdb p hp; simp only [List.length_cons]; omega), hdn', fun k o' ho' => ?_⟩
    · cases k with
      | zero => simp at hkq
      | succ k => exact hq k q (by simpa using hkq)
    · cases k with
      | zero => simp at h1
      | succ k =>
        cases k' with
        | zero => simp at h2
        | succ k' => rw [hinj k k' q (by simpa using h1) (by simpa using h2)]
    · cases k with
      | zero =>
        simp at ho'; subst ho'
        have : all.take (i + 0) = don := by rw [hr, ← hi]; simp
        exact .inl ⟨by simp, d, x, env', by rw [hr, ← hi]; simp, hd, blt_lt hn, by rw [this]; exact hds, (fun p hp => by have := hdb p hp; omega), hs⟩
      | succ k =>
        have := hk k o' (by simpa using ho')
        rw [show i + (k + 1) = i + 1 + k by omega]
        rcases this with ⟨h1, h2⟩ | ⟨h1, h2⟩ | ⟨q, ds', s', h1, h2, h3, h4, h5, h6, h6', h7, h8⟩
        · exact .inl ⟨by simpa using h1, h2⟩
        · exact .inr (.inl ⟨by simpa using h1, h2⟩)
        · refine .inr (.inr ⟨q, ds', s', by simpa using h1, h2, h3, h4, h5, h6, h6', h7, fun hlt => ?_⟩)
          obtain ⟨k', hk', hd'⟩ := h8 hlt
          exact ⟨k' + 1, by simpa using hk', by rw [show i + (k' + 1) = i + 1 + k' by omega]; exact hd'⟩
  | alloc ha hn _ ih =>
    rename_i i j p o os don all lv ds d z _
    obtain ⟨⟨r, hr⟩, hl, hlv, hjM, hq, hinj, hsur, hdb, hdn', hk⟩ := ih (by simp [hi])
    refine ⟨⟨(n + i, .inl (.c undef)) :: r, by rw [hr]; simp⟩, by simp at hl ⊢; omega, by simp [hlv], hjM, fun k q hkq => ?_, fun k k' q h1 h2 => ?_, fun q h1 h2 => (by obtain ⟨k, hk'⟩ := hsur q h1 h2; exact ⟨k + 1, by simpa using hk'⟩), (fun p hp => by
      rcases List.mem_cons.1 hp with rfl | hp
      · simp
      · have := hdb p hp; simp only [List.length_cons]; omega), (by
      rw [List.map_cons, List.nodup_cons]
      refine ⟨fun hm => ?_, hdn'⟩
      obtain ⟨p, hp, he⟩ := List.mem_map.1 hm
      have := hdb p hp
      simp only at he; omega), fun k o' ho' => ?_⟩
    · cases k with
      | zero => simp at hkq
      | succ k => exact hq k q (by simpa using hkq)
    · cases k with
      | zero => simp at h1
      | succ k =>
        cases k' with
        | zero => simp at h2
        | succ k' => rw [hinj k k' q (by simpa using h1) (by simpa using h2)]
    · cases k with
      | zero =>
        simp at ho'; subst ho'
        exact .inr (.inl ⟨by simp, by rw [hr, ← hi]; simp, d, z, by simp, blt_lt hn, ha⟩)
      | succ k =>
        have := hk k o' (by simpa using ho')
        rw [show i + (k + 1) = i + 1 + k by omega]
        rcases this with ⟨h1, h2⟩ | ⟨h1, h2⟩ | ⟨q, ds', s', h1, h2, h3, h4, h5, h6, h6', h7, h8⟩
        · obtain ⟨d', x', env', g1, g2, g3, g4, g5, g6⟩ := h2
          refine .inl ⟨by simpa using h1, d', x', env', g1, g2, g3, g4, (fun p hp => ?_), g6⟩
          rcases List.mem_cons.1 hp with rfl | hp
          · simp only; omega
          · exact g5 p hp
        · obtain ⟨g1, d', z', g2, g3⟩ := h2
          exact .inr (.inl ⟨by simpa using h1, g1, d', z', List.mem_cons_of_mem _ g2, g3⟩)
        · refine .inr (.inr ⟨q, ds', s', by simpa using h1, h2, h3, h4, h5, (fun p hp => (by
            rcases List.mem_cons.1 hp with rfl | hp
            · simp only; omega
            · exact h6 p hp)), h6', h7, fun hlt => ?_⟩)
          obtain ⟨k', hk', hd'⟩ := h8 hlt
          exact ⟨k' + 1, by simpa using hk', by rw [show i + (k' + 1) = i + 1 + k' by omega]; exact hd'⟩
  | loud hd hg hds hp hs _ ih =>
    rename_i i j p o os don all lv ds env' s _
    obtain ⟨⟨r, hr⟩, hl, hlv, hjM, hq, hinj, hsur, hdb, hdn', hk⟩ := ih (by simp [hi])
    refine ⟨⟨(s, .inr j) :: r, by rw [hr]; simp⟩, by simp at hl ⊢; omega, by simp [hlv], by omega, fun k q hkq => ?_, fun k k' q h1 h2 => ?_, fun q h1 h2 => (by
      by_cases he : q = j
      · exact ⟨0, by simp [he]⟩
      · obtain ⟨k, hk'⟩ := hsur q (by omega) h2; exact ⟨k + 1, by simpa using hk'⟩), (fun p hp => by have := hdb p hp; simp only [List.length_cons]; omega), hdn', fun k o' ho' => ?_⟩
    · cases k with
      | zero => simp at hkq; omega
      | succ k => have := hq k q (by simpa using hkq); omega
    · cases k with
      | zero =>
        cases k' with
        | zero => rfl
        | succ k' => simp at h1 h2; have := hq k' q h2; omega
      | succ k =>
        cases k' with
        | zero => simp at h1 h2; have := hq k q h1; omega
        | succ k' => rw [hinj k k' q (by simpa using h1) (by simpa using h2)]
    · cases k with
      | zero =>
        simp at ho'; subst ho'
        have : all.take (i + 0) = don := by rw [hr, ← hi]; simp
        refine .inr (.inr ⟨j, env', s, by simp, by rw [hr, ← hi]; simp, by simpa using hd, hg, by rw [this]; exact hds, (fun p hp => by have := hdb p hp; omega), hs, fun _ => ?_, fun h => by omega⟩)
        · simp only [Bool.or_eq_true] at hp
          exact hp.imp Nat.eq_of_beq_eq_true id
      | succ k =>
        have := hk k o' (by simpa using ho')
        rw [show i + (k + 1) = i + 1 + k by omega]
        rcases this with ⟨h1, h2⟩ | ⟨h1, h2⟩ | ⟨q, ds', s', h1, h2, h3, h4, h5, h6, h6', h7, h8⟩
        · exact .inl ⟨by simpa using h1, h2⟩
        · exact .inr (.inl ⟨by simpa using h1, h2⟩)
        · have hjq := (hq k q h1).1
          refine .inr (.inr ⟨q, ds', s', by simpa using h1, h2, h3, h4, h5, h6, h6', fun h => by omega, fun hlt => ?_⟩)
          by_cases he : q = j + 1
          · refine ⟨0, by simp [he], ?_⟩
            rcases h7 he with h7 | h7
            · omega
            · simpa using h7
          · obtain ⟨k', hk', hd'⟩ := h8 (by omega)
            exact ⟨k' + 1, by simpa using hk', by rw [show i + (k' + 1) = i + 1 + k' by omega]; exact hd'⟩

theorem J.region_outA {id : Nat} {l pre tail : List Oper} {steps : List Slot} {lv : List (Option Nat)} {ds : Al} (hm : P.follows .mixedOrders = true) (hl : l = pre ++ tail) (hnd : nodupB (dsts pre) = true) (hbk : backB 0 l = true) (ht : tailOk pre.length l = true)
    (hany : AnyA P E Q l.toArray n (dropEnv (dsts pre) env) own R M F D 0 0 0 pre [] steps lv ds)
    (h : ∀ os' bs, vdO own R os' → os'.length = M → JL P E l.toArray tail ⟨n, alE bs ds ++ (stepsO os' steps ++ dropEnv (dsts pre) env), curO own os' ++ alO bs ds, F, D⟩ Q) :
    J P E (.region id l.toArray true) ⟨n, env, own, F, D⟩ Q := fun a₀ w₀ ⟨A₀, hA₀⟩ => by
  obtain ⟨_, hlen, hlvl, _, hlq, hinj, hsur, hdb, hdnd, hst⟩ := hany.get rfl
  simp only [List.length_nil, Nat.zero_add, Nat.zero_le, true_and] at hlen hst hdb
  have hsize : l.toArray.size = pre.length + tail.length := by simp [hl]
  have hpre : ∀ i o, i < pre.length → (l.toArray[i]? = some o ↔ pre[i]? = some o) := fun i o hi => by simp [hl, List.getElem?_append_left hi]
  let k := pre.length
  let Inv : Array Bool → Foot → Act → World → Prop := fun L A a w => ∃ os' bs, vdO own R os' ∧ os'.length ≤ M ∧ SatA E A ⟨n, dropEnv (dsts pre) env, curO own os' ++ exA L bs ds, F, D⟩ a w ∧
    (∀ p ∈ ds, L.getD p.1 false = true → a.tmps.getD p.2.1 undef = .pointer (some ⟨bs p.1, 0, none⟩)) ∧
    (∀ i d x, steps[i]? = some (d, x) → L.getD i false = true → Rd w A (a.tmps.getD d undef) (valO os' x)) ∧
    (∀ i o, l.toArray[i]? = some o → L.getD i false = true → ∀ e ∈ o.after, Region.binds .any e = true → L.getD e.on false = true) ∧
    (∀ i, pre.length ≤ i → L.getD i false = false) ∧ (∀ i q : Nat, lv[i]? = some (some q) → (L.getD i false = true ↔ q < os'.length))
  have hdone : ∀ fuel L A a w, L.size = l.toArray.size → tail.length ≤ fuel → (∀ i, i < pre.length → L.getD i true = true) → Inv L A a w → wpAnyIn (fen E.rd) 0 P .any l.toArray (lift E Q) fuel L a w := by
    intro fuel L A a w hsz hf hall ⟨os', bs, hvd, hmM, h1, h1', h2, h3, h4, h5⟩
    obtain ⟨m, hmm⟩ : ∃ m, m = os'.length := ⟨_, rfl⟩
    rw [← hmm] at hmM h5
    have hall' : ∀ i, i < pre.length → L.getD i false = true := fun i hi => by rw [← getD_same (by omega)]; exact hall i hi
    have hm' : m = M := by
      apply Nat.le_antisymm hmM
      apply Nat.le_of_not_lt
      intro hlt
      obtain ⟨i, hi⟩ := hsur m (Nat.zero_le _) hlt
      have hil : i < pre.length := by have := (List.getElem?_eq_some_iff.1 hi).1; omega
      have := (h5 i m hi).1 (hall' i hil)
      omega
    rw [hm'] at hmm
    refine wp_tail (k := pre.length) (by simpa using ht) (by simpa using hbk) fuel pre.length L a w (Nat.le_refl _) (by omega) (by omega) hsz hall' h4 ?_
    have htl : l.toArray.toList.drop pre.length = tail := by simp [hl]
    rw [htl]
    have hexd : exA L bs ds = alO bs ds := exA_all fun p hp => hall' p.1 (hdb p hp)
    rw [hexd] at h1
    refine h os' bs hvd hmm.symm a w ⟨A, h1.size, h1.defers, h1.keep, h1.hp, fun s x hl' => ?_, h1.facts⟩
    have hget : ∀ (l' : List (Nat × AV)) (env' : List (Nat × AV)), lk (l' ++ env') s = some x → (∃ i : Nat, l'[i]? = some (s, x)) ∨ lk env' s = some x := by
      intro l' env'
      induction l' with
      | nil => intro h; exact .inr h
      | cons p l' ih =>
        intro h
        obtain ⟨j, y⟩ := p
        rcases lk_cons h with ⟨rfl, rfl⟩ | ⟨_, h⟩
        · exact .inl ⟨0, rfl⟩
        · rcases ih h with ⟨i, hi⟩ | h
          · exact .inl ⟨i + 1, by simpa using hi⟩
          · exact .inr h
    rcases hget _ _ hl' with ⟨i, hi⟩ | hl'
    · simp only [alE, List.getElem?_map] at hi
      cases hsi : ds[i]? with
      | none => rw [hsi] at hi; cases hi
      | some p =>
        rw [hsi] at hi
        simp only [Option.map_some, Option.some.injEq, Prod.mk.injEq] at hi
        obtain ⟨rfl, rfl⟩ := hi
        have hp := List.mem_of_getElem? hsi
        rw [h1' p hp (hall' p.1 (hdb p hp))]
        exact .c _
    rcases hget _ _ hl' with ⟨i, hi⟩ | hl'
    · simp only [stepsO, List.getElem?_map] at hi
      cases hsi : steps[i]? with
      | none => rw [hsi] at hi; cases hi
      | some p =>
        obtain ⟨s', z⟩ := p
        rw [hsi] at hi
        simp only [Option.map_some, Option.some.injEq, Prod.mk.injEq] at hi
        obtain ⟨rfl, rfl⟩ := hi
        exact h2 i s' z hsi (hall' i (by have := (List.getElem?_eq_some_iff.1 hsi).1; omega))
    · exact h1.env s x hl'
  have key : ∀ fuel L A a w, L.size = l.toArray.size → cnt pre.length (fun i => !L.getD i true) + tail.length ≤ fuel → Inv L A a w → wpAnyIn (fen E.rd) 0 P .any l.toArray (lift E Q) fuel L a w := by
    intro fuel
    induction fuel with
    | zero =>
      intro L A a w hsz hc hinv
      refine hdone 0 L A a w hsz (by omega) (fun i hi => ?_) hinv
      have h0 : cnt pre.length (fun i => !L.getD i true) = 0 := by omega
      have := List.countP_eq_zero.1 h0 i (by simpa using hi)
      simpa using this
    | succ fuel ih =>
      intro L A a w hsz hc hinv
      by_cases hall : ∀ i, i < pre.length → L.getD i true = true
      · exact hdone _ L A a w hsz (by omega) hall hinv
      have hinv' := hinv
      obtain ⟨os', bs, hvd, hmM, h1, h1', h2, h3, h4, h5⟩ := hinv
      refine ⟨fun hr => ?_, fun i hi => ?_⟩
      · exfalso
        apply hall
        intro i
        induction i using Nat.strongRecOn with
        | _ i ihi =>
          intro hlt
          cases hL : L.getD i true with
          | true => rfl
          | false =>
            exfalso
            obtain ⟨o, ho⟩ : ∃ o, l.toArray[i]? = some o := ⟨_, Array.getElem?_eq_getElem (by omega)⟩
            have : i ∈ Region.ready .any l.toArray L := ready_mem hsz ho hL fun e he hb => by
              have hon := backB_lt hbk (i := i) (o := o) (by simpa using ho) e he hb
              rw [← getD_same (by omega)]
              exact ihi e.on (by omega) (by omega)
            rw [hr] at this
            cases this
      · obtain ⟨hlt, o, ho, hunl, hdeps⟩ := mem_ready hi
        have hik : i < pre.length := by
          apply Nat.lt_of_not_le
          intro hge
          apply hall
          intro j hj
          rw [getD_same (by omega)]
          exact (tail_closed (k := pre.length) (by simpa using ht) (by simpa using hbk) h3 ho hdeps hge).1 j hj
        have ho' : pre[i]? = some o := (hpre i o hik).1 ho
        have hunl' : L.getD i false = false := by rw [← getD_same (by omega)]; exact hunl
        have hcnt : cnt pre.length (fun j => !(L.setIfInBounds i true).getD j true) + tail.length ≤ fuel := by
          have := cnt_set (fun i => !L.getD i true) (fun j => !(L.setIfInBounds i true).getD j true) i (fun j hj => by rw [getD_set _ _ _ (by omega), if_neg hj]) (by simp [hunl]) (by rw [getD_set _ _ _ (by omega), if_pos rfl]; rfl) pre.length
          rw [if_pos hik] at this
          omega
        have hclo : ∀ j o', l.toArray[j]? = some o' → (L.setIfInBounds i true).getD j false = true → ∀ e ∈ o'.after, Region.binds .any e = true → (L.setIfInBounds i true).getD e.on false = true := by
          intro j o' ho2 hLj e he hb
          rw [getD_set _ _ _ (by omega)] at hLj ⊢
          split
          · rfl
          · by_cases hji : j = i
            · subst hji; rw [ho] at ho2; cases ho2; exact hdeps e he hb
            · rw [if_neg hji] at hLj; exact h3 j o' ho2 hLj e he hb
        have h4' : ∀ j, pre.length ≤ j → (L.setIfInBounds i true).getD j false = false := fun j hj => by rw [getD_set _ _ _ (by omega), if_neg (by omega)]; exact h4 j hj
        have hsat : ∀ (env' : List (Nat × AV)), EnvOkR o (steps.take i) (dropEnv (dsts pre) env) env' → SatA E A ⟨n, env', curO own os' ++ exA L bs ds, F, D⟩ a w := by
          intro env' he
          refine ⟨h1.size, h1.defers, h1.keep, h1.hp, fun s y hl => ?_, h1.facts⟩
          rcases he s y hl with ⟨j, hj, hp⟩ | h
          · obtain ⟨e, he, hb, hon⟩ := depsOk_get hj (List.mem_singleton.2 rfl)
            have hLj := hdeps e he hb
            rw [hon] at hLj
            refine h2 j s (.inl y) ?_ hLj
            rw [List.getElem?_take] at hp
            split at hp
            · exact hp
            · cases hp
          · exact h1.env s y h
        have hsatO : ∀ (env' : List (Nat × AV)), EnvOkO o (steps.take i) (dropEnv (dsts pre) env) env' os' → SatA E A ⟨n, env', curO own os' ++ exA L bs ds, F, D⟩ a w := by
          intro env' he
          refine ⟨h1.size, h1.defers, h1.keep, h1.hp, fun s y hl => ?_, h1.facts⟩
          rcases he s y hl with ⟨j, z, hj, hp, hz⟩ | h
          · obtain ⟨e, he, hb, hon⟩ := depsOk_get hj (List.mem_singleton.2 rfl)
            have hLj := hdeps e he hb
            rw [hon] at hLj
            rw [hz]
            refine h2 j s z ?_ hLj
            rw [List.getElem?_take] at hp
            split at hp
            · exact hp
            · cases hp
          · exact h1.env s y h
        -- a slot of another operation
        have hother : ∀ j d' x', steps[j]? = some (d', x') → j ≠ i → ∀ d, o.dst = some d → d < n → d ≠ d' := by
          intro j d' x' hj hji d hd hdn hdd
          subst hdd
          have hjlt : j < pre.length := by have := (List.getElem?_eq_some_iff.1 hj).1; omega
          obtain ⟨oj, hoj⟩ : ∃ oj, pre[j]? = some oj := ⟨_, List.getElem?_eq_getElem hjlt⟩
          rcases hst j oj hoj with ⟨_, dj, xj, _, hsj, hdj, _⟩ | ⟨_, hsj, _⟩ | ⟨_, _, sj, _, hsj, hdj, _⟩
          · rw [hsj] at hj; cases hj
            exact hji (nodupB_ne hnd hoj ho' hdj hd)
          · rw [hsj] at hj; cases hj
            exact absurd hdn (Nat.not_lt.2 (Nat.le_add_right _ _))
          · rw [hsj] at hj
            have h7 := (Prod.mk.inj (Option.some.inj hj)).1
            rcases hdj with ⟨_, hdj, _⟩ | ⟨hdj, _⟩
            · exact absurd hdn (by rw [← h7, hdj]; exact Nat.not_lt.2 (Nat.le_add_right _ _))
            · rw [h7] at hdj
              exact hji (nodupB_ne hnd hoj ho' hdj hd)
        -- the pointer of another allocation
        have hotherA : ∀ p ∈ ds, p.1 ≠ i → ∀ d, o.dst = some d → d < n → d ≠ p.2.1 := by
          intro p hp hpi d hd hdn hdd
          have hjlt := hdb p hp
          obtain ⟨oj, hoj⟩ : ∃ oj, pre[p.1]? = some oj := ⟨_, List.getElem?_eq_getElem hjlt⟩
          rcases hst p.1 oj hoj with ⟨_, dj, xj, _, hsj, _, _, _, hne, _⟩ | ⟨_, hsj, dj, zj, hmj, _, haj⟩ | ⟨_, _, sj, _, hsj, _, _, _, hne, _⟩
          · exact hne p hp rfl
          · have : p = (p.1, dj, zj) := nodup_fst hdnd hp hmj rfl
            rw [this] at hdd
            exact hpi (nodupB_ne hnd hoj ho' haj.dst (by rw [hd, hdd]))
          · exact hne p hp rfl
        have hexo : (∀ p ∈ ds, p.1 ≠ i) → exA (L.setIfInBounds i true) bs ds = exA L bs ds := fun hne => exA_other (by omega) hne
        rcases hst i o ho' with ⟨hlv, d, x, env', hsx, hd, hdn, hds, hdne, hstep⟩ | ⟨hlv, hsx, d, z, hmem, hdn, hal⟩ | ⟨q, env', sl, hlv, hsx, hd, hg, hds, hdne, hstep, hq0, hqp⟩
        · have hput : ∀ (v : Value) (w' : World) (A' : Foot), Frm w A w' A' → SatA E A' ⟨n, env', curO own os' ++ exA L bs ds, F, D⟩ a w' → Rd w' A' v x →
              wpAnyIn (fen E.rd) 0 P .any l.toArray (lift E Q) fuel (L.setIfInBounds i true) (a.put o.dst v) w' := by
            intro v w' A' hf hs' hv
            refine ih _ A' _ w' (by simpa using hsz) hcnt ⟨os', bs, hvd, hmM, ⟨?_, by rw [hd]; exact hs'.defers, hs'.keep, by rw [hexo hdne]; exact hs'.hp, fun s y hl => ?_, hs'.facts⟩, (fun p hp hLp => by
              rw [getD_set _ _ _ (by omega), if_neg (hdne p hp)] at hLp
              rw [hd, put_getD_ne (hotherA p hp (hdne p hp) d hd hdn)]
              exact h1' p hp hLp), fun j d' x' hj hLj => ?_, hclo, h4', fun j q hjq => ?_⟩
            · have := hs'.size; simp only [Act.put, hd, Array.size_setIfInBounds]; exact this
            · rw [hd]
              have hne : d ≠ s := by
                intro hds'
                subst hds'
                have := (lk_filter (fun k => !((dsts pre).any (Nat.beq k))) env d y hl).2
                simp only [Bool.not_eq_true'] at this
                have hm := List.any_eq_false.1 this d (dsts_mem ho' hd)
                simp at hm
              rw [put_getD_ne hne]
              exact hf _ _ (h1.env s y hl)
            · rw [getD_set _ _ _ (by omega)] at hLj
              by_cases hji : j = i
              · subst hji
                rw [hsx] at hj; cases hj
                rw [hd, put_getD_same (by have := hs'.size; simp only at this; rw [this]; exact hdn)]
                exact hv
              · rw [if_neg hji] at hLj
                rw [hd, put_getD_ne (hother j d' x' hj hji d hd hdn)]
                exact hf _ _ (h2 j d' x' hj hLj)
            · rw [getD_set _ _ _ (by omega)]
              by_cases hji : j = i
              · subst hji; rw [hlv] at hjq; cases hjq
              · rw [if_neg hji]; exact h5 j q hjq
          have hs := hstep os' (exA L bs ds) hvd hmM A a w (hsat env' hds) (wpAnyIn (fen E.rd) 0 P .any l.toArray (lift E Q) fuel (L.setIfInBounds i true)) (lift E Q) hput
          unfold wpOpIn
          simp only [ho]
          split
          · rename_i hw; rw [if_pos hw] at hs; exact hs
          · rename_i hw; rw [if_neg hw] at hs; exact ⟨fun _ _ => trivial, hs⟩
        · -- an allocation
          have hoa := hal.dst
          have hga := hal.guard
          unfold wpOpIn
          simp only [ho]
          rw [if_pos (by simp [Region.wanted, hga])]
          refine hal.run (E := E) h1 ((wpAnyIn (fen E.rd) 0 P .any l.toArray (lift E Q) fuel (L.setIfInBounds i true))) fun b w' hf hs' => ?_
          have hperm := exA_set (L := L) (bs := bs) (b := b) (by omega) hdnd hmem hunl'
          have hs' : SatA E A ⟨n, dropEnv (dsts pre) env, curO own os' ++ exA (L.setIfInBounds i true) (fun j => if j = i then b else bs j) ds, F, D⟩ a w' := hs'.perm (List.perm_middle.symm.trans (List.Perm.append_left _ hperm.symm))
          refine ih _ A _ w' (by simpa using hsz) hcnt ⟨os', fun j => if j = i then b else bs j, hvd, hmM, ⟨?_, by rw [hoa]; exact hs'.defers, hs'.keep, hs'.hp, fun s y hl => ?_, hs'.facts⟩, (fun p hp hLp => ?_), fun j d' x' hj hLj => ?_, hclo, h4', fun j q hjq => ?_⟩
          · have := hs'.size; simp only [Act.put, hoa, Array.size_setIfInBounds]; exact this
          · rw [hoa]
            have hne : d ≠ s := by
              intro hds'
              subst hds'
              have := (lk_filter (fun k => !((dsts pre).any (Nat.beq k))) env d y hl).2
              simp only [Bool.not_eq_true'] at this
              have hm := List.any_eq_false.1 this d (dsts_mem ho' hoa)
              simp at hm
            rw [put_getD_ne hne]
            exact hf _ _ (h1.env s y hl)
          · by_cases hpi : p.1 = i
            · have : p = (i, d, z) := nodup_fst hdnd hp hmem hpi
              subst this
              simp only [if_true]
              rw [hoa, put_getD_same (by have := hs'.size; simp only at this; rw [this]; exact hdn)]
            · rw [getD_set _ _ _ (by omega), if_neg hpi] at hLp
              simp only [if_neg hpi]
              rw [hoa, put_getD_ne (hotherA p hp hpi d hoa hdn)]
              exact h1' p hp hLp
          · rw [getD_set _ _ _ (by omega)] at hLj
            by_cases hji : j = i
            · subst hji
              rw [hsx] at hj; cases hj
              have hsz' := hs'.size
              simp only at hsz'
              have hu : (a.put o.dst (.pointer (some ⟨b, 0, none⟩))).tmps.getD (n + j) undef = undef := by
                simp [Act.put, hoa, Array.getD_eq_getD_getElem?, Array.getElem?_eq_none, hsz']
              rw [hu]
              exact .c _
            · rw [if_neg hji] at hLj
              rw [hoa, put_getD_ne (hother j d' x' hj hji d hoa hdn)]
              exact hf _ _ (h2 j d' x' hj hLj)
          · rw [getD_set _ _ _ (by omega)]
            by_cases hji : j = i
            · subst hji; rw [hlv] at hjq; cases hjq
            · rw [if_neg hji]; exact h5 j q hjq
        · -- one that turns what is owned: it is its turn
          have hqM := (hlq i q hlv).2
          have hmq : os'.length = q := by
            have h6 : ¬ q < os'.length := fun h => by have := (h5 i q hlv).2 h; rw [hunl'] at this; cases this
            by_cases hq : 0 < q
            · obtain ⟨k', hk', hd'⟩ := hqp hq
              obtain ⟨e, he, hb, hon⟩ := depsOk_get hd' (List.mem_singleton.2 rfl)
              have := hdeps e he hb
              rw [hon] at this
              have := (h5 k' (q - 1) hk').1 this
              omega
            · omega
          have hs := hstep os' (exA L bs ds) hvd hmq A a w (hsatO _ (hds os' hmq)) (wpAnyIn (fen E.rd) 0 P .any l.toArray (lift E Q) fuel (L.setIfInBounds i true)) (by
            intro v x own2 w' A' hR hf hs' hv
            obtain ⟨own', hpm, hR⟩ := hR
            replace hs' := hs'.perm hpm
            have hvd' : vdO own R ((x, own') :: os') := ⟨hR, hvd⟩
            have hold : ∀ z : AV ⊕ Nat, (∀ j, z = .inr j → j < os'.length) → valO ((x, own') :: os') z = valO os' z := fun z hz => by
              cases z with
              | inl z => rfl
              | inr j => exact nthO_cons (hz j rfl)
            have hsl : ∀ j d' x', steps[j]? = some (d', x') → L.getD j false = true → ∀ jj, x' = .inr jj → jj < os'.length := fun j d' x' hj hLj jj hx' => by
              subst hx'
              have hjlt : j < pre.length := by have := (List.getElem?_eq_some_iff.1 hj).1; omega
              obtain ⟨oj, hoj⟩ : ∃ oj, pre[j]? = some oj := ⟨_, List.getElem?_eq_getElem hjlt⟩
              rcases hst j oj hoj with ⟨_, dj, xj, _, hsj, _⟩ | ⟨_, hsj, _⟩ | ⟨qj, _, sj, hlvj, hsj, _⟩
              · rw [hsj] at hj; cases hj
              · rw [hsj] at hj; cases hj
              · rw [hsj] at hj; cases hj
                exact (h5 j _ hlvj).1 hLj
            have hputslot : ∀ d', (∀ d, o.dst = some d → d < n → d ≠ d') → (a.put o.dst v).tmps.getD d' undef = a.tmps.getD d' undef := fun d' hne => by
              rcases hd with ⟨hd, _⟩ | ⟨hd, hdn⟩
              · rw [hd]; rfl
              · rw [hd]; exact put_getD_ne (hne _ hd hdn)
            refine ih _ A' _ w' (by simpa using hsz) hcnt ⟨(x, own') :: os', bs, hvd', by simp only [List.length_cons]; omega, ⟨?_, by
                have := hs'.defers
                rcases hd with ⟨hd, _⟩ | ⟨hd, _⟩ <;> (rw [hd]; exact this), hs'.keep, by rw [hexo hdne]; exact hs'.hp, fun s y hl => ?_, hs'.facts⟩, (fun p hp hLp => by
              rw [getD_set _ _ _ (by omega), if_neg (hdne p hp)] at hLp
              rw [hputslot _ (hotherA p hp (hdne p hp))]
              exact h1' p hp hLp), fun j d' x' hj hLj => ?_, hclo, h4', fun j q' hjq => ?_⟩
            · have := hs'.size
              rcases hd with ⟨hd, _⟩ | ⟨hd, _⟩
              · rw [hd]; exact this
              · simp only [Act.put, hd, Array.size_setIfInBounds]; exact this
            · rw [hputslot s (fun d hd' hdn hds' => by
                subst hds'
                have := (lk_filter (fun k => !((dsts pre).any (Nat.beq k))) env d y hl).2
                simp only [Bool.not_eq_true'] at this
                have hm := List.any_eq_false.1 this d (dsts_mem ho' hd')
                simp at hm)]
              exact hf _ _ (h1.env s y hl)
            · rw [getD_set _ _ _ (by omega)] at hLj
              by_cases hji : j = i
              · subst hji
                rw [hsx] at hj; cases hj
                show Rd w' A' _ (nthO ((x, own') :: os') q)
                rw [← hmq, nthO_last]
                rcases hd with ⟨hd, hsl', hru⟩ | ⟨hd, hdn⟩
                · have hu : (a.put o.dst v).tmps.getD sl undef = undef := by
                    have := h1.size
                    simp only at this
                    rw [hd, hsl']
                    simp [Act.put, Array.getD_eq_getD_getElem?, Array.getElem?_eq_none, this]
                  rw [hu, hru _ _ _ _ hR hmq]
                  exact .c _
                · rw [hd, put_getD_same (by have := hs'.size; simp only at this; rw [this]; exact hdn)]
                  exact hv
              · rw [if_neg hji] at hLj
                rw [hputslot d' (fun d hd' hdn => hother j d' x' hj hji d hd' hdn), hold x' (hsl j d' x' hj hLj)]
                exact hf _ _ (h2 j d' x' hj hLj)
            · rw [getD_set _ _ _ (by omega)]
              by_cases hji : j = i
              · subst hji; rw [hlv] at hjq; cases hjq; simp [hmq]
              · rw [if_neg hji, h5 j q' hjq]
                have : q' ≠ q := fun he => hji (hinj j i q (he ▸ hjq) hlv)
                simp only [List.length_cons]; omega)
          unfold wpOpIn
          simp only [ho]
          rw [if_pos (by simp [Region.wanted, hg])]
          exact hs
  refine wpIn_region_any hm (key l.toArray.size _ A₀ a₀ _ (by simp) ?_ ⟨[], fun _ => 0, trivial, Nat.zero_le _, ⟨hA₀.size, hA₀.defers, hA₀.draw.keep, by rw [exA_none (fun p _ => by simp only [Array.getD_eq_getD_getElem?, Array.getElem?_replicate]; split <;> simp)]; rw [List.append_nil]; exact hA₀.hp.draw, fun s y hl => ?_, fun p hp => ?_⟩, (fun p hp hL => by simp only [Array.getD_eq_getD_getElem?, Array.getElem?_replicate] at hL; split at hL <;> simp at hL), fun i d x hi hL => ?_, fun i o ho hL => ?_, fun i _ => ?_, fun i q hq => ?_⟩)
  · have : cnt pre.length (fun i => !(Array.replicate l.toArray.size false).getD i true) ≤ pre.length := Nat.le_trans List.countP_le_length (by simp)
    omega
  · exact (hA₀.draw.env s y (lk_filter (fun k => !((dsts pre).any (Nat.beq k))) env s y hl).1)
  · exact hA₀.draw.facts p hp
  · simp only [Array.getD_eq_getD_getElem?, Array.getElem?_replicate] at hL; split at hL <;> simp at hL
  · simp only [Array.getD_eq_getD_getElem?, Array.getElem?_replicate] at hL; split at hL <;> simp at hL
  · simp only [Array.getD_eq_getD_getElem?, Array.getElem?_replicate]; split <;> simp
  · simp only [Array.getD_eq_getD_getElem?, Array.getElem?_replicate]; split <;> simp
end

section
variable {P : Program} {E : Ent} {Q : Exit → St → Prop} {n : Nat} {env : List (Nat × AV)} {own : List Own} {R : Outs → List Own → AV → List Own → Prop} {M : Nat} {F : List (Value × AV)} {D : List Deferred} {ops : Array Oper}

def OutA (P : Program) (E : Ent) (Q : Exit → St → Prop) (ops : Array Oper) (n : Nat) (env : List (Nat × AV)) (own : List Own) (R : Outs → List Own → AV → List Own → Prop) (M : Nat) (F : List (Value × AV)) (D : List Deferred) (i j p : Nat) (os : List Oper) (don : List Slot) (da : Al) (K : List Slot → Al → Prop) : Prop :=
  i = don.length → ∃ all lv ds, AnyA P E Q ops n env own R M F D i j p os don.reverse all lv ds ∧ K all.reverse (da ++ ds)
variable {i j p : Nat} {da : Al} {K : List Slot → Al → Prop}
theorem OutA.nil {don : List Slot} (h : K don da) : OutA P E Q ops n env own R M F D i M p [] don da K := fun _ => ⟨don.reverse, _, _, .nil i p don.reverse, by rw [List.reverse_reverse, List.append_nil]; exact h⟩
theorem OutA.alloc {o : Oper} {os : List Oper} {don : List Slot} {d : Nat} {z : List AV} (ha : AllocOp P o d z) (hn : Nat.blt d n = true) (h : OutA P E Q ops n env own R M F D (i + 1) j p os ((n + i, .inl (.c undef)) :: don) (da ++ [(i, d, z)]) K) : OutA P E Q ops n env own R M F D i j p (o :: os) don da K := fun hi => by
  obtain ⟨all, lv, ds, h1, h2⟩ := h (by simp [hi])
  rw [List.reverse_cons] at h1
  exact ⟨all, _, _, .alloc ha hn h1, by simpa using h2⟩
theorem OutA.quiet {o : Oper} {os : List Oper} {don : List Slot} {d : Nat} {x : AV} (sl : List Nat) (hd : o.dst = some d) (hn : Nat.blt d n = true) (hc : chkR o sl don i = true)
    (hs : ∀ os' ex, vdO own R os' → os'.length ≤ M → Step P E ops ⟨n, selR sl don ++ env, curO own os' ++ ex, F, D⟩ o x) (h : OutA P E Q ops n env own R M F D (i + 1) j p os ((d, .inl x) :: don) da K) : OutA P E Q ops n env own R M F D i j p (o :: os) don da K := fun hi => by
  obtain ⟨all, lv, ds, h1, h2⟩ := h (by simp [hi])
  rw [List.reverse_cons] at h1
  exact ⟨all, _, _, .quiet hd hn (selR_get hi hc) hs h1, h2⟩
theorem OutA.loud {o : Oper} {os : List Oper} {don : List Slot} {d : Nat} (sl : List Nat) (hd : o.dst = some d) (hn : Nat.blt d n = true) (hg : o.guard = none) (hc : chkO o sl don i = true) (hp : (Nat.beq j 0 || depsOk o [p]) = true)
    (hs : ∀ os' ex, vdO own R os' → os'.length = j → LStepR P E Q ⟨n, selO sl os' don ++ env, curO own os' ++ ex, F, D⟩ (ExR ex (R os') (curO own os')) o) (h : OutA P E Q ops n env own R M F D (i + 1) (j + 1) i os ((d, .inr j) :: don) da K) : OutA P E Q ops n env own R M F D i j p (o :: os) don da K := fun hi => by
  obtain ⟨all, lv, ds, h1, h2⟩ := h (by simp [hi])
  rw [List.reverse_cons] at h1
  exact ⟨all, _, _, .loud (.inr ⟨hd, blt_lt hn⟩) hg (fun os' _ => selO_get (os := os') hi hc) hp hs h1, h2⟩
theorem OutA.store {o : Oper} {os : List Oper} {don : List Slot} (sl : List Nat) (hd : o.dst = none) (hu : ∀ os ow x o', R os ow x o' → os.length = j → x = .c undef) (hg : o.guard = none) (hc : chkO o sl don i = true) (hp : (Nat.beq j 0 || depsOk o [p]) = true)
    (hs : ∀ os' ex, vdO own R os' → os'.length = j → LStepR P E Q ⟨n, selO sl os' don ++ env, curO own os' ++ ex, F, D⟩ (ExR ex (R os') (curO own os')) o) (h : OutA P E Q ops n env own R M F D (i + 1) (j + 1) i os ((n + i, .inr j) :: don) da K) : OutA P E Q ops n env own R M F D i j p (o :: os) don da K := fun hi => by
  obtain ⟨all, lv, ds, h1, h2⟩ := h (by simp [hi])
  rw [List.reverse_cons] at h1
  exact ⟨all, _, _, .loud (.inl ⟨hd, rfl, hu⟩) hg (fun os' _ => selO_get (os := os') hi hc) hp hs h1, h2⟩

theorem J.region_outAK {id : Nat} {l : List Oper} (k M : Nat) (R : Outs → List Own → AV → List Own → Prop) (hm : P.follows .mixedOrders = true) (hnd : nodupB (dsts (l.take k)) = true) (hbk : backB 0 l = true) (ht : tailOk k l = true) (hk : Nat.ble k l.length = true)
    (h : OutA P E Q l.toArray n (dropEnv (dsts (l.take k)) env) own R M F D 0 0 0 (l.take k) [] [] fun steps ds => ∀ os' bs, vdO own R os' → os'.length = M → JL P E l.toArray (l.drop k) ⟨n, alE bs ds ++ (stepsO os' steps ++ dropEnv (dsts (l.take k)) env), curO own os' ++ alO bs ds, F, D⟩ Q) :
    J P E (.region id l.toArray true) ⟨n, env, own, F, D⟩ Q := by
  obtain ⟨steps, lv, ds, h1, h2⟩ := h rfl
  simp only [List.nil_append] at h2
  have hlen : (l.take k).length = k := by have := Nat.le_of_ble_eq_true hk; simp; omega
  obtain ⟨_, hl1, _, _, _, _, _, _, _, hst⟩ := h1.get rfl
  simp only [List.reverse_nil, List.length_nil, Nat.zero_add] at hst hl1
  have hslot : ∀ (a b : Nat) (x y : AV ⊕ Nat) (s : Nat), steps[a]? = some (s, x) → steps[b]? = some (s, y) → a = b := by
    intro a b x y s ha hb
    have ha' : a < (l.take k).length := by have := (List.getElem?_eq_some_iff.1 ha).1; omega
    have hb' : b < (l.take k).length := by have := (List.getElem?_eq_some_iff.1 hb).1; omega
    have hA : ∀ a x, a < (l.take k).length → steps[a]? = some (s, x) → (∃ o, (l.take k)[a]? = some o ∧ o.dst = some s ∧ s < n) ∨ s = n + a := fun a x ha' ha => by
      rcases hst a _ (List.getElem?_eq_getElem ha') with ⟨_, d, x', _, h3, h4, h5, _⟩ | ⟨_, h3, _⟩ | ⟨_, _, s', _, h3, h4, _⟩
      · rw [h3] at ha; cases ha
        exact .inl ⟨_, List.getElem?_eq_getElem ha', h4, h5⟩
      · rw [h3] at ha; cases ha
        exact .inr rfl
      · rw [h3] at ha; cases ha
        rcases h4 with ⟨_, h4, _⟩ | ⟨h4, h5⟩
        · exact .inr h4
        · exact .inl ⟨_, List.getElem?_eq_getElem ha', h4, h5⟩
    rcases hA a x ha' ha with ⟨o, g1, g2, g3⟩ | g1 <;> rcases hA b y hb' hb with ⟨o', k1, k2, k3⟩ | k1
    · exact nodupB_ne hnd g1 k1 g2 k2
    · omega
    · omega
    · omega
  refine J.region_outA hm (List.take_append_drop k l).symm hnd hbk (by rw [hlen]; exact ht) h1 fun os' bs hv hl a w ⟨A, hA⟩ => h2 os' bs hv hl a w ⟨A, hA.size, hA.defers, hA.keep, hA.hp, fun s x hl => hA.env s x ?_, hA.facts⟩
  rw [lk_append] at hl ⊢
  refine hl.imp (fun h => h) fun ⟨hl0, hl⟩ => ⟨hl0, ?_⟩
  rw [lk_append] at hl ⊢
  have hmem : ∀ (ll : List Slot) (s : Nat) (x : AV), (s, x) ∈ stepsO os' ll ↔ ∃ z, (s, z) ∈ ll ∧ valO os' z = x := fun ll s x => by
    simp only [stepsO, List.mem_map, Prod.mk.injEq, Prod.exists]
    constructor
    · rintro ⟨s', z, h, rfl, h'⟩; exact ⟨z, h, h'⟩
    · rintro ⟨z, h, h'⟩; exact ⟨s, z, h, rfl, h'⟩
  rcases hl with hl | ⟨hl1', hl2⟩
  · left
    obtain ⟨z, hz1, hz2⟩ := (hmem _ _ _).1 (lk_mem _ _ _ hl)
    have h3 : (s, z) ∈ steps := by simpa using hz1
    cases h4 : lk (stepsO os' steps) s with
    | none => exact absurd ((hmem _ _ _).2 ⟨z, h3, hz2⟩) (lk_none _ _ h4 x)
    | some y =>
      obtain ⟨z', h5, h6⟩ := (hmem _ _ _).1 (lk_mem _ _ _ h4)
      obtain ⟨a, ha⟩ := List.getElem?_of_mem h3
      obtain ⟨b, hb⟩ := List.getElem?_of_mem h5
      have := hslot a b z z' s ha hb
      subst this
      rw [ha] at hb; cases hb
      rw [← h6, hz2]
  · right
    refine ⟨?_, hl2⟩
    cases h4 : lk (stepsO os' steps) s with
    | none => rfl
    | some y =>
      obtain ⟨z', h5, h6⟩ := (hmem _ _ _).1 (lk_mem _ _ _ h4)
      exact absurd ((hmem _ _ _).2 ⟨z', by simpa using h5, h6⟩) (lk_none _ _ hl1' y)

/-- The frame of what was allocated. -/
theorem mrg_frame : ∀ (ms : List Cd) (ps own ex : List Own), ms.length ≤ own.length → (mrg ms ps (own ++ ex)).Perm (mrg ms ps own ++ ex)
  | [], ps, own, ex, _ => by
    simp only [mrg, List.append_assoc]
    exact List.Perm.append_left _ List.perm_append_comm
  | _ :: _, _, [], _, h => by simp at h
  | .p :: ms, p :: ps, _ :: own, ex, h => by simpa [mrg] using mrg_frame ms ps own ex (by simpa using h)
  | .p :: ms, [], _ :: own, ex, h => by simpa [mrg] using mrg_frame ms [] own ex (by simpa using h)
  | .k :: ms, ps, o :: own, ex, h => by simpa [mrg] using mrg_frame ms ps own ex (by simpa using h)
  | .l :: ms, ps, o :: own, ex, h => by simpa [mrg] using mrg_frame ms ps own ex (by simpa using h)
theorem LStepR.frame {st : St} {ex own1 : List Own} {R R' : List Own → AV → List Own → Prop} {o : Oper} (h : LStepR P E Q st R o) (hR : ∀ x o', R st.own x o' → ∃ o1, o'.Perm (o1 ++ ex) ∧ R' own1 x o1) : LStepR P E Q st (ExR ex R' own1) o := fun A a w hA K hK =>
  h A a w hA K fun v x own' w' A' hR1 hf hs hv => hK v x own' w' A' (hR x own' hR1) hf hs hv
/-- A call's. -/
theorem LStepR.frameM {st : St} (ms : List Cd) {ex own1 : List Own} {Rx : AV → List Own → Prop} {R' : List Own → AV → List Own → Prop} {o : Oper} (h : LStepR P E Q st (fun ow x o' => ∃ o2, Rx x o2 ∧ o' = mrg ms o2 ow) o) (hst : st.own = own1 ++ ex) (hl : Nat.ble ms.length own1.length = true)
    (hR : ∀ x o2, Rx x o2 → R' own1 x (mrg ms o2 own1)) : LStepR P E Q st (ExR ex R' own1) o :=
  h.frame fun x o' ⟨o2, h1, h2⟩ => ⟨_, by rw [h2, hst]; exact mrg_frame ms o2 own1 ex (Nat.le_of_ble_eq_true hl), hR x o2 h1⟩
/-- An allocation: the new box comes last. -/
theorem LStepR.alloc {t ty : TypeId} {pos : String} {af : Array Edge} {d : Nat} {vs : List Value} (hz : zeroCells P t = some vs) (h1 : vs.all (·.oneCell') = true) :
    LStepR P E Q ⟨n, env, own, F, D⟩ (fun ow x o' => ∃ b, x = .c (.pointer (some ⟨b, 0, none⟩)) ∧ o' = ow ++ [.box b (vs.map AV.c)]) ⟨some d, .alloc t, ty, pos, af, none⟩ := fun A a w hA K hK =>
  (AllocOp.mk (ty := ty) (pos := pos) (af := af) (d := d) hz h1).run (E := E) (own := own) (ex := []) (by rw [List.append_nil]; exact hA) K fun b w' hf hs =>
    hK _ _ _ w' A ⟨b, rfl, rfl⟩ hf (hs.perm (by rw [List.append_nil]; exact (List.perm_append_singleton _ _).symm)) (.c _)
/-- One that is quiet. -/
theorem LStepR.frameQ {st : St} {ex own1 : List Own} {o : Oper} {x : AV} {R' : List Own → AV → List Own → Prop} (hq : QW P E st o x) (hst : st.own = own1 ++ ex) (hR : R' own1 x own1) : LStepR P E Q st (ExR ex R' own1) o :=
  LStepR.ofQ hq ⟨own1, by rw [hst], hR⟩
end
end Go.Proofs.Ytkiankpmkglhcaa.J

/- Parts of own arrays: an own array laid open as a block; slices of it as constants; copies, appends in place, clearing, room that is made. -/
namespace Go.Proofs.Ytkiankpmkglhcaa.J
open Go Go.RowKit
set_option linter.unusedVariables false
set_option linter.unusedSimpArgs false

abbrev sv (b off l c : Nat) : Value := .slice (some ⟨b, off, none⟩) l c

section
variable {P : Program} {E : Ent} {st : St} {Q : Exit → St → Prop} {n B : Nat} {env : List (Nat × AV)} {own : List Own} {F : List (Value × AV)} {D : List Deferred} {ops : Array Oper} {rest : List Oper} {c : Code}
variable {A : Foot} {a : Act} {w w' : World} {t tx et ty : TypeId} {pos : String} {af : Array Edge} {d : Nat} {dd : Option Tmp} {gd : Option (Nat × Bool)} {x y s lo hi mx : Operand} {g : Bool} {m : Nat} {k k' k'' : IntKind} {i j j' : Int}

/-! ### open and shut -/
theorem SatA.swap {i : Nat} {o o' : Own} (h : SatA E A ⟨n, env, own, F, D⟩ a w) (hi : own[i]? = some o) (hf : o'.fp = o.fp) (ho : o'.ok w A) : SatA E A ⟨n, env, own.set i o', F, D⟩ a w :=
  ⟨h.size, h.defers, h.keep, h.hp.upd hi hf (.refl _ _) rfl ho, h.env, h.facts⟩

theorem SatA.lay {i : Nat} {v : Value} {e : ETy} {xs : List (List AV)} (h : SatA E A ⟨n, env, own, F, D⟩ a w) (hi : own[i]? = some (.arr v e xs)) :
    (∃ a0, v = .slice a0 0 0 ∧ xs = []) ∨ ∃ b cap sp, v = sv b 0 xs.length (cap + 1) ∧ xs.length ≤ cap + 1 ∧ (∀ x ∈ xs, x.length = e.sz) ∧ xs.flatten.length + List.length sp = (cap + 1) * e.sz ∧
      SatA E A ⟨n, env, own.set i (.box b (xs.flatten ++ sp.map AV.c)), F, D⟩ a w := by
  rcases h.arr i hi with h0 | ⟨b, cap, us, t, hv, h1, h2, h3, h4, h5⟩
  · exact .inl h0
  have hfl := flatten_length xs h4
  have hle : xs.flatten.length ≤ us.size := by rw [hfl, h3.size]; exact Nat.mul_le_mul_right _ h2
  have h3s := h3.size
  have hul : us.toList.length = us.size := by simp
  refine .inr ⟨b, cap, us.toList.drop xs.flatten.length, hv, h2, h4, by rw [List.length_drop]; omega, h.swap hi (by rw [hv]; rfl) ?_⟩
  refine ⟨us, t, h1, by rw [List.length_append, List.length_map, List.length_drop]; omega, fun k y hk => ?_⟩
  rw [Nat.zero_add]
  by_cases hlt : k < xs.flatten.length
  · rw [List.getElem?_append_left hlt] at hk
    have := h5 k y hk
    rwa [Nat.zero_add] at this
  · rw [List.getElem?_append_right (by omega), List.getElem?_map, List.getElem?_drop] at hk
    rw [show xs.flatten.length + (k - xs.flatten.length) = k by omega] at hk
    cases hu : us[k]? with
    | none => rw [Array.getElem?_toList, hu] at hk; cases hk
    | some u =>
      rw [Array.getElem?_toList, hu] at hk
      simp only [Option.map_some, Option.some.injEq] at hk
      subst hk
      exact ⟨u, rfl, h3.one k u hu, .c u⟩
theorem J.lay (i : Nat) {v : Value} {e : ETy} {xs : List (List AV)} (hi : own[i]? = some (.arr v e xs)) (h0 : ∀ a0, v = .slice a0 0 0 → xs = [] → J P E c ⟨n, env, own, F, D⟩ Q)
    (h1 : ∀ b cap sp, v = sv b 0 xs.length (cap + 1) → xs.length ≤ cap + 1 → (∀ x ∈ xs, x.length = e.sz) → xs.flatten.length + List.length sp = (cap + 1) * e.sz → J P E c ⟨n, env, own.set i (.box b (xs.flatten ++ sp.map AV.c)), F, D⟩ Q) : J P E c ⟨n, env, own, F, D⟩ Q := fun a w ⟨A, hA⟩ => by
  rcases hA.lay hi with ⟨a0, hv, hx⟩ | ⟨b, cap, sp, hv, g1, g2, g3, g4⟩
  · exact h0 a0 hv hx a w ⟨A, hA⟩
  · exact h1 b cap sp hv g1 g2 g3 a w ⟨A, g4⟩

theorem SatA.fold {i : Nat} {b cap : Nat} {ys : List AV} {v : Value} {e : ETy} {xs : List (List AV)} (h : SatA E A ⟨n, env, own, F, D⟩ a w) (hi : own[i]? = some (.box b ys)) (hv : v = sv b 0 xs.length (cap + 1)) (hle : xs.length ≤ cap + 1)
    (hs : ∀ x ∈ xs, x.length = e.sz) (hl : ys.length = (cap + 1) * e.sz) (hp : ys.take xs.flatten.length = xs.flatten) : SatA E A ⟨n, env, own.set i (.arr v e xs), F, D⟩ a w := by
  obtain ⟨us, t, h1, h2, h3⟩ := (h.hp.own _ (List.mem_of_getElem? hi) : (Own.box b ys).ok w A)
  refine h.swap hi (by rw [hv]; rfl) (.inr ⟨b, cap, us, t, hv, h1, hle, ⟨by rw [h2, hl], fun k u hu => ?_⟩, hs, fun k y hk => ?_⟩)
  · have hk : k < ys.length := by rw [← h2]; exact (Array.getElem?_eq_some_iff.1 hu).1
    obtain ⟨u', g1, g2, _⟩ := h3 k _ (List.getElem?_eq_getElem hk)
    rw [Nat.zero_add, hu] at g1
    cases g1; exact g2
  · refine h3 k y ?_
    have hk1 := (List.getElem?_eq_some_iff.1 hk).1
    rw [← hp] at hk
    rw [List.getElem?_take] at hk
    rwa [if_pos hk1] at hk
theorem J.fold (i : Nat) {b cap : Nat} {ys : List AV} {v : Value} {e : ETy} (xs : List (List AV)) (hi : own[i]? = some (.box b ys)) (hv : v = sv b 0 xs.length (cap + 1)) (hle : xs.length ≤ cap + 1)
    (hs : ∀ x ∈ xs, x.length = e.sz) (hl : ys.length = (cap + 1) * e.sz) (hp : ys.take xs.flatten.length = xs.flatten) {own' : List Own} (ho : own.set i (.arr v e xs) = own') (h : J P E c ⟨n, env, own', F, D⟩ Q) : J P E c ⟨n, env, own, F, D⟩ Q := fun a w ⟨A, hA⟩ => by
  subst ho
  exact h a w ⟨A, hA.fold hi hv hle hs hl hp⟩

/-! ### slices of a block, as constants -/
theorem cut_val {b off cap : Nat} {l : Nat} {off' : Nat} (ho : (if cap = l then off else off + l * m) = off') (l' c' : Nat) : (Value.slice (if cap = l then some ⟨b, off, none⟩ else (some ⟨b, off, none⟩ : Option Addr).map (·.add (l * m))) l' c') = sv b off' l' c' := by
  subst ho
  split
  · rfl
  · rw [Option.map_some, add_at]
theorem QW.cutL {b off len cap l off' : Nat} (hU : P.underlying t = some (.slice et)) (hT : tySz P et = some (g, m, B)) (hx : Ev E st x (.c (sv b off len cap))) (hlo : Ev E st lo (.c (.int k i))) (hi : i = (l : Int)) (hl : l ≤ len) (hc : len ≤ cap) (ho : (if cap = l then off else off + l * m) = off') :
    QW P E st ⟨dd, .slice t x (some lo) none none, ty, pos, af, gd⟩ (.c (sv b off' (len - l) (cap - l))) := .pure fun A a w hs => by
  refine ⟨sv b off' (len - l) (cap - l), ?_, .c _⟩
  have := run_slice (P := P) (w := w) (ad := some ⟨b, off, none⟩) (k := k) (k' := .i64) hU hT (some l) none (len := len) (cap := cap) (by simpa using hl) (by simpa using hc)
  simp only [bnd, Option.getD_some, Option.getD_none] at this
  rw [cut_val ho] at this
  simp only [execOp, hx.eq hs, Option.map_some, Option.map_none, EvBnd hlo hi hs, Sem.run_bind, this, Result.andThen_ok, Sem.run_pure]
theorem QW.cutH {b off len cap h : Nat} (hU : P.underlying t = some (.slice et)) (hT : tySz P et = some (g, m, B)) (hx : Ev E st x (.c (sv b off len cap))) (hhi : Ev E st hi (.c (.int k j))) (hj : j = (h : Int)) (hc : h ≤ cap) :
    QW P E st ⟨dd, .slice t x none (some hi) none, ty, pos, af, gd⟩ (.c (sv b off h cap)) := .pure fun A a w hs => by
  refine ⟨sv b off h cap, ?_, .c _⟩
  have := run_slice (P := P) (w := w) (ad := some ⟨b, off, none⟩) (k := .i64) (k' := k) hU hT none (some h) (len := len) (cap := cap) (by simp) (by simpa using hc)
  simp only [bnd, Option.getD_some, Option.getD_none, Nat.sub_zero] at this
  rw [cut_val (l := 0) (off' := off) (by split <;> simp)] at this
  simp only [execOp, hx.eq hs, Option.map_some, Option.map_none, EvBnd hhi hj hs, Sem.run_bind, this, Result.andThen_ok, Sem.run_pure]
theorem QW.cutLH {b off len cap l h off' : Nat} (hU : P.underlying t = some (.slice et)) (hT : tySz P et = some (g, m, B)) (hx : Ev E st x (.c (sv b off len cap))) (hlo : Ev E st lo (.c (.int k i))) (hhi : Ev E st hi (.c (.int k' j))) (hi0 : i = (l : Int)) (hj : j = (h : Int)) (hl : l ≤ h) (hc : h ≤ cap) (ho : (if cap = l then off else off + l * m) = off') :
    QW P E st ⟨dd, .slice t x (some lo) (some hi) none, ty, pos, af, gd⟩ (.c (sv b off' (h - l) (cap - l))) := .pure fun A a w hs => by
  refine ⟨sv b off' (h - l) (cap - l), ?_, .c _⟩
  have := run_slice (P := P) (w := w) (ad := some ⟨b, off, none⟩) (k := k) (k' := k') hU hT (some l) (some h) (len := len) (cap := cap) (by simpa using hl) (by simpa using hc)
  simp only [bnd, Option.getD_some, Option.getD_none] at this
  rw [cut_val ho] at this
  simp only [execOp, hx.eq hs, Option.map_some, Option.map_none, EvBnd hlo hi0 hs, EvBnd hhi hj hs, Sem.run_bind, this, Result.andThen_ok, Sem.run_pure]
theorem QW.cut3 {b off len cap l h mm off' : Nat} (hU : P.underlying t = some (.slice et)) (hT : tySz P et = some (g, m, B)) (hx : Ev E st x (.c (sv b off len cap))) (hlo : Ev E st lo (.c (.int k i))) (hhi : Ev E st hi (.c (.int k' j))) (hmx : Ev E st mx (.c (.int k'' j'))) (hi0 : i = (l : Int)) (hj : j = (h : Int)) (hj' : j' = (mm : Int))
    (hl : l ≤ h) (hm : h ≤ mm) (hc : mm ≤ cap) (ho : (if mm = l then off else off + l * m) = off') :
    QW P E st ⟨dd, .slice t x (some lo) (some hi) (some mx), ty, pos, af, gd⟩ (.c (sv b off' (h - l) (mm - l))) := .pure fun A a w hs => by
  refine ⟨sv b off' (h - l) (mm - l), ?_, .c _⟩
  have := run_slice3 (P := P) (w := w) (ad := some ⟨b, off, none⟩) (k := k) (k' := k') (k'' := k'') hU hT (some l) h mm (len := len) (cap := cap) (by simpa using hl) hm hc
  simp only [bnd, Option.getD_some, Option.getD_none] at this
  rw [cut_val ho] at this
  simp only [execOp, hx.eq hs, Option.map_some, Option.map_none, EvBnd hlo hi0 hs, EvBnd hhi hj hs, EvBnd hmx hj' hs, Sem.run_bind, this, Result.andThen_ok, Sem.run_pure]
theorem QW.len_c {ad : Option Addr} {l cap : Nat} (hU : P.underlying t = some (.slice et)) (h : Ev E st x (.c (.slice ad l cap))) : QW P E st ⟨dd, .call ⟨.builtin .len, #[x], #[t]⟩, ty, pos, af, gd⟩ (.c (.int .i64 (l : Int))) := .pure fun A a w hs =>
  ⟨_, by simp [execOp, resolve, invoke, builtin, Builtin.len_, run_underlying _ hU, h.eq hs, goInt], .c _⟩
theorem QW.cap_c {ad : Option Addr} {l cap : Nat} (hU : P.underlying t = some (.slice et)) (h : Ev E st x (.c (.slice ad l cap))) : QW P E st ⟨dd, .call ⟨.builtin .cap, #[x], #[t]⟩, ty, pos, af, gd⟩ (.c (.int .i64 (cap : Int))) := .pure fun A a w hs =>
  ⟨_, by simp [execOp, resolve, invoke, builtin, Builtin.cap_, run_underlying _ hU, h.eq hs, goInt], .c _⟩

/-! ### what is copied -/
/-- The first m of a slice of l elements: their cells. -/
def SrcN (P : Program) (w : World) (A : Foot) (sz m l : Nat) (v : Value) (zs : List AV) : Prop :=
  ∃ ad cp cs, v = .slice ad l cp ∧ (Builtin.firstCells sz m v).run P w = .ok (List.toArray cs) w ∧ Cells w A cs.toArray 0 zs ∧ cs.length = zs.length ∧ zs.length = m * sz

theorem cells_part {us : Array Value} {zs : List AV} {b off o2 mm : Nat} {tt : TypeId} {fz : Nat × Nat} (h : Cells w A us off zs) (hb : w.heap[b]? = some (.cells us tt fz)) (hle : o2 + mm ≤ zs.length) :
    ∃ cs : List Value, cs.length = mm ∧ (∀ j u, cs[j]? = some u → w.cell? ((⟨b, off + o2, none⟩ : Addr).add j) = some u) ∧ Cells w A cs.toArray 0 ((zs.drop o2).take mm) := by
  have hg : ∀ q, q < mm → ∃ u, us[off + (o2 + q)]? = some u ∧ u.oneCell' = true ∧ ∀ y, zs[o2 + q]? = some y → Rd w A u y := fun q hq => by
    obtain ⟨u, h1, h0, h2⟩ := h (o2 + q) _ (List.getElem?_eq_getElem (by omega))
    exact ⟨u, h1, h0, fun y hy => by rw [List.getElem?_eq_getElem (by omega)] at hy; cases hy; exact h2⟩
  have hu : ∀ q, q < mm → us[off + (o2 + q)]? = some (us.getD (off + (o2 + q)) undef) := fun q hq => by
    obtain ⟨u, h1, _⟩ := hg q hq
    simp [Array.getD_eq_getD_getElem?, h1]
  refine ⟨(List.range mm).map fun q => us.getD (off + (o2 + q)) undef, by simp, fun q u hq => ?_, fun q y hq => ?_⟩
  · rw [List.getElem?_map] at hq
    by_cases hlt : q < mm
    · rw [List.getElem?_range hlt] at hq; cases hq
      rw [add_at, cell_at hb, Nat.add_assoc]; exact hu q hlt
    · rw [List.getElem?_eq_none (by simpa using hlt)] at hq; cases hq
  · rw [List.getElem?_take] at hq
    split at hq
    · rename_i hlt
      rw [List.getElem?_drop] at hq
      obtain ⟨u, h1, h0, h2⟩ := hg q hlt
      have : us.getD (off + (o2 + q)) undef = u := by simp [Array.getD_eq_getD_getElem?, h1]
      exact ⟨u, by simp [hlt, h1], h0, h2 y hq⟩
    · cases hq

theorem SrcN.box {sz mm l cp b2 o2 i2 : Nat} {zs : List AV} {st : St} (h : Ev E st x (.c (sv b2 o2 l cp))) (ho : st.own[i2]? = some (.box b2 zs)) (hm : mm ≤ l) (hle : o2 + mm * sz ≤ zs.length) : ∀ A a w, SatA E A st a w → SrcN P w A sz mm l (a.eval x) ((zs.drop o2).take (mm * sz)) := fun A a w hs => by
  obtain ⟨us, tt, h1, h2, h3⟩ := (hs.hp.own _ (List.mem_of_getElem? ho) : (Own.box b2 zs).ok w A)
  obtain ⟨cs, g1, g2, g3⟩ := cells_part (off := 0) h3 h1 hle
  rw [Nat.zero_add] at g2
  refine ⟨_, _, cs, h.eq hs, ?_, g3, by rw [g1]; simp; omega, by simp; omega⟩
  rw [h.eq hs]
  exact run_firstCells_some w sz mm ⟨b2, o2, none⟩ l cp cs g1 g2
theorem SrcN.sl {sz mm : Nat} {fr clip : Bool} {e : ETy} {xs : List (List AV)} {st : St} (h : Ev E st x (.sl fr clip e xs)) (hsz : e.sz = sz) (hm : mm ≤ xs.length) : ∀ A a w, SatA E A st a w → SrcN P w A sz mm xs.length (a.eval x) (xs.flatten.take (mm * sz)) := fun A a w hs => by
  obtain ⟨ad, cap, hv, _, _, hc⟩ := (h A a w hs).of_sl
  rcases hc with rfl | ⟨b, off, cs, t', fz, rfl, hAb, hb, hxl, _, hc⟩
  · obtain rfl : mm = 0 := by simpa using hm
    refine ⟨_, _, [], hv, ?_, fun k y hk => by simp at hk, by simp, by simp⟩
    rw [hv]
    cases ad with
    | none => exact run_firstCells_none w sz 0 _ _
    | some a' => exact run_firstCells_some w sz 0 a' _ _ [] (by simp) (by intro _ _ h'; simp at h')
  · have hfl := flatten_length xs hxl
    subst hsz
    have hle : 0 + mm * e.sz ≤ xs.flatten.length := by rw [hfl, Nat.zero_add]; exact Nat.mul_le_mul_right _ hm
    obtain ⟨vs, g1, g2, g3⟩ := cells_part (o2 := 0) hc hb hle
    rw [List.drop_zero] at g3
    refine ⟨_, _, vs, hv, ?_, g3, by rw [g1, List.length_take]; omega, by rw [List.length_take]; omega⟩
    rw [hv]
    exact run_firstCells_some w e.sz mm ⟨b, off, none⟩ _ _ vs g1 (by simpa using g2)

theorem SrcN.one {sz : Nat} {fr clip : Bool} {e : ETy} {ys : List AV} {st : St} (h : Ev E st x (.sl fr clip e [ys])) (hsz : e.sz = sz) (hy : ys.length = sz) : ∀ A a w, SatA E A st a w → SrcN P w A sz 1 1 (a.eval x) ys := fun A a w hs => by
  have := SrcN.sl (P := P) (mm := 1) h hsz (Nat.le_refl 1) A a w hs
  have h2 : ([ys] : List (List AV)).flatten.take (1 * sz) = ys := by
    rw [Nat.one_mul, show ([ys] : List (List AV)).flatten = ys by simp]
    exact List.take_of_length_le (Nat.le_of_eq hy)
  rwa [h2] at this
theorem SrcN.boxE {sz mm l cp b2 o2 i2 q : Nat} {zs : List AV} {st : St} (h : Ev E st x (.c (sv b2 o2 l cp))) (ho : st.own[i2]? = some (.box b2 zs)) (hq : mm * sz = q) (hm : mm ≤ l) (hle : o2 + q ≤ zs.length) : ∀ A a w, SatA E A st a w → SrcN P w A sz mm l (a.eval x) ((zs.drop o2).take q) := by
  subst hq
  exact SrcN.box h ho hm hle

/-- Cells laid into an own block. -/
theorem SatA.lays {i b off : Nat} {ys zs : List AV} {cs : List Value} (hA : SatA E A ⟨n, env, own, F, D⟩ a w) (ho : own[i]? = some (.box b ys)) (hc : Cells w A cs.toArray 0 zs) (hl : cs.length = zs.length) (hle : off + zs.length ≤ ys.length) :
    ∃ w1, (storeCells ⟨b, off, none⟩ cs 0).run P w = .ok () w1 ∧ SatA E A ⟨n, env, own.set i (.box b (splice ys off zs)), F, D⟩ a w1 := by
  have hmem := List.mem_of_getElem? ho
  obtain ⟨us, tt, h1, h2, h3⟩ := (hA.hp.own _ hmem : (Own.box b ys).ok w A)
  obtain ⟨w1, us1, hr1, hk1, hz1, hb1, hs1, hu1⟩ := run_storeCells (P := P) (off := off) cs 0 us w h1 (by omega) (List.all_eq_true.2 (hc.ones hl))
  refine ⟨w1, hr1, ?_⟩
  have hfp : ∀ fr q, A fr q → q < w.heap.size → w1.heap[q]? = w.heap[q]? := fun fr q hq hlt => hk1.block q hlt fun hm' => by
    simp only [List.mem_singleton] at hm'
    subst hm'
    exact (hA.hp.fp q (fps_mem hmem (by simp [Own.fp]))).2.2 fr hq
  refine hA.step (hk1.mono fun q hq => fps_mem hmem (by simpa [Own.fp] using hq)) (fun _ _ h => h) (hA.hp.upd (o' := .box b (splice ys off zs)) ho (by simp [Own.fp]) (by simpa [Own.fp] using hk1) hz1 ⟨us1, tt, hb1, by rw [hs1, h2, splice_length hle], ?_⟩)
  exact (h3.spliced hc hl hle (by simpa using hu1)).keep hfp

/-- copy, into an own block. -/
theorem JL.copyN (i : Nat) {b o1 l1 c1 l2 mm sz : Nat} {ys zs : List AV} (hU : P.underlying t = some (.slice et)) (hT : tySz P et = some (g, sz, B)) (hs : Ev E ⟨n, env, own, F, D⟩ s (.c (sv b o1 l1 c1))) (ho : own[i]? = some (.box b ys))
    (hx : ∀ A a w, SatA E A ⟨n, env, own, F, D⟩ a w → SrcN P w A sz mm l2 (a.eval x) zs) (hm : Nat.min l2 l1 = mm) (hle : o1 + zs.length ≤ ys.length) (hd : Nat.blt d n = true)
    (h : JL P E ops rest ⟨n, (d, .c (.int .i64 (mm : Int))) :: env, own.set i (.box b (splice ys o1 zs)), F, D⟩ Q) :
    JL P E ops (⟨some d, .call ⟨.builtin .copy, #[s, x], #[t, tx]⟩, ty, pos, af, none⟩ :: rest) ⟨n, env, own, F, D⟩ Q := fun a w ⟨A, hA⟩ => by
  refine wpListIn_plain rfl fun K hK => ?_
  refine wpR (by intro c h; cases h) ?_
  unfold Oper.wp
  obtain ⟨ad, cp, cs, hv, hf, hc, hl, _⟩ := hx A a w hA
  obtain ⟨w1, hr1, hS⟩ := hA.lays (P := P) ho hc hl hle
  have hr : (Builtin.copy_ #[t, tx] ty #[sv b o1 l1 c1, a.eval x]).run P w = .ok (.int .i64 (mm : Int)) w1 := by
    rw [hv] at hf ⊢
    simp [Builtin.copy_, run_underlying _ hU, Builtin.lenOf, hm, run_sizeOf hT, hf, hr1, goInt]
  have he : (execOp a.eval ⟨some d, .call ⟨.builtin .copy, #[s, x], #[t, tx]⟩, ty, pos, af, none⟩).run P w = .ok (.value (.int .i64 (mm : Int))) w1 := by
    simp [execOp, resolve, invoke, builtin, hs.eq hA, hr, Result.andThen]
  rw [he, Oper.upon_value]
  exact hK _ _ (h _ _ ⟨A, hS.put (blt_lt hd) (.c _)⟩)

/-- append, where there is room, in an own block. -/
theorem JL.appN (i : Nat) {b o1 l1 c1 mm sz : Nat} {ys zs : List AV} {e2 : TypeId} (hU : P.underlying t = some (.slice et)) (hV : P.underlying tx = some (.slice e2)) (hT : tySz P et = some (g, sz, B)) (hs : Ev E ⟨n, env, own, F, D⟩ s (.c (sv b o1 l1 c1))) (ho : own[i]? = some (.box b ys))
    (hx : ∀ A a w, SatA E A ⟨n, env, own, F, D⟩ a w → SrcN P w A sz mm mm (a.eval x) zs) (hroom : l1 + mm ≤ c1) (hle : o1 + l1 * sz + zs.length ≤ ys.length) (hd : Nat.blt d n = true)
    (h : JL P E ops rest ⟨n, (d, .c (sv b o1 (l1 + mm) c1)) :: env, own.set i (.box b (splice ys (o1 + l1 * sz) zs)), F, D⟩ Q) :
    JL P E ops (⟨some d, .call ⟨.builtin .append, #[s, x], #[t, tx]⟩, ty, pos, af, none⟩ :: rest) ⟨n, env, own, F, D⟩ Q := fun a w ⟨A, hA⟩ => by
  refine wpListIn_plain rfl fun K hK => ?_
  refine wpR (by intro c h; cases h) ?_
  unfold Oper.wp
  obtain ⟨ad, cp, cs, hv, hf, hc, hl, _⟩ := hx A a w hA
  obtain ⟨w1, hr1, hS⟩ := hA.lays (P := P) ho hc hl hle
  have hr : (Builtin.append_ #[t, tx] ty #[sv b o1 l1 c1, a.eval x]).run P w = .ok (sv b o1 (l1 + mm) c1) w1 := by
    rw [hv] at hf ⊢
    simp [Builtin.append_, run_underlying _ hU, run_underlying _ hV, run_sizeOf hT, Builtin.lenOf, hroom, hf, add_at, hr1]
  rw [run_builtin_append (hs.eq hA) rfl hr, Oper.upon_value]
  exact hK _ _ (h _ _ ⟨A, hS.put (blt_lt hd) (.c _)⟩)

/-- clear, of a part of an own block: what lies there then is not told. -/
theorem JL.clearN (i : Nat) {b o1 mm c1 : Nat} {e : ETy} {ys : List AV} (hU : P.underlying t = some (.slice et)) (hE : elemB P et e = true) (hx : Ev E ⟨n, env, own, F, D⟩ x (.c (sv b o1 mm c1))) (ho : own[i]? = some (.box b ys)) (hle : o1 + mm * e.sz ≤ ys.length)
    (h : ∀ zs : List AV, zs.length = mm * e.sz → JL P E ops rest ⟨n, env, own.set i (.box b (splice ys o1 zs)), F, D⟩ Q) :
    JL P E ops (⟨none, .call ⟨.builtin .clear, #[x], #[t]⟩, ty, pos, af, none⟩ :: rest) ⟨n, env, own, F, D⟩ Q := fun a w ⟨A, hA⟩ => by
  refine wpListIn_plain rfl fun K hK => ?_
  refine wpR (by intro c h; cases h) ?_
  unfold Oper.wp
  obtain ⟨ti, tz, hi, hsz, hby, hz, hzs, hz1⟩ := elemB_get hE
  have hset : own.set i (.box b ys) = own := by
    have hlt := List.getElem?_eq_some_iff.1 ho
    apply List.ext_getElem?
    intro q
    rw [List.getElem?_set]
    split
    · rename_i hq; subst hq; rw [if_pos hlt.1, ho]
    · rfl
  cases mm with
  | zero =>
    have he : (execOp a.eval ⟨none, .call ⟨.builtin .clear, #[x], #[t]⟩, ty, pos, af, none⟩).run P w = .ok (.value (.tuple #[])) w := by
      simp [execOp, resolve, invoke, builtin, hx.eq hA, Builtin.clear_, run_underlying _ hU, Result.andThen]
    rw [he, Oper.upon_value]
    have := h [] (by simp)
    rw [show splice ys o1 [] = ys by simp [splice], hset] at this
    exact hK _ _ (this _ _ ⟨A, hA⟩)
  | succ mm =>
    have hcs : ∀ u ∈ (Builtin.zeroCells tz.cells (mm + 1)).toList, u.oneCell' = true := fun u hu => zeroCells_one hz1 u (by simpa using hu)
    have hcl : (Builtin.zeroCells tz.cells (mm + 1)).toList.length = (mm + 1) * e.sz := by simp [size_zeroCells, hzs]
    have hc : Cells w A (Builtin.zeroCells tz.cells (mm + 1)).toList.toArray 0 ((Builtin.zeroCells tz.cells (mm + 1)).toList.map AV.c) := Cells.const (List.all_eq_true.2 hcs)
    obtain ⟨w1, hr1, hS⟩ := hA.lays (P := P) (off := o1) ho hc (by simp) (by rw [List.length_map, hcl]; exact hle)
    have he : (execOp a.eval ⟨none, .call ⟨.builtin .clear, #[x], #[t]⟩, ty, pos, af, none⟩).run P w = .ok (.value (.tuple #[])) w1 := by
      simp [execOp, resolve, invoke, builtin, hx.eq hA, Builtin.clear_, run_underlying _ hU, zeroValue, typeInfo, hi, hz, hr1, Result.andThen]
    rw [he, Oper.upon_value]
    exact hK _ _ (h _ (by rw [List.length_map, hcl]) _ _ ⟨A, hS⟩)

/-- append of room that is made, where there is none: a new block; what lies behind the old elements is not told. -/
theorem JL.appMake (i : Nat) {b o1 l1 c1 q : Nat} {e : ETy} {ys : List AV} {kn kq : IntKind} (hU : P.underlying t = some (.slice et)) (hN : P.underlying tx = some (.int kn)) (hE : elemB P et e = true) (h0 : Nat.blt 0 e.sz = true) (hs : Ev E ⟨n, env, own, F, D⟩ s (.c (sv b o1 l1 c1))) (ho : own[i]? = some (.box b ys))
    (hx : Ev E ⟨n, env, own, F, D⟩ x (.c (.int kq (q : Int)))) (hq : 0 < q) (hg : c1 < l1 + q) (hle : o1 + l1 * e.sz ≤ ys.length) (hreach : (l1 + q) * e.bytes ≤ reach) (hr63 : l1 + q ≤ reach) (hd : Nat.blt d n = true)
    (h : ∀ b' cap tl, l1 + q ≤ cap + 1 → ((ys.drop o1).take (l1 * e.sz)).length = l1 * e.sz → l1 * e.sz + List.length tl = (cap + 1) * e.sz → JL P E ops rest ⟨n, (d, .c (sv b' 0 (l1 + q) (cap + 1))) :: env, .box b' ((ys.drop o1).take (l1 * e.sz) ++ tl) :: own, F, D⟩ Q) :
    JL P E ops (⟨some d, .call ⟨.builtin .append, #[s, x], #[t, tx]⟩, ty, pos, af, none⟩ :: rest) ⟨n, env, own, F, D⟩ Q := fun a w ⟨A, hA⟩ => by
  refine wpListIn_plain rfl fun K hK => ?_
  refine wpR (by intro c h; cases h) ?_
  unfold Oper.wp
  obtain ⟨ti, tz, hi, hsz, hby, hz, hzs, hz1⟩ := elemB_get hE
  have hA' := hA.draw
  obtain ⟨us, tt, g1, g2, g3⟩ := (hA'.hp.own _ (List.mem_of_getElem? ho) : (Own.box b ys).ok _ A)
  obtain ⟨cs, k1, k2, k3⟩ := cells_part (off := 0) g3 g1 hle
  rw [Nat.zero_add] at k2
  have hold : (Builtin.firstCells ti.size l1 (sv b o1 l1 c1)).run P w.drew = .ok cs.toArray w.drew := run_firstCells_some w.drew ti.size l1 ⟨b, o1, none⟩ l1 c1 cs (by rw [hsz]; exact k1) k2
  have hp := blt_lt h0
  unfold reach at hr63 hreach
  have hqb : q * ti.bytes ≤ (l1 + q) * e.bytes := by rw [hby]; exact Nat.mul_le_mul_right _ (by omega)
  have hr := Go.Lib.run_append_grow_zeros (P := P) w t tx ty et ti tz kq kn hU hN hi hz (some ⟨b, o1, none⟩) l1 c1 cs hold q hq (by omega) hg (by omega) (by omega) (growslice_fits hg (by rw [hby]; omega))
  have hge := grownCap_ge w (l1 + q) c1 et
  rw [run_builtin_append (hs.eq hA) rfl (by rw [hx.eq hA]; exact hr), Oper.upon_value, alloc_eq]
  obtain ⟨cap, hcap⟩ : ∃ cap, grownCap w (l1 + q) c1 et = cap + 1 := ⟨grownCap w (l1 + q) c1 et - 1, by omega⟩
  generalize hrow : (cs.toArray ++ Builtin.zeroCells tz.cells q ++ Builtin.zeroCells tz.cells (grownCap w (l1 + q) c1 et - (l1 + q)) : Array Value) = row at *
  have hz0 : ∀ u ∈ Builtin.zeroCells tz.cells q ++ Builtin.zeroCells tz.cells (grownCap w (l1 + q) c1 et - (l1 + q)), u.oneCell' = true := fun u hu => by
    rcases Array.mem_append.1 hu with hu | hu <;> exact zeroCells_one hz1 u hu
  let tl : List AV := (Builtin.zeroCells tz.cells q ++ Builtin.zeroCells tz.cells (grownCap w (l1 + q) c1 et - (l1 + q))).toList.map AV.c
  have hhl : ((ys.drop o1).take (l1 * e.sz)).length = l1 * e.sz := by rw [List.length_take, List.length_drop]; omega
  have htl : tl.length = (q + (cap + 1 - (l1 + q))) * e.sz := by simp [tl, size_zeroCells, hzs, hcap, Nat.add_mul]
  have hrl : row = cs.toArray ++ (Builtin.zeroCells tz.cells q ++ Builtin.zeroCells tz.cells (grownCap w (l1 + q) c1 et - (l1 + q))) := by rw [← hrow, Array.append_assoc]
  have hrc : Cells (World.drawnBy w) A row 0 ((ys.drop o1).take (l1 * e.sz) ++ tl) := fun r y hk => by
    rw [Nat.zero_add]
    by_cases hlt : r < ((ys.drop o1).take (l1 * e.sz)).length
    · rw [List.getElem?_append_left hlt] at hk
      obtain ⟨u, m1, m2, m3⟩ := k3 r y hk
      rw [Nat.zero_add] at m1
      refine ⟨u, ?_, m2, m3⟩
      rw [hrl, Array.getElem?_append_left (by simp; omega)]
      exact m1
    · rw [List.getElem?_append_right (by omega)] at hk
      simp only [tl, List.getElem?_map, Option.map_eq_some_iff] at hk
      obtain ⟨u, m1, rfl⟩ := hk
      rw [hhl] at m1
      refine ⟨u, ?_, hz0 u (by simpa using List.mem_of_getElem? m1), .c u⟩
      rw [hrl, Array.getElem?_append_right (by simp; omega)]
      simp only [List.size_toArray, k1]
      rw [← Array.getElem?_toList]
      exact m1
  have hrs : row.size = ((ys.drop o1).take (l1 * e.sz) ++ tl).length := by
    rw [hrl, List.length_append, hhl, Array.size_append]
    simp [tl, k1]
  have hN2 := h w.heap.size cap tl (by omega) hhl (by rw [htl, ← Nat.add_mul]; congr 1; omega)
  rw [hcap]
  refine hK _ _ (hN2 _ _ ⟨A, SatA.put ?_ (blt_lt hd) (.c _)⟩)
  exact hA'.step (.push _ _ _) (fun _ _ h => h) (hA'.hp.push_box (us := row) (t := et) hA'.keep.size hrs hrc)

/-- slices.overlaps: a slice that is read, and a part of an own block. -/
theorem run_apart {tS tR : TypeId} {va b off l cb lA cA oA : Nat} {csA us : Array Value} {tA tB : TypeId} {fz : Nat × Nat} (hU : P.underlying tS = some (.slice et)) (hT : tySz P et = some (g, m, B)) (ha : w.heap[va]? = some (.cells csA tA fz)) (hb : w.heap[b]? = some (.cells us tB (0, 0))) (hne : va ≠ b) (hkA : csA.size ≠ 0) (hkB : us.size ≠ 0) :
    (Extern.SlicesOverlaps.overlaps #[tS, tS] #[tR] #[sv va oA lA cA, sv b off l cb]).run P w = .ok (.bool false) w := by
  have hsa : w.shape? va = some (tA, csA.size) := by simp [World.shape?, ha]
  have hsb : w.shape? b = some (tB, us.size) := by simp [World.shape?, hb]
  have hfb : ∀ q, w.frozen? ⟨b, q, none⟩ = false := fun q => by simp [World.frozen?, hb]
  have hnb : (va != b) = true := by simpa using hne
  have hnb' : (va == b) = false := by simpa using hne
  obtain ⟨nA, hnA⟩ : ∃ nA, csA.size = nA + 1 := ⟨csA.size - 1, by omega⟩
  rw [hnA] at hsa
  obtain ⟨nB, hnB⟩ : ∃ nB, us.size = nB + 1 := ⟨us.size - 1, by omega⟩
  rw [hnB] at hsb
  change Sem.run P (α := Value) (do
    let some t := (#[tS, tS] : Array TypeId)[0]? | stuck "slices.overlaps: no parameter types"
    let .slice elem ← underlying t | stuck "slices.overlaps: slice type expected"
    let size ← sizeOf elem
    match (some ⟨va, oA, none⟩ : Option Addr), (some ⟨b, off, none⟩ : Option Addr) with
    | some a, some b =>
      if lA = 0 ∨ l = 0 ∨ size = 0 then pure (Value.bool false)
      else if a.block != b.block && (← frozen a) && (← frozen b) then unsupported .addressObserved
      else do
        if a.block != b.block then do
          noView a; noView b
          if ← mayBeOne a b then return Value.bool ((← choose (.extern "sameAddr.stringBytes" 2)) == 1)
        pure (Value.bool (a.block == b.block && a.off < b.off + l * size && b.off < a.off + lA * size))
    | _, _ => pure (Value.bool false)) w = _
  by_cases h0 : lA = 0 ∨ l = 0 ∨ m = 0
  · simp [run_underlying _ hU, run_sizeOf hT, h0]
  · cases hf1 : w.frozen? ⟨va, oA, none⟩ <;> cases hf2 : w.frozen? ⟨va, nA + 1, none⟩ <;>
      simp [run_underlying _ hU, run_sizeOf hT, h0, hnb, hnb', frozen, noView, viewAt, mayBeOne, stringish, shape, Sem.run, hsa, hsb, hf1, hf2, hfb]
theorem QW.apart (i : Nat) {f : FuncId} {tS tR : TypeId} {tys : Array TypeId} {b off l cb : Nat} {ys : List AV} {fr clip : Bool} {e : ETy} {xs : List (List AV)} (hU : P.underlying tS = some (.slice et)) (hT : tySz P et = some (g, m, B))
    (hf : ∀ u v w, (callFunc f #[u, v]).run P w = ((Extern.SlicesOverlaps.overlaps #[tS, tS] #[tR] #[u, v]).run P w).andThen fun v w' => .ok (.value v) w')
    (hx : Ev E ⟨n, env, own, F, D⟩ x (.sl fr clip e xs)) (hy : Ev E ⟨n, env, own, F, D⟩ y (.c (sv b off l cb))) (ho : own[i]? = some (.box b ys)) (hn : xs.flatten ≠ []) (hn2 : ys ≠ []) :
    QW P E ⟨n, env, own, F, D⟩ ⟨dd, .call ⟨.value (.func f), #[x, y], tys⟩, ty, pos, af, gd⟩ (.c (.bool false)) := .pure fun A a w hs => by
  refine ⟨.bool false, ?_, .c _⟩
  obtain ⟨ad, cap, hv, _, _, hc⟩ := (hx A a w hs).of_sl
  obtain ⟨us, tt, h1, h2, h3⟩ := (hs.hp.own _ (List.mem_of_getElem? ho) : (Own.box b ys).ok w A)
  rcases hc with rfl | ⟨va, oA, csA, tA, fz, rfl, hAb, hb, hxl, _, hc⟩
  · exact absurd rfl hn
  have hne : va ≠ b := fun he => by
    subst he
    exact (hs.hp.fp va (fps_mem (List.mem_of_getElem? ho) (by simp [Own.fp]))).2.2 fr hAb
  have hkA : csA.size ≠ 0 := fun h0 => by
    obtain ⟨y0, hy0⟩ : ∃ y0, xs.flatten[0]? = some y0 := by
      cases hxf : xs.flatten with
      | nil => exact absurd hxf hn
      | cons a0 r => exact ⟨a0, rfl⟩
    obtain ⟨u, m1, _⟩ := hc 0 y0 hy0
    have := (Array.getElem?_eq_some_iff.1 m1).1
    omega
  have hkB : us.size ≠ 0 := by rw [h2]; exact fun h0 => hn2 (List.length_eq_zero_iff.1 h0)
  have hr := run_apart (P := P) (tR := tR) (oA := oA) (lA := xs.length) (cA := cap) (off := off) (l := l) (cb := cb) hU hT hb h1 hne hkA hkB
  have := hf (sv va oA xs.length cap) (sv b off l cb) w
  rw [hr] at this
  simp only [execOp, resolve, Act.eval, Deferred.ofValue, Sem.run_bind, Sem.run_pure, Result.andThen_ok, invoke]
  simpa [hv, hy.eq hs, Result.andThen] using this

/-- A part of an own array that is not used further. -/
theorem JL.cutAny (i : Nat) {v : Value} {e : ETy} {xs : List (List AV)} {l : Nat} {j : Int} (hU : P.underlying t = some (.slice et)) (hT : tySz P et = some (g, m, B)) (hx : Ev E ⟨n, env, own, F, D⟩ x (.c v)) (ho : own[i]? = some (.arr v e xs)) (hlo : Ev E ⟨n, env, own, F, D⟩ lo (.c (.int k j))) (hj : j = (l : Int)) (hl : l ≤ xs.length) (hd : Nat.blt d n = true)
    (h : ∀ u, JL P E ops rest ⟨n, (d, .c u) :: env, own, F, D⟩ Q) : JL P E ops (⟨some d, .slice t x (some lo) none none, ty, pos, af, none⟩ :: rest) ⟨n, env, own, F, D⟩ Q := fun a w ⟨A, hA⟩ => by
  refine wpListIn_plain rfl fun K hK => ?_
  refine wpR (by intro c h; cases h) ?_
  unfold Oper.wp
  have hv : ∃ ad cap, v = .slice ad xs.length cap ∧ xs.length ≤ cap := by
    rcases hA.arr i ho with ⟨a0, hv, hx0⟩ | ⟨b, cap, us, t', hv, _, hle, _⟩
    · subst hx0; exact ⟨a0, 0, hv, Nat.le_refl _⟩
    · exact ⟨_, _, hv, hle⟩
  obtain ⟨ad, cap, rfl, hle⟩ := hv
  have := run_slice (P := P) (w := w) (ad := ad) (k := k) (k' := .i64) hU hT (some l) none (len := xs.length) (cap := cap) (by simpa using hl) (by simpa using hle)
  simp only [bnd, Option.getD_some, Option.getD_none] at this
  have he : (execOp a.eval ⟨some d, .slice t x (some lo) none none, ty, pos, af, none⟩).run P w = .ok (.value (.slice (if cap = l then ad else ad.map (·.add (l * m))) (xs.length - l) (cap - l))) w := by
    simp only [execOp, hx.eq hA, Option.map_some, Option.map_none, EvBnd hlo hj hA, Sem.run_bind, this, Result.andThen_ok, Sem.run_pure]
  rw [he, Oper.upon_value]
  exact hK _ _ (h _ _ _ ⟨A, hA.put (blt_lt hd) (.c _)⟩)
theorem JL.cutAny3 (i : Nat) {v : Value} {e : ETy} {xs : List (List AV)} {l q mm : Nat} {j j' j'' : Int} (hU : P.underlying t = some (.slice et)) (hT : tySz P et = some (g, m, B)) (hx : Ev E ⟨n, env, own, F, D⟩ x (.c v)) (ho : own[i]? = some (.arr v e xs)) (hlo : Ev E ⟨n, env, own, F, D⟩ lo (.c (.int k j))) (hhi : Ev E ⟨n, env, own, F, D⟩ hi (.c (.int k' j'))) (hmx : Ev E ⟨n, env, own, F, D⟩ mx (.c (.int k'' j''))) (hj : j = (l : Int)) (hj' : j' = (q : Int)) (hj'' : j'' = (mm : Int)) (hl : l ≤ q) (hq : q ≤ mm) (hm : mm ≤ xs.length) (hd : Nat.blt d n = true)
    (h : ∀ u, JL P E ops rest ⟨n, (d, .c u) :: env, own, F, D⟩ Q) : JL P E ops (⟨some d, .slice t x (some lo) (some hi) (some mx), ty, pos, af, none⟩ :: rest) ⟨n, env, own, F, D⟩ Q := fun a w ⟨A, hA⟩ => by
  refine wpListIn_plain rfl fun K hK => ?_
  refine wpR (by intro c h; cases h) ?_
  unfold Oper.wp
  have hv : ∃ ad cap, v = .slice ad xs.length cap ∧ xs.length ≤ cap := by
    rcases hA.arr i ho with ⟨a0, hv, hx0⟩ | ⟨b, cap, us, t', hv, _, hle, _⟩
    · subst hx0; exact ⟨a0, 0, hv, Nat.le_refl _⟩
    · exact ⟨_, _, hv, hle⟩
  obtain ⟨ad, cap, rfl, hle⟩ := hv
  have := run_slice3 (P := P) (w := w) (ad := ad) (k := k) (k' := k') (k'' := k'') hU hT (some l) q mm (len := xs.length) (cap := cap) (by simpa using hl) hq (by omega)
  simp only [bnd, Option.getD_some, Option.getD_none] at this
  have he : (execOp a.eval ⟨some d, .slice t x (some lo) (some hi) (some mx), ty, pos, af, none⟩).run P w = .ok (.value (.slice (if mm = l then ad else ad.map (·.add (l * m))) (q - l) (mm - l))) w := by
    simp only [execOp, hx.eq hA, Option.map_some, Option.map_none, EvBnd hlo hj hA, EvBnd hhi hj' hA, EvBnd hmx hj'' hA, Sem.run_bind, this, Result.andThen_ok, Sem.run_pure]
  rw [he, Oper.upon_value]
  exact hK _ _ (h _ _ _ ⟨A, hA.put (blt_lt hd) (.c _)⟩)
end

/-! ### plain: an element laid in, or taken out -/
theorem splice_take {α : Type} {base X ys : List α} {a m : Nat} (h : a ≤ X.length) (hm : ys.length = m) (L : List α) (hL : X.length + m ≤ L.length)
    (hg : ∀ k, k < X.length + m → L[k]? = if k < a then X[k]? else if k < a + m then ys[k - a]? else X[k - m]?) : L.take (X.length + m) = X.take a ++ ys ++ X.drop a := by
  apply List.ext_getElem?
  intro k
  rw [List.getElem?_take]
  by_cases hk : k < X.length + m
  · rw [if_pos hk, hg k hk]
    by_cases h1 : k < a
    · rw [if_pos h1, List.append_assoc, List.getElem?_append_left (by simp; omega), List.getElem?_take, if_pos h1]
    · rw [if_neg h1]
      by_cases h2 : k < a + m
      · rw [if_pos h2, List.getElem?_append_left (by simp; omega), List.getElem?_append_right (by simp; omega), List.length_take, Nat.min_eq_left h]
      · rw [if_neg h2, List.getElem?_append_right (by simp; omega), List.getElem?_drop]
        congr 1
        simp
        omega
  · rw [if_neg hk, List.getElem?_eq_none]
    simp; omega
/-- What stood from a on is moved by m; then ys is laid there. -/
theorem ins_shift {α : Type} {X sp ys : List α} {a m : Nat} (h : a ≤ X.length) (hm : ys.length = m) (hl : X.length + m ≤ (X ++ sp).length) :
    (splice (splice (X ++ sp) (a + m) (((X ++ sp).drop a).take (X.length - a))) a ys).take (X.length + m) = X.take a ++ ys ++ X.drop a := by
  have hl1 : (((X ++ sp).drop a).take (X.length - a)).length = X.length - a := by simp; omega
  have hf1 : a + m + (((X ++ sp).drop a).take (X.length - a)).length ≤ (X ++ sp).length := by rw [hl1]; omega
  have hf2 : a + ys.length ≤ (splice (X ++ sp) (a + m) (((X ++ sp).drop a).take (X.length - a))).length := by rw [splice_length hf1]; omega
  refine splice_take (base := X) h hm _ (by rw [splice_length hf2, splice_length hf1]; omega) fun k hk => ?_
  rw [splice_get hf2, splice_get hf1, hl1, hm]
  by_cases h1 : k < a
  · rw [if_neg (by omega), if_neg (by omega), if_pos h1, List.getElem?_append_left (by omega)]
  · rw [if_neg h1]
    by_cases h2 : k < a + m
    · rw [if_pos ⟨by omega, h2⟩, if_pos h2]
    · rw [if_neg (by omega), if_neg h2, if_pos ⟨by omega, by omega⟩, List.getElem?_take, if_pos (by omega), List.getElem?_drop, List.getElem?_append_left (by omega)]
      congr 1; omega
/-- The same in a new block. -/
theorem ins_grow {α : Type} {X sp tl ys : List α} {a m : Nat} (h : a ≤ X.length) (hm : ys.length = m) (hl : X.length + m ≤ a + tl.length) :
    (splice (splice (((X ++ sp).drop 0).take a ++ tl) a ys) (a + m) (((X ++ sp).drop a).take (X.length - a))).take (X.length + m) = X.take a ++ ys ++ X.drop a := by
  have hh : (((X ++ sp).drop 0).take a).length = a := by simp; omega
  have hl1 : (((X ++ sp).drop a).take (X.length - a)).length = X.length - a := by simp; omega
  have hbl : (((X ++ sp).drop 0).take a ++ tl).length = a + tl.length := by rw [List.length_append, hh]
  have hf1 : a + ys.length ≤ (((X ++ sp).drop 0).take a ++ tl).length := by rw [hbl]; omega
  have hf2 : a + m + (((X ++ sp).drop a).take (X.length - a)).length ≤ (splice (((X ++ sp).drop 0).take a ++ tl) a ys).length := by rw [splice_length hf1, hl1, hbl]; omega
  refine splice_take (base := X) h hm _ (by rw [splice_length hf2, splice_length hf1, hbl]; omega) fun k hk => ?_
  rw [splice_get hf2, splice_get hf1, hl1, hm]
  by_cases h1 : k < a
  · rw [if_neg (by omega), if_neg (by omega), if_pos h1, List.getElem?_append_left (by omega), List.getElem?_take, if_pos h1, List.drop_zero, List.getElem?_append_left (by omega)]
  · rw [if_neg h1]
    by_cases h2 : k < a + m
    · rw [if_neg (by omega), if_pos ⟨by omega, h2⟩, if_pos h2]
    · rw [if_neg h2, if_pos ⟨by omega, by omega⟩, List.getElem?_take, if_pos (by omega), List.getElem?_drop, List.getElem?_append_left (by omega)]
      congr 1; omega
/-- Those from a + m on are moved down to a. -/
theorem del_shift {α : Type} {X sp zs : List α} {a m : Nat} (h : a + m ≤ X.length) (hz : zs.length = m) :
    (splice (splice (X ++ sp) a (((X ++ sp).drop (a + m)).take (X.length - (a + m)))) (X.length - m) zs).take (X.length - m) = X.take a ++ X.drop (a + m) := by
  have hl1 : (((X ++ sp).drop (a + m)).take (X.length - (a + m))).length = X.length - (a + m) := by simp; omega
  have hf1 : a + (((X ++ sp).drop (a + m)).take (X.length - (a + m))).length ≤ (X ++ sp).length := by rw [hl1]; simp; omega
  have hf2 : X.length - m + zs.length ≤ (splice (X ++ sp) a (((X ++ sp).drop (a + m)).take (X.length - (a + m)))).length := by rw [splice_length hf1, hz]; simp; omega
  apply List.ext_getElem?
  intro k
  rw [List.getElem?_take]
  by_cases hk : k < X.length - m
  · rw [if_pos hk, splice_get hf2, if_neg (by omega), splice_get hf1, hl1]
    by_cases h1 : k < a
    · rw [if_neg (by omega), List.getElem?_append_left (by omega), List.getElem?_append_left (by simp; omega), List.getElem?_take, if_pos h1]
    · rw [if_pos ⟨by omega, by omega⟩, List.getElem?_take, if_pos (by omega), List.getElem?_drop, List.getElem?_append_left (by omega), List.getElem?_append_right (by simp; omega), List.getElem?_drop]
      congr 1
      simp
      omega
  · rw [if_neg hk, List.getElem?_eq_none]
    simp; omega
theorem ins_flat {α : Type} {sz : Nat} {xs : List (List α)} {ys : List α} {i : Nat} (hs : ∀ x ∈ xs, x.length = sz) : (xs.take i ++ [ys] ++ xs.drop i).flatten = xs.flatten.take (i * sz) ++ ys ++ xs.flatten.drop (i * sz) := by
  rw [List.flatten_append, List.flatten_append, flatten_take xs hs, flatten_drop xs hs]
  simp
theorem ins_flen {α : Type} {sz : Nat} {xs : List (List α)} {ys : List α} {i : Nat} (hs : ∀ x ∈ xs, x.length = sz) (hy : ys.length = sz) : (xs.take i ++ [ys] ++ xs.drop i).flatten.length = xs.flatten.length + sz := by
  rw [ins_flat hs, List.length_append, List.length_append, List.length_take, List.length_drop, hy]
  omega
theorem ins_len {α : Type} {xs : List (List α)} {ys : List α} {i : Nat} (hi : i ≤ xs.length) : (xs.take i ++ [ys] ++ xs.drop i).length = xs.length + 1 := by simp; omega
theorem ins_sz {α : Type} {sz : Nat} {xs : List (List α)} {ys : List α} {i : Nat} (hs : ∀ x ∈ xs, x.length = sz) (hy : ys.length = sz) : ∀ x ∈ xs.take i ++ [ys] ++ xs.drop i, x.length = sz := by
  intro x hx
  simp only [List.mem_append, List.mem_singleton] at hx
  rcases hx with (hx | rfl) | hx
  · exact hs x (List.mem_of_mem_take hx)
  · exact hy
  · exact hs x (List.mem_of_mem_drop hx)
theorem del_flat {α : Type} {sz : Nat} {xs : List (List α)} {i : Nat} (hs : ∀ x ∈ xs, x.length = sz) : (xs.take i ++ xs.drop (i + 1)).flatten = xs.flatten.take (i * sz) ++ xs.flatten.drop (i * sz + sz) := by
  rw [List.flatten_append, flatten_take xs hs, flatten_drop xs hs, Nat.succ_mul]
end Go.Proofs.Ytkiankpmkglhcaa.J

/- Walks: effects and items: may one be, lists of them, copies; the box in memory of its own. -/
namespace Go.Proofs.Ytkiankpmkglhcaa.J
open Go Go.RowKit
set_option linter.unusedVariables false
set_option linter.unusedSimpArgs false
set_option maxRecDepth 10000
set_option maxHeartbeats 4000000

theorem effect_ok {fr : Bool} {e : EvT} {ys : List AV} (he : Ec fr e ys) (hw : e.wf) : Fn Try.prog 96 [.agg ys] (.c (.int .i64 (evErr e))) := by
  obtain ⟨nm, v⟩ := e
  obtain ⟨-, hv⟩ := hw
  subst he
  refine AC.of_J Try.func96 rfl Try.ntmps96 rfl fun w0 A0 => ?_
  refine J.seq ?_
  refine J.region_lit ?_
  refine JL.box_agg (.tmp rfl) rfl fun b1 => ?_
  refine JL.q rfl rfl rfl (QW.assign .const) ?_
  refine JL.nil ?_
  refine thenQ.n ?_
  refine J.seq ?_
  refine J.seq ?_
  refine J.region_lit ?_
  refine JL.q rfl rfl rfl (QW.field_ptr fo114_0 (.tmp rfl) rfl) ?_
  refine JL.q rfl rfl rfl (QW.load_box1 0 ty9 (.tmp rfl) rfl rfl) ?_
  refine JL.q rfl rfl rfl (QW.call gofn122 (.cons (.tmp rfl) .nil) (name_ok _)) ?_
  refine JL.q rfl rfl rfl (QW.not (.tmp rfl)) ?_
  refine JL.nil ?_
  refine thenQ.n ?_
  refine J.cond (.tmp rfl) (fun c1 => ?_) (fun c1 => ?_)
  · skip
    simp at c1
    refine J.seq ?_
    refine J.region_lit ?_
    refine JL.q rfl rfl rfl (QW.assign .const) ?_
    refine JL.nil ?_
    refine thenQ.n ?_
    refine J.ret ?_
    refine thenQ.r ?_
    exact ⟨_, selP [.k] _, _, RetEv.one rfl (REv.tmp rfl (.refl _)), rfl, sel_perm [.k] _, ⟨by simp [evErr, c1], rfl⟩⟩
  · skip
    simp at c1
    refine J.skip ?_
    refine thenQ.n ?_
    refine J.seq ?_
    refine J.region_lit ?_
    refine JL.q rfl rfl rfl (QW.field_ptr fo114_1 (.tmp rfl) rfl) ?_
    refine JL.q rfl rfl rfl (by first | exact QW.load_box 0 ty26 (.tmp rfl) rfl rfl rfl | exact QW.load_box 0 ty26 (.tmp rfl) rfl (take_at (V.cs_length _ _) rfl) (V.cs_length _ _)) ?_
    refine JL.q rfl rfl rfl (QW.call gofn24 (.cons (.tmp rfl) .nil) (check_ok Vc.self hv)) ?_
    refine JL.q rfl rfl rfl (QW.assign (.tmp rfl)) ?_
    refine JL.nil ?_
    refine thenQ.n ?_
    refine J.ret ?_
    exact ⟨_, selP [.k] _, _, RetEv.one rfl (REv.tmp rfl (.refl _)), rfl, sel_perm [.k] _, ⟨by simp [evErr, c1], rfl⟩⟩

theorem sameEffects_ok {fr fr2 c c2 : Bool} {a b : List EvT} (ha : EvT.wfs a) (hb : EvT.wfs b) : Fn Try.prog 65 [.sl fr c eEv (EvT.css fr a), .sl fr2 c2 eEv (EvT.css fr2 b)] (.c (.bool (decide (a = b)))) := by
  have hal := ha.len
  have hbl := hb.len
  refine AC.of_J Try.func65 rfl Try.ntmps65 rfl fun w0 A0 => ?_
  refine J.seq ?_
  refine J.region_lit ?_
  refine JL.q rfl rfl rfl (QW.assign .const) ?_
  refine JL.nil ?_
  refine thenQ.n ?_
  refine J.seq ?_
  refine J.seq ?_
  refine J.region_lit ?_
  refine JL.q rfl rfl rfl (QW.move (.tmp rfl)) ?_
  refine JL.q rfl rfl rfl (by first | exact QW.len_sl sl91 (.tmp rfl) | exact QW.len_nil sl91 (.tmp rfl)) ?_
  refine JL.q rfl rfl rfl (QW.move (.tmp rfl)) ?_
  refine JL.q rfl rfl rfl (by first | exact QW.len_sl sl91 (.tmp rfl) | exact QW.len_nil sl91 (.tmp rfl)) ?_
  refine JL.q rfl rfl rfl (QW.neq (.tmp rfl) (.tmp rfl)) ?_
  refine JL.nil ?_
  refine thenQ.n ?_
  refine J.cond (.tmp rfl) (fun c1 => ?_) (fun c1 => ?_)
  · skip
    simp [EvT.css_length] at c1
    refine J.seq ?_
    refine J.region_lit ?_
    refine JL.q rfl rfl rfl (QW.assign .const) ?_
    refine JL.nil ?_
    refine thenQ.n ?_
    refine J.ret ?_
    refine thenQ.r ?_
    exact ⟨_, selP [] _, _, RetEv.one rfl (REv.tmp rfl (.refl _)), rfl, sel_perm [] _, ⟨ret_b (by simp; intro e; subst e; exact c1 rfl), rfl⟩⟩
  · skip
    have hl : a.length = b.length := by simp [EvT.css_length] at c1; omega
    refine J.skip ?_
    refine thenQ.n ?_
    refine J.seq ?_
    refine J.seq ?_
    refine J.region_lit ?_
    refine JL.q rfl rfl rfl (QW.assign .const) ?_
    refine JL.nil ?_
    refine thenQ.n ?_
    refine J.block ?_
    refine J.loopK (ι := Nat) [0, 1] (fun k => [(5, .c (.int .i64 (k : Int)))]) (fun _ oo => oo) (fun k => k ≤ a.length ∧ a.take k = b.take k) (fun k => a.length - k) 0 (⟨Nat.zero_le _, rfl⟩) (Wk.re (.cons rfl (.refl _) (.cons rfl (.refl _) (.cons rfl (.refl _) .nil))) (Reown.refl _) (fun _ h => by first | exact h | simp [h])) ?_
    intro k ⟨hk, heqs⟩
    refine J.conv (by (try simp only [stepsO, List.map_cons, List.map_nil, valO, nthO, curO, mrg, List.reverse_cons, List.reverse_nil, List.nil_append, List.cons_append, List.append_nil, List.getElem?_cons_zero, List.getElem?_cons_succ, Option.map_some, Option.getD_some, List.set_cons_zero, List.set_cons_succ, AV.cellsOf, splice_zero, splice_succ, Nat.zero_add, Nat.reduceAdd]); rfl) ?_
    refine J.seq ?_
    refine J.seq ?_
    refine J.region_lit ?_
    refine JL.q rfl rfl rfl (QW.move (.tmp rfl)) ?_
    refine JL.q rfl rfl rfl (QW.move (.tmp rfl)) ?_
    refine JL.q rfl rfl rfl (by first | exact QW.len_sl sl91 (.tmp rfl) | exact QW.len_nil sl91 (.tmp rfl)) ?_
    refine JL.q rfl rfl rfl (QW.lss (.tmp rfl) (.tmp rfl)) ?_
    refine JL.nil ?_
    refine thenQ.n ?_
    refine J.cond (.tmp rfl) (fun c2 => ?_) (fun c2 => ?_)
    · skip
      have hlt : k < a.length := by simpa [EvT.css_length] using c2
      have hlt2 : k < b.length := by omega
      refine J.skip ?_
      refine thenQ.n ?_
      refine J.seq ?_
      refine J.block ?_
      refine J.seq ?_
      refine J.region_tailK 22 mixed (by kernel_rfl) (by kernel_rfl) (by kernel_rfl) rfl ?_
      refine .cons [] rfl rfl rfl (.q rfl (QW.move (.tmp rfl))) ?_
      refine .cons [] rfl rfl rfl (.q rfl (QW.move (.tmp rfl))) ?_
      refine .cons [17, 18] rfl rfl rfl (.q rfl (QW.index_sl sl91 ty114 rfl (.tmp rfl) (.tmp rfl) (by first | rfl | omega | (simp; done)) (by first | exact EvT.css_getE _ hlt | exact EvT.css_getE _ hlt2))) ?_
      refine .cons [19] rfl rfl rfl (.q rfl (QW.field_ref fo114_0 (.tmp rfl) rfl)) ?_
      refine .cons [20] rfl rfl rfl (.q rfl (QW.load_ref1 ty9 (.tmp rfl) rfl)) ?_
      refine .cons [] rfl rfl rfl (.q rfl (QW.move (.tmp rfl))) ?_
      refine .cons [] rfl rfl rfl (.q rfl (QW.move (.tmp rfl))) ?_
      refine .cons [22, 23] rfl rfl rfl (.q rfl (QW.index_sl sl91 ty114 rfl (.tmp rfl) (.tmp rfl) (by first | rfl | omega | (simp; done)) (by first | exact EvT.css_getE _ hlt | exact EvT.css_getE _ hlt2))) ?_
      refine .cons [24] rfl rfl rfl (.q rfl (QW.field_ref fo114_0 (.tmp rfl) rfl)) ?_
      refine .cons [25] rfl rfl rfl (.q rfl (QW.load_ref1 ty9 (.tmp rfl) rfl)) ?_
      refine .cons [21, 26] rfl rfl rfl (.q rfl (QW.neq_s (.tmp rfl) (.tmp rfl))) ?_
      refine .cons [27] rfl rfl rfl (.q rfl (QW.move (.tmp rfl))) ?_
      refine .cons [28] rfl rfl rfl (.g rfl rfl rfl (fun hg => (QW.move (.tmp rfl)))) ?_
      refine .cons [28] rfl rfl rfl (.g rfl rfl rfl (fun hg => (QW.move (.tmp rfl)))) ?_
      refine .cons [29, 30, 28] rfl rfl rfl (.g rfl rfl rfl (fun hg => (QW.index_sl sl91 ty114 rfl (.when rfl hg) (.when rfl hg) (by first | rfl | omega | (simp; done)) (by first | exact EvT.css_getE _ hlt | exact EvT.css_getE _ hlt2)))) ?_
      refine .cons [31, 28] rfl rfl rfl (.g rfl rfl rfl (fun hg => (QW.field_ref fo114_1 (.when rfl hg) rfl))) ?_
      refine .cons [32, 28] rfl rfl rfl (.g rfl rfl rfl (fun hg => (by first | exact QW.load_ref ty26 (.when rfl hg) rfl rfl | exact QW.load_ref ty26 (.when rfl hg) (take_at0 (V.cs_length _ _) rfl) (V.cs_length _ _)))) ?_
      refine .cons [28] rfl rfl rfl (.g rfl rfl rfl (fun hg => (QW.move (.tmp rfl)))) ?_
      refine .cons [28] rfl rfl rfl (.g rfl rfl rfl (fun hg => (QW.move (.tmp rfl)))) ?_
      refine .cons [34, 35, 28] rfl rfl rfl (.g rfl rfl rfl (fun hg => (QW.index_sl sl91 ty114 rfl (.when rfl hg) (.when rfl hg) (by first | rfl | omega | (simp; done)) (by first | exact EvT.css_getE _ hlt | exact EvT.css_getE _ hlt2)))) ?_
      refine .cons [36, 28] rfl rfl rfl (.g rfl rfl rfl (fun hg => (QW.field_ref fo114_1 (.when rfl hg) rfl))) ?_
      refine .cons [37, 28] rfl rfl rfl (.g rfl rfl rfl (fun hg => (by first | exact QW.load_ref ty26 (.when rfl hg) rfl rfl | exact QW.load_ref ty26 (.when rfl hg) (take_at0 (V.cs_length _ _) rfl) (V.cs_length _ _)))) ?_
      refine .nil ?_
      refine JL.g rfl rfl rfl rfl rfl (fun hg => (QW.call gofn26 (.cons (.when rfl hg) (.cons (.when rfl hg) .nil)) (sameValue_ok Vc.self Vc.self (ha.2 _ (List.getElem_mem _)).arg (hb.2 _ (List.getElem_mem _)).arg))) ?_
      refine JL.g rfl rfl rfl rfl rfl (fun hg => (QW.not (.when rfl hg))) ?_
      refine JL.q rfl rfl rfl (QW.pick_or (.tmp rfl) (.tmp rfl)) ?_
      refine JL.nil ?_
      refine thenQ.n ?_
      refine J.cond (.tmp rfl) (fun c3 => ?_) (fun c3 => ?_)
      · skip
        have hne : a[k] ≠ b[k] := by
          intro e; rw [e] at c3; simp [V.same_refl] at c3
        refine J.seq ?_
        refine J.region_lit ?_
        refine JL.q rfl rfl rfl (QW.assign .const) ?_
        refine JL.nil ?_
        refine thenQ.n ?_
        refine J.ret ?_
        refine blkQ.r ?_
        refine thenQ.r ?_
        refine thenQ.r ?_
        refine blkQ.r ?_
        refine thenQ.r ?_
        exact ⟨_, selP [] _, _, RetEv.one rfl (REv.tmp rfl (.refl _)), rfl, sel_perm [] _, ⟨ret_b (by simp; intro e; subst e; exact hne rfl), rfl⟩⟩
      · skip
        have heq : a[k] = b[k] := by
          simp [V.same_iff] at c3
          cases hx : a[k]; cases hy : b[k]; rw [hx, hy] at c3; simpa using c3
        refine J.skip ?_
        refine blkQ.n ?_
        refine thenQ.n ?_
        refine J.region_lit ?_
        refine JL.q rfl rfl rfl (QW.move (.tmp rfl)) ?_
        refine JL.q rfl rfl rfl (QW.add (.tmp rfl) .const (by first | exact w64n (by first | rfl | omega | (simp; done)) (by omega) | exact w64 (by omega) | rfl)) ?_
        refine JL.q rfl rfl rfl (QW.assign (.tmp rfl)) ?_
        refine JL.nil ?_
        refine thenQ.n ?_
        exact ⟨k + 1, ⟨hlt, (list_split hl heqs hlt).2 heq⟩, by omega, Wk.re (.cons rfl (.refl _) (.cons rfl (.refl _) (.cons rfl (.refl _) .nil))) (Reown.refl _) (fun _ h => by first | exact h | simp [h])⟩
    · skip
      have hge : a.length ≤ k := by simpa [EvT.css_length] using c2
      refine J.exit ?_
      refine thenQ.x ?_
      refine thenQ.x ?_
      refine blkQ.hit ?_
      refine thenQ.n ?_
      refine J.seq ?_
      refine J.region_lit ?_
      refine JL.q rfl rfl rfl (QW.assign .const) ?_
      refine JL.nil ?_
      refine thenQ.n ?_
      refine J.ret ?_
      exact ⟨_, selP [] _, _, RetEv.one rfl (REv.tmp rfl (.refl _)), rfl, sel_perm [] _, ⟨ret_b (by simp; rw [List.take_of_length_le hge, List.take_of_length_le (by omega)] at heqs; exact heqs), rfl⟩⟩

theorem ItT.eqs {a b : ItT} (h1 : a.id = b.id) (h2 : a.ev = b.ev) : a = b := by cases a; cases b; simp only at h1 h2; rw [h1, h2]
theorem EvT.eqs {a b : EvT} (h1 : a.name = b.name) (h2 : a.arg = b.arg) : a = b := by cases a; cases b; simp only at h1 h2; rw [h1, h2]

theorem sameItems_ok {fr fr2 c c2 : Bool} {a b : List ItT} (ha : ItT.wfs a) (hb : ItT.wfs b) : Fn Try.prog 62 [.sl fr c eIt (ItT.css fr a), .sl fr2 c2 eIt (ItT.css fr2 b)] (.c (.bool (decide (a = b)))) := by
  have hal := ha.len
  have hbl := hb.len
  refine AC.of_J Try.func62 rfl Try.ntmps62 rfl fun w0 A0 => ?_
  refine J.seq ?_
  refine J.region_lit ?_
  refine JL.q rfl rfl rfl (QW.assign .const) ?_
  refine JL.nil ?_
  refine thenQ.n ?_
  refine J.seq ?_
  refine J.seq ?_
  refine J.region_lit ?_
  refine JL.q rfl rfl rfl (QW.move (.tmp rfl)) ?_
  refine JL.q rfl rfl rfl (by first | exact QW.len_sl sl88 (.tmp rfl) | exact QW.len_nil sl88 (.tmp rfl)) ?_
  refine JL.q rfl rfl rfl (QW.move (.tmp rfl)) ?_
  refine JL.q rfl rfl rfl (by first | exact QW.len_sl sl88 (.tmp rfl) | exact QW.len_nil sl88 (.tmp rfl)) ?_
  refine JL.q rfl rfl rfl (QW.neq (.tmp rfl) (.tmp rfl)) ?_
  refine JL.nil ?_
  refine thenQ.n ?_
  refine J.cond (.tmp rfl) (fun c1 => ?_) (fun c1 => ?_)
  · skip
    simp [ItT.css_length] at c1
    refine J.seq ?_
    refine J.region_lit ?_
    refine JL.q rfl rfl rfl (QW.assign .const) ?_
    refine JL.nil ?_
    refine thenQ.n ?_
    refine J.ret ?_
    refine thenQ.r ?_
    exact ⟨_, selP [] _, _, RetEv.one rfl (REv.tmp rfl (.refl _)), rfl, sel_perm [] _, ⟨ret_b (by simp; intro e; subst e; exact c1 rfl), rfl⟩⟩
  · skip
    have hl : a.length = b.length := by simp [ItT.css_length] at c1; omega
    refine J.skip ?_
    refine thenQ.n ?_
    refine J.seq ?_
    refine J.seq ?_
    refine J.region_lit ?_
    refine JL.q rfl rfl rfl (QW.assign .const) ?_
    refine JL.nil ?_
    refine thenQ.n ?_
    refine J.block ?_
    refine J.loopK (ι := Nat) [0, 1] (fun k => [(5, .c (.int .i64 (k : Int)))]) (fun _ oo => oo) (fun k => k ≤ a.length ∧ a.take k = b.take k) (fun k => a.length - k) 0 (⟨Nat.zero_le _, rfl⟩) (Wk.re (.cons rfl (.refl _) (.cons rfl (.refl _) (.cons rfl (.refl _) .nil))) (Reown.refl _) (fun _ h => by first | exact h | simp [h])) ?_
    intro k ⟨hk, heqs⟩
    refine J.conv (by (try simp only [stepsO, List.map_cons, List.map_nil, valO, nthO, curO, mrg, List.reverse_cons, List.reverse_nil, List.nil_append, List.cons_append, List.append_nil, List.getElem?_cons_zero, List.getElem?_cons_succ, Option.map_some, Option.getD_some, List.set_cons_zero, List.set_cons_succ, AV.cellsOf, splice_zero, splice_succ, Nat.zero_add, Nat.reduceAdd]); rfl) ?_
    refine J.seq ?_
    refine J.seq ?_
    refine J.region_lit ?_
    refine JL.q rfl rfl rfl (QW.move (.tmp rfl)) ?_
    refine JL.q rfl rfl rfl (QW.move (.tmp rfl)) ?_
    refine JL.q rfl rfl rfl (by first | exact QW.len_sl sl88 (.tmp rfl) | exact QW.len_nil sl88 (.tmp rfl)) ?_
    refine JL.q rfl rfl rfl (QW.lss (.tmp rfl) (.tmp rfl)) ?_
    refine JL.nil ?_
    refine thenQ.n ?_
    refine J.cond (.tmp rfl) (fun c2 => ?_) (fun c2 => ?_)
    · skip
      have hlt : k < a.length := by simpa [ItT.css_length] using c2
      have hlt2 : k < b.length := by omega
      refine J.skip ?_
      refine thenQ.n ?_
      refine J.seq ?_
      refine J.block ?_
      refine J.seq ?_
      refine J.region_tailK 39 mixed (by kernel_rfl) (by kernel_rfl) (by kernel_rfl) rfl ?_
      refine .cons [] rfl rfl rfl (.q rfl (QW.move (.tmp rfl))) ?_
      refine .cons [] rfl rfl rfl (.q rfl (QW.move (.tmp rfl))) ?_
      refine .cons [17, 18] rfl rfl rfl (.q rfl (QW.index_sl sl88 ty116 rfl (.tmp rfl) (.tmp rfl) (by first | rfl | omega | (simp; done)) (by first | exact ItT.css_getE _ hlt | exact ItT.css_getE _ hlt2))) ?_
      refine .cons [19] rfl rfl rfl (.q rfl (QW.field_ref fo116_0 (.tmp rfl) rfl)) ?_
      refine .cons [20] rfl rfl rfl (.q rfl (QW.load_ref1 ty3 (.tmp rfl) rfl)) ?_
      refine .cons [] rfl rfl rfl (.q rfl (QW.move (.tmp rfl))) ?_
      refine .cons [] rfl rfl rfl (.q rfl (QW.move (.tmp rfl))) ?_
      refine .cons [22, 23] rfl rfl rfl (.q rfl (QW.index_sl sl88 ty116 rfl (.tmp rfl) (.tmp rfl) (by first | rfl | omega | (simp; done)) (by first | exact ItT.css_getE _ hlt | exact ItT.css_getE _ hlt2))) ?_
      refine .cons [24] rfl rfl rfl (.q rfl (QW.field_ref fo116_0 (.tmp rfl) rfl)) ?_
      refine .cons [25] rfl rfl rfl (.q rfl (QW.load_ref1 ty3 (.tmp rfl) rfl)) ?_
      refine .cons [21, 26] rfl rfl rfl (.q rfl (QW.neq (.tmp rfl) (.tmp rfl))) ?_
      refine .cons [27] rfl rfl rfl (.q rfl (QW.move (.tmp rfl))) ?_
      refine .cons [28] rfl rfl rfl (.g rfl rfl rfl (fun hg => (QW.move (.tmp rfl)))) ?_
      refine .cons [28] rfl rfl rfl (.g rfl rfl rfl (fun hg => (QW.move (.tmp rfl)))) ?_
      refine .cons [29, 30, 28] rfl rfl rfl (.g rfl rfl rfl (fun hg => (QW.index_sl sl88 ty116 rfl (.when rfl hg) (.when rfl hg) (by first | rfl | omega | (simp; done)) (by first | exact ItT.css_getE _ hlt | exact ItT.css_getE _ hlt2)))) ?_
      refine .cons [31, 28] rfl rfl rfl (.g rfl rfl rfl (fun hg => (QW.field_ref fo116_1 (.when rfl hg) rfl))) ?_
      refine .cons [32, 28] rfl rfl rfl (.g rfl rfl rfl (fun hg => (QW.field_ref fo114_0 (.when rfl hg) rfl))) ?_
      refine .cons [33, 28] rfl rfl rfl (.g rfl rfl rfl (fun hg => (QW.load_ref1 ty9 (.when rfl hg) rfl))) ?_
      refine .cons [28] rfl rfl rfl (.g rfl rfl rfl (fun hg => (QW.move (.tmp rfl)))) ?_
      refine .cons [28] rfl rfl rfl (.g rfl rfl rfl (fun hg => (QW.move (.tmp rfl)))) ?_
      refine .cons [35, 36, 28] rfl rfl rfl (.g rfl rfl rfl (fun hg => (QW.index_sl sl88 ty116 rfl (.when rfl hg) (.when rfl hg) (by first | rfl | omega | (simp; done)) (by first | exact ItT.css_getE _ hlt | exact ItT.css_getE _ hlt2)))) ?_
      refine .cons [37, 28] rfl rfl rfl (.g rfl rfl rfl (fun hg => (QW.field_ref fo116_1 (.when rfl hg) rfl))) ?_
      refine .cons [38, 28] rfl rfl rfl (.g rfl rfl rfl (fun hg => (QW.field_ref fo114_0 (.when rfl hg) rfl))) ?_
      refine .cons [39, 28] rfl rfl rfl (.g rfl rfl rfl (fun hg => (QW.load_ref1 ty9 (.when rfl hg) rfl))) ?_
      refine .cons [34, 40, 28] rfl rfl rfl (.g rfl rfl rfl (fun hg => (QW.neq_s (.when rfl hg) (.when rfl hg)))) ?_
      refine .cons [28, 41] rfl rfl rfl (.q rfl (QW.pick_or (.tmp rfl) (.tmp rfl))) ?_
      refine .cons [42] rfl rfl rfl (.q rfl (QW.move (.tmp rfl))) ?_
      refine .cons [43] rfl rfl rfl (.g rfl rfl rfl (fun hg => (QW.move (.tmp rfl)))) ?_
      refine .cons [43] rfl rfl rfl (.g rfl rfl rfl (fun hg => (QW.move (.tmp rfl)))) ?_
      refine .cons [44, 45, 43] rfl rfl rfl (.g rfl rfl rfl (fun hg => (QW.index_sl sl88 ty116 rfl (.when rfl hg) (.when rfl hg) (by first | rfl | omega | (simp; done)) (by first | exact ItT.css_getE _ hlt | exact ItT.css_getE _ hlt2)))) ?_
      refine .cons [46, 43] rfl rfl rfl (.g rfl rfl rfl (fun hg => (QW.field_ref fo116_1 (.when rfl hg) rfl))) ?_
      refine .cons [47, 43] rfl rfl rfl (.g rfl rfl rfl (fun hg => (QW.field_ref fo114_1 (.when rfl hg) rfl))) ?_
      refine .cons [48, 43] rfl rfl rfl (.g rfl rfl rfl (fun hg => (by first | exact QW.load_ref ty26 (.when rfl hg) rfl rfl | exact QW.load_ref ty26 (.when rfl hg) (take_at0 (V.cs_length _ _) rfl) (V.cs_length _ _)))) ?_
      refine .cons [43] rfl rfl rfl (.g rfl rfl rfl (fun hg => (QW.move (.tmp rfl)))) ?_
      refine .cons [43] rfl rfl rfl (.g rfl rfl rfl (fun hg => (QW.move (.tmp rfl)))) ?_
      refine .cons [50, 51, 43] rfl rfl rfl (.g rfl rfl rfl (fun hg => (QW.index_sl sl88 ty116 rfl (.when rfl hg) (.when rfl hg) (by first | rfl | omega | (simp; done)) (by first | exact ItT.css_getE _ hlt | exact ItT.css_getE _ hlt2)))) ?_
      refine .cons [52, 43] rfl rfl rfl (.g rfl rfl rfl (fun hg => (QW.field_ref fo116_1 (.when rfl hg) rfl))) ?_
      refine .cons [53, 43] rfl rfl rfl (.g rfl rfl rfl (fun hg => (QW.field_ref fo114_1 (.when rfl hg) rfl))) ?_
      refine .cons [54, 43] rfl rfl rfl (.g rfl rfl rfl (fun hg => (by first | exact QW.load_ref ty26 (.when rfl hg) rfl rfl | exact QW.load_ref ty26 (.when rfl hg) (take_at0 (V.cs_length _ _) rfl) (V.cs_length _ _)))) ?_
      refine .nil ?_
      refine JL.g rfl rfl rfl rfl rfl (fun hg => (QW.call gofn26 (.cons (.when rfl hg) (.cons (.when rfl hg) .nil)) (sameValue_ok Vc.self Vc.self (ha.2 _ (List.getElem_mem _)).ev.arg (hb.2 _ (List.getElem_mem _)).ev.arg))) ?_
      refine JL.g rfl rfl rfl rfl rfl (fun hg => (QW.not (.when rfl hg))) ?_
      refine JL.q rfl rfl rfl (QW.pick_or (.tmp rfl) (.tmp rfl)) ?_
      refine JL.nil ?_
      refine thenQ.n ?_
      refine J.cond (.tmp rfl) (fun c3 => ?_) (fun c3 => ?_)
      · skip
        have hne : a[k] ≠ b[k] := by
          intro e; rw [e] at c3; simp [V.same_refl] at c3
        refine J.seq ?_
        refine J.region_lit ?_
        refine JL.q rfl rfl rfl (QW.assign .const) ?_
        refine JL.nil ?_
        refine thenQ.n ?_
        refine J.ret ?_
        refine blkQ.r ?_
        refine thenQ.r ?_
        refine thenQ.r ?_
        refine blkQ.r ?_
        refine thenQ.r ?_
        exact ⟨_, selP [] _, _, RetEv.one rfl (REv.tmp rfl (.refl _)), rfl, sel_perm [] _, ⟨ret_b (by simp; intro e; subst e; exact hne rfl), rfl⟩⟩
      · skip
        have heq : a[k] = b[k] := by
          simp [V.same_iff] at c3
          obtain ⟨⟨h1, h2⟩, h3⟩ := c3
          exact ItT.eqs h1 (EvT.eqs h2 h3)
        refine J.skip ?_
        refine blkQ.n ?_
        refine thenQ.n ?_
        refine J.region_lit ?_
        refine JL.q rfl rfl rfl (QW.move (.tmp rfl)) ?_
        refine JL.q rfl rfl rfl (QW.add (.tmp rfl) .const (by first | exact w64n (by first | rfl | omega | (simp; done)) (by omega) | exact w64 (by omega) | rfl)) ?_
        refine JL.q rfl rfl rfl (QW.assign (.tmp rfl)) ?_
        refine JL.nil ?_
        refine thenQ.n ?_
        exact ⟨k + 1, ⟨hlt, (list_split hl heqs hlt).2 heq⟩, by omega, Wk.re (.cons rfl (.refl _) (.cons rfl (.refl _) (.cons rfl (.refl _) .nil))) (Reown.refl _) (fun _ h => by first | exact h | simp [h])⟩
    · skip
      have hge : a.length ≤ k := by simpa [ItT.css_length] using c2
      refine J.exit ?_
      refine thenQ.x ?_
      refine thenQ.x ?_
      refine blkQ.hit ?_
      refine thenQ.n ?_
      refine J.seq ?_
      refine J.region_lit ?_
      refine JL.q rfl rfl rfl (QW.assign .const) ?_
      refine JL.nil ?_
      refine thenQ.n ?_
      refine J.ret ?_
      exact ⟨_, selP [] _, _, RetEv.one rfl (REv.tmp rfl (.refl _)), rfl, sel_perm [] _, ⟨ret_b (by simp; rw [List.take_of_length_le hge, List.take_of_length_le (by omega)] at heqs; exact heqs), rfl⟩⟩

theorem copyEffects_ok {fr c : Bool} {l : List EvT} (hl : EvT.wfs l) : AC Try.prog 53 [] [.sl fr c eEv (EvT.css fr l)] (RetR (EvsR l)) := by
  have hlen := hl.len
  have hl1 := hl.1
  refine AC.of_J Try.func53 rfl Try.ntmps53 rfl fun w0 A0 => ?_
  refine J.seq ?_
  refine J.region_lit ?_
  refine JL.q rfl rfl rfl (QW.assign .const) ?_
  refine JL.nil ?_
  refine thenQ.n ?_
  refine J.seq ?_
  refine J.region_lit ?_
  refine JL.q rfl rfl rfl (QW.assign .const) ?_
  refine JL.nil ?_
  refine thenQ.n ?_
  refine J.seq ?_
  refine J.seq ?_
  refine J.region_lit ?_
  refine JL.q rfl rfl rfl (QW.assign .const) ?_
  refine JL.nil ?_
  refine thenQ.n ?_
  refine J.block ?_
  refine J.reown (Reown.nilArrE eEv _) ?_
  refine J.reown (Reown.nilGrpE _) ?_
  refine J.loopK (ι := Nat × Value × List (List AV) × List Value × Own) [0, 2] (fun ⟨j, v, cs, us, o⟩ => [(4, .c (.int .i64 (j : Int))), (3, .c v)]) (fun ⟨j, v, cs, us, o⟩ oo => List.set (List.set oo 0 (.arr v eEv cs)) 1 (o)) (fun ⟨j, v, cs, us, o⟩ => j ≤ l.length ∧ ListTr eEv (EvT.css true (l.take j)) cs us o) (fun ⟨j, v, cs, us, o⟩ => l.length - j) ⟨0, .slice none 0 0, [], [], .grp []⟩ (⟨Nat.zero_le _, .nil _⟩) (Wk.re (.cons rfl (.refl _) (.cons rfl (.refl _) (.cons rfl (.refl _) (.cons rfl (.refl _) .nil)))) (Reown.refl _) (fun _ h => by first | exact h | simp [h])) ?_
  intro ⟨j, v, cs, us, o⟩ ⟨hj, hK⟩
  refine J.conv (by (try simp only [stepsO, List.map_cons, List.map_nil, valO, nthO, curO, mrg, List.reverse_cons, List.reverse_nil, List.nil_append, List.cons_append, List.append_nil, List.getElem?_cons_zero, List.getElem?_cons_succ, Option.map_some, Option.getD_some, List.set_cons_zero, List.set_cons_succ, AV.cellsOf, splice_zero, splice_succ, Nat.zero_add, Nat.reduceAdd]); rfl) ?_
  refine J.seq ?_
  refine J.seq ?_
  refine J.region_lit ?_
  refine JL.q rfl rfl rfl (QW.move (.tmp rfl)) ?_
  refine JL.q rfl rfl rfl (QW.move (.tmp rfl)) ?_
  refine JL.q rfl rfl rfl (by first | exact QW.len_sl sl91 (.tmp rfl) | exact QW.len_nil sl91 (.tmp rfl)) ?_
  refine JL.q rfl rfl rfl (QW.lss (.tmp rfl) (.tmp rfl)) ?_
  refine JL.nil ?_
  refine thenQ.n ?_
  refine J.cond (.tmp rfl) (fun c1 => ?_) (fun c1 => ?_)
  · skip
    have hlt : j < l.length := by simpa [EvT.css_length] using c1
    refine J.skip ?_
    refine thenQ.n ?_
    refine J.seq ?_
    refine J.block ?_
    refine J.region_outK 14 3 (fun os_ ow_ x_ o_ => match os_ with | [] => (∃ o2_, (CopyR (l[j]'hlt).arg) x_ o2_ ∧ o_ = mrg [] o2_ ow_) | [(x0_, _)] => (x_ = .agg (.c (str l[j].name) :: x0_.cellsOf) ∧ o_ = ow_) | [(x1_, _), (x0_, _)] => (x_ = .sl true true eEv [x1_.cellsOf] ∧ o_ = ow_) | _ => False) mixed (by kernel_rfl) (by kernel_rfl) (by kernel_rfl) rfl ?_
    refine OutK.quiet [] rfl rfl rfl (fun qs_ qv_ ql_ => (.q rfl (QW.move (.tmp rfl)))) ?_
    refine OutK.quiet [] rfl rfl rfl (fun qs_ qv_ ql_ => (.q rfl (QW.move (.tmp rfl)))) ?_
    refine OutK.quiet [] rfl rfl rfl (fun qs_ qv_ ql_ => (.q rfl (QW.move (.tmp rfl)))) ?_
    refine OutK.quiet [12, 13] rfl rfl rfl (fun qs_ qv_ ql_ => (.q rfl (QW.index_sl sl91 ty114 rfl (.tmp rfl) (.tmp rfl) (by first | rfl | omega | (simp; done)) (by exact EvT.css_getE _ hlt)))) ?_
    refine OutK.quiet [14] rfl rfl rfl (fun qs_ qv_ ql_ => (.q rfl (QW.field_ref fo114_0 (.tmp rfl) rfl))) ?_
    refine OutK.quiet [15] rfl rfl rfl (fun qs_ qv_ ql_ => (.q rfl (QW.load_ref1 ty9 (.tmp rfl) rfl))) ?_
    refine OutK.quiet [] rfl rfl rfl (fun qs_ qv_ ql_ => (.q rfl (QW.move (.tmp rfl)))) ?_
    refine OutK.quiet [] rfl rfl rfl (fun qs_ qv_ ql_ => (.q rfl (QW.move (.tmp rfl)))) ?_
    refine OutK.quiet [17, 18] rfl rfl rfl (fun qs_ qv_ ql_ => (.q rfl (QW.index_sl sl91 ty114 rfl (.tmp rfl) (.tmp rfl) (by first | rfl | omega | (simp; done)) (by exact EvT.css_getE _ hlt)))) ?_
    refine OutK.quiet [19] rfl rfl rfl (fun qs_ qv_ ql_ => (.q rfl (QW.field_ref fo114_1 (.tmp rfl) rfl))) ?_
    refine OutK.quiet [20] rfl rfl rfl (fun qs_ qv_ ql_ => (.q rfl (by first | exact QW.load_ref ty26 (.tmp rfl) rfl rfl | exact QW.load_ref ty26 (.tmp rfl) (take_at0 (V.cs_length _ _) rfl) (V.cs_length _ _)))) ?_
    refine OutK.loud [21] rfl rfl rfl rfl rfl (fun qs_ qv_ ql_ => by
        obtain rfl : qs_ = [] := List.length_eq_zero_iff.1 ql_
        exact LStepR.callRF (d := 22) [] gofn20 Lent.nil (fun _ => (.cons (.tmp rfl) .nil)) (copyValue_ok Vc.self (hl.2 _ (List.getElem_mem hlt)).arg) (.inl rfl)) ?_
    refine OutK.loud [16, 22] rfl rfl rfl rfl rfl (fun qs_ qv_ ql_ => by
        obtain ⟨⟨y0, p0⟩, qs_, rfl⟩ : ∃ p t, qs_ = p :: t := by (cases qs_ with | nil => simp at ql_ | cons p t => exact ⟨p, t, rfl⟩)
        obtain rfl : qs_ = [] := List.length_eq_zero_iff.1 (by simpa using ql_)
        obtain ⟨hr0, _⟩ := qv_
        obtain ⟨o22, ⟨kv22, iv22, ok22, oi22, rfl, rfl, hV22⟩, rfl⟩ := hr0
        exact LStepR.ofQ (QW.build (idx := [0, 1]) pl114 z114 rfl (.cons (.tmp rfl) (.cons (.tmp rfl) .nil)) rfl rfl rfl rfl) ⟨rfl, rfl⟩) ?_
    refine OutK.loud [23] rfl rfl rfl rfl rfl (fun qs_ qv_ ql_ => by
        obtain ⟨⟨y1, p1⟩, qs_, rfl⟩ : ∃ p t, qs_ = p :: t := by (cases qs_ with | nil => simp at ql_ | cons p t => exact ⟨p, t, rfl⟩)
        simp only [List.length_cons, Nat.add_right_cancel_iff] at ql_
        obtain ⟨⟨y0, p0⟩, qs_, rfl⟩ : ∃ p t, qs_ = p :: t := by (cases qs_ with | nil => simp at ql_ | cons p t => exact ⟨p, t, rfl⟩)
        obtain rfl : qs_ = [] := List.length_eq_zero_iff.1 (by simpa using ql_)
        obtain ⟨hr1, hr0, _⟩ := qv_
        obtain ⟨o22, ⟨kv22, iv22, ok22, oi22, rfl, rfl, hV22⟩, rfl⟩ := hr0
        obtain ⟨rfl, rfl⟩ := hr1
        exact LStepR.ofQ (QW.buildSlice (idx := [0]) (xs := [(l[j]).raw kv22 iv22]) sl91 el114 z114 rfl (.cons (.tmp rfl) .nil) rfl rfl rfl rfl rfl rfl rfl rfl rfl) ⟨rfl, rfl⟩) ?_
    refine .nil fun qs_ qv_ ql_ => ?_
    obtain ⟨⟨y2, p2⟩, qs_, rfl⟩ : ∃ p t, qs_ = p :: t := by (cases qs_ with | nil => simp at ql_ | cons p t => exact ⟨p, t, rfl⟩)
    simp only [List.length_cons, Nat.add_right_cancel_iff] at ql_
    obtain ⟨⟨y1, p1⟩, qs_, rfl⟩ : ∃ p t, qs_ = p :: t := by (cases qs_ with | nil => simp at ql_ | cons p t => exact ⟨p, t, rfl⟩)
    simp only [List.length_cons, Nat.add_right_cancel_iff] at ql_
    obtain ⟨⟨y0, p0⟩, qs_, rfl⟩ : ∃ p t, qs_ = p :: t := by (cases qs_ with | nil => simp at ql_ | cons p t => exact ⟨p, t, rfl⟩)
    obtain rfl : qs_ = [] := List.length_eq_zero_iff.1 (by simpa using ql_)
    obtain ⟨hr2, hr1, hr0, _⟩ := qv_
    obtain ⟨o22, ⟨kv22, iv22, ok22, oi22, rfl, rfl, hV22⟩, rfl⟩ := hr0
    obtain ⟨rfl, rfl⟩ := hr1
    obtain ⟨rfl, rfl⟩ := hr2
    refine JL.conv (by (try simp only [stepsO, List.map_cons, List.map_nil, valO, nthO, curO, mrg, List.reverse_cons, List.reverse_nil, List.nil_append, List.cons_append, List.append_nil, List.getElem?_cons_zero, List.getElem?_cons_succ, Option.map_some, Option.getD_some, List.set_cons_zero, List.set_cons_succ, AV.cellsOf, splice_zero, splice_succ, Nat.zero_add, Nat.reduceAdd]); rfl) ?_
    refine JL.append 0 sl91 el114 rfl (.tmp rfl) rfl (srcA_sl sl91 (.tmp rfl)) (by have := hK.h2; rw [EvT.css_length, List.length_take] at this; simp; unfold reach at *; omega) rfl fun v25 => ?_
    refine JL.q rfl rfl rfl (QW.assign (.tmp rfl)) ?_
    refine JL.nil ?_
    refine blkQ.n ?_
    refine thenQ.n ?_
    refine J.region_lit ?_
    refine JL.q rfl rfl rfl (QW.move (.tmp rfl)) ?_
    refine JL.q rfl rfl rfl (QW.add (.tmp rfl) .const (by first | exact w64n (by first | rfl | omega | (simp; done)) (by omega) | exact w64 (by omega) | rfl)) ?_
    refine JL.q rfl rfl rfl (QW.assign (.tmp rfl)) ?_
    refine JL.nil ?_
    refine thenQ.n ?_
    exact ⟨⟨j + 1, _, _, _, _⟩, ⟨hlt, by rw [List.take_succ_eq_append_getElem hlt]; exact hK.snocE hV22⟩, by show l.length - (j + 1) < l.length - j; omega, Wk.re (.cons rfl (.refl _) (.cons rfl (.refl _) (.cons rfl (.refl _) (.cons rfl (.refl _) .nil)))) ((Reown.cons (Reown.tri _ _ _ _))) (fun _ h => by first | exact h | simp [h])⟩
  · skip
    have hge : l.length ≤ j := by simpa [EvT.css_length] using c1
    refine J.exit ?_
    refine thenQ.x ?_
    refine thenQ.x ?_
    refine blkQ.hit ?_
    refine thenQ.n ?_
    refine J.seq ?_
    refine J.isSlice 0 rfl fun hs1 => ?_
    refine J.reown (Reown.grp2 _ _ _) ?_
    refine J.region_lit ?_
    refine JL.q rfl rfl rfl (QW.move (.tmp rfl)) ?_
    refine JL.q rfl rfl rfl (QW.assign (.tmp rfl)) ?_
    refine JL.nil ?_
    refine thenQ.n ?_
    refine J.ret ?_
    obtain rfl : j = l.length := by omega
    rw [List.take_length] at hK
    exact ⟨_, selP [.p] _, _, RetEv.one rfl (REv.tmp rfl (.refl _)), rfl, sel_perm [.p] _, ⟨_, rfl, _, _, rfl, hs1, rfl, hK.tr (by rw [EvT.css_length]; exact hl1)⟩⟩

theorem copyEffects_rd {fr c : Bool} {l : List EvT} (hl : EvT.wfs l) : Fn Try.prog 53 [.sl fr c eEv (EvT.css fr l)] (evsAV l) := .ofEvs (copyEffects_ok hl)

end Go.Proofs.Ytkiankpmkglhcaa.J

/- Owned trees taken apart. -/
namespace Go.Proofs.Ytkiankpmkglhcaa.J
open Go Go.RowKit
set_option linter.unusedVariables false
set_option linter.unusedSimpArgs false

theorem Reown.msk (ms : List Cd) (own : List Own) {own' : List Own} (h : selP ms own = own') : Reown own own' := by
  subst h
  exact (Reown.perm ((sel_perm ms own).trans List.perm_append_comm)).trans (Reown.drop _ _)
theorem Reown.pair {a b o : Own} {l : List Own} (h : OwnEq (.grp [a, b]) o) : Reown (o :: l) (a :: b :: l) := (Reown.eq h.symm).trans (Reown.open [a, b] l)
theorem Reown.spoil {o1 o2 a b c d : Own} (h1 : OwnEq (.grp [a, b]) o1) (h2 : OwnEq (.grp [c, d]) o2) : Reown [o1, o2] [a, c, d] :=
  (Reown.pair h1).trans ((Reown.cons (Reown.cons (Reown.pair h2))).trans (Reown.msk [.p, .k, .p, .p] _ rfl))
theorem Tr.inv {e : ETy} {xs : List (List AV)} {v : Value} {o : Own} (h : Tr (.sl true false e xs) v o) :
    ∃ cs us o1, cs.flatten = us.map AV.c ∧ cs.length = xs.length ∧ (∀ x ∈ cs, x.length = e.sz) ∧ us.all (·.oneCell') = true ∧ TrL xs.flatten us o1 ∧ OwnEq (.grp [.arr v e cs, o1]) o := by
  cases h with
  | sl h1 h2 h3 h4 h5 h6 h ho => exact ⟨_, _, _, h1, h2, h4, h5, h, ho⟩
theorem Tr.c_inv {u v : Value} {o : Own} (h : Tr (.c u) v o) : v = u := by cases h; rfl
theorem TrL.cons_inv {y : AV} {ys : List AV} {us : List Value} {o : Own} (h : TrL (y :: ys) us o) : ∃ u us' a b, us = u :: us' ∧ Tr y u a ∧ TrL ys us' b ∧ OwnEq (.grp [a, b]) o := by
  cases h with
  | cons h hs ho => exact ⟨_, _, _, _, rfl, h, hs, ho⟩
theorem TrL.nil_inv {us : List Value} {o : Own} (h : TrL [] us o) : us = [] := by cases h; rfl
theorem TrL.value {x : V} {us : List Value} {o : Own} (h : TrL (x.cs true) us o) (h1 : us.all (·.oneCell') = true) : ∃ kv iv ok oi, us = x.vals kv iv ∧ VTr x kv iv ok oi ∧ Reown [o] [ok, oi] := by
  obtain ⟨k, b, t, ks, is⟩ := x
  unfold V.cs at h
  obtain ⟨u0, us0, a0, b0, rfl, g0, h, e0⟩ := h.cons_inv
  obtain ⟨u1, us1, a1, b1, rfl, g1, h, e1⟩ := h.cons_inv
  obtain ⟨u2, us2, a2, b2, rfl, g2, h, e2⟩ := h.cons_inv
  obtain ⟨u3, us3, a3, b3, rfl, g3, h, e3⟩ := h.cons_inv
  obtain ⟨u4, us4, a4, b4, rfl, g4, h, e4⟩ := h.cons_inv
  obtain rfl := h.nil_inv
  obtain rfl := g0.c_inv
  obtain rfl := g1.c_inv
  obtain rfl := g2.c_inv
  simp only [List.all_cons, List.all_nil, Bool.and_eq_true, Bool.and_true] at h1
  refine ⟨u3, u4, a3, a4, rfl, ⟨h1.2.2.2.1, h1.2.2.2.2, g3, g4⟩, ?_⟩
  have s0 : Reown [o] [b0] := (Reown.pair e0).trans (Reown.dropN 1 _ rfl)
  have s1 : Reown [b0] [b1] := (Reown.pair e1).trans (Reown.dropN 1 _ rfl)
  have s2 : Reown [b1] [b2] := (Reown.pair e2).trans (Reown.dropN 1 _ rfl)
  have s3 : Reown [b2] [a3, a4] := (Reown.pair e3).trans ((Reown.cons (Reown.pair e4)).trans (Reown.msk [.p, .p] _ rfl))
  exact s0.trans (s1.trans (s2.trans s3))

theorem flat_first {u1 u2 : List Value} {c : List AV} {cs : List (List AV)} (h : (c :: cs).flatten = (u1 ++ u2).map AV.c) (hl : c.length = u1.length) : c = u1.map AV.c ∧ cs.flatten = u2.map AV.c := by
  rw [List.flatten_cons, List.map_append] at h
  exact List.append_inj h (by simpa using hl)
/-- The next of a list's items, with what it owns, taken out. -/
theorem kids_take {is : List V} {cs : List (List AV)} {us : List Value} {o : Own} {j : Nat} (hlt : j < is.length) (hl : cs.length = is.length) (h3 : ∀ x ∈ cs, x.length = 5) (hf : (cs.drop j).flatten = us.map AV.c) (h1 : us.all (·.oneCell') = true) (h : TrL (V.css true (is.drop j)).flatten us o) :
    ∃ kv iv ok oi us2 o2, cs[j]? = some ((is[j]'hlt).raw kv iv) ∧ VTr (is[j]'hlt) kv iv ok oi ∧ (cs.drop (j + 1)).flatten = us2.map AV.c ∧ us2.all (·.oneCell') = true ∧ TrL (V.css true (is.drop (j + 1))).flatten us2 o2 ∧ Reown [o] [ok, oi, o2] := by
  rw [List.drop_eq_getElem_cons hlt, V.css, List.flatten_cons] at h
  obtain ⟨u1, u2, o1, o2, rfl, g1, g2, g3⟩ := h.split
  rw [List.all_append, Bool.and_eq_true] at h1
  obtain ⟨kv, iv, ok, oi, rfl, hV, hR⟩ := g1.value h1.1
  have hj : j < cs.length := by omega
  rw [List.drop_eq_getElem_cons hj] at hf
  obtain ⟨k1, k2⟩ := flat_first hf (by rw [h3 _ (List.getElem_mem hj)]; rfl)
  refine ⟨kv, iv, ok, oi, u2, o2, by rw [List.getElem?_eq_getElem hj, k1]; rfl, hV, k2, h1.2, g2, ?_⟩
  have s1 : Reown [o] [o1, o2] := Reown.pair g3
  have s2 : Reown [o1, o2] [ok, oi, o2] := (Reown.perm (List.Perm.swap _ _ _)).trans ((Reown.left (c := [o2]) hR).trans (Reown.perm (by
    simpa using (List.perm_append_comm (l₁ := [o2]) (l₂ := [ok, oi])))))
  exact s1.trans s2
end Go.Proofs.Ytkiankpmkglhcaa.J

/- Walks: a value that is spoilt. -/
namespace Go.Proofs.Ytkiankpmkglhcaa.J
open Go Go.RowKit
set_option linter.unusedVariables false
set_option linter.unusedSimpArgs false
set_option maxRecDepth 10000
set_option maxHeartbeats 4000000

theorem spoil_n  : ∀ (n : Nat) {v : V} {kv iv : Value} {ok oi : Own}, VTr v kv iv ok oi → v.wf → v.sz ≤ n → AC Try.prog 32 [ok, oi] [.agg (v.raw kv iv)] (RetR fun x o => x = .tup [] ∧ o = []) := by
  intro n
  induction n with
  | zero => intro v kv iv ok oi hV hw h; exact absurd h (by have := V.sz_pos v; omega)
  | succ n ih =>
    intro v kv iv ok oi hV hw hn
    obtain ⟨k, b, t, ks, is⟩ := v
    obtain ⟨-, -, -, hk16, hi80, -, hwi⟩ := hw.inv
    have hkl : ks.length ≤ 9223372036854775806 := by unfold reach at hk16; omega
    have hil : is.length ≤ 9223372036854775806 := by unfold reach at hi80; omega
    obtain ⟨ck, uk, o1, p1, p2, p3, p4, p5, p6⟩ := hV.ks.inv
    obtain ⟨ci, ui, o2, q1, q2, q3, q4, q5, q6⟩ := hV.is.inv
    simp only [V.keys, V.items, keysAV_length, V.css_length] at p2 q2 q5
    refine AC.of_J Try.func32 rfl Try.ntmps32 rfl fun w0 A0 => ?_
    refine J.seq ?_
    refine J.region_lit ?_
    refine JL.box_agg (.tmp rfl) rfl fun b1 => ?_
    refine JL.nil ?_
    refine thenQ.n ?_
    refine J.seq ?_
    refine J.seq ?_
    refine J.reown (Reown.cons (Reown.spoil p6 q6)) ?_
    refine J.region_lit ?_
    refine JL.q rfl rfl rfl (QW.assign .const) ?_
    refine JL.nil ?_
    refine thenQ.n ?_
    refine J.block ?_
    refine J.loopK (ι := Nat × List (List AV)) [1] (fun ⟨j, ck2⟩ => [(2, .c (.int .i64 (j : Int)))]) (fun ⟨j, ck2⟩ oo => List.set oo 1 (.arr kv eStr ck2)) (fun ⟨j, ck2⟩ => ck2.length = ck.length ∧ (∀ x ∈ ck2, x.length = 1)) (fun ⟨j, ck2⟩ => ck2.length - j) ⟨0, ck⟩ (⟨rfl, p3⟩) (Wk.re (.cons rfl (.refl _) (.cons rfl (.refl _) .nil)) (Reown.refl _) (fun _ h => by first | exact h | simp [h])) ?_
    intro ⟨j, ck2⟩ ⟨hcl, hc1⟩
    refine J.conv (by (try simp only [stepsO, List.map_cons, List.map_nil, valO, nthO, curO, mrg, List.reverse_cons, List.reverse_nil, List.nil_append, List.cons_append, List.append_nil, List.getElem?_cons_zero, List.getElem?_cons_succ, Option.map_some, Option.getD_some, List.set_cons_zero, List.set_cons_succ, AV.cellsOf, splice_zero, splice_succ, Nat.zero_add, Nat.reduceAdd]); rfl) ?_
    refine J.seq ?_
    refine J.seq ?_
    refine J.region_lit ?_
    refine JL.q rfl rfl rfl (QW.move (.tmp rfl)) ?_
    refine JL.q rfl rfl rfl (QW.field_ptr fo26_3 (.tmp rfl) rfl) ?_
    refine JL.q rfl rfl rfl (QW.load_box1 0 ty23 (.tmp rfl) rfl rfl) ?_
    refine JL.q rfl rfl rfl (QW.len_arr 1 sl23 (.tmp rfl) rfl) ?_
    refine JL.q rfl rfl rfl (QW.lss (.tmp rfl) (.tmp rfl)) ?_
    refine JL.nil ?_
    refine thenQ.n ?_
    refine J.cond (.tmp rfl) (fun c1 => ?_) (fun c1 => ?_)
    · skip
      have hlt : j < ck2.length := by simpa using c1
      refine J.skip ?_
      refine thenQ.n ?_
      refine J.seq ?_
      refine J.block ?_
      refine J.region_lit ?_
      refine JL.q rfl rfl rfl (QW.field_ptr fo26_3 (.tmp rfl) rfl) ?_
      refine JL.q rfl rfl rfl (QW.load_box1 0 ty23 (.tmp rfl) rfl rfl) ?_
      refine JL.q rfl rfl rfl (QW.move (.tmp rfl)) ?_
      refine JL.q rfl rfl rfl (QW.index_arr 1 sl23 ty9 rfl (.tmp rfl) rfl (.tmp rfl) (by first | rfl | omega | (simp; done)) (by exact hlt) rfl) ?_
      refine JL.store_gp 1 ty9 (.tmp rfl) rfl (List.getElem?_eq_getElem hlt) rfl .const rfl rfl rfl (congrArg (List.set _ _) (splice_all (by rw [hc1 _ (List.getElem_mem hlt)]; rfl))) rfl ?_
      refine JL.nil ?_
      refine blkQ.n ?_
      refine thenQ.n ?_
      refine J.region_lit ?_
      refine JL.q rfl rfl rfl (QW.move (.tmp rfl)) ?_
      refine JL.q rfl rfl rfl (QW.add (.tmp rfl) .const (by first | exact w64n (by first | rfl | omega | (simp; done)) (by omega) | exact w64 (by omega) | rfl)) ?_
      refine JL.q rfl rfl rfl (QW.assign (.tmp rfl)) ?_
      refine JL.nil ?_
      refine thenQ.n ?_
      exact ⟨⟨j + 1, ck2.set j [.c (str [115, 112, 111, 105, 108, 116])]⟩, ⟨by simp [hcl], fun x hx => (List.mem_or_eq_of_mem_set hx).elim (hc1 x) (fun h => by rw [h]; rfl)⟩, by simp; omega, Wk.re (.cons rfl (.refl _) (.cons rfl (.refl _) .nil)) (Reown.refl _) (fun _ h => by first | exact h | simp [h])⟩
    · skip
      skip
      refine J.exit ?_
      refine thenQ.x ?_
      refine thenQ.x ?_
      refine blkQ.hit ?_
      refine thenQ.n ?_
      refine J.seq ?_
      refine J.region_lit ?_
      refine JL.q rfl rfl rfl (QW.assign .const) ?_
      refine JL.nil ?_
      refine thenQ.n ?_
      refine J.block ?_
      refine J.loopK (ι := Nat × List (List AV) × List Value × Own) [1] (fun ⟨j, ci2, us, o⟩ => [(3, .c (.int .i64 (j : Int)))]) (fun ⟨j, ci2, us, o⟩ oo => List.set (List.set oo 2 (.arr iv eV ci2)) 3 (o)) (fun ⟨j, ci2, us, o⟩ => ci2.length = is.length ∧ (∀ x ∈ ci2, x.length = 5) ∧ (ci2.drop j).flatten = us.map AV.c ∧ us.all (·.oneCell') = true ∧ TrL (V.css true (is.drop j)).flatten us o) (fun ⟨j, ci2, us, o⟩ => is.length - j) ⟨0, ci, ui, o2⟩ (⟨q2, q3, q1, q4, q5⟩) (Wk.re (.cons rfl (.refl _) (.cons rfl (.refl _) .nil)) (Reown.refl _) (fun _ h => by first | exact h | simp [h])) ?_
      intro ⟨j, ci2, us, o⟩ ⟨hcl, hc5, hcf, hu1, hT⟩
      refine J.conv (by (try simp only [stepsO, List.map_cons, List.map_nil, valO, nthO, curO, mrg, List.reverse_cons, List.reverse_nil, List.nil_append, List.cons_append, List.append_nil, List.getElem?_cons_zero, List.getElem?_cons_succ, Option.map_some, Option.getD_some, List.set_cons_zero, List.set_cons_succ, AV.cellsOf, splice_zero, splice_succ, Nat.zero_add, Nat.reduceAdd]); rfl) ?_
      refine J.seq ?_
      refine J.seq ?_
      refine J.region_lit ?_
      refine JL.q rfl rfl rfl (QW.move (.tmp rfl)) ?_
      refine JL.q rfl rfl rfl (QW.field_ptr fo26_4 (.tmp rfl) rfl) ?_
      refine JL.q rfl rfl rfl (QW.load_box1 0 ty24 (.tmp rfl) rfl rfl) ?_
      refine JL.q rfl rfl rfl (QW.len_arr 2 sl24 (.tmp rfl) rfl) ?_
      refine JL.q rfl rfl rfl (QW.lss (.tmp rfl) (.tmp rfl)) ?_
      refine JL.nil ?_
      refine thenQ.n ?_
      refine J.cond (.tmp rfl) (fun c2 => ?_) (fun c2 => ?_)
      · skip
        have hlt : j < is.length := by (simp at c2; omega)
        refine J.skip ?_
        refine thenQ.n ?_
        refine J.seq ?_
        refine J.block ?_
        refine J.seq ?_
        obtain ⟨kv2, iv2, ok2, oi2, us2, o2, g1, hV2, g3, g4, g5, g6⟩ := kids_take hlt hcl hc5 hcf hu1 hT
        refine J.reown (Reown.cons (Reown.cons (Reown.cons g6))) ?_
        refine J.region_lit ?_
        refine JL.q rfl rfl rfl (QW.field_ptr fo26_4 (.tmp rfl) rfl) ?_
        refine JL.q rfl rfl rfl (QW.load_box1 0 ty24 (.tmp rfl) rfl rfl) ?_
        refine JL.q rfl rfl rfl (QW.move (.tmp rfl)) ?_
        refine JL.q rfl rfl rfl (QW.index_arr 2 sl24 ty26 rfl (.tmp rfl) rfl (.tmp rfl) (by first | rfl | omega | (simp; done)) (by omega) rfl) ?_
        refine JL.q rfl rfl rfl (by first | exact QW.load_gp 2 ty26 (.tmp rfl) rfl (by exact g1) rfl rfl rfl | exact QW.load_gp (o := 0) 2 ty26 (.tmp rfl) rfl (by exact g1) rfl rfl rfl | exact QW.load_gp (o := 1) 2 ty26 (.tmp rfl) rfl (by exact g1) rfl rfl rfl | exact QW.load_gp (o := 2) 2 ty26 (.tmp rfl) rfl (by exact g1) rfl rfl rfl | exact QW.load_gp 2 ty26 (.tmp rfl) rfl (by exact g1) rfl (take_full (V.cs_length _ _)) (V.cs_length _ _)) ?_
        refine JL.callRF [.k, .k, .k, .p, .p] gofn32 rfl Lent.nil (fun _ => (.cons (.tmp rfl) .nil)) (ih hV2 (hwi _ (List.getElem_mem _)) (V.sz_get hn hlt)) (.inl rfl) fun x27 o27 h27 => ?_
        obtain ⟨rfl, rfl⟩ := h27
        refine JL.nil ?_
        refine thenQ.n ?_
        refine J.region_lit ?_
        refine JL.q rfl rfl rfl (QW.field_ptr fo26_4 (.tmp rfl) rfl) ?_
        refine JL.q rfl rfl rfl (QW.load_box1 0 ty24 (.tmp rfl) rfl rfl) ?_
        refine JL.q rfl rfl rfl (QW.move (.tmp rfl)) ?_
        refine JL.q rfl rfl rfl (QW.build (idx := [0]) pl26 z26 rfl (.cons .const .nil) rfl rfl rfl rfl) ?_
        refine JL.q rfl rfl rfl (QW.index_arr 2 sl24 ty26 rfl (.tmp rfl) rfl (.tmp rfl) (by first | rfl | omega | (simp; done)) (by omega) rfl) ?_
        refine JL.store_gp 2 ty26 (.tmp rfl) rfl g1 rfl (.tmp rfl) rfl rfl rfl (congrArg (List.set _ _) (splice_all rfl)) rfl ?_
        refine JL.nil ?_
        refine blkQ.n ?_
        refine thenQ.n ?_
        refine J.region_lit ?_
        refine JL.q rfl rfl rfl (QW.move (.tmp rfl)) ?_
        refine JL.q rfl rfl rfl (QW.add (.tmp rfl) .const (by first | exact w64n (by first | rfl | omega | (simp; done)) (by omega) | exact w64 (by omega) | rfl)) ?_
        refine JL.q rfl rfl rfl (QW.assign (.tmp rfl)) ?_
        refine JL.nil ?_
        refine thenQ.n ?_
        exact ⟨⟨j + 1, ci2.set j [.c (.int .i64 (-1)), .c (.int .u64 0), .c (str []), .c (.slice none 0 0), .c (.slice none 0 0)], us2, o2⟩, ⟨by simp [hcl], fun x hx => (List.mem_or_eq_of_mem_set hx).elim (hc5 x) (fun h => by rw [h]; rfl), by rw [List.drop_set_of_lt (by omega)]; exact g3, g4, g5⟩, by simp; omega, Wk.re (.cons rfl (.refl _) (.cons rfl (.refl _) .nil)) (Reown.refl _) (fun _ h => by first | exact h | simp [h])⟩
      · skip
        skip
        refine J.exit ?_
        refine thenQ.x ?_
        refine thenQ.x ?_
        refine blkQ.hit ?_
        exact ⟨_, selP [.k, .k, .k, .k] _, _, RetEv.none rfl , rfl, sel_perm [.k, .k, .k, .k] _, ⟨_, rfl, rfl, rfl⟩⟩

theorem spoil_ok {v : V} {kv iv : Value} {ok oi : Own} (hV : VTr v kv iv ok oi) (hw : v.wf) : AC Try.prog 32 [ok, oi] [.agg (v.raw kv iv)] (RetR fun x o => x = .tup [] ∧ o = []) := spoil_n _ hV hw (Nat.le_refl _)

end Go.Proofs.Ytkiankpmkglhcaa.J

/- Walks: slices.Insert of one element, slices.Delete of one. -/
namespace Go.Proofs.Ytkiankpmkglhcaa.J
open Go Go.RowKit
set_option linter.unusedVariables false
set_option linter.unusedSimpArgs false
set_option maxRecDepth 10000
set_option maxHeartbeats 4000000

theorem overStr : ∀ u v w, (callFunc 134 #[u, v]).run Try.prog w = ((Extern.SlicesOverlaps.overlaps #[23, 23] #[4] #[u, v]).run Try.prog w).andThen fun v w' => .ok (.value v) w' := fun u v w => run_callFunc_extern (P := Try.prog) Try.func134 (by kernel_rfl) (by kernel_rfl) (by kernel_rfl) (by kernel_rfl) _ w
theorem insStr_ok {v : Value} {xs : List (List AV)} {ys : List AV} {i : Nat} {fr clip : Bool} (hi : i ≤ xs.length) (hy : ys.length = 1) (hr : (xs.length + 1) * 16 ≤ reach) : AC Try.prog 111 [.arr v eStr xs] [.c v, .c (.int .i64 (i : Int)), .sl fr clip eStr [ys]] (RetR (CloneR eStr (xs.take i ++ [ys] ++ xs.drop i))) := by
  have hr2 := hr
  unfold reach at hr2
  refine AC.of_J Try.func111 rfl Try.ntmps111 rfl fun w0 A0 => ?_
  refine J.seq ?_
  refine J.region_lit ?_
  refine JL.q rfl rfl rfl (QW.assign .const) ?_
  refine JL.nil ?_
  refine thenQ.n ?_
  refine J.seq ?_
  refine J.region_lit ?_
  refine JL.q rfl rfl rfl (QW.move (.tmp rfl)) ?_
  refine JL.q rfl rfl rfl (QW.move (.tmp rfl)) ?_
  refine JL.cutAny 0 sl23 ty9 (.tmp rfl) rfl (.tmp rfl) rfl hi rfl fun u12 => ?_
  refine JL.nil ?_
  refine thenQ.n ?_
  refine J.seq ?_
  refine J.region_lit ?_
  refine JL.q rfl rfl rfl (QW.move (.tmp rfl)) ?_
  refine JL.q rfl rfl rfl (by first | exact QW.len_sl sl23 (.tmp rfl) | exact QW.len_nil sl23 (.tmp rfl)) ?_
  refine JL.q rfl rfl rfl (QW.assign (.tmp rfl)) ?_
  refine JL.nil ?_
  refine thenQ.n ?_
  refine J.seq ?_
  refine J.seq ?_
  refine J.region_lit ?_
  refine JL.q rfl rfl rfl (QW.move (.tmp rfl)) ?_
  refine JL.q rfl rfl rfl (QW.eql (.tmp rfl) .const) ?_
  refine JL.nil ?_
  refine thenQ.n ?_
  refine J.cond (.tmp rfl) (fun c1 => absurd c1 (by simp)) (fun c1 => ?_)
  refine J.skip ?_
  refine thenQ.n ?_
  refine J.seq ?_
  refine J.region_lit ?_
  refine JL.q rfl rfl rfl (QW.move (.tmp rfl)) ?_
  refine JL.q rfl rfl rfl (QW.len_arr 0 sl23 (.tmp rfl) rfl) ?_
  refine JL.q rfl rfl rfl (QW.assign (.tmp rfl)) ?_
  refine JL.nil ?_
  refine thenQ.n ?_
  refine J.seq ?_
  refine J.seq ?_
  refine J.region_lit ?_
  refine JL.q rfl rfl rfl (QW.move (.tmp rfl)) ?_
  refine JL.q rfl rfl rfl (QW.move (.tmp rfl)) ?_
  refine JL.q rfl rfl rfl (QW.eql (.tmp rfl) (.tmp rfl)) ?_
  refine JL.nil ?_
  refine thenQ.n ?_
  refine J.cond (.tmp rfl) (fun c2 => ?_) (fun c2 => ?_)
  · skip
    obtain rfl : i = xs.length := by simp at c2; omega
    refine J.seq ?_
    refine J.region_lit ?_
    refine JL.q rfl rfl rfl (QW.move (.tmp rfl)) ?_
    refine JL.q rfl rfl rfl (QW.move (.tmp rfl)) ?_
    refine JL.append 0 sl23 el9 rfl (.tmp rfl) rfl (srcA_sl sl23 (.tmp rfl)) (by first | omega | (simp; omega)) rfl fun v25 => ?_
    refine JL.isSlice 0 rfl fun hs1 => ?_
    refine JL.q rfl rfl rfl (QW.assign (.tmp rfl)) ?_
    refine JL.nil ?_
    refine thenQ.n ?_
    refine J.ret ?_
    refine thenQ.r ?_
    exact ⟨_, selP [.p] _, _, RetEv.one rfl (REv.tmp rfl (.refl _)), rfl, sel_perm [.p] _, ⟨_, rfl, _, rfl, hs1, by simp; rfl⟩⟩
  · skip
    have hlt : i < xs.length := by simp at c2; omega
    refine J.skip ?_
    refine thenQ.n ?_
    refine J.seq ?_
    refine J.seq ?_
    refine J.lay 0 rfl (fun a0 hv hx => absurd hlt (by rw [hx]; simp)) fun b cap sp hv hcap hsz hfl => ?_
    subst hv
    have hX : xs.flatten.length = xs.length * 1 := flatten_length xs hsz
    have hBl : (xs.flatten ++ sp.map AV.c).length = (cap + 1) * 1 := by rw [List.length_append, List.length_map]; exact hfl
    refine J.region_lit ?_
    refine JL.q rfl rfl rfl (QW.move (.tmp rfl)) ?_
    refine JL.q rfl rfl rfl (QW.move (.tmp rfl)) ?_
    refine JL.q rfl rfl rfl (QW.add (.tmp rfl) (.tmp rfl) (w64n (m := xs.length + 1) (by first | rfl | omega | (simp; done) | (simp; omega)) (by omega))) ?_
    refine JL.q rfl rfl rfl (QW.move (.tmp rfl)) ?_
    refine JL.q rfl rfl rfl (QW.cap_c sl23 (.tmp rfl)) ?_
    refine JL.q rfl rfl rfl (QW.gtr (.tmp rfl) (.tmp rfl)) ?_
    refine JL.nil ?_
    refine thenQ.n ?_
    refine J.cond (.tmp rfl) (fun c3 => ?_) (fun c3 => ?_)
    · skip
      have hgr : cap + 1 < xs.length + 1 := by simp at c3; omega
      refine J.seq ?_
      refine J.region_lit ?_
      refine JL.q rfl rfl rfl (QW.move (.tmp rfl)) ?_
      refine JL.q rfl rfl rfl (QW.move (.tmp rfl)) ?_
      refine JL.q rfl rfl rfl (QW.cutH (h := i) sl23 ty9 (.tmp rfl) (.tmp rfl) rfl (by omega)) ?_
      refine JL.q rfl rfl rfl (QW.move (.tmp rfl)) ?_
      refine JL.q rfl rfl rfl (QW.move (.tmp rfl)) ?_
      refine JL.q rfl rfl rfl (QW.add (.tmp rfl) (.tmp rfl) (w64n (m := xs.length + 1) (by first | rfl | omega | (simp; done) | (simp; omega)) (by omega))) ?_
      refine JL.q rfl rfl rfl (QW.move (.tmp rfl)) ?_
      refine JL.q rfl rfl rfl (QW.sub (.tmp rfl) (.tmp rfl) (w64n (m := xs.length + 1 - i) (by omega) (by omega))) ?_
      refine JL.appMake 0 sl23 iu3 el9 rfl (.tmp rfl) rfl (.tmp rfl) (by omega) (by omega) (by show 0 + i * 1 ≤ _; rw [hBl]; omega) (by rw [show i + (xs.length + 1 - i) = xs.length + 1 by omega]; exact hr) (by unfold reach; omega) rfl fun b2 cap2 tl hc2 hhl htl => ?_
      have hNl : (((xs.flatten ++ sp.map AV.c).drop 0).take (i * 1) ++ tl).length = (cap2 + 1) * 1 := by rw [List.length_append]; exact (congrArg (· + tl.length) hhl).trans htl
      have htl2 : i * 1 + tl.length = (cap2 + 1) * 1 := htl
      have hml : (((xs.flatten ++ sp.map AV.c).drop (i * 1)).take (xs.flatten.length - i * 1)).length = xs.flatten.length - i * 1 := by rw [List.length_take, List.length_drop, hBl]; omega
      refine JL.q rfl rfl rfl (QW.assign (.tmp rfl)) ?_
      refine JL.nil ?_
      refine thenQ.n ?_
      refine J.seq ?_
      refine J.region_lit ?_
      refine JL.q rfl rfl rfl (QW.move (.tmp rfl)) ?_
      refine JL.q rfl rfl rfl (QW.move (.tmp rfl)) ?_
      refine JL.q rfl rfl rfl (QW.cutL (l := i) (off' := i * 1) sl23 ty9 (.tmp rfl) (.tmp rfl) rfl (by omega) (by omega) (by rw [if_neg (by omega)]; omega)) ?_
      refine JL.q rfl rfl rfl (QW.move (.tmp rfl)) ?_
      refine JL.copyN 0 sl23 ty9 (.tmp rfl) rfl (SrcN.one (.tmp rfl) rfl hy) (Nat.min_eq_left (by omega)) (by rw [hNl, hy]; omega) rfl ?_
      refine JL.nil ?_
      refine thenQ.n ?_
      refine J.seq ?_
      refine J.region_tailK 8 mixed (by kernel_rfl) (by kernel_rfl) (by kernel_rfl) rfl ?_
      refine .cons [] rfl rfl rfl (.q rfl (QW.move (.tmp rfl))) ?_
      refine .cons [] rfl rfl rfl (.q rfl (QW.move (.tmp rfl))) ?_
      refine .cons [] rfl rfl rfl (.q rfl (QW.move (.tmp rfl))) ?_
      refine .cons [47, 48] rfl rfl rfl (.q rfl (QW.add (.tmp rfl) (.tmp rfl) (w64n (m := i + 1) (by first | rfl | omega | (simp; done) | (simp; omega)) (by omega)))) ?_
      refine .cons [46, 49] rfl rfl rfl (.q rfl (QW.cutL (l := i + 1) (off' := i * 1 + 1) sl23 ty9 (.tmp rfl) (.tmp rfl) rfl (by omega) (by omega) (by rw [if_neg (by omega)]; omega))) ?_
      refine .cons [] rfl rfl rfl (.q rfl (QW.move (.tmp rfl))) ?_
      refine .cons [] rfl rfl rfl (.q rfl (QW.move (.tmp rfl))) ?_
      refine .cons [51, 52] rfl rfl rfl (.q rfl (QW.cutL (l := i) (off' := i * 1) sl23 ty9 (.tmp rfl) (.tmp rfl) rfl (by omega) (by omega) (by rw [if_neg (by omega)]; omega))) ?_
      refine .nil ?_
      refine JL.copyN 0 sl23 ty9 (.tmp rfl) rfl (SrcN.boxE (i2 := 1) (mm := xs.length - i) (q := xs.flatten.length - i * 1) (.tmp rfl) rfl (by omega) (Nat.le_refl _) (by rw [hBl]; omega)) (Nat.min_eq_left (by omega)) (by rw [splice_length (by rw [hNl, hy]; omega), hNl, hml]; omega) rfl ?_
      refine JL.nil ?_
      refine thenQ.n ?_
      refine J.seq ?_
      refine J.fold 0 (xs.take i ++ [ys] ++ xs.drop i) rfl (v := sv b2 0 (i + (xs.length + 1 - i)) (cap2 + 1)) (by rw [ins_len hi, show i + (xs.length + 1 - i) = xs.length + 1 by omega]) (by rw [ins_len hi]; omega) (ins_sz hsz hy) (by rw [splice_length (by rw [splice_length (by rw [hNl, hy]; omega), hNl, hml]; omega), splice_length (by rw [hNl, hy]; omega), hNl]; rfl) (by rw [ins_flen hsz hy, ins_flat hsz]; exact ins_grow (X := xs.flatten) (sp := sp.map AV.c) (tl := tl) (a := i * 1) (m := 1) (by omega) hy (by omega)) rfl ?_
      refine J.region_lit ?_
      refine JL.q rfl rfl rfl (QW.move (.tmp rfl)) ?_
      refine JL.q rfl rfl rfl (QW.assign (.tmp rfl)) ?_
      refine JL.nil ?_
      refine thenQ.n ?_
      refine J.ret ?_
      refine thenQ.r ?_
      exact ⟨_, selP [.p, .k] _, _, RetEv.one rfl (REv.tmp rfl (.refl _)), rfl, sel_perm [.p, .k] _, ⟨_, rfl, _, rfl, rfl, rfl⟩⟩
    · skip
      have hroom : xs.length + 1 ≤ cap + 1 := by simp at c3; omega
      refine J.skip ?_
      refine thenQ.n ?_
      refine J.seq ?_
      refine J.region_lit ?_
      refine JL.q rfl rfl rfl (QW.move (.tmp rfl)) ?_
      refine JL.q rfl rfl rfl (QW.move (.tmp rfl)) ?_
      refine JL.q rfl rfl rfl (QW.move (.tmp rfl)) ?_
      refine JL.q rfl rfl rfl (QW.add (.tmp rfl) (.tmp rfl) (w64n (m := xs.length + 1) (by first | rfl | omega | (simp; done) | (simp; omega)) (by omega))) ?_
      refine JL.q rfl rfl rfl (QW.cutH (h := xs.length + 1) sl23 ty9 (.tmp rfl) (.tmp rfl) rfl (by omega)) ?_
      refine JL.q rfl rfl rfl (QW.assign (.tmp rfl)) ?_
      refine JL.nil ?_
      refine thenQ.n ?_
      refine J.seq ?_
      refine J.seq ?_
      refine J.region_lit ?_
      refine JL.q rfl rfl rfl (QW.move (.tmp rfl)) ?_
      refine JL.q rfl rfl rfl (QW.move (.tmp rfl)) ?_
      refine JL.q rfl rfl rfl (QW.move (.tmp rfl)) ?_
      refine JL.q rfl rfl rfl (QW.move (.tmp rfl)) ?_
      refine JL.q rfl rfl rfl (QW.add (.tmp rfl) (.tmp rfl) (w64n (m := i + 1) (by first | rfl | omega | (simp; done) | (simp; omega)) (by omega))) ?_
      refine JL.q rfl rfl rfl (QW.cutL (l := i + 1) (off' := i * 1 + 1) sl23 ty9 (.tmp rfl) (.tmp rfl) rfl (by omega) (by omega) (by rw [if_neg (by omega)]; omega)) ?_
      refine JL.q rfl rfl rfl (QW.apart 0 sl23 ty9 overStr (.tmp rfl) (.tmp rfl) rfl (by intro h0; simp at h0; subst h0; simp at hy) (by intro h0; have := congrArg List.length h0; rw [hBl] at this; simp at this)) ?_
      refine JL.q rfl rfl rfl (QW.not (.tmp rfl)) ?_
      refine JL.nil ?_
      refine thenQ.n ?_
      refine J.cond (.tmp rfl) (fun c4 => ?_) (fun c4 => absurd c4 (by simp))
      refine J.seq ?_
      have hml : (((xs.flatten ++ sp.map AV.c).drop (i * 1)).take (xs.flatten.length - i * 1)).length = xs.flatten.length - i * 1 := by rw [List.length_take, List.length_drop, hBl]; omega
      refine J.region_tailK 8 mixed (by kernel_rfl) (by kernel_rfl) (by kernel_rfl) rfl ?_
      refine .cons [] rfl rfl rfl (.q rfl (QW.move (.tmp rfl))) ?_
      refine .cons [] rfl rfl rfl (.q rfl (QW.move (.tmp rfl))) ?_
      refine .cons [] rfl rfl rfl (.q rfl (QW.move (.tmp rfl))) ?_
      refine .cons [70, 71] rfl rfl rfl (.q rfl (QW.add (.tmp rfl) (.tmp rfl) (w64n (m := i + 1) (by first | rfl | omega | (simp; done) | (simp; omega)) (by omega)))) ?_
      refine .cons [69, 72] rfl rfl rfl (.q rfl (QW.cutL (l := i + 1) (off' := i * 1 + 1) sl23 ty9 (.tmp rfl) (.tmp rfl) rfl (by omega) (by omega) (by rw [if_neg (by omega)]; omega))) ?_
      refine .cons [] rfl rfl rfl (.q rfl (QW.move (.tmp rfl))) ?_
      refine .cons [] rfl rfl rfl (.q rfl (QW.move (.tmp rfl))) ?_
      refine .cons [74, 75] rfl rfl rfl (.q rfl (QW.cutL (l := i) (off' := i * 1) sl23 ty9 (.tmp rfl) (.tmp rfl) rfl (by omega) (by omega) (by rw [if_neg (by omega)]; omega))) ?_
      refine .nil ?_
      refine JL.copyN 0 sl23 ty9 (.tmp rfl) rfl (SrcN.boxE (i2 := 0) (mm := xs.length - i) (q := xs.flatten.length - i * 1) (.tmp rfl) rfl (by omega) (by omega) (by rw [hBl]; omega)) (by show min _ _ = _; omega) (by rw [hBl, hml]; omega) rfl ?_
      refine JL.nil ?_
      refine thenQ.n ?_
      refine J.seq ?_
      refine J.region_lit ?_
      refine JL.q rfl rfl rfl (QW.move (.tmp rfl)) ?_
      refine JL.q rfl rfl rfl (QW.move (.tmp rfl)) ?_
      refine JL.q rfl rfl rfl (QW.cutL (l := i) (off' := i * 1) sl23 ty9 (.tmp rfl) (.tmp rfl) rfl (by omega) (by omega) (by rw [if_neg (by omega)]; omega)) ?_
      refine JL.q rfl rfl rfl (QW.move (.tmp rfl)) ?_
      refine JL.copyN 0 sl23 ty9 (.tmp rfl) rfl (SrcN.one (.tmp rfl) rfl hy) (Nat.min_eq_left (by omega)) (by rw [splice_length (by rw [hBl, hml]; omega), hBl, hy]; omega) rfl ?_
      refine JL.nil ?_
      refine thenQ.n ?_
      refine J.seq ?_
      refine J.fold 0 (xs.take i ++ [ys] ++ xs.drop i) rfl (v := sv b 0 (xs.length + 1) (cap + 1)) (by rw [ins_len hi]) (by rw [ins_len hi]; omega) (ins_sz hsz hy) (by rw [splice_length (by rw [splice_length (by rw [hBl, hml]; omega), hBl, hy]; omega), splice_length (by rw [hBl, hml]; omega), hBl]; rfl) (by rw [ins_flen hsz hy, ins_flat hsz]; exact ins_shift (X := xs.flatten) (sp := sp.map AV.c) (a := i * 1) (m := 1) (by omega) hy (by rw [hBl]; omega)) rfl ?_
      refine J.region_lit ?_
      refine JL.q rfl rfl rfl (QW.move (.tmp rfl)) ?_
      refine JL.q rfl rfl rfl (QW.assign (.tmp rfl)) ?_
      refine JL.nil ?_
      refine thenQ.n ?_
      refine J.ret ?_
      refine thenQ.r ?_
      exact ⟨_, selP [.p] _, _, RetEv.one rfl (REv.tmp rfl (.refl _)), rfl, sel_perm [.p] _, ⟨_, rfl, _, rfl, rfl, rfl⟩⟩

theorem overVal : ∀ u v w, (callFunc 136 #[u, v]).run Try.prog w = ((Extern.SlicesOverlaps.overlaps #[24, 24] #[4] #[u, v]).run Try.prog w).andThen fun v w' => .ok (.value v) w' := fun u v w => run_callFunc_extern (P := Try.prog) Try.func136 (by kernel_rfl) (by kernel_rfl) (by kernel_rfl) (by kernel_rfl) _ w
theorem insVal_ok {v : Value} {xs : List (List AV)} {ys : List AV} {i : Nat} {fr clip : Bool} (hi : i ≤ xs.length) (hy : ys.length = 5) (hr : (xs.length + 1) * 80 ≤ reach) : AC Try.prog 112 [.arr v eV xs] [.c v, .c (.int .i64 (i : Int)), .sl fr clip eV [ys]] (RetR (CloneR eV (xs.take i ++ [ys] ++ xs.drop i))) := by
  have hr2 := hr
  unfold reach at hr2
  refine AC.of_J Try.func112 rfl Try.ntmps112 rfl fun w0 A0 => ?_
  refine J.seq ?_
  refine J.region_lit ?_
  refine JL.q rfl rfl rfl (QW.assign .const) ?_
  refine JL.nil ?_
  refine thenQ.n ?_
  refine J.seq ?_
  refine J.region_lit ?_
  refine JL.q rfl rfl rfl (QW.move (.tmp rfl)) ?_
  refine JL.q rfl rfl rfl (QW.move (.tmp rfl)) ?_
  refine JL.cutAny 0 sl24 ty26 (.tmp rfl) rfl (.tmp rfl) rfl hi rfl fun u12 => ?_
  refine JL.nil ?_
  refine thenQ.n ?_
  refine J.seq ?_
  refine J.region_lit ?_
  refine JL.q rfl rfl rfl (QW.move (.tmp rfl)) ?_
  refine JL.q rfl rfl rfl (by first | exact QW.len_sl sl24 (.tmp rfl) | exact QW.len_nil sl24 (.tmp rfl)) ?_
  refine JL.q rfl rfl rfl (QW.assign (.tmp rfl)) ?_
  refine JL.nil ?_
  refine thenQ.n ?_
  refine J.seq ?_
  refine J.seq ?_
  refine J.region_lit ?_
  refine JL.q rfl rfl rfl (QW.move (.tmp rfl)) ?_
  refine JL.q rfl rfl rfl (QW.eql (.tmp rfl) .const) ?_
  refine JL.nil ?_
  refine thenQ.n ?_
  refine J.cond (.tmp rfl) (fun c1 => absurd c1 (by simp)) (fun c1 => ?_)
  refine J.skip ?_
  refine thenQ.n ?_
  refine J.seq ?_
  refine J.region_lit ?_
  refine JL.q rfl rfl rfl (QW.move (.tmp rfl)) ?_
  refine JL.q rfl rfl rfl (QW.len_arr 0 sl24 (.tmp rfl) rfl) ?_
  refine JL.q rfl rfl rfl (QW.assign (.tmp rfl)) ?_
  refine JL.nil ?_
  refine thenQ.n ?_
  refine J.seq ?_
  refine J.seq ?_
  refine J.region_lit ?_
  refine JL.q rfl rfl rfl (QW.move (.tmp rfl)) ?_
  refine JL.q rfl rfl rfl (QW.move (.tmp rfl)) ?_
  refine JL.q rfl rfl rfl (QW.eql (.tmp rfl) (.tmp rfl)) ?_
  refine JL.nil ?_
  refine thenQ.n ?_
  refine J.cond (.tmp rfl) (fun c2 => ?_) (fun c2 => ?_)
  · skip
    obtain rfl : i = xs.length := by simp at c2; omega
    refine J.seq ?_
    refine J.region_lit ?_
    refine JL.q rfl rfl rfl (QW.move (.tmp rfl)) ?_
    refine JL.q rfl rfl rfl (QW.move (.tmp rfl)) ?_
    refine JL.append 0 sl24 el26 rfl (.tmp rfl) rfl (srcA_sl sl24 (.tmp rfl)) (by first | omega | (simp; omega)) rfl fun v25 => ?_
    refine JL.isSlice 0 rfl fun hs1 => ?_
    refine JL.q rfl rfl rfl (QW.assign (.tmp rfl)) ?_
    refine JL.nil ?_
    refine thenQ.n ?_
    refine J.ret ?_
    refine thenQ.r ?_
    exact ⟨_, selP [.p] _, _, RetEv.one rfl (REv.tmp rfl (.refl _)), rfl, sel_perm [.p] _, ⟨_, rfl, _, rfl, hs1, by simp; rfl⟩⟩
  · skip
    have hlt : i < xs.length := by simp at c2; omega
    refine J.skip ?_
    refine thenQ.n ?_
    refine J.seq ?_
    refine J.seq ?_
    refine J.lay 0 rfl (fun a0 hv hx => absurd hlt (by rw [hx]; simp)) fun b cap sp hv hcap hsz hfl => ?_
    subst hv
    have hX : xs.flatten.length = xs.length * 5 := flatten_length xs hsz
    have hBl : (xs.flatten ++ sp.map AV.c).length = (cap + 1) * 5 := by rw [List.length_append, List.length_map]; exact hfl
    refine J.region_lit ?_
    refine JL.q rfl rfl rfl (QW.move (.tmp rfl)) ?_
    refine JL.q rfl rfl rfl (QW.move (.tmp rfl)) ?_
    refine JL.q rfl rfl rfl (QW.add (.tmp rfl) (.tmp rfl) (w64n (m := xs.length + 1) (by first | rfl | omega | (simp; done) | (simp; omega)) (by omega))) ?_
    refine JL.q rfl rfl rfl (QW.move (.tmp rfl)) ?_
    refine JL.q rfl rfl rfl (QW.cap_c sl24 (.tmp rfl)) ?_
    refine JL.q rfl rfl rfl (QW.gtr (.tmp rfl) (.tmp rfl)) ?_
    refine JL.nil ?_
    refine thenQ.n ?_
    refine J.cond (.tmp rfl) (fun c3 => ?_) (fun c3 => ?_)
    · skip
      have hgr : cap + 1 < xs.length + 1 := by simp at c3; omega
      refine J.seq ?_
      refine J.region_lit ?_
      refine JL.q rfl rfl rfl (QW.move (.tmp rfl)) ?_
      refine JL.q rfl rfl rfl (QW.move (.tmp rfl)) ?_
      refine JL.q rfl rfl rfl (QW.cutH (h := i) sl24 ty26 (.tmp rfl) (.tmp rfl) rfl (by omega)) ?_
      refine JL.q rfl rfl rfl (QW.move (.tmp rfl)) ?_
      refine JL.q rfl rfl rfl (QW.move (.tmp rfl)) ?_
      refine JL.q rfl rfl rfl (QW.add (.tmp rfl) (.tmp rfl) (w64n (m := xs.length + 1) (by first | rfl | omega | (simp; done) | (simp; omega)) (by omega))) ?_
      refine JL.q rfl rfl rfl (QW.move (.tmp rfl)) ?_
      refine JL.q rfl rfl rfl (QW.sub (.tmp rfl) (.tmp rfl) (w64n (m := xs.length + 1 - i) (by omega) (by omega))) ?_
      refine JL.appMake 0 sl24 iu3 el26 rfl (.tmp rfl) rfl (.tmp rfl) (by omega) (by omega) (by show 0 + i * 5 ≤ _; rw [hBl]; omega) (by rw [show i + (xs.length + 1 - i) = xs.length + 1 by omega]; exact hr) (by unfold reach; omega) rfl fun b2 cap2 tl hc2 hhl htl => ?_
      have hNl : (((xs.flatten ++ sp.map AV.c).drop 0).take (i * 5) ++ tl).length = (cap2 + 1) * 5 := by rw [List.length_append]; exact (congrArg (· + tl.length) hhl).trans htl
      have htl2 : i * 5 + tl.length = (cap2 + 1) * 5 := htl
      have hml : (((xs.flatten ++ sp.map AV.c).drop (i * 5)).take (xs.flatten.length - i * 5)).length = xs.flatten.length - i * 5 := by rw [List.length_take, List.length_drop, hBl]; omega
      refine JL.q rfl rfl rfl (QW.assign (.tmp rfl)) ?_
      refine JL.nil ?_
      refine thenQ.n ?_
      refine J.seq ?_
      refine J.region_lit ?_
      refine JL.q rfl rfl rfl (QW.move (.tmp rfl)) ?_
      refine JL.q rfl rfl rfl (QW.move (.tmp rfl)) ?_
      refine JL.q rfl rfl rfl (QW.cutL (l := i) (off' := i * 5) sl24 ty26 (.tmp rfl) (.tmp rfl) rfl (by omega) (by omega) (by rw [if_neg (by omega)]; omega)) ?_
      refine JL.q rfl rfl rfl (QW.move (.tmp rfl)) ?_
      refine JL.copyN 0 sl24 ty26 (.tmp rfl) rfl (SrcN.one (.tmp rfl) rfl hy) (Nat.min_eq_left (by omega)) (by rw [hNl, hy]; omega) rfl ?_
      refine JL.nil ?_
      refine thenQ.n ?_
      refine J.seq ?_
      refine J.region_tailK 8 mixed (by kernel_rfl) (by kernel_rfl) (by kernel_rfl) rfl ?_
      refine .cons [] rfl rfl rfl (.q rfl (QW.move (.tmp rfl))) ?_
      refine .cons [] rfl rfl rfl (.q rfl (QW.move (.tmp rfl))) ?_
      refine .cons [] rfl rfl rfl (.q rfl (QW.move (.tmp rfl))) ?_
      refine .cons [47, 48] rfl rfl rfl (.q rfl (QW.add (.tmp rfl) (.tmp rfl) (w64n (m := i + 1) (by first | rfl | omega | (simp; done) | (simp; omega)) (by omega)))) ?_
      refine .cons [46, 49] rfl rfl rfl (.q rfl (QW.cutL (l := i + 1) (off' := i * 5 + 5) sl24 ty26 (.tmp rfl) (.tmp rfl) rfl (by omega) (by omega) (by rw [if_neg (by omega)]; omega))) ?_
      refine .cons [] rfl rfl rfl (.q rfl (QW.move (.tmp rfl))) ?_
      refine .cons [] rfl rfl rfl (.q rfl (QW.move (.tmp rfl))) ?_
      refine .cons [51, 52] rfl rfl rfl (.q rfl (QW.cutL (l := i) (off' := i * 5) sl24 ty26 (.tmp rfl) (.tmp rfl) rfl (by omega) (by omega) (by rw [if_neg (by omega)]; omega))) ?_
      refine .nil ?_
      refine JL.copyN 0 sl24 ty26 (.tmp rfl) rfl (SrcN.boxE (i2 := 1) (mm := xs.length - i) (q := xs.flatten.length - i * 5) (.tmp rfl) rfl (by omega) (Nat.le_refl _) (by rw [hBl]; omega)) (Nat.min_eq_left (by omega)) (by rw [splice_length (by rw [hNl, hy]; omega), hNl, hml]; omega) rfl ?_
      refine JL.nil ?_
      refine thenQ.n ?_
      refine J.seq ?_
      refine J.fold 0 (xs.take i ++ [ys] ++ xs.drop i) rfl (v := sv b2 0 (i + (xs.length + 1 - i)) (cap2 + 1)) (by rw [ins_len hi, show i + (xs.length + 1 - i) = xs.length + 1 by omega]) (by rw [ins_len hi]; omega) (ins_sz hsz hy) (by rw [splice_length (by rw [splice_length (by rw [hNl, hy]; omega), hNl, hml]; omega), splice_length (by rw [hNl, hy]; omega), hNl]; rfl) (by rw [ins_flen hsz hy, ins_flat hsz]; exact ins_grow (X := xs.flatten) (sp := sp.map AV.c) (tl := tl) (a := i * 5) (m := 5) (by omega) hy (by omega)) rfl ?_
      refine J.region_lit ?_
      refine JL.q rfl rfl rfl (QW.move (.tmp rfl)) ?_
      refine JL.q rfl rfl rfl (QW.assign (.tmp rfl)) ?_
      refine JL.nil ?_
      refine thenQ.n ?_
      refine J.ret ?_
      refine thenQ.r ?_
      exact ⟨_, selP [.p, .k] _, _, RetEv.one rfl (REv.tmp rfl (.refl _)), rfl, sel_perm [.p, .k] _, ⟨_, rfl, _, rfl, rfl, rfl⟩⟩
    · skip
      have hroom : xs.length + 1 ≤ cap + 1 := by simp at c3; omega
      refine J.skip ?_
      refine thenQ.n ?_
      refine J.seq ?_
      refine J.region_lit ?_
      refine JL.q rfl rfl rfl (QW.move (.tmp rfl)) ?_
      refine JL.q rfl rfl rfl (QW.move (.tmp rfl)) ?_
      refine JL.q rfl rfl rfl (QW.move (.tmp rfl)) ?_
      refine JL.q rfl rfl rfl (QW.add (.tmp rfl) (.tmp rfl) (w64n (m := xs.length + 1) (by first | rfl | omega | (simp; done) | (simp; omega)) (by omega))) ?_
      refine JL.q rfl rfl rfl (QW.cutH (h := xs.length + 1) sl24 ty26 (.tmp rfl) (.tmp rfl) rfl (by omega)) ?_
      refine JL.q rfl rfl rfl (QW.assign (.tmp rfl)) ?_
      refine JL.nil ?_
      refine thenQ.n ?_
      refine J.seq ?_
      refine J.seq ?_
      refine J.region_lit ?_
      refine JL.q rfl rfl rfl (QW.move (.tmp rfl)) ?_
      refine JL.q rfl rfl rfl (QW.move (.tmp rfl)) ?_
      refine JL.q rfl rfl rfl (QW.move (.tmp rfl)) ?_
      refine JL.q rfl rfl rfl (QW.move (.tmp rfl)) ?_
      refine JL.q rfl rfl rfl (QW.add (.tmp rfl) (.tmp rfl) (w64n (m := i + 1) (by first | rfl | omega | (simp; done) | (simp; omega)) (by omega))) ?_
      refine JL.q rfl rfl rfl (QW.cutL (l := i + 1) (off' := i * 5 + 5) sl24 ty26 (.tmp rfl) (.tmp rfl) rfl (by omega) (by omega) (by rw [if_neg (by omega)]; omega)) ?_
      refine JL.q rfl rfl rfl (QW.apart 0 sl24 ty26 overVal (.tmp rfl) (.tmp rfl) rfl (by intro h0; simp at h0; subst h0; simp at hy) (by intro h0; have := congrArg List.length h0; rw [hBl] at this; simp at this)) ?_
      refine JL.q rfl rfl rfl (QW.not (.tmp rfl)) ?_
      refine JL.nil ?_
      refine thenQ.n ?_
      refine J.cond (.tmp rfl) (fun c4 => ?_) (fun c4 => absurd c4 (by simp))
      refine J.seq ?_
      have hml : (((xs.flatten ++ sp.map AV.c).drop (i * 5)).take (xs.flatten.length - i * 5)).length = xs.flatten.length - i * 5 := by rw [List.length_take, List.length_drop, hBl]; omega
      refine J.region_tailK 8 mixed (by kernel_rfl) (by kernel_rfl) (by kernel_rfl) rfl ?_
      refine .cons [] rfl rfl rfl (.q rfl (QW.move (.tmp rfl))) ?_
      refine .cons [] rfl rfl rfl (.q rfl (QW.move (.tmp rfl))) ?_
      refine .cons [] rfl rfl rfl (.q rfl (QW.move (.tmp rfl))) ?_
      refine .cons [70, 71] rfl rfl rfl (.q rfl (QW.add (.tmp rfl) (.tmp rfl) (w64n (m := i + 1) (by first | rfl | omega | (simp; done) | (simp; omega)) (by omega)))) ?_
      refine .cons [69, 72] rfl rfl rfl (.q rfl (QW.cutL (l := i + 1) (off' := i * 5 + 5) sl24 ty26 (.tmp rfl) (.tmp rfl) rfl (by omega) (by omega) (by rw [if_neg (by omega)]; omega))) ?_
      refine .cons [] rfl rfl rfl (.q rfl (QW.move (.tmp rfl))) ?_
      refine .cons [] rfl rfl rfl (.q rfl (QW.move (.tmp rfl))) ?_
      refine .cons [74, 75] rfl rfl rfl (.q rfl (QW.cutL (l := i) (off' := i * 5) sl24 ty26 (.tmp rfl) (.tmp rfl) rfl (by omega) (by omega) (by rw [if_neg (by omega)]; omega))) ?_
      refine .nil ?_
      refine JL.copyN 0 sl24 ty26 (.tmp rfl) rfl (SrcN.boxE (i2 := 0) (mm := xs.length - i) (q := xs.flatten.length - i * 5) (.tmp rfl) rfl (by omega) (by omega) (by rw [hBl]; omega)) (by show min _ _ = _; omega) (by rw [hBl, hml]; omega) rfl ?_
      refine JL.nil ?_
      refine thenQ.n ?_
      refine J.seq ?_
      refine J.region_lit ?_
      refine JL.q rfl rfl rfl (QW.move (.tmp rfl)) ?_
      refine JL.q rfl rfl rfl (QW.move (.tmp rfl)) ?_
      refine JL.q rfl rfl rfl (QW.cutL (l := i) (off' := i * 5) sl24 ty26 (.tmp rfl) (.tmp rfl) rfl (by omega) (by omega) (by rw [if_neg (by omega)]; omega)) ?_
      refine JL.q rfl rfl rfl (QW.move (.tmp rfl)) ?_
      refine JL.copyN 0 sl24 ty26 (.tmp rfl) rfl (SrcN.one (.tmp rfl) rfl hy) (Nat.min_eq_left (by omega)) (by rw [splice_length (by rw [hBl, hml]; omega), hBl, hy]; omega) rfl ?_
      refine JL.nil ?_
      refine thenQ.n ?_
      refine J.seq ?_
      refine J.fold 0 (xs.take i ++ [ys] ++ xs.drop i) rfl (v := sv b 0 (xs.length + 1) (cap + 1)) (by rw [ins_len hi]) (by rw [ins_len hi]; omega) (ins_sz hsz hy) (by rw [splice_length (by rw [splice_length (by rw [hBl, hml]; omega), hBl, hy]; omega), splice_length (by rw [hBl, hml]; omega), hBl]; rfl) (by rw [ins_flen hsz hy, ins_flat hsz]; exact ins_shift (X := xs.flatten) (sp := sp.map AV.c) (a := i * 5) (m := 5) (by omega) hy (by rw [hBl]; omega)) rfl ?_
      refine J.region_lit ?_
      refine JL.q rfl rfl rfl (QW.move (.tmp rfl)) ?_
      refine JL.q rfl rfl rfl (QW.assign (.tmp rfl)) ?_
      refine JL.nil ?_
      refine thenQ.n ?_
      refine J.ret ?_
      refine thenQ.r ?_
      exact ⟨_, selP [.p] _, _, RetEv.one rfl (REv.tmp rfl (.refl _)), rfl, sel_perm [.p] _, ⟨_, rfl, _, rfl, rfl, rfl⟩⟩

theorem delIt_ok {v : Value} {xs : List (List AV)} {i : Nat} (hi : i < xs.length) (hr : xs.length * 104 ≤ reach) : AC Try.prog 103 [.arr v eIt xs] [.c v, .c (.int .i64 (i : Int)), .c (.int .i64 ((i : Int) + 1))] (RetR (CloneR eIt (xs.take i ++ xs.drop (i + 1)))) := by
  have hr2 := hr
  unfold reach at hr2
  refine AC.of_J Try.func103 rfl Try.ntmps103 rfl fun w0 A0 => ?_
  refine J.seq ?_
  refine J.region_lit ?_
  refine JL.q rfl rfl rfl (QW.assign .const) ?_
  refine JL.nil ?_
  refine thenQ.n ?_
  refine J.seq ?_
  refine J.region_lit ?_
  refine JL.q rfl rfl rfl (QW.move (.tmp rfl)) ?_
  refine JL.q rfl rfl rfl (QW.move (.tmp rfl)) ?_
  refine JL.q rfl rfl rfl (QW.move (.tmp rfl)) ?_
  refine JL.q rfl rfl rfl (QW.move (.tmp rfl)) ?_
  refine JL.q rfl rfl rfl (QW.len_arr 0 sl88 (.tmp rfl) rfl) ?_
  refine JL.cutAny3 (q := i + 1) (mm := xs.length) 0 sl88 ty116 (.tmp rfl) rfl (.tmp rfl) (.tmp rfl) (.tmp rfl) rfl (by omega) rfl (by omega) (by omega) (Nat.le_refl _) rfl fun u13 => ?_
  refine JL.nil ?_
  refine thenQ.n ?_
  refine J.seq ?_
  refine J.seq ?_
  refine J.region_lit ?_
  refine JL.q rfl rfl rfl (QW.move (.tmp rfl)) ?_
  refine JL.q rfl rfl rfl (QW.move (.tmp rfl)) ?_
  refine JL.q rfl rfl rfl (QW.eql (.tmp rfl) (.tmp rfl)) ?_
  refine JL.nil ?_
  refine thenQ.n ?_
  refine J.cond (.tmp rfl) (fun c1 => absurd c1 (by simp; omega)) (fun c1 => ?_)
  refine J.skip ?_
  refine thenQ.n ?_
  refine J.seq ?_
  refine J.region_lit ?_
  refine JL.q rfl rfl rfl (QW.move (.tmp rfl)) ?_
  refine JL.q rfl rfl rfl (QW.len_arr 0 sl88 (.tmp rfl) rfl) ?_
  refine JL.q rfl rfl rfl (QW.assign (.tmp rfl)) ?_
  refine JL.nil ?_
  refine thenQ.n ?_
  refine J.seq ?_
  refine J.lay 0 rfl (fun a0 hv hx => absurd hi (by rw [hx]; simp)) fun b cap sp hv hcap hsz hfl => ?_
  subst hv
  have hX : xs.flatten.length = xs.length * 7 := flatten_length xs hsz
  have hBl : (xs.flatten ++ sp.map AV.c).length = (cap + 1) * 7 := by rw [List.length_append, List.length_map]; exact hfl
  have hzl : (((xs.flatten ++ sp.map AV.c).drop (if cap + 1 = i + 1 then 0 else i * 7 + 7)).take (xs.flatten.length - (i * 7 + 7))).length = xs.flatten.length - (i * 7 + 7) := by rw [List.length_take, List.length_drop, hBl]; split <;> omega
  refine J.region_tailK 6 mixed (by kernel_rfl) (by kernel_rfl) (by kernel_rfl) rfl ?_
  refine .cons [] rfl rfl rfl (.q rfl (QW.move (.tmp rfl))) ?_
  refine .cons [] rfl rfl rfl (.q rfl (QW.move (.tmp rfl))) ?_
  refine .cons [20, 21] rfl rfl rfl (.q rfl (QW.cutH (h := i) sl88 ty116 (.tmp rfl) (.tmp rfl) rfl (by omega))) ?_
  refine .cons [] rfl rfl rfl (.q rfl (QW.move (.tmp rfl))) ?_
  refine .cons [] rfl rfl rfl (.q rfl (QW.move (.tmp rfl))) ?_
  refine .cons [23, 24] rfl rfl rfl (.q rfl (QW.cutL (l := i + 1) (off' := if cap + 1 = i + 1 then 0 else i * 7 + 7) sl88 ty116 (.tmp rfl) (.tmp rfl) (by omega) (by omega) (by omega) (by split <;> omega))) ?_
  refine .nil ?_
  refine JL.appN 0 sl88 sl88 ty116 (.tmp rfl) rfl (SrcN.boxE (i2 := 0) (mm := xs.length - (i + 1)) (q := xs.flatten.length - (i * 7 + 7)) (.tmp rfl) rfl (by omega) (Nat.le_refl _) (by rw [hBl]; split <;> omega)) (by omega) (by show 0 + i * 7 + _ ≤ _; rw [List.length_take, List.length_drop, hBl]; split <;> omega) rfl ?_
  refine JL.q rfl rfl rfl (QW.assign (.tmp rfl)) ?_
  refine JL.nil ?_
  refine thenQ.n ?_
  refine J.seq ?_
  refine J.region_lit ?_
  refine JL.q rfl rfl rfl (QW.move (.tmp rfl)) ?_
  refine JL.q rfl rfl rfl (QW.move (.tmp rfl)) ?_
  refine JL.q rfl rfl rfl (QW.len_c sl88 (.tmp rfl)) ?_
  refine JL.q rfl rfl rfl (QW.move (.tmp rfl)) ?_
  refine JL.q rfl rfl rfl (QW.cutLH (l := i + (xs.length - (i + 1))) (h := xs.length) (off' := (xs.length - 1) * 7) sl88 ty116 (.tmp rfl) (.tmp rfl) (.tmp rfl) rfl rfl (by omega) (by omega) (by rw [if_neg (by omega)]; show 0 + (i + (xs.length - (i + 1))) * 7 = _; omega)) ?_
  refine JL.clearN 0 sl88 el116 (.tmp rfl) rfl (by rw [splice_length (by rw [hBl, hzl]; omega), hBl]; show (xs.length - 1) * 7 + _ * 7 ≤ _; omega) fun zs hzs => ?_
  refine JL.nil ?_
  refine thenQ.n ?_
  refine J.seq ?_
  have hze : ((xs.flatten ++ sp.map AV.c).drop (if cap + 1 = i + 1 then 0 else i * 7 + 7)).take (xs.flatten.length - (i * 7 + 7)) = ((xs.flatten ++ sp.map AV.c).drop (i * 7 + 7)).take (xs.flatten.length - (i * 7 + 7)) := by
    split
    · rw [show xs.flatten.length - (i * 7 + 7) = 0 by omega, List.take_zero, List.take_zero]
    · rfl
  have hzs2 : zs.length = 7 := hzs.trans (by show (xs.length - (i + (xs.length - (i + 1)))) * 7 = 7; rw [show xs.length - (i + (xs.length - (i + 1))) = 1 by omega])
  have hxl : (xs.take i ++ xs.drop (i + 1)).length = xs.length - 1 := by simp; omega
  have hxf : (xs.take i ++ xs.drop (i + 1)).flatten.length = xs.flatten.length - 7 := by rw [del_flat (sz := 7) hsz, List.length_append, List.length_take, List.length_drop]; omega
  have hl1 : (splice (xs.flatten ++ sp.map AV.c) (i * 7) (((xs.flatten ++ sp.map AV.c).drop (i * 7 + 7)).take (xs.flatten.length - (i * 7 + 7)))).length = (cap + 1) * 7 := by rw [splice_length (by rw [← hze, hzl, hBl]; omega), hBl]
  refine J.reown (own' := [.box b (splice (splice (xs.flatten ++ sp.map AV.c) (i * 7) (((xs.flatten ++ sp.map AV.c).drop (i * 7 + 7)).take (xs.flatten.length - (i * 7 + 7)))) (xs.flatten.length - 7) zs)]) (Reown.ofEq (by rw [← hze, show xs.flatten.length - 7 = (xs.length - 1) * 7 by omega]; show [Own.box b (splice (splice _ (0 + i * 7) _) _ _)] = _; rw [Nat.zero_add])) ?_
  refine J.fold 0 (xs.take i ++ xs.drop (i + 1)) rfl (v := sv b 0 (i + (xs.length - (i + 1))) (cap + 1)) (by rw [hxl, show i + (xs.length - (i + 1)) = xs.length - 1 by omega]) (by omega) (fun x hx => (List.mem_append.1 hx).elim (fun h => hsz x (List.mem_of_mem_take h)) (fun h => hsz x (List.mem_of_mem_drop h))) (by rw [splice_length (by rw [hl1, hzs2]; omega), hl1]; rfl) (by rw [hxf, del_flat (sz := 7) hsz]; exact del_shift (X := xs.flatten) (sp := sp.map AV.c) (a := i * 7) (m := 7) (by omega) hzs2) rfl ?_
  refine J.region_lit ?_
  refine JL.q rfl rfl rfl (QW.move (.tmp rfl)) ?_
  refine JL.q rfl rfl rfl (QW.assign (.tmp rfl)) ?_
  refine JL.nil ?_
  refine thenQ.n ?_
  refine J.ret ?_
  exact ⟨_, selP [.p] _, _, RetEv.one rfl (REv.tmp rfl (.refl _)), rfl, sel_perm [.p] _, ⟨_, rfl, _, rfl, rfl, rfl⟩⟩

end Go.Proofs.Ytkiankpmkglhcaa.J

/- Walks: the queue and the page's queue. -/
namespace Go.Proofs.Ytkiankpmkglhcaa.J
open Go Go.RowKit
set_option linter.unusedVariables false
set_option linter.unusedSimpArgs false
set_option maxRecDepth 10000
set_option maxHeartbeats 4000000

theorem fill_ev {c a0 a1 a2 a3 a4 a5 : AV} {z : List AV} (hz : z.length = 5) : fillA ([(0, 1), (1, 5)].toArray[·]?) [a0, a1, a2, a3, a4, a5] [(0, [c]), (1, z)] = some (c :: z) := by
  have h1 : splice [c, a1, a2, a3, a4, a5] 1 z = c :: z := by
    rw [splice_succ, splice_all (by rw [hz]; rfl)]
  simp [fillA, splice_zero, hz, h1]
theorem ev_take {l : List EvT} {j : Nat} (h : j < l.length) : EvT.css true (l.take j) ++ [EvT.cs true l[j]] = EvT.css true (l.take (j + 1)) := by rw [List.take_succ_eq_append_getElem h, EvT.css_append]; rfl
theorem fill_one {e : ETy} {base z : List AV} (hz : z.length = e.sz) (hb : base.length = e.sz := by rfl) : fillA (fun i => some (i * e.sz, e.sz)) base [(0, z)] = some [z].flatten := by
  have h1 : splice base 0 z = z := splice_all (by rw [hz, hb])
  have h2 : Nat.ble e.sz e.sz = true := Nat.ble_eq_true_of_le (Nat.le_refl _)
  simp [fillA, hz, hb, h1, h2]
theorem all_one {e : ETy} {z : List AV} (hz : z.length = e.sz) : (([z] : List (List AV)).all fun x => Nat.beq x.length e.sz) = true := by simp [hz]

theorem revents_own {fr c : Bool} {l : List EvT} (hl : EvT.wfs l) : AC Try.prog 91 [] [.sl fr c eEv (EvT.css fr l)] (RetR (CloneR eEv (EvT.css true l))) := by
  have hlen := hl.len
  have hl1 := hl.1
  refine AC.of_J Try.func91 rfl Try.ntmps91 rfl fun w0 A0 => ?_
  refine J.seq ?_
  refine J.region_lit ?_
  refine JL.q rfl rfl rfl (QW.assign .const) ?_
  refine JL.nil ?_
  refine thenQ.n ?_
  refine J.seq ?_
  refine J.region_lit ?_
  refine JL.q rfl rfl rfl (QW.assign .const) ?_
  refine JL.nil ?_
  refine thenQ.n ?_
  refine J.seq ?_
  refine J.seq ?_
  refine J.region_lit ?_
  refine JL.q rfl rfl rfl (QW.assign .const) ?_
  refine JL.nil ?_
  refine thenQ.n ?_
  refine J.block ?_
  refine J.reown (Reown.nilArrE eEv _) ?_
  refine J.loopK (ι := Nat × Value) [0, 2] (fun ⟨j, v⟩ => [(4, .c (.int .i64 (j : Int))), (3, .c v)]) (fun ⟨j, v⟩ oo => List.set oo 0 (.arr v eEv (EvT.css true (l.take j)))) (fun ⟨j, v⟩ => j ≤ l.length) (fun ⟨j, v⟩ => l.length - j) ⟨0, .slice none 0 0⟩ (Nat.zero_le _) (Wk.re (.cons rfl (.refl _) (.cons rfl (.refl _) (.cons rfl (.refl _) (.cons rfl (.refl _) .nil)))) (Reown.refl _) (fun _ h => by first | exact h | simp [h])) ?_
  intro ⟨j, v⟩ hj
  refine J.conv (by (try simp only [stepsO, List.map_cons, List.map_nil, valO, nthO, curO, mrg, List.reverse_cons, List.reverse_nil, List.nil_append, List.cons_append, List.append_nil, List.getElem?_cons_zero, List.getElem?_cons_succ, Option.map_some, Option.getD_some, List.set_cons_zero, List.set_cons_succ, AV.cellsOf, splice_zero, splice_succ, Nat.zero_add, Nat.reduceAdd]); rfl) ?_
  refine J.seq ?_
  refine J.seq ?_
  refine J.region_lit ?_
  refine JL.q rfl rfl rfl (QW.move (.tmp rfl)) ?_
  refine JL.q rfl rfl rfl (QW.move (.tmp rfl)) ?_
  refine JL.q rfl rfl rfl (by first | exact QW.len_sl sl56 (.tmp rfl) | exact QW.len_nil sl56 (.tmp rfl)) ?_
  refine JL.q rfl rfl rfl (QW.lss (.tmp rfl) (.tmp rfl)) ?_
  refine JL.nil ?_
  refine thenQ.n ?_
  refine J.cond (.tmp rfl) (fun c1 => ?_) (fun c1 => ?_)
  · skip
    have hlt : j < l.length := by simpa [EvT.css_length] using c1
    refine J.skip ?_
    refine thenQ.n ?_
    refine J.seq ?_
    refine J.block ?_
    refine J.region_tailK 14 mixed (by kernel_rfl) (by kernel_rfl) (by kernel_rfl) rfl ?_
    refine .cons [] rfl rfl rfl (.q rfl (QW.move (.tmp rfl))) ?_
    refine .cons [] rfl rfl rfl (.q rfl (QW.move (.tmp rfl))) ?_
    refine .cons [] rfl rfl rfl (.q rfl (QW.move (.tmp rfl))) ?_
    refine .cons [12, 13] rfl rfl rfl (.q rfl (QW.index_sl sl56 ty70 rfl (.tmp rfl) (.tmp rfl) (by first | rfl | omega | (simp; done)) (by exact EvT.css_getE _ hlt))) ?_
    refine .cons [14] rfl rfl rfl (.q rfl (QW.field_ref fo70_0 (.tmp rfl) rfl)) ?_
    refine .cons [15] rfl rfl rfl (.q rfl (QW.load_ref1 ty9 (.tmp rfl) rfl)) ?_
    refine .cons [] rfl rfl rfl (.q rfl (QW.move (.tmp rfl))) ?_
    refine .cons [] rfl rfl rfl (.q rfl (QW.move (.tmp rfl))) ?_
    refine .cons [17, 18] rfl rfl rfl (.q rfl (QW.index_sl sl56 ty70 rfl (.tmp rfl) (.tmp rfl) (by first | rfl | omega | (simp; done)) (by exact EvT.css_getE _ hlt))) ?_
    refine .cons [19] rfl rfl rfl (.q rfl (QW.field_ref fo70_1 (.tmp rfl) rfl)) ?_
    refine .cons [20] rfl rfl rfl (.q rfl (by first | exact QW.load_ref ty26 (.tmp rfl) rfl rfl | exact QW.load_ref ty26 (.tmp rfl) (take_at0 (V.cs_length _ _) rfl) (V.cs_length _ _))) ?_
    refine .cons [21] rfl rfl rfl (.q rfl (QW.call gofn79 (.cons (.tmp rfl) .nil) (rown_rd Vc.self (hl.2 _ (List.getElem_mem hlt)).arg))) ?_
    refine .cons [16, 22] rfl rfl rfl (.q rfl (QW.build (idx := [0, 1]) pl70 z70 rfl (.cons (.tmp rfl) (.cons (.tmp rfl) .nil)) rfl rfl rfl (by exact fill_ev (V.cs_length _ _)))) ?_
    refine .cons [23] rfl rfl rfl (.q rfl (QW.buildSlice (idx := [0]) (xs := [EvT.cs true l[j]]) sl56 el70 z70 rfl (.cons (.tmp rfl) .nil) rfl rfl rfl rfl rfl (by exact fill_one (EvT.cs_length _ _)) rfl (all_one (EvT.cs_length _ _)) rfl)) ?_
    refine .nil ?_
    refine JL.append 0 sl56 el70 rfl (.tmp rfl) rfl (srcA_sl sl56 (.tmp rfl)) (by rw [EvT.css_length, List.length_take]; simp; unfold reach at *; omega) rfl fun v25 => ?_
    refine JL.q rfl rfl rfl (QW.assign (.tmp rfl)) ?_
    refine JL.nil ?_
    refine blkQ.n ?_
    refine thenQ.n ?_
    refine J.region_lit ?_
    refine JL.q rfl rfl rfl (QW.move (.tmp rfl)) ?_
    refine JL.q rfl rfl rfl (QW.add (.tmp rfl) .const (by first | exact w64n (by first | rfl | omega | (simp; done)) (by omega) | exact w64 (by omega) | rfl)) ?_
    refine JL.q rfl rfl rfl (QW.assign (.tmp rfl)) ?_
    refine JL.nil ?_
    refine thenQ.n ?_
    exact ⟨⟨j + 1, v25⟩, hlt, by show l.length - (j + 1) < l.length - j; omega, Wk.re (.cons rfl (.refl _) (.cons rfl (.refl _) (.cons rfl (.refl _) (.cons rfl (.refl _) .nil)))) (Reown.ofEq (congrArg (fun z => [Own.arr v25 eEv z]) (ev_take hlt))) (fun _ h => by first | exact h | simp [h])⟩
  · skip
    have hge : l.length ≤ j := by simpa [EvT.css_length] using c1
    refine J.exit ?_
    refine thenQ.x ?_
    refine thenQ.x ?_
    refine blkQ.hit ?_
    refine thenQ.n ?_
    refine J.seq ?_
    refine J.isSlice 0 rfl fun hs1 => ?_
    refine J.region_lit ?_
    refine JL.q rfl rfl rfl (QW.move (.tmp rfl)) ?_
    refine JL.q rfl rfl rfl (QW.assign (.tmp rfl)) ?_
    refine JL.nil ?_
    refine thenQ.n ?_
    refine J.ret ?_
    obtain rfl : j = l.length := by omega
    rw [List.take_length]
    exact ⟨_, selP [.p] _, _, RetEv.one rfl (REv.tmp rfl (.refl _)), rfl, sel_perm [.p] _, ⟨_, rfl, _, rfl, hs1, rfl⟩⟩

theorem Fn.ofClone {P : Program} {f : FuncId} {xs : List AV} {e : ETy} {ys : List (List AV)} (hr : ys.length * e.bytes ≤ reach) (h : AC P f [] xs (RetR (CloneR e ys))) : Fn P f xs (.sl true false e ys) :=
  Fn.close h fun x o ⟨v, hx, _, ho⟩ => by
    subst hx ho
    exact ⟨[(v, .sl true false e ys)], fun w A hok hb p hp => Clos.arr hr w A (hok _ (by simp)) (fun b hb' => hb b (by simpa [fps_cons, fps_nil] using hb')) p hp, .fact (by simp) (.refl _)⟩
theorem revents_ok {fr c : Bool} {l : List EvT} (hl : EvT.wfs l) : Fn Try.prog 91 [.sl fr c eEv (EvT.css fr l)] (evsAV l) := .ofClone (by rw [EvT.css_length]; exact hl.1) (revents_own hl)

theorem cloneEv_ok {fr c : Bool} (xs : List (List AV)) (hr : xs.length * 96 ≤ reach) : AC Try.prog 123 [] [.sl fr c eEv xs] (RetR (CloneR eEv xs)) := by
  refine AC.of_J Try.func123 rfl Try.ntmps123 rfl fun w0 A0 => ?_
  refine J.seq ?_
  refine J.region_lit ?_
  refine JL.q rfl rfl rfl (QW.assign .const) ?_
  refine JL.nil ?_
  refine thenQ.n ?_
  refine J.seq ?_
  refine J.seq ?_
  refine J.region_lit ?_
  refine JL.q rfl rfl rfl (QW.move (.tmp rfl)) ?_
  refine JL.eqnil sl56 (.tmp rfl) .const rfl fun n4 hn4 => ?_
  refine JL.nil ?_
  refine thenQ.n ?_
  refine J.cond (.tmp rfl) (fun c1 => ?_) (fun c1 => ?_)
  · skip
    refine J.seq ?_
    refine J.reown (Reown.nilArrE eEv _) ?_
    refine J.region_lit ?_
    refine JL.q rfl rfl rfl (QW.assign .const) ?_
    refine JL.nil ?_
    refine thenQ.n ?_
    refine J.ret ?_
    refine thenQ.r ?_
    obtain rfl : xs = [] := hn4 c1
    exact ⟨_, selP [.p] _, _, RetEv.one rfl (REv.tmp rfl (.refl _)), rfl, sel_perm [.p] _, ⟨_, rfl, _, rfl, rfl, rfl⟩⟩
  · skip
    refine J.skip ?_
    refine thenQ.n ?_
    refine J.seq ?_
    refine J.region_lit ?_
    refine JL.buildSlice0 sl56 el70 rfl rfl fun v5 => ?_
    refine JL.q rfl rfl rfl (QW.move (.tmp rfl)) ?_
    refine JL.append 0 sl56 el70 rfl (.tmp rfl) rfl (srcA_sl sl56 (.tmp rfl)) (by simpa using hr) rfl fun v7 => ?_
    refine JL.isSlice 0 rfl fun hs1 => ?_
    refine JL.q rfl rfl rfl (QW.assign (.tmp rfl)) ?_
    refine JL.nil ?_
    refine thenQ.n ?_
    refine J.ret ?_
    exact ⟨_, selP [.p] _, _, RetEv.one rfl (REv.tmp rfl (.refl _)), rfl, sel_perm [.p] _, ⟨_, rfl, _, rfl, hs1, rfl⟩⟩

theorem ev_get {l : List EvT} {j : Nat} (fr : Bool) (h : j < l.length) : (EvT.css true (l.take j) ++ EvT.css fr (l.drop j))[j]? = some (EvT.cs fr l[j]) := by
  have hc : (EvT.css true (l.take j)).length = j := by rw [EvT.css_length, List.length_take]; omega
  rw [List.getElem?_append_right (by omega), hc, Nat.sub_self, List.drop_eq_getElem_cons h]; rfl
theorem ev_set {l : List EvT} {j : Nat} {fr : Bool} (h : j < l.length) : (EvT.css true (l.take j) ++ EvT.css fr (l.drop j)).set j (EvT.cs true l[j]) = EvT.css true (l.take (j + 1)) ++ EvT.css fr (l.drop (j + 1)) := by
  have hc : (EvT.css true (l.take j)).length = j := by rw [EvT.css_length, List.length_take]; omega
  rw [List.set_append_right _ _ (by omega), hc, Nat.sub_self, List.drop_eq_getElem_cons h, List.take_succ_eq_append_getElem h, EvT.css_append]
  simp only [EvT.css, List.map_cons, List.map_nil, List.set_cons_zero, List.append_assoc, List.cons_append, List.nil_append]
theorem ev_splice {fr : Bool} {e : EvT} : splice (e.cs fr) 1 (e.arg.cs true) = e.cs true := by
  unfold EvT.cs
  rw [splice_succ, splice_all (by rw [V.cs_length, V.cs_length])]

theorem qclone_own {fr c : Bool} {l : List EvT} (hl : EvT.wfs l) : AC Try.prog 85 [] [.sl fr c eEv (EvT.css fr l)] (RetR (CloneR eEv (EvT.css true l))) := by
  have hlen := hl.len
  have hl1 := hl.1
  refine AC.of_J Try.func85 rfl Try.ntmps85 rfl fun w0 A0 => ?_
  refine J.seq ?_
  refine J.region_lit ?_
  refine JL.q rfl rfl rfl (QW.assign .const) ?_
  refine JL.nil ?_
  refine thenQ.n ?_
  refine J.seq ?_
  refine J.region_lit ?_
  refine JL.q rfl rfl rfl (QW.move (.tmp rfl)) ?_
  refine JL.callRF [] gofn123 rfl Lent.nil (fun _ => (.cons (.tmp rfl) .nil)) (cloneEv_ok _ (by rw [EvT.css_length]; exact hl1)) (.inl rfl) fun x6 o6 h6 => ?_
  obtain ⟨v6, rfl, hs1, rfl⟩ := h6
  refine JL.q rfl rfl rfl (QW.assign (.tmp rfl)) ?_
  refine JL.nil ?_
  refine thenQ.n ?_
  refine J.seq ?_
  refine J.seq ?_
  refine J.region_lit ?_
  refine JL.q rfl rfl rfl (QW.move (.tmp rfl)) ?_
  refine JL.q rfl rfl rfl (QW.len_arr 0 sl56 (.tmp rfl) rfl) ?_
  refine JL.q rfl rfl rfl (QW.move .const) ?_
  refine JL.nil ?_
  refine thenQ.n ?_
  refine J.block ?_
  refine J.loopK (ι := Nat) [0, 2, 7, 8] (fun j => [(9, .c (.int .i64 (j : Int)))]) (fun j oo => List.set oo 0 (.arr v6 eEv (EvT.css true (l.take j) ++ EvT.css fr (l.drop j)))) (fun j => j ≤ l.length) (fun j => l.length - j) 0 (Nat.zero_le _) (Wk.re (.cons rfl (.refl _) (.cons rfl (.refl _) (.cons rfl (.refl _) (.cons rfl (.refl _) (.cons rfl (.refl _) .nil))))) (Reown.refl _) (fun _ h => by first | exact h | simp [h])) ?_
  intro j hj
  refine J.conv (by (try simp only [stepsO, List.map_cons, List.map_nil, valO, nthO, curO, mrg, List.reverse_cons, List.reverse_nil, List.nil_append, List.cons_append, List.append_nil, List.getElem?_cons_zero, List.getElem?_cons_succ, Option.map_some, Option.getD_some, List.set_cons_zero, List.set_cons_succ, AV.cellsOf, splice_zero, splice_succ, Nat.zero_add, Nat.reduceAdd]); rfl) ?_
  refine J.seq ?_
  refine J.region_lit ?_
  refine JL.q rfl rfl rfl (QW.lss (.tmp rfl) (.tmp rfl)) ?_
  refine JL.nil ?_
  refine thenQ.n ?_
  refine J.seq ?_
  refine J.cond (.tmp rfl) (fun c1 => ?_) (fun c1 => ?_)
  · skip
    have hlt : j < l.length := by simpa [EvT.css_length] using c1
    refine J.skip ?_
    refine thenQ.n ?_
    refine J.seq ?_
    refine J.block ?_
    refine J.seq ?_
    refine J.region_lit ?_
    refine JL.q rfl rfl rfl (QW.move (.tmp rfl)) ?_
    refine JL.q rfl rfl rfl (QW.index_arr 0 sl56 ty70 rfl (.tmp rfl) rfl (.tmp rfl) (by first | rfl | omega | (simp; done)) (by simp [EvT.css_length]; omega) rfl) ?_
    refine JL.q rfl rfl rfl (by first | exact QW.load_gp 0 ty70 (.tmp rfl) rfl (by exact ev_get _ hlt) rfl rfl rfl | exact QW.load_gp (o := 0) 0 ty70 (.tmp rfl) rfl (by exact ev_get _ hlt) rfl rfl rfl | exact QW.load_gp (o := 1) 0 ty70 (.tmp rfl) rfl (by exact ev_get _ hlt) rfl rfl rfl | exact QW.load_gp (o := 2) 0 ty70 (.tmp rfl) rfl (by exact ev_get _ hlt) rfl rfl rfl | exact QW.load_gp 0 ty70 (.tmp rfl) rfl (by exact ev_get _ hlt) rfl (take_full (EvT.cs_length _ _)) (EvT.cs_length _ _)) ?_
    refine JL.alloc z70 rfl rfl fun b4 => ?_
    refine JL.q rfl rfl rfl (QW.assign (.tmp rfl)) ?_
    first | refine JL.store_boxF 0 ty70 (.tmp rfl) rfl (.tmp rfl) (by first | rfl | assumption) (rfl) (rfl) rfl ?_ | refine JL.store_boxF 0 ty70 (.tmp rfl) rfl (.tmp rfl) (by first | rfl | assumption) (rfl) (EvT.cs_length _ _) rfl ?_ | refine JL.store_boxF 0 ty70 (.tmp rfl) rfl (.tmp rfl) (by first | rfl | assumption) (EvT.cs_length _ _) (rfl) rfl ?_ | refine JL.store_boxF 0 ty70 (.tmp rfl) rfl (.tmp rfl) (by first | rfl | assumption) (EvT.cs_length _ _) (EvT.cs_length _ _) rfl ?_ | refine JL.store_box 0 ty70 (.tmp rfl) rfl (.tmp rfl) (by first | rfl | assumption) rfl rfl rfl rfl ?_ | refine JL.store_box 0 ty70 (.tmp rfl) rfl (.tmp rfl) (by first | rfl | assumption) (EvT.cs_length _ _) rfl rfl rfl ?_
    refine JL.nil ?_
    refine thenQ.n ?_
    refine J.region_lit ?_
    refine JL.q rfl rfl rfl (QW.move (.tmp rfl)) ?_
    refine JL.q rfl rfl rfl (QW.move (.tmp rfl)) ?_
    refine JL.q rfl rfl rfl (QW.field_ptr fo70_1 (.tmp rfl) rfl) ?_
    refine JL.q rfl rfl rfl (by first | exact QW.load_box 0 ty26 (.tmp rfl) rfl rfl rfl | exact QW.load_box 0 ty26 (.tmp rfl) rfl (take_at (V.cs_length _ _) rfl) (V.cs_length _ _)) ?_
    refine JL.q rfl rfl rfl (QW.call gofn77 (.cons (.tmp rfl) .nil) (clone_rd Vc.self (hl.2 _ (List.getElem_mem hlt)).arg)) ?_
    refine JL.q rfl rfl rfl (QW.index_arr 1 sl56 ty70 rfl (.tmp rfl) rfl (.tmp rfl) (by first | rfl | omega | (simp; done)) (by simp [EvT.css_length]; omega) rfl) ?_
    refine JL.q rfl rfl rfl (QW.field_gp fo70_1 (.tmp rfl) rfl) ?_
    refine JL.store_gp (o := 1) 1 ty26 (.tmp rfl) rfl (ev_get fr hlt) rfl (.tmp rfl) rfl (V.cs_length _ _) rfl ((congrArg (List.set _ _) ev_splice).trans (ev_set hlt)) rfl ?_
    refine JL.nil ?_
    refine blkQ.n ?_
    refine thenQ.n ?_
    refine J.region_lit ?_
    refine JL.q rfl rfl rfl (QW.add (.tmp rfl) .const (by first | exact w64n (by first | rfl | omega | (simp; done)) (by omega) | exact w64 (by omega) | rfl)) ?_
    refine JL.q rfl rfl rfl (QW.move (.tmp rfl)) ?_
    refine JL.nil ?_
    refine thenQ.n ?_
    exact ⟨j + 1, hlt, by omega, Wk.re (.cons rfl (.refl _) (.cons rfl (.refl _) (.cons rfl (.refl _) (.cons rfl (.refl _) (.cons rfl (.refl _) .nil))))) (Reown.dropN 1 _ rfl) (fun _ h => by first | exact h | simp [h])⟩
  · skip
    have hge : l.length ≤ j := by simpa [EvT.css_length] using c1
    refine J.exit ?_
    refine thenQ.x ?_
    refine thenQ.x ?_
    refine blkQ.hit ?_
    refine thenQ.n ?_
    refine J.seq ?_
    refine J.region_lit ?_
    refine JL.q rfl rfl rfl (QW.move (.tmp rfl)) ?_
    refine JL.q rfl rfl rfl (QW.assign (.tmp rfl)) ?_
    refine JL.nil ?_
    refine thenQ.n ?_
    refine J.ret ?_
    obtain rfl : j = l.length := by omega
    rw [List.take_length, List.drop_length]
    exact ⟨_, selP [.p] _, _, RetEv.one rfl (REv.tmp rfl (.refl _)), rfl, sel_perm [.p] _, ⟨_, rfl, _, rfl, hs1, by simp [EvT.css]; rfl⟩⟩

theorem qclone_ok {fr c : Bool} {l : List EvT} (hl : EvT.wfs l) : Fn Try.prog 85 [.sl fr c eEv (EvT.css fr l)] (evsAV l) := .ofClone (by rw [EvT.css_length]; exact hl.1) (qclone_own hl)

theorem clipEv_ok {fr c : Bool} (xs : List (List AV)) : Fn Try.prog 86 [.sl fr c eEv xs] (.sl fr true eEv xs) := by
  refine AC.of_J Try.func86 rfl Try.ntmps86 rfl fun w0 A0 => ?_
  refine J.seq ?_
  refine J.region_lit ?_
  refine JL.q rfl rfl rfl (QW.assign .const) ?_
  refine JL.nil ?_
  refine thenQ.n ?_
  refine J.seq ?_
  refine J.region_lit ?_
  refine JL.q rfl rfl rfl (QW.move (.tmp rfl)) ?_
  refine JL.q rfl rfl rfl (QW.move (.tmp rfl)) ?_
  refine JL.q rfl rfl rfl (by first | exact QW.len_sl sl56 (.tmp rfl) | exact QW.len_nil sl56 (.tmp rfl)) ?_
  refine JL.q rfl rfl rfl (QW.move (.tmp rfl)) ?_
  refine JL.q rfl rfl rfl (by first | exact QW.len_sl sl56 (.tmp rfl) | exact QW.len_nil sl56 (.tmp rfl)) ?_
  refine JL.q rfl rfl rfl (QW.slice3_H sl56 ty70 rfl (.tmp rfl) (.tmp rfl) (.tmp rfl) (by first | rfl | omega | (simp; done)) (by first | rfl | omega | (simp; done)) (Nat.le_refl _)) ?_
  refine JL.q rfl rfl rfl (QW.assign (.tmp rfl)) ?_
  refine JL.nil ?_
  refine thenQ.n ?_
  refine J.ret ?_
  exact ⟨_, selP [] _, _, RetEv.one rfl (REv.tmp rfl (.refl _)), rfl, sel_perm [] _, ⟨by rw [List.take_length], rfl⟩⟩

theorem split_ok {fr c : Bool} {l : List EvT} {k : Nat} (hk : k ≤ l.length) : Fn Try.prog 87 [.sl fr c eEv (EvT.css fr l), .c (.int .i64 (k : Int))] (.tup [.sl fr false eEv (EvT.css fr (l.take k)), .sl fr c eEv (EvT.css fr (l.drop k))]) := by
  refine AC.of_J Try.func87 rfl Try.ntmps87 rfl fun w0 A0 => ?_
  refine J.seq ?_
  refine J.region_lit ?_
  refine JL.q rfl rfl rfl (QW.assign .const) ?_
  refine JL.q rfl rfl rfl (QW.assign .const) ?_
  refine JL.nil ?_
  refine thenQ.n ?_
  refine J.seq ?_
  refine J.region_tailK 7 mixed (by kernel_rfl) (by kernel_rfl) (by kernel_rfl) rfl ?_
  refine .cons [] rfl rfl rfl (.q rfl (QW.move (.tmp rfl))) ?_
  refine .cons [] rfl rfl rfl (.q rfl (QW.move (.tmp rfl))) ?_
  refine .cons [6, 7] rfl rfl rfl (.q rfl (QW.slice_H sl56 ty70 rfl (.tmp rfl) (.tmp rfl) (by first | rfl | omega | (simp; done)) (by rw [EvT.css_length]; exact hk))) ?_
  refine .cons [] rfl rfl rfl (.q rfl (QW.move (.tmp rfl))) ?_
  refine .cons [] rfl rfl rfl (.q rfl (QW.move (.tmp rfl))) ?_
  refine .cons [9, 10] rfl rfl rfl (.q rfl (QW.slice_L sl56 ty70 rfl (.tmp rfl) (.tmp rfl) (by first | rfl | omega | (simp; done)) (by rw [EvT.css_length]; exact hk))) ?_
  refine .cons [8] rfl rfl rfl (.q rfl (QW.assign (.tmp rfl))) ?_
  refine .nil ?_
  refine JL.q rfl rfl rfl (QW.assign (.tmp rfl)) ?_
  refine JL.nil ?_
  refine thenQ.n ?_
  refine J.ret ?_
  exact ⟨_, selP [] _, _, RetEv.two rfl (REv.tmp rfl (.refl _)) (REv.tmp rfl (.refl _)), rfl, sel_perm [] _, ⟨by rw [EvT.css_take, EvT.css_drop], rfl⟩⟩

theorem qnew_ok (n : Int) : Fn Try.prog 37 [.c (.int .i64 n)] (.tup [if n < 1 ∨ 64 < n then QT.nil.av else (QT.mk n 0 []).av, .c (.int .i64 (if n < 1 ∨ 64 < n then 4 else 0))]) := by
  refine AC.of_J Try.func37 rfl Try.ntmps37 rfl fun w0 A0 => ?_
  refine J.seq ?_
  refine J.region_lit ?_
  refine JL.alloc z58 rfl rfl fun b2 => ?_
  refine JL.q rfl rfl rfl (QW.assign .const) ?_
  refine JL.nil ?_
  refine thenQ.n ?_
  refine J.seq ?_
  refine J.seq ?_
  refine J.region_lit ?_
  refine JL.q rfl rfl rfl (QW.move (.tmp rfl)) ?_
  refine JL.q rfl rfl rfl (QW.lss (.tmp rfl) .const) ?_
  refine JL.q rfl rfl rfl (QW.move (.tmp rfl)) ?_
  refine JL.g rfl rfl rfl rfl rfl (fun hg => (QW.move (.tmp rfl))) ?_
  refine JL.g rfl rfl rfl rfl rfl (fun hg => (QW.gtr (.when rfl hg) .const)) ?_
  refine JL.q rfl rfl rfl (QW.pick_or (.tmp rfl) (.tmp rfl)) ?_
  refine JL.nil ?_
  refine thenQ.n ?_
  refine J.cond (.tmp rfl) (fun c1 => ?_) (fun c1 => ?_)
  · skip
    simp at c1
    refine J.seq ?_
    refine J.region_lit ?_
    refine JL.q rfl rfl rfl (QW.build (idx := []) pl58 z58 rfl .nil rfl rfl rfl rfl) ?_
    first | refine JL.store_boxF 0 ty58 (.tmp rfl) rfl (.tmp rfl) (by first | rfl | assumption) (rfl) (rfl) rfl ?_ | refine JL.store_box 0 ty58 (.tmp rfl) rfl (.tmp rfl) (by first | rfl | assumption) rfl rfl rfl rfl ?_
    refine JL.q rfl rfl rfl (QW.assign .const) ?_
    refine JL.nil ?_
    refine thenQ.n ?_
    refine J.ret ?_
    refine thenQ.r ?_
    exact ⟨_, selP [.k] _, _, RetEv.two rfl (REv.cell 0 ty58 rfl rfl rfl rfl (.aggL (.cons (.refl _) (.cons (.refl _) (.cons (.nil _ _ _) .nil))))) (REv.tmp rfl (.refl _)), rfl, sel_perm [.k] _, ⟨by rw [if_pos c1, if_pos c1]; rfl, rfl⟩⟩
  · skip
    simp at c1
    refine J.skip ?_
    refine thenQ.n ?_
    refine J.seq ?_
    refine J.region_lit ?_
    refine JL.q rfl rfl rfl (QW.move (.tmp rfl)) ?_
    refine JL.q rfl rfl rfl (QW.build (idx := [0]) pl58 z58 rfl (.cons (.tmp rfl) .nil) rfl rfl rfl rfl) ?_
    first | refine JL.store_boxF 0 ty58 (.tmp rfl) rfl (.tmp rfl) (by first | rfl | assumption) (rfl) (rfl) rfl ?_ | refine JL.store_box 0 ty58 (.tmp rfl) rfl (.tmp rfl) (by first | rfl | assumption) rfl rfl rfl rfl ?_
    refine JL.q rfl rfl rfl (QW.assign .const) ?_
    refine JL.nil ?_
    refine thenQ.n ?_
    refine J.ret ?_
    exact ⟨_, selP [.k] _, _, RetEv.two rfl (REv.cell 0 ty58 rfl rfl rfl rfl (.aggL (.cons (.refl _) (.cons (.refl _) (.cons (.nil _ _ _) .nil))))) (REv.tmp rfl (.refl _)), rfl, sel_perm [.k] _, ⟨by rw [if_neg (by omega), if_neg (by omega)]; rfl, rfl⟩⟩

theorem rqnew_ok (n : Int) : Fn Try.prog 38 [.c (.int .i64 n)] (.tup [if n < 1 ∨ 64 < n then QT.nil.av else (QT.mk n 0 []).av, .c (.int .i64 (if n < 1 ∨ 64 < n then 4 else 0))]) := by
  refine AC.of_J Try.func38 rfl Try.ntmps38 rfl fun w0 A0 => ?_
  refine J.seq ?_
  refine J.region_lit ?_
  refine JL.alloc z61 rfl rfl fun b2 => ?_
  refine JL.q rfl rfl rfl (QW.assign .const) ?_
  refine JL.nil ?_
  refine thenQ.n ?_
  refine J.seq ?_
  refine J.seq ?_
  refine J.region_lit ?_
  refine JL.q rfl rfl rfl (QW.move (.tmp rfl)) ?_
  refine JL.q rfl rfl rfl (QW.lss (.tmp rfl) .const) ?_
  refine JL.q rfl rfl rfl (QW.move (.tmp rfl)) ?_
  refine JL.g rfl rfl rfl rfl rfl (fun hg => (QW.move (.tmp rfl))) ?_
  refine JL.g rfl rfl rfl rfl rfl (fun hg => (QW.gtr (.when rfl hg) .const)) ?_
  refine JL.q rfl rfl rfl (QW.pick_or (.tmp rfl) (.tmp rfl)) ?_
  refine JL.nil ?_
  refine thenQ.n ?_
  refine J.cond (.tmp rfl) (fun c1 => ?_) (fun c1 => ?_)
  · skip
    simp at c1
    refine J.seq ?_
    refine J.region_lit ?_
    refine JL.q rfl rfl rfl (QW.build (idx := []) pl61 z61 rfl .nil rfl rfl rfl rfl) ?_
    first | refine JL.store_boxF 0 ty61 (.tmp rfl) rfl (.tmp rfl) (by first | rfl | assumption) (rfl) (rfl) rfl ?_ | refine JL.store_box 0 ty61 (.tmp rfl) rfl (.tmp rfl) (by first | rfl | assumption) rfl rfl rfl rfl ?_
    refine JL.q rfl rfl rfl (QW.assign .const) ?_
    refine JL.nil ?_
    refine thenQ.n ?_
    refine J.ret ?_
    refine thenQ.r ?_
    exact ⟨_, selP [.k] _, _, RetEv.two rfl (REv.cell 0 ty61 rfl rfl rfl rfl (.aggL (.cons (.refl _) (.cons (.refl _) (.cons (.nil _ _ _) .nil))))) (REv.tmp rfl (.refl _)), rfl, sel_perm [.k] _, ⟨by rw [if_pos c1, if_pos c1]; rfl, rfl⟩⟩
  · skip
    simp at c1
    refine J.skip ?_
    refine thenQ.n ?_
    refine J.seq ?_
    refine J.region_lit ?_
    refine JL.q rfl rfl rfl (QW.move (.tmp rfl)) ?_
    refine JL.q rfl rfl rfl (QW.build (idx := [0]) pl61 z61 rfl (.cons (.tmp rfl) .nil) rfl rfl rfl rfl) ?_
    first | refine JL.store_boxF 0 ty61 (.tmp rfl) rfl (.tmp rfl) (by first | rfl | assumption) (rfl) (rfl) rfl ?_ | refine JL.store_box 0 ty61 (.tmp rfl) rfl (.tmp rfl) (by first | rfl | assumption) rfl rfl rfl rfl ?_
    refine JL.q rfl rfl rfl (QW.assign .const) ?_
    refine JL.nil ?_
    refine thenQ.n ?_
    refine J.ret ?_
    exact ⟨_, selP [.k] _, _, RetEv.two rfl (REv.cell 0 ty61 rfl rfl rfl rfl (.aggL (.cons (.refl _) (.cons (.refl _) (.cons (.nil _ _ _) .nil))))) (REv.tmp rfl (.refl _)), rfl, sel_perm [.k] _, ⟨by rw [if_neg (by omega), if_neg (by omega)]; rfl, rfl⟩⟩

def pushAV (q : QT) (e : EvT) : AV := .tup [(q.push e).1.av, .c (.int .i64 (q.push e).2.1), .c (.int .i64 (q.push e).2.2)]
def takeAV (q : QT) (n : Int) : AV := .tup [(q.take n).1.av, evsAV (q.take n).2.1, .c (.int .i64 (q.take n).2.2.1), .c (.int .i64 (q.take n).2.2.2)]
theorem pushAV_of {q q' : QT} {e : EvT} {n f : Int} (h : q.push e = (q', n, f)) : pushAV q e = .tup [q'.av, .c (.int .i64 n), .c (.int .i64 f)] := by simp [pushAV, h]
theorem takeAV_of {q q' : QT} {n m f : Int} {l : List EvT} (h : q.take n = (q', l, m, f)) : takeAV q n = .tup [q'.av, evsAV l, .c (.int .i64 m), .c (.int .i64 f)] := by simp [takeAV, h]
theorem QT.err_ok {q : QT} : q.err = 0 ↔ q.ok = true := by unfold QT.err; cases q.ok <;> simp
theorem QT.err_no {q : QT} (h : ¬ q.err = 0) : q.ok = false ∧ q.err = 9 := by unfold QT.err at *; cases hq : q.ok <;> simp_all
theorem QT.ok_inv {q : QT} (h : q.ok = true) : 1 ≤ q.limit ∧ q.limit ≤ 64 ∧ (q.events.length : Int) ≤ q.limit ∧ (q.events.length : Int) ≤ q.last ∧ q.last ≤ 1099511627776 ∧ q.events.all evOk = true := by
  unfold QT.ok at h; simp only [Bool.and_eq_true, decide_eq_true_eq] at h
  obtain ⟨⟨⟨⟨⟨h1, h2⟩, h3⟩, h4⟩, h5⟩, h6⟩ := h
  exact ⟨h1, h2, h3, h4, h5, h6⟩
theorem EvT.wfs.snoc {l : List EvT} {e : EvT} (h : EvT.wfs l) (he : e.wf) (hl : l.length ≤ 64) : EvT.wfs (l ++ [e]) := ⟨by simp; unfold reach; omega, fun x hx => by
  rcases List.mem_append.1 hx with hx | hx
  · exact h.2 x hx
  · simp only [List.mem_singleton] at hx; subst hx; exact he⟩
theorem css_one (fr : Bool) (e : EvT) : EvT.css fr [e] = [e.cs fr] := rfl

end Go.Proofs.Ytkiankpmkglhcaa.J
